/- The last step of a law's row, where nothing that was there has changed: every argument reads as it did. -/
import Derived.Test.YtkafpameheohdaaPost
import Derived.Test.YtkafpameheohdaaTl0
import Derived.Test.YtkafpameheohdaaRows
import Derived.WalkKit
import Derived.ProofKit
import Derived.OpenShut
import Derived.Carry
import Derived.Deep.Strs
set_option linter.unusedSimpArgs false
set_option linter.unusedVariables false
namespace Go.Vk
open Go Go.RowKit Go.WideShapes Go.ChangeShapes
variable {H : Type} {enc : TypeId × Value → H} {P : Program}
theorem stays_all (hl : laidOutB P = true) {W W' : World} (hx : Ext W W') {sp : Nat → Bool} : ∀ {ts : List TypeId} {vs : List Value} {ds : List (DataW H)} {ps : List MemPlace},
    DataW.TrodAll enc P W 0 (fun _ => true) true ts vs ds ps → (ts.all fun t => P.readableRec t && decide (t < P.types.size)) = true → (∀ p ∈ ps, p.block < W.heap.size) → (∀ p ∈ ps, sp p.block = true) →
    DataW.TrodAll enc P W' 0 sp true ts vs ds ps
  | [], vs, ds, ps, h, _, _, _ => by
    obtain ⟨rfl, rfl, rfl⟩ := trodAll_nil h
    exact trodAll_mk0
  | t :: ts, vs, ds, ps, h, ht, hlt, hs => by
    obtain ⟨v, vs', d, ds', p, q, rfl, rfl, rfl, h0, hr⟩ := trodAll_cons h
    simp only [List.all_cons, Bool.and_eq_true, decide_eq_true_eq] at ht
    exact trodAll_cons_mk (WideElems.Trod_stays hl ht.1.1 ht.1.2 h0 (fun x hx' => hx.below.same (hlt x (by simp [hx']))) (fun x hx' => hs x (by simp [hx'])))
      (stays_all hl hx hr (by simpa using ht.2) (fun x hx' => hlt x (by simp [hx'])) (fun x hx' => hs x (by simp [hx'])))
theorem law_post {f : Func} {s : ChangeSpec} {fresh handsOn again : Bool} {W W' : World} {args : Array Value} {ds gs : List (DataW H)} {before : List MemPlace} {tb : TypeId}
    (hl : laidOutB P = true) (hts : (f.params.toList.all fun t => P.readableRec t && decide (t < P.types.size)) = true) (hb : P.underlying tb = some .bool) (hres : f.resultTypes = #[tb])
    (hvars : s.vars = []) (hfn : s.fn H (ds ++ gs) = { results := [.lit (.bool true)], args := ds })
    (hW : DataW.Whole enc P f.params.toList s.vars false W args.toList ds gs before) (hx : Ext W W') :
    s.post enc P f false fresh handsOn again W args (.bool true) W' := by
  have hlt : ∀ p ∈ before, p.block < W.heap.size := fun p hp => hW.lt p hp
  have hW' := hW
  obtain ⟨p, q, hA, hV, rfl, hfz, hnd⟩ := hW
  rw [hvars] at hV
  obtain ⟨rfl, rfl⟩ := trodVars_none hV
  rw [List.append_nil] at *
  refine post_ext (pa := p) (pv := []) hW' (fun b sp hd => ?_) (fun sp hs => ?_) (fun sp hs => ?_) (by simp) hx (fun j t r hj hv => ?_)
  · rw [hres, List.append_nil, hfn]
    exact trodAll_cons_mk (shut_bool hb _) trodAll_mk0
  · rw [List.append_nil, hfn]
    exact stays_all hl hx hA hts hlt hs
  · rw [List.append_nil, hfn, hvars]; rfl
  · rw [hres] at hj hv
    match j, hj, hv with
    | 0, hj, hv =>
      simp [Value.resultList] at hj hv
      subst hj; subst hv
      exact okWide_bool_mk hb _
/-- a slice that was handed in: what it reads -/
theorem rd_of {W : World} {a : Addr} {n c : Nat} {l : List Value} {es : Nat} (hn : n ≤ c) (hl : l.length = n * es) (hc : ∀ i, i < l.length → W.cell? (a.add i) = l[i]?) : RdAt W es (.slice (some a) n c) l := by
  refine ⟨some a, n, c, rfl, hn, hl, fun i u hu => ?_⟩
  have hi := (List.getElem?_eq_some_iff.1 hu).1
  have h0 := hc 0 (by omega)
  have hs : a.spot = none := by
    rw [List.getElem?_eq_getElem (by omega)] at h0
    simp only [Addr.add, if_pos] at h0
    cases hsp : a.spot with
    | none => rfl
    | some x =>
      exfalso
      unfold World.cell? at h0
      rw [hsp] at h0
      cases hb : W.heap[a.block]? with
      | none => rw [hb] at h0; cases h0
      | some o => rw [hb] at h0; cases o <;> simp at h0
  obtain ⟨b, o, s⟩ := a
  simp only at hs
  subst hs
  refine ⟨b, o, rfl, ?_⟩
  rw [← hu, ← hc i hi, add_mk]
theorem rd_strs {W : World} {base : Nat} {sp : Nat → Bool} {hd : Bool} {t e : TypeId} {v : Value} {d : DataW H} {ps : List MemPlace} {r : Reach} {b0 : Nat} (ht : P.underlying t = some (.slice e)) (he : P.underlying e = some .string) (hc : P.cellsOf e = 1)
    (hv : Value.okWide P W r b0 t v) (h : DataW.Trod enc P W base sp hd t v d ps) : ∃ xs : List ByteArray, RdAt W 1 v (xs.map Value.string) := by
  obtain ⟨fuel, h⟩ := h
  obtain ⟨a0, n0, c0, rfl⟩ := okWide_slice ht hv
  rcases Deep.open_strs ht he hc h with ⟨h1, _⟩ | ⟨a, len, cap, m, Sx, h1, h2, h3, h4, h5, h6, h7⟩
  · cases h1
    exact ⟨[], none, 0, 0, rfl, Nat.le_refl _, rfl, fun i u hu => by simp at hu⟩
  · cases h1
    have hlm : n0 ≤ m := by rw [h5]; split <;> omega
    refine ⟨(List.range n0).map Sx, rd_of h3 (by simp) fun i hi => ?_⟩
    simp only [List.length_map, List.length_range] at hi
    rw [(h7 i (by omega)).1]
    simp [hi]
end Go.Vk
