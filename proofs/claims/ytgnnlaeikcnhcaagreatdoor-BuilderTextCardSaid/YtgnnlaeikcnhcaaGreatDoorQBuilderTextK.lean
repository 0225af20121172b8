/- What the proof leans on, part 11 of 11. -/
import Derived.Test.YtgnnlaeikcnhcaaGreatDoorQBuilderTextJ
section
set_option linter.unusedSimpArgs false
set_option linter.unusedVariables false
namespace Go.Vk
open Go
theorem byN_at {H : Type} (s : ByteArray) (zd : DataW H) : (DataW.map (byL.map fun x => ((Lit.string x.1.data.toList : Lit), (DataW.lit (.int .i64 x.2) : DataW H)))).atKey (.string s.data.toList) zd = (match byN s with | some n => .lit (.int .i64 n) | none => zd) := by
  unfold DataW.atKey byN
  simp only [List.find?_map, Function.comp_def, Lit.sameKey]
  have e : (fun x : ByteArray × Int => x.1.data.toList == s.data.toList) = fun x => decide (x.1 = s) := by
    funext x
    by_cases h : x.1 = s
    · simp [h]
    · have : x.1.data.toList ≠ s.data.toList := fun h2 => h (ByteArray.ext (Array.toList_inj.1 h2))
      simp only [h, decide_false, beq_eq_false_iff_ne, ne_eq]
      exact this
  rw [e]
  cases byL.find? fun x => decide (x.1 = s) <;> rfl
end Go.Vk
namespace Go.Proofs.YtgnnlaeikcnhcaaGreatDoor
open Go Go.Vk Go.WideElems Go.ChangeMaps
open Go.WideMaps (string_law keyOf_string_mk)
theorem gBy : Tryz.prog.globalNamed "lazaret/builder.by" = some 2 := by kernel_rfl
theorem gByT : (Tryz.prog.globals[2]?).map (·.type) = some 170 := by kernel_rfl
theorem by_laid {H : Type} : (Rows.laid_lazaret_builder_by : DataW H) = .map (byL.map fun x => ((Lit.string x.1.data.toList : Lit), (DataW.lit (.int .i64 x.2) : DataW H))) := rfl
theorem keysS : Go.WideMaps.KeyLaw Tryz.prog 9 := string_law Tryz.underlying9
theorem gb_of_var {W : World} {cs : Array Value} {sp : Nat → Bool} {held : Bool} {fuel : Nat} {x : List MemPlace} {enc : TypeId × Value → Unit}
    (hvar : W.var? Tryz.prog "lazaret/builder.by" = some cs) (hd : DataW.trod enc Tryz.prog W 0 sp held fuel 170 cs.toList = some (Rows.laid_lazaret_builder_by, x)) : GB W := by
  rcases WideElems.open_map Tryz.underlying170 hd with ⟨_, hx⟩ | ⟨bm, es, clock, m, rfl, hcs, hb, _, F, hx⟩
  · simp [by_laid] at hx
  simp only [Prod.mk.injEq] at hx
  have hcell : W.cell? ⟨2, 0, none⟩ = some (.map (some bm)) := by
    have := World.var?_cell gBy hvar 0
    rw [Array.eq_one_of_toList hcs] at this
    simpa using this
  refine ⟨bm, hcell, fun w' hx' s hs => ?_⟩
  have hb' : w'.heap[bm]? = some (.map es clock) := by
    have hlt : bm < W.heap.size := (Array.getElem?_eq_some_iff.1 hb).1
    rw [← hb]
    exact hx'.blk hb ▸ hb.symm
  have zero : (zeroValue 3).run Tryz.prog w' = .ok (.int .i64 0) w' := by kernel_rfl
  have hk := keyOf_string_mk (s := s) (P := Tryz.prog) Tryz.underlying9 (by unfold maxLen; omega)
  rcases fit_lookup_ok (w := w') keysS Tryz.underlying170 zero hb' F hk with ⟨hrun, hat⟩ | ⟨v, y, hrun, hRv, hat, _⟩
  · have := hat .nil
    rw [← hx.1, by_laid, byN_at] at this
    cases hn : byN s with
    | none => exact hrun
    | some n => rw [hn] at this; cases this
  · obtain ⟨r, rfl, rfl, _⟩ := elemAt_int Tryz.underlying3 hRv
    have := hat .nil
    rw [← hx.1, by_laid, byN_at] at this
    cases hn : byN s with
    | none => rw [hn] at this; cases this
    | some n =>
      rw [hn] at this
      cases this
      exact hrun
/-- the rows of the builder that lay the error's type and the map -/
theorem gb_of {W : World} (h : laidMetH Tryz.prog [("errors.errorType", Rows.laid_errors_errorType), ("lazaret/builder.by", Rows.laid_lazaret_builder_by)] W) : GB W := by
  have h' : laidMet Tryz.prog [("lazaret/builder.by", Rows.laid_lazaret_builder_by)] W ∧ _ := h
  obtain ⟨⟨ps, ⟨g', t', cs, fuel, p, q, hg', ht', hvar, hd, _, _⟩, _⟩, _⟩ := h'
  obtain rfl := Option.some.inj (gBy.symm.trans hg')
  obtain rfl := Option.some.inj (gByT.symm.trans ht')
  exact gb_of_var hvar hd
end Go.Proofs.YtgnnlaeikcnhcaaGreatDoor
end
section
set_option linter.unusedSimpArgs false
set_option linter.unusedVariables false
namespace Go.Proofs.YtgnnlaeikcnhcaaGreatDoor
open Go Go.Vk Go.RowKit Go.Extern.Stop Go.Stop Go.Extern
def hv (t : Nat) : Value := .pointer (some ⟨5, t, none⟩)
end Go.Proofs.YtgnnlaeikcnhcaaGreatDoor
end
section
set_option linter.unusedSimpArgs false
set_option linter.unusedVariables false
namespace Go.Proofs.YtgnnlaeikcnhcaaGreatDoor
open Go Go.Vk Go.RowKit
/-- the error's type, as it lies -/
def ET (w : World) : Prop := w.cell? ⟨1, 0, none⟩ = some (.iface 192 (.agg #[.pointer (some ⟨5, 65, none⟩)]))
theorem ET.ext {w w' : World} (h : ET w) (hx : Ext w w') : ET w' := cell_ext hx h
set_option maxHeartbeats 40000000
end Go.Proofs.YtgnnlaeikcnhcaaGreatDoor
end
section
set_option linter.unusedSimpArgs false
set_option linter.unusedVariables false
namespace Go.Vk
open Go Go.RowKit Go.WideShapes Go.ChangeShapes
variable {H : Type} {enc : TypeId × Value → H} {P : Program}
theorem Ext.below {w w' : World} (h : Ext w w') : Below w.heap.size w w' := ⟨h.alike.os, h.alike.tape, h.alike.output, h.alike.size, fun _ hk => h.heap hk⟩
theorem post_ext {f : Func} {s : ChangeSpec} {apart fresh handsOn again : Bool} {W W' : World} {args : Array Value} {v : Value} {ds gs : List (DataW H)} {before pa pv : List MemPlace}
    (hW : DataW.Whole enc P f.params.toList s.vars apart W args.toList ds gs before)
    (hres : ∀ (b : Nat) (sp : Nat → Bool) (hd : Bool), DataW.TrodAll enc P W' b sp hd f.resultTypes.toList (v.resultList f.resultTypes.size) (s.fn H (ds ++ gs)).results [])
    (hargs : ∀ sp : Nat → Bool, (∀ p ∈ before, sp p.block = true) → DataW.TrodAll enc P W' 0 sp true f.params.toList args.toList (s.fn H (ds ++ gs)).args pa)
    (hvars : ∀ sp : Nat → Bool, (∀ p ∈ before, sp p.block = true) → DataW.TrodVars enc P W' sp s.vars (s.fn H (ds ++ gs)).vars pv)
    (hps : before = pa ++ pv) (hx : Ext W W')
    (hok : ∀ (j : Nat) (t : TypeId) (r : Value), f.resultTypes[j]? = some t → (v.resultList f.resultTypes.size)[j]? = some r → Value.okWide P W' .any 0 t r) :
    s.post enc P f apart fresh handsOn again W args v W' := by
  subst hps
  have hb := hx.below
  have lt : ∀ p ∈ pa ++ pv, p.block < W.heap.size := fun p hp => hW.lt p hp
  have old : ∀ p ∈ pa ++ pv, (fun b => decide (b < W.heap.size)) p.block = true := fun p hp => by simpa using lt p hp
  refine ⟨ds, gs, pa ++ pv, [], pa, pv, hW, hres _ _ _, hargs _ old, hvars _ old, World.keptBut_mono (fun p hp => ⟨hp, .inr (List.mem_append.1 hp)⟩) (hb.frame (· ∈ pa ++ pv)), fun _ => ?_⟩
  obtain ⟨_, _, _, _, _, hz, hn⟩ := hW
  refine ⟨hok, _, _, ([] ++ pa) ++ pv, ⟨[] ++ pa, pv, trodAll_append (hargs _ fun _ _ => rfl) (hres _ _ _), hvars _ fun _ _ => rfl, rfl, fun b off hp => ?_, fun ha => by simpa using hn ha⟩, fun p hp _ => by simpa using hp⟩
  have hin : MemPlace.cell b off ∈ pa ++ pv := by simpa using hp
  rw [hb.frozen (lt _ hin)]
  exact hz b off hin
end Go.Vk
end
section
set_option linter.unusedSimpArgs false
set_option linter.unusedVariables false
namespace Go.Vk
open Go Go.RowKit Go.WideShapes Go.ChangeShapes
variable {H : Type} {enc : TypeId × Value → H} {P : Program}
theorem stays_all (hl : laidOutB P = true) {W W' : World} (hx : Ext W W') {sp : Nat → Bool} : ∀ {ts : List TypeId} {vs : List Value} {ds : List (DataW H)} {ps : List MemPlace},
    DataW.TrodAll enc P W 0 (fun _ => true) true ts vs ds ps → (ts.all fun t => P.readableRec t && decide (t < P.types.size)) = true → (∀ p ∈ ps, p.block < W.heap.size) → (∀ p ∈ ps, sp p.block = true) →
    DataW.TrodAll enc P W' 0 sp true ts vs ds ps
  | [], vs, ds, ps, h, _, _, _ => by
    obtain ⟨rfl, rfl, rfl⟩ := trodAll_nil h
    exact trodAll_mk0
  | t :: ts, vs, ds, ps, h, ht, hlt, hs => by
    obtain ⟨v, vs', d, ds', p, q, rfl, rfl, rfl, h0, hr⟩ := trodAll_cons h
    simp only [List.all_cons, Bool.and_eq_true, decide_eq_true_eq] at ht
    exact trodAll_cons_mk (WideElems.Trod_stays hl ht.1.1 ht.1.2 h0 (fun x hx' => hx.below.same (hlt x (by simp [hx']))) (fun x hx' => hs x (by simp [hx'])))
      (stays_all hl hx hr (by simpa using ht.2) (fun x hx' => hlt x (by simp [hx'])) (fun x hx' => hs x (by simp [hx'])))
theorem law_post {f : Func} {s : ChangeSpec} {fresh handsOn again : Bool} {W W' : World} {args : Array Value} {ds gs : List (DataW H)} {before : List MemPlace} {tb : TypeId}
    (hl : laidOutB P = true) (hts : (f.params.toList.all fun t => P.readableRec t && decide (t < P.types.size)) = true) (hb : P.underlying tb = some .bool) (hres : f.resultTypes = #[tb])
    (hvars : s.vars = []) (hfn : s.fn H (ds ++ gs) = { results := [.lit (.bool true)], args := ds })
    (hW : DataW.Whole enc P f.params.toList s.vars false W args.toList ds gs before) (hx : Ext W W') :
    s.post enc P f false fresh handsOn again W args (.bool true) W' := by
  have hlt : ∀ p ∈ before, p.block < W.heap.size := fun p hp => hW.lt p hp
  have hW' := hW
  obtain ⟨p, q, hA, hV, rfl, hfz, hnd⟩ := hW
  rw [hvars] at hV
  obtain ⟨rfl, rfl⟩ := trodVars_none hV
  rw [List.append_nil] at *
  refine post_ext (pa := p) (pv := []) hW' (fun b sp hd => ?_) (fun sp hs => ?_) (fun sp hs => ?_) (by simp) hx (fun j t r hj hv => ?_)
  · rw [hres, List.append_nil, hfn]
    exact trodAll_cons_mk (shut_bool hb _) trodAll_mk0
  · rw [List.append_nil, hfn]
    exact stays_all hl hx hA hts hlt hs
  · rw [List.append_nil, hfn, hvars]; rfl
  · rw [hres] at hj hv
    match j, hj, hv with
    | 0, hj, hv =>
      simp [Value.resultList] at hj hv
      subst hj; subst hv
      exact okWide_bool_mk hb _
/-- a slice that was handed in: what it reads -/
theorem rd_of {W : World} {a : Addr} {n c : Nat} {l : List Value} {es : Nat} (hn : n ≤ c) (hl : l.length = n * es) (hc : ∀ i, i < l.length → W.cell? (a.add i) = l[i]?) : RdAt W es (.slice (some a) n c) l := by
  refine ⟨some a, n, c, rfl, hn, hl, fun i u hu => ?_⟩
  have hi := (List.getElem?_eq_some_iff.1 hu).1
  have h0 := hc 0 (by omega)
  have hs : a.spot = none := by
    rw [List.getElem?_eq_getElem (by omega)] at h0
    simp only [Addr.add, if_pos] at h0
    cases hsp : a.spot with
    | none => rfl
    | some x =>
      exfalso
      unfold World.cell? at h0
      rw [hsp] at h0
      cases hb : W.heap[a.block]? with
      | none => rw [hb] at h0; cases h0
      | some o => rw [hb] at h0; cases o <;> simp at h0
  obtain ⟨b, o, s⟩ := a
  simp only at hs
  subst hs
  refine ⟨b, o, rfl, ?_⟩
  rw [← hu, ← hc i hi, add_mk]
theorem rd_strs {W : World} {base : Nat} {sp : Nat → Bool} {hd : Bool} {t e : TypeId} {v : Value} {d : DataW H} {ps : List MemPlace} {r : Reach} {b0 : Nat} (ht : P.underlying t = some (.slice e)) (he : P.underlying e = some .string) (hc : P.cellsOf e = 1)
    (hv : Value.okWide P W r b0 t v) (h : DataW.Trod enc P W base sp hd t v d ps) : ∃ xs : List ByteArray, RdAt W 1 v (xs.map Value.string) := by
  obtain ⟨fuel, h⟩ := h
  obtain ⟨a0, n0, c0, rfl⟩ := okWide_slice ht hv
  rcases Deep.open_strs ht he hc h with ⟨h1, _⟩ | ⟨a, len, cap, m, Sx, h1, h2, h3, h4, h5, h6, h7⟩
  · cases h1
    exact ⟨[], none, 0, 0, rfl, Nat.le_refl _, rfl, fun i u hu => by simp at hu⟩
  · cases h1
    have hlm : n0 ≤ m := by rw [h5]; split <;> omega
    refine ⟨(List.range n0).map Sx, rd_of h3 (by simp) fun i hi => ?_⟩
    simp only [List.length_map, List.length_range] at hi
    rw [(h7 i (by omega)).1]
    simp [hi]
end Go.Vk
end
section
set_option linter.unusedSimpArgs false
set_option linter.unusedVariables false
namespace Go.Vk
open Go Go.RowKit Go.WideShapes Go.ChangeShapes
structure AcF where
  kd : Int
  i : Int
  j : Int
def AcF.cells (x : AcF) : List Value := [.int .u8 x.kd, .int .i64 x.i, .int .i64 x.j]
end Go.Vk
namespace Go.Proofs.YtgnnlaeikcnhcaaGreatDoor
open Go Go.Vk Go.RowKit Go.WideShapes Go.ChangeShapes
theorem h3cells : Tryz.prog.cellsOf 3 = 1 := by kernel_rfl
end Go.Proofs.YtgnnlaeikcnhcaaGreatDoor
end
section
set_option linter.unusedSimpArgs false
set_option linter.unusedVariables false
namespace Go.Proofs.YtgnnlaeikcnhcaaGreatDoor
open Go Go.Vk Go.WideShapes
theorem i4cells : Tryz.prog.cellsOf 53 = 4 := by kernel_rfl
theorem okWide_arr {P : Program} {w : World} {r : Reach} {base : Nat} {t e : TypeId} {v : Value} {n : Nat} (ht : P.underlying t = some (.array n e)) (h : Value.okWide P w r base t v) : ∃ cs, v = .agg cs ∧ cs.size = P.cellsOf t := by
  simp only [Value.okWide, ht] at h
  obtain ⟨cs, h1, h2, _⟩ := h
  exact ⟨cs, h1, h2⟩
set_option maxRecDepth 100000 in
theorem rd_i4 {H : Type} {enc : TypeId × Value → H} {W : World} {base : Nat} {sp : Nat → Bool} {hd : Bool} {v : Value} {d : DataW H} {ps : List MemPlace} {r : Reach} {b0 : Nat}
    (hv : Value.okWide Tryz.prog W r b0 53 v) (h : DataW.Trod enc Tryz.prog W base sp hd 53 v d ps) : ∃ n0 n1 n2 n3 : Int, v = .agg #[.int .i64 n0, .int .i64 n1, .int .i64 n2, .int .i64 n3] := by
  obtain ⟨cs, rfl, hs⟩ := okWide_arr Tryz.underlying53 hv
  obtain ⟨fuel, h⟩ := h
  obtain ⟨c⟩ := cs
  obtain ⟨xs, m, _, _, hl, hxl, hf⟩ := DataW.trod_array Tryz.underlying53 h
  have hl : c.length = Tryz.prog.cellsOf 53 := hl
  rw [i4cells] at hl
  match c, hl with
  | [c0, c1, c2, c3], _ =>
    have hx : ∀ i, i < 4 → ∃ y, xs[i]? = some y := fun i hi => ⟨_, List.getElem?_eq_getElem (show i < xs.length by rw [hxl]; exact hi)⟩
    have one : ∀ (i : Nat) (c : Value), i < 4 → [c0, c1, c2, c3][i]? = some c → ∃ n : Int, c = .int .i64 n := fun i c hi hc => by
      obtain ⟨y, hy⟩ := hx i hi
      have g := hf i hi
      rw [hy, h3cells, Nat.mul_one] at g
      have e : (([c0, c1, c2, c3] : List Value).drop i).take 1 = [c] := by
        match i, hi, hc with
        | 0, _, hc => simp at hc; subst hc; rfl
        | 1, _, hc => simp at hc; subst hc; rfl
        | 2, _, hc => simp at hc; subst hc; rfl
        | 3, _, hc => simp at hc; subst hc; rfl
      have g' : DataW.trod enc Tryz.prog W base sp hd m 3 [c] = some y := by rw [← e]; exact g
      obtain ⟨k, e2, _⟩ := DataW.trod_int Tryz.underlying3 g'
      exact ⟨k, by simpa using e2⟩
    obtain ⟨n0, rfl⟩ := one 0 _ (by decide) rfl
    obtain ⟨n1, rfl⟩ := one 1 _ (by decide) rfl
    obtain ⟨n2, rfl⟩ := one 2 _ (by decide) rfl
    obtain ⟨n3, rfl⟩ := one 3 _ (by decide) rfl
    exact ⟨n0, n1, n2, n3, rfl⟩
end Go.Proofs.YtgnnlaeikcnhcaaGreatDoor
end
