/- What the proof leans on, part 11 of 11. -/
import Derived.Test.YtkafpameheohdaaDoorQStackPlayJ
section
set_option linter.unusedSimpArgs false
set_option linter.unusedVariables false
namespace Go.Vk
open Go Go.RowKit Go.WideShapes Go.ChangeShapes
variable {H : Type} {enc : TypeId × Value → H} {P : Program}
theorem stays_all (hl : laidOutB P = true) {W W' : World} (hx : Ext W W') {sp : Nat → Bool} : ∀ {ts : List TypeId} {vs : List Value} {ds : List (DataW H)} {ps : List MemPlace},
    DataW.TrodAll enc P W 0 (fun _ => true) true ts vs ds ps → (ts.all fun t => P.readableRec t && decide (t < P.types.size)) = true → (∀ p ∈ ps, p.block < W.heap.size) → (∀ p ∈ ps, sp p.block = true) →
    DataW.TrodAll enc P W' 0 sp true ts vs ds ps
  | [], vs, ds, ps, h, _, _, _ => by
    obtain ⟨rfl, rfl, rfl⟩ := trodAll_nil h
    exact trodAll_mk0
  | t :: ts, vs, ds, ps, h, ht, hlt, hs => by
    obtain ⟨v, vs', d, ds', p, q, rfl, rfl, rfl, h0, hr⟩ := trodAll_cons h
    simp only [List.all_cons, Bool.and_eq_true, decide_eq_true_eq] at ht
    exact trodAll_cons_mk (WideElems.Trod_stays hl ht.1.1 ht.1.2 h0 (fun x hx' => hx.below.same (hlt x (by simp [hx']))) (fun x hx' => hs x (by simp [hx'])))
      (stays_all hl hx hr (by simpa using ht.2) (fun x hx' => hlt x (by simp [hx'])) (fun x hx' => hs x (by simp [hx'])))
theorem law_post {f : Func} {s : ChangeSpec} {fresh handsOn again : Bool} {W W' : World} {args : Array Value} {ds gs : List (DataW H)} {before : List MemPlace} {tb : TypeId}
    (hl : laidOutB P = true) (hts : (f.params.toList.all fun t => P.readableRec t && decide (t < P.types.size)) = true) (hb : P.underlying tb = some .bool) (hres : f.resultTypes = #[tb])
    (hvars : s.vars = []) (hfn : s.fn H (ds ++ gs) = { results := [.lit (.bool true)], args := ds })
    (hW : DataW.Whole enc P f.params.toList s.vars false W args.toList ds gs before) (hx : Ext W W') :
    s.post enc P f false fresh handsOn again W args (.bool true) W' := by
  have hlt : ∀ p ∈ before, p.block < W.heap.size := fun p hp => hW.lt p hp
  have hW' := hW
  obtain ⟨p, q, hA, hV, rfl, hfz, hnd⟩ := hW
  rw [hvars] at hV
  obtain ⟨rfl, rfl⟩ := trodVars_none hV
  rw [List.append_nil] at *
  refine post_ext (pa := p) (pv := []) hW' (fun b sp hd => ?_) (fun sp hs => ?_) (fun sp hs => ?_) (by simp) hx (fun j t r hj hv => ?_)
  · rw [hres, List.append_nil, hfn]
    exact trodAll_cons_mk (shut_bool hb _) trodAll_mk0
  · rw [List.append_nil, hfn]
    exact stays_all hl hx hA hts hlt hs
  · rw [List.append_nil, hfn, hvars]; rfl
  · rw [hres] at hj hv
    match j, hj, hv with
    | 0, hj, hv =>
      simp [Value.resultList] at hj hv
      subst hj; subst hv
      exact okWide_bool_mk hb _
/-- a slice that was handed in: what it reads -/
theorem rd_of {W : World} {a : Addr} {n c : Nat} {l : List Value} {es : Nat} (hn : n ≤ c) (hl : l.length = n * es) (hc : ∀ i, i < l.length → W.cell? (a.add i) = l[i]?) : RdAt W es (.slice (some a) n c) l := by
  refine ⟨some a, n, c, rfl, hn, hl, fun i u hu => ?_⟩
  have hi := (List.getElem?_eq_some_iff.1 hu).1
  have h0 := hc 0 (by omega)
  have hs : a.spot = none := by
    rw [List.getElem?_eq_getElem (by omega)] at h0
    simp only [Addr.add, if_pos] at h0
    cases hsp : a.spot with
    | none => rfl
    | some x =>
      exfalso
      unfold World.cell? at h0
      rw [hsp] at h0
      cases hb : W.heap[a.block]? with
      | none => rw [hb] at h0; cases h0
      | some o => rw [hb] at h0; cases o <;> simp at h0
  obtain ⟨b, o, s⟩ := a
  simp only at hs
  subst hs
  refine ⟨b, o, rfl, ?_⟩
  rw [← hu, ← hc i hi, add_mk]
end Go.Vk
end
section
set_option linter.unusedSimpArgs false
set_option linter.unusedVariables false
namespace Go.Vk
open Go Go.RowKit Go.WideShapes Go.ChangeShapes
theorem wf_u8h {n : Int} (h : (Lit.int .u8 n).wf = true) : 0 ≤ n ∧ n ≤ 255 := by
  simp only [Lit.wf, Bool.and_eq_true, decide_eq_true_eq] at h
  have e1 : IntKind.u8.min = 0 := rfl
  have e2 : IntKind.u8.max = 255 := by decide
  rw [e1, e2] at h; omega
theorem spot_none' {w : World} {a : Addr} {v : Value} (h : w.cell? a = some v) : ∃ b o, a = ⟨b, o, none⟩ := by
  obtain ⟨b, o, s⟩ := a
  cases s with
  | none => exact ⟨b, o, rfl⟩
  | some x =>
    exfalso
    unfold World.cell? at h
    simp only at h
    cases hb : w.heap[b]? with
    | none => rw [hb] at h; cases h
    | some o => rw [hb] at h; cases o <;> simp at h
structure AcF where
  kd : Int
  i : Int
  j : Int
def AcF.cells (x : AcF) : List Value := [.int .u8 x.kd, .int .i64 x.i, .int .i64 x.j]
end Go.Vk
namespace Go.Proofs.YtkafpameheohdaaDoor
open Go Go.Vk Go.RowKit Go.WideShapes Go.ChangeShapes
theorem h3cells : Tryd.prog.cellsOf 3 = 1 := by kernel_rfl
theorem h5cells : Tryd.prog.cellsOf 5 = 1 := by kernel_rfl
end Go.Proofs.YtkafpameheohdaaDoor
end
section
set_option linter.unusedSimpArgs false
set_option linter.unusedVariables false
namespace Go.Vk
open Go Go.RowKit Go.WideShapes Go.ChangeShapes
theorem arr_ints {H : Type} {enc : TypeId × Value → H} {P : Program} {w : World} {base : Nat} {sp : Nat → Bool} {held : Bool} {fuel : Nat} {t e : TypeId} {n : Nat} {k : IntKind} {cs : List Value} {x : DataW H × List MemPlace}
    (ht : P.underlying t = some (.array n e)) (he : P.underlying e = some (.int k)) (hce : P.cellsOf e = 1) (hct : P.cellsOf t = n)
    (h : DataW.trod enc P w base sp held fuel t cs = some x) : ∀ i, i < n → ∃ z : Int, cs[i]? = some (.int k z) ∧ (Lit.int k z).wf = true := by
  cases fuel with
  | zero => simp [DataW.trod] at h
  | succ fuel =>
    simp only [DataW.trod, ht, hce, hct, Nat.mul_one] at h
    split at h
    · rename_i hl
      obtain ⟨xs, hm, hx⟩ := Option.map_eq_some_iff.1 h
      intro i hi
      obtain ⟨b, hb, hf⟩ := Lib.mapM_at hm i i (by simp [hi])
      obtain ⟨z, hc, rfl, hw⟩ := DataW.trod_int he hf
      refine ⟨z, ?_, hw⟩
      have := congrArg (·[0]?) hc
      simpa [List.getElem?_take, List.getElem?_drop] using this
    · cases h
theorem list5 {cs : List Value} (h : cs.length = 5) : ∃ c0 c1 c2 c3 c4, cs = [c0, c1, c2, c3, c4] := by
  match cs, h with
  | [c0, c1, c2, c3, c4], _ => exact ⟨_, _, _, _, _, rfl⟩
end Go.Vk
namespace Go.Proofs.YtkafpameheohdaaDoor
open Go Go.Vk Go.RowKit Go.WideShapes Go.ChangeShapes
theorem cellsAct : Tryd.prog.cellsOf 61 = 5 := by kernel_rfl
theorem cellsBy : Tryd.prog.cellsOf 59 = 2 := by kernel_rfl
section
variable {H : Type} {enc : TypeId × Value → H} {W : World} {base : Nat} {sp : Nat → Bool} {hd : Bool}
theorem acs_of {fuel : Nat} {cs : List Value} {x : DataW H × List MemPlace} (h : DataW.trod enc Tryd.prog W base sp hd fuel 61 cs = some x) :
    ∃ (k : Nat) (i j : Int) (a b : Nat), cs = (actR k i j a b).toList ∧ k < 256 ∧ a < 256 ∧ b < 256 := by
  obtain ⟨xs, n, _, _, hl, hxl, hf⟩ := DataW.trod_struct Tryd.underlying61 h
  rw [cellsAct] at hl
  obtain ⟨c0, c1, c2, c3, c4, rfl⟩ := list5 hl
  have hx : ∀ i, i < 4 → ∃ y, xs[i]? = some y := fun i hi => ⟨_, List.getElem?_eq_getElem (show i < xs.length by rw [hxl]; exact hi)⟩
  obtain ⟨y0, hy0⟩ := hx 0 (by decide)
  have g0 : DataW.trod enc Tryd.prog W base sp hd n 5 (([c0, c1, c2, c3, c4].drop 0).take (Tryd.prog.cellsOf 5)) = xs[0]? := hf 0 _ rfl
  rw [hy0] at g0
  simp only [h5cells, List.drop_succ_cons, List.drop_zero, List.take_succ_cons, List.take_zero] at g0
  obtain ⟨y1, hy1⟩ := hx 1 (by decide)
  have g1 : DataW.trod enc Tryd.prog W base sp hd n 3 (([c0, c1, c2, c3, c4].drop 1).take (Tryd.prog.cellsOf 3)) = xs[1]? := hf 1 _ rfl
  rw [hy1] at g1
  simp only [h3cells, List.drop_succ_cons, List.drop_zero, List.take_succ_cons, List.take_zero] at g1
  obtain ⟨y2, hy2⟩ := hx 2 (by decide)
  have g2 : DataW.trod enc Tryd.prog W base sp hd n 3 (([c0, c1, c2, c3, c4].drop 2).take (Tryd.prog.cellsOf 3)) = xs[2]? := hf 2 _ rfl
  rw [hy2] at g2
  simp only [h3cells, List.drop_succ_cons, List.drop_zero, List.take_succ_cons, List.take_zero] at g2
  obtain ⟨y3, hy3⟩ := hx 3 (by decide)
  have g3 : DataW.trod enc Tryd.prog W base sp hd n 59 (([c0, c1, c2, c3, c4].drop 3).take (Tryd.prog.cellsOf 59)) = xs[3]? := hf 3 _ rfl
  rw [hy3] at g3
  simp only [cellsBy, List.drop_succ_cons, List.drop_zero, List.take_succ_cons, List.take_zero] at g3
  obtain ⟨k0, e0, _, w0⟩ := DataW.trod_int Tryd.underlying5 g0
  simp only [List.cons.injEq, and_true] at e0
  subst e0
  obtain ⟨k1, e1, _, _⟩ := DataW.trod_int Tryd.underlying3 g1
  simp only [List.cons.injEq, and_true] at e1
  subst e1
  obtain ⟨k2, e2, _, _⟩ := DataW.trod_int Tryd.underlying3 g2
  simp only [List.cons.injEq, and_true] at e2
  subst e2
  have ga := arr_ints Tryd.underlying59 Tryd.underlying5 h5cells cellsBy g3
  obtain ⟨z3, e3, w3⟩ := ga 0 (by decide)
  obtain ⟨z4, e4, w4⟩ := ga 1 (by decide)
  simp only [List.getElem?_cons_zero, List.getElem?_cons_succ, Option.some.injEq] at e3 e4
  subst e3; subst e4
  have h0 := wf_u8h w0
  have h3 := wf_u8h w3
  have h4 := wf_u8h w4
  refine ⟨k0.toNat, k1, k2, z3.toNat, z4.toNat, ?_, by omega, by omega, by omega⟩
  unfold actR
  rw [show ((k0.toNat : Nat) : Int) = k0 by omega, show ((z3.toNat : Nat) : Int) = z3 by omega, show ((z4.toNat : Nat) : Int) = z4 by omega]
end
end Go.Proofs.YtkafpameheohdaaDoor
end
section
set_option linter.unusedSimpArgs false
set_option linter.unusedVariables false
namespace Go.Vk
open Go Go.RowKit Go.WideShapes Go.ChangeShapes
theorem rd_u8f {H : Type} {enc : TypeId × Value → H} {P : Program} {W : World} {base : Nat} {sp : Nat → Bool} {hd : Bool} {t e : TypeId} {fuel : Nat} {v : Value} {x : DataW H × List MemPlace} (ht : P.underlying t = some (.slice e)) (he : P.underlying e = some (.int .u8)) (hc : P.cellsOf e = 1)
    (h : DataW.trod enc P W base sp hd fuel t [v] = some x) : ∃ l : List Nat, RdAt W 1 v (u8Cells l) ∧ ∀ c ∈ l, c < 256 := by
  rcases open_ints ht he hc h with ⟨h1, _⟩ | ⟨a, len, cap, zs, h1, h2, h3, h4, h5, h6, h7, h8⟩
  · cases h1
    exact ⟨[], ⟨none, 0, 0, rfl, Nat.le_refl _, rfl, fun i u hu => by simp [u8Cells] at hu⟩, by simp⟩
  · cases h1
    have hlm : len ≤ zs.length := by rw [h5]; split <;> omega
    have hz : ∀ i, i < len → zs.getD i 0 ∈ zs := fun i hi => by
      have hi2 : i < zs.length := by omega
      have : zs.getD i 0 = zs[i] := by simp [List.getD, hi2]
      rw [this]; exact List.getElem_mem hi2
    refine ⟨(List.range len).map fun i => (zs.getD i 0).toNat, rd_of h3 (by simp [u8Cells]) fun i hi => ?_, fun c hc => ?_⟩
    · simp only [u8Cells, List.length_map, List.length_range] at hi
      have hw := wf_u8h (h8 _ (hz i hi))
      rw [h7 i (by omega)]
      have e : ((zs.getD i 0).toNat : Int) = zs.getD i 0 := by omega
      simp only [u8Cells, List.map_map, List.getElem?_map, List.getElem?_range hi, Option.map_some, Function.comp, e]
    · simp only [List.mem_map, List.mem_range] at hc
      obtain ⟨i, hi, rfl⟩ := hc
      have hw := wf_u8h (h8 _ (hz i hi))
      omega
theorem list2 {cs : List Value} (h : cs.length = 2) : ∃ c0 c1, cs = [c0, c1] := by
  match cs, h with
  | [c0, c1], _ => exact ⟨_, _, rfl⟩
end Go.Vk
namespace Go.Proofs.YtkafpameheohdaaDoor
open Go Go.Vk Go.RowKit Go.WideShapes Go.ChangeShapes
theorem cellsKit : Tryd.prog.cellsOf 24 = 2 := by kernel_rfl
theorem cellsU8s : Tryd.prog.cellsOf 22 = 1 := by kernel_rfl
section
variable {H : Type} {enc : TypeId × Value → H} {W : World} {base : Nat} {sp : Nat → Bool} {hd : Bool}
theorem kit_of {fuel : Nat} {cs : List Value} {x : DataW H × List MemPlace} (h : DataW.trod enc Tryd.prog W base sp hd fuel 24 cs = some x) :
    ∃ v1 v2 l1 l2, cs = [v1, v2] ∧ RdAt W 1 v1 (u8Cells l1) ∧ RdAt W 1 v2 (u8Cells l2) ∧ (∀ c ∈ l1, c < 256) ∧ ∀ c ∈ l2, c < 256 := by
  obtain ⟨xs, n, _, _, hl, hxl, hf⟩ := DataW.trod_struct Tryd.underlying24 h
  rw [cellsKit] at hl
  obtain ⟨c0, c1, rfl⟩ := list2 hl
  have hx : ∀ i, i < 2 → ∃ y, xs[i]? = some y := fun i hi => ⟨_, List.getElem?_eq_getElem (show i < xs.length by rw [hxl]; exact hi)⟩
  obtain ⟨y0, hy0⟩ := hx 0 (by decide)
  have g0 : DataW.trod enc Tryd.prog W base sp hd n 22 (([c0, c1].drop 0).take (Tryd.prog.cellsOf 22)) = xs[0]? := hf 0 _ rfl
  rw [hy0] at g0
  simp only [cellsU8s, List.drop_succ_cons, List.drop_zero, List.take_succ_cons, List.take_zero] at g0
  obtain ⟨y1, hy1⟩ := hx 1 (by decide)
  have g1 : DataW.trod enc Tryd.prog W base sp hd n 22 (([c0, c1].drop 1).take (Tryd.prog.cellsOf 22)) = xs[1]? := hf 1 _ rfl
  rw [hy1] at g1
  simp only [cellsU8s, List.drop_succ_cons, List.drop_zero, List.take_succ_cons, List.take_zero] at g1
  obtain ⟨l1, q1, q2⟩ := rd_u8f Tryd.underlying22 Tryd.underlying5 h5cells g0
  obtain ⟨l2, q3, q4⟩ := rd_u8f Tryd.underlying22 Tryd.underlying5 h5cells g1
  exact ⟨c0, c1, l1, l2, rfl, q1, q3, q2, q4⟩
end
end Go.Proofs.YtkafpameheohdaaDoor
end
section
set_option linter.unusedSimpArgs false
set_option linter.unusedVariables false
namespace Go.Proofs.YtkafpameheohdaaDoor
open Go Go.Vk Go.RowKit Go.WideShapes Go.ChangeShapes
section
variable {H : Type} {enc : TypeId × Value → H} {W : World} {base : Nat} {sp : Nat → Bool} {hd : Bool}
theorem rd_acss {fuel : Nat} {v : Value} {x : DataW H × List MemPlace} (h : DataW.trod enc Tryd.prog W base sp hd fuel 53 [v] = some x) : ∃ l : List AcS, AcSsAt W v l := by
  rcases Deep.open_slice Tryd.underlying53 h with ⟨h1, _⟩ | ⟨a, len, cap, m, n, D, Pl, h1, h2, h3, h4, h5, h6, h7⟩
  · cases h1
    exact ⟨[], none, 0, rfl, Nat.le_refl _, fun k x hk => by simp at hk⟩
  · simp only [List.cons.injEq, and_true] at h1
    subst h1
    have hlm : len ≤ m := by rw [h5]; split <;> omega
    haveI : Inhabited AcS := ⟨⟨0, 0, 0, 0, 0⟩⟩
    have each : ∀ i, i < m → ∃ y : AcS, (∀ j, j < 5 → W.cell? ((a.add (i * 5)).add j) = y.cells[j]?) ∧ y.k < 256 ∧ y.a < 256 ∧ y.b < 256 := fun i hi => by
      obtain ⟨cs, g1, g2⟩ := h7 i hi
      rw [cellsAct] at g1
      obtain ⟨_, hlen, hcell⟩ := World.cells?_some g1
      obtain ⟨k, i', j, p, q, hy, hk, hp, hq⟩ := acs_of g2
      refine ⟨⟨k, i', j, p, q⟩, fun j hj => ?_, hk, hp, hq⟩
      have := hcell j hj
      rw [hy] at this
      exact this
    obtain ⟨f, hf⟩ := Deep.choose_lt each
    refine ⟨(List.range len).map f, some a, cap, by simp, by simpa using h3, fun k x hk => ?_⟩
    have hkl : k < len := by
      have := (List.getElem?_eq_some_iff.1 hk).1
      simpa using this
    have hx : x = f k := by
      rw [List.getElem?_map, List.getElem?_range hkl] at hk
      exact (Option.some.inj hk).symm
    subst hx
    obtain ⟨g1, g2⟩ := hf k (by omega)
    obtain ⟨z1, _⟩ := hf 0 (by omega)
    have h00 := z1 0 (by decide)
    rw [Nat.zero_mul] at h00
    have e0 : (a.add 0).add 0 = a := rfl
    rw [e0] at h00
    obtain ⟨b, o, rfl⟩ := spot_none' h00
    refine ⟨b, o, rfl, fun j hj => ?_, g2⟩
    rw [← g1 j hj, add_mk, add_mk]
end
end Go.Proofs.YtkafpameheohdaaDoor
end
section
set_option linter.unusedSimpArgs false
set_option linter.unusedVariables false
namespace Go.Vk
open Go
theorem cells_of_strs {H : Type} {enc : TypeId × Value → H} {P : Program} {w : World} {base : Nat} {sp : Nat → Bool} {held : Bool} {fuel : Nat} {t e : TypeId} {n : Nat} {cs : List Value} {zs : List ByteArray} {p : List MemPlace}
    (ht : P.underlying t = some (.array n e)) (he : P.underlying e = some .string) (hce : P.cellsOf e = 1) (hct : P.cellsOf t = n)
    (h : DataW.trod enc P w base sp held fuel t cs = some (.agg (zs.map fun z => .lit (.string z.data.toList)), p)) : cs = zs.map Value.string := by
  cases fuel with
  | zero => simp [DataW.trod] at h
  | succ fuel =>
    simp only [DataW.trod, ht, hce, hct, Nat.mul_one] at h
    split at h
    · rename_i hl
      obtain ⟨xs, hm, hx⟩ := Option.map_eq_some_iff.1 h
      have hxs : xs.map (·.1) = zs.map fun z => (DataW.lit (.string z.data.toList) : DataW H) := by
        have := congrArg Prod.fst hx
        simpa using this
      have hxl : xs.length = n := by simpa using Lib.mapM_length hm
      have hzl : zs.length = n := by
        have := congrArg List.length hxs
        simp at this
        omega
      apply List.ext_getElem?
      intro i
      by_cases hi : i < n
      · obtain ⟨b, hb, hf⟩ := Lib.mapM_at hm i i (by simp [hi])
        obtain ⟨z, hc, rfl, _⟩ := DataW.trod_string he hf
        have h1 : cs[i]? = some (.string z) := by
          have := congrArg (·[0]?) hc
          simpa [List.getElem?_take, List.getElem?_drop] using this
        have h2 : (xs.map (·.1))[i]? = some (DataW.lit (.string z.data.toList) : DataW H) := by simp [hb]
        rw [hxs] at h2
        simp only [List.getElem?_map, Option.map_eq_some_iff, DataW.lit.injEq, Lit.string.injEq] at h2
        obtain ⟨z', hz', e'⟩ := h2
        have ez : z' = z := by
          cases z; cases z'
          simp only at e'
          congr 1
          exact Array.toList_inj.1 e'
        simp [h1, hz', ez]
      · rw [List.getElem?_eq_none (by omega), List.getElem?_eq_none (by simp; omega)]
    · cases h
end Go.Vk
namespace Go.Proofs.YtkafpameheohdaaDoor
open Go Go.Vk
theorem gSc : Tryd.prog.globalNamed "lazaret/kinds.scopes" = some 0 := by kernel_rfl
theorem gScT : (Tryd.prog.globals[0]?).map (·.type) = some 76 := by kernel_rfl
theorem cellsSc : Tryd.prog.cellsOf 76 = 4 := by kernel_rfl
theorem cellsSt : Tryd.prog.cellsOf 9 = 1 := by kernel_rfl
theorem gl_of {W : World} (h : laidMetH Tryd.prog [("lazaret/kinds.scopes", Rows.laid_lazaret_kinds_scopes)] W) (hs : W.ShapedOpen Tryd.prog) : GL W := by
  refine ⟨maxAt_of hs, ?_⟩
  have h' : laidMet Tryd.prog [("lazaret/kinds.scopes", Rows.laid_lazaret_kinds_scopes)] W := h
  obtain ⟨ps, ⟨g', t', cs, fuel, p, q, hg', ht', hvar, hd, _, _⟩, _⟩ := h'
  obtain rfl := Option.some.inj (gSc.symm.trans hg')
  obtain rfl := Option.some.inj (gScT.symm.trans ht')
  have e := cells_of_strs (zs := [norB, lisB, butB, tabB]) Tryd.underlying76 Tryd.underlying9 cellsSt cellsSc hd
  unfold World.var? at hvar
  rw [gSc] at hvar
  simp only [Option.bind_some] at hvar
  split at hvar
  · rename_i cs' t f hh
    cases hvar
    have e2 : cs = #[.string norB, .string lisB, .string butB, .string tabB] := Array.toList_inj.1 e
    exact ⟨t, f, by rw [hh, e2]⟩
  · cases hvar
end Go.Proofs.YtkafpameheohdaaDoor
end
