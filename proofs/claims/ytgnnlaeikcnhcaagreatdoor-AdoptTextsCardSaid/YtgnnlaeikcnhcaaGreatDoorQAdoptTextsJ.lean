/- What the proof leans on, part 10 of 10. -/
import Derived.Test.YtgnnlaeikcnhcaaGreatDoorQAdoptTextsI
section
set_option linter.unusedSimpArgs false
set_option linter.unusedVariables false
namespace Go.Proofs.YtgnnlaeikcnhcaaGreatDoor
open Go Go.Vk
set_option maxHeartbeats 40000000
theorem bs_u8 {w : World} {l : List Nat} {n : Nat} {parts : List (Nat × Value)} {K : Value → World → Prop} (hn : l.length = n) (h0 : 0 < n) (h1 : n ≤ 4096)
    (hf : Instr.fill (fun i => some (i * 1, 1)) ((Array.range (n * 1)).map ((Value.int .u8 0).cells[· % (Value.int .u8 0).cells.size]!)) parts = some (u8Cells l).toArray)
    (h : ∀ v w', Ext w w' → RdAt w' 1 v (u8Cells l) → K v w') : RunV Tryz.prog (Instr.buildSlice 22 n parts.toArray) w K := by
  refine bs_of styB (n := n) (by omega) (by omega) Tryz.zeroValue5 hf ?_
  refine h _ _ (Ext.alloc _ _) ?_
  have := (SlAt.new w 1 (u8Cells l).toArray 5 n (by simp [u8Cells, hn])).rd
  simpa using this
theorem opened_nil {w0 : World} : Gives Tryz.prog 66 #[.slice none 0 0] w0 fun v w' => ∃ pb ps pl pa, v = .pointer (some ⟨pb, 0, none⟩) ∧ BuAt w0 w' noP pb ps pl pa gb2 :=
  opened_c (l := []) ⟨none, 0, 0, rfl, Nat.le_refl _, rfl, fun i u hu => by simp [u8Cells] at hu⟩ (by simp) (by decide) (fun i x h => by simp at h)
set_option maxHeartbeats 1000000 in
set_option maxRecDepth 20000 in
theorem nested_c {w : World} (hg : GL w) : Gives Tryz.prog 50 #[] w fun v w' => v = .bool true ∧ Ext w w' := by
  have had := ne_ad
  simp only [Prod.mk.injEq] at had
  have hA := adOkb_ok had.1
  have hC := adOkb_ok had.2.1
  have hD := adOkb_ok had.2.2
  have h2 := ne_2
  have h4 := ne_4
  simp only [Prod.mk.injEq] at h2 h4
  obtain ⟨ok6, ok6L, _⟩ := okb_ok ne_6
  refine Gives.of_W Tryz.call50 Tryz.func50 rfl Tryz.ntmps50 (by simp) ?_; intro Z hZ
  (repeat first|(with_reducible first|(refine hK _ _ ?_;clear hK K)|refine ‹∀σ w,_→K σ w› _ _ ?_|(refine W_st ?_;constructor;try intro K hK))|((with_reducible first|refine hZ _ _ ?_|refine W_rg ?_|skip);repeat1' simp only[push_cast,seval,-Nat.reduceSubDiff])|((repeat((fail_if_success with_reducible refine hK _ _ ?_);clear hK K));with_reducible refine hK _ _ ?_;clear hK K))
  refine bs_u8 (l := [0, 1]) rfl (by decide) (by decide) (by kernel_rfl) ?_
  rintro v w1 hx1 hv1
  (repeat first|(with_reducible first|(refine hK _ _ ?_;clear hK K)|refine ‹∀σ w,_→K σ w› _ _ ?_|(refine W_st ?_;constructor;try intro K hK))|((with_reducible first|refine hZ _ _ ?_|refine W_rg ?_|skip);repeat1' simp only[push_cast,seval,-Nat.reduceSubDiff])|((repeat((fail_if_success with_reducible refine hK _ _ ?_);clear hK K));with_reducible refine hK _ _ ?_;clear hK K))
  refine (opened_c hv1 (by decide) (by decide) neA_ok).mono ?_
  rintro v w2 ⟨pb, ps, pl, pa, rfl, hb2⟩
  replace hb2 : BuAt w1 w2 noP pb ps pl pa neA := hb2
  (repeat first|(with_reducible first|(refine hK _ _ ?_;clear hK K)|refine ‹∀σ w,_→K σ w› _ _ ?_|(refine W_st ?_;constructor;try intro K hK))|((with_reducible first|refine hZ _ _ ?_|refine W_rg ?_|skip);repeat1' simp only[push_cast,seval,-Nat.reduceSubDiff])|((repeat((fail_if_success with_reducible refine hK _ _ ?_);clear hK K));with_reducible refine hK _ _ ?_;clear hK K))
  refine (run_c hb2 hA (hg.ext hx1) nP sB (runOkb_ok neA_run)).mono ?_
  rintro v w3 ⟨rfl, hb3, -⟩
  replace hb3 : BuAt w1 w3 noP pb ps pl pa neA2 := hb3
  rw [ne_1]
  (repeat first|(with_reducible first|(refine hK _ _ ?_;clear hK K)|refine ‹∀σ w,_→K σ w› _ _ ?_|(refine W_st ?_;constructor;try intro K hK))|((with_reducible first|refine hZ _ _ ?_|refine W_rg ?_|skip);repeat1' simp only[push_cast,seval,-Nat.reduceSubDiff,not_true_eq_false])|((repeat((fail_if_success with_reducible refine hK _ _ ?_);clear hK K));with_reducible refine hK _ _ ?_;clear hK K))
  refine (bstack_c hb3).mono ?_
  rintro v w4 ⟨rfl, rfl⟩
  (repeat first|(with_reducible first|(refine hK _ _ ?_;clear hK K)|refine ‹∀σ w,_→K σ w› _ _ ?_|(refine W_st ?_;constructor;try intro K hK))|((with_reducible first|refine hZ _ _ ?_|refine W_rg ?_|skip);repeat1' simp only[push_cast,seval,-Nat.reduceSubDiff])|((repeat((fail_if_success with_reducible refine hK _ _ ?_);clear hK K));with_reducible refine hK _ _ ?_;clear hK K))
  refine (bslen_c hb3).mono ?_
  rintro v w4 ⟨rfl, rfl⟩
  rw [h2.1]
  (repeat first|(with_reducible first|(refine hK _ _ ?_;clear hK K)|refine ‹∀σ w,_→K σ w› _ _ ?_|(refine W_st ?_;constructor;try intro K hK))|((with_reducible first|refine hZ _ _ ?_|refine W_rg ?_|skip);repeat1' simp only[push_cast,seval,-Nat.reduceSubDiff,eq_self,not_true_eq_false])|((repeat((fail_if_success with_reducible refine hK _ _ ?_);clear hK K));with_reducible refine hK _ _ ?_;clear hK K))
  refine (bforms_c hb3).mono ?_
  rintro v w4 ⟨rfl, rfl⟩
  (repeat first|(with_reducible first|(refine hK _ _ ?_;clear hK K)|refine ‹∀σ w,_→K σ w› _ _ ?_|(refine W_st ?_;constructor;try intro K hK))|((with_reducible first|refine hZ _ _ ?_|refine W_rg ?_|skip);repeat1' simp only[push_cast,seval,-Nat.reduceSubDiff])|((repeat((fail_if_success with_reducible refine hK _ _ ?_);clear hK K));with_reducible refine hK _ _ ?_;clear hK K))
  refine (bflen_c hb3).mono ?_
  rintro v w4 ⟨rfl, rfl⟩
  rw [h2.2]
  (repeat first|(with_reducible first|(refine hK _ _ ?_;clear hK K)|refine ‹∀σ w,_→K σ w› _ _ ?_|(refine W_st ?_;constructor;try intro K hK))|((with_reducible first|refine hZ _ _ ?_|refine W_rg ?_|skip);repeat1' simp only[push_cast,seval,-Nat.reduceSubDiff,eq_self,not_true_eq_false])|((repeat((fail_if_success with_reducible refine hK _ _ ?_);clear hK K));with_reducible refine hK _ _ ?_;clear hK K))
  have hx4 := hx1.trans hb3.out
  clear hb2 hb3
  refine bs_u8 (l := [0, 7]) rfl (by decide) (by decide) (by kernel_rfl) ?_
  rintro v w5 hx5 hv5
  have hx05 := hx4.trans hx5
  (repeat first|(with_reducible first|(refine hK _ _ ?_;clear hK K)|refine ‹∀σ w,_→K σ w› _ _ ?_|(refine W_st ?_;constructor;try intro K hK))|((with_reducible first|refine hZ _ _ ?_|refine W_rg ?_|skip);repeat1' simp only[push_cast,seval,-Nat.reduceSubDiff])|((repeat((fail_if_success with_reducible refine hK _ _ ?_);clear hK K));with_reducible refine hK _ _ ?_;clear hK K))
  refine (opened_c hv5 (by decide) (by decide) neC_ok).mono ?_
  rintro v w6 ⟨pb, ps, pl, pa, rfl, hb2⟩
  replace hb2 : BuAt w5 w6 noP pb ps pl pa neC := hb2
  (repeat first|(with_reducible first|(refine hK _ _ ?_;clear hK K)|refine ‹∀σ w,_→K σ w› _ _ ?_|(refine W_st ?_;constructor;try intro K hK))|((with_reducible first|refine hZ _ _ ?_|refine W_rg ?_|skip);repeat1' simp only[push_cast,seval,-Nat.reduceSubDiff])|((repeat((fail_if_success with_reducible refine hK _ _ ?_);clear hK K));with_reducible refine hK _ _ ?_;clear hK K))
  refine (run_c hb2 hC (hg.ext hx05) nP sB (runOkb_ok neC_run)).mono ?_
  rintro v w7 ⟨rfl, hb3, -⟩
  replace hb3 : BuAt w5 w7 noP pb ps pl pa neC2 := hb3
  rw [ne_3]
  (repeat first|(with_reducible first|(refine hK _ _ ?_;clear hK K)|refine ‹∀σ w,_→K σ w› _ _ ?_|(refine W_st ?_;constructor;try intro K hK))|((with_reducible first|refine hZ _ _ ?_|refine W_rg ?_|skip);repeat1' simp only[push_cast,seval,-Nat.reduceSubDiff,not_true_eq_false])|((repeat((fail_if_success with_reducible refine hK _ _ ?_);clear hK K));with_reducible refine hK _ _ ?_;clear hK K))
  refine (bstack_c hb3).mono ?_
  rintro v w8 ⟨rfl, rfl⟩
  (repeat first|(with_reducible first|(refine hK _ _ ?_;clear hK K)|refine ‹∀σ w,_→K σ w› _ _ ?_|(refine W_st ?_;constructor;try intro K hK))|((with_reducible first|refine hZ _ _ ?_|refine W_rg ?_|skip);repeat1' simp only[push_cast,seval,-Nat.reduceSubDiff])|((repeat((fail_if_success with_reducible refine hK _ _ ?_);clear hK K));with_reducible refine hK _ _ ?_;clear hK K))
  refine (bslen_c hb3).mono ?_
  rintro v w8 ⟨rfl, rfl⟩
  rw [h4.1]
  (repeat first|(with_reducible first|(refine hK _ _ ?_;clear hK K)|refine ‹∀σ w,_→K σ w› _ _ ?_|(refine W_st ?_;constructor;try intro K hK))|((with_reducible first|refine hZ _ _ ?_|refine W_rg ?_|skip);repeat1' simp only[push_cast,seval,-Nat.reduceSubDiff,eq_self,not_true_eq_false])|((repeat((fail_if_success with_reducible refine hK _ _ ?_);clear hK K));with_reducible refine hK _ _ ?_;clear hK K))
  refine (bforms_c hb3).mono ?_
  rintro v w8 ⟨rfl, rfl⟩
  (repeat first|(with_reducible first|(refine hK _ _ ?_;clear hK K)|refine ‹∀σ w,_→K σ w› _ _ ?_|(refine W_st ?_;constructor;try intro K hK))|((with_reducible first|refine hZ _ _ ?_|refine W_rg ?_|skip);repeat1' simp only[push_cast,seval,-Nat.reduceSubDiff])|((repeat((fail_if_success with_reducible refine hK _ _ ?_);clear hK K));with_reducible refine hK _ _ ?_;clear hK K))
  refine (bflen_c hb3).mono ?_
  rintro v w8 ⟨rfl, rfl⟩
  rw [h4.2]
  (repeat first|(with_reducible first|(refine hK _ _ ?_;clear hK K)|refine ‹∀σ w,_→K σ w› _ _ ?_|(refine W_st ?_;constructor;try intro K hK))|((with_reducible first|refine hZ _ _ ?_|refine W_rg ?_|skip);repeat1' simp only[push_cast,seval,-Nat.reduceSubDiff,eq_self,not_true_eq_false])|((repeat((fail_if_success with_reducible refine hK _ _ ?_);clear hK K));with_reducible refine hK _ _ ?_;clear hK K))
  refine (barena_c hb3).mono ?_
  rintro v w8 ⟨rfl, rfl⟩
  (repeat first|(with_reducible first|(refine hK _ _ ?_;clear hK K)|refine ‹∀σ w,_→K σ w› _ _ ?_|(refine W_st ?_;constructor;try intro K hK))|((with_reducible first|refine hZ _ _ ?_|refine W_rg ?_|skip);repeat1' simp only[push_cast,seval,-Nat.reduceSubDiff])|((repeat((fail_if_success with_reducible refine hK _ _ ?_);clear hK K));with_reducible refine hK _ _ ?_;clear hK K))
  obtain ⟨PA, hA1, _⟩ := hb3.ar
  refine (tree_a hA1 (by have := ok6.L; omega) ok6.at_).mono ?_
  rintro v w9 ⟨T, bo, hT, hTL, hx9, -, -⟩
  have hx09 := (hx05.trans hb3.out).trans hx9
  clear hb2 hb3 hA1
  obtain ⟨a, c, rfl, hc⟩ := hT.len
  have hTl : T.length = 8 := by
    have := congrArg List.length hTL
    rw [List.length_map] at this
    rw [this]; exact (show neC2.L.length = 8 by kernel_rfl)
  (repeat first|(with_reducible first|(refine hK _ _ ?_;clear hK K)|refine ‹∀σ w,_→K σ w› _ _ ?_|(refine W_st ?_;constructor;try intro K hK))|((with_reducible first|refine hZ _ _ ?_|refine W_rg ?_|skip);repeat1' simp only[push_cast,seval,-Nat.reduceSubDiff])|((repeat((fail_if_success with_reducible refine hK _ _ ?_);clear hK K));with_reducible refine hK _ _ ?_;clear hK K))
  refine opened_nil.mono ?_
  rintro v w10 ⟨pb, ps, pl, pa, rfl, hb2⟩
  have hT := hT.ext hb2.out
  have hx010 := hx09.trans hb2.out
  have nodK : ∀ (i : Nat) (q : Nd), neC2.L[i]? = some q → ∃ m, T[i]? = some m ∧ m.nd = q := fun i q hq => by
    rw [← hTL, List.getElem?_map] at hq
    cases hm : T[i]? with
    | none => rw [hm] at hq; cases hq
    | some m => rw [hm] at hq; exact ⟨m, rfl, Option.some.inj hq⟩
  have e2 : neC2.L[2]? = some { zN with kind := 3, name := sBody, parent := 1, kids := [3, 5], frm := -1, to := -1 } := by kernel_rfl
  have e5 : neC2.L[5]? = some { zN with kind := 3, name := ⟨#[112]⟩, parent := 2, kids := [7], frm := -1, to := -1 } := by kernel_rfl
  have e7 : neC2.L[7]? = some { zN with kind := 3, name := ⟨#[98]⟩, parent := 5, kids := [6], frm := -1, to := -1 } := by kernel_rfl
  obtain ⟨m2, hm2, hn2⟩ := nodK 2 _ e2
  obtain ⟨m5, hm5, hn5⟩ := nodK 5 _ e5
  obtain ⟨m7, hm7, hn7⟩ := nodK 7 _ e7
  obtain ⟨tb, to_, n', c', e, _⟩ := hT.sl.some_of (by intro e; have := flat_length T; rw [e] at this; simp at this; omega)
  cases e
  rw [hTl]
  have kk2 := (hT.ok m2 (List.mem_of_getElem? hm2)).kids
  have kk5 := (hT.ok m5 (List.mem_of_getElem? hm5)).kids
  have c28 := hT.get hm2 (j := 8) (by decide)
  have c58 := hT.get hm5 (j := 8) (by decide)
  have c51 := hT.get hm5 (j := 1) (by decide)
  have c71 := hT.get hm7 (j := 1) (by decide)
  simp only [Laid.cells, List.getElem?_cons_zero, List.getElem?_cons_succ, hn5, hn7, hn2, Nat.reduceMul] at c28 c58 c51 c71
  rw [hn2] at kk2
  rw [hn5] at kk5
  obtain ⟨_, _, ek2, _⟩ := kk2.ints_len
  obtain ⟨_, _, ek5, _⟩ := kk5.ints_len
  rw [ek2] at c28 kk2
  rw [ek5] at c58 kk5
  obtain ⟨kb2, ko2, _, _, e, _⟩ := kk2.some_of (by simp [intCells])
  cases e
  obtain ⟨kb5, ko5, _, _, e, _⟩ := kk5.some_of (by simp [intCells])
  cases e
  have d21 := kk2.ints_cell (i := 1) (show ([3, 5] : List Int)[1]? = some 5 from rfl)
  have d50 := kk5.ints_cell (i := 0) (show ([7] : List Int)[0]? = some 7 from rfl)
  rw [Nat.add_zero] at d50
  have e08 : (List.length ([3, 5] : List Int)) = 2 := rfl
  have e18 : (List.length ([7] : List Int)) = 1 := rfl
  (repeat first|(with_reducible first|(refine hK _ _ ?_;clear hK K)|refine ‹∀σ w,_→K σ w› _ _ ?_|(refine W_st ?_;constructor;try intro K hK))|((with_reducible first|refine hZ _ _ ?_|refine W_rg ?_|skip);repeat1' simp only[push_cast,seval,-Nat.reduceSubDiff])|((repeat((fail_if_success with_reducible refine hK _ _ ?_);clear hK K));with_reducible refine hK _ _ ?_;clear hK K))
  (try (with_reducible refine W_id ?_); refine W_reg (by decide) (by rfl) ?_); refine Wo_flat (by simp only [lapp_cons, lapp_nil]; exact rfl) ?_
  (repeat simp only [push_cast, seval, -Nat.reduceSubDiff, eq_self, not_true_eq_false, c28, c58, c51, c71, d21, d50])
  have hD7 : txD (T.map Laid.nd) 7 0 = true := by rw [hTL]; kernel_rfl
  have hF7 : txF (T.map Laid.nd) 7 0 = ⟨#[97, 98]⟩ := by rw [hTL]; kernel_rfl
  have htx := texts_c hT (by omega) 7 0 hD7
  rw [hF7, hTl] at htx
  refine htx.mono ?_
  intro v w' ⟨hv, hw⟩
  subst hv; subst w'
  (repeat first|(with_reducible first|(refine hK _ _ ?_;clear hK K)|refine ‹∀σ w,_→K σ w› _ _ ?_|(refine W_st ?_;constructor;try intro K hK))|((with_reducible first|refine hZ _ _ ?_|refine W_rg ?_|skip);repeat1' simp only[push_cast,seval,-Nat.reduceSubDiff,eq_self,not_true_eq_false])|((repeat((fail_if_success with_reducible refine hK _ _ ?_);clear hK K));with_reducible refine hK _ _ ?_;clear hK K))
  refine (run_c hb2 hD (hg.ext hx09) nP sB (runOkb_ok neD_run)).mono ?_
  rintro v w11 ⟨rfl, hb3, -⟩
  rw [ne_5]
  (repeat first|(with_reducible first|(refine hK _ _ ?_;clear hK K)|refine ‹∀σ w,_→K σ w› _ _ ?_|(refine W_st ?_;constructor;try intro K hK))|((with_reducible first|refine hZ _ _ ?_|refine W_rg ?_|skip);repeat1' simp only[push_cast,seval,-Nat.reduceSubDiff,eq_self,not_true_eq_false,not_false_eq_true])|((repeat((fail_if_success with_reducible refine hK _ _ ?_);clear hK K));with_reducible refine hK _ _ ?_;clear hK K))
  exact hx09.trans hb3.out
end Go.Proofs.YtgnnlaeikcnhcaaGreatDoor
end
section
set_option linter.unusedSimpArgs false
set_option linter.unusedVariables false
namespace Go.Vk
open Go
theorem cells_of_strs {H : Type} {enc : TypeId × Value → H} {P : Program} {w : World} {base : Nat} {sp : Nat → Bool} {held : Bool} {fuel : Nat} {t e : TypeId} {n : Nat} {cs : List Value} {zs : List ByteArray} {p : List MemPlace}
    (ht : P.underlying t = some (.array n e)) (he : P.underlying e = some .string) (hce : P.cellsOf e = 1) (hct : P.cellsOf t = n)
    (h : DataW.trod enc P w base sp held fuel t cs = some (.agg (zs.map fun z => .lit (.string z.data.toList)), p)) : cs = zs.map Value.string := by
  cases fuel with
  | zero => simp [DataW.trod] at h
  | succ fuel =>
    simp only [DataW.trod, ht, hce, hct, Nat.mul_one] at h
    split at h
    · rename_i hl
      obtain ⟨xs, hm, hx⟩ := Option.map_eq_some_iff.1 h
      have hxs : xs.map (·.1) = zs.map fun z => (DataW.lit (.string z.data.toList) : DataW H) := by
        have := congrArg Prod.fst hx
        simpa using this
      have hxl : xs.length = n := by simpa using Lib.mapM_length hm
      have hzl : zs.length = n := by
        have := congrArg List.length hxs
        simp at this
        omega
      apply List.ext_getElem?
      intro i
      by_cases hi : i < n
      · obtain ⟨b, hb, hf⟩ := Lib.mapM_at hm i i (by simp [hi])
        obtain ⟨z, hc, rfl, _⟩ := DataW.trod_string he hf
        have h1 : cs[i]? = some (.string z) := by
          have := congrArg (·[0]?) hc
          simpa [List.getElem?_take, List.getElem?_drop] using this
        have h2 : (xs.map (·.1))[i]? = some (DataW.lit (.string z.data.toList) : DataW H) := by simp [hb]
        rw [hxs] at h2
        simp only [List.getElem?_map, Option.map_eq_some_iff, DataW.lit.injEq, Lit.string.injEq] at h2
        obtain ⟨z', hz', e'⟩ := h2
        have ez : z' = z := by
          cases z; cases z'
          simp only at e'
          congr 1
          exact Array.toList_inj.1 e'
        simp [h1, hz', ez]
      · rw [List.getElem?_eq_none (by omega), List.getElem?_eq_none (by simp; omega)]
    · cases h
end Go.Vk
namespace Go.Proofs.YtgnnlaeikcnhcaaGreatDoor
open Go Go.Vk
theorem gSc : Tryz.prog.globalNamed "lazaret/kinds.scopes" = some 3 := by kernel_rfl
theorem gScT : (Tryz.prog.globals[3]?).map (·.type) = some 205 := by kernel_rfl
theorem cellsSc : Tryz.prog.cellsOf 205 = 4 := by kernel_rfl
theorem cellsSt : Tryz.prog.cellsOf 9 = 1 := by kernel_rfl
end Go.Proofs.YtgnnlaeikcnhcaaGreatDoor
end
section
set_option linter.unusedSimpArgs false
set_option linter.unusedVariables false
namespace Go.Proofs.YtgnnlaeikcnhcaaGreatDoor
open Go Go.Vk Go.WideElems Go.ChangeMaps
open Go.WideMaps (string_law keyOf_string_mk)
theorem gl_of_var {W : World} {cs : Array Value} {sp : Nat → Bool} {held : Bool} {fuel : Nat} {x : List MemPlace} {enc : TypeId × Value → Unit}
    (hvar : W.var? Tryz.prog "lazaret/kinds.scopes" = some cs) (hd : DataW.trod enc Tryz.prog W 0 sp held fuel 205 cs.toList = some (Rows.laid_lazaret_kinds_scopes, x)) (hs : W.ShapedOpen Tryz.prog) : GL W := by
  refine ⟨maxAt_of hs, ?_⟩
  have e := cells_of_strs (zs := [norB, lisB, butB, tabB]) Tryz.underlying205 Tryz.underlying9 cellsSt cellsSc hd
  unfold World.var? at hvar
  rw [gSc] at hvar
  simp only [Option.bind_some] at hvar
  split at hvar
  · rename_i cs' t f hh
    cases hvar
    have e2 : cs = #[.string norB, .string lisB, .string butB, .string tabB] := Array.toList_inj.1 e
    exact ⟨t, f, by rw [hh, e2]⟩
  · cases hvar
end Go.Proofs.YtgnnlaeikcnhcaaGreatDoor
end
section
set_option linter.unusedSimpArgs false
set_option linter.unusedVariables false
namespace Go.Proofs.YtgnnlaeikcnhcaaGreatDoor
open Go Go.Vk
set_option maxHeartbeats 40000000
theorem gle_of {W : World} (h : laidMetH Tryz.prog [("errors.errorType", Rows.laid_errors_errorType), ("lazaret/kinds.scopes", Rows.laid_lazaret_kinds_scopes)] W) (hs : W.ShapedOpen Tryz.prog) : GL W := by
  have h' : laidMet Tryz.prog [("lazaret/kinds.scopes", Rows.laid_lazaret_kinds_scopes)] W ∧ _ := h
  obtain ⟨⟨ps, ⟨g', t', cs, fuel, p, q, hg', ht', hvar, hd, _, _⟩, _⟩, _⟩ := h'
  obtain rfl := Option.some.inj (gSc.symm.trans hg')
  obtain rfl := Option.some.inj (gScT.symm.trans ht')
  exact gl_of_var hvar hd hs
set_option maxHeartbeats 4000000 in
theorem adoptTexts_c {w0 : World} (hg : GL w0) {v1 v2 : Value} {l ends : List Nat} (hv : RdAt w0 1 v1 (u8Cells l)) (he : RdAt w0 1 v2 (u8Cells ends)) (hb : ∀ c ∈ l, c < 256) (hb2 : ∀ c ∈ ends, c < 256) :
    Gives Tryz.prog 12 #[v1, v2] w0 fun v w' => v = .bool true ∧ Ext w0 w' := by
  obtain ⟨va, vc, rfl, hvc, hcell⟩ := u8_len hv
  obtain ⟨ea, ec, rfl, hec, hecell⟩ := u8_len he
  by_cases h1 : 40 < l.length
  · have d : (40 : Int) < (l.length : Int) := by omega
    refine Gives.of_W Tryz.call12 Tryz.func12 rfl Tryz.ntmps12 (by simp) ?_; intro Z hZ
    (repeat first|(with_reducible first|(refine hK _ _ ?_;clear hK K)|refine ‹∀σ w,_→K σ w› _ _ ?_|(refine W_st ?_;constructor;try intro K hK))|((with_reducible first|refine hZ _ _ ?_|refine W_rg ?_|skip);repeat1' simp only[push_cast,seval,-Nat.reduceSubDiff,d])|((repeat((fail_if_success with_reducible refine hK _ _ ?_);clear hK K));with_reducible refine hK _ _ ?_;clear hK K))
    refine (nested_c hg).mono ?_
    rintro v w' ⟨rfl, hy⟩
    (repeat first|(with_reducible first|(refine hK _ _ ?_;clear hK K)|refine ‹∀σ w,_→K σ w› _ _ ?_|(refine W_st ?_;constructor;try intro K hK))|((with_reducible first|refine hZ _ _ ?_|refine W_rg ?_|skip);repeat1' simp only[push_cast,seval,-Nat.reduceSubDiff])|((repeat((fail_if_success with_reducible refine hK _ _ ?_);clear hK K));with_reducible refine hK _ _ ?_;clear hK K))
    exact hy
  have d1 : ¬ (40 : Int) < (l.length : Int) := by omega
  by_cases h2 : 40 < ends.length
  · have d : (40 : Int) < (ends.length : Int) := by omega
    refine Gives.of_W Tryz.call12 Tryz.func12 rfl Tryz.ntmps12 (by simp) ?_; intro Z hZ
    (repeat first|(with_reducible first|(refine hK _ _ ?_;clear hK K)|refine ‹∀σ w,_→K σ w› _ _ ?_|(refine W_st ?_;constructor;try intro K hK))|((with_reducible first|refine hZ _ _ ?_|refine W_rg ?_|skip);repeat1' simp only[push_cast,seval,-Nat.reduceSubDiff,d1,d])|((repeat((fail_if_success with_reducible refine hK _ _ ?_);clear hK K));with_reducible refine hK _ _ ?_;clear hK K))
    refine (nested_c hg).mono ?_
    rintro v w' ⟨rfl, hy⟩
    (repeat first|(with_reducible first|(refine hK _ _ ?_;clear hK K)|refine ‹∀σ w,_→K σ w› _ _ ?_|(refine W_st ?_;constructor;try intro K hK))|((with_reducible first|refine hZ _ _ ?_|refine W_rg ?_|skip);repeat1' simp only[push_cast,seval,-Nat.reduceSubDiff])|((repeat((fail_if_success with_reducible refine hK _ _ ?_);clear hK K));with_reducible refine hK _ _ ?_;clear hK K))
    exact hy
  have d2 : ¬ (40 : Int) < (ends.length : Int) := by omega
  have hop : ∀ i x, l[i]? = some x → OpOk (opB i l) x := fun i x hx => by
    have hi := (List.getElem?_eq_some_iff.1 hx).1
    obtain ⟨u, hu⟩ := opI_all l i (by omega)
    exact (hu.step (i := i) (by omega)).1
  obtain ⟨u, hI⟩ := opI_all l l.length (by omega)
  have hu := hI.u
  have hK0 := ATk.zero hI (by omega)
  clear hI
  refine Gives.of_W Tryz.call12 Tryz.func12 rfl Tryz.ntmps12 (by simp) ?_; intro Z hZ
  (repeat first|(with_reducible first|(refine hK _ _ ?_;clear hK K)|refine ‹∀σ w,_→K σ w› _ _ ?_|(refine W_st ?_;constructor;try intro K hK))|((with_reducible first|refine hZ _ _ ?_|refine W_rg ?_|skip);repeat1' simp only[push_cast,seval,-Nat.reduceSubDiff,d1,d2])|((repeat((fail_if_success with_reducible refine hK _ _ ?_);clear hK K));with_reducible refine hK _ _ ?_;clear hK K))
  refine (opened_c hv hb (by omega) hop).mono ?_
  rintro v w1 ⟨pb, ps, pl, pa, rfl, hB1⟩
  generalize opB l.length l = b0 at *
  -- all texts of a builder
  have txts : ∀ {k : Nat} {b : BSt} {w w2 : World} {v : Value} {T : List Laid} {bo : Option Nat}, ATk k b u → k ≤ 41 → NdsAt w2 v T bo → T.map Laid.nd = b.L → Gives Tryz.prog 67 #[v, .int .i64 0] w2 fun u' w' => u' = .string u ∧ w' = w2 := fun {k b w w2 v T bo} hA hk hT hTL => by
    obtain ⟨t1, t2⟩ := hA.texts hk (by omega)
    have hTl : T.length = b.L.length := by rw [← hTL, List.length_map]
    have := texts_c hT (by have := hA.L; omega) 90000 0 (by rw [hTL]; exact t1)
    rwa [hTL, t2] at this
  have okOf : ∀ {k : Nat} {b : BSt}, ATk k b u → k ≤ 41 → okB b := fun hA hk => (hA.at_.ok (by have := hA.L; omega)).ok
  (repeat first|(with_reducible first|(refine hK _ _ ?_;clear hK K)|refine ‹∀σ w,_→K σ w› _ _ ?_|(refine W_st ?_;constructor;try intro K hK))|((with_reducible first|refine hZ _ _ ?_|refine W_rg ?_|skip);repeat1' simp only[push_cast,seval,-Nat.reduceSubDiff])|((repeat((fail_if_success with_reducible refine hK _ _ ?_);clear hK K));with_reducible refine hK _ _ ?_;clear hK K))
  refine (barena_c hB1).mono ?_
  intro v w' ⟨hv', hw⟩
  subst hv'; subst w'
  (repeat first|(with_reducible first|(refine hK _ _ ?_;clear hK K)|refine ‹∀σ w,_→K σ w› _ _ ?_|(refine W_st ?_;constructor;try intro K hK))|((with_reducible first|refine hZ _ _ ?_|refine W_rg ?_|skip);repeat1' simp only[push_cast,seval,-Nat.reduceSubDiff])|((repeat((fail_if_success with_reducible refine hK _ _ ?_);clear hK K));with_reducible refine hK _ _ ?_;clear hK K))
  obtain ⟨P1, hA1, _⟩ := hB1.ar
  have ok0 := okOf hK0 (by omega)
  refine (tree_a hA1 (by have := ok0.L; omega) ok0.at_).mono ?_
  rintro v w2 ⟨T, bo, hT, hTL, hx2, -, -⟩
  have hB2 := hB1.pass hx2
  (repeat first|(with_reducible first|(refine hK _ _ ?_;clear hK K)|refine ‹∀σ w,_→K σ w› _ _ ?_|(refine W_st ?_;constructor;try intro K hK))|((with_reducible first|refine hZ _ _ ?_|refine W_rg ?_|skip);repeat1' simp only[push_cast,seval,-Nat.reduceSubDiff])|((repeat((fail_if_success with_reducible refine hK _ _ ?_);clear hK K));with_reducible refine hK _ _ ?_;clear hK K))
  refine (txts (w := w2) hK0 (by omega) hT hTL).mono ?_
  intro v w' ⟨hv', hw⟩
  subst hv'; subst w'
  (repeat first|(with_reducible first|(refine hK _ _ ?_;clear hK K)|refine ‹∀σ w,_→K σ w› _ _ ?_|(refine W_st ?_;constructor;try intro K hK))|((with_reducible first|refine hZ _ _ ?_|refine W_rg ?_|skip);repeat1' simp only[push_cast,seval,-Nat.reduceSubDiff,hu,eq_self,not_true_eq_false])|((repeat((fail_if_success with_reducible refine hK _ _ ?_);clear hK K));with_reducible refine hK _ _ ?_;clear hK K))
  refine W_loop (S := Nat × BSt) (fun z => [(1, .slice ea ends.length ec), (5, .pointer (some ⟨pb, 0, none⟩)), (6, .string u), (7, .int .i64 (z.1 : Int))])
    (fun z w4 => z.1 ≤ ends.length ∧ ATk z.1 z.2 u ∧ BuAt w0 w4 noP pb ps pl pa z.2) (fun z => ends.length - z.1) (0, b0) ?_ ?_ ?_
  · (repeat simp only [push_cast, seval, -Nat.reduceSubDiff])
  · exact ⟨by omega, hK0, hB2⟩
  rintro ⟨k, b⟩ w4 ⟨hk, hAk, h4⟩
  dsimp only at hk hAk h4 ⊢
  by_cases hkl : k < ends.length
  · obtain ⟨x, hx⟩ : ∃ x, ends[k]? = some x := ⟨_, List.getElem?_eq_getElem hkl⟩
    have hx256 := hb2 x (List.mem_of_getElem? hx)
    obtain ⟨y, hy⟩ : ∃ y, y = x % 6 := ⟨_, rfl⟩
    have hy6 : y < 6 := by rw [hy]; exact Nat.mod_lt _ (by decide)
    have hyt : Int.tmod (x : Int) 6 = (y : Int) := by
      rw [hy, Int.tmod_eq_emod_of_nonneg (by omega)]; omega
    have hw : IntKind.i64.wrap (x : Int) = x := wrap_in (by unfold inI64; omega)
    obtain ⟨bx, ox, rfl, hc⟩ := hecell k x hx
    have b0' : (k : Int) < (ends.length : Int) := by omega
    have b1 : (0 : Int) ≤ (k : Int) := by omega
    have b2 : inI64 ((k : Int) + 1) := by unfold inI64; omega
    have b3 : (0 : Int) ≤ (y : Int) := by omega
    have b4 : (y : Int) < 10 := by omega
    have c6 : ((6 : Int) = 0) = False := by decide
    obtain ⟨nm, hnm⟩ : ∃ nm, adNames[y]? = some nm := ⟨_, List.getElem?_eq_getElem (show y < 10 by omega)⟩
    have hnmx : nm ≠ sHtml := by
      have e : nm = adName y := by unfold adName; rw [List.getD_eq_getElem?_getD, hnm]; rfl
      rw [e]; exact (adName_ok y (by omega)).2.2
    obtain ⟨r1, r2, r3, r4⟩ := hAk.run (x := nm) (by omega) hnmx
    have hc4 := cell_ext h4.out hc
    have lbx : bx < w0.heap.size := cell_lt hc
    have lbx4 : bx < w4.heap.size := cell_lt hc4
    (repeat first|(with_reducible first|(refine hK _ _ ?_;clear hK K)|refine ‹∀σ w,_→K σ w› _ _ ?_|(refine W_st ?_;constructor;try intro K hK))|((with_reducible first|refine hZ _ _ ?_|refine W_rg ?_|skip);repeat1' simp only[push_cast,seval,-Nat.reduceSubDiff,b0',b1])|((repeat((fail_if_success with_reducible refine hK _ _ ?_);clear hK K));with_reducible refine hK _ _ ?_;clear hK K))
    refine (bstack_c h4).mono ?_
    intro v w' ⟨hv', hw'⟩
    subst hv'; subst w'
    (repeat first|(with_reducible first|(refine hK _ _ ?_;clear hK K)|refine ‹∀σ w,_→K σ w› _ _ ?_|(refine W_st ?_;constructor;try intro K hK))|((with_reducible first|refine hZ _ _ ?_|refine W_rg ?_|skip);repeat1' simp only[push_cast,seval,-Nat.reduceSubDiff])|((repeat((fail_if_success with_reducible refine hK _ _ ?_);clear hK K));with_reducible refine hK _ _ ?_;clear hK K))
    refine (bslen_c h4).mono ?_
    intro v w' ⟨hv', hw'⟩
    subst hv'; subst w'
    (repeat first|(with_reducible first|(refine hK _ _ ?_;clear hK K)|refine ‹∀σ w,_→K σ w› _ _ ?_|(refine W_st ?_;constructor;try intro K hK))|((with_reducible first|refine hZ _ _ ?_|refine W_rg ?_|skip);repeat1' simp only[push_cast,seval,-Nat.reduceSubDiff])|((repeat((fail_if_success with_reducible refine hK _ _ ?_);clear hK K));with_reducible refine hK _ _ ?_;clear hK K))
    refine W_draw (.pas 0 (.pas 2 (.pas 3 (.pas 4 (.pas 5 (.pas 6 (.pas 7 (.act 1 (.pas 8 (.act 9 (.act 10 .fin))))))))))) (fun q => q = bx) (by decide) mixed (by kernel_rfl) ?_
    have hxd := Ext.drew w4
    generalize w4.drew = wd at *
    have hcd := cell_ext hxd hc4
    have hsd := hxd.sz
    (repeat (first | ((first | refine pas_plain rfl ?_ | refine pas_g rfl rfl ?_ | refine act_plain rfl ?_ | refine act_g rfl rfl ?_ | refine last_plain rfl ?_ | refine tail_plain rfl ?_ | refine tail_g rfl rfl ?_); (repeat simp only [push_cast, seval, -Nat.reduceSubDiff, eq_self, b0', b1, hcd, hw, hyt, c6])) | (refine tail_fin ?_) | (refine sch_fin ?_)))
    refine names_c.mono ?_
    rintro v w5 ⟨hx5, hr5, bn, rfl, hbn⟩
    have nn := rd_str hr5 (Ext.refl _) hnm
    have h5 := (h4.pass hxd).pass hx5
    have hs5 := hx5.sz
    refine ⟨kept_upd hx5 fun q hq => ⟨by have : q = bx := hq; omega, id⟩, ?_⟩
    (repeat (first | ((first | refine pas_plain rfl ?_ | refine pas_g rfl rfl ?_ | refine act_plain rfl ?_ | refine act_g rfl rfl ?_ | refine last_plain rfl ?_ | refine tail_plain rfl ?_ | refine tail_g rfl rfl ?_); (repeat simp only [push_cast, seval, -Nat.reduceSubDiff, eq_self, b3, b4, nn])) | (refine tail_fin ?_) | (refine sch_fin ?_)))
    refine ⟨kept.refl _ _, ?_⟩
    (repeat (first | ((first | refine pas_plain rfl ?_ | refine pas_g rfl rfl ?_ | refine act_plain rfl ?_ | refine act_g rfl rfl ?_ | refine last_plain rfl ?_ | refine tail_plain rfl ?_ | refine tail_g rfl rfl ?_); (repeat simp only [push_cast, seval, -Nat.reduceSubDiff, eq_self])) | (refine tail_fin ?_) | (refine sch_fin ?_)))
    refine (run_c h5 r2 hg nP nm r1).mono ?_
    rintro v w6 ⟨rfl, h6, hu6⟩
    refine ⟨kept_upd hu6 fun q hq => ⟨by have : q = bx := hq; omega, fun hf => by have := hf.1; have : q = bx := hq; omega⟩, ?_⟩
    (repeat (first | ((first | refine pas_plain rfl ?_ | refine pas_g rfl rfl ?_ | refine act_plain rfl ?_ | refine act_g rfl rfl ?_ | refine last_plain rfl ?_ | refine tail_plain rfl ?_ | refine tail_g rfl rfl ?_); (repeat simp only [push_cast, seval, -Nat.reduceSubDiff, eq_self])) | (refine tail_fin ?_) | (refine sch_fin ?_)))
    (repeat first|(with_reducible first|(refine hK _ _ ?_;clear hK K)|refine ‹∀σ w,_→K σ w› _ _ ?_|(refine W_st ?_;constructor;try intro K hK))|((with_reducible first|refine hZ _ _ ?_|refine W_rg ?_|skip);repeat1' simp only[push_cast,seval,-Nat.reduceSubDiff])|((repeat((fail_if_success with_reducible refine hK _ _ ?_);clear hK K));with_reducible refine hK _ _ ?_;clear hK K))
    generalize (runB b nm).1 = b6 at *
    refine (bstack_c h6).mono ?_
    intro v w' ⟨hv', hw'⟩
    subst hv'; subst w'
    (repeat first|(with_reducible first|(refine hK _ _ ?_;clear hK K)|refine ‹∀σ w,_→K σ w› _ _ ?_|(refine W_st ?_;constructor;try intro K hK))|((with_reducible first|refine hZ _ _ ?_|refine W_rg ?_|skip);repeat1' simp only[push_cast,seval,-Nat.reduceSubDiff])|((repeat((fail_if_success with_reducible refine hK _ _ ?_);clear hK K));with_reducible refine hK _ _ ?_;clear hK K))
    refine (bslen_c h6).mono ?_
    intro v w' ⟨hv', hw'⟩
    subst hv'; subst w'
    have dN : ¬ (b.s.length : Int) < (b6.s.length : Int) := by omega
    (repeat first|(with_reducible first|(refine hK _ _ ?_;clear hK K)|refine ‹∀σ w,_→K σ w› _ _ ?_|(refine W_st ?_;constructor;try intro K hK))|((with_reducible first|refine hZ _ _ ?_|refine W_rg ?_|skip);repeat1' simp only[push_cast,seval,-Nat.reduceSubDiff,dN])|((repeat((fail_if_success with_reducible refine hK _ _ ?_);clear hK K));with_reducible refine hK _ _ ?_;clear hK K))
    refine (barena_c h6).mono ?_
    intro v w' ⟨hv', hw'⟩
    subst hv'; subst w'
    (repeat first|(with_reducible first|(refine hK _ _ ?_;clear hK K)|refine ‹∀σ w,_→K σ w› _ _ ?_|(refine W_st ?_;constructor;try intro K hK))|((with_reducible first|refine hZ _ _ ?_|refine W_rg ?_|skip);repeat1' simp only[push_cast,seval,-Nat.reduceSubDiff])|((repeat((fail_if_success with_reducible refine hK _ _ ?_);clear hK K));with_reducible refine hK _ _ ?_;clear hK K))
    obtain ⟨P6, hA6, _⟩ := h6.ar
    have ok6 := okOf r3 (by omega)
    refine (tree_a hA6 (by have := ok6.L; omega) ok6.at_).mono ?_
    rintro v w7 ⟨T6, bo6, hT6, hTL6, hx7, -, -⟩
    (repeat first|(with_reducible first|(refine hK _ _ ?_;clear hK K)|refine ‹∀σ w,_→K σ w› _ _ ?_|(refine W_st ?_;constructor;try intro K hK))|((with_reducible first|refine hZ _ _ ?_|refine W_rg ?_|skip);repeat1' simp only[push_cast,seval,-Nat.reduceSubDiff])|((repeat((fail_if_success with_reducible refine hK _ _ ?_);clear hK K));with_reducible refine hK _ _ ?_;clear hK K))
    refine (txts (w := w7) r3 (by omega) hT6 hTL6).mono ?_
    intro v w' ⟨hv', hw'⟩
    subst hv'; subst w'
    (repeat first|(with_reducible first|(refine hK _ _ ?_;clear hK K)|refine ‹∀σ w,_→K σ w› _ _ ?_|(refine W_st ?_;constructor;try intro K hK))|((with_reducible first|refine hZ _ _ ?_|refine W_rg ?_|skip);repeat1' simp only[push_cast,seval,-Nat.reduceSubDiff,eq_self,not_true_eq_false,b2])|((repeat((fail_if_success with_reducible refine hK _ _ ?_);clear hK K));with_reducible refine hK _ _ ?_;clear hK K))
    refine ⟨(k + 1, b6), by show ends.length - (k + 1) < ends.length - k; omega, ?_⟩
    (repeat simp only [push_cast, seval, -Nat.reduceSubDiff])
    exact ⟨by omega, r3, h6.pass hx7⟩
  · have hke : k = ends.length := by omega
    subst hke
    have b0' : ¬ (ends.length : Int) < (ends.length : Int) := by omega
    (repeat first|(with_reducible first|(refine hK _ _ ?_;clear hK K)|refine ‹∀σ w,_→K σ w› _ _ ?_|(refine W_st ?_;constructor;try intro K hK))|((with_reducible first|refine hZ _ _ ?_|refine W_rg ?_|skip);repeat1' simp only[push_cast,seval,-Nat.reduceSubDiff,b0'])|((repeat((fail_if_success with_reducible refine hK _ _ ?_);clear hK K));with_reducible refine hK _ _ ?_;clear hK K))
    refine (berr0_c h4 hAk.at_.bt.er).mono ?_
    rintro v w8 ⟨rfl, hx8⟩
    have hxx := h4.out.trans hx8
    (repeat first|(with_reducible first|(refine hK _ _ ?_;clear hK K)|refine ‹∀σ w,_→K σ w› _ _ ?_|(refine W_st ?_;constructor;try intro K hK))|((with_reducible first|refine hZ _ _ ?_|refine W_rg ?_|skip);repeat1' simp only[push_cast,seval,-Nat.reduceSubDiff,eq_self])|((repeat((fail_if_success with_reducible refine hK _ _ ?_);clear hK K));with_reducible refine hK _ _ ?_;clear hK K))
    refine (nested_c (hg.ext hxx)).mono ?_
    rintro v w9 ⟨rfl, hy⟩
    (repeat first|(with_reducible first|(refine hK _ _ ?_;clear hK K)|refine ‹∀σ w,_→K σ w› _ _ ?_|(refine W_st ?_;constructor;try intro K hK))|((with_reducible first|refine hZ _ _ ?_|refine W_rg ?_|skip);repeat1' simp only[push_cast,seval,-Nat.reduceSubDiff])|((repeat((fail_if_success with_reducible refine hK _ _ ?_);clear hK K));with_reducible refine hK _ _ ?_;clear hK K))
    exact hxx.trans hy
end Go.Proofs.YtgnnlaeikcnhcaaGreatDoor
end
section
set_option linter.unusedSimpArgs false
set_option linter.unusedVariables false
namespace Go.Proofs.YtgnnlaeikcnhcaaGreatDoor
open Go Go.Vk Go.RowKit Go.Extern.Stop Go.Stop Go.Extern
def hv (t : Nat) : Value := .pointer (some ⟨5, t, none⟩)
end Go.Proofs.YtgnnlaeikcnhcaaGreatDoor
end
section
set_option linter.unusedSimpArgs false
set_option linter.unusedVariables false
namespace Go.Proofs.YtgnnlaeikcnhcaaGreatDoor
open Go Go.Vk Go.RowKit
/-- the error's type, as it lies -/
def ET (w : World) : Prop := w.cell? ⟨1, 0, none⟩ = some (.iface 192 (.agg #[.pointer (some ⟨5, 65, none⟩)]))
theorem ET.ext {w w' : World} (h : ET w) (hx : Ext w w') : ET w' := cell_ext hx h
set_option maxHeartbeats 40000000
end Go.Proofs.YtgnnlaeikcnhcaaGreatDoor
end
section
set_option linter.unusedSimpArgs false
set_option linter.unusedVariables false
namespace Go.Vk
theorem and_split {a b : Bool} (ha : a = true) (hb : b = true) : (a && b) = true := by rw [ha, hb]; rfl
end Go.Vk
end
section
set_option linter.unusedSimpArgs false
set_option linter.unusedVariables false
namespace Go.Vk
open Go Go.RowKit Go.WideShapes Go.ChangeShapes
theorem wf_u8h {n : Int} (h : (Lit.int .u8 n).wf = true) : 0 ≤ n ∧ n ≤ 255 := by
  simp only [Lit.wf, Bool.and_eq_true, decide_eq_true_eq] at h
  have e1 : IntKind.u8.min = 0 := rfl
  have e2 : IntKind.u8.max = 255 := by decide
  rw [e1, e2] at h; omega
theorem rd_u8s {H : Type} {enc : TypeId × Value → H} {P : Program} {W : World} {base : Nat} {sp : Nat → Bool} {hd : Bool} {t e : TypeId} {v : Value} {d : DataW H} {ps : List MemPlace} {r : Reach} {b0 : Nat} (ht : P.underlying t = some (.slice e)) (he : P.underlying e = some (.int .u8)) (hc : P.cellsOf e = 1)
    (hv : Value.okWide P W r b0 t v) (h : DataW.Trod enc P W base sp hd t v d ps) : ∃ l : List Nat, RdAt W 1 v (u8Cells l) ∧ ∀ c ∈ l, c < 256 := by
  obtain ⟨fuel, h⟩ := h
  obtain ⟨a0, n0, c0, rfl⟩ := okWide_slice ht hv
  rcases open_ints ht he hc h with ⟨h1, _⟩ | ⟨a, len, cap, zs, h1, h2, h3, h4, h5, h6, h7, h8⟩
  · cases h1
    exact ⟨[], ⟨none, 0, 0, rfl, Nat.le_refl _, rfl, fun i u hu => by simp [u8Cells] at hu⟩, by simp⟩
  · cases h1
    have hlm : n0 ≤ zs.length := by rw [h5]; split <;> omega
    have hz : ∀ i, i < n0 → zs.getD i 0 ∈ zs := fun i hi => by
      have hi2 : i < zs.length := by omega
      have : zs.getD i 0 = zs[i] := by simp [List.getD, hi2]
      rw [this]; exact List.getElem_mem hi2
    refine ⟨(List.range n0).map fun i => (zs.getD i 0).toNat, rd_of h3 (by simp [u8Cells]) fun i hi => ?_, fun c hc => ?_⟩
    · simp only [u8Cells, List.length_map, List.length_range] at hi
      have hw := wf_u8h (h8 _ (hz i hi))
      rw [h7 i (by omega)]
      have e : ((zs.getD i 0).toNat : Int) = zs.getD i 0 := by omega
      simp only [u8Cells, List.map_map, List.getElem?_map, List.getElem?_range hi, Option.map_some, Function.comp, e]
    · simp only [List.mem_map, List.mem_range] at hc
      obtain ⟨i, hi, rfl⟩ := hc
      have hw := wf_u8h (h8 _ (hz i hi))
      omega
structure AcF where
  kd : Int
  i : Int
  j : Int
def AcF.cells (x : AcF) : List Value := [.int .u8 x.kd, .int .i64 x.i, .int .i64 x.j]
end Go.Vk
namespace Go.Proofs.YtgnnlaeikcnhcaaGreatDoor
open Go Go.Vk Go.RowKit Go.WideShapes Go.ChangeShapes
theorem h5cells : Tryz.prog.cellsOf 5 = 1 := by kernel_rfl
end Go.Proofs.YtgnnlaeikcnhcaaGreatDoor
end
