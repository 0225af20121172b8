/- What the proof leans on, part 5 of 11. -/
import Derived.Test.YtkafpameheohdaaDoorQStackPlayD
section
set_option linter.unusedSimpArgs false
set_option linter.unusedVariables false
namespace Go.Vk
open Go
def replS (L : List Nd) (s : List OpS) (k i : Int) : List OpS × Int := if ((nd? L i).getD zN).kind = 3 then (if 0 ≤ k ∧ k < s.length then (s.set k.toNat (opN L i), 0) else (s, 2)) else (s, 2)
def remS (s : List OpS) (i : Int) : List OpS × Int := if indexS s i < 0 then (s, 4) else (s.eraseIdx (indexS s i).toNat, 0)
theorem opCells_set {s : List OpS} {k : Nat} (hk : k < s.length) (O : OpS) : (opCells s).take (k * 3) ++ O.cells ++ (opCells s).drop (k * 3 + O.cells.length) = opCells (s.set k O) := by
  have h3 : k * 3 + O.cells.length = (k + 1) * 3 := by rw [OpS.len3]; omega
  rw [h3, opCells_take, opCells_drop, List.set_eq_take_append_cons_drop, if_pos hk, opCells_append]
  simp [opCells]
end Go.Vk
namespace Go.Proofs.YtkafpameheohdaaDoor
open Go Go.Vk
set_option maxHeartbeats 40000000
section
variable {w0 w : World} {Q : Nat → Prop} {ps pa : Nat} {L : List Nd} {s : List OpS}
theorem srep_c (h : StAt w0 w Q ps pa L s) (hb : L.length < 100000) (ha : ∀ n ∈ L, n.attrs.length < 1000000) (hs : s.length < 10000) (k i : Int) : Gives Tryd.prog 27 #[.pointer (some ⟨ps, 0, none⟩), .int .i64 k, .int .i64 i] w fun v w' => v = .int .i64 (replS L s k i).2 ∧ StAt w0 w' Q ps pa L (replS L s k i).1 ∧ Upd (AF w0 Q) w w' := by
  refine Gives.of_W Tryd.call27 Tryd.func27 rfl Tryd.ntmps27 (by simp) ?_; intro Z hZ
  (repeat (first | (with_reducible first | (refine hK _ _ ?_; clear hK K) | refine (show ∀ σ' w', _ → K σ' w' from by assumption) _ _ ?_ | refine W_seq_k fun K hK => ?_ | refine W_block_k fun K hK => ?_ | refine W_skip ?_ | refine W_ret ?_) | ((first | ((with_reducible refine W_id ?_); refine W_reg (by decide) (by rfl) ?_) | (with_reducible first | refine W_cond ?_ | refine hZ _ _ ?_ | refine W_exit ?_ | refine Wo_id ?_)); repeat1' simp only [push_cast, Nat.reduceBEq, Nat.reduceLT, Nat.reduceEqDiff, reduceIte, reduceCtorEq, Nat.reduceMul, Nat.reduceAdd, Nat.reduceSub, Int.reduceEq, Int.reduceLT, Int.reduceLE, Int.reduceNeg, Int.reduceAdd, Int.reduceSub, Int.reduceMul, Nat.reduceLeDiff, Int.reduceToNat]) | ((repeat ((fail_if_success with_reducible refine hK _ _ ?_); clear hK K)); (with_reducible refine hK _ _ ?_); clear hK K)))
  refine (sel_c h hb ha i).mono ?_
  rintro v w2 ⟨rfl, hx2⟩
  have h2 := h.pass hx2
  obtain ⟨O, hO⟩ : ∃ O : OpS, (if ((nd? L i).getD zN).kind = 3 then (opN L i).row else zS.row) = O.row ∧ (((nd? L i).getD zN).kind = 3 → O = opN L i) := by
    by_cases hk : ((nd? L i).getD zN).kind = 3
    · exact ⟨opN L i, if_pos hk, fun _ => rfl⟩
    · exact ⟨zS, if_neg hk, fun h => absurd h hk⟩
  rw [hO.1]
  have hO := hO.2
  generalize he : (if ((nd? L i).getD zN).kind = 3 then (0 : Int) else 2) = e
  unfold OpS.row
  ((repeat simp only [push_cast, Nat.reduceBEq, Nat.reduceLT, Nat.reduceEqDiff, reduceIte, reduceCtorEq, Nat.reduceMul, Nat.reduceAdd, Nat.reduceSub, Int.reduceEq, Int.reduceLT, Int.reduceLE, Int.reduceNeg, Int.reduceAdd, Int.reduceSub, Int.reduceMul, Nat.reduceLeDiff, Int.reduceToNat, RunV_zero Tryd.zeroValue79, ext0, ext1, vcells_agg]); (repeat (first | (with_reducible first | (refine hK _ _ ?_; clear hK K) | refine (show ∀ σ' w', _ → K σ' w' from by assumption) _ _ ?_ | refine W_seq_k fun K hK => ?_ | refine W_block_k fun K hK => ?_ | refine W_skip ?_ | refine W_ret ?_) | ((first | ((with_reducible refine W_id ?_); refine W_reg (by decide) (by rfl) ?_) | (with_reducible first | refine W_cond ?_ | refine hZ _ _ ?_ | refine W_exit ?_ | refine Wo_id ?_)); repeat1' simp only [push_cast, Nat.reduceBEq, Nat.reduceLT, Nat.reduceEqDiff, reduceIte, reduceCtorEq, Nat.reduceMul, Nat.reduceAdd, Nat.reduceSub, Int.reduceEq, Int.reduceLT, Int.reduceLE, Int.reduceNeg, Int.reduceAdd, Int.reduceSub, Int.reduceMul, Nat.reduceLeDiff, Int.reduceToNat, RunV_zero Tryd.zeroValue79, ext0, ext1, vcells_agg]) | ((repeat ((fail_if_success with_reducible refine hK _ _ ?_); clear hK K)); (with_reducible refine hK _ _ ?_); clear hK K))))
  obtain ⟨hx3, z3, hs3⟩ := new3 w2 (.int .i64 0) (.int .i64 0) (.string ⟨#[]⟩) (.int .i64 O.node) (.int .i64 O.space) (.string O.name) 79
  simp only [can_h, heap_alloc_h, if_true, canO_cells, List.size_toArray, List.length_cons, List.length_nil, Nat.zero_add, Nat.reduceAdd, Nat.reduceLT, true_and]
  generalize setCells (w2.alloc (.cells #[.int .i64 0, .int .i64 0, .string ⟨#[]⟩] 79)) ⟨w2.heap.size, 0, none⟩ [.int .i64 O.node, .int .i64 O.space, .string O.name] 0 = w3 at *
  have hx13 : Ext w w3 := hx2.trans hx3
  have h3 := h2.pass hx3
  obtain ⟨p7, hp7⟩ : ∃ p7, p7 = w2.heap.size := ⟨_, rfl⟩
  rw [← hp7] at z3 hs3 ⊢
  by_cases hk : ((nd? L i).getD zN).kind = 3
  · rw [if_pos hk] at he
    subst he
    rw [hO hk] at z3
    by_cases hkk : 0 ≤ k ∧ k < s.length
    · obtain ⟨k, rfl⟩ : ∃ q : Nat, k = (q : Int) := ⟨k.toNat, by omega⟩
      have b0 : ¬ (k : Int) < 0 := by omega
      have b1 : ¬ (s.length : Int) ≤ (k : Int) := by omega
      have b2 : (0 : Int) ≤ (k : Int) := by omega
      have b3 : (k : Int) < (s.length : Int) := by omega
      have hkl : k < s.length := by omega
      have eI : replS L s k i = (s.set k (opN L i), 0) := by unfold replS; rw [if_pos hk, if_pos hkk, Int.toNat_natCast]
      obtain ⟨sv, bo, hF, hA, hpl, hbo, hQ⟩ := id h3
      have h0 := hF.head
      obtain ⟨b, o, n, c, rfl, hbo1⟩ := hF.sl.some_of (ops_ne hkl)
      obtain ⟨_, _, e2, hc⟩ := ops_len hF.sl
      cases e2
      ((repeat simp only [push_cast, Nat.reduceBEq, Nat.reduceLT, Nat.reduceEqDiff, reduceIte, reduceCtorEq, Nat.reduceMul, Nat.reduceAdd, Nat.reduceSub, Int.reduceEq, Int.reduceLT, Int.reduceLE, Int.reduceNeg, Int.reduceAdd, Int.reduceSub, Int.reduceMul, Nat.reduceLeDiff, Int.reduceToNat, not_true_eq_false, not_false_eq_true, decide_true, decide_false, b0, b1, b2, b3, cell_h, cellO_cells, h0]); (repeat (first | (with_reducible first | (refine hK _ _ ?_; clear hK K) | refine (show ∀ σ' w', _ → K σ' w' from by assumption) _ _ ?_ | refine W_seq_k fun K hK => ?_ | refine W_block_k fun K hK => ?_ | refine W_skip ?_ | refine W_ret ?_) | ((first | ((with_reducible refine W_id ?_); refine W_reg (by decide) (by rfl) ?_) | (with_reducible first | refine W_cond ?_ | refine hZ _ _ ?_ | refine W_exit ?_ | refine Wo_id ?_)); repeat1' simp only [push_cast, Nat.reduceBEq, Nat.reduceLT, Nat.reduceEqDiff, reduceIte, reduceCtorEq, Nat.reduceMul, Nat.reduceAdd, Nat.reduceSub, Int.reduceEq, Int.reduceLT, Int.reduceLE, Int.reduceNeg, Int.reduceAdd, Int.reduceSub, Int.reduceMul, Nat.reduceLeDiff, Int.reduceToNat, not_true_eq_false, not_false_eq_true, decide_true, decide_false, b0, b1, b2, b3, cell_h, cellO_cells, h0]) | ((repeat ((fail_if_success with_reducible refine hK _ _ ?_); clear hK K)); (with_reducible refine hK _ _ ?_); clear hK K))))
      refine W_draw (.pas 0 (.pas 1 (.pas 2 (.pas 3 (.pas 4 (.pas 5 (.pas 6 (.last 7)))))))) (fun q => q = ps ∨ q = p7) (by decide) mixed (by kernel_rfl) ?_
      have hxd := Ext.drew w3
      have hF4 := hF.ext hxd
      have hA4 := hA.pass hxd
      have h04 := hF4.head
      have z4 := hxd.blk z3
      generalize w3.drew = w4 at *
      have hsl := hF4.sl
      have c0 : canStore w4 ⟨b, o + k * 3, none⟩ := hsl.canW (q := k * 3) (by omega)
      have c1 : canStore w4 ⟨b, o + k * 3 + 1, none⟩ := hsl.canW (q := k * 3 + 1) (by omega)
      have c2 : canStore w4 ⟨b, o + k * 3 + 2, none⟩ := hsl.canW (q := k * 3 + 2) (by omega)
      rw [can_h] at c0 c1 c2
      have g1 := hsl.writeW (q := k * 3) (opN L i).cells (by rw [OpS.len3]; omega)
      rw [opCells_set hkl] at g1
      have g2 : Upd (fun q => bo = some q) w4 (setCells w4 ⟨b, o + k * 3, none⟩ (opN L i).cells 0) := Upd.setCells (F := fun q => bo = some q) (a := ⟨b, o + k * 3, none⟩) w4 hbo1 (opN L i).cells 0
      obtain ⟨k1, k2⟩ := st_same (s' := s.set k (opN L i)) hF4 hA4 hpl hbo hQ g1 g2
      (repeat (first | ((first | refine pas_plain rfl ?_ | refine pas_g rfl rfl ?_ | refine act_plain rfl ?_ | refine act_g rfl rfl ?_ | refine last_plain rfl ?_ | refine tail_plain rfl ?_ | refine tail_g rfl rfl ?_); (repeat simp only [push_cast, Nat.reduceBEq, Nat.reduceLT, Nat.reduceEqDiff, reduceIte, reduceCtorEq, Nat.reduceMul, Nat.reduceAdd, Nat.reduceSub, Int.reduceEq, Int.reduceLT, Int.reduceLE, Int.reduceNeg, Int.reduceAdd, Int.reduceSub, Int.reduceMul, Nat.reduceLeDiff, Int.reduceToNat, cell_h, can_h, cellO_cells, canO_cells, setO_cells, heap_set_h, heap_alloc_h, size_set_h, size_alloc_h, vcells_agg, succ_ne, ne_succ, List.setIfInBounds_toArray, List.set_cons_succ, List.set_cons_zero, setCells, drew_h, true_or, or_true, h04, z4, b0, b1, b2, b3, c0, c1, c2, true_or, or_true, eq_self])) | (refine tail_fin ?_) | (refine sch_fin ?_)))
      ((repeat simp only [push_cast, Nat.reduceBEq, Nat.reduceLT, Nat.reduceEqDiff, reduceIte, reduceCtorEq, Nat.reduceMul, Nat.reduceAdd, Nat.reduceSub, Int.reduceEq, Int.reduceLT, Int.reduceLE, Int.reduceNeg, Int.reduceAdd, Int.reduceSub, Int.reduceMul, Nat.reduceLeDiff, Int.reduceToNat, c0, c1, c2]); (repeat (first | (with_reducible first | (refine hK _ _ ?_; clear hK K) | refine (show ∀ σ' w', _ → K σ' w' from by assumption) _ _ ?_ | refine W_seq_k fun K hK => ?_ | refine W_block_k fun K hK => ?_ | refine W_skip ?_ | refine W_ret ?_) | ((first | ((with_reducible refine W_id ?_); refine W_reg (by decide) (by rfl) ?_) | (with_reducible first | refine W_cond ?_ | refine hZ _ _ ?_ | refine W_exit ?_ | refine Wo_id ?_)); repeat1' simp only [push_cast, Nat.reduceBEq, Nat.reduceLT, Nat.reduceEqDiff, reduceIte, reduceCtorEq, Nat.reduceMul, Nat.reduceAdd, Nat.reduceSub, Int.reduceEq, Int.reduceLT, Int.reduceLE, Int.reduceNeg, Int.reduceAdd, Int.reduceSub, Int.reduceMul, Nat.reduceLeDiff, Int.reduceToNat, c0, c1, c2]) | ((repeat ((fail_if_success with_reducible refine hK _ _ ?_); clear hK K)); (with_reducible refine hK _ _ ?_); clear hK K))))
      rw [eI]
      exact ⟨rfl, k1, Upd.trans (hx13.trans hxd).upd k2 fun _ _ h => h⟩
    · have eI : replS L s k i = (s, 2) := by unfold replS; rw [if_pos hk, if_neg hkk]
      by_cases hk0 : k < 0
      · ((repeat simp only [push_cast, Nat.reduceBEq, Nat.reduceLT, Nat.reduceEqDiff, reduceIte, reduceCtorEq, Nat.reduceMul, Nat.reduceAdd, Nat.reduceSub, Int.reduceEq, Int.reduceLT, Int.reduceLE, Int.reduceNeg, Int.reduceAdd, Int.reduceSub, Int.reduceMul, Nat.reduceLeDiff, Int.reduceToNat, not_true_eq_false, not_false_eq_true, decide_true, decide_false, hk0]); (repeat (first | (with_reducible first | (refine hK _ _ ?_; clear hK K) | refine (show ∀ σ' w', _ → K σ' w' from by assumption) _ _ ?_ | refine W_seq_k fun K hK => ?_ | refine W_block_k fun K hK => ?_ | refine W_skip ?_ | refine W_ret ?_) | ((first | ((with_reducible refine W_id ?_); refine W_reg (by decide) (by rfl) ?_) | (with_reducible first | refine W_cond ?_ | refine hZ _ _ ?_ | refine W_exit ?_ | refine Wo_id ?_)); repeat1' simp only [push_cast, Nat.reduceBEq, Nat.reduceLT, Nat.reduceEqDiff, reduceIte, reduceCtorEq, Nat.reduceMul, Nat.reduceAdd, Nat.reduceSub, Int.reduceEq, Int.reduceLT, Int.reduceLE, Int.reduceNeg, Int.reduceAdd, Int.reduceSub, Int.reduceMul, Nat.reduceLeDiff, Int.reduceToNat, not_true_eq_false, not_false_eq_true, decide_true, decide_false, hk0]) | ((repeat ((fail_if_success with_reducible refine hK _ _ ?_); clear hK K)); (with_reducible refine hK _ _ ?_); clear hK K))))
        rw [eI]
        exact ⟨rfl, h3, hx13.upd⟩
      · obtain ⟨sv, bo, hF, _⟩ := id h3
        have h0 := hF.head
        obtain ⟨a, c, rfl, hc⟩ := ops_len hF.sl
        have b1 : (s.length : Int) ≤ k := by omega
        ((repeat simp only [push_cast, Nat.reduceBEq, Nat.reduceLT, Nat.reduceEqDiff, reduceIte, reduceCtorEq, Nat.reduceMul, Nat.reduceAdd, Nat.reduceSub, Int.reduceEq, Int.reduceLT, Int.reduceLE, Int.reduceNeg, Int.reduceAdd, Int.reduceSub, Int.reduceMul, Nat.reduceLeDiff, Int.reduceToNat, not_true_eq_false, not_false_eq_true, decide_true, decide_false, hk0, b1, cell_h, cellO_cells, h0]); (repeat (first | (with_reducible first | (refine hK _ _ ?_; clear hK K) | refine (show ∀ σ' w', _ → K σ' w' from by assumption) _ _ ?_ | refine W_seq_k fun K hK => ?_ | refine W_block_k fun K hK => ?_ | refine W_skip ?_ | refine W_ret ?_) | ((first | ((with_reducible refine W_id ?_); refine W_reg (by decide) (by rfl) ?_) | (with_reducible first | refine W_cond ?_ | refine hZ _ _ ?_ | refine W_exit ?_ | refine Wo_id ?_)); repeat1' simp only [push_cast, Nat.reduceBEq, Nat.reduceLT, Nat.reduceEqDiff, reduceIte, reduceCtorEq, Nat.reduceMul, Nat.reduceAdd, Nat.reduceSub, Int.reduceEq, Int.reduceLT, Int.reduceLE, Int.reduceNeg, Int.reduceAdd, Int.reduceSub, Int.reduceMul, Nat.reduceLeDiff, Int.reduceToNat, not_true_eq_false, not_false_eq_true, decide_true, decide_false, hk0, b1, cell_h, cellO_cells, h0]) | ((repeat ((fail_if_success with_reducible refine hK _ _ ?_); clear hK K)); (with_reducible refine hK _ _ ?_); clear hK K))))
        rw [eI]
        exact ⟨rfl, h3, hx13.upd⟩
  · have eI : replS L s k i = (s, 2) := by unfold replS; rw [if_neg hk]
    rw [if_neg hk] at he
    subst he
    ((repeat simp only [push_cast, Nat.reduceBEq, Nat.reduceLT, Nat.reduceEqDiff, reduceIte, reduceCtorEq, Nat.reduceMul, Nat.reduceAdd, Nat.reduceSub, Int.reduceEq, Int.reduceLT, Int.reduceLE, Int.reduceNeg, Int.reduceAdd, Int.reduceSub, Int.reduceMul, Nat.reduceLeDiff, Int.reduceToNat, not_true_eq_false, not_false_eq_true, decide_true, decide_false]); (repeat (first | (with_reducible first | (refine hK _ _ ?_; clear hK K) | refine (show ∀ σ' w', _ → K σ' w' from by assumption) _ _ ?_ | refine W_seq_k fun K hK => ?_ | refine W_block_k fun K hK => ?_ | refine W_skip ?_ | refine W_ret ?_) | ((first | ((with_reducible refine W_id ?_); refine W_reg (by decide) (by rfl) ?_) | (with_reducible first | refine W_cond ?_ | refine hZ _ _ ?_ | refine W_exit ?_ | refine Wo_id ?_)); repeat1' simp only [push_cast, Nat.reduceBEq, Nat.reduceLT, Nat.reduceEqDiff, reduceIte, reduceCtorEq, Nat.reduceMul, Nat.reduceAdd, Nat.reduceSub, Int.reduceEq, Int.reduceLT, Int.reduceLE, Int.reduceNeg, Int.reduceAdd, Int.reduceSub, Int.reduceMul, Nat.reduceLeDiff, Int.reduceToNat, not_true_eq_false, not_false_eq_true, decide_true, decide_false]) | ((repeat ((fail_if_success with_reducible refine hK _ _ ?_); clear hK K)); (with_reducible refine hK _ _ ?_); clear hK K))))
    rw [eI]
    exact ⟨rfl, h3, hx13.upd⟩
theorem spop_c (h : StAt w0 w Q ps pa L s) (hs : s.length < 10000) : Gives Tryd.prog 15 #[.pointer (some ⟨ps, 0, none⟩)] w fun v w' => v = .int .i64 (topS s) ∧ StAt w0 w' Q ps pa L s.dropLast ∧ Upd (AF w0 Q) w w' := by
  obtain ⟨sv, bo, hF, hA, hpl, hbo, hQ⟩ := id h
  have hQl : ∀ b, Q b → b < w.heap.size := fun b hb => hA.low b (.inl hb)
  have h0 := hF.head
  refine Gives.of_W Tryd.call15 Tryd.func15 rfl Tryd.ntmps15 (by simp) ?_; intro Z hZ
  (repeat (first | (with_reducible first | (refine hK _ _ ?_; clear hK K) | refine (show ∀ σ' w', _ → K σ' w' from by assumption) _ _ ?_ | refine W_seq_k fun K hK => ?_ | refine W_block_k fun K hK => ?_ | refine W_skip ?_ | refine W_ret ?_) | ((first | ((with_reducible refine W_id ?_); refine W_reg (by decide) (by rfl) ?_) | (with_reducible first | refine W_cond ?_ | refine hZ _ _ ?_ | refine W_exit ?_ | refine Wo_id ?_)); repeat1' simp only [push_cast, Nat.reduceBEq, Nat.reduceLT, Nat.reduceEqDiff, reduceIte, reduceCtorEq, Nat.reduceMul, Nat.reduceAdd, Nat.reduceSub, Int.reduceEq, Int.reduceLT, Int.reduceLE, Int.reduceNeg, Int.reduceAdd, Int.reduceSub, Int.reduceMul, Nat.reduceLeDiff, Int.reduceToNat]) | ((repeat ((fail_if_success with_reducible refine hK _ _ ?_); clear hK K)); (with_reducible refine hK _ _ ?_); clear hK K)))
  refine (stop_c hF (by omega)).mono ?_
  intro v w' ⟨hv, hw⟩
  subst hv; subst w'
  ((repeat simp only [push_cast, Nat.reduceBEq, Nat.reduceLT, Nat.reduceEqDiff, reduceIte, reduceCtorEq, Nat.reduceMul, Nat.reduceAdd, Nat.reduceSub, Int.reduceEq, Int.reduceLT, Int.reduceLE, Int.reduceNeg, Int.reduceAdd, Int.reduceSub, Int.reduceMul, Nat.reduceLeDiff, Int.reduceToNat]); (repeat (first | (with_reducible first | (refine hK _ _ ?_; clear hK K) | refine (show ∀ σ' w', _ → K σ' w' from by assumption) _ _ ?_ | refine W_seq_k fun K hK => ?_ | refine W_block_k fun K hK => ?_ | refine W_skip ?_ | refine W_ret ?_) | ((first | ((with_reducible refine W_id ?_); refine W_reg (by decide) (by rfl) ?_) | (with_reducible first | refine W_cond ?_ | refine hZ _ _ ?_ | refine W_exit ?_ | refine Wo_id ?_)); repeat1' simp only [push_cast, Nat.reduceBEq, Nat.reduceLT, Nat.reduceEqDiff, reduceIte, reduceCtorEq, Nat.reduceMul, Nat.reduceAdd, Nat.reduceSub, Int.reduceEq, Int.reduceLT, Int.reduceLE, Int.reduceNeg, Int.reduceAdd, Int.reduceSub, Int.reduceMul, Nat.reduceLeDiff, Int.reduceToNat]) | ((repeat ((fail_if_success with_reducible refine hK _ _ ?_); clear hK K)); (with_reducible refine hK _ _ ?_); clear hK K))))
  refine (slen_c hF).mono ?_
  intro v w' ⟨hv, hw⟩
  subst hv; subst w'
  by_cases hn : 0 < s.length
  · have b0 : (0 : Int) < (s.length : Int) := by omega
    have s0 : inI64 ((s.length : Int) - 1) := by unfold inI64; omega
    obtain ⟨b, o, n, c, rfl, hbo1⟩ := hF.sl.some_of (ops_ne hn)
    obtain ⟨_, _, e2, hc⟩ := ops_len hF.sl
    cases e2
    obtain ⟨m, hm⟩ : ∃ m : Nat, (s.length : Int) - 1 = m := ⟨s.length - 1, by omega⟩
    rw [hm] at s0
    have b1 : (0 : Int) ≤ (m : Int) := by omega
    have b2 : (m : Int) ≤ (c : Int) := by omega
    have b3 : (0 : Int) ≤ (c : Int) := by omega
    have x1 := hF.sl.partW (l := 0) (k := m) (m := c) (by omega) (by omega) (by omega) (by omega)
    simp only [Nat.zero_mul, Nat.sub_zero, List.drop_zero, opCells_take] at x1
    obtain ⟨k1, k2, k3⟩ := st_put hF hA hpl hbo hQ hQl x1 (Upd.refl _ _) (fun b hb => .inl hb)
    have e : s.dropLast = s.take m := by rw [List.dropLast_eq_take]; congr 1; omega
    ((repeat simp only [push_cast, Nat.reduceBEq, Nat.reduceLT, Nat.reduceEqDiff, reduceIte, reduceCtorEq, Nat.reduceMul, Nat.reduceAdd, Nat.reduceSub, Int.reduceEq, Int.reduceLT, Int.reduceLE, Int.reduceNeg, Int.reduceAdd, Int.reduceSub, Int.reduceMul, Nat.reduceLeDiff, Int.reduceToNat, b0, hm, s0, b1, b2, b3, cell_h, cellO_cells, h0, Nat.sub_zero, k1]); (repeat (first | (with_reducible first | (refine hK _ _ ?_; clear hK K) | refine (show ∀ σ' w', _ → K σ' w' from by assumption) _ _ ?_ | refine W_seq_k fun K hK => ?_ | refine W_block_k fun K hK => ?_ | refine W_skip ?_ | refine W_ret ?_) | ((first | ((with_reducible refine W_id ?_); refine W_reg (by decide) (by rfl) ?_) | (with_reducible first | refine W_cond ?_ | refine hZ _ _ ?_ | refine W_exit ?_ | refine Wo_id ?_)); repeat1' simp only [push_cast, Nat.reduceBEq, Nat.reduceLT, Nat.reduceEqDiff, reduceIte, reduceCtorEq, Nat.reduceMul, Nat.reduceAdd, Nat.reduceSub, Int.reduceEq, Int.reduceLT, Int.reduceLE, Int.reduceNeg, Int.reduceAdd, Int.reduceSub, Int.reduceMul, Nat.reduceLeDiff, Int.reduceToNat, b0, hm, s0, b1, b2, b3, cell_h, cellO_cells, h0, Nat.sub_zero, k1]) | ((repeat ((fail_if_success with_reducible refine hK _ _ ?_); clear hK K)); (with_reducible refine hK _ _ ?_); clear hK K))))
    rw [e]
    exact ⟨k2, k3⟩
  · have b0 : ¬ (0 : Int) < (s.length : Int) := by omega
    have e : s.dropLast = s := by rw [List.eq_nil_of_length_eq_zero (by omega : s.length = 0)]; rfl
    ((repeat simp only [push_cast, Nat.reduceBEq, Nat.reduceLT, Nat.reduceEqDiff, reduceIte, reduceCtorEq, Nat.reduceMul, Nat.reduceAdd, Nat.reduceSub, Int.reduceEq, Int.reduceLT, Int.reduceLE, Int.reduceNeg, Int.reduceAdd, Int.reduceSub, Int.reduceMul, Nat.reduceLeDiff, Int.reduceToNat, b0]); (repeat (first | (with_reducible first | (refine hK _ _ ?_; clear hK K) | refine (show ∀ σ' w', _ → K σ' w' from by assumption) _ _ ?_ | refine W_seq_k fun K hK => ?_ | refine W_block_k fun K hK => ?_ | refine W_skip ?_ | refine W_ret ?_) | ((first | ((with_reducible refine W_id ?_); refine W_reg (by decide) (by rfl) ?_) | (with_reducible first | refine W_cond ?_ | refine hZ _ _ ?_ | refine W_exit ?_ | refine Wo_id ?_)); repeat1' simp only [push_cast, Nat.reduceBEq, Nat.reduceLT, Nat.reduceEqDiff, reduceIte, reduceCtorEq, Nat.reduceMul, Nat.reduceAdd, Nat.reduceSub, Int.reduceEq, Int.reduceLT, Int.reduceLE, Int.reduceNeg, Int.reduceAdd, Int.reduceSub, Int.reduceMul, Nat.reduceLeDiff, Int.reduceToNat, b0]) | ((repeat ((fail_if_success with_reducible refine hK _ _ ?_); clear hK K)); (with_reducible refine hK _ _ ?_); clear hK K))))
    rw [e]
    exact ⟨h, Upd.refl _ _⟩
theorem srem_c (h : StAt w0 w Q ps pa L s) (hs : s.length < 10000) (i : Int) : Gives Tryd.prog 29 #[.pointer (some ⟨ps, 0, none⟩), .int .i64 i] w fun v w' => v = .int .i64 (remS s i).2 ∧ StAt w0 w' Q ps pa L (remS s i).1 ∧ Upd (AF w0 Q) w w' := by
  obtain ⟨sv, bo, hF, hA, hpl, hbo, hQ⟩ := id h
  have hQl : ∀ b, Q b → b < w.heap.size := fun b hb => hA.low b (.inl hb)
  have h0 := hF.head
  have hir := lastB_rng (fun k => decide ((s.getD k zS).node = i)) s.length
  have hidx := sindex_c hF (by omega : s.length < 100000) i
  unfold remS
  unfold indexS at *
  generalize lastB (fun k => decide ((s.getD k zS).node = i)) s.length = q at *
  refine Gives.of_W Tryd.call29 Tryd.func29 rfl Tryd.ntmps29 (by simp) ?_; intro Z hZ
  (repeat (first | (with_reducible first | (refine hK _ _ ?_; clear hK K) | refine (show ∀ σ' w', _ → K σ' w' from by assumption) _ _ ?_ | refine W_seq_k fun K hK => ?_ | refine W_block_k fun K hK => ?_ | refine W_skip ?_ | refine W_ret ?_) | ((first | ((with_reducible refine W_id ?_); refine W_reg (by decide) (by rfl) ?_) | (with_reducible first | refine W_cond ?_ | refine hZ _ _ ?_ | refine W_exit ?_ | refine Wo_id ?_)); repeat1' simp only [push_cast, Nat.reduceBEq, Nat.reduceLT, Nat.reduceEqDiff, reduceIte, reduceCtorEq, Nat.reduceMul, Nat.reduceAdd, Nat.reduceSub, Int.reduceEq, Int.reduceLT, Int.reduceLE, Int.reduceNeg, Int.reduceAdd, Int.reduceSub, Int.reduceMul, Nat.reduceLeDiff, Int.reduceToNat]) | ((repeat ((fail_if_success with_reducible refine hK _ _ ?_); clear hK K)); (with_reducible refine hK _ _ ?_); clear hK K)))
  refine (snone_c hF).mono ?_
  intro v w' ⟨hv, hw⟩
  subst hv; subst w'
  ((repeat simp only [push_cast, Nat.reduceBEq, Nat.reduceLT, Nat.reduceEqDiff, reduceIte, reduceCtorEq, Nat.reduceMul, Nat.reduceAdd, Nat.reduceSub, Int.reduceEq, Int.reduceLT, Int.reduceLE, Int.reduceNeg, Int.reduceAdd, Int.reduceSub, Int.reduceMul, Nat.reduceLeDiff, Int.reduceToNat]); (repeat (first | (with_reducible first | (refine hK _ _ ?_; clear hK K) | refine (show ∀ σ' w', _ → K σ' w' from by assumption) _ _ ?_ | refine W_seq_k fun K hK => ?_ | refine W_block_k fun K hK => ?_ | refine W_skip ?_ | refine W_ret ?_) | ((first | ((with_reducible refine W_id ?_); refine W_reg (by decide) (by rfl) ?_) | (with_reducible first | refine W_cond ?_ | refine hZ _ _ ?_ | refine W_exit ?_ | refine Wo_id ?_)); repeat1' simp only [push_cast, Nat.reduceBEq, Nat.reduceLT, Nat.reduceEqDiff, reduceIte, reduceCtorEq, Nat.reduceMul, Nat.reduceAdd, Nat.reduceSub, Int.reduceEq, Int.reduceLT, Int.reduceLE, Int.reduceNeg, Int.reduceAdd, Int.reduceSub, Int.reduceMul, Nat.reduceLeDiff, Int.reduceToNat]) | ((repeat ((fail_if_success with_reducible refine hK _ _ ?_); clear hK K)); (with_reducible refine hK _ _ ?_); clear hK K))))
  refine hidx.mono ?_
  intro v w' ⟨hv, hw⟩
  subst hv; subst w'
  by_cases hq : q < 0
  · ((repeat simp only [push_cast, Nat.reduceBEq, Nat.reduceLT, Nat.reduceEqDiff, reduceIte, reduceCtorEq, Nat.reduceMul, Nat.reduceAdd, Nat.reduceSub, Int.reduceEq, Int.reduceLT, Int.reduceLE, Int.reduceNeg, Int.reduceAdd, Int.reduceSub, Int.reduceMul, Nat.reduceLeDiff, Int.reduceToNat, hq]); (repeat (first | (with_reducible first | (refine hK _ _ ?_; clear hK K) | refine (show ∀ σ' w', _ → K σ' w' from by assumption) _ _ ?_ | refine W_seq_k fun K hK => ?_ | refine W_block_k fun K hK => ?_ | refine W_skip ?_ | refine W_ret ?_) | ((first | ((with_reducible refine W_id ?_); refine W_reg (by decide) (by rfl) ?_) | (with_reducible first | refine W_cond ?_ | refine hZ _ _ ?_ | refine W_exit ?_ | refine Wo_id ?_)); repeat1' simp only [push_cast, Nat.reduceBEq, Nat.reduceLT, Nat.reduceEqDiff, reduceIte, reduceCtorEq, Nat.reduceMul, Nat.reduceAdd, Nat.reduceSub, Int.reduceEq, Int.reduceLT, Int.reduceLE, Int.reduceNeg, Int.reduceAdd, Int.reduceSub, Int.reduceMul, Nat.reduceLeDiff, Int.reduceToNat, hq]) | ((repeat ((fail_if_success with_reducible refine hK _ _ ?_); clear hK K)); (with_reducible refine hK _ _ ?_); clear hK K))))
    exact ⟨h, Upd.refl _ _⟩
  · obtain ⟨k, rfl⟩ : ∃ k : Nat, q = (k : Int) := ⟨q.toNat, by omega⟩
    have b1 : inI64 ((k : Int) + 1) := by unfold inI64; omega
    ((repeat simp only [push_cast, Nat.reduceBEq, Nat.reduceLT, Nat.reduceEqDiff, reduceIte, reduceCtorEq, Nat.reduceMul, Nat.reduceAdd, Nat.reduceSub, Int.reduceEq, Int.reduceLT, Int.reduceLE, Int.reduceNeg, Int.reduceAdd, Int.reduceSub, Int.reduceMul, Nat.reduceLeDiff, Int.reduceToNat, hq, b1, cell_h, cellO_cells, h0]); (repeat (first | (with_reducible first | (refine hK _ _ ?_; clear hK K) | refine (show ∀ σ' w', _ → K σ' w' from by assumption) _ _ ?_ | refine W_seq_k fun K hK => ?_ | refine W_block_k fun K hK => ?_ | refine W_skip ?_ | refine W_ret ?_) | ((first | ((with_reducible refine W_id ?_); refine W_reg (by decide) (by rfl) ?_) | (with_reducible first | refine W_cond ?_ | refine hZ _ _ ?_ | refine W_exit ?_ | refine Wo_id ?_)); repeat1' simp only [push_cast, Nat.reduceBEq, Nat.reduceLT, Nat.reduceEqDiff, reduceIte, reduceCtorEq, Nat.reduceMul, Nat.reduceAdd, Nat.reduceSub, Int.reduceEq, Int.reduceLT, Int.reduceLE, Int.reduceNeg, Int.reduceAdd, Int.reduceSub, Int.reduceMul, Nat.reduceLeDiff, Int.reduceToNat, hq, b1, cell_h, cellO_cells, h0]) | ((repeat ((fail_if_success with_reducible refine hK _ _ ?_); clear hK K)); (with_reducible refine hK _ _ ?_); clear hK K))))
    refine (delete_o hF.sl (by omega) k (by omega)).mono ?_
    rintro v w2 ⟨g1, g2⟩
    obtain ⟨k1, k2, k3⟩ := st_put hF hA hpl hbo hQ hQl g1 g2 fun b hb => .inl hb
    obtain ⟨va, vc, rfl, _⟩ := ops_len g1
    ((repeat simp only [push_cast, Nat.reduceBEq, Nat.reduceLT, Nat.reduceEqDiff, reduceIte, reduceCtorEq, Nat.reduceMul, Nat.reduceAdd, Nat.reduceSub, Int.reduceEq, Int.reduceLT, Int.reduceLE, Int.reduceNeg, Int.reduceAdd, Int.reduceSub, Int.reduceMul, Nat.reduceLeDiff, Int.reduceToNat, k1]); (repeat (first | (with_reducible first | (refine hK _ _ ?_; clear hK K) | refine (show ∀ σ' w', _ → K σ' w' from by assumption) _ _ ?_ | refine W_seq_k fun K hK => ?_ | refine W_block_k fun K hK => ?_ | refine W_skip ?_ | refine W_ret ?_) | ((first | ((with_reducible refine W_id ?_); refine W_reg (by decide) (by rfl) ?_) | (with_reducible first | refine W_cond ?_ | refine hZ _ _ ?_ | refine W_exit ?_ | refine Wo_id ?_)); repeat1' simp only [push_cast, Nat.reduceBEq, Nat.reduceLT, Nat.reduceEqDiff, reduceIte, reduceCtorEq, Nat.reduceMul, Nat.reduceAdd, Nat.reduceSub, Int.reduceEq, Int.reduceLT, Int.reduceLE, Int.reduceNeg, Int.reduceAdd, Int.reduceSub, Int.reduceMul, Nat.reduceLeDiff, Int.reduceToNat, k1]) | ((repeat ((fail_if_success with_reducible refine hK _ _ ?_); clear hK K)); (with_reducible refine hK _ _ ?_); clear hK K))))
    rw [if_neg hq]
    exact ⟨rfl, k2, k3⟩
end
end Go.Proofs.YtkafpameheohdaaDoor
end
section
set_option linter.unusedSimpArgs false
set_option linter.unusedVariables false
namespace Go.Vk
open Go
def untS (s : List OpS) (l : List ByteArray) : List OpS × Int := if lastB (fun k => htmlS (s.getD k zS) l) s.length < 0 then (s, 4) else (s.take (lastB (fun k => htmlS (s.getD k zS) l) s.length).toNat, 0)
/-- how many are left when they go from the top, as long as they are so -/
def dropK (p : OpS → Bool) (s : List OpS) : Nat → Nat
  | 0 => 0
  | k + 1 => if p (s.getD k zS) = true then dropK p s k else k + 1
def goP (pn : ByteArray → Bool) (o : OpS) : Bool := decide (o.space = 0) && pn o.name
def dropS (pn : ByteArray → Bool) (s : List OpS) : List OpS := s.take (dropK (goP pn) s s.length)
def butN (but x : ByteArray) : Bool := !decide (x = but) && impN x
theorem vc_str (s : ByteArray) : (Value.string s).cells = #[.string s] := rfl
theorem vc_int (k : IntKind) (n : Int) : (Value.int k n).cells = #[.int k n] := rfl
theorem vc_ptr (a : Option Addr) : (Value.pointer a).cells = #[.pointer a] := rfl
theorem vc_sl (a : Option Addr) (n c : Nat) : (Value.slice a n c).cells = #[.slice a n c] := rfl
theorem StAt.out2 {w0 w w1 : World} {Q : Nat → Prop} {ps pa : Nat} {L : List Nd} {s : List OpS} (h : StAt w0 w Q ps pa L s) (hu : Upd (AF w0 Q) w w1) : Ext w0 w1 := Upd.trans h.out hu fun b hb hf => by have := hf.1; omega
theorem StAt.less {w0 w : World} {Q Q' : Nat → Prop} {ps pa : Nat} {L : List Nd} {s : List OpS} (h : StAt w0 w Q ps pa L s) (hq : ∀ b, Q' b → Q b) : StAt w0 w Q' ps pa L s := h.app (Ext.refl w) (fun _ _ h => h.elim) fun b hb => .inl (hq b hb)
end Go.Vk
namespace Go.Proofs.YtkafpameheohdaaDoor
open Go Go.Vk
set_option maxHeartbeats 40000000
section
variable {w0 w : World} {Q : Nat → Prop} {ps pa : Nat} {L : List Nd} {s : List OpS}
theorem suntil_c (h : StAt w0 w Q ps pa L s) (hs : s.length < 10000) {nv : Value} {l : List ByteArray} (hn : RdAt w 1 nv (strCells l)) (hl : l.length < 1000000000) : Gives Tryd.prog 19 #[.pointer (some ⟨ps, 0, none⟩), nv] w fun v w' => v = .int .i64 (untS s l).2 ∧ StAt w0 w' Q ps pa L (untS s l).1 ∧ Upd (AF w0 Q) w w' := by
  obtain ⟨sv, bo, hF, hA, hpl, hbo, hQ⟩ := id h
  have hQl : ∀ b, Q b → b < w.heap.size := fun b hb => hA.low b (.inl hb)
  have h0 := hF.head
  have s0 : inI64 ((s.length : Int) - 1) := by unfold inI64; omega
  obtain ⟨a0, c0, e0, hc0⟩ := ops_len hF.sl
  subst e0
  refine Gives.of_W Tryd.call19 Tryd.func19 rfl Tryd.ntmps19 (by simp) ?_; intro Z hZ
  (repeat (first | (with_reducible first | (refine hK _ _ ?_; clear hK K) | refine (show ∀ σ' w', _ → K σ' w' from by assumption) _ _ ?_ | refine W_seq_k fun K hK => ?_ | refine W_block_k fun K hK => ?_ | refine W_skip ?_ | refine W_ret ?_) | ((first | ((with_reducible refine W_id ?_); refine W_reg (by decide) (by rfl) ?_) | (with_reducible first | refine W_cond ?_ | refine hZ _ _ ?_ | refine W_exit ?_ | refine Wo_id ?_)); repeat1' simp only [push_cast, Nat.reduceBEq, Nat.reduceLT, Nat.reduceEqDiff, reduceIte, reduceCtorEq, Nat.reduceMul, Nat.reduceAdd, Nat.reduceSub, Int.reduceEq, Int.reduceLT, Int.reduceLE, Int.reduceNeg, Int.reduceAdd, Int.reduceSub, Int.reduceMul, Nat.reduceLeDiff, Int.reduceToNat]) | ((repeat ((fail_if_success with_reducible refine hK _ _ ?_); clear hK K)); (with_reducible refine hK _ _ ?_); clear hK K)))
  refine (snone_c hF).mono ?_
  intro v w' ⟨hv, hw⟩
  subst hv; subst w'
  ((repeat simp only [push_cast, Nat.reduceBEq, Nat.reduceLT, Nat.reduceEqDiff, reduceIte, reduceCtorEq, Nat.reduceMul, Nat.reduceAdd, Nat.reduceSub, Int.reduceEq, Int.reduceLT, Int.reduceLE, Int.reduceNeg, Int.reduceAdd, Int.reduceSub, Int.reduceMul, Nat.reduceLeDiff, Int.reduceToNat, s0, cell_h, cellO_cells, h0]); (repeat (first | (with_reducible first | (refine hK _ _ ?_; clear hK K) | refine (show ∀ σ' w', _ → K σ' w' from by assumption) _ _ ?_ | refine W_seq_k fun K hK => ?_ | refine W_block_k fun K hK => ?_ | refine W_skip ?_ | refine W_ret ?_) | ((first | ((with_reducible refine W_id ?_); refine W_reg (by decide) (by rfl) ?_) | (with_reducible first | refine W_cond ?_ | refine hZ _ _ ?_ | refine W_exit ?_ | refine Wo_id ?_)); repeat1' simp only [push_cast, Nat.reduceBEq, Nat.reduceLT, Nat.reduceEqDiff, reduceIte, reduceCtorEq, Nat.reduceMul, Nat.reduceAdd, Nat.reduceSub, Int.reduceEq, Int.reduceLT, Int.reduceLE, Int.reduceNeg, Int.reduceAdd, Int.reduceSub, Int.reduceMul, Nat.reduceLeDiff, Int.reduceToNat, s0, cell_h, cellO_cells, h0]) | ((repeat ((fail_if_success with_reducible refine hK _ _ ?_); clear hK K)); (with_reducible refine hK _ _ ?_); clear hK K))))
  refine W_loop (S := Nat) (fun k => [(0, .pointer (some ⟨ps, 0, none⟩)), (1, nv), (4, .int .i64 0), (5, .int .i64 ((k : Int) - 1))])
    (fun k w2 => k ≤ s.length ∧ lastB (fun k => htmlS (s.getD k zS) l) s.length = lastB (fun k => htmlS (s.getD k zS) l) k ∧ Ext w w2) (fun k => k) s.length ?_ ?_ ?_
  · (repeat simp only [push_cast, Nat.reduceBEq, Nat.reduceLT, Nat.reduceEqDiff, reduceIte, reduceCtorEq, Nat.reduceMul, Nat.reduceAdd, Nat.reduceSub, Int.reduceEq, Int.reduceLT, Int.reduceLE, Int.reduceNeg, Int.reduceAdd, Int.reduceSub, Int.reduceMul, Nat.reduceLeDiff, Int.reduceToNat])
  · exact ⟨Nat.le_refl _, rfl, Ext.refl _⟩
  rintro k w2 ⟨hk, he, hx⟩
  have hF2 := hF.ext hx
  have h02 := hF2.head
  cases k with
  | zero =>
    have e0 : (((0 : Nat) : Int) - 1) = -1 := rfl
    rw [e0]
    have b0 : ¬ (0 : Int) ≤ -1 := by omega
    (repeat (first | (with_reducible first | (refine hK _ _ ?_; clear hK K) | refine (show ∀ σ' w', _ → K σ' w' from by assumption) _ _ ?_ | refine W_seq_k fun K hK => ?_ | refine W_block_k fun K hK => ?_ | refine W_skip ?_ | refine W_ret ?_) | ((first | ((with_reducible refine W_id ?_); refine W_reg (by decide) (by rfl) ?_) | (with_reducible first | refine W_cond ?_ | refine hZ _ _ ?_ | refine W_exit ?_ | refine Wo_id ?_)); repeat1' simp only [push_cast, Nat.reduceBEq, Nat.reduceLT, Nat.reduceEqDiff, reduceIte, reduceCtorEq, Nat.reduceMul, Nat.reduceAdd, Nat.reduceSub, Int.reduceEq, Int.reduceLT, Int.reduceLE, Int.reduceNeg, Int.reduceAdd, Int.reduceSub, Int.reduceMul, Nat.reduceLeDiff, Int.reduceToNat, b0]) | ((repeat ((fail_if_success with_reducible refine hK _ _ ?_); clear hK K)); (with_reducible refine hK _ _ ?_); clear hK K)))
    have : untS s l = (s, 4) := by unfold untS; rw [he, lastB, if_pos (by decide)]
    rw [this]
    exact ⟨rfl, h.pass hx, hx.upd⟩
  | succ k =>
    have e0 : (((k + 1 : Nat) : Int) - 1) = k := by omega
    rw [e0]
    rw [lastB] at he
    have b2 : inI64 ((k : Int) - 1) := by unfold inI64; omega
    have b0 : (0 : Int) ≤ (k : Int) := by omega
    have hkl : k < s.length := by omega
    have b3 : (k : Int) < (s.length : Int) := by omega
    obtain ⟨y, hy⟩ : ∃ y, s[k]? = some y := ⟨_, List.getElem?_eq_getElem hkl⟩
    have hgd : s.getD k zS = y := by simp [List.getD, hy]
    rw [hgd] at he
    obtain ⟨b, o, c, e1, hbo1, c1, c2, c3⟩ := ops_cell hF2.sl hy
    cases e1
    (repeat (first | (with_reducible first | (refine hK _ _ ?_; clear hK K) | refine (show ∀ σ' w', _ → K σ' w' from by assumption) _ _ ?_ | refine W_seq_k fun K hK => ?_ | refine W_block_k fun K hK => ?_ | refine W_skip ?_ | refine W_ret ?_) | ((first | ((with_reducible refine W_id ?_); refine W_reg (by decide) (by rfl) ?_) | (with_reducible first | refine W_cond ?_ | refine hZ _ _ ?_ | refine W_exit ?_ | refine Wo_id ?_)); repeat1' simp only [push_cast, Nat.reduceBEq, Nat.reduceLT, Nat.reduceEqDiff, reduceIte, reduceCtorEq, Nat.reduceMul, Nat.reduceAdd, Nat.reduceSub, Int.reduceEq, Int.reduceLT, Int.reduceLE, Int.reduceNeg, Int.reduceAdd, Int.reduceSub, Int.reduceMul, Nat.reduceLeDiff, Int.reduceToNat, b0, b3, cell_h, cellO_cells, h02, c1, c2, c3]) | ((repeat ((fail_if_success with_reducible refine hK _ _ ?_); clear hK K)); (with_reducible refine hK _ _ ?_); clear hK K)))
    refine (html_c (hn.ext hx) hl y).mono ?_
    rintro v w3 ⟨rfl, hx3⟩
    have hF3 := hF2.ext hx3
    have h03 := hF3.head
    have hx03 := hx.trans hx3
    cases hh : htmlS y l
    · rw [hh, if_neg (by decide)] at he
      ((repeat simp only [push_cast, Nat.reduceBEq, Nat.reduceLT, Nat.reduceEqDiff, reduceIte, reduceCtorEq, Nat.reduceMul, Nat.reduceAdd, Nat.reduceSub, Int.reduceEq, Int.reduceLT, Int.reduceLE, Int.reduceNeg, Int.reduceAdd, Int.reduceSub, Int.reduceMul, Nat.reduceLeDiff, Int.reduceToNat, b2]); (repeat (first | (with_reducible first | (refine hK _ _ ?_; clear hK K) | refine (show ∀ σ' w', _ → K σ' w' from by assumption) _ _ ?_ | refine W_seq_k fun K hK => ?_ | refine W_block_k fun K hK => ?_ | refine W_skip ?_ | refine W_ret ?_) | ((first | ((with_reducible refine W_id ?_); refine W_reg (by decide) (by rfl) ?_) | (with_reducible first | refine W_cond ?_ | refine hZ _ _ ?_ | refine W_exit ?_ | refine Wo_id ?_)); repeat1' simp only [push_cast, Nat.reduceBEq, Nat.reduceLT, Nat.reduceEqDiff, reduceIte, reduceCtorEq, Nat.reduceMul, Nat.reduceAdd, Nat.reduceSub, Int.reduceEq, Int.reduceLT, Int.reduceLE, Int.reduceNeg, Int.reduceAdd, Int.reduceSub, Int.reduceMul, Nat.reduceLeDiff, Int.reduceToNat, b2]) | ((repeat ((fail_if_success with_reducible refine hK _ _ ?_); clear hK K)); (with_reducible refine hK _ _ ?_); clear hK K))))
      refine ⟨k, by omega, ?_⟩
      (repeat simp only [push_cast, Nat.reduceBEq, Nat.reduceLT, Nat.reduceEqDiff, reduceIte, reduceCtorEq, Nat.reduceMul, Nat.reduceAdd, Nat.reduceSub, Int.reduceEq, Int.reduceLT, Int.reduceLE, Int.reduceNeg, Int.reduceAdd, Int.reduceSub, Int.reduceMul, Nat.reduceLeDiff, Int.reduceToNat])
      exact ⟨by omega, he, hx03⟩
    · rw [hh, if_pos rfl] at he
      have eU : untS s l = (s.take k, 0) := by unfold untS; rw [he, if_neg (by omega)]; rfl
      have x1 := hF3.sl.partW (l := 0) (k := k) (m := c0) (by omega) (by omega) (by omega) (by omega)
      simp only [Nat.zero_mul, Nat.sub_zero, List.drop_zero, opCells_take] at x1
      obtain ⟨k1, k2, k3⟩ := st_put hF3 (hA.pass hx03) hpl hbo hQ (fun b hb => by have := hQl b hb; have := hx03.alike.size; omega) x1 (Upd.refl _ _) (fun b hb => .inl hb)
      have b4 : (k : Int) ≤ (c0 : Int) := by omega
      have b5 : (0 : Int) ≤ (c0 : Int) := by omega
      ((repeat simp only [push_cast, Nat.reduceBEq, Nat.reduceLT, Nat.reduceEqDiff, reduceIte, reduceCtorEq, Nat.reduceMul, Nat.reduceAdd, Nat.reduceSub, Int.reduceEq, Int.reduceLT, Int.reduceLE, Int.reduceNeg, Int.reduceAdd, Int.reduceSub, Int.reduceMul, Nat.reduceLeDiff, Int.reduceToNat, b0, b4, b5, cell_h, cellO_cells, h03, k1, Nat.sub_zero]); (repeat (first | (with_reducible first | (refine hK _ _ ?_; clear hK K) | refine (show ∀ σ' w', _ → K σ' w' from by assumption) _ _ ?_ | refine W_seq_k fun K hK => ?_ | refine W_block_k fun K hK => ?_ | refine W_skip ?_ | refine W_ret ?_) | ((first | ((with_reducible refine W_id ?_); refine W_reg (by decide) (by rfl) ?_) | (with_reducible first | refine W_cond ?_ | refine hZ _ _ ?_ | refine W_exit ?_ | refine Wo_id ?_)); repeat1' simp only [push_cast, Nat.reduceBEq, Nat.reduceLT, Nat.reduceEqDiff, reduceIte, reduceCtorEq, Nat.reduceMul, Nat.reduceAdd, Nat.reduceSub, Int.reduceEq, Int.reduceLT, Int.reduceLE, Int.reduceNeg, Int.reduceAdd, Int.reduceSub, Int.reduceMul, Nat.reduceLeDiff, Int.reduceToNat, b0, b4, b5, cell_h, cellO_cells, h03, k1, Nat.sub_zero]) | ((repeat ((fail_if_success with_reducible refine hK _ _ ?_); clear hK K)); (with_reducible refine hK _ _ ?_); clear hK K))))
      rw [eU]
      exact ⟨rfl, k2, Upd.trans hx03.upd k3 fun _ _ h => h⟩
theorem sdrop_c (h : StAt w0 w Q ps pa L s) (hs : s.length < 10000) {f : FuncId} {first captured : Array Value} {pn : ByteArray → Bool}
    (hso : ∀ o ∈ s, ∀ w1, Upd (AF w0 Q) w w1 → Gives Tryd.prog f (first.toList ++ [Value.string o.name] ++ captured.toList).toArray w1 fun v w' => v = .bool (pn o.name) ∧ Ext w1 w') :
    Gives Tryd.prog 44 #[.pointer (some ⟨ps, 0, none⟩), .func (.func f) first captured] w fun v w' => StAt w0 w' Q ps pa L (dropS pn s) ∧ Upd (AF w0 Q) w w' := by
  obtain ⟨sv, bo, hF, hA, hpl, hbo, hQ⟩ := id h
  have s0 : inI64 ((s.length : Int) - 1) := by unfold inI64; omega
  have hQl0 : ∀ b, Q b → b < w.heap.size := fun b hb => hA.low b (.inl hb)
  refine Gives.of_W Tryd.call44 Tryd.func44 rfl Tryd.ntmps44 (by simp) ?_; intro Z hZ
  (repeat (first | (with_reducible first | (refine hK _ _ ?_; clear hK K) | refine (show ∀ σ' w', _ → K σ' w' from by assumption) _ _ ?_ | refine W_seq_k fun K hK => ?_ | refine W_block_k fun K hK => ?_ | refine W_skip ?_ | refine W_ret ?_) | ((first | ((with_reducible refine W_id ?_); refine W_reg (by decide) (by rfl) ?_) | (with_reducible first | refine W_cond ?_ | refine hZ _ _ ?_ | refine W_exit ?_ | refine Wo_id ?_)); repeat1' simp only [push_cast, Nat.reduceBEq, Nat.reduceLT, Nat.reduceEqDiff, reduceIte, reduceCtorEq, Nat.reduceMul, Nat.reduceAdd, Nat.reduceSub, Int.reduceEq, Int.reduceLT, Int.reduceLE, Int.reduceNeg, Int.reduceAdd, Int.reduceSub, Int.reduceMul, Nat.reduceLeDiff, Int.reduceToNat]) | ((repeat ((fail_if_success with_reducible refine hK _ _ ?_); clear hK K)); (with_reducible refine hK _ _ ?_); clear hK K)))
  refine (slen_c hF).mono ?_
  intro v w' ⟨hv, hw⟩
  subst hv; subst w'
  ((repeat simp only [push_cast, Nat.reduceBEq, Nat.reduceLT, Nat.reduceEqDiff, reduceIte, reduceCtorEq, Nat.reduceMul, Nat.reduceAdd, Nat.reduceSub, Int.reduceEq, Int.reduceLT, Int.reduceLE, Int.reduceNeg, Int.reduceAdd, Int.reduceSub, Int.reduceMul, Nat.reduceLeDiff, Int.reduceToNat, s0]); (repeat (first | (with_reducible first | (refine hK _ _ ?_; clear hK K) | refine (show ∀ σ' w', _ → K σ' w' from by assumption) _ _ ?_ | refine W_seq_k fun K hK => ?_ | refine W_block_k fun K hK => ?_ | refine W_skip ?_ | refine W_ret ?_) | ((first | ((with_reducible refine W_id ?_); refine W_reg (by decide) (by rfl) ?_) | (with_reducible first | refine W_cond ?_ | refine hZ _ _ ?_ | refine W_exit ?_ | refine Wo_id ?_)); repeat1' simp only [push_cast, Nat.reduceBEq, Nat.reduceLT, Nat.reduceEqDiff, reduceIte, reduceCtorEq, Nat.reduceMul, Nat.reduceAdd, Nat.reduceSub, Int.reduceEq, Int.reduceLT, Int.reduceLE, Int.reduceNeg, Int.reduceAdd, Int.reduceSub, Int.reduceMul, Nat.reduceLeDiff, Int.reduceToNat, s0]) | ((repeat ((fail_if_success with_reducible refine hK _ _ ?_); clear hK K)); (with_reducible refine hK _ _ ?_); clear hK K))))
  refine W_loop (S := Nat) (fun k => [(0, .pointer (some ⟨ps, 0, none⟩)), (1, .func (.func f) first captured), (4, .int .i64 ((k : Int) - 1))])
    (fun k w2 => k ≤ s.length ∧ dropK (goP pn) s s.length = dropK (goP pn) s k ∧ StAt w0 w2 Q ps pa L (s.take k) ∧ Upd (AF w0 Q) w w2) (fun k => k) s.length ?_ ?_ ?_
  · (repeat simp only [push_cast, Nat.reduceBEq, Nat.reduceLT, Nat.reduceEqDiff, reduceIte, reduceCtorEq, Nat.reduceMul, Nat.reduceAdd, Nat.reduceSub, Int.reduceEq, Int.reduceLT, Int.reduceLE, Int.reduceNeg, Int.reduceAdd, Int.reduceSub, Int.reduceMul, Nat.reduceLeDiff, Int.reduceToNat])
  · exact ⟨Nat.le_refl _, rfl, by rw [List.take_length]; exact h, Upd.refl _ _⟩
  rintro k w2 ⟨hk, he, h2, hu⟩
  cases k with
  | zero =>
    have e0 : (((0 : Nat) : Int) - 1) = -1 := rfl
    rw [e0]
    have b0 : ¬ (0 : Int) ≤ -1 := by omega
    (repeat (first | (with_reducible first | (refine hK _ _ ?_; clear hK K) | refine (show ∀ σ' w', _ → K σ' w' from by assumption) _ _ ?_ | refine W_seq_k fun K hK => ?_ | refine W_block_k fun K hK => ?_ | refine W_skip ?_ | refine W_ret ?_) | ((first | ((with_reducible refine W_id ?_); refine W_reg (by decide) (by rfl) ?_) | (with_reducible first | refine W_cond ?_ | refine hZ _ _ ?_ | refine W_exit ?_ | refine Wo_id ?_)); repeat1' simp only [push_cast, Nat.reduceBEq, Nat.reduceLT, Nat.reduceEqDiff, reduceIte, reduceCtorEq, Nat.reduceMul, Nat.reduceAdd, Nat.reduceSub, Int.reduceEq, Int.reduceLT, Int.reduceLE, Int.reduceNeg, Int.reduceAdd, Int.reduceSub, Int.reduceMul, Nat.reduceLeDiff, Int.reduceToNat, b0]) | ((repeat ((fail_if_success with_reducible refine hK _ _ ?_); clear hK K)); (with_reducible refine hK _ _ ?_); clear hK K)))
    unfold dropS
    rw [he, dropK]
    exact ⟨h2, hu⟩
  | succ k =>
    have e0 : (((k + 1 : Nat) : Int) - 1) = k := by omega
    rw [e0]
    rw [dropK] at he
    have b2 : inI64 ((k : Int) - 1) := by unfold inI64; omega
    have b0 : (0 : Int) ≤ (k : Int) := by omega
    have hkl : k < s.length := by omega
    obtain ⟨y, hy⟩ : ∃ y, s[k]? = some y := ⟨_, List.getElem?_eq_getElem hkl⟩
    have hgd : s.getD k zS = y := by simp [List.getD, hy]
    rw [hgd] at he
    have hy1 : (s.take (k + 1))[k]? = some y := by rw [List.getElem?_take, if_pos (by omega)]; exact hy
    have hlen : (s.take (k + 1)).length = k + 1 := by rw [List.length_take]; omega
    obtain ⟨sv2, bo2, hF2, hA2, _, hbo2, _⟩ := id h2
    have h02 := hF2.head
    obtain ⟨b, o, c, rfl, hbo1, c1, c2, c3⟩ := ops_cell hF2.sl hy1
    obtain ⟨_, _, e2, hc⟩ := ops_len hF2.sl
    cases e2
    have b3 : (k : Int) < ((s.take (k + 1)).length : Int) := by omega
    by_cases hsp : y.space = 0
    · (repeat (first | (with_reducible first | (refine hK _ _ ?_; clear hK K) | refine (show ∀ σ' w', _ → K σ' w' from by assumption) _ _ ?_ | refine W_seq_k fun K hK => ?_ | refine W_block_k fun K hK => ?_ | refine W_skip ?_ | refine W_ret ?_) | ((first | ((with_reducible refine W_id ?_); refine W_reg (by decide) (by rfl) ?_) | (with_reducible first | refine W_cond ?_ | refine hZ _ _ ?_ | refine W_exit ?_ | refine Wo_id ?_)); repeat1' simp only [push_cast, Nat.reduceBEq, Nat.reduceLT, Nat.reduceEqDiff, reduceIte, reduceCtorEq, Nat.reduceMul, Nat.reduceAdd, Nat.reduceSub, Int.reduceEq, Int.reduceLT, Int.reduceLE, Int.reduceNeg, Int.reduceAdd, Int.reduceSub, Int.reduceMul, Nat.reduceLeDiff, Int.reduceToNat, b0, b3, cell_h, cellO_cells, h02, c1, c2, c3, hsp, eq_self]) | ((repeat ((fail_if_success with_reducible refine hK _ _ ?_); clear hK K)); (with_reducible refine hK _ _ ?_); clear hK K)))
      refine (hso y (List.mem_of_getElem? hy) w2 hu).mono ?_
      rintro v w3 ⟨rfl, hx3⟩
      have h3 := h2.pass hx3
      have hu3 := Upd.trans hu hx3.upd fun _ _ h => h
      cases hp : pn y.name
      · rw [if_neg (by unfold goP; simp [hp])] at he
        ((repeat simp only [push_cast, Nat.reduceBEq, Nat.reduceLT, Nat.reduceEqDiff, reduceIte, reduceCtorEq, Nat.reduceMul, Nat.reduceAdd, Nat.reduceSub, Int.reduceEq, Int.reduceLT, Int.reduceLE, Int.reduceNeg, Int.reduceAdd, Int.reduceSub, Int.reduceMul, Nat.reduceLeDiff, Int.reduceToNat]); (repeat (first | (with_reducible first | (refine hK _ _ ?_; clear hK K) | refine (show ∀ σ' w', _ → K σ' w' from by assumption) _ _ ?_ | refine W_seq_k fun K hK => ?_ | refine W_block_k fun K hK => ?_ | refine W_skip ?_ | refine W_ret ?_) | ((first | ((with_reducible refine W_id ?_); refine W_reg (by decide) (by rfl) ?_) | (with_reducible first | refine W_cond ?_ | refine hZ _ _ ?_ | refine W_exit ?_ | refine Wo_id ?_)); repeat1' simp only [push_cast, Nat.reduceBEq, Nat.reduceLT, Nat.reduceEqDiff, reduceIte, reduceCtorEq, Nat.reduceMul, Nat.reduceAdd, Nat.reduceSub, Int.reduceEq, Int.reduceLT, Int.reduceLE, Int.reduceNeg, Int.reduceAdd, Int.reduceSub, Int.reduceMul, Nat.reduceLeDiff, Int.reduceToNat]) | ((repeat ((fail_if_success with_reducible refine hK _ _ ?_); clear hK K)); (with_reducible refine hK _ _ ?_); clear hK K))))
        unfold dropS
        rw [he]
        exact ⟨h3, hu3⟩
      · rw [if_pos (by unfold goP; simp [hp, hsp])] at he
        have hF3 := hF2.ext hx3
        have h03 := hF3.head
        have x1 := hF3.sl.partW (l := 0) (k := k) (m := c) (by omega) (by omega) (by omega) (by omega)
        simp only [Nat.zero_mul, Nat.sub_zero, List.drop_zero, opCells_take, List.take_take, Nat.min_eq_left (Nat.le_succ k)] at x1
        obtain ⟨k1, k2, k3⟩ := st_put hF3 (hA2.pass hx3) hpl hbo2 hQ (fun b hb => by have := hQl0 b hb; have := hu3.alike.size; omega) x1 (Upd.refl _ _) (fun b hb => .inl hb)
        have b4 : (k : Int) ≤ (c : Int) := by omega
        have b5 : (0 : Int) ≤ (c : Int) := by omega
        ((repeat simp only [push_cast, Nat.reduceBEq, Nat.reduceLT, Nat.reduceEqDiff, reduceIte, reduceCtorEq, Nat.reduceMul, Nat.reduceAdd, Nat.reduceSub, Int.reduceEq, Int.reduceLT, Int.reduceLE, Int.reduceNeg, Int.reduceAdd, Int.reduceSub, Int.reduceMul, Nat.reduceLeDiff, Int.reduceToNat, b0, b2, b4, b5, cell_h, cellO_cells, h03, k1, Nat.sub_zero]); (repeat (first | (with_reducible first | (refine hK _ _ ?_; clear hK K) | refine (show ∀ σ' w', _ → K σ' w' from by assumption) _ _ ?_ | refine W_seq_k fun K hK => ?_ | refine W_block_k fun K hK => ?_ | refine W_skip ?_ | refine W_ret ?_) | ((first | ((with_reducible refine W_id ?_); refine W_reg (by decide) (by rfl) ?_) | (with_reducible first | refine W_cond ?_ | refine hZ _ _ ?_ | refine W_exit ?_ | refine Wo_id ?_)); repeat1' simp only [push_cast, Nat.reduceBEq, Nat.reduceLT, Nat.reduceEqDiff, reduceIte, reduceCtorEq, Nat.reduceMul, Nat.reduceAdd, Nat.reduceSub, Int.reduceEq, Int.reduceLT, Int.reduceLE, Int.reduceNeg, Int.reduceAdd, Int.reduceSub, Int.reduceMul, Nat.reduceLeDiff, Int.reduceToNat, b0, b2, b4, b5, cell_h, cellO_cells, h03, k1, Nat.sub_zero]) | ((repeat ((fail_if_success with_reducible refine hK _ _ ?_); clear hK K)); (with_reducible refine hK _ _ ?_); clear hK K))))
        refine ⟨k, by omega, ?_⟩
        (repeat simp only [push_cast, Nat.reduceBEq, Nat.reduceLT, Nat.reduceEqDiff, reduceIte, reduceCtorEq, Nat.reduceMul, Nat.reduceAdd, Nat.reduceSub, Int.reduceEq, Int.reduceLT, Int.reduceLE, Int.reduceNeg, Int.reduceAdd, Int.reduceSub, Int.reduceMul, Nat.reduceLeDiff, Int.reduceToNat])
        exact ⟨by omega, he, k2, Upd.trans hu3 k3 fun _ _ h => h⟩
    · rw [if_neg (by unfold goP; simp [hsp])] at he
      (repeat (first | (with_reducible first | (refine hK _ _ ?_; clear hK K) | refine (show ∀ σ' w', _ → K σ' w' from by assumption) _ _ ?_ | refine W_seq_k fun K hK => ?_ | refine W_block_k fun K hK => ?_ | refine W_skip ?_ | refine W_ret ?_) | ((first | ((with_reducible refine W_id ?_); refine W_reg (by decide) (by rfl) ?_) | (with_reducible first | refine W_cond ?_ | refine hZ _ _ ?_ | refine W_exit ?_ | refine Wo_id ?_)); repeat1' simp only [push_cast, Nat.reduceBEq, Nat.reduceLT, Nat.reduceEqDiff, reduceIte, reduceCtorEq, Nat.reduceMul, Nat.reduceAdd, Nat.reduceSub, Int.reduceEq, Int.reduceLT, Int.reduceLE, Int.reduceNeg, Int.reduceAdd, Int.reduceSub, Int.reduceMul, Nat.reduceLeDiff, Int.reduceToNat, b0, b3, cell_h, cellO_cells, h02, c1, c2, c3, hsp]) | ((repeat ((fail_if_success with_reducible refine hK _ _ ?_); clear hK K)); (with_reducible refine hK _ _ ?_); clear hK K)))
      unfold dropS
      rw [he]
      exact ⟨h2, hu⟩
theorem sthor_c (h : StAt w0 w Q ps pa L s) (hs : s.length < 10000) (hm : MaxAt w0) (hz : ∀ o ∈ s, o.name.size < 4294967281) : Gives Tryd.prog 21 #[.pointer (some ⟨ps, 0, none⟩)] w fun v w' => StAt w0 w' Q ps pa L (dropS thoN s) ∧ Upd (AF w0 Q) w w' := by
  refine Gives.of_W Tryd.call21 Tryd.func21 rfl Tryd.ntmps21 (by simp) ?_; intro Z hZ
  (repeat (first | (with_reducible first | (refine hK _ _ ?_; clear hK K) | refine (show ∀ σ' w', _ → K σ' w' from by assumption) _ _ ?_ | refine W_seq_k fun K hK => ?_ | refine W_block_k fun K hK => ?_ | refine W_skip ?_ | refine W_ret ?_) | ((first | ((with_reducible refine W_id ?_); refine W_reg (by decide) (by rfl) ?_) | (with_reducible first | refine W_cond ?_ | refine hZ _ _ ?_ | refine W_exit ?_ | refine Wo_id ?_)); repeat1' simp only [push_cast, Nat.reduceBEq, Nat.reduceLT, Nat.reduceEqDiff, reduceIte, reduceCtorEq, Nat.reduceMul, Nat.reduceAdd, Nat.reduceSub, Int.reduceEq, Int.reduceLT, Int.reduceLE, Int.reduceNeg, Int.reduceAdd, Int.reduceSub, Int.reduceMul, Nat.reduceLeDiff, Int.reduceToNat]) | ((repeat ((fail_if_success with_reducible refine hK _ _ ?_); clear hK K)); (with_reducible refine hK _ _ ?_); clear hK K)))
  refine (sdrop_c h hs (first := #[]) (captured := #[]) (pn := thoN) fun o ho w1 hu => ?_).mono ?_
  · refine (thorough_c o.name ?_ (hz o ho)).mono ?_
    · exact hm.ext (h.out2 hu)
    · rintro v w' ⟨rfl, rfl⟩
      exact ⟨rfl, Ext.refl _⟩
  rintro v w2 ⟨h2, hx⟩
  ((repeat simp only [push_cast, Nat.reduceBEq, Nat.reduceLT, Nat.reduceEqDiff, reduceIte, reduceCtorEq, Nat.reduceMul, Nat.reduceAdd, Nat.reduceSub, Int.reduceEq, Int.reduceLT, Int.reduceLE, Int.reduceNeg, Int.reduceAdd, Int.reduceSub, Int.reduceMul, Nat.reduceLeDiff, Int.reduceToNat]); (repeat (first | (with_reducible first | (refine hK _ _ ?_; clear hK K) | refine (show ∀ σ' w', _ → K σ' w' from by assumption) _ _ ?_ | refine W_seq_k fun K hK => ?_ | refine W_block_k fun K hK => ?_ | refine W_skip ?_ | refine W_ret ?_) | ((first | ((with_reducible refine W_id ?_); refine W_reg (by decide) (by rfl) ?_) | (with_reducible first | refine W_cond ?_ | refine hZ _ _ ?_ | refine W_exit ?_ | refine Wo_id ?_)); repeat1' simp only [push_cast, Nat.reduceBEq, Nat.reduceLT, Nat.reduceEqDiff, reduceIte, reduceCtorEq, Nat.reduceMul, Nat.reduceAdd, Nat.reduceSub, Int.reduceEq, Int.reduceLT, Int.reduceLE, Int.reduceNeg, Int.reduceAdd, Int.reduceSub, Int.reduceMul, Nat.reduceLeDiff, Int.reduceToNat]) | ((repeat ((fail_if_success with_reducible refine hK _ _ ?_); clear hK K)); (with_reducible refine hK _ _ ?_); clear hK K))))
  exact ⟨h2, hx⟩
theorem simp1_c (x but : ByteArray) {px : Nat} (hp : w.heap[px]? = some (.cells #[.string but] 9 (0, 0))) (hm : MaxAt w) (hz : x.size < 4294967281) : Gives Tryd.prog 45 #[.string x, .pointer (some ⟨px, 0, none⟩)] w fun v w' => v = .bool (butN but x) ∧ w' = w := by
  by_cases hxb : x = but
  · subst hxb
    refine Gives.of_W Tryd.call45 Tryd.func45 rfl Tryd.ntmps45 (by simp) ?_; intro Z hZ
    (repeat (first | (with_reducible first | (refine hK _ _ ?_; clear hK K) | refine (show ∀ σ' w', _ → K σ' w' from by assumption) _ _ ?_ | refine W_seq_k fun K hK => ?_ | refine W_block_k fun K hK => ?_ | refine W_skip ?_ | refine W_ret ?_) | ((first | ((with_reducible refine W_id ?_); refine W_reg (by decide) (by rfl) ?_) | (with_reducible first | refine W_cond ?_ | refine hZ _ _ ?_ | refine W_exit ?_ | refine Wo_id ?_)); repeat1' simp only [push_cast, Nat.reduceBEq, Nat.reduceLT, Nat.reduceEqDiff, reduceIte, reduceCtorEq, Nat.reduceMul, Nat.reduceAdd, Nat.reduceSub, Int.reduceEq, Int.reduceLT, Int.reduceLE, Int.reduceNeg, Int.reduceAdd, Int.reduceSub, Int.reduceMul, Nat.reduceLeDiff, Int.reduceToNat, cell_h, hp, cellO_cells, eq_self, not_true_eq_false, decide_true, decide_false]) | ((repeat ((fail_if_success with_reducible refine hK _ _ ?_); clear hK K)); (with_reducible refine hK _ _ ?_); clear hK K)))
    simp [butN]
  · refine Gives.of_W Tryd.call45 Tryd.func45 rfl Tryd.ntmps45 (by simp) ?_; intro Z hZ
    (repeat (first | (with_reducible first | (refine hK _ _ ?_; clear hK K) | refine (show ∀ σ' w', _ → K σ' w' from by assumption) _ _ ?_ | refine W_seq_k fun K hK => ?_ | refine W_block_k fun K hK => ?_ | refine W_skip ?_ | refine W_ret ?_) | ((first | ((with_reducible refine W_id ?_); refine W_reg (by decide) (by rfl) ?_) | (with_reducible first | refine W_cond ?_ | refine hZ _ _ ?_ | refine W_exit ?_ | refine Wo_id ?_)); repeat1' simp only [push_cast, Nat.reduceBEq, Nat.reduceLT, Nat.reduceEqDiff, reduceIte, reduceCtorEq, Nat.reduceMul, Nat.reduceAdd, Nat.reduceSub, Int.reduceEq, Int.reduceLT, Int.reduceLE, Int.reduceNeg, Int.reduceAdd, Int.reduceSub, Int.reduceMul, Nat.reduceLeDiff, Int.reduceToNat, cell_h, hp, cellO_cells, hxb]) | ((repeat ((fail_if_success with_reducible refine hK _ _ ?_); clear hK K)); (with_reducible refine hK _ _ ?_); clear hK K)))
    refine (implied_c x hm hz).mono ?_
    intro v w' ⟨hv, hw⟩
    subst hv; subst w'
    ((repeat simp only [push_cast, Nat.reduceBEq, Nat.reduceLT, Nat.reduceEqDiff, reduceIte, reduceCtorEq, Nat.reduceMul, Nat.reduceAdd, Nat.reduceSub, Int.reduceEq, Int.reduceLT, Int.reduceLE, Int.reduceNeg, Int.reduceAdd, Int.reduceSub, Int.reduceMul, Nat.reduceLeDiff, Int.reduceToNat]); (repeat (first | (with_reducible first | (refine hK _ _ ?_; clear hK K) | refine (show ∀ σ' w', _ → K σ' w' from by assumption) _ _ ?_ | refine W_seq_k fun K hK => ?_ | refine W_block_k fun K hK => ?_ | refine W_skip ?_ | refine W_ret ?_) | ((first | ((with_reducible refine W_id ?_); refine W_reg (by decide) (by rfl) ?_) | (with_reducible first | refine W_cond ?_ | refine hZ _ _ ?_ | refine W_exit ?_ | refine Wo_id ?_)); repeat1' simp only [push_cast, Nat.reduceBEq, Nat.reduceLT, Nat.reduceEqDiff, reduceIte, reduceCtorEq, Nat.reduceMul, Nat.reduceAdd, Nat.reduceSub, Int.reduceEq, Int.reduceLT, Int.reduceLE, Int.reduceNeg, Int.reduceAdd, Int.reduceSub, Int.reduceMul, Nat.reduceLeDiff, Int.reduceToNat]) | ((repeat ((fail_if_success with_reducible refine hK _ _ ?_); clear hK K)); (with_reducible refine hK _ _ ?_); clear hK K))))
    simp [butN, hxb]
theorem simp_c (h : StAt w0 w Q ps pa L s) (hs : s.length < 10000) (hm : MaxAt w0) (hz : ∀ o ∈ s, o.name.size < 4294967281) (but : ByteArray) : Gives Tryd.prog 20 #[.pointer (some ⟨ps, 0, none⟩), .string but] w fun v w' => StAt w0 w' Q ps pa L (dropS (butN but) s) ∧ Upd (AF w0 Q) w w' := by
  have hx := Ext.alloc w (.cells #[.string but] 9)
  have hb : (w.alloc (.cells #[.string but] 9)).heap[w.heap.size]? = some (.cells #[.string but] 9 (0, 0)) := by rw [heap_alloc_h, if_pos rfl]
  have hs1 : (w.alloc (.cells #[.string but] 9)).heap.size = w.heap.size + 1 := size_alloc_h _ _
  have h1 : StAt w0 (w.alloc (.cells #[.string but] 9)) (fun b => Q b ∨ b = w.heap.size) ps pa L s := h.app hx (fun _ _ h => h.elim) fun b hb => by
    rcases hb with hb | hb
    · exact .inl hb
    · exact .inr (by omega)
  have hlt := blk_lt hb
  refine Gives.of_W Tryd.call20 Tryd.func20 rfl Tryd.ntmps20 (by simp) ?_; intro Z hZ
  (repeat (first | (with_reducible first | (refine hK _ _ ?_; clear hK K) | refine (show ∀ σ' w', _ → K σ' w' from by assumption) _ _ ?_ | refine W_seq_k fun K hK => ?_ | refine W_block_k fun K hK => ?_ | refine W_skip ?_ | refine W_ret ?_) | ((first | ((with_reducible refine W_id ?_); refine W_reg (by decide) (by rfl) ?_) | (with_reducible first | refine W_cond ?_ | refine hZ _ _ ?_ | refine W_exit ?_ | refine Wo_id ?_)); repeat1' simp only [push_cast, Nat.reduceBEq, Nat.reduceLT, Nat.reduceEqDiff, reduceIte, reduceCtorEq, Nat.reduceMul, Nat.reduceAdd, Nat.reduceSub, Int.reduceEq, Int.reduceLT, Int.reduceLE, Int.reduceNeg, Int.reduceAdd, Int.reduceSub, Int.reduceMul, Nat.reduceLeDiff, Int.reduceToNat, vc_str]) | ((repeat ((fail_if_success with_reducible refine hK _ _ ?_); clear hK K)); (with_reducible refine hK _ _ ?_); clear hK K)))
  generalize w.alloc (.cells #[.string but] 9) = w1 at *
  refine (sdrop_c h1 hs (first := #[]) (captured := #[.pointer (some ⟨w.heap.size, 0, none⟩)]) (pn := butN but) fun o ho w2 hu => ?_).mono ?_
  · refine (simp1_c o.name but ((hu.same _ hlt fun hf => hf.2 (.inr rfl)).trans hb) (hm.ext (h1.out2 hu)) (hz o ho)).mono ?_
    intro v w' ⟨hv, hw⟩
    subst hv; subst w'
    exact ⟨rfl, Ext.refl _⟩
  rintro v w2 ⟨h2, hu⟩
  ((repeat simp only [push_cast, Nat.reduceBEq, Nat.reduceLT, Nat.reduceEqDiff, reduceIte, reduceCtorEq, Nat.reduceMul, Nat.reduceAdd, Nat.reduceSub, Int.reduceEq, Int.reduceLT, Int.reduceLE, Int.reduceNeg, Int.reduceAdd, Int.reduceSub, Int.reduceMul, Nat.reduceLeDiff, Int.reduceToNat]); (repeat (first | (with_reducible first | (refine hK _ _ ?_; clear hK K) | refine (show ∀ σ' w', _ → K σ' w' from by assumption) _ _ ?_ | refine W_seq_k fun K hK => ?_ | refine W_block_k fun K hK => ?_ | refine W_skip ?_ | refine W_ret ?_) | ((first | ((with_reducible refine W_id ?_); refine W_reg (by decide) (by rfl) ?_) | (with_reducible first | refine W_cond ?_ | refine hZ _ _ ?_ | refine W_exit ?_ | refine Wo_id ?_)); repeat1' simp only [push_cast, Nat.reduceBEq, Nat.reduceLT, Nat.reduceEqDiff, reduceIte, reduceCtorEq, Nat.reduceMul, Nat.reduceAdd, Nat.reduceSub, Int.reduceEq, Int.reduceLT, Int.reduceLE, Int.reduceNeg, Int.reduceAdd, Int.reduceSub, Int.reduceMul, Nat.reduceLeDiff, Int.reduceToNat]) | ((repeat ((fail_if_success with_reducible refine hK _ _ ?_); clear hK K)); (with_reducible refine hK _ _ ?_); clear hK K))))
  exact ⟨h2.less fun b hb => .inl hb, Upd.trans hx.upd hu fun b _ hf => ⟨hf.1, fun hq => hf.2 (.inl hq)⟩⟩
end
end Go.Proofs.YtkafpameheohdaaDoor
end
section
set_option linter.unusedSimpArgs false
set_option linter.unusedVariables false
namespace Go.Vk
open Go
theorem Does.wide {P : Program} {a : Act} {o : Oper} {w : World} {K : Value → World → Prop} {N : Act → World → Prop} {Q : Exit → Act → World → Prop} {m : Nat}
    (h : Does P a.eval o w K) (hn : ∀ v w', K v w' → N (a.put o.dst v) w') : o.wpIn Fence.wide m P a w N Q := by
  refine ⟨fun _ _ => trivial, ?_⟩
  rw [show Fence.wide.round = none from rfl, Oper.semAt_none]
  unfold Does at h
  generalize (execOp a.eval o).run P w = r at h
  cases r with
  | halt x w' => exact h.elim
  | ok n w' =>
    cases n <;> simp only [Oper.uponIn] at h ⊢
    case value v => exact hn _ _ h
    case skip => exact hn _ _ h
    case enter f args =>
      refine ⟨fun hd => (by cases hd), callsIn_wide.2 (h.mono ?_)⟩
      intro e w'' he
      obtain ⟨v, he, hk⟩ := he
      subst he
      exact hn _ _ hk
theorem step_wide {P : Program} {n : Nat} (hn : n ≤ 1000000) {ops : Array Oper} {o : Oper} {σ : Regs} {w : World} {a : Act} (hk : Known n σ a) {N : Act → World → Prop} {Q : Exit → Act → World → Prop} {m : Nat}
    {F : Value → World → Prop}
    (h : match (conv ops o).grd with
      | none => vcOp P o.op o.type σ w F
      | some (g, want) => on (find σ g) fun gv => ∃ b, gdv gv b want ∧ (b = want → vcOp P o.op o.type σ w F) ∧ (b ≠ want → F undef w))
    (hF : ∀ v w', F v w' → N (a.put o.dst v) w') :
    (if Region.wanted o (yielded ops a.tmps) then o.wpIn Fence.wide m P a w N Q else (∀ f, o.about P w a.eval = some f → Fence.wide.fn f) ∧ N (a.put o.dst undef) w) := by
  cases hg : (conv ops o).grd with
  | none =>
    rw [hg] at h
    rw [if_pos (wanted_none (conv_none hg))]
    exact (vcOp_spec hk h).wide hF
  | some gw =>
    obtain ⟨g, want⟩ := gw
    rw [hg] at h
    obtain ⟨gv, hgv, b, hgb, h1, h0⟩ := on_spec h
    have ht := hk.reg g _ hgv
    have hlt : g < n := by
      have := (Array.getElem?_eq_some_iff.1 ht).1
      rw [hk.size] at this; exact this
    obtain ⟨j, hj, hjd⟩ := conv_guard hg (by omega)
    rcases hgb with rfl | ⟨rfl, rfl⟩
    case inr =>
      rw [wanted_undef hj hjd ht]
      rw [if_neg (by simp)]
      exact ⟨fun _ _ => trivial, hF _ _ (h0 (by cases want <;> simp))⟩
    rw [wanted_some hj hjd ht]
    by_cases e : b = want
    · rw [if_pos (by simpa using e)]
      exact (vcOp_spec hk (h1 e)).wide hF
    · rw [if_neg (by simpa using e)]
      exact ⟨fun _ _ => trivial, hF _ _ (h0 e)⟩
theorem Wk_wide {P : Program} {n : Nat} (hn : n ≤ 1000000) {ops : Array Oper} {K : Regs → World → Prop} {Q : Exit → Act → World → Prop} {m : Nat} {rest : List Oper} (hQ : ∀ σ w a, Known n σ a → K σ w → wpListIn Fence.wide m P ops Q rest a w) :
    ∀ (l : List Oper) (σ : Regs) (w : World) (a : Act), Known n σ a → Wk P n (l.map (conv ops)) σ w K → wpListIn Fence.wide m P ops Q (l ++ rest) a w
  | [], σ, w, a, hk, h => hQ σ w a hk h
  | o :: r, σ, w, a, hk, h => by
    obtain ⟨hd, h⟩ := h
    rw [List.cons_append]
    unfold wpListIn
    exact step_wide hn hk (F := fun v w' => Wk P n (r.map (conv ops)) (put σ o.dst v) w' K) h fun v w' hK => Wk_wide hn hQ r _ w' _ (hk.put hd v) hK
/-- a round of a loop over a function: what yield hands back -/
def Yields (P : Program) (l : Nat) (args : List Value) (w : World) (R : Value → World → Prop) : Prop :=
  YieldAt Fence.wide 0 P l args.toArray w fun e w' => ∃ v, e = .returned v ∧ R v w'
theorem Yields.mono {P : Program} {l : Nat} {args : List Value} {w : World} {R R' : Value → World → Prop} (h : Yields P l args w R) (hr : ∀ v w', R v w' → R' v w') : Yields P l args w R' :=
  YieldAt.mono h fun _ _ ⟨v, he, hv⟩ => ⟨v, he, hr v _ hv⟩
/-- a region in which one step calls yield -/
theorem W_yield {P : Program} {n : Nat} {σ : Regs} {w : World} {K : Regs → World → Prop} {X : Outs} (hn : n ≤ 1000000) {id : Nat} (l1 l2 : List Oper) (d : Nat) (c : Call) (t : TypeId) (p : String) (e : Array Edge) (x : Operand) (hc : c.callee = .value x) (hd : d < n)
    (h1 : (l1 ++ ⟨some d, .call c, t, p, e, none⟩ :: l2).all (dLt n) = true) {ops : List Oper} (hops : ops = l1 ++ ⟨some d, .call c, t, p, e, none⟩ :: l2)
    (h : Wo P ops.toArray l1 σ w fun σ' w' => on (evO σ' x) fun fv => onL σ' c.args.toList fun vs => ∃ l, fv = .func (.yield l) #[] #[] ∧ Yields P l vs w' fun v w'' => Wo P ops.toArray l2 (put σ' (some d) v) w'' K) :
    W P n σ w (.region id ops.toArray false) K X := by
  intro a hk
  have hal := h1
  simp only [List.all_append, List.all_cons, Bool.and_eq_true] at hal
  refine wpIn_wide.1 (wpIn_region_list (n := 0) ?_)
  have e0 : ops.toArray.toList = l1 ++ ⟨some d, .call c, t, p, e, none⟩ :: l2 := by rw [List.toList_toArray]; exact hops
  rw [e0]
  rw [← Wo_eq l1 σ w hal.1] at h
  refine Wk_wide hn (m := 0) ?_ l1 σ w a hk h
  intro σ' w' a' hk' hK
  obtain ⟨fv, hfv, h2⟩ := on_spec hK
  obtain ⟨l, hl, hY⟩ := onL_spec hk' h2
  subst hl
  have hx := hk'.ev hfv
  obtain ⟨fn, tmps, assign, body, hy, hR⟩ := hY
  unfold wpListIn
  rw [if_pos (wanted_none rfl)]
  refine ⟨fun _ _ => trivial, ?_⟩
  rw [show Fence.wide.round = none from rfl, Oper.semAt_none]
  have hex : (execOp a'.eval ⟨some d, .call c, t, p, e, none⟩).run P w' = .ok (.round l fn tmps assign body) w' := by
    simp only [execOp, resolve, hc, hx, Deferred.ofValue, Sem.run_bind, Sem.run_pure, Result.andThen_ok, invoke]
    have ea : (#[] ++ Array.map a'.eval c.args : Array Value) = (c.args.toList.map a'.eval).toArray := by
      apply Array.toList_inj.1
      simp
    rw [ea]
    exact hy
  rw [hex]
  refine ⟨fun hd => (by cases hd), RoundIn.mono hR ?_⟩
  intro e2 w2 he
  obtain ⟨v, he, hv⟩ := he
  subst he
  have hv : Wo P ops.toArray l2 (put σ' (some d) v) w2 K := hv
  rw [← Wo_eq l2 _ w2 hal.2.2] at hv
  have := Wk_wide hn (m := 0) (rest := []) (Q := post n K X) (fun σ w a hk h => ⟨σ, hk, h⟩) l2 _ w2 _ (hk'.put (d := some d) hd v) hv
  rwa [List.append_nil] at this
end Go.Vk
end
section
set_option linter.unusedSimpArgs false
set_option linter.unusedVariables false
namespace Go.Vk
open Go Go.RowKit
/-- blocks that are no cells -/
def NC (w : World) (b : Nat) : Prop := ∃ o : Obj, w.heap[b]? = some o ∧ o.isCells = false
/-- whatever is cells lies as it lay -/
def Keep (w w' : World) : Prop := Upd (NC w) w w'
theorem Ext.keep {w w' : World} (h : Ext w w') : Keep w w' := h.upd
theorem Keep.trans {a b c : World} (h : Keep a b) (k : Keep b c) : Keep a c := Upd.trans h k fun i hi ⟨o, h1, h2⟩ => by
  apply Classical.byContradiction
  intro hn
  have e := h.same i hi hn
  exact hn ⟨o, by rw [← e]; exact h1, h2⟩
theorem Keep.blk {w w' : World} (h : Keep w w') {b : Nat} {cs : Array Value} {t : TypeId} {f : Nat × Nat} (hb : w.heap[b]? = some (.cells cs t f)) : w'.heap[b]? = some (.cells cs t f) :=
  (h.same b (blk_lt hb) (fun ⟨o, h1, h2⟩ => by rw [hb] at h1; cases h1; cases h2)).trans hb
theorem nc_not {w : World} {b : Nat} {o : Obj} (hb : w.heap[b]? = some o) (hc : o.isCells = true) : ¬ NC w b := fun ⟨o', h1, h2⟩ => by
  rw [hb] at h1; cases h1; rw [hc] at h2; cases h2
theorem Keep.putObj (W : World) (l : Nat) (o o' : Obj) (h : W.heap[l]? = some o) (hc : o.isCells = false) : Keep W (W.putObj l o') := by
  have hg := grownBy_putObj' W l o'
  exact ⟨⟨hg.os, hg.tape, hg.output, hg.size⟩, fun b hb hn => hg.block b hb fun e => by cases e; exact hn ⟨o, h, hc⟩⟩
theorem Keep.cell {w w' : World} (h : Keep w w') {a : Addr} {v : Value} (hv : w.cell? a = some v) : w'.cell? a = some v := by
  obtain ⟨o, h1, h2⟩ := cells_of_cell hv
  have e := h.same a.block (blk_lt h1) (nc_not h1 h2)
  exact (World.cell?_of_block e).trans hv
theorem Ext.grown {w w' : World} (h : Ext w w') : w.grownBy w' none := ⟨h.alike.os, h.alike.tape, h.alike.output, h.alike.size, fun k hk _ => h.same k hk id⟩
theorem Upd.grown {w0 w w' : World} {F : Nat → Prop} {row : Option Nat} (h : Upd F w0 w) (hg : w.grownBy w' row) (hr : ∀ r, row = some r → w0.heap.size ≤ r) : Upd F w0 w' :=
  ⟨h.alike.trans ⟨hg.os, hg.tape, hg.output, hg.size⟩, fun b hb hf => (hg.block b (Nat.lt_of_lt_of_le hb h.alike.size) fun e => by have := hr b e.symm; omega).trans (h.same b hb hf)⟩
theorem Below.upd {B : Nat} {w w' : World} (h : Below B w w') : Upd (fun b => B ≤ b) w w' := ⟨⟨h.os, h.tape, h.output, h.size⟩, fun b _ hb => h.block b (by omega)⟩
theorem Ext.keepsFrom {w w' : World} (h : Ext w w') (B : Nat) : KeepsFrom B w w' := ⟨h.alike.size, fun k o _ hk _ => h.blk hk⟩
theorem Upd.keepsFrom {F : Nat → Prop} {w w' : World} (h : Upd F w w') {B : Nat} (hf : ∀ b, F b → ∃ o : Obj, w.heap[b]? = some o ∧ o.isCells = true) : KeepsFrom B w w' :=
  ⟨h.alike.size, fun k o _ hk hc => (h.same k (blk_lt hk) fun hF => by
    obtain ⟨o', h1, h2⟩ := hf k hF
    rw [hk] at h1; cases h1; rw [hc] at h2; cases h2).trans hk⟩
/-- the fence of a round -/
def Rd (r : Option Nat) : Fence := { Fence.wide with round := r }
def nodef (o : Oper) : Bool := match o.op with
  | .defer _ => false
  | _ => true
theorem sem_rd (r : Option Nat) (ρ : Operand → Value) (o : Oper) (h : nodef o = true) : Oper.semAt r ρ o = execOp ρ o := by
  cases r with
  | none => exact Oper.semAt_none ρ o
  | some l => exact Oper.semAt_some l ρ o fun c e => by unfold nodef at h; rw [e] at h; cases h
theorem calls_rd {r : Option Nat} {n : Nat} {P : Program} {f : FuncId} {args : Array Value} {w : World} {R : Ending → World → Prop} (h : Calls P f args w R) : CallsIn (Rd r) n P f args w R :=
  (callsIn_wide (n := n)).2 h
theorem Does.rd {r : Option Nat} {P : Program} {a : Act} {o : Oper} {w : World} {K : Value → World → Prop} {N : Act → World → Prop} {Q : Exit → Act → World → Prop} {m : Nat} (hnd : nodef o = true)
    (h : Does P a.eval o w K) (hn : ∀ v w', K v w' → N (a.put o.dst v) w') : o.wpIn (Rd r) m P a w N Q := by
  refine ⟨fun _ _ => trivial, ?_⟩
  rw [show (Rd r).round = r from rfl, sem_rd r _ _ hnd]
  unfold Does at h
  generalize (execOp a.eval o).run P w = z at h
  cases z with
  | halt x w' => exact h.elim
  | ok n w' =>
    cases n <;> simp only [Oper.uponIn] at h ⊢
    case value v => exact hn _ _ h
    case skip => exact hn _ _ h
    case enter f args =>
      refine ⟨fun hd => (by cases hd), calls_rd (h.mono ?_)⟩
      intro e w'' he
      obtain ⟨v, he, hk⟩ := he
      subst he
      exact hn _ _ hk
/-- a state that is known but for its deferred calls -/
def Kn (n : Nat) (σ : Regs) (a : Act) : Prop := Known n σ { a with defers := [] }
theorem Kn.put {n : Nat} {σ : Regs} {a : Act} (h : Kn n σ a) {d : Option Nat} (hd : dOk n d) (v : Value) : Kn n (put σ d v) (a.put d v) := by
  have := Known.put h hd v
  cases d <;> exact this
theorem step_rd {r : Option Nat} {P : Program} {n : Nat} (hn : n ≤ 1000000) {ops : Array Oper} {o : Oper} {σ : Regs} {w : World} {a : Act} (hk : Kn n σ a) (hnd : nodef o = true) {N : Act → World → Prop} {Q : Exit → Act → World → Prop} {m : Nat}
    {F : Value → World → Prop}
    (h : match (conv ops o).grd with
      | none => vcOp P o.op o.type σ w F
      | some (g, want) => on (find σ g) fun gv => ∃ b, gdv gv b want ∧ (b = want → vcOp P o.op o.type σ w F) ∧ (b ≠ want → F undef w))
    (hF : ∀ v w', F v w' → N (a.put o.dst v) w') :
    (if Region.wanted o (yielded ops a.tmps) then o.wpIn (Rd r) m P a w N Q else (∀ f, o.about P w a.eval = some f → (Rd r).fn f) ∧ N (a.put o.dst undef) w) := by
  cases hg : (conv ops o).grd with
  | none =>
    rw [hg] at h
    rw [if_pos (wanted_none (conv_none hg))]
    exact Does.rd hnd (vcOp_spec hk h) hF
  | some gw =>
    obtain ⟨g, want⟩ := gw
    rw [hg] at h
    obtain ⟨gv, hgv, b, hgb, h1, h0⟩ := on_spec h
    have ht : a.tmps[g]? = some gv := hk.reg g _ hgv
    have hsz : a.tmps.size = n := hk.size
    have hlt : g < n := by
      have := (Array.getElem?_eq_some_iff.1 ht).1
      rw [hsz] at this; exact this
    obtain ⟨j, hj, hjd⟩ := conv_guard hg (by omega)
    rcases hgb with rfl | ⟨rfl, rfl⟩
    case inr =>
      rw [wanted_undef hj hjd ht]
      rw [if_neg (by simp)]
      exact ⟨fun _ _ => trivial, hF _ _ (h0 (by cases want <;> simp))⟩
    rw [wanted_some hj hjd ht]
    by_cases e : b = want
    · rw [if_pos (by simpa using e)]
      exact Does.rd hnd (vcOp_spec hk (h1 e)) hF
    · rw [if_neg (by simpa using e)]
      exact ⟨fun _ _ => trivial, hF _ _ (h0 e)⟩
theorem Wk_rd {r : Option Nat} {P : Program} {n : Nat} (hn : n ≤ 1000000) {ops : Array Oper} {K : Regs → World → Prop} {Q : Exit → Act → World → Prop} {m : Nat} {D : List Deferred} (hQ : ∀ σ w a, Kn n σ a → a.defers = D → K σ w → Q .normal a w) :
    ∀ (l : List Oper) (σ : Regs) (w : World) (a : Act), l.all nodef = true → Kn n σ a → a.defers = D → Wk P n (l.map (conv ops)) σ w K → wpListIn (Rd r) m P ops Q l a w
  | [], σ, w, a, _, hk, hD, h => hQ σ w a hk hD h
  | o :: l, σ, w, a, hnd, hk, hD, h => by
    obtain ⟨hd, h⟩ := h
    rw [List.all_cons, Bool.and_eq_true] at hnd
    unfold wpListIn
    exact step_rd hn hk hnd.1 (F := fun v w' => Wk P n (l.map (conv ops)) (put σ o.dst v) w' K) h fun v w' hK => Wk_rd hn hQ l _ w' _ hnd.2 (hk.put hd v) (by cases o.dst <;> exact hD) hK
theorem reg_rd {r : Option Nat} {P : Program} {n : Nat} (hn : n ≤ 1000000) {id : Nat} {l : List Oper} {Q : Exit → Act → World → Prop} {m : Nat} {σ : Regs} {w : World} {a : Act} (hk : Kn n σ a) (hd : l.all (dLt n) = true) (hnd : l.all nodef = true)
    (h : Wo P l.toArray l σ w fun σ' w' => ∀ a', Kn n σ' a' → a'.defers = a.defers → Q .normal a' w') : (Code.region id l.toArray false).wpIn (Rd r) m P Q a w := by
  refine wpIn_region_list ?_
  rw [List.toList_toArray]
  rw [← Wo_eq l σ w hd] at h
  exact Wk_rd hn (D := a.defers) (fun σ' w' a' h1 h2 h3 => h3 a' h1 h2) l σ w a hnd hk rfl h
theorem cond_rd {r : Option Nat} {P : Program} {n : Nat} {Q : Exit → Act → World → Prop} {m : Nat} {σ : Regs} {w : World} {a : Act} {c : Operand} {x y : Code} (hk : Kn n σ a) {b : Bool} (hc : evO σ c = some (.bool b)) (h1 : b = true → x.wpIn (Rd r) m P Q a w) (h2 : b = false → y.wpIn (Rd r) m P Q a w) :
    (Code.cond c x y).wpIn (Rd r) m P Q a w :=
  wpIn_cond_split (t := b) (hk.ev hc) h1 h2
end Go.Vk
end
section
set_option linter.unusedSimpArgs false
set_option linter.unusedVariables false
namespace Go.Vk
open Go Go.RowKit
theorem SK.keep {w w' : World} {ps : Nat} {ap sv : Value} {s : List OpS} {bo : Option Nat} (h : SK w ps ap sv s bo) (hk : Keep w w') : SK w' ps ap sv s bo :=
  h.upd hk (nc_not h.head rfl) fun b hb => by
    have hs := h.sl
    rcases hs with ⟨e, _⟩ | ⟨b', o, n, c, cs, t, e, _, _, _, hh, _⟩
    · rw [hb] at e; cases e
    · rw [hb] at e; cases e
      obtain ⟨f, _, hh⟩ := hh
      exact nc_not hh rfl
/-- from the top on, up to the first that ends it -/
def scp (e : OpS → Bool) (s : List OpS) : Nat → List OpS
  | 0 => []
  | k + 1 => s.getD k zS :: if e (s.getD k zS) = true then [] else scp e s k
def scE (which : Int) (o : OpS) : Bool := scopeN which o.space o.name
end Go.Vk
namespace Go.Proofs.YtkafpameheohdaaDoor
open Go Go.Vk Go.RowKit
theorem GL.keep {w w' : World} (h : GL w) (hx : Keep w w') : GL w' := ⟨let ⟨m, h⟩ := h.max; ⟨m, hx.cell h⟩, let ⟨t, f, h⟩ := h.sc; ⟨t, f, hx.blk h⟩⟩
set_option maxHeartbeats 40000000
section
variable {W : World} {ps : Nat} {ap sv : Value} {s : List OpS} {bo : Option Nat}
theorem scope1_c {l bs bw : Nat} {which : Int} {J Jx : List OpS → World → Prop} (hs : s.length < 10000) (hz : ∀ o ∈ s, o.name.size < 4294967281)
    (hg : GL W) (hS : SK W ps ap sv s bo) (h1 : W.heap[bs]? = some (.cells #[.pointer (some ⟨ps, 0, none⟩)] 26 (0, 0))) (h2 : W.heap[bw]? = some (.cells #[.int .i64 which] 3 (0, 0)))
    (hJ : ∀ pre W1 W2, J pre W1 → Ext W1 W2 → J pre W2) (hJx : ∀ pre W1 W2, Jx pre W1 → Ext W1 W2 → Jx pre W2)
    (hY : ∀ pre (x : OpS) W1, J pre W1 → pre.length < s.length → YieldAt Fence.wide 0 Tryd.prog l #[.agg x.row] W1 fun e W' => (e = .returned (.bool true) ∧ J (pre ++ [x]) W' ∧ Keep W1 W') ∨ (e = .returned (.bool false) ∧ Jx (pre ++ [x]) W'))
    (h0 : J [] W) : Gives Tryd.prog 68 #[.func (.yield l) #[] #[], .pointer (some ⟨bs, 0, none⟩), .pointer (some ⟨bw, 0, none⟩)] W fun _ w' =>
      (∃ xs, xs = scp (scE which) s s.length ∧ J xs w') ∨ ∃ pre, pre <+: scp (scE which) s s.length ∧ Jx pre w' := by
  have s0 : inI64 ((s.length : Int) - 1) := by unfold inI64; omega
  refine Gives.of_W Tryd.call68 Tryd.func68 rfl Tryd.ntmps68 (by simp) ?_; intro Z hZ
  (repeat (first | (with_reducible first | (refine hK _ _ ?_; clear hK K) | refine (show ∀ σ' w', _ → K σ' w' from by assumption) _ _ ?_ | refine W_seq_k fun K hK => ?_ | refine W_block_k fun K hK => ?_ | refine W_skip ?_ | refine W_ret ?_) | ((first | ((with_reducible refine W_id ?_); refine W_reg (by decide) (by rfl) ?_) | (with_reducible first | refine W_cond ?_ | refine hZ _ _ ?_ | refine W_exit ?_ | refine Wo_id ?_)); repeat1' simp only [push_cast, Nat.reduceBEq, Nat.reduceLT, Nat.reduceEqDiff, reduceIte, reduceCtorEq, Nat.reduceMul, Nat.reduceAdd, Nat.reduceSub, Int.reduceEq, Int.reduceLT, Int.reduceLE, Int.reduceNeg, Int.reduceAdd, Int.reduceSub, Int.reduceMul, Nat.reduceLeDiff, Int.reduceToNat, cell_h, cellO_cells, h1]) | ((repeat ((fail_if_success with_reducible refine hK _ _ ?_); clear hK K)); (with_reducible refine hK _ _ ?_); clear hK K)))
  refine (slen_c hS).mono ?_
  intro v w' ⟨hv, hw⟩
  subst hv; subst w'
  ((repeat simp only [push_cast, Nat.reduceBEq, Nat.reduceLT, Nat.reduceEqDiff, reduceIte, reduceCtorEq, Nat.reduceMul, Nat.reduceAdd, Nat.reduceSub, Int.reduceEq, Int.reduceLT, Int.reduceLE, Int.reduceNeg, Int.reduceAdd, Int.reduceSub, Int.reduceMul, Nat.reduceLeDiff, Int.reduceToNat, s0]); (repeat (first | (with_reducible first | (refine hK _ _ ?_; clear hK K) | refine (show ∀ σ' w', _ → K σ' w' from by assumption) _ _ ?_ | refine W_seq_k fun K hK => ?_ | refine W_block_k fun K hK => ?_ | refine W_skip ?_ | refine W_ret ?_) | ((first | ((with_reducible refine W_id ?_); refine W_reg (by decide) (by rfl) ?_) | (with_reducible first | refine W_cond ?_ | refine hZ _ _ ?_ | refine W_exit ?_ | refine Wo_id ?_)); repeat1' simp only [push_cast, Nat.reduceBEq, Nat.reduceLT, Nat.reduceEqDiff, reduceIte, reduceCtorEq, Nat.reduceMul, Nat.reduceAdd, Nat.reduceSub, Int.reduceEq, Int.reduceLT, Int.reduceLE, Int.reduceNeg, Int.reduceAdd, Int.reduceSub, Int.reduceMul, Nat.reduceLeDiff, Int.reduceToNat, s0]) | ((repeat ((fail_if_success with_reducible refine hK _ _ ?_); clear hK K)); (with_reducible refine hK _ _ ?_); clear hK K))))
  refine W_loop (S := Nat × List OpS) (fun z => [(0, .func (.yield l) #[] #[]), (1, .pointer (some ⟨bs, 0, none⟩)), (2, .pointer (some ⟨bw, 0, none⟩)), (4, .int .i64 ((z.1 : Int) - 1))])
    (fun z w2 => z.2.length + z.1 = s.length ∧ z.2 ++ scp (scE which) s z.1 = scp (scE which) s s.length ∧ Keep W w2 ∧ J z.2 w2) (fun z => z.1) (s.length, []) ?_ ?_ ?_
  · (repeat simp only [push_cast, Nat.reduceBEq, Nat.reduceLT, Nat.reduceEqDiff, reduceIte, reduceCtorEq, Nat.reduceMul, Nat.reduceAdd, Nat.reduceSub, Int.reduceEq, Int.reduceLT, Int.reduceLE, Int.reduceNeg, Int.reduceAdd, Int.reduceSub, Int.reduceMul, Nat.reduceLeDiff, Int.reduceToNat])
  · exact ⟨by simp, rfl, (Ext.refl W).keep, h0⟩
  rintro ⟨k, pre⟩ w2 ⟨hk, he, hx, hj⟩
  dsimp only at hk he hj ⊢
  have hS2 := hS.keep hx
  have h12 := hx.blk h1
  have h22 := hx.blk h2
  have h02 := hS2.head
  cases k with
  | zero =>
    have e0 : (((0 : Nat) : Int) - 1) = -1 := rfl
    rw [e0]
    have b0 : ¬ (0 : Int) ≤ -1 := by omega
    (repeat (first | (with_reducible first | (refine hK _ _ ?_; clear hK K) | refine (show ∀ σ' w', _ → K σ' w' from by assumption) _ _ ?_ | refine W_seq_k fun K hK => ?_ | refine W_block_k fun K hK => ?_ | refine W_skip ?_ | refine W_ret ?_) | ((first | ((with_reducible refine W_id ?_); refine W_reg (by decide) (by rfl) ?_) | (with_reducible first | refine W_cond ?_ | refine hZ _ _ ?_ | refine W_exit ?_ | refine Wo_id ?_)); repeat1' simp only [push_cast, Nat.reduceBEq, Nat.reduceLT, Nat.reduceEqDiff, reduceIte, reduceCtorEq, Nat.reduceMul, Nat.reduceAdd, Nat.reduceSub, Int.reduceEq, Int.reduceLT, Int.reduceLE, Int.reduceNeg, Int.reduceAdd, Int.reduceSub, Int.reduceMul, Nat.reduceLeDiff, Int.reduceToNat, b0]) | ((repeat ((fail_if_success with_reducible refine hK _ _ ?_); clear hK K)); (with_reducible refine hK _ _ ?_); clear hK K)))
    rw [scp, List.append_nil] at he
    exact .inl ⟨pre, he, hj⟩
  | succ k =>
    have e0 : (((k + 1 : Nat) : Int) - 1) = k := by omega
    rw [e0]
    rw [scp] at he
    have b2 : inI64 ((k : Int) - 1) := by unfold inI64; omega
    have b0 : (0 : Int) ≤ (k : Int) := by omega
    have hkl : k < s.length := by omega
    have b3 : (k : Int) < (s.length : Int) := by omega
    obtain ⟨y, hy⟩ : ∃ y, s[k]? = some y := ⟨_, List.getElem?_eq_getElem hkl⟩
    have hgd : s.getD k zS = y := by simp [List.getD, hy]
    rw [hgd] at he
    obtain ⟨b, o, c, rfl, hbo1, c1, c2, c3⟩ := ops_cell hS2.sl hy
    (repeat (first | (with_reducible first | (refine hK _ _ ?_; clear hK K) | refine (show ∀ σ' w', _ → K σ' w' from by assumption) _ _ ?_ | refine W_seq_k fun K hK => ?_ | refine W_block_k fun K hK => ?_ | refine W_skip ?_ | refine W_ret ?_) | ((first | ((with_reducible refine W_id ?_); refine W_reg (by decide) (by rfl) ?_) | (with_reducible first | refine W_cond ?_ | refine hZ _ _ ?_ | refine W_exit ?_ | refine Wo_id ?_)); repeat1' simp only [push_cast, Nat.reduceBEq, Nat.reduceLT, Nat.reduceEqDiff, reduceIte, reduceCtorEq, Nat.reduceMul, Nat.reduceAdd, Nat.reduceSub, Int.reduceEq, Int.reduceLT, Int.reduceLE, Int.reduceNeg, Int.reduceAdd, Int.reduceSub, Int.reduceMul, Nat.reduceLeDiff, Int.reduceToNat, b0, b3, cell_h, cellO_cells, h02, h12, c1, c2, c3, RunV_zero Tryd.zeroValue79, vcells_agg]) | ((repeat ((fail_if_success with_reducible refine hK _ _ ?_); clear hK K)); (with_reducible refine hK _ _ ?_); clear hK K)))
    obtain ⟨hx3, z3, hs3⟩ := new3 w2 (.int .i64 0) (.int .i64 0) (.string ⟨#[]⟩) (.int .i64 y.node) (.int .i64 y.space) (.string y.name) 79
    simp only [can_h, heap_alloc_h, if_true, canO_cells, List.size_toArray, List.length_cons, List.length_nil, Nat.zero_add, Nat.reduceAdd, Nat.reduceLT, true_and]
    generalize setCells (w2.alloc (.cells #[.int .i64 0, .int .i64 0, .string ⟨#[]⟩] 79)) ⟨w2.heap.size, 0, none⟩ [.int .i64 y.node, .int .i64 y.space, .string y.name] 0 = w3 at *
    obtain ⟨p5, hp5⟩ : ∃ p5, p5 = w2.heap.size := ⟨_, rfl⟩
    rw [← hp5] at z3 hs3 ⊢
    refine hK _ _ ?_
    clear hK K
    refine W_seq_k fun K hK => ?_
    refine W_yield (by decide) [_, _] [_, _, _, _, _, _, _, _, _] 22 _ _ _ _ _ rfl (by decide) (by decide) rfl ?_
    have hj3 := hJ _ _ _ hj hx3
    have hy3 := hY pre y w3 hj3 (by omega)
    (repeat simp only [push_cast, Nat.reduceBEq, Nat.reduceLT, Nat.reduceEqDiff, reduceIte, reduceCtorEq, Nat.reduceMul, Nat.reduceAdd, Nat.reduceSub, Int.reduceEq, Int.reduceLT, Int.reduceLE, Int.reduceNeg, Int.reduceAdd, Int.reduceSub, Int.reduceMul, Nat.reduceLeDiff, Int.reduceToNat, cell_h, cellO_cells, z3])
    refine ⟨l, rfl, YieldAt.mono hy3 ?_⟩
    rintro e w4 (⟨rfl, hj4, hk4⟩ | ⟨rfl, hjx⟩)
    · refine ⟨_, rfl, ?_⟩
      have hx4 := (hx.trans hx3.keep).trans hk4
      have z4 := hk4.blk z3
      have h24 := hx4.blk h2
      ((repeat simp only [push_cast, Nat.reduceBEq, Nat.reduceLT, Nat.reduceEqDiff, reduceIte, reduceCtorEq, Nat.reduceMul, Nat.reduceAdd, Nat.reduceSub, Int.reduceEq, Int.reduceLT, Int.reduceLE, Int.reduceNeg, Int.reduceAdd, Int.reduceSub, Int.reduceMul, Nat.reduceLeDiff, Int.reduceToNat, cell_h, cellO_cells, z4, h24]); (repeat (first | (with_reducible first | (refine hK _ _ ?_; clear hK K) | refine (show ∀ σ' w', _ → K σ' w' from by assumption) _ _ ?_ | refine W_seq_k fun K hK => ?_ | refine W_block_k fun K hK => ?_ | refine W_skip ?_ | refine W_ret ?_) | ((first | ((with_reducible refine W_id ?_); refine W_reg (by decide) (by rfl) ?_) | (with_reducible first | refine W_cond ?_ | refine hZ _ _ ?_ | refine W_exit ?_ | refine Wo_id ?_)); repeat1' simp only [push_cast, Nat.reduceBEq, Nat.reduceLT, Nat.reduceEqDiff, reduceIte, reduceCtorEq, Nat.reduceMul, Nat.reduceAdd, Nat.reduceSub, Int.reduceEq, Int.reduceLT, Int.reduceLE, Int.reduceNeg, Int.reduceAdd, Int.reduceSub, Int.reduceMul, Nat.reduceLeDiff, Int.reduceToNat, cell_h, cellO_cells, z4, h24]) | ((repeat ((fail_if_success with_reducible refine hK _ _ ?_); clear hK K)); (with_reducible refine hK _ _ ?_); clear hK K))))
      refine (scope_c which y.space y.name (hg.keep hx4) (hz y (List.mem_of_getElem? hy))).mono ?_
      intro v w' ⟨hv, hw⟩
      subst hv; subst w'
      cases hb : scopeN which y.space y.name
      · rw [if_neg (by unfold scE; rw [hb]; decide)] at he
        ((repeat simp only [push_cast, Nat.reduceBEq, Nat.reduceLT, Nat.reduceEqDiff, reduceIte, reduceCtorEq, Nat.reduceMul, Nat.reduceAdd, Nat.reduceSub, Int.reduceEq, Int.reduceLT, Int.reduceLE, Int.reduceNeg, Int.reduceAdd, Int.reduceSub, Int.reduceMul, Nat.reduceLeDiff, Int.reduceToNat, b2]); (repeat (first | (with_reducible first | (refine hK _ _ ?_; clear hK K) | refine (show ∀ σ' w', _ → K σ' w' from by assumption) _ _ ?_ | refine W_seq_k fun K hK => ?_ | refine W_block_k fun K hK => ?_ | refine W_skip ?_ | refine W_ret ?_) | ((first | ((with_reducible refine W_id ?_); refine W_reg (by decide) (by rfl) ?_) | (with_reducible first | refine W_cond ?_ | refine hZ _ _ ?_ | refine W_exit ?_ | refine Wo_id ?_)); repeat1' simp only [push_cast, Nat.reduceBEq, Nat.reduceLT, Nat.reduceEqDiff, reduceIte, reduceCtorEq, Nat.reduceMul, Nat.reduceAdd, Nat.reduceSub, Int.reduceEq, Int.reduceLT, Int.reduceLE, Int.reduceNeg, Int.reduceAdd, Int.reduceSub, Int.reduceMul, Nat.reduceLeDiff, Int.reduceToNat, b2]) | ((repeat ((fail_if_success with_reducible refine hK _ _ ?_); clear hK K)); (with_reducible refine hK _ _ ?_); clear hK K))))
        refine ⟨(k, pre ++ [y]), by omega, ?_⟩
        (repeat simp only [push_cast, Nat.reduceBEq, Nat.reduceLT, Nat.reduceEqDiff, reduceIte, reduceCtorEq, Nat.reduceMul, Nat.reduceAdd, Nat.reduceSub, Int.reduceEq, Int.reduceLT, Int.reduceLE, Int.reduceNeg, Int.reduceAdd, Int.reduceSub, Int.reduceMul, Nat.reduceLeDiff, Int.reduceToNat])
        refine ⟨by simp; omega, ?_, hx4, hj4⟩
        rw [List.append_assoc]
        exact he
      · rw [if_pos (by unfold scE; rw [hb])] at he
        ((repeat simp only [push_cast, Nat.reduceBEq, Nat.reduceLT, Nat.reduceEqDiff, reduceIte, reduceCtorEq, Nat.reduceMul, Nat.reduceAdd, Nat.reduceSub, Int.reduceEq, Int.reduceLT, Int.reduceLE, Int.reduceNeg, Int.reduceAdd, Int.reduceSub, Int.reduceMul, Nat.reduceLeDiff, Int.reduceToNat]); (repeat (first | (with_reducible first | (refine hK _ _ ?_; clear hK K) | refine (show ∀ σ' w', _ → K σ' w' from by assumption) _ _ ?_ | refine W_seq_k fun K hK => ?_ | refine W_block_k fun K hK => ?_ | refine W_skip ?_ | refine W_ret ?_) | ((first | ((with_reducible refine W_id ?_); refine W_reg (by decide) (by rfl) ?_) | (with_reducible first | refine W_cond ?_ | refine hZ _ _ ?_ | refine W_exit ?_ | refine Wo_id ?_)); repeat1' simp only [push_cast, Nat.reduceBEq, Nat.reduceLT, Nat.reduceEqDiff, reduceIte, reduceCtorEq, Nat.reduceMul, Nat.reduceAdd, Nat.reduceSub, Int.reduceEq, Int.reduceLT, Int.reduceLE, Int.reduceNeg, Int.reduceAdd, Int.reduceSub, Int.reduceMul, Nat.reduceLeDiff, Int.reduceToNat]) | ((repeat ((fail_if_success with_reducible refine hK _ _ ?_); clear hK K)); (with_reducible refine hK _ _ ?_); clear hK K))))
        exact .inl ⟨_, he, hj4⟩
    · refine ⟨_, rfl, ?_⟩
      ((repeat simp only [push_cast, Nat.reduceBEq, Nat.reduceLT, Nat.reduceEqDiff, reduceIte, reduceCtorEq, Nat.reduceMul, Nat.reduceAdd, Nat.reduceSub, Int.reduceEq, Int.reduceLT, Int.reduceLE, Int.reduceNeg, Int.reduceAdd, Int.reduceSub, Int.reduceMul, Nat.reduceLeDiff, Int.reduceToNat]); (repeat (first | (with_reducible first | (refine hK _ _ ?_; clear hK K) | refine (show ∀ σ' w', _ → K σ' w' from by assumption) _ _ ?_ | refine W_seq_k fun K hK => ?_ | refine W_block_k fun K hK => ?_ | refine W_skip ?_ | refine W_ret ?_) | ((first | ((with_reducible refine W_id ?_); refine W_reg (by decide) (by rfl) ?_) | (with_reducible first | refine W_cond ?_ | refine hZ _ _ ?_ | refine W_exit ?_ | refine Wo_id ?_)); repeat1' simp only [push_cast, Nat.reduceBEq, Nat.reduceLT, Nat.reduceEqDiff, reduceIte, reduceCtorEq, Nat.reduceMul, Nat.reduceAdd, Nat.reduceSub, Int.reduceEq, Int.reduceLT, Int.reduceLE, Int.reduceNeg, Int.reduceAdd, Int.reduceSub, Int.reduceMul, Nat.reduceLeDiff, Int.reduceToNat]) | ((repeat ((fail_if_success with_reducible refine hK _ _ ?_); clear hK K)); (with_reducible refine hK _ _ ?_); clear hK K))))
      refine .inr ⟨_, ?_, hjx⟩
      rw [← he]
      exact ⟨if scE which y = true then [] else scp (scE which) s k, by simp⟩
end
end Go.Proofs.YtkafpameheohdaaDoor
end
section
set_option linter.unusedSimpArgs false
set_option linter.unusedVariables false
namespace Go.Vk
open Go Go.RowKit
def Mark (D : Nat) : Deferred := { target := .collected D, args := #[] }
theorem vc_bool (b : Bool) : (Value.bool b).cells = #[.bool b] := rfl
theorem grown_cells {A B : World} {row : Option Nat} {b : Nat} {cs : Array Value} {t : TypeId} {f : Nat × Nat} (h : A.heap[b]? = some (.cells cs t f)) (hg : A.grownBy B row) (hr : ∀ r, row = some r → ∃ o : Obj, A.heap[r]? = some o ∧ o.isCells = false) : B.heap[b]? = some (.cells cs t f) :=
  (hg.block b (blk_lt h) fun e => by
    obtain ⟨o, h1, h2⟩ := hr b e.symm
    rw [h] at h1; cases h1; cases h2).trans h
theorem set_any (a : Act) (v : Value) : ((#[11].zip #[v]).foldl (fun t (x : Nat × Value) => t.setIfInBounds x.1 x.2) a.tmps) = a.tmps.setIfInBounds 11 v := by simp
/-- 'for o := range seq { if p(o) { return true } }', and what is behind it -/
theorem range_any {P : Program} {n gf : Nat} {lb : Array Value} {g : Operand} {assign body : Code} {Q : Exit → Act → World → Prop} {a : Act} {W0 : World} {σ : Regs} (hk : Kn n σ a) (hn : 11 < n) (hg : evO σ g = some (.func (.func gf) #[] lb)) (eg : Enters P gf)
    {N : Nat} {Ls : List OpS} (p : OpS → Bool) {T t p6 : Nat} (h6 : W0.heap[p6]? = some (.cells #[.bool false] t (0, 0)))
    (hseq : SeqStopsK Fence.wide 0 P gf lb (fun o : OpS => #[.agg o.row]) Keep (fun xs => xs = Ls) (fun pre => pre <+: Ls) N W0)
    (ha : ∀ (l : Nat) (x : OpS) (a' : Act) (W : World) (K : Act → World → Prop), Ext W0 W → Kn n (put σ (some 11) (.agg x.row)) a' → a'.defers = [] →
      (∀ (a'' : Act) (W' : World) (p7 : Nat), Ext W W' → W'.heap[p7]? = some (.cells x.row T (0, 0)) → W.heap.size ≤ p7 → Kn n (put σ (some 7) (.pointer (some ⟨p7, 0, none⟩))) a'' → a''.defers = [] → K a'' W') → assign.wpIn (Rd (some l)) 0 P (Exit.then K fun _ _ _ => False) a' W)
    (hb : ∀ (l : Nat) (x : OpS) (a' : Act) (W : World) (p7 : Nat), Ext W0 W → W.heap[p7]? = some (.cells x.row T (0, 0)) → W0.heap.size ≤ p7 → Kn n (put σ (some 7) (.pointer (some ⟨p7, 0, none⟩))) a' → a'.defers = [] →
      body.wpIn (Rd (some l)) 0 P (fun e _ W' => (e = .normal ∧ p x = false ∧ Ext W W') ∨ (e = .ret ∧ p x = true ∧ ∃ W1, Ext W W1 ∧ W' = W1.setCell ⟨p6, 0, none⟩ (.bool true))) a' W)
    (hd : ∀ (D : Nat) (W : World), W0.heap.size ≤ D → Ls.any p = false → Ext W0 W → W.heap[D]? = some (.deferred (some [])) → Q .normal { a with defers := Mark D :: a.defers } W)
    (hs : ∀ (D : Nat) (W : World), W0.heap.size ≤ D → Ls.any p = true → Upd (fun b => b = p6) W0 W → W.heap[p6]? = some (.cells #[.bool true] t (0, 0)) → W.heap[D]? = some (.deferred (some [])) → Q .ret { a with defers := Mark D :: a.defers } W) :
    (Code.rangeFunc g #[11] assign body).wpIn Fence.wide 1 P Q a W0 := by
  have hev : a.eval g = .func (.func gf) #[] lb := hk.ev hg
  have hp6 := blk_lt h6
  refine wpIn_rangeFunc_ownH (F := Fence.wide) (n := 1) rfl (Nat.le_refl _) hev trivial eg hseq (fun h k => Keep.trans h k) (fun W l o o' _ h hc _ => Keep.putObj W l o o' h hc) (Below.refl _ _) (fun _ => rfl)
    (fun pre W => Ext W0 W ∧ pre.any p = false) (fun c pre W => c = .ret ∧ pre.any p = true ∧ Upd (fun b => b = p6) W0 W ∧ W.heap[p6]? = some (.cells #[.bool true] t (0, 0))) ?_ ?_ ⟨Ext.refl _, rfl⟩
    (fun x a' W => ∃ p7, W.heap[p7]? = some (.cells x.row T (0, 0)) ∧ W0.heap.size ≤ p7 ∧ Kn n (put σ (some 7) (.pointer (some ⟨p7, 0, none⟩))) a' ∧ a'.defers = []) ?_ ?_ ?_ ?_ ?_
  · rintro pre A B row ⟨h1, h2⟩ hgr hr
    exact ⟨Upd.grown h1 hgr fun r e => (hr r e).1, h2⟩
  · rintro c pre A B row ⟨h1, h2, h3, h4⟩ hgr hr
    exact ⟨h1, h2, Upd.grown h3 hgr fun r e => (hr r e).1, grown_cells h4 hgr fun r e => (hr r e).2⟩
  · rintro x a' _ A B row ⟨p7, h1, h2, h3⟩ hgr hr
    exact ⟨p7, grown_cells h1 hgr fun r e => (hr r e).2, h2, h3⟩
  · rintro l pre x W K ⟨hx, hp⟩ hK
    refine ha l x _ W K hx ?_ rfl fun a'' W' p7 h1 h2 h3 h4 h5 => hK a'' W' (h1.keepsFrom _) h1.keep ⟨hx.trans h1, hp⟩ ⟨p7, h2, Nat.le_trans hx.alike.size h3, h4, h5⟩
    have := Known.put hk (d := some 11) hn (.agg x.row)
    rw [set_any]
    exact this
  · rintro l pre x a' W hl _ ⟨hx, hp⟩ ⟨p7, h1, h2, h3, h4⟩ _
    refine wpIn_mono (hb l x a' W p7 hx h1 h2 h3 h4) ?_
    rintro e a3 W3 (⟨rfl, q1, q2⟩ | ⟨rfl, q1, W1, q2, rfl⟩)
    · refine ⟨q2.keepsFrom _, q2.keep, hx.trans q2, ?_⟩
      rw [List.any_append, hp]; simp [q1]
    · refine ⟨(q2.keepsFrom _).trans ((KeepsOthers.setCell _ _ _).from _), rfl, ?_, ?_, ?_⟩
      · rw [List.any_append]; simp [q1]
      · exact Upd.trans (hx.trans q2).upd (Upd.setCell (F := fun b => b = p6) (a := ⟨p6, 0, none⟩) W1 rfl _) fun _ _ h => h
      · rw [heap_set_h, if_pos rfl, (hx.trans q2).blk h6]; rfl
  · rintro D xs W hD rfl ⟨hx, hp⟩ hK
    exact hd D W hD hp hx hK
  · rintro D c pre W hD hpre ⟨rfl, hp, hx, h6'⟩ hK
    refine wpIn_ret (hs D W hD ?_ hx h6' hK)
    obtain ⟨t, ht⟩ := hpre
    rw [← ht, List.any_append, hp, Bool.true_or]
theorem kn_args {n : Nat} {args : Array Value} (ha : args.size ≤ n) : Kn n (argR 0 args.toList) { tmps := args ++ Array.replicate (n - args.size) undef, defers := [] } := by
  refine ⟨rfl, by simp; omega, fun t v hv => ?_⟩
  obtain ⟨_, h2⟩ := argR_find _ _ _ _ hv
  have hlt : t < args.size := by
    have := (List.getElem?_eq_some_iff.1 h2).1
    simpa using this
  rw [Array.getElem?_append_left hlt]
  simpa using h2
theorem leaves_mark {P : Program} {fn : Func} {n : Nat} {σ : Regs} {a : Act} {D : Nat} {w : World} {R : Value → World → Prop} (hk : Kn n σ a) (hd : a.defers = [Mark D]) (hD : w.heap[D]? = some (.deferred (some [])))
    (h : resL P σ (w.putObj D (.deferred none)) fn.results.toList fun vs => R (resV vs) (w.putObj D (.deferred none))) : LeavesInM Fence.wide 1 P fn a.tmps (fun e w' => ∃ v, e = .returned v ∧ R v w') a.defers .returning w := by
  rw [hd]
  refine ⟨by simp, .inl ⟨D, _, rfl, run_takeDeferred hD, ?_⟩⟩
  obtain ⟨v, hr, hR⟩ := results_run (k := fun v => R v (w.putObj D (.deferred none))) hk h
  exact ⟨v, hr, v, rfl, hR⟩
end Go.Vk
namespace Go.Proofs.YtkafpameheohdaaDoor
open Go Go.Vk Go.RowKit
set_option maxHeartbeats 40000000
section
variable {w : World} {ps : Nat} {ap sv : Value} {s : List OpS} {bo : Option Nat}
theorem sscope_c (pv : Option Addr) (which : Int) : Gives Tryd.prog 41 #[.pointer pv, .int .i64 which] w fun v w' => ∃ bs bw, v = .func (.func 68) #[] #[.pointer (some ⟨bs, 0, none⟩), .pointer (some ⟨bw, 0, none⟩)] ∧ w'.heap[bs]? = some (.cells #[.pointer pv] 26 (0, 0)) ∧ w'.heap[bw]? = some (.cells #[.int .i64 which] 3 (0, 0)) ∧ Ext w w' := by
  refine Gives.of_W Tryd.call41 Tryd.func41 rfl Tryd.ntmps41 (by simp) ?_; intro Z hZ
  (repeat (first | (with_reducible first | (refine hK _ _ ?_; clear hK K) | refine (show ∀ σ' w', _ → K σ' w' from by assumption) _ _ ?_ | refine W_seq_k fun K hK => ?_ | refine W_block_k fun K hK => ?_ | refine W_skip ?_ | refine W_ret ?_) | ((first | ((with_reducible refine W_id ?_); refine W_reg (by decide) (by rfl) ?_) | (with_reducible first | refine W_cond ?_ | refine hZ _ _ ?_ | refine W_exit ?_ | refine Wo_id ?_)); repeat1' simp only [push_cast, Nat.reduceBEq, Nat.reduceLT, Nat.reduceEqDiff, reduceIte, reduceCtorEq, Nat.reduceMul, Nat.reduceAdd, Nat.reduceSub, Int.reduceEq, Int.reduceLT, Int.reduceLE, Int.reduceNeg, Int.reduceAdd, Int.reduceSub, Int.reduceMul, Nat.reduceLeDiff, Int.reduceToNat, vc_ptr, vc_int]) | ((repeat ((fail_if_success with_reducible refine hK _ _ ?_); clear hK K)); (with_reducible refine hK _ _ ?_); clear hK K)))
  have hx := (Ext.alloc w (.cells #[.pointer pv] 26)).trans (Ext.alloc _ (.cells #[.int .i64 which] 3))
  refine ⟨_, _, rfl, ?_, ?_, hx⟩
  · rw [heap_alloc_h, if_neg (by rw [size_alloc_h]; omega), heap_alloc_h, if_pos rfl]
  · rw [heap_alloc_h, if_pos (by rw [size_alloc_h])]
theorem scope_stops {which : Int} {bs bw : Nat} (hs : s.length < 10000) (hz : ∀ o ∈ s, o.name.size < 4294967281)
    (hg : GL w) (hS : SK w ps ap sv s bo) (h1 : w.heap[bs]? = some (.cells #[.pointer (some ⟨ps, 0, none⟩)] 26 (0, 0))) (h2 : w.heap[bw]? = some (.cells #[.int .i64 which] 3 (0, 0))) :
    SeqStopsK Fence.wide 0 Tryd.prog 68 #[.pointer (some ⟨bs, 0, none⟩), .pointer (some ⟨bw, 0, none⟩)] (fun o : OpS => #[.agg o.row]) Keep (fun xs => xs = scp (scE which) s s.length) (fun pre => pre <+: scp (scE which) s s.length) s.length w := by
  intro l J Jx W hW hJ hJx hY h0
  have hu : Ext w W := ⟨⟨hW.os, hW.tape, hW.output, hW.size⟩, fun b hb _ => hW.block b hb⟩
  refine (callsIn_wide (n := 0)).2 ((Gives.calls Tryd.call68 (scope1_c (l := l) (bs := bs) (bw := bw) (which := which) (J := J) (Jx := Jx) hs hz (hg.ext hu) (hS.ext hu) (hu.blk h1) (hu.blk h2)
    (fun pre W1 W2 h hx => hJ pre W1 W2 none h hx.grown fun r e => by cases e) (fun pre W1 W2 h hx => hJx pre W1 W2 none h hx.grown fun r e => by cases e) hY h0)).mono ?_)
  rintro e w' ⟨v, rfl, h⟩
  exact ⟨⟨v, rfl⟩, h⟩
theorem shas_cg {pv : Option Addr} {which : Int} {xa : Option Addr} {xn xc : Nat} {l0 : List ByteArray} (hn : RdAt w 1 (.slice xa xn xc) (strCells l0)) (hl : l0.length < 1000000000) {Ls : List OpS} {N : Nat}
    (hst : ∀ w2 bs bw, Ext w w2 → w2.heap[bs]? = some (.cells #[.pointer pv] 26 (0, 0)) → w2.heap[bw]? = some (.cells #[.int .i64 which] 3 (0, 0)) →
      SeqStopsK Fence.wide 0 Tryd.prog 68 #[.pointer (some ⟨bs, 0, none⟩), .pointer (some ⟨bw, 0, none⟩)] (fun o : OpS => #[.agg o.row]) Keep (fun xs => xs = Ls) (fun pre => pre <+: Ls) N w2) :
    Gives Tryd.prog 17 #[.pointer pv, .int .i64 which, .slice xa xn xc] w fun v w' => v = .bool (Ls.any fun o => htmlS o l0) ∧ Ext w w' := by
  refine .inl ⟨Tryd.call17, (callsIn_wide (n := 1)).1 (callsIn_of_wp_marks Tryd.func17 rfl trivial ?_ rfl)⟩
  
  rw [Tryd.ntmps17]
  refine wpIn_seq ?_
  refine reg_rd (r := none) (n := 15) (by decide) (kn_args (by simp)) (by decide) (by decide) ?_
  (repeat simp only [push_cast, Nat.reduceBEq, Nat.reduceLT, Nat.reduceEqDiff, reduceIte, reduceCtorEq, Nat.reduceMul, Nat.reduceAdd, Nat.reduceSub, Int.reduceEq, Int.reduceLT, Int.reduceLE, Int.reduceNeg, Int.reduceAdd, Int.reduceSub, Int.reduceMul, Nat.reduceLeDiff, Int.reduceToNat, vc_sl, RunV_zero Tryd.zeroValue4, vc_bool])
  have hx1 := (Ext.alloc w (.cells #[.slice xa xn xc] 66)).trans (Ext.alloc _ (.cells #[.bool false] 4))
  have z5 : ((w.alloc (.cells #[.slice xa xn xc] 66)).alloc (.cells #[.bool false] 4)).heap[w.heap.size]? = some (.cells #[.slice xa xn xc] 66 (0, 0)) := by rw [heap_alloc_h, if_neg (by rw [size_alloc_h]; omega), heap_alloc_h, if_pos rfl]
  have z6 : ((w.alloc (.cells #[.slice xa xn xc] 66)).alloc (.cells #[.bool false] 4)).heap[w.heap.size + 1]? = some (.cells #[.bool false] 4 (0, 0)) := by rw [heap_alloc_h, if_pos (by rw [size_alloc_h])]
  try simp only [size_alloc_h]
  generalize (w.alloc (.cells #[.slice xa xn xc] 66)).alloc (.cells #[.bool false] 4) = w1 at *
  obtain ⟨p5, hp5⟩ : ∃ p5, p5 = w.heap.size := ⟨_, rfl⟩
  obtain ⟨p6, hp6⟩ : ∃ p6, p6 = w.heap.size + 1 := ⟨_, rfl⟩
  rw [← hp6] at z6 ⊢
  rw [← hp5] at z5 ⊢
  intro a1 hk1 hd1
  refine wpIn_seq ?_
  refine wpIn_seq ?_
  refine reg_rd (r := none) (n := 15) (by decide) hk1 (by decide) (by decide) ?_
  (repeat simp only [push_cast, Nat.reduceBEq, Nat.reduceLT, Nat.reduceEqDiff, reduceIte, reduceCtorEq, Nat.reduceMul, Nat.reduceAdd, Nat.reduceSub, Int.reduceEq, Int.reduceLT, Int.reduceLE, Int.reduceNeg, Int.reduceAdd, Int.reduceSub, Int.reduceMul, Nat.reduceLeDiff, Int.reduceToNat])
  refine (sscope_c pv which).mono ?_
  rintro v w2 ⟨bs, bw, rfl, g1, g2, hx2⟩
  (repeat simp only [push_cast, Nat.reduceBEq, Nat.reduceLT, Nat.reduceEqDiff, reduceIte, reduceCtorEq, Nat.reduceMul, Nat.reduceAdd, Nat.reduceSub, Int.reduceEq, Int.reduceLT, Int.reduceLE, Int.reduceNeg, Int.reduceAdd, Int.reduceSub, Int.reduceMul, Nat.reduceLeDiff, Int.reduceToNat])
  intro a2 hk2 hd2
  have hx02 := hx1.trans hx2
  have z62 := hx2.blk z6
  have hl2 := hx02.alike.size
  refine wpIn_block ?_
  refine range_any (T := 79) hk2 (by decide) rfl Tryd.call68 (fun o => htmlS o l0) z62 (hst w2 bs bw hx02 g1 g2) ?_ ?_ ?_ ?_
  · intro l x a' W K hxW hk' hd' hK
    unfold OpS.row at hk' hK
    refine reg_rd (r := some l) (n := 15) (by decide) hk' (by decide) (by decide) ?_
    (repeat simp only [push_cast, Nat.reduceBEq, Nat.reduceLT, Nat.reduceEqDiff, reduceIte, reduceCtorEq, Nat.reduceMul, Nat.reduceAdd, Nat.reduceSub, Int.reduceEq, Int.reduceLT, Int.reduceLE, Int.reduceNeg, Int.reduceAdd, Int.reduceSub, Int.reduceMul, Nat.reduceLeDiff, Int.reduceToNat, RunV_zero Tryd.zeroValue79, vcells_agg])
    obtain ⟨hx3, z3, hs3⟩ := new3 W (.int .i64 0) (.int .i64 0) (.string ⟨#[]⟩) (.int .i64 x.node) (.int .i64 x.space) (.string x.name) 79
    simp only [can_h, heap_alloc_h, if_true, canO_cells, List.size_toArray, List.length_cons, List.length_nil, Nat.zero_add, Nat.reduceAdd, Nat.reduceLT, true_and]
    intro a3 hk3 hd3
    refine hK a3 _ _ hx3 z3 (Nat.le_refl _) (Known.sub hk3 ?_) (hd3.trans hd')
    (repeat simp only [push_cast, Nat.reduceBEq, Nat.reduceLT, Nat.reduceEqDiff, reduceIte, reduceCtorEq, Nat.reduceMul, Nat.reduceAdd, Nat.reduceSub, Int.reduceEq, Int.reduceLT, Int.reduceLE, Int.reduceNeg, Int.reduceAdd, Int.reduceSub, Int.reduceMul, Nat.reduceLeDiff, Int.reduceToNat])
  · intro l x a' W p7 hxW z7 hp7 hk' hd'
    have z5W := (hx2.trans hxW).blk z5
    have z6W := (hx2.trans hxW).blk z6
    unfold OpS.row at z7
    refine wpIn_block (wpIn_seq ?_)
    refine reg_rd (r := some l) (n := 15) (by decide) hk' (by decide) (by decide) ?_
    (repeat simp only [push_cast, Nat.reduceBEq, Nat.reduceLT, Nat.reduceEqDiff, reduceIte, reduceCtorEq, Nat.reduceMul, Nat.reduceAdd, Nat.reduceSub, Int.reduceEq, Int.reduceLT, Int.reduceLE, Int.reduceNeg, Int.reduceAdd, Int.reduceSub, Int.reduceMul, Nat.reduceLeDiff, Int.reduceToNat, cell_h, cellO_cells, z7, z5W])
    refine (html_c (o := x) ((hn.ext hx02).ext hxW) hl).mono ?_
    rintro v w4 ⟨rfl, hx4⟩
    (repeat simp only [push_cast, Nat.reduceBEq, Nat.reduceLT, Nat.reduceEqDiff, reduceIte, reduceCtorEq, Nat.reduceMul, Nat.reduceAdd, Nat.reduceSub, Int.reduceEq, Int.reduceLT, Int.reduceLE, Int.reduceNeg, Int.reduceAdd, Int.reduceSub, Int.reduceMul, Nat.reduceLeDiff, Int.reduceToNat])
    intro a4 hk4 hd4

    refine cond_rd hk4 (b := htmlS x l0) rfl (fun hpx => ?_) (fun hpx => ?_)
    · refine wpIn_seq (reg_rd (r := some l) (n := 15) (by decide) hk4 (by decide) (by decide) ?_)
      have z64 := hx4.blk z6W
      (repeat simp only [push_cast, Nat.reduceBEq, Nat.reduceLT, Nat.reduceEqDiff, reduceIte, reduceCtorEq, Nat.reduceMul, Nat.reduceAdd, Nat.reduceSub, Int.reduceEq, Int.reduceLT, Int.reduceLE, Int.reduceNeg, Int.reduceAdd, Int.reduceSub, Int.reduceMul, Nat.reduceLeDiff, Int.reduceToNat, cell_h, can_h, canO_cells, z64])
      intro a5 hk5 hd5
      exact wpIn_ret (.inr ⟨rfl, hpx, _, hx4, rfl⟩)
    · exact wpIn_skip (.inl ⟨rfl, hpx, hx4⟩)
  · intro D W hD hany hxW hdD
    rw [hany]
    refine wpIn_seq (reg_rd (r := none) (n := 15) (by decide) (show Kn _ _ _ from hk2) (by decide) (by decide) ?_)
    have z6W := hxW.blk z62
    (repeat simp only [push_cast, Nat.reduceBEq, Nat.reduceLT, Nat.reduceEqDiff, reduceIte, reduceCtorEq, Nat.reduceMul, Nat.reduceAdd, Nat.reduceSub, Int.reduceEq, Int.reduceLT, Int.reduceLE, Int.reduceNeg, Int.reduceAdd, Int.reduceSub, Int.reduceMul, Nat.reduceLeDiff, Int.reduceToNat, cell_h, can_h, canO_cells, z6W])
    intro a5 hk5 hd5
    have hneD : D ≠ p6 := fun e => by rw [e] at hdD; rw [z6W] at hdD; cases hdD
    refine wpIn_ret (leaves_mark (D := D) hk5 (hd5.trans (by rw [hd2, hd1])) ?_ ?_)
    · rw [heap_set_h, if_neg (by exact hneD)]; exact hdD
    have hu9 : Ext w ((W.setCell ⟨p6, 0, none⟩ (.bool false)).putObj D (.deferred none)) := by
      refine Upd.grown (Upd.trans (hx02.trans hxW) (Upd.setCell (F := fun b => b = p6) (a := ⟨p6, 0, none⟩) W rfl (.bool false)) fun b hb e => by omega) (grownBy_putObj' _ D _) fun r e => by cases e; omega
    have z9 : ((W.setCell ⟨p6, 0, none⟩ (.bool false)).putObj D (.deferred none)).heap[p6]? = some (.cells #[.bool false] 4 (0, 0)) := by
      rw [World.putObj_heap_other (by omega), heap_set_h, if_pos rfl, z6W]; rfl
    generalize (W.setCell ⟨p6, 0, none⟩ (.bool false)).putObj D (.deferred none) = w9 at *
    (repeat simp only [push_cast, Nat.reduceBEq, Nat.reduceLT, Nat.reduceEqDiff, reduceIte, reduceCtorEq, Nat.reduceMul, Nat.reduceAdd, Nat.reduceSub, Int.reduceEq, Int.reduceLT, Int.reduceLE, Int.reduceNeg, Int.reduceAdd, Int.reduceSub, Int.reduceMul, Nat.reduceLeDiff, Int.reduceToNat, cell_h, cellO_cells, z9])
    exact hu9
  · intro D W hD hany hxW z6W hdD
    rw [hany]
    have hneD : D ≠ p6 := fun e => by rw [e] at hdD; rw [z6W] at hdD; cases hdD
    refine leaves_mark (D := D) (show Kn _ _ _ from hk2) (by rw [hd2, hd1]) hdD ?_
    have hu9 : Ext w (W.putObj D (.deferred none)) := by
      refine Upd.grown (Upd.trans hx02 hxW fun b hb e => by omega) (grownBy_putObj' _ D _) fun r e => by cases e; omega
    have z9 : (W.putObj D (.deferred none)).heap[p6]? = some (.cells #[.bool true] 4 (0, 0)) := by
      rw [World.putObj_heap_other (by omega), z6W]
    generalize W.putObj D (.deferred none) = w9 at *
    (repeat simp only [push_cast, Nat.reduceBEq, Nat.reduceLT, Nat.reduceEqDiff, reduceIte, reduceCtorEq, Nat.reduceMul, Nat.reduceAdd, Nat.reduceSub, Int.reduceEq, Int.reduceLT, Int.reduceLE, Int.reduceNeg, Int.reduceAdd, Int.reduceSub, Int.reduceMul, Nat.reduceLeDiff, Int.reduceToNat, cell_h, cellO_cells, z9])
    exact hu9
theorem shas_c {which : Int} {xa : Option Addr} {xn xc : Nat} {l0 : List ByteArray} (hn : RdAt w 1 (.slice xa xn xc) (strCells l0)) (hl : l0.length < 1000000000) (hs : s.length < 10000) (hz : ∀ o ∈ s, o.name.size < 4294967281) (hg : GL w) (hS : SK w ps ap sv s bo) :
    Gives Tryd.prog 17 #[.pointer (some ⟨ps, 0, none⟩), .int .i64 which, .slice xa xn xc] w fun v w' => v = .bool ((scp (scE which) s s.length).any fun o => htmlS o l0) ∧ Ext w w' :=
  shas_cg hn hl (N := s.length) fun w2 bs bw hx g1 g2 => scope_stops hs hz (hg.ext hx) (hS.ext hx) g1 g2
theorem shasn_cg {pv : Option Addr} {which : Int} {i : Int} {Ls : List OpS} {N : Nat}
    (hst : ∀ w2 bs bw, Ext w w2 → w2.heap[bs]? = some (.cells #[.pointer pv] 26 (0, 0)) → w2.heap[bw]? = some (.cells #[.int .i64 which] 3 (0, 0)) →
      SeqStopsK Fence.wide 0 Tryd.prog 68 #[.pointer (some ⟨bs, 0, none⟩), .pointer (some ⟨bw, 0, none⟩)] (fun o : OpS => #[.agg o.row]) Keep (fun xs => xs = Ls) (fun pre => pre <+: Ls) N w2) :
    Gives Tryd.prog 22 #[.pointer pv, .int .i64 which, .int .i64 i] w fun v w' => v = .bool (Ls.any fun o => decide (o.node = i)) ∧ Ext w w' := by
  refine .inl ⟨Tryd.call22, (callsIn_wide (n := 1)).1 (callsIn_of_wp_marks Tryd.func22 rfl trivial ?_ rfl)⟩
  
  rw [Tryd.ntmps22]
  refine wpIn_seq ?_
  refine reg_rd (r := none) (n := 16) (by decide) (kn_args (by simp)) (by decide) (by decide) ?_
  (repeat simp only [push_cast, Nat.reduceBEq, Nat.reduceLT, Nat.reduceEqDiff, reduceIte, reduceCtorEq, Nat.reduceMul, Nat.reduceAdd, Nat.reduceSub, Int.reduceEq, Int.reduceLT, Int.reduceLE, Int.reduceNeg, Int.reduceAdd, Int.reduceSub, Int.reduceMul, Nat.reduceLeDiff, Int.reduceToNat, vc_int, RunV_zero Tryd.zeroValue4, vc_bool])
  have hx1 := (Ext.alloc w (.cells #[.int .i64 i] 3)).trans (Ext.alloc _ (.cells #[.bool false] 4))
  have z5 : ((w.alloc (.cells #[.int .i64 i] 3)).alloc (.cells #[.bool false] 4)).heap[w.heap.size]? = some (.cells #[.int .i64 i] 3 (0, 0)) := by rw [heap_alloc_h, if_neg (by rw [size_alloc_h]; omega), heap_alloc_h, if_pos rfl]
  have z6 : ((w.alloc (.cells #[.int .i64 i] 3)).alloc (.cells #[.bool false] 4)).heap[w.heap.size + 1]? = some (.cells #[.bool false] 4 (0, 0)) := by rw [heap_alloc_h, if_pos (by rw [size_alloc_h])]
  try simp only [size_alloc_h]
  generalize (w.alloc (.cells #[.int .i64 i] 3)).alloc (.cells #[.bool false] 4) = w1 at *
  obtain ⟨p5, hp5⟩ : ∃ p5, p5 = w.heap.size := ⟨_, rfl⟩
  obtain ⟨p6, hp6⟩ : ∃ p6, p6 = w.heap.size + 1 := ⟨_, rfl⟩
  rw [← hp6] at z6 ⊢
  rw [← hp5] at z5 ⊢
  intro a1 hk1 hd1
  refine wpIn_seq ?_
  refine wpIn_seq ?_
  refine reg_rd (r := none) (n := 16) (by decide) hk1 (by decide) (by decide) ?_
  (repeat simp only [push_cast, Nat.reduceBEq, Nat.reduceLT, Nat.reduceEqDiff, reduceIte, reduceCtorEq, Nat.reduceMul, Nat.reduceAdd, Nat.reduceSub, Int.reduceEq, Int.reduceLT, Int.reduceLE, Int.reduceNeg, Int.reduceAdd, Int.reduceSub, Int.reduceMul, Nat.reduceLeDiff, Int.reduceToNat])
  refine (sscope_c pv which).mono ?_
  rintro v w2 ⟨bs, bw, rfl, g1, g2, hx2⟩
  (repeat simp only [push_cast, Nat.reduceBEq, Nat.reduceLT, Nat.reduceEqDiff, reduceIte, reduceCtorEq, Nat.reduceMul, Nat.reduceAdd, Nat.reduceSub, Int.reduceEq, Int.reduceLT, Int.reduceLE, Int.reduceNeg, Int.reduceAdd, Int.reduceSub, Int.reduceMul, Nat.reduceLeDiff, Int.reduceToNat])
  intro a2 hk2 hd2
  have hx02 := hx1.trans hx2
  have z62 := hx2.blk z6
  have hl2 := hx02.alike.size
  refine wpIn_block ?_
  refine range_any (T := 79) hk2 (by decide) rfl Tryd.call68 (fun o => decide (o.node = i)) z62 (hst w2 bs bw hx02 g1 g2) ?_ ?_ ?_ ?_
  · intro l x a' W K hxW hk' hd' hK
    unfold OpS.row at hk' hK
    refine reg_rd (r := some l) (n := 16) (by decide) hk' (by decide) (by decide) ?_
    (repeat simp only [push_cast, Nat.reduceBEq, Nat.reduceLT, Nat.reduceEqDiff, reduceIte, reduceCtorEq, Nat.reduceMul, Nat.reduceAdd, Nat.reduceSub, Int.reduceEq, Int.reduceLT, Int.reduceLE, Int.reduceNeg, Int.reduceAdd, Int.reduceSub, Int.reduceMul, Nat.reduceLeDiff, Int.reduceToNat, RunV_zero Tryd.zeroValue79, vcells_agg])
    obtain ⟨hx3, z3, hs3⟩ := new3 W (.int .i64 0) (.int .i64 0) (.string ⟨#[]⟩) (.int .i64 x.node) (.int .i64 x.space) (.string x.name) 79
    simp only [can_h, heap_alloc_h, if_true, canO_cells, List.size_toArray, List.length_cons, List.length_nil, Nat.zero_add, Nat.reduceAdd, Nat.reduceLT, true_and]
    intro a3 hk3 hd3
    refine hK a3 _ _ hx3 z3 (Nat.le_refl _) (Known.sub hk3 ?_) (hd3.trans hd')
    (repeat simp only [push_cast, Nat.reduceBEq, Nat.reduceLT, Nat.reduceEqDiff, reduceIte, reduceCtorEq, Nat.reduceMul, Nat.reduceAdd, Nat.reduceSub, Int.reduceEq, Int.reduceLT, Int.reduceLE, Int.reduceNeg, Int.reduceAdd, Int.reduceSub, Int.reduceMul, Nat.reduceLeDiff, Int.reduceToNat])
  · intro l x a' W p7 hxW z7 hp7 hk' hd'
    have z5W := (hx2.trans hxW).blk z5
    have z6W := (hx2.trans hxW).blk z6
    unfold OpS.row at z7
    refine wpIn_block (wpIn_seq ?_)
    refine reg_rd (r := some l) (n := 16) (by decide) hk' (by decide) (by decide) ?_
    (repeat simp only [push_cast, Nat.reduceBEq, Nat.reduceLT, Nat.reduceEqDiff, reduceIte, reduceCtorEq, Nat.reduceMul, Nat.reduceAdd, Nat.reduceSub, Int.reduceEq, Int.reduceLT, Int.reduceLE, Int.reduceNeg, Int.reduceAdd, Int.reduceSub, Int.reduceMul, Nat.reduceLeDiff, Int.reduceToNat, cell_h, cellO_cells, z7, z5W])
    intro a4 hk4 hd4
    have hx4 := Ext.refl W

    refine cond_rd hk4 (b := decide (x.node = i)) rfl (fun hpx => ?_) (fun hpx => ?_)
    · refine wpIn_seq (reg_rd (r := some l) (n := 16) (by decide) hk4 (by decide) (by decide) ?_)
      have z64 := hx4.blk z6W
      (repeat simp only [push_cast, Nat.reduceBEq, Nat.reduceLT, Nat.reduceEqDiff, reduceIte, reduceCtorEq, Nat.reduceMul, Nat.reduceAdd, Nat.reduceSub, Int.reduceEq, Int.reduceLT, Int.reduceLE, Int.reduceNeg, Int.reduceAdd, Int.reduceSub, Int.reduceMul, Nat.reduceLeDiff, Int.reduceToNat, cell_h, can_h, canO_cells, z64])
      intro a5 hk5 hd5
      exact wpIn_ret (.inr ⟨rfl, hpx, _, hx4, rfl⟩)
    · exact wpIn_skip (.inl ⟨rfl, hpx, hx4⟩)
  · intro D W hD hany hxW hdD
    rw [hany]
    refine wpIn_seq (reg_rd (r := none) (n := 16) (by decide) (show Kn _ _ _ from hk2) (by decide) (by decide) ?_)
    have z6W := hxW.blk z62
    (repeat simp only [push_cast, Nat.reduceBEq, Nat.reduceLT, Nat.reduceEqDiff, reduceIte, reduceCtorEq, Nat.reduceMul, Nat.reduceAdd, Nat.reduceSub, Int.reduceEq, Int.reduceLT, Int.reduceLE, Int.reduceNeg, Int.reduceAdd, Int.reduceSub, Int.reduceMul, Nat.reduceLeDiff, Int.reduceToNat, cell_h, can_h, canO_cells, z6W])
    intro a5 hk5 hd5
    have hneD : D ≠ p6 := fun e => by rw [e] at hdD; rw [z6W] at hdD; cases hdD
    refine wpIn_ret (leaves_mark (D := D) hk5 (hd5.trans (by rw [hd2, hd1])) ?_ ?_)
    · rw [heap_set_h, if_neg (by exact hneD)]; exact hdD
    have hu9 : Ext w ((W.setCell ⟨p6, 0, none⟩ (.bool false)).putObj D (.deferred none)) := by
      refine Upd.grown (Upd.trans (hx02.trans hxW) (Upd.setCell (F := fun b => b = p6) (a := ⟨p6, 0, none⟩) W rfl (.bool false)) fun b hb e => by omega) (grownBy_putObj' _ D _) fun r e => by cases e; omega
    have z9 : ((W.setCell ⟨p6, 0, none⟩ (.bool false)).putObj D (.deferred none)).heap[p6]? = some (.cells #[.bool false] 4 (0, 0)) := by
      rw [World.putObj_heap_other (by omega), heap_set_h, if_pos rfl, z6W]; rfl
    generalize (W.setCell ⟨p6, 0, none⟩ (.bool false)).putObj D (.deferred none) = w9 at *
    (repeat simp only [push_cast, Nat.reduceBEq, Nat.reduceLT, Nat.reduceEqDiff, reduceIte, reduceCtorEq, Nat.reduceMul, Nat.reduceAdd, Nat.reduceSub, Int.reduceEq, Int.reduceLT, Int.reduceLE, Int.reduceNeg, Int.reduceAdd, Int.reduceSub, Int.reduceMul, Nat.reduceLeDiff, Int.reduceToNat, cell_h, cellO_cells, z9])
    exact hu9
  · intro D W hD hany hxW z6W hdD
    rw [hany]
    have hneD : D ≠ p6 := fun e => by rw [e] at hdD; rw [z6W] at hdD; cases hdD
    refine leaves_mark (D := D) (show Kn _ _ _ from hk2) (by rw [hd2, hd1]) hdD ?_
    have hu9 : Ext w (W.putObj D (.deferred none)) := by
      refine Upd.grown (Upd.trans hx02 hxW fun b hb e => by omega) (grownBy_putObj' _ D _) fun r e => by cases e; omega
    have z9 : (W.putObj D (.deferred none)).heap[p6]? = some (.cells #[.bool true] 4 (0, 0)) := by
      rw [World.putObj_heap_other (by omega), z6W]
    generalize W.putObj D (.deferred none) = w9 at *
    (repeat simp only [push_cast, Nat.reduceBEq, Nat.reduceLT, Nat.reduceEqDiff, reduceIte, reduceCtorEq, Nat.reduceMul, Nat.reduceAdd, Nat.reduceSub, Int.reduceEq, Int.reduceLT, Int.reduceLE, Int.reduceNeg, Int.reduceAdd, Int.reduceSub, Int.reduceMul, Nat.reduceLeDiff, Int.reduceToNat, cell_h, cellO_cells, z9])
    exact hu9
theorem shasn_c {which : Int} {i : Int} (hs : s.length < 10000) (hz : ∀ o ∈ s, o.name.size < 4294967281) (hg : GL w) (hS : SK w ps ap sv s bo) :
    Gives Tryd.prog 22 #[.pointer (some ⟨ps, 0, none⟩), .int .i64 which, .int .i64 i] w fun v w' => v = .bool ((scp (scE which) s s.length).any fun o => decide (o.node = i)) ∧ Ext w w' :=
  shasn_cg (N := s.length) fun w2 bs bw hx g1 g2 => scope_stops hs hz (hg.ext hx) (hS.ext hx) g1 g2
end
end Go.Proofs.YtkafpameheohdaaDoor
end
section
set_option linter.unusedSimpArgs false
set_option linter.unusedVariables false
namespace Go.Vk
open Go
def lastF (p : Int → Bool) (l : List Int) (fr : Int) : Nat → Int
  | 0 => -1
  | k + 1 => if (k : Int) < fr then -1 else if p (l.getD k 0) = true then k else lastF p l fr k
end Go.Vk
namespace Go.Proofs.YtkafpameheohdaaDoor
open Go Go.Vk
set_option maxHeartbeats 40000000
section
variable {w : World} {pl pa : Nat} {lv : Value} {l : List Int} {bo : Option Nat}
def openN (l : List Int) : Int := lastF (fun i => decide (i = -1)) l 0 l.length + 1
end
end Go.Proofs.YtkafpameheohdaaDoor
end
section
set_option linter.unusedSimpArgs false
set_option linter.unusedVariables false
namespace Go.Vk
open Go
def clearN (l : List Int) (q : Int) : List Int := l.take (q - 1).toNat
end Go.Vk
end
section
set_option linter.unusedSimpArgs false
set_option linter.unusedVariables false
namespace Go.Vk
open Go
theorem fill30 (k : Int) (s t : ByteArray) (sp : Int) (a : Option Addr) (n c : Nat) (d : Bool) (p f o : Int) :
    Instr.fill (#[(0,1),(1,1),(2,1),(3,1),(4,1),(5,1),(6,1),(7,1),(8,1),(9,1),(10,1)][·]?) #[.int .i64 0, .string ⟨#[]⟩, .string ⟨#[]⟩, .int .i64 0, .slice none 0 0, .bool false, .int .i64 0, .int .i64 0, .slice none 0 0, .int .i64 0, .int .i64 0]
      [(0, .int .i64 k), (1, .string s), (2, .string t), (3, .int .i64 sp), (4, .slice a n c), (5, .bool d), (6, .int .i64 p), (9, .int .i64 f), (10, .int .i64 o)] = some #[.int .i64 k, .string s, .string t, .int .i64 sp, .slice a n c, .bool d, .int .i64 p, .int .i64 0, .slice none 0 0, .int .i64 f, .int .i64 o] := by
  simp [Instr.fill, Value.cells]
end Go.Vk
namespace Go.Proofs.YtkafpameheohdaaDoor
open Go Go.Vk
set_option maxHeartbeats 40000000
theorem rkid_c (k : Int) {w : World} : Gives Tryd.prog 75 #[.int .i64 k] w fun v w' => v = .bool (kidK k) ∧ w' = w := by
  unfold kidK
  by_cases h2 : k = 2
  · refine Gives.of_W Tryd.call75 Tryd.func75 rfl Tryd.ntmps75 (by simp) ?_; intro Z hZ
    (repeat (first | (with_reducible first | (refine hK _ _ ?_; clear hK K) | refine (show ∀ σ' w', _ → K σ' w' from by assumption) _ _ ?_ | refine W_seq_k fun K hK => ?_ | refine W_block_k fun K hK => ?_ | refine W_skip ?_ | refine W_ret ?_) | ((first | ((with_reducible refine W_id ?_); refine W_reg (by decide) (by rfl) ?_) | (with_reducible first | refine W_cond ?_ | refine hZ _ _ ?_ | refine W_exit ?_ | refine Wo_id ?_)); repeat1' simp only [push_cast, Nat.reduceBEq, Nat.reduceLT, Nat.reduceEqDiff, reduceIte, reduceCtorEq, Nat.reduceMul, Nat.reduceAdd, Nat.reduceSub, Int.reduceEq, Int.reduceLT, Int.reduceLE, Int.reduceNeg, Int.reduceAdd, Int.reduceSub, Int.reduceMul, Nat.reduceLeDiff, Int.reduceToNat, h2]) | ((repeat ((fail_if_success with_reducible refine hK _ _ ?_); clear hK K)); (with_reducible refine hK _ _ ?_); clear hK K)))
    simp [h2]
  · by_cases h3 : k = 3
    · refine Gives.of_W Tryd.call75 Tryd.func75 rfl Tryd.ntmps75 (by simp) ?_; intro Z hZ
      (repeat (first | (with_reducible first | (refine hK _ _ ?_; clear hK K) | refine (show ∀ σ' w', _ → K σ' w' from by assumption) _ _ ?_ | refine W_seq_k fun K hK => ?_ | refine W_block_k fun K hK => ?_ | refine W_skip ?_ | refine W_ret ?_) | ((first | ((with_reducible refine W_id ?_); refine W_reg (by decide) (by rfl) ?_) | (with_reducible first | refine W_cond ?_ | refine hZ _ _ ?_ | refine W_exit ?_ | refine Wo_id ?_)); repeat1' simp only [push_cast, Nat.reduceBEq, Nat.reduceLT, Nat.reduceEqDiff, reduceIte, reduceCtorEq, Nat.reduceMul, Nat.reduceAdd, Nat.reduceSub, Int.reduceEq, Int.reduceLT, Int.reduceLE, Int.reduceNeg, Int.reduceAdd, Int.reduceSub, Int.reduceMul, Nat.reduceLeDiff, Int.reduceToNat, h2, h3]) | ((repeat ((fail_if_success with_reducible refine hK _ _ ?_); clear hK K)); (with_reducible refine hK _ _ ?_); clear hK K)))
      simp [h3]
    · by_cases h4 : k = 4
      · refine Gives.of_W Tryd.call75 Tryd.func75 rfl Tryd.ntmps75 (by simp) ?_; intro Z hZ
        (repeat (first | (with_reducible first | (refine hK _ _ ?_; clear hK K) | refine (show ∀ σ' w', _ → K σ' w' from by assumption) _ _ ?_ | refine W_seq_k fun K hK => ?_ | refine W_block_k fun K hK => ?_ | refine W_skip ?_ | refine W_ret ?_) | ((first | ((with_reducible refine W_id ?_); refine W_reg (by decide) (by rfl) ?_) | (with_reducible first | refine W_cond ?_ | refine hZ _ _ ?_ | refine W_exit ?_ | refine Wo_id ?_)); repeat1' simp only [push_cast, Nat.reduceBEq, Nat.reduceLT, Nat.reduceEqDiff, reduceIte, reduceCtorEq, Nat.reduceMul, Nat.reduceAdd, Nat.reduceSub, Int.reduceEq, Int.reduceLT, Int.reduceLE, Int.reduceNeg, Int.reduceAdd, Int.reduceSub, Int.reduceMul, Nat.reduceLeDiff, Int.reduceToNat, h2, h3, h4]) | ((repeat ((fail_if_success with_reducible refine hK _ _ ?_); clear hK K)); (with_reducible refine hK _ _ ?_); clear hK K)))
        simp [h4]
      · by_cases h5 : k = 5
        · refine Gives.of_W Tryd.call75 Tryd.func75 rfl Tryd.ntmps75 (by simp) ?_; intro Z hZ
          (repeat (first | (with_reducible first | (refine hK _ _ ?_; clear hK K) | refine (show ∀ σ' w', _ → K σ' w' from by assumption) _ _ ?_ | refine W_seq_k fun K hK => ?_ | refine W_block_k fun K hK => ?_ | refine W_skip ?_ | refine W_ret ?_) | ((first | ((with_reducible refine W_id ?_); refine W_reg (by decide) (by rfl) ?_) | (with_reducible first | refine W_cond ?_ | refine hZ _ _ ?_ | refine W_exit ?_ | refine Wo_id ?_)); repeat1' simp only [push_cast, Nat.reduceBEq, Nat.reduceLT, Nat.reduceEqDiff, reduceIte, reduceCtorEq, Nat.reduceMul, Nat.reduceAdd, Nat.reduceSub, Int.reduceEq, Int.reduceLT, Int.reduceLE, Int.reduceNeg, Int.reduceAdd, Int.reduceSub, Int.reduceMul, Nat.reduceLeDiff, Int.reduceToNat, h2, h3, h4, h5]) | ((repeat ((fail_if_success with_reducible refine hK _ _ ?_); clear hK K)); (with_reducible refine hK _ _ ?_); clear hK K)))
          simp [h5]
        · refine Gives.of_W Tryd.call75 Tryd.func75 rfl Tryd.ntmps75 (by simp) ?_; intro Z hZ
          (repeat (first | (with_reducible first | (refine hK _ _ ?_; clear hK K) | refine (show ∀ σ' w', _ → K σ' w' from by assumption) _ _ ?_ | refine W_seq_k fun K hK => ?_ | refine W_block_k fun K hK => ?_ | refine W_skip ?_ | refine W_ret ?_) | ((first | ((with_reducible refine W_id ?_); refine W_reg (by decide) (by rfl) ?_) | (with_reducible first | refine W_cond ?_ | refine hZ _ _ ?_ | refine W_exit ?_ | refine Wo_id ?_)); repeat1' simp only [push_cast, Nat.reduceBEq, Nat.reduceLT, Nat.reduceEqDiff, reduceIte, reduceCtorEq, Nat.reduceMul, Nat.reduceAdd, Nat.reduceSub, Int.reduceEq, Int.reduceLT, Int.reduceLE, Int.reduceNeg, Int.reduceAdd, Int.reduceSub, Int.reduceMul, Nat.reduceLeDiff, Int.reduceToNat, h2, h3, h4, h5]) | ((repeat ((fail_if_success with_reducible refine hK _ _ ?_); clear hK K)); (with_reducible refine hK _ _ ?_); clear hK K)))
          simp [h2, h3, h4, h5]
theorem rmade_c {w : World} {m : Laid} (h : RdAt w 2 m.av (attrCells m.nd.attrs)) (hb : m.nd.attrs.length < 1000000) :
    Gives Tryd.prog 74 #[m.val] w fun v w' => ∃ m' : Laid, v = m'.val ∧ m'.nd = bareN m.nd ∧ m'.ok w' ∧ Ext w w' ∧ (∀ b ∈ m'.blks, w.heap.size ≤ b) ∧ m'.blks.Nodup ∧ m'.kb = none := by
  rw [Laid.val_eq]
  refine Gives.of_W Tryd.call74 Tryd.func74 rfl Tryd.ntmps74 (by simp) ?_; intro Z hZ
  (repeat (first | (with_reducible first | (refine hK _ _ ?_; clear hK K) | refine (show ∀ σ' w', _ → K σ' w' from by assumption) _ _ ?_ | refine W_seq_k fun K hK => ?_ | refine W_block_k fun K hK => ?_ | refine W_skip ?_ | refine W_ret ?_) | ((first | ((with_reducible refine W_id ?_); refine W_reg (by decide) (by rfl) ?_) | (with_reducible first | refine W_cond ?_ | refine hZ _ _ ?_ | refine W_exit ?_ | refine Wo_id ?_)); repeat1' simp only [push_cast, Nat.reduceBEq, Nat.reduceLT, Nat.reduceEqDiff, reduceIte, reduceCtorEq, Nat.reduceMul, Nat.reduceAdd, Nat.reduceSub, Int.reduceEq, Int.reduceLT, Int.reduceLE, Int.reduceNeg, Int.reduceAdd, Int.reduceSub, Int.reduceMul, Nat.reduceLeDiff, Int.reduceToNat, RunV_zero Tryd.zeroValue49, vcells_agg, size_alloc_h]) | ((repeat ((fail_if_success with_reducible refine hK _ _ ?_); clear hK K)); (with_reducible refine hK _ _ ?_); clear hK K)))
  have hx1 : Ext w ((w.alloc (.cells #[.int .i64 m.nd.kind, .string m.nd.name, .string m.nd.text, .int .i64 m.nd.space, m.av, .bool m.nd.dup, .int .i64 m.nd.parent, .int .i64 m.nd.content, m.kv, .int .i64 m.nd.frm, .int .i64 m.nd.to] 49)).alloc (.cells #[.int .i64 0, .string ⟨#[]⟩, .string ⟨#[]⟩, .int .i64 0, .slice none 0 0, .bool false, .int .i64 0, .int .i64 0, .slice none 0 0, .int .i64 0, .int .i64 0] 49)) := (Ext.alloc _ _).trans (Ext.alloc _ _)
  have c1 : ((w.alloc (.cells #[.int .i64 m.nd.kind, .string m.nd.name, .string m.nd.text, .int .i64 m.nd.space, m.av, .bool m.nd.dup, .int .i64 m.nd.parent, .int .i64 m.nd.content, m.kv, .int .i64 m.nd.frm, .int .i64 m.nd.to] 49)).alloc (.cells #[.int .i64 0, .string ⟨#[]⟩, .string ⟨#[]⟩, .int .i64 0, .slice none 0 0, .bool false, .int .i64 0, .int .i64 0, .slice none 0 0, .int .i64 0, .int .i64 0] 49)).heap[w.heap.size]? = some (.cells #[.int .i64 m.nd.kind, .string m.nd.name, .string m.nd.text, .int .i64 m.nd.space, m.av, .bool m.nd.dup, .int .i64 m.nd.parent, .int .i64 m.nd.content, m.kv, .int .i64 m.nd.frm, .int .i64 m.nd.to] 49 (0, 0)) := by
    rw [heap_alloc_h, if_neg (by rw [size_alloc_h]; omega), heap_alloc_h, if_pos rfl]
  have c2 : ((w.alloc (.cells #[.int .i64 m.nd.kind, .string m.nd.name, .string m.nd.text, .int .i64 m.nd.space, m.av, .bool m.nd.dup, .int .i64 m.nd.parent, .int .i64 m.nd.content, m.kv, .int .i64 m.nd.frm, .int .i64 m.nd.to] 49)).alloc (.cells #[.int .i64 0, .string ⟨#[]⟩, .string ⟨#[]⟩, .int .i64 0, .slice none 0 0, .bool false, .int .i64 0, .int .i64 0, .slice none 0 0, .int .i64 0, .int .i64 0] 49)).heap[w.heap.size + 1]? = some (.cells #[.int .i64 0, .string ⟨#[]⟩, .string ⟨#[]⟩, .int .i64 0, .slice none 0 0, .bool false, .int .i64 0, .int .i64 0, .slice none 0 0, .int .i64 0, .int .i64 0] 49 (0, 0)) := by
    rw [heap_alloc_h, if_pos (by rw [size_alloc_h])]
  generalize (w.alloc (.cells #[.int .i64 m.nd.kind, .string m.nd.name, .string m.nd.text, .int .i64 m.nd.space, m.av, .bool m.nd.dup, .int .i64 m.nd.parent, .int .i64 m.nd.content, m.kv, .int .i64 m.nd.frm, .int .i64 m.nd.to] 49)).alloc (.cells #[.int .i64 0, .string ⟨#[]⟩, .string ⟨#[]⟩, .int .i64 0, .slice none 0 0, .bool false, .int .i64 0, .int .i64 0, .slice none 0 0, .int .i64 0, .int .i64 0] 49) = w1 at *
  have d1 := (Ext.drew w1).blk c1
  have d2 := (Ext.drew w1).blk c2
  have hxd := hx1.trans (Ext.drew w1)
  refine W_draw (.pas 0 (.pas 1 (.pas 2 (.pas 3 (.pas 4 (.pas 5 (.pas 6 (.pas 7 (.pas 8 (.pas 9 (.pas 11 (.pas 12 (.pas 13 (.pas 14 (.pas 15 (.pas 16 (.act 10 (.pas 17 (.last 18))))))))))))))))))) (fun b => b = w.heap.size) (by decide) mixed (by kernel_rfl) ?_
  generalize w1.drew = w2 at *
  have hl1 := blk_lt d1
  have hl2 := blk_lt d2
  (repeat (first | ((first | refine pas_plain rfl ?_ | refine pas_g rfl rfl ?_ | refine act_plain rfl ?_ | refine act_g rfl rfl ?_ | refine last_plain rfl ?_ | refine tail_plain rfl ?_ | refine tail_g rfl rfl ?_); (repeat simp only [push_cast, Nat.reduceBEq, Nat.reduceLT, Nat.reduceEqDiff, reduceIte, reduceCtorEq, Nat.reduceMul, Nat.reduceAdd, Nat.reduceSub, Int.reduceEq, Int.reduceLT, Int.reduceLE, Int.reduceNeg, Int.reduceAdd, Int.reduceSub, Int.reduceMul, Nat.reduceLeDiff, Int.reduceToNat, cell_h, d1, cellO_cells, eq_self])) | (refine tail_fin ?_) | (refine sch_fin ?_)))
  refine app_to_rd sty27 sty27.und (by decide) (SlAt.nil _ _) (h.ext hxd) (attrCells_one _) (by rw [attrCells_length]; simp; omega) ?_
  intro v w3 bo g1 g2 g3
  rw [List.nil_append] at g1
  refine ⟨kept_upd g2 fun b hb => ⟨by have : b = w.heap.size := hb; omega, fun e => by cases e⟩, ?_⟩
  have hx3 : Ext w2 w3 := g2.mono fun b _ e => by cases e
  have d3 := hx3.blk d2
  obtain ⟨va, vn, vc, rfl, _, _⟩ := g1.len
  (repeat (first | ((first | refine pas_plain rfl ?_ | refine pas_g rfl rfl ?_ | refine act_plain rfl ?_ | refine act_g rfl rfl ?_ | refine last_plain rfl ?_ | refine tail_plain rfl ?_ | refine tail_g rfl rfl ?_); (repeat simp only [push_cast, Nat.reduceBEq, Nat.reduceLT, Nat.reduceEqDiff, reduceIte, reduceCtorEq, Nat.reduceMul, Nat.reduceAdd, Nat.reduceSub, Int.reduceEq, Int.reduceLT, Int.reduceLE, Int.reduceNeg, Int.reduceAdd, Int.reduceSub, Int.reduceMul, Nat.reduceLeDiff, Int.reduceToNat, cell_h, d1, cellO_cells, eq_self])) | (refine tail_fin ?_) | (refine sch_fin ?_)))
  refine build_struct Tryd.zeroValue49 un30 pl30 (cs := #[.int .i64 m.nd.kind, .string m.nd.name, .string m.nd.text, .int .i64 m.nd.space, .slice va vn vc, .bool m.nd.dup, .int .i64 (-1), .int .i64 0, .slice none 0 0, .int .i64 m.nd.frm, .int .i64 m.nd.to]) (fill30 _ _ _ _ _ _ _ _ _ _ _) ?_
  (repeat (first | ((first | refine pas_plain rfl ?_ | refine pas_g rfl rfl ?_ | refine act_plain rfl ?_ | refine act_g rfl rfl ?_ | refine last_plain rfl ?_ | refine tail_plain rfl ?_ | refine tail_g rfl rfl ?_); (repeat simp only [push_cast, Nat.reduceBEq, Nat.reduceLT, Nat.reduceEqDiff, reduceIte, reduceCtorEq, Nat.reduceMul, Nat.reduceAdd, Nat.reduceSub, Int.reduceEq, Int.reduceLT, Int.reduceLE, Int.reduceNeg, Int.reduceAdd, Int.reduceSub, Int.reduceMul, Nat.reduceLeDiff, Int.reduceToNat, cell_h, d1, cellO_cells, eq_self])) | (refine tail_fin ?_) | (refine sch_fin ?_)))
  simp only [can_h, d3, canO_cells, List.size_toArray, List.length_cons, List.length_nil, Nat.zero_add, Nat.reduceAdd, Nat.reduceLT, true_and]
  have hp4 := setCells_all d3 (l := [.int .i64 m.nd.kind, .string m.nd.name, .string m.nd.text, .int .i64 m.nd.space, .slice va vn vc, .bool m.nd.dup, .int .i64 (-1), .int .i64 0, .slice none 0 0, .int .i64 m.nd.frm, .int .i64 m.nd.to]) rfl
  have hu4 := Upd.setCells (F := fun b => b = w.heap.size + 1) (a := ⟨w.heap.size + 1, 0, none⟩) w3 rfl [.int .i64 m.nd.kind, .string m.nd.name, .string m.nd.text, .int .i64 m.nd.space, .slice va vn vc, .bool m.nd.dup, .int .i64 (-1), .int .i64 0, .slice none 0 0, .int .i64 m.nd.frm, .int .i64 m.nd.to] 0
  generalize setCells w3 ⟨w.heap.size + 1, 0, none⟩ [.int .i64 m.nd.kind, .string m.nd.name, .string m.nd.text, .int .i64 m.nd.space, .slice va vn vc, .bool m.nd.dup, .int .i64 (-1), .int .i64 0, .slice none 0 0, .int .i64 m.nd.frm, .int .i64 m.nd.to] 0 = w4 at *
  ((repeat simp only [push_cast, Nat.reduceBEq, Nat.reduceLT, Nat.reduceEqDiff, reduceIte, reduceCtorEq, Nat.reduceMul, Nat.reduceAdd, Nat.reduceSub, Int.reduceEq, Int.reduceLT, Int.reduceLE, Int.reduceNeg, Int.reduceAdd, Int.reduceSub, Int.reduceMul, Nat.reduceLeDiff, Int.reduceToNat, cell_h, hp4, cellO_cells]); (repeat (first | (with_reducible first | (refine hK _ _ ?_; clear hK K) | refine (show ∀ σ' w', _ → K σ' w' from by assumption) _ _ ?_ | refine W_seq_k fun K hK => ?_ | refine W_block_k fun K hK => ?_ | refine W_skip ?_ | refine W_ret ?_) | ((first | ((with_reducible refine W_id ?_); refine W_reg (by decide) (by rfl) ?_) | (with_reducible first | refine W_cond ?_ | refine hZ _ _ ?_ | refine W_exit ?_ | refine Wo_id ?_)); repeat1' simp only [push_cast, Nat.reduceBEq, Nat.reduceLT, Nat.reduceEqDiff, reduceIte, reduceCtorEq, Nat.reduceMul, Nat.reduceAdd, Nat.reduceSub, Int.reduceEq, Int.reduceLT, Int.reduceLE, Int.reduceNeg, Int.reduceAdd, Int.reduceSub, Int.reduceMul, Nat.reduceLeDiff, Int.reduceToNat, cell_h, hp4, cellO_cells]) | ((repeat ((fail_if_success with_reducible refine hK _ _ ?_); clear hK K)); (with_reducible refine hK _ _ ?_); clear hK K))))
  have hx4 : Ext w w4 := Upd.trans (hxd.trans hx3) hu4 fun i hi e => by omega
  refine ⟨⟨bareN m.nd, .slice va vn vc, .slice none 0 0, bo, none⟩, rfl, rfl, ⟨g1.upd hu4 fun b hb e => ?_, SlAt.nil _ _⟩, hx4, fun b hb => ?_, ?_, rfl⟩
  · rcases g3 b hb with h1 | h1
    · cases h1
    · omega
  · simp only [Laid.blks, Option.toList_none, List.append_nil, Option.mem_toList] at hb
    rcases g3 b hb with h1 | h1
    · cases h1
    · omega
  · cases bo <;> simp [Laid.blks]
theorem pl64 (w : World) : ((fsOf Tryd.prog 108).mapM plOf).run Tryd.prog w = .ok #[(0,1)] w := by
  simp [fsOf, plOf, Tryd.underlying108, Sem.run, Tryd.sizeOf72]
theorem un64 : Tryd.prog.underlying 108 = some (.struct (fsOf Tryd.prog 108)) := by rw [fsOf, Tryd.underlying108]
theorem rnew_c {w : World} :
    Gives Tryd.prog 54 #[] w fun v w' => ∃ pa, v = .pointer (some ⟨pa, 0, none⟩) ∧ Ar w' pa [docN] (fun b => w.heap.size ≤ b) ∧ Ext w w' := by
  refine Gives.of_W Tryd.call54 Tryd.func54 rfl Tryd.ntmps54 (by simp) ?_; intro Z hZ
  (repeat (first | (with_reducible first | (refine hK _ _ ?_; clear hK K) | refine (show ∀ σ' w', _ → K σ' w' from by assumption) _ _ ?_ | refine W_seq_k fun K hK => ?_ | refine W_block_k fun K hK => ?_ | refine W_skip ?_ | refine W_ret ?_) | ((first | ((with_reducible refine W_id ?_); refine W_reg (by decide) (by rfl) ?_) | (with_reducible first | refine W_cond ?_ | refine hZ _ _ ?_ | refine W_exit ?_ | refine Wo_id ?_)); repeat1' simp only [push_cast, Nat.reduceBEq, Nat.reduceLT, Nat.reduceEqDiff, reduceIte, reduceCtorEq, Nat.reduceMul, Nat.reduceAdd, Nat.reduceSub, Int.reduceEq, Int.reduceLT, Int.reduceLE, Int.reduceNeg, Int.reduceAdd, Int.reduceSub, Int.reduceMul, Nat.reduceLeDiff, Int.reduceToNat]) | ((repeat ((fail_if_success with_reducible refine hK _ _ ?_); clear hK K)); (with_reducible refine hK _ _ ?_); clear hK K)))
  refine build_struct Tryd.zeroValue49 un30 pl30 (cs := #[.int .i64 1, .string ⟨#[]⟩, .string ⟨#[]⟩, .int .i64 0, .slice none 0 0, .bool false, .int .i64 0, .int .i64 0, .slice none 0 0, .int .i64 (-1), .int .i64 (-1)]) (by rfl) ?_
  refine (rmade_c (m := ⟨{ zN with kind := 1, frm := -1, to := -1 }, .slice none 0 0, .slice none 0 0, none, none⟩) (SlAt.nil _ _).rd (by decide)).mono ?_
  rintro v w' ⟨m', rfl, h1, h2, h3, h4, h5, h6⟩
  ((repeat simp only [push_cast, Nat.reduceBEq, Nat.reduceLT, Nat.reduceEqDiff, reduceIte, reduceCtorEq, Nat.reduceMul, Nat.reduceAdd, Nat.reduceSub, Int.reduceEq, Int.reduceLT, Int.reduceLE, Int.reduceNeg, Int.reduceAdd, Int.reduceSub, Int.reduceMul, Nat.reduceLeDiff, Int.reduceToNat]); (repeat (first | (with_reducible first | (refine hK _ _ ?_; clear hK K) | refine (show ∀ σ' w', _ → K σ' w' from by assumption) _ _ ?_ | refine W_seq_k fun K hK => ?_ | refine W_block_k fun K hK => ?_ | refine W_skip ?_ | refine W_ret ?_) | ((first | ((with_reducible refine W_id ?_); refine W_reg (by decide) (by rfl) ?_) | (with_reducible first | refine W_cond ?_ | refine hZ _ _ ?_ | refine W_exit ?_ | refine Wo_id ?_)); repeat1' simp only [push_cast, Nat.reduceBEq, Nat.reduceLT, Nat.reduceEqDiff, reduceIte, reduceCtorEq, Nat.reduceMul, Nat.reduceAdd, Nat.reduceSub, Int.reduceEq, Int.reduceLT, Int.reduceLE, Int.reduceNeg, Int.reduceAdd, Int.reduceSub, Int.reduceMul, Nat.reduceLeDiff, Int.reduceToNat]) | ((repeat ((fail_if_success with_reducible refine hK _ _ ?_); clear hK K)); (with_reducible refine hK _ _ ?_); clear hK K))))
  refine bs_one sty39 (by decide) (by decide) (v := m'.val) rfl ?_
  ((repeat simp only [push_cast, Nat.reduceBEq, Nat.reduceLT, Nat.reduceEqDiff, reduceIte, reduceCtorEq, Nat.reduceMul, Nat.reduceAdd, Nat.reduceSub, Int.reduceEq, Int.reduceLT, Int.reduceLE, Int.reduceNeg, Int.reduceAdd, Int.reduceSub, Int.reduceMul, Nat.reduceLeDiff, Int.reduceToNat]); (repeat (first | (with_reducible first | (refine hK _ _ ?_; clear hK K) | refine (show ∀ σ' w', _ → K σ' w' from by assumption) _ _ ?_ | refine W_seq_k fun K hK => ?_ | refine W_block_k fun K hK => ?_ | refine W_skip ?_ | refine W_ret ?_) | ((first | ((with_reducible refine W_id ?_); refine W_reg (by decide) (by rfl) ?_) | (with_reducible first | refine W_cond ?_ | refine hZ _ _ ?_ | refine W_exit ?_ | refine Wo_id ?_)); repeat1' simp only [push_cast, Nat.reduceBEq, Nat.reduceLT, Nat.reduceEqDiff, reduceIte, reduceCtorEq, Nat.reduceMul, Nat.reduceAdd, Nat.reduceSub, Int.reduceEq, Int.reduceLT, Int.reduceLE, Int.reduceNeg, Int.reduceAdd, Int.reduceSub, Int.reduceMul, Nat.reduceLeDiff, Int.reduceToNat]) | ((repeat ((fail_if_success with_reducible refine hK _ _ ?_); clear hK K)); (with_reducible refine hK _ _ ?_); clear hK K))))
  refine build_struct Tryd.zeroValue108 un64 pl64 (cs := #[.slice (some ⟨w'.heap.size, 0, none⟩) 1 1]) (by rfl) ?_
  ((repeat simp only [push_cast, Nat.reduceBEq, Nat.reduceLT, Nat.reduceEqDiff, reduceIte, reduceCtorEq, Nat.reduceMul, Nat.reduceAdd, Nat.reduceSub, Int.reduceEq, Int.reduceLT, Int.reduceLE, Int.reduceNeg, Int.reduceAdd, Int.reduceSub, Int.reduceMul, Nat.reduceLeDiff, Int.reduceToNat, cell_h, can_h, cellO_cells, canO_cells, setO_cells, heap_set_h, heap_alloc_h, size_set_h, size_alloc_h, vcells_agg, succ_ne, ne_succ, List.setIfInBounds_toArray, List.set_cons_succ, List.set_cons_zero, setCells, drew_h]); (repeat (first | (with_reducible first | (refine hK _ _ ?_; clear hK K) | refine (show ∀ σ' w', _ → K σ' w' from by assumption) _ _ ?_ | refine W_seq_k fun K hK => ?_ | refine W_block_k fun K hK => ?_ | refine W_skip ?_ | refine W_ret ?_) | ((first | ((with_reducible refine W_id ?_); refine W_reg (by decide) (by rfl) ?_) | (with_reducible first | refine W_cond ?_ | refine hZ _ _ ?_ | refine W_exit ?_ | refine Wo_id ?_)); repeat1' simp only [push_cast, Nat.reduceBEq, Nat.reduceLT, Nat.reduceEqDiff, reduceIte, reduceCtorEq, Nat.reduceMul, Nat.reduceAdd, Nat.reduceSub, Int.reduceEq, Int.reduceLT, Int.reduceLE, Int.reduceNeg, Int.reduceAdd, Int.reduceSub, Int.reduceMul, Nat.reduceLeDiff, Int.reduceToNat, cell_h, can_h, cellO_cells, canO_cells, setO_cells, heap_set_h, heap_alloc_h, size_set_h, size_alloc_h, vcells_agg, succ_ne, ne_succ, List.setIfInBounds_toArray, List.set_cons_succ, List.set_cons_zero, setCells, drew_h]) | ((repeat ((fail_if_success with_reducible refine hK _ _ ?_); clear hK K)); (with_reducible refine hK _ _ ?_); clear hK K))))
  have hsz := h3.alike.size
  have hx : Ext w' ((w'.alloc (.cells m'.val.cells 49)).alloc (.cells #[.slice (some ⟨w'.heap.size, 0, none⟩) 1 1] 108)) := (Ext.alloc _ _).trans (Ext.alloc _ _)
  refine ⟨w'.heap.size + 1, rfl, ⟨w'.heap.size, 1, [m'], ⟨⟨108, ?_⟩, ?_, ?_, ?_⟩, ?_, ?_⟩, h3.trans hx⟩
  · rw [heap_alloc_h, if_pos (by simp)]; rfl
  · exact (SlAt.new w' 11 m'.val.cells 49 1 rfl).ext (Ext.alloc _ _)
  · intro m hm
    simp only [List.mem_singleton] at hm
    subst hm
    exact h2.upd hx fun _ _ h => h.elim
  · have hb : ∀ b ∈ m'.blks, b < w'.heap.size := fun b hb => h2.lt hb
    simp only [blocks, List.flatMap_cons, List.flatMap_nil, List.append_nil, List.nodup_cons, List.mem_cons, not_or]
    refine ⟨⟨by omega, fun hm => ?_⟩, fun hm => ?_, h5⟩
    · have := hb _ hm; omega
    · have := hb _ hm; omega
  · simp [h1, docN, bareN, zN]
  · intro b hb
    simp only [blocks, List.flatMap_cons, List.flatMap_nil, List.append_nil, List.mem_cons] at hb
    rcases hb with rfl | rfl | hb
    · omega
    · omega
    · exact h4 b hb
end Go.Proofs.YtkafpameheohdaaDoor
end
