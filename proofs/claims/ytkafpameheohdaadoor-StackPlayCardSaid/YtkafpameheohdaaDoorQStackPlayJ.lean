/- What the proof leans on, part 10 of 11. -/
import Derived.Test.YtkafpameheohdaaDoorQStackPlayI
section
set_option linter.unusedSimpArgs false
set_option linter.unusedVariables false
namespace Go.Proofs.YtkafpameheohdaaDoor
open Go Go.Vk
set_option maxHeartbeats 40000000
theorem said_g {w : World} {pv : Option Addr} {k : Nat} {i j : Int} {a b : Nat} (hk : k < 256) (ha : a < 256) (hb : b < 256) {R : Value → World → Prop}
    (h3 : k % 10 = 3 → ∀ w1, Ext w w1 → Gives Tryd.prog 56 #[.pointer pv] w1 fun v w' => (∃ n, v = .int .i64 n) ∧ R v w')
    (h4 : k % 10 = 4 → ∀ w1, Ext w w1 → Gives Tryd.prog 57 #[.pointer pv, .int .i64 i] w1 fun v w' => (∃ n, v = .int .i64 n) ∧ R v w')
    (h5 : k % 10 = 5 → ∀ w1, Ext w w1 → Gives Tryd.prog 58 #[.pointer pv, .int .i64 j, .int .i64 i] w1 fun v w' => (∃ n, v = .int .i64 n) ∧ R v w')
    (h6 : k % 10 = 6 → ∀ w1, Ext w w1 → Gives Tryd.prog 59 #[.pointer pv, .int .i64 j, .int .i64 i] w1 fun v w' => (∃ n, v = .int .i64 n) ∧ R v w')
    (h7 : k % 10 = 7 → ∀ w1 (xa : Option Addr) (xn xc p3 : Nat), Ext w w1 → w.heap.size ≤ p3 → p3 < w1.heap.size → RdAt w1 1 (.slice xa xn xc) (strCells [nmT a, nmT b]) → Gives Tryd.prog 60 #[.pointer pv, .slice xa xn xc] w1 fun v w' => (∃ n, v = .int .i64 n) ∧ R v w' ∧ Upd (fun b => b ≠ p3) w1 w')
    (h8 : k % 10 = 8 → ∀ w1, Ext w w1 → Gives Tryd.prog 61 #[.pointer pv, .string (nmT a), .bool false] w1 fun _ w' => R (.int .i64 0) w')
    (h9 : k % 10 = 9 → ∀ w1, Ext w w1 → Gives Tryd.prog 61 #[.pointer pv, .string ⟨#[]⟩, .bool true] w1 fun _ w' => R (.int .i64 0) w')
    (h0 : k % 10 < 3 → ∀ w1, Ext w w1 → Gives Tryd.prog 62 #[.pointer pv, .int .i64 i] w1 fun v w' => (∃ n, v = .int .i64 n) ∧ R v w') :
    Gives Tryd.prog 33 #[.pointer pv, .agg (actR k i j a b)] w R := by
  have hrl : k % 10 < 10 := Nat.mod_lt _ (by decide)
  have ar : ((k : Int).tmod 10) = ((k % 10 : Nat) : Int) := by rw [Int.tmod_eq_emod_of_nonneg (by omega)]; omega
  have n10 : ¬ ((10 : Int) = 0) := by omega
  generalize k % 10 = r at *
  unfold actR
  have hx := Ext.alloc w (.cells #[.int .u8 (k : Int), .int .i64 i, .int .i64 j, .int .u8 (a : Int), .int .u8 (b : Int)] 61)
  have hp : (w.alloc (.cells #[.int .u8 (k : Int), .int .i64 i, .int .i64 j, .int .u8 (a : Int), .int .u8 (b : Int)] 61)).heap[w.heap.size]? = some (.cells #[.int .u8 (k : Int), .int .i64 i, .int .i64 j, .int .u8 (a : Int), .int .u8 (b : Int)] 61 (0, 0)) := by rw [heap_alloc_h, if_pos rfl]
  refine Gives.of_W Tryd.call33 Tryd.func33 rfl Tryd.ntmps33 (by simp) ?_; intro Z hZ
  (repeat (first | (with_reducible first | (refine hK _ _ ?_; clear hK K) | refine (show ∀ σ' w', _ → K σ' w' from by assumption) _ _ ?_ | refine W_seq_k fun K hK => ?_ | refine W_block_k fun K hK => ?_ | refine W_skip ?_ | refine W_ret ?_) | ((first | ((with_reducible refine W_id ?_); refine W_reg (by decide) (by rfl) ?_) | (with_reducible first | refine W_cond ?_ | refine hZ _ _ ?_ | refine W_exit ?_ | refine Wo_id ?_)); repeat1' simp only [push_cast, Nat.reduceBEq, Nat.reduceLT, Nat.reduceEqDiff, reduceIte, reduceCtorEq, Nat.reduceMul, Nat.reduceAdd, Nat.reduceSub, Int.reduceEq, Int.reduceLT, Int.reduceLE, Int.reduceNeg, Int.reduceAdd, Int.reduceSub, Int.reduceMul, Nat.reduceLeDiff, Int.reduceToNat, vcells_agg]) | ((repeat ((fail_if_success with_reducible refine hK _ _ ?_); clear hK K)); (with_reducible refine hK _ _ ?_); clear hK K)))
  generalize w.alloc (.cells #[.int .u8 (k : Int), .int .i64 i, .int .i64 j, .int .u8 (a : Int), .int .u8 (b : Int)] 61) = w1 at *
  obtain ⟨p3, hp3⟩ : ∃ p3, p3 = w.heap.size := ⟨_, rfl⟩
  rw [← hp3] at hp ⊢
  have hrr : r = 0 ∨ r = 1 ∨ r = 2 ∨ r = 3 ∨ r = 4 ∨ r = 5 ∨ r = 6 ∨ r = 7 ∨ r = 8 ∨ r = 9 := by omega
  rcases hrr with hr | hr | hr | hr | hr | hr | hr | hr | hr | hr
  · subst hr
    have ar : ((k : Int).tmod 10) = 0 := ar
    ((repeat simp only [push_cast, Nat.reduceBEq, Nat.reduceLT, Nat.reduceEqDiff, reduceIte, reduceCtorEq, Nat.reduceMul, Nat.reduceAdd, Nat.reduceSub, Int.reduceEq, Int.reduceLT, Int.reduceLE, Int.reduceNeg, Int.reduceAdd, Int.reduceSub, Int.reduceMul, Nat.reduceLeDiff, Int.reduceToNat, cell_h, cellO_cells, hp, ar, n10, eq_self, not_false_eq_true]); (repeat (first | (with_reducible first | (refine hK _ _ ?_; clear hK K) | refine (show ∀ σ' w', _ → K σ' w' from by assumption) _ _ ?_ | refine W_seq_k fun K hK => ?_ | refine W_block_k fun K hK => ?_ | refine W_skip ?_ | refine W_ret ?_) | ((first | ((with_reducible refine W_id ?_); refine W_reg (by decide) (by rfl) ?_) | (with_reducible first | refine W_cond ?_ | refine hZ _ _ ?_ | refine W_exit ?_ | refine Wo_id ?_)); repeat1' simp only [push_cast, Nat.reduceBEq, Nat.reduceLT, Nat.reduceEqDiff, reduceIte, reduceCtorEq, Nat.reduceMul, Nat.reduceAdd, Nat.reduceSub, Int.reduceEq, Int.reduceLT, Int.reduceLE, Int.reduceNeg, Int.reduceAdd, Int.reduceSub, Int.reduceMul, Nat.reduceLeDiff, Int.reduceToNat, cell_h, cellO_cells, hp, ar, n10, eq_self, not_false_eq_true]) | ((repeat ((fail_if_success with_reducible refine hK _ _ ?_); clear hK K)); (with_reducible refine hK _ _ ?_); clear hK K))))
    refine (h0 (by decide) w1 hx).mono ?_
    rintro v w2 ⟨⟨n, rfl⟩, hR⟩
    ((repeat simp only [push_cast, Nat.reduceBEq, Nat.reduceLT, Nat.reduceEqDiff, reduceIte, reduceCtorEq, Nat.reduceMul, Nat.reduceAdd, Nat.reduceSub, Int.reduceEq, Int.reduceLT, Int.reduceLE, Int.reduceNeg, Int.reduceAdd, Int.reduceSub, Int.reduceMul, Nat.reduceLeDiff, Int.reduceToNat]); (repeat (first | (with_reducible first | (refine hK _ _ ?_; clear hK K) | refine (show ∀ σ' w', _ → K σ' w' from by assumption) _ _ ?_ | refine W_seq_k fun K hK => ?_ | refine W_block_k fun K hK => ?_ | refine W_skip ?_ | refine W_ret ?_) | ((first | ((with_reducible refine W_id ?_); refine W_reg (by decide) (by rfl) ?_) | (with_reducible first | refine W_cond ?_ | refine hZ _ _ ?_ | refine W_exit ?_ | refine Wo_id ?_)); repeat1' simp only [push_cast, Nat.reduceBEq, Nat.reduceLT, Nat.reduceEqDiff, reduceIte, reduceCtorEq, Nat.reduceMul, Nat.reduceAdd, Nat.reduceSub, Int.reduceEq, Int.reduceLT, Int.reduceLE, Int.reduceNeg, Int.reduceAdd, Int.reduceSub, Int.reduceMul, Nat.reduceLeDiff, Int.reduceToNat]) | ((repeat ((fail_if_success with_reducible refine hK _ _ ?_); clear hK K)); (with_reducible refine hK _ _ ?_); clear hK K))))
    exact hR
  · subst hr
    have ar : ((k : Int).tmod 10) = 1 := ar
    ((repeat simp only [push_cast, Nat.reduceBEq, Nat.reduceLT, Nat.reduceEqDiff, reduceIte, reduceCtorEq, Nat.reduceMul, Nat.reduceAdd, Nat.reduceSub, Int.reduceEq, Int.reduceLT, Int.reduceLE, Int.reduceNeg, Int.reduceAdd, Int.reduceSub, Int.reduceMul, Nat.reduceLeDiff, Int.reduceToNat, cell_h, cellO_cells, hp, ar, n10, eq_self, not_false_eq_true]); (repeat (first | (with_reducible first | (refine hK _ _ ?_; clear hK K) | refine (show ∀ σ' w', _ → K σ' w' from by assumption) _ _ ?_ | refine W_seq_k fun K hK => ?_ | refine W_block_k fun K hK => ?_ | refine W_skip ?_ | refine W_ret ?_) | ((first | ((with_reducible refine W_id ?_); refine W_reg (by decide) (by rfl) ?_) | (with_reducible first | refine W_cond ?_ | refine hZ _ _ ?_ | refine W_exit ?_ | refine Wo_id ?_)); repeat1' simp only [push_cast, Nat.reduceBEq, Nat.reduceLT, Nat.reduceEqDiff, reduceIte, reduceCtorEq, Nat.reduceMul, Nat.reduceAdd, Nat.reduceSub, Int.reduceEq, Int.reduceLT, Int.reduceLE, Int.reduceNeg, Int.reduceAdd, Int.reduceSub, Int.reduceMul, Nat.reduceLeDiff, Int.reduceToNat, cell_h, cellO_cells, hp, ar, n10, eq_self, not_false_eq_true]) | ((repeat ((fail_if_success with_reducible refine hK _ _ ?_); clear hK K)); (with_reducible refine hK _ _ ?_); clear hK K))))
    refine (h0 (by decide) w1 hx).mono ?_
    rintro v w2 ⟨⟨n, rfl⟩, hR⟩
    ((repeat simp only [push_cast, Nat.reduceBEq, Nat.reduceLT, Nat.reduceEqDiff, reduceIte, reduceCtorEq, Nat.reduceMul, Nat.reduceAdd, Nat.reduceSub, Int.reduceEq, Int.reduceLT, Int.reduceLE, Int.reduceNeg, Int.reduceAdd, Int.reduceSub, Int.reduceMul, Nat.reduceLeDiff, Int.reduceToNat]); (repeat (first | (with_reducible first | (refine hK _ _ ?_; clear hK K) | refine (show ∀ σ' w', _ → K σ' w' from by assumption) _ _ ?_ | refine W_seq_k fun K hK => ?_ | refine W_block_k fun K hK => ?_ | refine W_skip ?_ | refine W_ret ?_) | ((first | ((with_reducible refine W_id ?_); refine W_reg (by decide) (by rfl) ?_) | (with_reducible first | refine W_cond ?_ | refine hZ _ _ ?_ | refine W_exit ?_ | refine Wo_id ?_)); repeat1' simp only [push_cast, Nat.reduceBEq, Nat.reduceLT, Nat.reduceEqDiff, reduceIte, reduceCtorEq, Nat.reduceMul, Nat.reduceAdd, Nat.reduceSub, Int.reduceEq, Int.reduceLT, Int.reduceLE, Int.reduceNeg, Int.reduceAdd, Int.reduceSub, Int.reduceMul, Nat.reduceLeDiff, Int.reduceToNat]) | ((repeat ((fail_if_success with_reducible refine hK _ _ ?_); clear hK K)); (with_reducible refine hK _ _ ?_); clear hK K))))
    exact hR
  · subst hr
    have ar : ((k : Int).tmod 10) = 2 := ar
    ((repeat simp only [push_cast, Nat.reduceBEq, Nat.reduceLT, Nat.reduceEqDiff, reduceIte, reduceCtorEq, Nat.reduceMul, Nat.reduceAdd, Nat.reduceSub, Int.reduceEq, Int.reduceLT, Int.reduceLE, Int.reduceNeg, Int.reduceAdd, Int.reduceSub, Int.reduceMul, Nat.reduceLeDiff, Int.reduceToNat, cell_h, cellO_cells, hp, ar, n10, eq_self, not_false_eq_true]); (repeat (first | (with_reducible first | (refine hK _ _ ?_; clear hK K) | refine (show ∀ σ' w', _ → K σ' w' from by assumption) _ _ ?_ | refine W_seq_k fun K hK => ?_ | refine W_block_k fun K hK => ?_ | refine W_skip ?_ | refine W_ret ?_) | ((first | ((with_reducible refine W_id ?_); refine W_reg (by decide) (by rfl) ?_) | (with_reducible first | refine W_cond ?_ | refine hZ _ _ ?_ | refine W_exit ?_ | refine Wo_id ?_)); repeat1' simp only [push_cast, Nat.reduceBEq, Nat.reduceLT, Nat.reduceEqDiff, reduceIte, reduceCtorEq, Nat.reduceMul, Nat.reduceAdd, Nat.reduceSub, Int.reduceEq, Int.reduceLT, Int.reduceLE, Int.reduceNeg, Int.reduceAdd, Int.reduceSub, Int.reduceMul, Nat.reduceLeDiff, Int.reduceToNat, cell_h, cellO_cells, hp, ar, n10, eq_self, not_false_eq_true]) | ((repeat ((fail_if_success with_reducible refine hK _ _ ?_); clear hK K)); (with_reducible refine hK _ _ ?_); clear hK K))))
    refine (h0 (by decide) w1 hx).mono ?_
    rintro v w2 ⟨⟨n, rfl⟩, hR⟩
    ((repeat simp only [push_cast, Nat.reduceBEq, Nat.reduceLT, Nat.reduceEqDiff, reduceIte, reduceCtorEq, Nat.reduceMul, Nat.reduceAdd, Nat.reduceSub, Int.reduceEq, Int.reduceLT, Int.reduceLE, Int.reduceNeg, Int.reduceAdd, Int.reduceSub, Int.reduceMul, Nat.reduceLeDiff, Int.reduceToNat]); (repeat (first | (with_reducible first | (refine hK _ _ ?_; clear hK K) | refine (show ∀ σ' w', _ → K σ' w' from by assumption) _ _ ?_ | refine W_seq_k fun K hK => ?_ | refine W_block_k fun K hK => ?_ | refine W_skip ?_ | refine W_ret ?_) | ((first | ((with_reducible refine W_id ?_); refine W_reg (by decide) (by rfl) ?_) | (with_reducible first | refine W_cond ?_ | refine hZ _ _ ?_ | refine W_exit ?_ | refine Wo_id ?_)); repeat1' simp only [push_cast, Nat.reduceBEq, Nat.reduceLT, Nat.reduceEqDiff, reduceIte, reduceCtorEq, Nat.reduceMul, Nat.reduceAdd, Nat.reduceSub, Int.reduceEq, Int.reduceLT, Int.reduceLE, Int.reduceNeg, Int.reduceAdd, Int.reduceSub, Int.reduceMul, Nat.reduceLeDiff, Int.reduceToNat]) | ((repeat ((fail_if_success with_reducible refine hK _ _ ?_); clear hK K)); (with_reducible refine hK _ _ ?_); clear hK K))))
    exact hR
  · subst hr
    have ar : ((k : Int).tmod 10) = 3 := ar
    ((repeat simp only [push_cast, Nat.reduceBEq, Nat.reduceLT, Nat.reduceEqDiff, reduceIte, reduceCtorEq, Nat.reduceMul, Nat.reduceAdd, Nat.reduceSub, Int.reduceEq, Int.reduceLT, Int.reduceLE, Int.reduceNeg, Int.reduceAdd, Int.reduceSub, Int.reduceMul, Nat.reduceLeDiff, Int.reduceToNat, cell_h, cellO_cells, hp, ar, n10, eq_self, not_false_eq_true]); (repeat (first | (with_reducible first | (refine hK _ _ ?_; clear hK K) | refine (show ∀ σ' w', _ → K σ' w' from by assumption) _ _ ?_ | refine W_seq_k fun K hK => ?_ | refine W_block_k fun K hK => ?_ | refine W_skip ?_ | refine W_ret ?_) | ((first | ((with_reducible refine W_id ?_); refine W_reg (by decide) (by rfl) ?_) | (with_reducible first | refine W_cond ?_ | refine hZ _ _ ?_ | refine W_exit ?_ | refine Wo_id ?_)); repeat1' simp only [push_cast, Nat.reduceBEq, Nat.reduceLT, Nat.reduceEqDiff, reduceIte, reduceCtorEq, Nat.reduceMul, Nat.reduceAdd, Nat.reduceSub, Int.reduceEq, Int.reduceLT, Int.reduceLE, Int.reduceNeg, Int.reduceAdd, Int.reduceSub, Int.reduceMul, Nat.reduceLeDiff, Int.reduceToNat, cell_h, cellO_cells, hp, ar, n10, eq_self, not_false_eq_true]) | ((repeat ((fail_if_success with_reducible refine hK _ _ ?_); clear hK K)); (with_reducible refine hK _ _ ?_); clear hK K))))
    refine (h3 rfl w1 hx).mono ?_
    rintro v w2 ⟨⟨n, rfl⟩, hR⟩
    ((repeat simp only [push_cast, Nat.reduceBEq, Nat.reduceLT, Nat.reduceEqDiff, reduceIte, reduceCtorEq, Nat.reduceMul, Nat.reduceAdd, Nat.reduceSub, Int.reduceEq, Int.reduceLT, Int.reduceLE, Int.reduceNeg, Int.reduceAdd, Int.reduceSub, Int.reduceMul, Nat.reduceLeDiff, Int.reduceToNat]); (repeat (first | (with_reducible first | (refine hK _ _ ?_; clear hK K) | refine (show ∀ σ' w', _ → K σ' w' from by assumption) _ _ ?_ | refine W_seq_k fun K hK => ?_ | refine W_block_k fun K hK => ?_ | refine W_skip ?_ | refine W_ret ?_) | ((first | ((with_reducible refine W_id ?_); refine W_reg (by decide) (by rfl) ?_) | (with_reducible first | refine W_cond ?_ | refine hZ _ _ ?_ | refine W_exit ?_ | refine Wo_id ?_)); repeat1' simp only [push_cast, Nat.reduceBEq, Nat.reduceLT, Nat.reduceEqDiff, reduceIte, reduceCtorEq, Nat.reduceMul, Nat.reduceAdd, Nat.reduceSub, Int.reduceEq, Int.reduceLT, Int.reduceLE, Int.reduceNeg, Int.reduceAdd, Int.reduceSub, Int.reduceMul, Nat.reduceLeDiff, Int.reduceToNat]) | ((repeat ((fail_if_success with_reducible refine hK _ _ ?_); clear hK K)); (with_reducible refine hK _ _ ?_); clear hK K))))
    exact hR
  · subst hr
    have ar : ((k : Int).tmod 10) = 4 := ar
    ((repeat simp only [push_cast, Nat.reduceBEq, Nat.reduceLT, Nat.reduceEqDiff, reduceIte, reduceCtorEq, Nat.reduceMul, Nat.reduceAdd, Nat.reduceSub, Int.reduceEq, Int.reduceLT, Int.reduceLE, Int.reduceNeg, Int.reduceAdd, Int.reduceSub, Int.reduceMul, Nat.reduceLeDiff, Int.reduceToNat, cell_h, cellO_cells, hp, ar, n10, eq_self, not_false_eq_true]); (repeat (first | (with_reducible first | (refine hK _ _ ?_; clear hK K) | refine (show ∀ σ' w', _ → K σ' w' from by assumption) _ _ ?_ | refine W_seq_k fun K hK => ?_ | refine W_block_k fun K hK => ?_ | refine W_skip ?_ | refine W_ret ?_) | ((first | ((with_reducible refine W_id ?_); refine W_reg (by decide) (by rfl) ?_) | (with_reducible first | refine W_cond ?_ | refine hZ _ _ ?_ | refine W_exit ?_ | refine Wo_id ?_)); repeat1' simp only [push_cast, Nat.reduceBEq, Nat.reduceLT, Nat.reduceEqDiff, reduceIte, reduceCtorEq, Nat.reduceMul, Nat.reduceAdd, Nat.reduceSub, Int.reduceEq, Int.reduceLT, Int.reduceLE, Int.reduceNeg, Int.reduceAdd, Int.reduceSub, Int.reduceMul, Nat.reduceLeDiff, Int.reduceToNat, cell_h, cellO_cells, hp, ar, n10, eq_self, not_false_eq_true]) | ((repeat ((fail_if_success with_reducible refine hK _ _ ?_); clear hK K)); (with_reducible refine hK _ _ ?_); clear hK K))))
    refine (h4 rfl w1 hx).mono ?_
    rintro v w2 ⟨⟨n, rfl⟩, hR⟩
    ((repeat simp only [push_cast, Nat.reduceBEq, Nat.reduceLT, Nat.reduceEqDiff, reduceIte, reduceCtorEq, Nat.reduceMul, Nat.reduceAdd, Nat.reduceSub, Int.reduceEq, Int.reduceLT, Int.reduceLE, Int.reduceNeg, Int.reduceAdd, Int.reduceSub, Int.reduceMul, Nat.reduceLeDiff, Int.reduceToNat]); (repeat (first | (with_reducible first | (refine hK _ _ ?_; clear hK K) | refine (show ∀ σ' w', _ → K σ' w' from by assumption) _ _ ?_ | refine W_seq_k fun K hK => ?_ | refine W_block_k fun K hK => ?_ | refine W_skip ?_ | refine W_ret ?_) | ((first | ((with_reducible refine W_id ?_); refine W_reg (by decide) (by rfl) ?_) | (with_reducible first | refine W_cond ?_ | refine hZ _ _ ?_ | refine W_exit ?_ | refine Wo_id ?_)); repeat1' simp only [push_cast, Nat.reduceBEq, Nat.reduceLT, Nat.reduceEqDiff, reduceIte, reduceCtorEq, Nat.reduceMul, Nat.reduceAdd, Nat.reduceSub, Int.reduceEq, Int.reduceLT, Int.reduceLE, Int.reduceNeg, Int.reduceAdd, Int.reduceSub, Int.reduceMul, Nat.reduceLeDiff, Int.reduceToNat]) | ((repeat ((fail_if_success with_reducible refine hK _ _ ?_); clear hK K)); (with_reducible refine hK _ _ ?_); clear hK K))))
    exact hR
  · subst hr
    have ar : ((k : Int).tmod 10) = 5 := ar
    ((repeat simp only [push_cast, Nat.reduceBEq, Nat.reduceLT, Nat.reduceEqDiff, reduceIte, reduceCtorEq, Nat.reduceMul, Nat.reduceAdd, Nat.reduceSub, Int.reduceEq, Int.reduceLT, Int.reduceLE, Int.reduceNeg, Int.reduceAdd, Int.reduceSub, Int.reduceMul, Nat.reduceLeDiff, Int.reduceToNat, cell_h, cellO_cells, hp, ar, n10, eq_self, not_false_eq_true]); (repeat (first | (with_reducible first | (refine hK _ _ ?_; clear hK K) | refine (show ∀ σ' w', _ → K σ' w' from by assumption) _ _ ?_ | refine W_seq_k fun K hK => ?_ | refine W_block_k fun K hK => ?_ | refine W_skip ?_ | refine W_ret ?_) | ((first | ((with_reducible refine W_id ?_); refine W_reg (by decide) (by rfl) ?_) | (with_reducible first | refine W_cond ?_ | refine hZ _ _ ?_ | refine W_exit ?_ | refine Wo_id ?_)); repeat1' simp only [push_cast, Nat.reduceBEq, Nat.reduceLT, Nat.reduceEqDiff, reduceIte, reduceCtorEq, Nat.reduceMul, Nat.reduceAdd, Nat.reduceSub, Int.reduceEq, Int.reduceLT, Int.reduceLE, Int.reduceNeg, Int.reduceAdd, Int.reduceSub, Int.reduceMul, Nat.reduceLeDiff, Int.reduceToNat, cell_h, cellO_cells, hp, ar, n10, eq_self, not_false_eq_true]) | ((repeat ((fail_if_success with_reducible refine hK _ _ ?_); clear hK K)); (with_reducible refine hK _ _ ?_); clear hK K))))
    refine (h5 rfl w1 hx).mono ?_
    rintro v w2 ⟨⟨n, rfl⟩, hR⟩
    ((repeat simp only [push_cast, Nat.reduceBEq, Nat.reduceLT, Nat.reduceEqDiff, reduceIte, reduceCtorEq, Nat.reduceMul, Nat.reduceAdd, Nat.reduceSub, Int.reduceEq, Int.reduceLT, Int.reduceLE, Int.reduceNeg, Int.reduceAdd, Int.reduceSub, Int.reduceMul, Nat.reduceLeDiff, Int.reduceToNat]); (repeat (first | (with_reducible first | (refine hK _ _ ?_; clear hK K) | refine (show ∀ σ' w', _ → K σ' w' from by assumption) _ _ ?_ | refine W_seq_k fun K hK => ?_ | refine W_block_k fun K hK => ?_ | refine W_skip ?_ | refine W_ret ?_) | ((first | ((with_reducible refine W_id ?_); refine W_reg (by decide) (by rfl) ?_) | (with_reducible first | refine W_cond ?_ | refine hZ _ _ ?_ | refine W_exit ?_ | refine Wo_id ?_)); repeat1' simp only [push_cast, Nat.reduceBEq, Nat.reduceLT, Nat.reduceEqDiff, reduceIte, reduceCtorEq, Nat.reduceMul, Nat.reduceAdd, Nat.reduceSub, Int.reduceEq, Int.reduceLT, Int.reduceLE, Int.reduceNeg, Int.reduceAdd, Int.reduceSub, Int.reduceMul, Nat.reduceLeDiff, Int.reduceToNat]) | ((repeat ((fail_if_success with_reducible refine hK _ _ ?_); clear hK K)); (with_reducible refine hK _ _ ?_); clear hK K))))
    exact hR
  · subst hr
    have ar : ((k : Int).tmod 10) = 6 := ar
    ((repeat simp only [push_cast, Nat.reduceBEq, Nat.reduceLT, Nat.reduceEqDiff, reduceIte, reduceCtorEq, Nat.reduceMul, Nat.reduceAdd, Nat.reduceSub, Int.reduceEq, Int.reduceLT, Int.reduceLE, Int.reduceNeg, Int.reduceAdd, Int.reduceSub, Int.reduceMul, Nat.reduceLeDiff, Int.reduceToNat, cell_h, cellO_cells, hp, ar, n10, eq_self, not_false_eq_true]); (repeat (first | (with_reducible first | (refine hK _ _ ?_; clear hK K) | refine (show ∀ σ' w', _ → K σ' w' from by assumption) _ _ ?_ | refine W_seq_k fun K hK => ?_ | refine W_block_k fun K hK => ?_ | refine W_skip ?_ | refine W_ret ?_) | ((first | ((with_reducible refine W_id ?_); refine W_reg (by decide) (by rfl) ?_) | (with_reducible first | refine W_cond ?_ | refine hZ _ _ ?_ | refine W_exit ?_ | refine Wo_id ?_)); repeat1' simp only [push_cast, Nat.reduceBEq, Nat.reduceLT, Nat.reduceEqDiff, reduceIte, reduceCtorEq, Nat.reduceMul, Nat.reduceAdd, Nat.reduceSub, Int.reduceEq, Int.reduceLT, Int.reduceLE, Int.reduceNeg, Int.reduceAdd, Int.reduceSub, Int.reduceMul, Nat.reduceLeDiff, Int.reduceToNat, cell_h, cellO_cells, hp, ar, n10, eq_self, not_false_eq_true]) | ((repeat ((fail_if_success with_reducible refine hK _ _ ?_); clear hK K)); (with_reducible refine hK _ _ ?_); clear hK K))))
    refine (h6 rfl w1 hx).mono ?_
    rintro v w2 ⟨⟨n, rfl⟩, hR⟩
    ((repeat simp only [push_cast, Nat.reduceBEq, Nat.reduceLT, Nat.reduceEqDiff, reduceIte, reduceCtorEq, Nat.reduceMul, Nat.reduceAdd, Nat.reduceSub, Int.reduceEq, Int.reduceLT, Int.reduceLE, Int.reduceNeg, Int.reduceAdd, Int.reduceSub, Int.reduceMul, Nat.reduceLeDiff, Int.reduceToNat]); (repeat (first | (with_reducible first | (refine hK _ _ ?_; clear hK K) | refine (show ∀ σ' w', _ → K σ' w' from by assumption) _ _ ?_ | refine W_seq_k fun K hK => ?_ | refine W_block_k fun K hK => ?_ | refine W_skip ?_ | refine W_ret ?_) | ((first | ((with_reducible refine W_id ?_); refine W_reg (by decide) (by rfl) ?_) | (with_reducible first | refine W_cond ?_ | refine hZ _ _ ?_ | refine W_exit ?_ | refine Wo_id ?_)); repeat1' simp only [push_cast, Nat.reduceBEq, Nat.reduceLT, Nat.reduceEqDiff, reduceIte, reduceCtorEq, Nat.reduceMul, Nat.reduceAdd, Nat.reduceSub, Int.reduceEq, Int.reduceLT, Int.reduceLE, Int.reduceNeg, Int.reduceAdd, Int.reduceSub, Int.reduceMul, Nat.reduceLeDiff, Int.reduceToNat]) | ((repeat ((fail_if_success with_reducible refine hK _ _ ?_); clear hK K)); (with_reducible refine hK _ _ ?_); clear hK K))))
    exact hR
  · subst hr
    have ar : ((k : Int).tmod 10) = 7 := ar
    ((repeat simp only [push_cast, Nat.reduceBEq, Nat.reduceLT, Nat.reduceEqDiff, reduceIte, reduceCtorEq, Nat.reduceMul, Nat.reduceAdd, Nat.reduceSub, Int.reduceEq, Int.reduceLT, Int.reduceLE, Int.reduceNeg, Int.reduceAdd, Int.reduceSub, Int.reduceMul, Nat.reduceLeDiff, Int.reduceToNat, cell_h, cellO_cells, hp, ar, n10, eq_self, not_false_eq_true]); (repeat (first | (with_reducible first | (refine hK _ _ ?_; clear hK K) | refine (show ∀ σ' w', _ → K σ' w' from by assumption) _ _ ?_ | refine W_seq_k fun K hK => ?_ | refine W_block_k fun K hK => ?_ | refine W_skip ?_ | refine W_ret ?_) | ((first | ((with_reducible refine W_id ?_); refine W_reg (by decide) (by rfl) ?_) | (with_reducible first | refine W_cond ?_ | refine hZ _ _ ?_ | refine W_exit ?_ | refine Wo_id ?_)); repeat1' simp only [push_cast, Nat.reduceBEq, Nat.reduceLT, Nat.reduceEqDiff, reduceIte, reduceCtorEq, Nat.reduceMul, Nat.reduceAdd, Nat.reduceSub, Int.reduceEq, Int.reduceLT, Int.reduceLE, Int.reduceNeg, Int.reduceAdd, Int.reduceSub, Int.reduceMul, Nat.reduceLeDiff, Int.reduceToNat, cell_h, cellO_cells, hp, ar, n10, eq_self, not_false_eq_true]) | ((repeat ((fail_if_success with_reducible refine hK _ _ ?_); clear hK K)); (with_reducible refine hK _ _ ?_); clear hK K))))
    have h03 := blk_lt hp
    refine W_draw (.pas 0 (.pas 1 (.pas 2 (.pas 3 (.pas 5 (.pas 6 (.pas 7 (.act 4 (.act 8 (.act 9 (.act 10 (.pas 11 .fin)))))))))))) (fun q => q = p3) (by decide) mixed (by kernel_rfl) ?_
    have hxd := Ext.drew w1
    have hpd := hxd.blk hp
    generalize w1.drew = wd at *
    have hld := blk_lt hpd
    (repeat (first | ((first | refine pas_plain rfl ?_ | refine pas_g rfl rfl ?_ | refine act_plain rfl ?_ | refine act_g rfl rfl ?_ | refine last_plain rfl ?_ | refine tail_plain rfl ?_ | refine tail_g rfl rfl ?_); (repeat simp only [push_cast, Nat.reduceBEq, Nat.reduceLT, Nat.reduceEqDiff, reduceIte, reduceCtorEq, Nat.reduceMul, Nat.reduceAdd, Nat.reduceSub, Int.reduceEq, Int.reduceLT, Int.reduceLE, Int.reduceNeg, Int.reduceAdd, Int.reduceSub, Int.reduceMul, Nat.reduceLeDiff, Int.reduceToNat, cell_h, can_h, cellO_cells, canO_cells, setO_cells, heap_set_h, heap_alloc_h, size_set_h, size_alloc_h, vcells_agg, succ_ne, ne_succ, List.setIfInBounds_toArray, List.set_cons_succ, List.set_cons_zero, setCells, drew_h, true_or, or_true, hpd, eq_self])) | (refine tail_fin ?_) | (refine sch_fin ?_)))
    refine (name_c a ha).mono ?_
    rintro v w2 ⟨rfl, hx2⟩
    refine ⟨kept_upd hx2 fun q hq => ⟨by omega, id⟩, ?_⟩
    (repeat (first | ((first | refine pas_plain rfl ?_ | refine pas_g rfl rfl ?_ | refine act_plain rfl ?_ | refine act_g rfl rfl ?_ | refine last_plain rfl ?_ | refine tail_plain rfl ?_ | refine tail_g rfl rfl ?_); (repeat simp only [push_cast, Nat.reduceBEq, Nat.reduceLT, Nat.reduceEqDiff, reduceIte, reduceCtorEq, Nat.reduceMul, Nat.reduceAdd, Nat.reduceSub, Int.reduceEq, Int.reduceLT, Int.reduceLE, Int.reduceNeg, Int.reduceAdd, Int.reduceSub, Int.reduceMul, Nat.reduceLeDiff, Int.reduceToNat, cell_h, can_h, cellO_cells, canO_cells, setO_cells, heap_set_h, heap_alloc_h, size_set_h, size_alloc_h, vcells_agg, succ_ne, ne_succ, List.setIfInBounds_toArray, List.set_cons_succ, List.set_cons_zero, setCells, drew_h, true_or, or_true, hpd, eq_self])) | (refine tail_fin ?_) | (refine sch_fin ?_)))
    refine (name_c b hb).mono ?_
    rintro v w3 ⟨rfl, hx3⟩
    have hl2 := hx2.alike.size
    refine ⟨kept_upd hx3 fun q hq => ⟨by omega, id⟩, ?_⟩
    (repeat (first | ((first | refine pas_plain rfl ?_ | refine pas_g rfl rfl ?_ | refine act_plain rfl ?_ | refine act_g rfl rfl ?_ | refine last_plain rfl ?_ | refine tail_plain rfl ?_ | refine tail_g rfl rfl ?_); (repeat simp only [push_cast, Nat.reduceBEq, Nat.reduceLT, Nat.reduceEqDiff, reduceIte, reduceCtorEq, Nat.reduceMul, Nat.reduceAdd, Nat.reduceSub, Int.reduceEq, Int.reduceLT, Int.reduceLE, Int.reduceNeg, Int.reduceAdd, Int.reduceSub, Int.reduceMul, Nat.reduceLeDiff, Int.reduceToNat, cell_h, can_h, cellO_cells, canO_cells, setO_cells, heap_set_h, heap_alloc_h, size_set_h, size_alloc_h, vcells_agg, succ_ne, ne_succ, List.setIfInBounds_toArray, List.set_cons_succ, List.set_cons_zero, setCells, drew_h, true_or, or_true, hpd, eq_self])) | (refine tail_fin ?_) | (refine sch_fin ?_)))
    refine bs_of styS (n := 2) (by decide) (by decide) Tryd.zeroValue9 (fill2 _ _) ?_
    have n2 := names2 w3 (nmT a) (nmT b)
    have hx4 := Ext.alloc w3 (.cells #[.string (nmT a), .string (nmT b)] 9)
    have hl3 := hx3.alike.size
    have hl4 := hx4.alike.size
    refine ⟨kept_upd hx4 fun q hq => ⟨by omega, id⟩, ?_⟩
    generalize w3.alloc (.cells #[.string (nmT a), .string (nmT b)] 9) = w4 at *
    (repeat (first | ((first | refine pas_plain rfl ?_ | refine pas_g rfl rfl ?_ | refine act_plain rfl ?_ | refine act_g rfl rfl ?_ | refine last_plain rfl ?_ | refine tail_plain rfl ?_ | refine tail_g rfl rfl ?_); (repeat simp only [push_cast, Nat.reduceBEq, Nat.reduceLT, Nat.reduceEqDiff, reduceIte, reduceCtorEq, Nat.reduceMul, Nat.reduceAdd, Nat.reduceSub, Int.reduceEq, Int.reduceLT, Int.reduceLE, Int.reduceNeg, Int.reduceAdd, Int.reduceSub, Int.reduceMul, Nat.reduceLeDiff, Int.reduceToNat, cell_h, can_h, cellO_cells, canO_cells, setO_cells, heap_set_h, heap_alloc_h, size_set_h, size_alloc_h, vcells_agg, succ_ne, ne_succ, List.setIfInBounds_toArray, List.set_cons_succ, List.set_cons_zero, setCells, drew_h, true_or, or_true, hpd, eq_self])) | (refine tail_fin ?_) | (refine sch_fin ?_)))
    refine (h7 rfl w4 _ _ _ p3 (hx.trans (hxd.trans (hx2.trans (hx3.trans hx4)))) (by omega) (by omega) n2).mono ?_
    rintro v w5 ⟨⟨n, rfl⟩, hR, hu⟩
    refine ⟨kept_upd hu fun q hq => ⟨by omega, fun h => h hq⟩, ?_⟩
    (repeat (first | ((first | refine pas_plain rfl ?_ | refine pas_g rfl rfl ?_ | refine act_plain rfl ?_ | refine act_g rfl rfl ?_ | refine last_plain rfl ?_ | refine tail_plain rfl ?_ | refine tail_g rfl rfl ?_); (repeat simp only [push_cast, Nat.reduceBEq, Nat.reduceLT, Nat.reduceEqDiff, reduceIte, reduceCtorEq, Nat.reduceMul, Nat.reduceAdd, Nat.reduceSub, Int.reduceEq, Int.reduceLT, Int.reduceLE, Int.reduceNeg, Int.reduceAdd, Int.reduceSub, Int.reduceMul, Nat.reduceLeDiff, Int.reduceToNat, cell_h, can_h, cellO_cells, canO_cells, setO_cells, heap_set_h, heap_alloc_h, size_set_h, size_alloc_h, vcells_agg, succ_ne, ne_succ, List.setIfInBounds_toArray, List.set_cons_succ, List.set_cons_zero, setCells, drew_h, true_or, or_true, eq_self])) | (refine tail_fin ?_) | (refine sch_fin ?_)))
    ((repeat simp only [push_cast, Nat.reduceBEq, Nat.reduceLT, Nat.reduceEqDiff, reduceIte, reduceCtorEq, Nat.reduceMul, Nat.reduceAdd, Nat.reduceSub, Int.reduceEq, Int.reduceLT, Int.reduceLE, Int.reduceNeg, Int.reduceAdd, Int.reduceSub, Int.reduceMul, Nat.reduceLeDiff, Int.reduceToNat]); (repeat (first | (with_reducible first | (refine hK _ _ ?_; clear hK K) | refine (show ∀ σ' w', _ → K σ' w' from by assumption) _ _ ?_ | refine W_seq_k fun K hK => ?_ | refine W_block_k fun K hK => ?_ | refine W_skip ?_ | refine W_ret ?_) | ((first | ((with_reducible refine W_id ?_); refine W_reg (by decide) (by rfl) ?_) | (with_reducible first | refine W_cond ?_ | refine hZ _ _ ?_ | refine W_exit ?_ | refine Wo_id ?_)); repeat1' simp only [push_cast, Nat.reduceBEq, Nat.reduceLT, Nat.reduceEqDiff, reduceIte, reduceCtorEq, Nat.reduceMul, Nat.reduceAdd, Nat.reduceSub, Int.reduceEq, Int.reduceLT, Int.reduceLE, Int.reduceNeg, Int.reduceAdd, Int.reduceSub, Int.reduceMul, Nat.reduceLeDiff, Int.reduceToNat]) | ((repeat ((fail_if_success with_reducible refine hK _ _ ?_); clear hK K)); (with_reducible refine hK _ _ ?_); clear hK K))))
    exact hR
  · subst hr
    have ar : ((k : Int).tmod 10) = 8 := ar
    ((repeat simp only [push_cast, Nat.reduceBEq, Nat.reduceLT, Nat.reduceEqDiff, reduceIte, reduceCtorEq, Nat.reduceMul, Nat.reduceAdd, Nat.reduceSub, Int.reduceEq, Int.reduceLT, Int.reduceLE, Int.reduceNeg, Int.reduceAdd, Int.reduceSub, Int.reduceMul, Nat.reduceLeDiff, Int.reduceToNat, cell_h, cellO_cells, hp, ar, n10, eq_self, not_false_eq_true]); (repeat (first | (with_reducible first | (refine hK _ _ ?_; clear hK K) | refine (show ∀ σ' w', _ → K σ' w' from by assumption) _ _ ?_ | refine W_seq_k fun K hK => ?_ | refine W_block_k fun K hK => ?_ | refine W_skip ?_ | refine W_ret ?_) | ((first | ((with_reducible refine W_id ?_); refine W_reg (by decide) (by rfl) ?_) | (with_reducible first | refine W_cond ?_ | refine hZ _ _ ?_ | refine W_exit ?_ | refine Wo_id ?_)); repeat1' simp only [push_cast, Nat.reduceBEq, Nat.reduceLT, Nat.reduceEqDiff, reduceIte, reduceCtorEq, Nat.reduceMul, Nat.reduceAdd, Nat.reduceSub, Int.reduceEq, Int.reduceLT, Int.reduceLE, Int.reduceNeg, Int.reduceAdd, Int.reduceSub, Int.reduceMul, Nat.reduceLeDiff, Int.reduceToNat, cell_h, cellO_cells, hp, ar, n10, eq_self, not_false_eq_true]) | ((repeat ((fail_if_success with_reducible refine hK _ _ ?_); clear hK K)); (with_reducible refine hK _ _ ?_); clear hK K))))
    refine (name_c a ha).mono ?_
    rintro v w2 ⟨rfl, hx2⟩
    ((repeat simp only [push_cast, Nat.reduceBEq, Nat.reduceLT, Nat.reduceEqDiff, reduceIte, reduceCtorEq, Nat.reduceMul, Nat.reduceAdd, Nat.reduceSub, Int.reduceEq, Int.reduceLT, Int.reduceLE, Int.reduceNeg, Int.reduceAdd, Int.reduceSub, Int.reduceMul, Nat.reduceLeDiff, Int.reduceToNat]); (repeat (first | (with_reducible first | (refine hK _ _ ?_; clear hK K) | refine (show ∀ σ' w', _ → K σ' w' from by assumption) _ _ ?_ | refine W_seq_k fun K hK => ?_ | refine W_block_k fun K hK => ?_ | refine W_skip ?_ | refine W_ret ?_) | ((first | ((with_reducible refine W_id ?_); refine W_reg (by decide) (by rfl) ?_) | (with_reducible first | refine W_cond ?_ | refine hZ _ _ ?_ | refine W_exit ?_ | refine Wo_id ?_)); repeat1' simp only [push_cast, Nat.reduceBEq, Nat.reduceLT, Nat.reduceEqDiff, reduceIte, reduceCtorEq, Nat.reduceMul, Nat.reduceAdd, Nat.reduceSub, Int.reduceEq, Int.reduceLT, Int.reduceLE, Int.reduceNeg, Int.reduceAdd, Int.reduceSub, Int.reduceMul, Nat.reduceLeDiff, Int.reduceToNat]) | ((repeat ((fail_if_success with_reducible refine hK _ _ ?_); clear hK K)); (with_reducible refine hK _ _ ?_); clear hK K))))
    refine (h8 rfl w2 (hx.trans hx2)).mono ?_
    rintro v w3 hR
    ((repeat simp only [push_cast, Nat.reduceBEq, Nat.reduceLT, Nat.reduceEqDiff, reduceIte, reduceCtorEq, Nat.reduceMul, Nat.reduceAdd, Nat.reduceSub, Int.reduceEq, Int.reduceLT, Int.reduceLE, Int.reduceNeg, Int.reduceAdd, Int.reduceSub, Int.reduceMul, Nat.reduceLeDiff, Int.reduceToNat]); (repeat (first | (with_reducible first | (refine hK _ _ ?_; clear hK K) | refine (show ∀ σ' w', _ → K σ' w' from by assumption) _ _ ?_ | refine W_seq_k fun K hK => ?_ | refine W_block_k fun K hK => ?_ | refine W_skip ?_ | refine W_ret ?_) | ((first | ((with_reducible refine W_id ?_); refine W_reg (by decide) (by rfl) ?_) | (with_reducible first | refine W_cond ?_ | refine hZ _ _ ?_ | refine W_exit ?_ | refine Wo_id ?_)); repeat1' simp only [push_cast, Nat.reduceBEq, Nat.reduceLT, Nat.reduceEqDiff, reduceIte, reduceCtorEq, Nat.reduceMul, Nat.reduceAdd, Nat.reduceSub, Int.reduceEq, Int.reduceLT, Int.reduceLE, Int.reduceNeg, Int.reduceAdd, Int.reduceSub, Int.reduceMul, Nat.reduceLeDiff, Int.reduceToNat]) | ((repeat ((fail_if_success with_reducible refine hK _ _ ?_); clear hK K)); (with_reducible refine hK _ _ ?_); clear hK K))))
    exact hR
  · subst hr
    have ar : ((k : Int).tmod 10) = 9 := ar
    ((repeat simp only [push_cast, Nat.reduceBEq, Nat.reduceLT, Nat.reduceEqDiff, reduceIte, reduceCtorEq, Nat.reduceMul, Nat.reduceAdd, Nat.reduceSub, Int.reduceEq, Int.reduceLT, Int.reduceLE, Int.reduceNeg, Int.reduceAdd, Int.reduceSub, Int.reduceMul, Nat.reduceLeDiff, Int.reduceToNat, cell_h, cellO_cells, hp, ar, n10, eq_self, not_false_eq_true]); (repeat (first | (with_reducible first | (refine hK _ _ ?_; clear hK K) | refine (show ∀ σ' w', _ → K σ' w' from by assumption) _ _ ?_ | refine W_seq_k fun K hK => ?_ | refine W_block_k fun K hK => ?_ | refine W_skip ?_ | refine W_ret ?_) | ((first | ((with_reducible refine W_id ?_); refine W_reg (by decide) (by rfl) ?_) | (with_reducible first | refine W_cond ?_ | refine hZ _ _ ?_ | refine W_exit ?_ | refine Wo_id ?_)); repeat1' simp only [push_cast, Nat.reduceBEq, Nat.reduceLT, Nat.reduceEqDiff, reduceIte, reduceCtorEq, Nat.reduceMul, Nat.reduceAdd, Nat.reduceSub, Int.reduceEq, Int.reduceLT, Int.reduceLE, Int.reduceNeg, Int.reduceAdd, Int.reduceSub, Int.reduceMul, Nat.reduceLeDiff, Int.reduceToNat, cell_h, cellO_cells, hp, ar, n10, eq_self, not_false_eq_true]) | ((repeat ((fail_if_success with_reducible refine hK _ _ ?_); clear hK K)); (with_reducible refine hK _ _ ?_); clear hK K))))
    refine (h9 rfl w1 hx).mono ?_
    rintro v w2 hR
    ((repeat simp only [push_cast, Nat.reduceBEq, Nat.reduceLT, Nat.reduceEqDiff, reduceIte, reduceCtorEq, Nat.reduceMul, Nat.reduceAdd, Nat.reduceSub, Int.reduceEq, Int.reduceLT, Int.reduceLE, Int.reduceNeg, Int.reduceAdd, Int.reduceSub, Int.reduceMul, Nat.reduceLeDiff, Int.reduceToNat]); (repeat (first | (with_reducible first | (refine hK _ _ ?_; clear hK K) | refine (show ∀ σ' w', _ → K σ' w' from by assumption) _ _ ?_ | refine W_seq_k fun K hK => ?_ | refine W_block_k fun K hK => ?_ | refine W_skip ?_ | refine W_ret ?_) | ((first | ((with_reducible refine W_id ?_); refine W_reg (by decide) (by rfl) ?_) | (with_reducible first | refine W_cond ?_ | refine hZ _ _ ?_ | refine W_exit ?_ | refine Wo_id ?_)); repeat1' simp only [push_cast, Nat.reduceBEq, Nat.reduceLT, Nat.reduceEqDiff, reduceIte, reduceCtorEq, Nat.reduceMul, Nat.reduceAdd, Nat.reduceSub, Int.reduceEq, Int.reduceLT, Int.reduceLE, Int.reduceNeg, Int.reduceAdd, Int.reduceSub, Int.reduceMul, Nat.reduceLeDiff, Int.reduceToNat]) | ((repeat ((fail_if_success with_reducible refine hK _ _ ?_); clear hK K)); (with_reducible refine hK _ _ ?_); clear hK K))))
    exact hR
section
variable {w0 w : World} {Q : Nat → Prop} {ps pa : Nat} {L : List Nd} {s : List OpS}
theorem done_n (h : StAt w0 w Q ps pa L s) (hg : MaxAt w0) (hb : L.length < 100000) (ha : ∀ n ∈ L, n.attrs.length < 1000000) (hs : s.length ≤ 512) (hz : ∀ o ∈ s, o.name ∈ nmL) {k : Nat} {i j : Int} {a b : Nat} (hk : k < 256) (ha2 : a < 256) (hb2 : b < 256) :
    Gives Tryd.prog 32 #[.pointer (some ⟨ps, 0, none⟩), .agg (actR k i j a b)] w fun v w' => v = .int .i64 (actS L s k i j a b).2 ∧ StAt w0 w' Q ps pa L (actS L s k i j a b).1 ∧ Upd (AF w0 Q) w w' := by
  have hz' : ∀ o ∈ s, o.name.size < 4294967281 := fun o ho => nm_size _ (hz o ho)
  refine done_g hk ha2 hb2 ?_ ?_ ?_ ?_ ?_ ?_ ?_ ?_
  · intro e w1 hx
    refine (spop_c (h.pass hx) (by omega)).mono ?_
    rintro v w2 ⟨rfl, g1, g2⟩
    have eA : actS L s k i j a b = (s.dropLast, topS s) := by unfold actS; rw [if_pos e]
    rw [eA]
    exact ⟨⟨_, rfl⟩, rfl, g1, Upd.trans hx.upd g2 fun _ _ h => h⟩
  · intro e w1 hx
    refine (srem_c (h.pass hx) (by omega) i).mono ?_
    rintro v w2 ⟨rfl, g1, g2⟩
    have eA : actS L s k i j a b = remS s i := by unfold actS; rw [if_neg (by omega), if_pos e]
    rw [eA]
    exact ⟨⟨_, rfl⟩, rfl, g1, Upd.trans hx.upd g2 fun _ _ h => h⟩
  · intro e w1 hx
    refine (sins_c (h.pass hx) hb ha (by omega) j i).mono ?_
    rintro v w2 ⟨rfl, g1, g2⟩
    have eA : actS L s k i j a b = insS L s j i := by unfold actS; rw [if_neg (by omega), if_neg (by omega), if_pos e]
    rw [eA]
    exact ⟨⟨_, rfl⟩, rfl, g1, Upd.trans hx.upd g2 fun _ _ h => h⟩
  · intro e w1 hx
    refine (srep_c (h.pass hx) hb ha (by omega) j i).mono ?_
    rintro v w2 ⟨rfl, g1, g2⟩
    have eA : actS L s k i j a b = replS L s j i := by unfold actS; rw [if_neg (by omega), if_neg (by omega), if_neg (by omega), if_pos e]
    rw [eA]
    exact ⟨⟨_, rfl⟩, rfl, g1, Upd.trans hx.upd g2 fun _ _ h => h⟩
  · intro e w1 xa xn xc p3 hx hp1 hp2 hn
    have h1 : StAt w0 w1 (fun b => Q b ∨ b = p3) ps pa L s := h.app hx (fun _ _ h => h.elim) fun b hb => by
      rcases hb with hb | hb
      · exact .inl hb
      · exact .inr (by omega)
    refine (suntil_c h1 (by omega) hn (show 2 < 1000000000 by decide)).mono ?_
    rintro v w2 ⟨rfl, g1, g2⟩
    have eA : actS L s k i j a b = untS s [nmT a, nmT b] := by unfold actS; rw [if_neg (by omega), if_neg (by omega), if_neg (by omega), if_neg (by omega), if_pos e]
    rw [eA]
    exact ⟨⟨_, rfl⟩, ⟨rfl, g1.less fun b hb => .inl hb, Upd.trans hx.upd g2 fun b _ hf => ⟨hf.1, fun hq => hf.2 (.inl hq)⟩⟩, g2.mono fun b _ hf e => hf.2 (.inr e)⟩
  · intro e w1 hx
    refine (simp_c (h.pass hx) (by omega) hg hz' (nmT a)).mono ?_
    rintro v w2 ⟨g1, g2⟩
    have eA : actS L s k i j a b = (dropS (butN (nmT a)) s, 0) := by unfold actS; rw [if_neg (by omega), if_neg (by omega), if_neg (by omega), if_neg (by omega), if_neg (by omega), if_pos e]
    rw [eA]
    exact ⟨rfl, g1, Upd.trans hx.upd g2 fun _ _ h => h⟩
  · intro e w1 hx
    refine (sthor_c (h.pass hx) (by omega) hg hz').mono ?_
    rintro v w2 ⟨g1, g2⟩
    have eA : actS L s k i j a b = (dropS thoN s, 0) := by unfold actS; rw [if_neg (by omega), if_neg (by omega), if_neg (by omega), if_neg (by omega), if_neg (by omega), if_neg (by omega), if_pos e]
    rw [eA]
    exact ⟨rfl, g1, Upd.trans hx.upd g2 fun _ _ h => h⟩
  · intro e w1 hx
    refine (spush_c (h.pass hx) hb ha (by omega) i).mono ?_
    rintro v w2 ⟨rfl, g1, g2⟩
    have eA : actS L s k i j a b = insS L s s.length i := by unfold actS; rw [if_neg (by omega), if_neg (by omega), if_neg (by omega), if_neg (by omega), if_neg (by omega), if_neg (by omega), if_neg (by omega)]
    rw [eA]
    exact ⟨⟨_, rfl⟩, rfl, g1, Upd.trans hx.upd g2 fun _ _ h => h⟩
end
section
variable {w : World} {S : Nat → Prop} {pr pb : Nat} {L : List Nd} {l : List Int}
theorem gSx {w1 w' : World} (hx : Ext w w1) {l' : List Int} (h : RS w' (gS S w1 w') pr pb L l') : RS w' (gS S w w') pr pb L l' := h.to fun b hb => by
  rcases hb with hb | hb
  · exact .inl hb
  · have := hx.alike.size
    exact .inr ⟨by omega, hb.2⟩
theorem said_n (h : RS w S pr pb L l) (hb : L.length < 100000) (hok : okT L l) (hl : l.length ≤ 512) (hS : ∀ b, S b → b < w.heap.size) {k : Nat} {i j : Int} {a b : Nat} (hk : k < 256) (ha2 : a < 256) (hb2 : b < 256) :
    Gives Tryd.prog 33 #[.pointer (some ⟨pr, 0, none⟩), .agg (actR k i j a b)] w fun v w' => v = .int .i64 (actQ L l k i j a b).2 ∧ RS w' (gS S w w') pr pb L (actQ L l k i j a b).1 ∧ Upd S w w' := by
  refine said_g hk ha2 hb2 ?_ ?_ ?_ ?_ ?_ ?_ ?_ ?_
  · intro e w1 hx
    refine (rpop15_c (h.ext hx) (by omega)).mono ?_
    rintro v w2 ⟨rfl, g1, g2⟩
    have eA : actQ L l k i j a b = (l.dropLast, topR l) := by unfold actQ; rw [if_pos e]
    rw [eA]
    exact ⟨⟨_, rfl⟩, rfl, gSx hx g1, Upd.trans hx.upd g2 fun _ _ h => h⟩
  · intro e w1 hx
    refine (rrem15_c (h.ext hx) (by omega) i).mono ?_
    rintro v w2 ⟨rfl, g1, g2⟩
    have eA : actQ L l k i j a b = remR l i := by unfold actQ; rw [if_neg (by omega), if_pos e]
    rw [eA]
    exact ⟨⟨_, rfl⟩, rfl, gSx hx g1, Upd.trans hx.upd g2 fun _ _ h => h⟩
  · intro e w1 hx
    refine (rins15_c (h.ext hx) (by omega) hb j i).mono ?_
    rintro v w2 ⟨rfl, g1, g2⟩
    have eA : actQ L l k i j a b = insR L l j i := by unfold actQ; rw [if_neg (by omega), if_neg (by omega), if_pos e]
    rw [eA]
    exact ⟨⟨_, rfl⟩, rfl, gSx hx g1, Upd.trans hx.upd g2 fun _ _ h => h⟩
  · intro e w1 hx
    refine (rrepl15_c (h.ext hx) (by omega) hb j i).mono ?_
    rintro v w2 ⟨rfl, g1, g2⟩
    have eA : actQ L l k i j a b = replR L l j i := by unfold actQ; rw [if_neg (by omega), if_neg (by omega), if_neg (by omega), if_pos e]
    rw [eA]
    exact ⟨⟨_, rfl⟩, rfl, gSx hx g1, Upd.trans hx.upd g2 fun _ _ h => h⟩
  · intro e w1 xa xn xc p3 hx hp1 hp2 hn
    refine (runtil15_c (h.ext hx) (by omega) (by omega) hok.r hn (show 2 < 1000000000 by decide)).mono ?_
    rintro v w2 ⟨rfl, g1, g2⟩
    have eA : actQ L l k i j a b = untR L l [nmT a, nmT b] := by unfold actQ; rw [if_neg (by omega), if_neg (by omega), if_neg (by omega), if_neg (by omega), if_pos e]
    rw [eA]
    exact ⟨⟨_, rfl⟩, ⟨rfl, gSx hx g1, Upd.trans hx.upd g2 fun _ _ h => h⟩, g2.mono fun b _ hf e => by have := hS b hf; omega⟩
  · intro e w1 hx
    refine (rimpl_false (h.ext hx) (by omega) (by omega) hok.r (nmT a)).mono ?_
    rintro v w2 ⟨g1, g2⟩
    have eA : actQ L l k i j a b = (rdropR L l (nmT a) false, 0) := by unfold actQ; rw [if_neg (by omega), if_neg (by omega), if_neg (by omega), if_neg (by omega), if_neg (by omega), if_pos e]
    rw [eA]
    exact ⟨rfl, gSx hx g1, Upd.trans hx.upd g2 fun _ _ h => h⟩
  · intro e w1 hx
    refine (rimpl_true (h.ext hx) (by omega) (by omega) hok.r ⟨#[]⟩).mono ?_
    rintro v w2 ⟨g1, g2⟩
    have eA : actQ L l k i j a b = (rdropR L l ⟨#[]⟩ true, 0) := by unfold actQ; rw [if_neg (by omega), if_neg (by omega), if_neg (by omega), if_neg (by omega), if_neg (by omega), if_neg (by omega), if_pos e]
    rw [eA]
    exact ⟨rfl, gSx hx g1, Upd.trans hx.upd g2 fun _ _ h => h⟩
  · intro e w1 hx
    refine (rpush15_c (h.ext hx) (by omega) hb i).mono ?_
    rintro v w2 ⟨rfl, g1, g2⟩
    have eA : actQ L l k i j a b = insR L l l.length i := by unfold actQ; rw [if_neg (by omega), if_neg (by omega), if_neg (by omega), if_neg (by omega), if_neg (by omega), if_neg (by omega), if_neg (by omega)]
    rw [eA]
    exact ⟨⟨_, rfl⟩, rfl, gSx hx g1, Upd.trans hx.upd g2 fun _ _ h => h⟩
end
end Go.Proofs.YtkafpameheohdaaDoor
end
section
set_option linter.unusedSimpArgs false
set_option linter.unusedVariables false
namespace Go.Vk
open Go
structure AcS where
  k : Nat
  i : Int
  j : Int
  a : Nat
  b : Nat
def AcS.cells (x : AcS) : List Value := [.int .u8 (x.k : Int), .int .i64 x.i, .int .i64 x.j, .int .u8 (x.a : Int), .int .u8 (x.b : Int)]
def AcSsAt (w : World) (v : Value) (l : List AcS) : Prop := ∃ a c, v = .slice a l.length c ∧ l.length ≤ c ∧ ∀ (k : Nat) (x : AcS), l[k]? = some x → ∃ b o, a = some ⟨b, o, none⟩ ∧ (∀ q, q < 5 → w.cell? ⟨b, o + k * 5 + q, none⟩ = x.cells[q]?) ∧ x.k < 256 ∧ x.a < 256 ∧ x.b < 256
def wd_le (w w' : World) : Prop := w.heap.size ≤ w'.heap.size
end Go.Vk
namespace Go.Proofs.YtkafpameheohdaaDoor
open Go Go.Vk
set_option maxHeartbeats 40000000
theorem stackPlay_c {w : World} (hg : GL w) {v1 v2 va : Value} {l1 l2 : List Nat} {acts : List AcS} (h1 : RdAt w 1 v1 (u8Cells l1)) (h2 : RdAt w 1 v2 (u8Cells l2)) (b1 : ∀ c ∈ l1, c < 256) (b2 : ∀ c ∈ l2, c < 256) (ha : AcSsAt w va acts) :
    Gives Tryd.prog 6 #[.agg #[v1, v2], va] w fun v w' => v = .bool true ∧ Ext w w' := by
  obtain ⟨a1, c1, rfl, hc1, hcell1⟩ := u8_len h1
  obtain ⟨a2, c2, rfl, hc2, hcell2⟩ := u8_len h2
  obtain ⟨aa, ac, rfl, hac, hacell⟩ := ha
  refine Gives.of_W Tryd.call6 Tryd.func6 rfl Tryd.ntmps6 (by simp) ?_; intro Z hZ
  (repeat (first | (with_reducible first | (refine hK _ _ ?_; clear hK K) | refine (show ∀ σ' w', _ → K σ' w' from by assumption) _ _ ?_ | refine W_seq_k fun K hK => ?_ | refine W_block_k fun K hK => ?_ | refine W_skip ?_ | refine W_ret ?_) | ((first | ((with_reducible refine W_id ?_); refine W_reg (by decide) (by rfl) ?_) | (with_reducible first | refine W_cond ?_ | refine hZ _ _ ?_ | refine W_exit ?_ | refine Wo_id ?_)); repeat1' simp only [push_cast, Nat.reduceBEq, Nat.reduceLT, Nat.reduceEqDiff, reduceIte, reduceCtorEq, Nat.reduceMul, Nat.reduceAdd, Nat.reduceSub, Int.reduceEq, Int.reduceLT, Int.reduceLE, Int.reduceNeg, Int.reduceAdd, Int.reduceSub, Int.reduceMul, Nat.reduceLeDiff, Int.reduceToNat, vcells_agg]) | ((repeat ((fail_if_success with_reducible refine hK _ _ ?_); clear hK K)); (with_reducible refine hK _ _ ?_); clear hK K)))
  have hx1 := Ext.alloc w (.cells #[.slice a1 l1.length c1, .slice a2 l2.length c2] 24)
  have z1 : (w.alloc (.cells #[.slice a1 l1.length c1, .slice a2 l2.length c2] 24)).heap[w.heap.size]? = some (.cells #[.slice a1 l1.length c1, .slice a2 l2.length c2] 24 (0, 0)) := by rw [heap_alloc_h, if_pos rfl]
  generalize w.alloc (.cells #[.slice a1 l1.length c1, .slice a2 l2.length c2] 24) = w1 at *
  obtain ⟨p1, hp1⟩ : ∃ p1, p1 = w.heap.size := ⟨_, rfl⟩
  rw [← hp1] at z1 ⊢
  ((repeat simp only [push_cast, Nat.reduceBEq, Nat.reduceLT, Nat.reduceEqDiff, reduceIte, reduceCtorEq, Nat.reduceMul, Nat.reduceAdd, Nat.reduceSub, Int.reduceEq, Int.reduceLT, Int.reduceLE, Int.reduceNeg, Int.reduceAdd, Int.reduceSub, Int.reduceMul, Nat.reduceLeDiff, Int.reduceToNat, cell_h, cellO_cells, z1]); (repeat (first | (with_reducible first | (refine hK _ _ ?_; clear hK K) | refine (show ∀ σ' w', _ → K σ' w' from by assumption) _ _ ?_ | refine W_seq_k fun K hK => ?_ | refine W_block_k fun K hK => ?_ | refine W_skip ?_ | refine W_ret ?_) | ((first | ((with_reducible refine W_id ?_); refine W_reg (by decide) (by rfl) ?_) | (with_reducible first | refine W_cond ?_ | refine hZ _ _ ?_ | refine W_exit ?_ | refine Wo_id ?_)); repeat1' simp only [push_cast, Nat.reduceBEq, Nat.reduceLT, Nat.reduceEqDiff, reduceIte, reduceCtorEq, Nat.reduceMul, Nat.reduceAdd, Nat.reduceSub, Int.reduceEq, Int.reduceLT, Int.reduceLE, Int.reduceNeg, Int.reduceAdd, Int.reduceSub, Int.reduceMul, Nat.reduceLeDiff, Int.reduceToNat, cell_h, cellO_cells, z1]) | ((repeat ((fail_if_success with_reducible refine hK _ _ ?_); clear hK K)); (with_reducible refine hK _ _ ?_); clear hK K))))
  refine (great_c (h1.ext hx1) (h2.ext hx1)).mono ?_
  rintro v w2 ⟨rfl, hx2⟩
  by_cases hgr : 60 < l1.length ∨ 60 < l2.length
  · rw [decide_eq_true hgr]
    ((repeat simp only [push_cast, Nat.reduceBEq, Nat.reduceLT, Nat.reduceEqDiff, reduceIte, reduceCtorEq, Nat.reduceMul, Nat.reduceAdd, Nat.reduceSub, Int.reduceEq, Int.reduceLT, Int.reduceLE, Int.reduceNeg, Int.reduceAdd, Int.reduceSub, Int.reduceMul, Nat.reduceLeDiff, Int.reduceToNat]); (repeat (first | (with_reducible first | (refine hK _ _ ?_; clear hK K) | refine (show ∀ σ' w', _ → K σ' w' from by assumption) _ _ ?_ | refine W_seq_k fun K hK => ?_ | refine W_block_k fun K hK => ?_ | refine W_skip ?_ | refine W_ret ?_) | ((first | ((with_reducible refine W_id ?_); refine W_reg (by decide) (by rfl) ?_) | (with_reducible first | refine W_cond ?_ | refine hZ _ _ ?_ | refine W_exit ?_ | refine Wo_id ?_)); repeat1' simp only [push_cast, Nat.reduceBEq, Nat.reduceLT, Nat.reduceEqDiff, reduceIte, reduceCtorEq, Nat.reduceMul, Nat.reduceAdd, Nat.reduceSub, Int.reduceEq, Int.reduceLT, Int.reduceLE, Int.reduceNeg, Int.reduceAdd, Int.reduceSub, Int.reduceMul, Nat.reduceLeDiff, Int.reduceToNat]) | ((repeat ((fail_if_success with_reducible refine hK _ _ ?_); clear hK K)); (with_reducible refine hK _ _ ?_); clear hK K))))
    refine (pile_c (hg.ext (hx1.trans hx2))).mono ?_
    rintro v w3 ⟨rfl, hx3⟩
    ((repeat simp only [push_cast, Nat.reduceBEq, Nat.reduceLT, Nat.reduceEqDiff, reduceIte, reduceCtorEq, Nat.reduceMul, Nat.reduceAdd, Nat.reduceSub, Int.reduceEq, Int.reduceLT, Int.reduceLE, Int.reduceNeg, Int.reduceAdd, Int.reduceSub, Int.reduceMul, Nat.reduceLeDiff, Int.reduceToNat]); (repeat (first | (with_reducible first | (refine hK _ _ ?_; clear hK K) | refine (show ∀ σ' w', _ → K σ' w' from by assumption) _ _ ?_ | refine W_seq_k fun K hK => ?_ | refine W_block_k fun K hK => ?_ | refine W_skip ?_ | refine W_ret ?_) | ((first | ((with_reducible refine W_id ?_); refine W_reg (by decide) (by rfl) ?_) | (with_reducible first | refine W_cond ?_ | refine hZ _ _ ?_ | refine W_exit ?_ | refine Wo_id ?_)); repeat1' simp only [push_cast, Nat.reduceBEq, Nat.reduceLT, Nat.reduceEqDiff, reduceIte, reduceCtorEq, Nat.reduceMul, Nat.reduceAdd, Nat.reduceSub, Int.reduceEq, Int.reduceLT, Int.reduceLE, Int.reduceNeg, Int.reduceAdd, Int.reduceSub, Int.reduceMul, Nat.reduceLeDiff, Int.reduceToNat]) | ((repeat ((fail_if_success with_reducible refine hK _ _ ?_); clear hK K)); (with_reducible refine hK _ _ ?_); clear hK K))))
    exact (hx1.trans hx2).trans hx3
  rw [decide_eq_false hgr]
  have z2 := hx2.blk z1
  have hx02 := hx1.trans hx2
  by_cases g3 : 200 < acts.length
  · have d3 : (200 : Int) < (acts.length : Int) := by omega
    ((repeat simp only [push_cast, Nat.reduceBEq, Nat.reduceLT, Nat.reduceEqDiff, reduceIte, reduceCtorEq, Nat.reduceMul, Nat.reduceAdd, Nat.reduceSub, Int.reduceEq, Int.reduceLT, Int.reduceLE, Int.reduceNeg, Int.reduceAdd, Int.reduceSub, Int.reduceMul, Nat.reduceLeDiff, Int.reduceToNat, d3, decide_true]); (repeat (first | (with_reducible first | (refine hK _ _ ?_; clear hK K) | refine (show ∀ σ' w', _ → K σ' w' from by assumption) _ _ ?_ | refine W_seq_k fun K hK => ?_ | refine W_block_k fun K hK => ?_ | refine W_skip ?_ | refine W_ret ?_) | ((first | ((with_reducible refine W_id ?_); refine W_reg (by decide) (by rfl) ?_) | (with_reducible first | refine W_cond ?_ | refine hZ _ _ ?_ | refine W_exit ?_ | refine Wo_id ?_)); repeat1' simp only [push_cast, Nat.reduceBEq, Nat.reduceLT, Nat.reduceEqDiff, reduceIte, reduceCtorEq, Nat.reduceMul, Nat.reduceAdd, Nat.reduceSub, Int.reduceEq, Int.reduceLT, Int.reduceLE, Int.reduceNeg, Int.reduceAdd, Int.reduceSub, Int.reduceMul, Nat.reduceLeDiff, Int.reduceToNat, d3, decide_true]) | ((repeat ((fail_if_success with_reducible refine hK _ _ ?_); clear hK K)); (with_reducible refine hK _ _ ?_); clear hK K))))
    refine (pile_c (hg.ext hx02)).mono ?_
    rintro v w3 ⟨rfl, hx3⟩
    ((repeat simp only [push_cast, Nat.reduceBEq, Nat.reduceLT, Nat.reduceEqDiff, reduceIte, reduceCtorEq, Nat.reduceMul, Nat.reduceAdd, Nat.reduceSub, Int.reduceEq, Int.reduceLT, Int.reduceLE, Int.reduceNeg, Int.reduceAdd, Int.reduceSub, Int.reduceMul, Nat.reduceLeDiff, Int.reduceToNat]); (repeat (first | (with_reducible first | (refine hK _ _ ?_; clear hK K) | refine (show ∀ σ' w', _ → K σ' w' from by assumption) _ _ ?_ | refine W_seq_k fun K hK => ?_ | refine W_block_k fun K hK => ?_ | refine W_skip ?_ | refine W_ret ?_) | ((first | ((with_reducible refine W_id ?_); refine W_reg (by decide) (by rfl) ?_) | (with_reducible first | refine W_cond ?_ | refine hZ _ _ ?_ | refine W_exit ?_ | refine Wo_id ?_)); repeat1' simp only [push_cast, Nat.reduceBEq, Nat.reduceLT, Nat.reduceEqDiff, reduceIte, reduceCtorEq, Nat.reduceMul, Nat.reduceAdd, Nat.reduceSub, Int.reduceEq, Int.reduceLT, Int.reduceLE, Int.reduceNeg, Int.reduceAdd, Int.reduceSub, Int.reduceMul, Nat.reduceLeDiff, Int.reduceToNat]) | ((repeat ((fail_if_success with_reducible refine hK _ _ ?_); clear hK K)); (with_reducible refine hK _ _ ?_); clear hK K))))
    exact hx02.trans hx3
  have d3 : ¬ (200 : Int) < (acts.length : Int) := by omega
  ((repeat simp only [push_cast, Nat.reduceBEq, Nat.reduceLT, Nat.reduceEqDiff, reduceIte, reduceCtorEq, Nat.reduceMul, Nat.reduceAdd, Nat.reduceSub, Int.reduceEq, Int.reduceLT, Int.reduceLE, Int.reduceNeg, Int.reduceAdd, Int.reduceSub, Int.reduceMul, Nat.reduceLeDiff, Int.reduceToNat, d3, decide_false, cell_h, cellO_cells, z2]); (repeat (first | (with_reducible first | (refine hK _ _ ?_; clear hK K) | refine (show ∀ σ' w', _ → K σ' w' from by assumption) _ _ ?_ | refine W_seq_k fun K hK => ?_ | refine W_block_k fun K hK => ?_ | refine W_skip ?_ | refine W_ret ?_) | ((first | ((with_reducible refine W_id ?_); refine W_reg (by decide) (by rfl) ?_) | (with_reducible first | refine W_cond ?_ | refine hZ _ _ ?_ | refine W_exit ?_ | refine Wo_id ?_)); repeat1' simp only [push_cast, Nat.reduceBEq, Nat.reduceLT, Nat.reduceEqDiff, reduceIte, reduceCtorEq, Nat.reduceMul, Nat.reduceAdd, Nat.reduceSub, Int.reduceEq, Int.reduceLT, Int.reduceLE, Int.reduceNeg, Int.reduceAdd, Int.reduceSub, Int.reduceMul, Nat.reduceLeDiff, Int.reduceToNat, d3, decide_false, cell_h, cellO_cells, z2]) | ((repeat ((fail_if_success with_reducible refine hK _ _ ?_); clear hK K)); (with_reducible refine hK _ _ ?_); clear hK K))))
  refine (made15_c (h1.ext hx02) (h2.ext hx02) (by omega) b1 b2 (by omega)).mono ?_
  rintro v w3 ⟨pa, pb, rfl, F, hA, hB, hF, _⟩
  have hkl := kitL_len l1 l2
  have hge := kitL_ge l1 l2
  have hok := kitL_ok l1 l2
  have hokL := kitL_okL l1 l2
  have hA3 := hA.base (P' := F) hx02 fun b hb => .inl (.inl hb)
  have hlowF : ∀ b, F b → b < w3.heap.size := fun b hb => hA3.low b hb
  clear hA
  generalize kitL l1 l2 = L at *
  have hEA : ∀ n ∈ L, n.attrs.length < 1000000 := fun n hn => (hok n hn).2
  have hEL : L.length < 100000 := by omega
  ((repeat simp only [push_cast, Nat.reduceBEq, Nat.reduceLT, Nat.reduceEqDiff, reduceIte, reduceCtorEq, Nat.reduceMul, Nat.reduceAdd, Nat.reduceSub, Int.reduceEq, Int.reduceLT, Int.reduceLE, Int.reduceNeg, Int.reduceAdd, Int.reduceSub, Int.reduceMul, Nat.reduceLeDiff, Int.reduceToNat, ext0, ext1]); (repeat (first | (with_reducible first | (refine hK _ _ ?_; clear hK K) | refine (show ∀ σ' w', _ → K σ' w' from by assumption) _ _ ?_ | refine W_seq_k fun K hK => ?_ | refine W_block_k fun K hK => ?_ | refine W_skip ?_ | refine W_ret ?_) | ((first | ((with_reducible refine W_id ?_); refine W_reg (by decide) (by rfl) ?_) | (with_reducible first | refine W_cond ?_ | refine hZ _ _ ?_ | refine W_exit ?_ | refine Wo_id ?_)); repeat1' simp only [push_cast, Nat.reduceBEq, Nat.reduceLT, Nat.reduceEqDiff, reduceIte, reduceCtorEq, Nat.reduceMul, Nat.reduceAdd, Nat.reduceSub, Int.reduceEq, Int.reduceLT, Int.reduceLE, Int.reduceNeg, Int.reduceAdd, Int.reduceSub, Int.reduceMul, Nat.reduceLeDiff, Int.reduceToNat, ext0, ext1]) | ((repeat ((fail_if_success with_reducible refine hK _ _ ?_); clear hK K)); (with_reducible refine hK _ _ ?_); clear hK K))))
  refine (snew_c hA3 (fun e => by rw [e] at hge; exact absurd hge (by decide))).mono ?_
  rintro v w4 ⟨ps, rfl, hS4, hx4⟩
  ((repeat simp only [push_cast, Nat.reduceBEq, Nat.reduceLT, Nat.reduceEqDiff, reduceIte, reduceCtorEq, Nat.reduceMul, Nat.reduceAdd, Nat.reduceSub, Int.reduceEq, Int.reduceLT, Int.reduceLE, Int.reduceNeg, Int.reduceAdd, Int.reduceSub, Int.reduceMul, Nat.reduceLeDiff, Int.reduceToNat]); (repeat (first | (with_reducible first | (refine hK _ _ ?_; clear hK K) | refine (show ∀ σ' w', _ → K σ' w' from by assumption) _ _ ?_ | refine W_seq_k fun K hK => ?_ | refine W_block_k fun K hK => ?_ | refine W_skip ?_ | refine W_ret ?_) | ((first | ((with_reducible refine W_id ?_); refine W_reg (by decide) (by rfl) ?_) | (with_reducible first | refine W_cond ?_ | refine hZ _ _ ?_ | refine W_exit ?_ | refine Wo_id ?_)); repeat1' simp only [push_cast, Nat.reduceBEq, Nat.reduceLT, Nat.reduceEqDiff, reduceIte, reduceCtorEq, Nat.reduceMul, Nat.reduceAdd, Nat.reduceSub, Int.reduceEq, Int.reduceLT, Int.reduceLE, Int.reduceNeg, Int.reduceAdd, Int.reduceSub, Int.reduceMul, Nat.reduceLeDiff, Int.reduceToNat]) | ((repeat ((fail_if_success with_reducible refine hK _ _ ?_); clear hK K)); (with_reducible refine hK _ _ ?_); clear hK K))))
  refine (rnew15_c (hB.ext hx4)).mono ?_
  rintro v w5 ⟨pr, rfl, hR5, hx5⟩
  have hz4 := hx4.alike.size
  have hz5 := hx5.alike.size
  have hz3 := hA3.ext.alike.size
  have hz02 := hx02.alike.size
  have hS5 : StAt w w5 (gS F w4 w5) ps pa L [] := hS4.app hx5 (fun _ _ h => h.elim) fun b hb => hb
  have hgF : ∀ b, gS F w4 w5 b → w.heap.size ≤ b ∧ b < w5.heap.size := fun b hb => by
    rcases hb with hb | hb
    · have := hF b hb
      have := hlowF b hb
      omega
    · omega
  generalize gS F w4 w5 = S0 at *
  ((repeat simp only [push_cast, Nat.reduceBEq, Nat.reduceLT, Nat.reduceEqDiff, reduceIte, reduceCtorEq, Nat.reduceMul, Nat.reduceAdd, Nat.reduceSub, Int.reduceEq, Int.reduceLT, Int.reduceLE, Int.reduceNeg, Int.reduceAdd, Int.reduceSub, Int.reduceMul, Nat.reduceLeDiff, Int.reduceToNat]); (repeat (first | (with_reducible first | (refine hK _ _ ?_; clear hK K) | refine (show ∀ σ' w', _ → K σ' w' from by assumption) _ _ ?_ | refine W_seq_k fun K hK => ?_ | refine W_block_k fun K hK => ?_ | refine W_skip ?_ | refine W_ret ?_) | ((first | ((with_reducible refine W_id ?_); refine W_reg (by decide) (by rfl) ?_) | (with_reducible first | refine W_cond ?_ | refine hZ _ _ ?_ | refine W_exit ?_ | refine Wo_id ?_)); repeat1' simp only [push_cast, Nat.reduceBEq, Nat.reduceLT, Nat.reduceEqDiff, reduceIte, reduceCtorEq, Nat.reduceMul, Nat.reduceAdd, Nat.reduceSub, Int.reduceEq, Int.reduceLT, Int.reduceLE, Int.reduceNeg, Int.reduceAdd, Int.reduceSub, Int.reduceMul, Nat.reduceLeDiff, Int.reduceToNat]) | ((repeat ((fail_if_success with_reducible refine hK _ _ ?_); clear hK K)); (with_reducible refine hK _ _ ?_); clear hK K))))
  refine W_loop (S := Nat) (fun k => [(1, .slice aa acts.length ac), (7, .pointer (some ⟨ps, 0, none⟩)), (8, .pointer (some ⟨pr, 0, none⟩)), (9, .int .i64 (k : Int))])
    (fun k w6 => k ≤ acts.length ∧ ∃ S l, StAt w w6 S ps pa L (l.map (opN L)) ∧ RS w6 S pr pb L l ∧ okT L l ∧ l.length ≤ 512 ∧ ∀ b, S b → w.heap.size ≤ b ∧ b < w6.heap.size) (fun k => acts.length - k) 0 ?_ ?_ ?_
  · (repeat simp only [push_cast, Nat.reduceBEq, Nat.reduceLT, Nat.reduceEqDiff, reduceIte, reduceCtorEq, Nat.reduceMul, Nat.reduceAdd, Nat.reduceSub, Int.reduceEq, Int.reduceLT, Int.reduceLE, Int.reduceNeg, Int.reduceAdd, Int.reduceSub, Int.reduceMul, Nat.reduceLeDiff, Int.reduceToNat])
  · exact ⟨by omega, S0, [], hS5, hR5, fun y hy => (by cases hy), by simp, hgF⟩
  clear hS5 hR5 hgF hS4 hA3 hB
  rintro k w6 ⟨hk1, S, l, hS6, hR6, hokT, hl5, hSb⟩
  by_cases hkk : k < acts.length
  · obtain ⟨x, hx⟩ : ∃ x, acts[k]? = some x := ⟨_, List.getElem?_eq_getElem hkk⟩
    obtain ⟨b, o, e, hcl, hxk, hxa, hxb⟩ := hacell k x hx
    have q0 : w.cell? ⟨b, o + k * 5, none⟩ = some (.int .u8 (x.k : Int)) := hcl 0 (by decide)
    have q1 : w.cell? ⟨b, o + k * 5 + 1, none⟩ = some (.int .i64 x.i) := hcl 1 (by decide)
    have q2 : w.cell? ⟨b, o + k * 5 + 2, none⟩ = some (.int .i64 x.j) := hcl 2 (by decide)
    have q3 : w.cell? ⟨b, o + k * 5 + 3, none⟩ = some (.int .u8 (x.a : Int)) := hcl 3 (by decide)
    have q4 : w.cell? ⟨b, o + k * 5 + 4, none⟩ = some (.int .u8 (x.b : Int)) := hcl 4 (by decide)
    subst e
    have q0 := cell_ext hS6.out q0
    have q1 := cell_ext hS6.out q1
    have q2 := cell_ext hS6.out q2
    have q3 := cell_ext hS6.out q3
    have q4 := cell_ext hS6.out q4
    rw [cell_h] at q0 q1 q2 q3 q4
    have e0 : (k : Int) < (acts.length : Int) := by omega
    have e1 : (0 : Int) ≤ (k : Int) := by omega
    have e2 : inI64 ((k : Int) + 1) := by unfold inI64; omega
    (repeat (first | (with_reducible first | (refine hK _ _ ?_; clear hK K) | refine (show ∀ σ' w', _ → K σ' w' from by assumption) _ _ ?_ | refine W_seq_k fun K hK => ?_ | refine W_block_k fun K hK => ?_ | refine W_skip ?_ | refine W_ret ?_) | ((first | ((with_reducible refine W_id ?_); refine W_reg (by decide) (by rfl) ?_) | (with_reducible first | refine W_cond ?_ | refine hZ _ _ ?_ | refine W_exit ?_ | refine Wo_id ?_)); repeat1' simp only [push_cast, Nat.reduceBEq, Nat.reduceLT, Nat.reduceEqDiff, reduceIte, reduceCtorEq, Nat.reduceMul, Nat.reduceAdd, Nat.reduceSub, Int.reduceEq, Int.reduceLT, Int.reduceLE, Int.reduceNeg, Int.reduceAdd, Int.reduceSub, Int.reduceMul, Nat.reduceLeDiff, Int.reduceToNat, e0, e1, cell_h, cellO_cells, q0, q1, q2, q3, q4, RunV_zero Tryd.zeroValue61, vcells_agg]) | ((repeat ((fail_if_success with_reducible refine hK _ _ ?_); clear hK K)); (with_reducible refine hK _ _ ?_); clear hK K)))
    simp only [can_h, heap_alloc_h, if_true, canO_cells, List.size_toArray, List.length_cons, List.length_nil, Nat.zero_add, Nat.reduceAdd, Nat.reduceLT, true_and]
    obtain ⟨hx7, hp7⟩ := newL w6 #[.int .u8 0, .int .i64 0, .int .i64 0, .int .u8 0, .int .u8 0] [.int .u8 (x.k : Int), .int .i64 x.i, .int .i64 x.j, .int .u8 (x.a : Int), .int .u8 (x.b : Int)] 61 rfl
    generalize setCells (w6.alloc (.cells #[.int .u8 0, .int .i64 0, .int .i64 0, .int .u8 0, .int .u8 0] 61)) ⟨w6.heap.size, 0, none⟩ [.int .u8 (x.k : Int), .int .i64 x.i, .int .i64 x.j, .int .u8 (x.a : Int), .int .u8 (x.b : Int)] 0 = w7 at *
    obtain ⟨px, hpx⟩ : ∃ p, p = w6.heap.size := ⟨_, rfl⟩
    rw [← hpx] at hp7 ⊢
    have hz6 := hS6.out.alike.size
    have hpl7 := blk_lt hp7
    have hS7 : StAt w w7 (fun b => S b ∨ b = px) ps pa L (l.map (opN L)) := hS6.app hx7 (fun _ _ h => h.elim) fun b hb => by
      rcases hb with hb | rfl
      · exact .inl hb
      · exact .inr ⟨by omega, hpl7⟩
    have hR7 := hR6.ext hx7
    have hnS : ¬ S px := fun h => by have := (hSb px h).2; omega
    have hxd := Ext.drew w7
    have hpd := hxd.blk hp7
    have hSd := hS7.pass hxd
    have hRd := hR7.ext hxd
    have hzd := hxd.alike.size
    have hnm : ∀ o ∈ l.map (opN L), o.name ∈ nmL := fun o ho => by
      obtain ⟨y, hy, rfl⟩ := List.mem_map.1 ho
      obtain ⟨q, _, _, h, _⟩ := hokT y hy
      exact h
    have hdone := done_n hSd hg.max hEL hEA (by rw [List.length_map]; exact hl5) hnm (i := x.i) (j := x.j) hxk hxa hxb
    rw [act_map hokT] at hdone
    unfold actR at hdone
    have hz67 := hx7.alike.size
    have hsaid : ∀ w8, RS w8 S pr pb L l → wd_le w7 w8 → Gives Tryd.prog 33 #[.pointer (some ⟨pr, 0, none⟩), .agg #[.int .u8 (x.k : Int), .int .i64 x.i, .int .i64 x.j, .int .u8 (x.a : Int), .int .u8 (x.b : Int)]] w8 fun v w' => v = .int .i64 (actQ L l x.k x.i x.j x.a x.b).2 ∧ RS w' (gS S w8 w') pr pb L (actQ L l x.k x.i x.j x.a x.b).1 ∧ Upd S w8 w' := fun w8 h hle =>
      said_n h hEL hokT hl5 (fun b hb => by have := hSb b hb; unfold wd_le at hle; omega) hxk hxa hxb
    obtain ⟨hok8, hl8⟩ := actQ_ok hokL hokT hl5 x.k x.i x.j x.a x.b
    generalize actQ L l x.k x.i x.j x.a x.b = r8 at *
    obtain ⟨l8, code⟩ := r8
    dsimp only at hdone hsaid hok8 hl8
    have hK := hK_cut hK [(1, .slice (some ⟨b, o, none⟩) acts.length ac), (7, .pointer (some ⟨ps, 0, none⟩)), (8, .pointer (some ⟨pr, 0, none⟩)), (9, .int .i64 (k : Int)), (10, .pointer (some ⟨px, 0, none⟩))]
      (fun w9 => ∃ S l, StAt w w9 S ps pa L (l.map (opN L)) ∧ RS w9 S pr pb L l ∧ okT L l ∧ l.length ≤ 512 ∧ (∀ b, S b → w.heap.size ≤ b ∧ b < w9.heap.size) ∧ w9.heap[px]? = some (.cells #[.int .u8 (x.k : Int), .int .i64 x.i, .int .i64 x.j, .int .u8 (x.a : Int), .int .u8 (x.b : Int)] 61 (0, 0))) ?rest
    case rest =>
      clear hdone hsaid hok8 hl8 hS6 hR6 hS7 hR7 hSd hRd hSb hnS hpd hp7 hnm hokT hl5 hxd hzd hpl7 l8 code
      clear hx7 hz67 hz6 hpx
      rintro w9 ⟨S9, l8, hS9, hR9, hok8, hl8, hSb9, hpd9⟩
      obtain ⟨lv, bo, Fr, m1, m2, m3, m4, m5⟩ := id hR9
      obtain ⟨ra, rc, e, _, hrcell⟩ := ints_len2 m1.sl
      subst e
      have hhr := m1.head
      have hl8' : l8.length < 10000 := by omega
      have hlm : (l8.map (opN L)).length < 10000 := by rw [List.length_map]; omega
      have hnm : ∀ o ∈ l8.map (opN L), o.name ∈ nmL := fun o ho => by
        obtain ⟨y, hy, rfl⟩ := List.mem_map.1 ho
        obtain ⟨q, _, _, h, _⟩ := hok8 y hy
        exact h
      have hnz : ∀ o ∈ l8.map (opN L), o.name.size < 4294967281 := fun o ho => nm_size _ (hnm o ho)
      have hxd := Ext.drew w9
      have hpdd := hxd.blk hpd9
      have hlpx := blk_lt hpdd
      (repeat (first | (with_reducible first | (refine hK _ _ ?_; clear hK K) | refine (show ∀ σ' w', _ → K σ' w' from by assumption) _ _ ?_ | refine W_seq_k fun K hK => ?_ | refine W_block_k fun K hK => ?_ | refine W_skip ?_ | refine W_ret ?_) | ((first | ((with_reducible refine W_id ?_); refine W_reg (by decide) (by rfl) ?_) | (with_reducible first | refine W_cond ?_ | refine hZ _ _ ?_ | refine W_exit ?_ | refine Wo_id ?_)); repeat1' simp only [push_cast, Nat.reduceBEq, Nat.reduceLT, Nat.reduceEqDiff, reduceIte, reduceCtorEq, Nat.reduceMul, Nat.reduceAdd, Nat.reduceSub, Int.reduceEq, Int.reduceLT, Int.reduceLE, Int.reduceNeg, Int.reduceAdd, Int.reduceSub, Int.reduceMul, Nat.reduceLeDiff, Int.reduceToNat]) | ((repeat ((fail_if_success with_reducible refine hK _ _ ?_); clear hK K)); (with_reducible refine hK _ _ ?_); clear hK K)))
      refine W_draw (.pas 0 (.pas 1 (.pas 2 (.pas 4 (.pas 5 (.pas 6 (.act 3 (.act 7 (.act 8 (.pas 9 .fin)))))))))) (fun q => q = px) (by decide) mixed (by kernel_rfl) ?_
      generalize w9.drew = wd at *
      (repeat (first | ((first | refine pas_plain rfl ?_ | refine pas_g rfl rfl ?_ | refine act_plain rfl ?_ | refine act_g rfl rfl ?_ | refine last_plain rfl ?_ | refine tail_plain rfl ?_ | refine tail_g rfl rfl ?_); (repeat simp only [push_cast, Nat.reduceBEq, Nat.reduceLT, Nat.reduceEqDiff, reduceIte, reduceCtorEq, Nat.reduceMul, Nat.reduceAdd, Nat.reduceSub, Int.reduceEq, Int.reduceLT, Int.reduceLE, Int.reduceNeg, Int.reduceAdd, Int.reduceSub, Int.reduceMul, Nat.reduceLeDiff, Int.reduceToNat, cell_h, can_h, cellO_cells, canO_cells, setO_cells, heap_set_h, heap_alloc_h, size_set_h, size_alloc_h, vcells_agg, succ_ne, ne_succ, List.setIfInBounds_toArray, List.set_cons_succ, List.set_cons_zero, setCells, drew_h, true_or, or_true, hpdd, eq_self])) | (refine tail_fin ?_) | (refine sch_fin ?_)))
      refine (name_c x.a hxa).mono ?_
      rintro v w10 ⟨rfl, hx10⟩
      refine ⟨kept_upd hx10 fun q hq => ⟨by have : q = px := hq; omega, id⟩, ?_⟩
      (repeat (first | ((first | refine pas_plain rfl ?_ | refine pas_g rfl rfl ?_ | refine act_plain rfl ?_ | refine act_g rfl rfl ?_ | refine last_plain rfl ?_ | refine tail_plain rfl ?_ | refine tail_g rfl rfl ?_); (repeat simp only [push_cast, Nat.reduceBEq, Nat.reduceLT, Nat.reduceEqDiff, reduceIte, reduceCtorEq, Nat.reduceMul, Nat.reduceAdd, Nat.reduceSub, Int.reduceEq, Int.reduceLT, Int.reduceLE, Int.reduceNeg, Int.reduceAdd, Int.reduceSub, Int.reduceMul, Nat.reduceLeDiff, Int.reduceToNat, cell_h, can_h, cellO_cells, canO_cells, setO_cells, heap_set_h, heap_alloc_h, size_set_h, size_alloc_h, vcells_agg, succ_ne, ne_succ, List.setIfInBounds_toArray, List.set_cons_succ, List.set_cons_zero, setCells, drew_h, true_or, or_true, hpdd, eq_self])) | (refine tail_fin ?_) | (refine sch_fin ?_)))
      refine (name_c x.b hxb).mono ?_
      rintro v w11 ⟨rfl, hx11⟩
      have hz10 := hx10.alike.size
      refine ⟨kept_upd hx11 fun q hq => ⟨by have : q = px := hq; omega, id⟩, ?_⟩
      (repeat (first | ((first | refine pas_plain rfl ?_ | refine pas_g rfl rfl ?_ | refine act_plain rfl ?_ | refine act_g rfl rfl ?_ | refine last_plain rfl ?_ | refine tail_plain rfl ?_ | refine tail_g rfl rfl ?_); (repeat simp only [push_cast, Nat.reduceBEq, Nat.reduceLT, Nat.reduceEqDiff, reduceIte, reduceCtorEq, Nat.reduceMul, Nat.reduceAdd, Nat.reduceSub, Int.reduceEq, Int.reduceLT, Int.reduceLE, Int.reduceNeg, Int.reduceAdd, Int.reduceSub, Int.reduceMul, Nat.reduceLeDiff, Int.reduceToNat, cell_h, can_h, cellO_cells, canO_cells, setO_cells, heap_set_h, heap_alloc_h, size_set_h, size_alloc_h, vcells_agg, succ_ne, ne_succ, List.setIfInBounds_toArray, List.set_cons_succ, List.set_cons_zero, setCells, drew_h, true_or, or_true, hpdd, eq_self])) | (refine tail_fin ?_) | (refine sch_fin ?_)))
      refine bs_of styS (n := 2) (by decide) (by decide) Tryd.zeroValue9 (fill2 _ _) ?_
      have n2 := names2 w11 (nmT x.a) (nmT x.b)
      have hx12 := Ext.alloc w11 (.cells #[.string (nmT x.a), .string (nmT x.b)] 9)
      have hz11 := hx11.alike.size
      refine ⟨kept_upd hx12 fun q hq => ⟨by have : q = px := hq; omega, id⟩, ?_⟩
      generalize w11.alloc (.cells #[.string (nmT x.a), .string (nmT x.b)] 9) = w12 at *
      obtain ⟨pn, hpn⟩ : ∃ p, p = w11.heap.size := ⟨_, rfl⟩
      rw [← hpn] at n2 ⊢
      have hx912 := hxd.trans (hx10.trans (hx11.trans hx12))
      (repeat (first | ((first | refine pas_plain rfl ?_ | refine pas_g rfl rfl ?_ | refine act_plain rfl ?_ | refine act_g rfl rfl ?_ | refine last_plain rfl ?_ | refine tail_plain rfl ?_ | refine tail_g rfl rfl ?_); (repeat simp only [push_cast, Nat.reduceBEq, Nat.reduceLT, Nat.reduceEqDiff, reduceIte, reduceCtorEq, Nat.reduceMul, Nat.reduceAdd, Nat.reduceSub, Int.reduceEq, Int.reduceLT, Int.reduceLE, Int.reduceNeg, Int.reduceAdd, Int.reduceSub, Int.reduceMul, Nat.reduceLeDiff, Int.reduceToNat, cell_h, can_h, cellO_cells, canO_cells, setO_cells, heap_set_h, heap_alloc_h, size_set_h, size_alloc_h, vcells_agg, succ_ne, ne_succ, List.setIfInBounds_toArray, List.set_cons_succ, List.set_cons_zero, setCells, drew_h, true_or, or_true, eq_self])) | (refine tail_fin ?_) | (refine sch_fin ?_)))
      (repeat (first | (with_reducible first | (refine hK _ _ ?_; clear hK K) | refine (show ∀ σ' w', _ → K σ' w' from by assumption) _ _ ?_ | refine W_seq_k fun K hK => ?_ | refine W_block_k fun K hK => ?_ | refine W_skip ?_ | refine W_ret ?_) | ((first | ((with_reducible refine W_id ?_); refine W_reg (by decide) (by rfl) ?_) | (with_reducible first | refine W_cond ?_ | refine hZ _ _ ?_ | refine W_exit ?_ | refine Wo_id ?_)); repeat1' simp only [push_cast, Nat.reduceBEq, Nat.reduceLT, Nat.reduceEqDiff, reduceIte, reduceCtorEq, Nat.reduceMul, Nat.reduceAdd, Nat.reduceSub, Int.reduceEq, Int.reduceLT, Int.reduceLE, Int.reduceNeg, Int.reduceAdd, Int.reduceSub, Int.reduceMul, Nat.reduceLeDiff, Int.reduceToNat]) | ((repeat ((fail_if_success with_reducible refine hK _ _ ?_); clear hK K)); (with_reducible refine hK _ _ ?_); clear hK K)))
      refine W_loop (S := Nat) (fun q => [(1, .slice (some ⟨b, o, none⟩) acts.length ac), (7, .pointer (some ⟨ps, 0, none⟩)), (8, .pointer (some ⟨pr, 0, none⟩)), (9, .int .i64 (k : Int)), (10, .pointer (some ⟨px, 0, none⟩)), (11, .slice (some ⟨pn, 0, none⟩) 2 2), (12, .int .i64 ((q : Int) - 1))])
        (fun q w13 => q ≤ 6 ∧ Ext w12 w13) (fun q => 6 - q) 0 ?_ ?_ ?_
      · (repeat simp only [push_cast, Nat.reduceBEq, Nat.reduceLT, Nat.reduceEqDiff, reduceIte, reduceCtorEq, Nat.reduceMul, Nat.reduceAdd, Nat.reduceSub, Int.reduceEq, Int.reduceLT, Int.reduceLE, Int.reduceNeg, Int.reduceAdd, Int.reduceSub, Int.reduceMul, Nat.reduceLeDiff, Int.reduceToNat])
      · exact ⟨by omega, Ext.refl _⟩
      rintro q w13 ⟨hq6, hx13⟩
      have hx9 := hx912.trans hx13
      by_cases hq : q < 6
      · have d0 : (q : Int) - 1 < 5 := by omega
        have d2 : inI64 ((q : Int) - 1 + 1) := by unfold inI64; omega
        have d3 : (((q + 1 : Nat) : Int) - 1) = (q : Int) - 1 + 1 := by omega
        generalize (q : Int) - 1 = wh at *
        have hxd := hx9.trans (Ext.drew w13)
        have n2d := n2.ext (hx13.trans (Ext.drew w13))
        have hpdd := hxd.blk hpd9
        have hlpx := blk_lt hpdd
        have hneg : ∀ z : Bool, (!z == z) = false := fun z => by cases z <;> rfl
        have hasP : ∀ w14, Ext w9 w14 → RdAt w14 1 (.slice (some ⟨pn, 0, none⟩) 2 2) (strCells [nmT x.a, nmT x.b]) → Gives Tryd.prog 17 #[.pointer (some ⟨ps, 0, none⟩), .int .i64 wh, .slice (some ⟨pn, 0, none⟩) 2 2] w14 fun v w' => v = .bool ((l8.drop (botN L wh l8)).any fun y => htmlS (opN L y) [nmT x.a, nmT x.b]) ∧ Ext w14 w' := fun w14 hx hn => by
          rw [← has_map hok8 wh fun o => htmlS o [nmT x.a, nmT x.b]]
          exact has_s (hS9.pass hx) hg hlm hnz wh hn (show 2 < 1000000000 by decide)
        have hasR : ∀ w14, Ext w9 w14 → RdAt w14 1 (.slice (some ⟨pn, 0, none⟩) 2 2) (strCells [nmT x.a, nmT x.b]) → Gives Tryd.prog 37 #[.pointer (some ⟨pr, 0, none⟩), .int .i64 wh, .slice (some ⟨pn, 0, none⟩) 2 2] w14 fun v w' => v = .bool ((l8.drop (botN L wh l8)).any fun y => htmlS (opN L y) [nmT x.a, nmT x.b]) ∧ Ext w14 w' := fun w14 hx hn =>
          rhas15_c (m1.ext hx) (m2.ext hx) (by omega) (by omega) hok8.r wh hn (show 2 < 1000000000 by decide)
        have has0 : ∀ w14, Ext w9 w14 → Gives Tryd.prog 17 #[.pointer (some ⟨ps, 0, none⟩), .int .i64 wh, .slice none 0 0] w14 fun v w' => v = .bool false ∧ Ext w14 w' := fun w14 hx => by
          have e : hasW wh (l8.map (opN L)) (fun o => htmlS o []) = false := by
            unfold hasW
            refine List.any_eq_false.2 fun y _ => ?_
            simp [htmlS]
          rw [← e]
          exact has_s (hS9.pass hx) hg hlm hnz wh (l0 := []) ⟨none, 0, 0, rfl, Nat.le_refl _, rfl, fun i u hu => by simp [strCells] at hu⟩ (show 0 < 1000000000 by decide)
        have hasN : ∀ w14, Ext w9 w14 → Gives Tryd.prog 22 #[.pointer (some ⟨ps, 0, none⟩), .int .i64 wh, .int .i64 x.i] w14 fun v w' => v = .bool (decide (0 ≤ indexR l8 x.i) && decide ((botN L wh l8 : Int) ≤ indexR l8 x.i)) ∧ Ext w14 w' := fun w14 hx => by
          rw [← hasn_map hok8]
          exact hasn_s (hS9.pass hx) hg hlm hnz wh x.i
        have ixR : ∀ w14, Ext w9 w14 → Gives Tryd.prog 36 #[.pointer (some ⟨pr, 0, none⟩), .int .i64 x.i] w14 fun v w' => v = .int .i64 (indexR l8 x.i) ∧ w' = w14 := fun w14 hx => rindex15_c (m1.ext hx) (by omega) x.i
        have hnR : ∀ w14, Ext w9 w14 → Gives Tryd.prog 38 #[.pointer (some ⟨pr, 0, none⟩), .int .i64 wh, .int .i64 x.i] w14 fun v w' => v = .bool (decide ((botN L wh l8 : Int) ≤ indexR l8 x.i)) ∧ Ext w14 w' := fun w14 hx => rhasn15_c (m1.ext hx) (m2.ext hx) (by omega) (by omega) hok8.r wh x.i
        generalize ((l8.drop (botN L wh l8)).any fun y => htmlS (opN L y) [nmT x.a, nmT x.b]) = z1 at hasP hasR
        generalize decide ((botN L wh l8 : Int) ≤ indexR l8 x.i) = z2 at hasN hnR
        generalize indexR l8 x.i = iz at *
        (repeat (first | (with_reducible first | (refine hK _ _ ?_; clear hK K) | refine (show ∀ σ' w', _ → K σ' w' from by assumption) _ _ ?_ | refine W_seq_k fun K hK => ?_ | refine W_block_k fun K hK => ?_ | refine W_skip ?_ | refine W_ret ?_) | ((first | ((with_reducible refine W_id ?_); refine W_reg (by decide) (by rfl) ?_) | (with_reducible first | refine W_cond ?_ | refine hZ _ _ ?_ | refine W_exit ?_ | refine Wo_id ?_)); repeat1' simp only [push_cast, Nat.reduceBEq, Nat.reduceLT, Nat.reduceEqDiff, reduceIte, reduceCtorEq, Nat.reduceMul, Nat.reduceAdd, Nat.reduceSub, Int.reduceEq, Int.reduceLT, Int.reduceLE, Int.reduceNeg, Int.reduceAdd, Int.reduceSub, Int.reduceMul, Nat.reduceLeDiff, Int.reduceToNat, d0]) | ((repeat ((fail_if_success with_reducible refine hK _ _ ?_); clear hK K)); (with_reducible refine hK _ _ ?_); clear hK K)))
        refine W_draw (.pas 0 (.pas 1 (.pas 2 (.pas 4 (.pas 5 (.pas 6 (.act 3 (.act 7 (.pas 8 (.pas 9 (.pas 10 (.pas 11 (.act 12 (.pas 13 (.pas 14 (.pas 15 (.pas 16 (.pas 17 (.pas 18 (.pas 20 (.pas 21 (.pas 22 (.act 19 (.act 23 (.pas 24 (.pas 25 (.pas 26 (.pas 27 (.pas 28 (.pas 29 (.act 30 (.pas 31 (.pas 32 (.pas 33 .fin)))))))))))))))))))))))))))))))))) (fun q => q = px) (by decide) mixed (by kernel_rfl) ?_
        have hxw := Ext.drew w13
        generalize w13.drew = we at *
        (repeat (first | ((first | refine pas_plain rfl ?_ | refine pas_g rfl rfl ?_ | refine act_plain rfl ?_ | refine act_g rfl rfl ?_ | refine last_plain rfl ?_ | refine tail_plain rfl ?_ | refine tail_g rfl rfl ?_); (repeat simp only [push_cast, Nat.reduceBEq, Nat.reduceLT, Nat.reduceEqDiff, reduceIte, reduceCtorEq, Nat.reduceMul, Nat.reduceAdd, Nat.reduceSub, Int.reduceEq, Int.reduceLT, Int.reduceLE, Int.reduceNeg, Int.reduceAdd, Int.reduceSub, Int.reduceMul, Nat.reduceLeDiff, Int.reduceToNat, eq_self, cell_h, cellO_cells, hpdd])) | (refine tail_fin ?_) | (refine sch_fin ?_)))
        refine (hasP we hxd n2d).mono ?_
        rintro v w14 ⟨rfl, hx14⟩
        have hy14 := hxd.trans hx14
        refine ⟨kept_upd hx14 fun q hq => ⟨by have : q = px := hq; omega, id⟩, ?_⟩
        (repeat (first | ((first | refine pas_plain rfl ?_ | refine pas_g rfl rfl ?_ | refine act_plain rfl ?_ | refine act_g rfl rfl ?_ | refine last_plain rfl ?_ | refine tail_plain rfl ?_ | refine tail_g rfl rfl ?_); (repeat simp only [push_cast, Nat.reduceBEq, Nat.reduceLT, Nat.reduceEqDiff, reduceIte, reduceCtorEq, Nat.reduceMul, Nat.reduceAdd, Nat.reduceSub, Int.reduceEq, Int.reduceLT, Int.reduceLE, Int.reduceNeg, Int.reduceAdd, Int.reduceSub, Int.reduceMul, Nat.reduceLeDiff, Int.reduceToNat, eq_self, cell_h, cellO_cells, hpdd])) | (refine tail_fin ?_) | (refine sch_fin ?_)))
        refine (hasR w14 hy14 (n2d.ext hx14)).mono ?_
        rintro v w15 ⟨rfl, hx15⟩
        have hy15 := hy14.trans hx15
        have hlp14 := blk_lt (hx14.blk hpdd)
        have hlp15 := blk_lt (hx15.blk (hx14.blk hpdd))
        refine ⟨kept_upd hx15 fun q hq => ⟨by have : q = px := hq; omega, id⟩, ?_⟩
        (repeat (first | ((first | refine pas_plain rfl ?_ | refine pas_g rfl rfl ?_ | refine act_plain rfl ?_ | refine act_g rfl rfl ?_ | refine last_plain rfl ?_ | refine tail_plain rfl ?_ | refine tail_g rfl rfl ?_); (repeat simp only [push_cast, Nat.reduceBEq, Nat.reduceLT, Nat.reduceEqDiff, reduceIte, reduceCtorEq, Nat.reduceMul, Nat.reduceAdd, Nat.reduceSub, Int.reduceEq, Int.reduceLT, Int.reduceLE, Int.reduceNeg, Int.reduceAdd, Int.reduceSub, Int.reduceMul, Nat.reduceLeDiff, Int.reduceToNat, eq_self, cell_h, cellO_cells, hneg, not_true_eq_false])) | (refine tail_fin ?_) | (refine sch_fin ?_)))
        refine (has0 w15 hy15).mono ?_
        rintro v w16 ⟨rfl, hx16⟩
        have hy16 := hy15.trans hx16
        have hpd16 := hx16.blk (hx15.blk (hx14.blk hpdd))
        have hlp16 := blk_lt hpd16
        refine ⟨kept_upd hx16 fun q hq => ⟨by have : q = px := hq; omega, id⟩, ?_⟩
        (repeat (first | ((first | refine pas_plain rfl ?_ | refine pas_g rfl rfl ?_ | refine act_plain rfl ?_ | refine act_g rfl rfl ?_ | refine last_plain rfl ?_ | refine tail_plain rfl ?_ | refine tail_g rfl rfl ?_); (repeat simp only [push_cast, Nat.reduceBEq, Nat.reduceLT, Nat.reduceEqDiff, reduceIte, reduceCtorEq, Nat.reduceMul, Nat.reduceAdd, Nat.reduceSub, Int.reduceEq, Int.reduceLT, Int.reduceLE, Int.reduceNeg, Int.reduceAdd, Int.reduceSub, Int.reduceMul, Nat.reduceLeDiff, Int.reduceToNat, eq_self, cell_h, cellO_cells, hpd16, not_true_eq_false])) | (refine tail_fin ?_) | (refine sch_fin ?_)))
        refine (hasN w16 hy16).mono ?_
        rintro v w17 ⟨rfl, hx17⟩
        have hy17 := hy16.trans hx17
        have hpd17 := hx17.blk hpd16
        have hlp17 := blk_lt hpd17
        refine ⟨kept_upd hx17 fun q hq => ⟨by have : q = px := hq; omega, id⟩, ?_⟩
        (repeat (first | ((first | refine pas_plain rfl ?_ | refine pas_g rfl rfl ?_ | refine act_plain rfl ?_ | refine act_g rfl rfl ?_ | refine last_plain rfl ?_ | refine tail_plain rfl ?_ | refine tail_g rfl rfl ?_); (repeat simp only [push_cast, Nat.reduceBEq, Nat.reduceLT, Nat.reduceEqDiff, reduceIte, reduceCtorEq, Nat.reduceMul, Nat.reduceAdd, Nat.reduceSub, Int.reduceEq, Int.reduceLT, Int.reduceLE, Int.reduceNeg, Int.reduceAdd, Int.reduceSub, Int.reduceMul, Nat.reduceLeDiff, Int.reduceToNat, eq_self, cell_h, cellO_cells, hpd17, not_true_eq_false])) | (refine tail_fin ?_) | (refine sch_fin ?_)))
        refine (ixR w17 hy17).mono ?_
        intro v w' ⟨hv, hw⟩
        subst hv; subst w'
        refine ⟨kept.refl _ _, ?_⟩
        by_cases hiz : 0 ≤ iz
        · rw [decide_eq_true hiz]
          (repeat (first | ((first | refine pas_plain rfl ?_ | refine pas_g rfl rfl ?_ | refine act_plain rfl ?_ | refine act_g rfl rfl ?_ | refine last_plain rfl ?_ | refine tail_plain rfl ?_ | refine tail_g rfl rfl ?_); (repeat simp only [push_cast, Nat.reduceBEq, Nat.reduceLT, Nat.reduceEqDiff, reduceIte, reduceCtorEq, Nat.reduceMul, Nat.reduceAdd, Nat.reduceSub, Int.reduceEq, Int.reduceLT, Int.reduceLE, Int.reduceNeg, Int.reduceAdd, Int.reduceSub, Int.reduceMul, Nat.reduceLeDiff, Int.reduceToNat, eq_self, cell_h, cellO_cells, hpd17, not_true_eq_false, hiz, decide_true])) | (refine tail_fin ?_) | (refine sch_fin ?_)))
          refine (hnR w17 hy17).mono ?_
          rintro v w18 ⟨rfl, hx18⟩
          refine ⟨kept_upd hx18 fun q hq => ⟨by have : q = px := hq; omega, id⟩, ?_⟩
          (repeat (first | ((first | refine pas_plain rfl ?_ | refine pas_g rfl rfl ?_ | refine act_plain rfl ?_ | refine act_g rfl rfl ?_ | refine last_plain rfl ?_ | refine tail_plain rfl ?_ | refine tail_g rfl rfl ?_); (repeat simp only [push_cast, Nat.reduceBEq, Nat.reduceLT, Nat.reduceEqDiff, reduceIte, reduceCtorEq, Nat.reduceMul, Nat.reduceAdd, Nat.reduceSub, Int.reduceEq, Int.reduceLT, Int.reduceLE, Int.reduceNeg, Int.reduceAdd, Int.reduceSub, Int.reduceMul, Nat.reduceLeDiff, Int.reduceToNat, eq_self, cell_h, cellO_cells, not_true_eq_false, hneg])) | (refine tail_fin ?_) | (refine sch_fin ?_)))
          ((repeat simp only [push_cast, Nat.reduceBEq, Nat.reduceLT, Nat.reduceEqDiff, reduceIte, reduceCtorEq, Nat.reduceMul, Nat.reduceAdd, Nat.reduceSub, Int.reduceEq, Int.reduceLT, Int.reduceLE, Int.reduceNeg, Int.reduceAdd, Int.reduceSub, Int.reduceMul, Nat.reduceLeDiff, Int.reduceToNat, d2, hneg]); (repeat (first | (with_reducible first | (refine hK _ _ ?_; clear hK K) | refine (show ∀ σ' w', _ → K σ' w' from by assumption) _ _ ?_ | refine W_seq_k fun K hK => ?_ | refine W_block_k fun K hK => ?_ | refine W_skip ?_ | refine W_ret ?_) | ((first | ((with_reducible refine W_id ?_); refine W_reg (by decide) (by rfl) ?_) | (with_reducible first | refine W_cond ?_ | refine hZ _ _ ?_ | refine W_exit ?_ | refine Wo_id ?_)); repeat1' simp only [push_cast, Nat.reduceBEq, Nat.reduceLT, Nat.reduceEqDiff, reduceIte, reduceCtorEq, Nat.reduceMul, Nat.reduceAdd, Nat.reduceSub, Int.reduceEq, Int.reduceLT, Int.reduceLE, Int.reduceNeg, Int.reduceAdd, Int.reduceSub, Int.reduceMul, Nat.reduceLeDiff, Int.reduceToNat, d2, hneg]) | ((repeat ((fail_if_success with_reducible refine hK _ _ ?_); clear hK K)); (with_reducible refine hK _ _ ?_); clear hK K))))
          refine ⟨q + 1, by omega, ?_⟩
          rw [d3]
          (repeat simp only [push_cast, Nat.reduceBEq, Nat.reduceLT, Nat.reduceEqDiff, reduceIte, reduceCtorEq, Nat.reduceMul, Nat.reduceAdd, Nat.reduceSub, Int.reduceEq, Int.reduceLT, Int.reduceLE, Int.reduceNeg, Int.reduceAdd, Int.reduceSub, Int.reduceMul, Nat.reduceLeDiff, Int.reduceToNat])
          exact ⟨by omega, hx13.trans (hxw.trans (hx14.trans (hx15.trans (hx16.trans (hx17.trans hx18)))))⟩
        · rw [decide_eq_false hiz]
          (repeat (first | ((first | refine pas_plain rfl ?_ | refine pas_g rfl rfl ?_ | refine act_plain rfl ?_ | refine act_g rfl rfl ?_ | refine last_plain rfl ?_ | refine tail_plain rfl ?_ | refine tail_g rfl rfl ?_); (repeat simp only [push_cast, Nat.reduceBEq, Nat.reduceLT, Nat.reduceEqDiff, reduceIte, reduceCtorEq, Nat.reduceMul, Nat.reduceAdd, Nat.reduceSub, Int.reduceEq, Int.reduceLT, Int.reduceLE, Int.reduceNeg, Int.reduceAdd, Int.reduceSub, Int.reduceMul, Nat.reduceLeDiff, Int.reduceToNat, eq_self, cell_h, cellO_cells, hpd17, not_true_eq_false, hiz, decide_false])) | (refine tail_fin ?_) | (refine sch_fin ?_)))
          ((repeat simp only [push_cast, Nat.reduceBEq, Nat.reduceLT, Nat.reduceEqDiff, reduceIte, reduceCtorEq, Nat.reduceMul, Nat.reduceAdd, Nat.reduceSub, Int.reduceEq, Int.reduceLT, Int.reduceLE, Int.reduceNeg, Int.reduceAdd, Int.reduceSub, Int.reduceMul, Nat.reduceLeDiff, Int.reduceToNat, d2, hneg]); (repeat (first | (with_reducible first | (refine hK _ _ ?_; clear hK K) | refine (show ∀ σ' w', _ → K σ' w' from by assumption) _ _ ?_ | refine W_seq_k fun K hK => ?_ | refine W_block_k fun K hK => ?_ | refine W_skip ?_ | refine W_ret ?_) | ((first | ((with_reducible refine W_id ?_); refine W_reg (by decide) (by rfl) ?_) | (with_reducible first | refine W_cond ?_ | refine hZ _ _ ?_ | refine W_exit ?_ | refine Wo_id ?_)); repeat1' simp only [push_cast, Nat.reduceBEq, Nat.reduceLT, Nat.reduceEqDiff, reduceIte, reduceCtorEq, Nat.reduceMul, Nat.reduceAdd, Nat.reduceSub, Int.reduceEq, Int.reduceLT, Int.reduceLE, Int.reduceNeg, Int.reduceAdd, Int.reduceSub, Int.reduceMul, Nat.reduceLeDiff, Int.reduceToNat, d2, hneg]) | ((repeat ((fail_if_success with_reducible refine hK _ _ ?_); clear hK K)); (with_reducible refine hK _ _ ?_); clear hK K))))
          refine ⟨q + 1, by omega, ?_⟩
          rw [d3]
          (repeat simp only [push_cast, Nat.reduceBEq, Nat.reduceLT, Nat.reduceEqDiff, reduceIte, reduceCtorEq, Nat.reduceMul, Nat.reduceAdd, Nat.reduceSub, Int.reduceEq, Int.reduceLT, Int.reduceLE, Int.reduceNeg, Int.reduceAdd, Int.reduceSub, Int.reduceMul, Nat.reduceLeDiff, Int.reduceToNat])
          exact ⟨by omega, hx13.trans (hxw.trans (hx14.trans (hx15.trans (hx16.trans hx17))))⟩
      · obtain rfl : q = 6 := by omega
        have d0 : ¬ (((6 : Nat) : Int) - 1) < 5 := by omega
        (repeat (first | (with_reducible first | (refine hK _ _ ?_; clear hK K) | refine (show ∀ σ' w', _ → K σ' w' from by assumption) _ _ ?_ | refine W_seq_k fun K hK => ?_ | refine W_block_k fun K hK => ?_ | refine W_skip ?_ | refine W_ret ?_) | ((first | ((with_reducible refine W_id ?_); refine W_reg (by decide) (by rfl) ?_) | (with_reducible first | refine W_cond ?_ | refine hZ _ _ ?_ | refine W_exit ?_ | refine Wo_id ?_)); repeat1' simp only [push_cast, Nat.reduceBEq, Nat.reduceLT, Nat.reduceEqDiff, reduceIte, reduceCtorEq, Nat.reduceMul, Nat.reduceAdd, Nat.reduceSub, Int.reduceEq, Int.reduceLT, Int.reduceLE, Int.reduceNeg, Int.reduceAdd, Int.reduceSub, Int.reduceMul, Nat.reduceLeDiff, Int.reduceToNat, d0]) | ((repeat ((fail_if_success with_reducible refine hK _ _ ?_); clear hK K)); (with_reducible refine hK _ _ ?_); clear hK K)))
        refine W_loop (S := Nat) (fun q => [(1, .slice (some ⟨b, o, none⟩) acts.length ac), (7, .pointer (some ⟨ps, 0, none⟩)), (8, .pointer (some ⟨pr, 0, none⟩)), (9, .int .i64 (k : Int)), (13, .int .i64 (q : Int))])
          (fun q w14 => q ≤ l8.length ∧ Ext w9 w14) (fun q => l8.length - q) 0 ?_ ?_ ?_
        · (repeat simp only [push_cast, Nat.reduceBEq, Nat.reduceLT, Nat.reduceEqDiff, reduceIte, reduceCtorEq, Nat.reduceMul, Nat.reduceAdd, Nat.reduceSub, Int.reduceEq, Int.reduceLT, Int.reduceLE, Int.reduceNeg, Int.reduceAdd, Int.reduceSub, Int.reduceMul, Nat.reduceLeDiff, Int.reduceToNat])
        · exact ⟨by omega, hx9⟩
        rintro q w14 ⟨hq, hx14⟩
        have hhr14 := hx14.blk hhr
        by_cases hql : q < l8.length
        · have f0 : (q : Int) < (l8.length : Int) := by omega
          have f1 : (0 : Int) ≤ (q : Int) := by omega
          have f2 : inI64 ((q : Int) + 1) := by unfold inI64; omega
          obtain ⟨y, hy⟩ : ∃ y, l8[q]? = some y := ⟨_, List.getElem?_eq_getElem hql⟩
          obtain ⟨b8, o8, e8, _, cy⟩ := hrcell q y hy
          have hxd := hx14.trans (Ext.drew w14)
          have cy := cellO_ext hxd cy
          have hhrd := hxd.blk hhr
          have tAt := at_s (hS9.pass hxd) (q : Int)
          rw [at_map, if_pos ⟨f1, f0⟩, show l8.getD ((q : Int).toNat) 0 = y by simp [List.getD, hy]] at tAt
          rw [e8] at hhr14 hhrd
          (repeat (first | (with_reducible first | (refine hK _ _ ?_; clear hK K) | refine (show ∀ σ' w', _ → K σ' w' from by assumption) _ _ ?_ | refine W_seq_k fun K hK => ?_ | refine W_block_k fun K hK => ?_ | refine W_skip ?_ | refine W_ret ?_) | ((first | ((with_reducible refine W_id ?_); refine W_reg (by decide) (by rfl) ?_) | (with_reducible first | refine W_cond ?_ | refine hZ _ _ ?_ | refine W_exit ?_ | refine Wo_id ?_)); repeat1' simp only [push_cast, Nat.reduceBEq, Nat.reduceLT, Nat.reduceEqDiff, reduceIte, reduceCtorEq, Nat.reduceMul, Nat.reduceAdd, Nat.reduceSub, Int.reduceEq, Int.reduceLT, Int.reduceLE, Int.reduceNeg, Int.reduceAdd, Int.reduceSub, Int.reduceMul, Nat.reduceLeDiff, Int.reduceToNat, f0, cell_h, cellO_cells, hhr14]) | ((repeat ((fail_if_success with_reducible refine hK _ _ ?_); clear hK K)); (with_reducible refine hK _ _ ?_); clear hK K)))
          refine W_draw (.pas 0 (.pas 1 (.pas 3 (.pas 4 (.pas 5 (.pas 6 (.pas 7 (.pas 8 (.pas 9 (.act 2 (.pas 10 .fin))))))))))) (fun _ => True) (by decide) mixed (by kernel_rfl) ?_
          have hxw := Ext.drew w14
          generalize w14.drew = we at *
          (repeat (first | ((first | refine pas_plain rfl ?_ | refine pas_g rfl rfl ?_ | refine act_plain rfl ?_ | refine act_g rfl rfl ?_ | refine last_plain rfl ?_ | refine tail_plain rfl ?_ | refine tail_g rfl rfl ?_); (repeat simp only [push_cast, Nat.reduceBEq, Nat.reduceLT, Nat.reduceEqDiff, reduceIte, reduceCtorEq, Nat.reduceMul, Nat.reduceAdd, Nat.reduceSub, Int.reduceEq, Int.reduceLT, Int.reduceLE, Int.reduceNeg, Int.reduceAdd, Int.reduceSub, Int.reduceMul, Nat.reduceLeDiff, Int.reduceToNat, eq_self, cell_h, cellO_cells, hhrd, f0, f1, cy, true_and])) | (refine tail_fin ?_) | (refine sch_fin ?_)))
          refine tAt.mono ?_
          intro v w' ⟨hv, hw⟩
          subst hv; subst w'
          refine ⟨kept.refl _ _, ?_⟩
          (repeat (first | ((first | refine pas_plain rfl ?_ | refine pas_g rfl rfl ?_ | refine act_plain rfl ?_ | refine act_g rfl rfl ?_ | refine last_plain rfl ?_ | refine tail_plain rfl ?_ | refine tail_g rfl rfl ?_); (repeat simp only [push_cast, Nat.reduceBEq, Nat.reduceLT, Nat.reduceEqDiff, reduceIte, reduceCtorEq, Nat.reduceMul, Nat.reduceAdd, Nat.reduceSub, Int.reduceEq, Int.reduceLT, Int.reduceLE, Int.reduceNeg, Int.reduceAdd, Int.reduceSub, Int.reduceMul, Nat.reduceLeDiff, Int.reduceToNat, eq_self, not_true_eq_false])) | (refine tail_fin ?_) | (refine sch_fin ?_)))
          ((repeat simp only [push_cast, Nat.reduceBEq, Nat.reduceLT, Nat.reduceEqDiff, reduceIte, reduceCtorEq, Nat.reduceMul, Nat.reduceAdd, Nat.reduceSub, Int.reduceEq, Int.reduceLT, Int.reduceLE, Int.reduceNeg, Int.reduceAdd, Int.reduceSub, Int.reduceMul, Nat.reduceLeDiff, Int.reduceToNat, f2, not_true_eq_false]); (repeat (first | (with_reducible first | (refine hK _ _ ?_; clear hK K) | refine (show ∀ σ' w', _ → K σ' w' from by assumption) _ _ ?_ | refine W_seq_k fun K hK => ?_ | refine W_block_k fun K hK => ?_ | refine W_skip ?_ | refine W_ret ?_) | ((first | ((with_reducible refine W_id ?_); refine W_reg (by decide) (by rfl) ?_) | (with_reducible first | refine W_cond ?_ | refine hZ _ _ ?_ | refine W_exit ?_ | refine Wo_id ?_)); repeat1' simp only [push_cast, Nat.reduceBEq, Nat.reduceLT, Nat.reduceEqDiff, reduceIte, reduceCtorEq, Nat.reduceMul, Nat.reduceAdd, Nat.reduceSub, Int.reduceEq, Int.reduceLT, Int.reduceLE, Int.reduceNeg, Int.reduceAdd, Int.reduceSub, Int.reduceMul, Nat.reduceLeDiff, Int.reduceToNat, f2, not_true_eq_false]) | ((repeat ((fail_if_success with_reducible refine hK _ _ ?_); clear hK K)); (with_reducible refine hK _ _ ?_); clear hK K))))
          refine ⟨q + 1, by omega, ?_⟩
          (repeat simp only [push_cast, Nat.reduceBEq, Nat.reduceLT, Nat.reduceEqDiff, reduceIte, reduceCtorEq, Nat.reduceMul, Nat.reduceAdd, Nat.reduceSub, Int.reduceEq, Int.reduceLT, Int.reduceLE, Int.reduceNeg, Int.reduceAdd, Int.reduceSub, Int.reduceMul, Nat.reduceLeDiff, Int.reduceToNat])
          exact ⟨by omega, hx14.trans hxw⟩
        · obtain rfl : q = l8.length := by omega
          have f0 : ¬ (l8.length : Int) < (l8.length : Int) := by omega
          (repeat (first | (with_reducible first | (refine hK _ _ ?_; clear hK K) | refine (show ∀ σ' w', _ → K σ' w' from by assumption) _ _ ?_ | refine W_seq_k fun K hK => ?_ | refine W_block_k fun K hK => ?_ | refine W_skip ?_ | refine W_ret ?_) | ((first | ((with_reducible refine W_id ?_); refine W_reg (by decide) (by rfl) ?_) | (with_reducible first | refine W_cond ?_ | refine hZ _ _ ?_ | refine W_exit ?_ | refine Wo_id ?_)); repeat1' simp only [push_cast, Nat.reduceBEq, Nat.reduceLT, Nat.reduceEqDiff, reduceIte, reduceCtorEq, Nat.reduceMul, Nat.reduceAdd, Nat.reduceSub, Int.reduceEq, Int.reduceLT, Int.reduceLE, Int.reduceNeg, Int.reduceAdd, Int.reduceSub, Int.reduceMul, Nat.reduceLeDiff, Int.reduceToNat, f0, cell_h, cellO_cells, hhr14, e2]) | ((repeat ((fail_if_success with_reducible refine hK _ _ ?_); clear hK K)); (with_reducible refine hK _ _ ?_); clear hK K)))
          refine ⟨k + 1, by omega, ?_⟩
          (repeat simp only [push_cast, Nat.reduceBEq, Nat.reduceLT, Nat.reduceEqDiff, reduceIte, reduceCtorEq, Nat.reduceMul, Nat.reduceAdd, Nat.reduceSub, Int.reduceEq, Int.reduceLT, Int.reduceLE, Int.reduceNeg, Int.reduceAdd, Int.reduceSub, Int.reduceMul, Nat.reduceLeDiff, Int.reduceToNat])
          have hsz := hx14.alike.size
          exact ⟨by omega, S9, l8, hS9.pass hx14, hR9.ext hx14, hok8, hl8, fun b hb => by have := hSb9 b hb; omega⟩
    ((repeat simp only [push_cast, Nat.reduceBEq, Nat.reduceLT, Nat.reduceEqDiff, reduceIte, reduceCtorEq, Nat.reduceMul, Nat.reduceAdd, Nat.reduceSub, Int.reduceEq, Int.reduceLT, Int.reduceLE, Int.reduceNeg, Int.reduceAdd, Int.reduceSub, Int.reduceMul, Nat.reduceLeDiff, Int.reduceToNat]); (repeat (first | (with_reducible first | (refine hK _ _ ?_; clear hK K) | refine (show ∀ σ' w', _ → K σ' w' from by assumption) _ _ ?_ | refine W_seq_k fun K hK => ?_ | refine W_block_k fun K hK => ?_ | refine W_skip ?_ | refine W_ret ?_) | ((first | ((with_reducible refine W_id ?_); refine W_reg (by decide) (by rfl) ?_) | (with_reducible first | refine W_cond ?_ | refine hZ _ _ ?_ | refine W_exit ?_ | refine Wo_id ?_)); repeat1' simp only [push_cast, Nat.reduceBEq, Nat.reduceLT, Nat.reduceEqDiff, reduceIte, reduceCtorEq, Nat.reduceMul, Nat.reduceAdd, Nat.reduceSub, Int.reduceEq, Int.reduceLT, Int.reduceLE, Int.reduceNeg, Int.reduceAdd, Int.reduceSub, Int.reduceMul, Nat.reduceLeDiff, Int.reduceToNat]) | ((repeat ((fail_if_success with_reducible refine hK _ _ ?_); clear hK K)); (with_reducible refine hK _ _ ?_); clear hK K))))
    refine W_draw (.pas 0 (.pas 1 (.pas 3 (.pas 4 (.act 2 (.act 5 (.pas 6 (.pas 7 (.pas 8 (.pas 10 (.pas 11 (.pas 12 (.two 9 (.act 13 (.pas 14 (.pas 15 (.pas 16 (.pas 17 (.pas 18 (.pas 20 (.pas 21 (.pas 22 (.pas 23 (.two 19 (.act 24 (.pas 25 (.pas 26 (.act 27 (.pas 28 (.pas 29 (.pas 30 (.pas 31 (.pas 32 (.pas 33 (.pas 35 (.pas 36 (.pas 37 (.act 34 (.act 38 (.pas 39 (.pas 40 (.pas 41 (.pas 42 (.pas 43 (.pas 44 (.pas 46 (.pas 47 (.pas 48 (.act 45 (.act 49 (.pas 50 (.pas 51 .fin)))))))))))))))))))))))))))) 24 (.pas 25 (.pas 26 (.act 19 (.act 27 (.pas 28 (.pas 29 (.pas 30 (.pas 31 (.pas 32 (.pas 33 (.pas 35 (.pas 36 (.pas 37 (.act 34 (.act 38 (.pas 39 (.pas 40 (.pas 41 (.pas 42 (.pas 43 (.pas 44 (.pas 46 (.pas 47 (.pas 48 (.act 45 (.act 49 (.pas 50 (.pas 51 .fin))))))))))))))))))))))))))))))))))))))) 13 (.pas 14 (.act 9 (.pas 15 (.pas 16 (.pas 17 (.pas 18 (.pas 20 (.pas 21 (.pas 22 (.pas 23 (.two 19 (.act 24 (.pas 25 (.pas 26 (.act 27 (.pas 28 (.pas 29 (.pas 30 (.pas 31 (.pas 32 (.pas 33 (.pas 35 (.pas 36 (.pas 37 (.act 34 (.act 38 (.pas 39 (.pas 40 (.pas 41 (.pas 42 (.pas 43 (.pas 44 (.pas 46 (.pas 47 (.pas 48 (.act 45 (.act 49 (.pas 50 (.pas 51 .fin)))))))))))))))))))))))))))) 24 (.pas 25 (.pas 26 (.act 19 (.act 27 (.pas 28 (.pas 29 (.pas 30 (.pas 31 (.pas 32 (.pas 33 (.pas 35 (.pas 36 (.pas 37 (.act 34 (.act 38 (.pas 39 (.pas 40 (.pas 41 (.pas 42 (.pas 43 (.pas 44 (.pas 46 (.pas 47 (.pas 48 (.act 45 (.act 49 (.pas 50 (.pas 51 .fin)))))))))))))))))))))))))))))))))))))))))))))))))))) (fun b' => b' = px) (by decide) mixed (by kernel_rfl) ?_
    generalize w7.drew = wd at *
    (repeat (first | ((first | refine pas_plain rfl ?_ | refine pas_g rfl rfl ?_ | refine act_plain rfl ?_ | refine act_g rfl rfl ?_ | refine last_plain rfl ?_ | refine tail_plain rfl ?_ | refine tail_g rfl rfl ?_); (repeat simp only [push_cast, Nat.reduceBEq, Nat.reduceLT, Nat.reduceEqDiff, reduceIte, reduceCtorEq, Nat.reduceMul, Nat.reduceAdd, Nat.reduceSub, Int.reduceEq, Int.reduceLT, Int.reduceLE, Int.reduceNeg, Int.reduceAdd, Int.reduceSub, Int.reduceMul, Nat.reduceLeDiff, Int.reduceToNat, eq_self, cell_h, cellO_cells, hpd])) | (refine tail_fin ?_) | (refine sch_fin ?_)))
    refine hdone.mono ?_
    rintro v w8 ⟨rfl, hS8, hu8⟩
    have hz8 := hu8.alike.size
    have hpd8 : w8.heap[px]? = some (.cells #[.int .u8 (x.k : Int), .int .i64 x.i, .int .i64 x.j, .int .u8 (x.a : Int), .int .u8 (x.b : Int)] 61 (0, 0)) := (hu8.same px (by omega) fun h => h.2 (.inr rfl)).trans hpd
    have hR8 := hRd.upd (S' := S) hu8 (fun b hb h => h.2 (.inl hb)) fun _ h => h
    refine ⟨kept_upd hu8 fun b' hb => ⟨by have : b' = px := hb; omega, fun h => h.2 (.inr hb)⟩, ?_⟩
    (repeat (first | ((first | refine pas_plain rfl ?_ | refine pas_g rfl rfl ?_ | refine act_plain rfl ?_ | refine act_g rfl rfl ?_ | refine last_plain rfl ?_ | refine tail_plain rfl ?_ | refine tail_g rfl rfl ?_); (repeat simp only [push_cast, Nat.reduceBEq, Nat.reduceLT, Nat.reduceEqDiff, reduceIte, reduceCtorEq, Nat.reduceMul, Nat.reduceAdd, Nat.reduceSub, Int.reduceEq, Int.reduceLT, Int.reduceLE, Int.reduceNeg, Int.reduceAdd, Int.reduceSub, Int.reduceMul, Nat.reduceLeDiff, Int.reduceToNat, eq_self, cell_h, cellO_cells, hpd8])) | (refine tail_fin ?_) | (refine sch_fin ?_)))
    refine (hsaid w8 hR8 (by unfold wd_le; omega)).mono ?_
    rintro v w9 ⟨rfl, hR9, hu9⟩
    have hz9 := hu9.alike.size
    have hpd9 : w9.heap[px]? = some (.cells #[.int .u8 (x.k : Int), .int .i64 x.i, .int .i64 x.j, .int .u8 (x.a : Int), .int .u8 (x.b : Int)] 61 (0, 0)) := (hu9.same px (by omega) hnS).trans hpd8
    have hS9 : StAt w w9 (gS S w8 w9) ps pa L (l8.map (opN L)) := hS8.app hu9 (fun b _ hb => ⟨.inl hb, (hSb b hb).1⟩) fun b hb => by
      rcases hb with hb | hb
      · exact .inl (.inl hb)
      · exact .inr hb
    have hSb9 : ∀ b, gS S w8 w9 b → w.heap.size ≤ b ∧ b < w9.heap.size := fun b hb => by
      rcases hb with hb | hb
      · have := hSb b hb; omega
      · omega
    refine ⟨kept_upd hu9 fun b' hb => ⟨by have : b' = px := hb; omega, fun h => hnS (by have : b' = px := hb; rw [← this]; exact h)⟩, ?_⟩
    generalize gS S w8 w9 = S9 at *
    have hR9' := hR9
    obtain ⟨lv, bo, Fr, m1, m2, m3, m4, m5⟩ := hR9'
    obtain ⟨ra, rc, e, _, hrcell⟩ := ints_len2 m1.sl
    subst e
    have hhr := m1.head
    have hl8' : l8.length < 10000 := by omega
    have hlm : (l8.map (opN L)).length < 10000 := by rw [List.length_map]; omega
    have tLen := len_s hS9
    rw [List.length_map] at tLen
    have tTop := top_s hS9 hlm
    rw [top_map] at tTop
    have tAt := at_s hS9 x.j
    rw [at_map] at tAt
    have tIx := index_s hS9 hlm x.i
    rw [index_map] at tIx
    have rTop := rat15_c m1 ((l8.length : Int) - 1)
    rw [← top_at] at rTop
    have rAt := rat15_c m1 x.j
    have rIx := rindex15_c m1 (by omega) x.i
    have s0 : inI64 ((l8.length : Int) - 1) := by unfold inI64; omega
    generalize topR l8 = tz at tTop rTop
    generalize (if 0 ≤ x.j ∧ x.j < (l8.length : Int) then l8.getD x.j.toNat 0 else -1) = az at tAt rAt
    unfold indexR at tIx
    generalize hiz : lastB (fun k => decide (l8.getD k 0 = x.i)) l8.length = iz at tIx rIx
    generalize hnn : l8.length = nn at *
    (repeat (first | ((first | refine pas_plain rfl ?_ | refine pas_g rfl rfl ?_ | refine act_plain rfl ?_ | refine act_g rfl rfl ?_ | refine last_plain rfl ?_ | refine tail_plain rfl ?_ | refine tail_g rfl rfl ?_); (repeat simp only [push_cast, Nat.reduceBEq, Nat.reduceLT, Nat.reduceEqDiff, reduceIte, reduceCtorEq, Nat.reduceMul, Nat.reduceAdd, Nat.reduceSub, Int.reduceEq, Int.reduceLT, Int.reduceLE, Int.reduceNeg, Int.reduceAdd, Int.reduceSub, Int.reduceMul, Nat.reduceLeDiff, Int.reduceToNat, eq_self, not_true_eq_false, cell_h, cellO_cells, hpd9])) | (refine tail_fin ?_) | (refine sch_fin ?_)))
    refine two_mk ?_ ?_
    · (repeat (first | ((first | refine pas_plain rfl ?_ | refine pas_g rfl rfl ?_ | refine act_plain rfl ?_ | refine act_g rfl rfl ?_ | refine last_plain rfl ?_ | refine tail_plain rfl ?_ | refine tail_g rfl rfl ?_); (repeat simp only [push_cast, Nat.reduceBEq, Nat.reduceLT, Nat.reduceEqDiff, reduceIte, reduceCtorEq, Nat.reduceMul, Nat.reduceAdd, Nat.reduceSub, Int.reduceEq, Int.reduceLT, Int.reduceLE, Int.reduceNeg, Int.reduceAdd, Int.reduceSub, Int.reduceMul, Nat.reduceLeDiff, Int.reduceToNat, eq_self, not_true_eq_false, cell_h, cellO_cells, hpd9, hhr, s0])) | (refine tail_fin ?_) | (refine sch_fin ?_)))
      refine tLen.mono ?_
      intro v w' ⟨hv, hw⟩
      subst hv; subst w'
      refine ⟨kept.refl _ _, ?_⟩
      (repeat (first | ((first | refine pas_plain rfl ?_ | refine pas_g rfl rfl ?_ | refine act_plain rfl ?_ | refine act_g rfl rfl ?_ | refine last_plain rfl ?_ | refine tail_plain rfl ?_ | refine tail_g rfl rfl ?_); (repeat simp only [push_cast, Nat.reduceBEq, Nat.reduceLT, Nat.reduceEqDiff, reduceIte, reduceCtorEq, Nat.reduceMul, Nat.reduceAdd, Nat.reduceSub, Int.reduceEq, Int.reduceLT, Int.reduceLE, Int.reduceNeg, Int.reduceAdd, Int.reduceSub, Int.reduceMul, Nat.reduceLeDiff, Int.reduceToNat, eq_self, not_true_eq_false, cell_h, cellO_cells, hpd9, hhr, s0])) | (refine tail_fin ?_) | (refine sch_fin ?_)))
      refine ⟨kept.refl _ _, ?_⟩
      (repeat (first | ((first | refine pas_plain rfl ?_ | refine pas_g rfl rfl ?_ | refine act_plain rfl ?_ | refine act_g rfl rfl ?_ | refine last_plain rfl ?_ | refine tail_plain rfl ?_ | refine tail_g rfl rfl ?_); (repeat simp only [push_cast, Nat.reduceBEq, Nat.reduceLT, Nat.reduceEqDiff, reduceIte, reduceCtorEq, Nat.reduceMul, Nat.reduceAdd, Nat.reduceSub, Int.reduceEq, Int.reduceLT, Int.reduceLE, Int.reduceNeg, Int.reduceAdd, Int.reduceSub, Int.reduceMul, Nat.reduceLeDiff, Int.reduceToNat, eq_self, not_true_eq_false, cell_h, cellO_cells, hpd9, hhr, s0])) | (refine tail_fin ?_) | (refine sch_fin ?_)))
      refine two_mk ?_ ?_
      · (repeat (first | ((first | refine pas_plain rfl ?_ | refine pas_g rfl rfl ?_ | refine act_plain rfl ?_ | refine act_g rfl rfl ?_ | refine last_plain rfl ?_ | refine tail_plain rfl ?_ | refine tail_g rfl rfl ?_); (repeat simp only [push_cast, Nat.reduceBEq, Nat.reduceLT, Nat.reduceEqDiff, reduceIte, reduceCtorEq, Nat.reduceMul, Nat.reduceAdd, Nat.reduceSub, Int.reduceEq, Int.reduceLT, Int.reduceLE, Int.reduceNeg, Int.reduceAdd, Int.reduceSub, Int.reduceMul, Nat.reduceLeDiff, Int.reduceToNat, eq_self, not_true_eq_false, cell_h, cellO_cells, hpd9, hhr, s0])) | (refine tail_fin ?_) | (refine sch_fin ?_)))
        refine tTop.mono ?_
        intro v w' ⟨hv, hw⟩
        subst hv; subst w'
        refine ⟨kept.refl _ _, ?_⟩
        (repeat (first | ((first | refine pas_plain rfl ?_ | refine pas_g rfl rfl ?_ | refine act_plain rfl ?_ | refine act_g rfl rfl ?_ | refine last_plain rfl ?_ | refine tail_plain rfl ?_ | refine tail_g rfl rfl ?_); (repeat simp only [push_cast, Nat.reduceBEq, Nat.reduceLT, Nat.reduceEqDiff, reduceIte, reduceCtorEq, Nat.reduceMul, Nat.reduceAdd, Nat.reduceSub, Int.reduceEq, Int.reduceLT, Int.reduceLE, Int.reduceNeg, Int.reduceAdd, Int.reduceSub, Int.reduceMul, Nat.reduceLeDiff, Int.reduceToNat, eq_self, not_true_eq_false, cell_h, cellO_cells, hpd9, hhr, s0])) | (refine tail_fin ?_) | (refine sch_fin ?_)))
        refine ⟨kept.refl _ _, ?_⟩
        (repeat (first | ((first | refine pas_plain rfl ?_ | refine pas_g rfl rfl ?_ | refine act_plain rfl ?_ | refine act_g rfl rfl ?_ | refine last_plain rfl ?_ | refine tail_plain rfl ?_ | refine tail_g rfl rfl ?_); (repeat simp only [push_cast, Nat.reduceBEq, Nat.reduceLT, Nat.reduceEqDiff, reduceIte, reduceCtorEq, Nat.reduceMul, Nat.reduceAdd, Nat.reduceSub, Int.reduceEq, Int.reduceLT, Int.reduceLE, Int.reduceNeg, Int.reduceAdd, Int.reduceSub, Int.reduceMul, Nat.reduceLeDiff, Int.reduceToNat, eq_self, not_true_eq_false, cell_h, cellO_cells, hpd9, hhr, s0])) | (refine tail_fin ?_) | (refine sch_fin ?_)))
        refine rTop.mono ?_
        intro v w' ⟨hv, hw⟩
        subst hv; subst w'
        refine ⟨kept.refl _ _, ?_⟩
        (repeat (first | ((first | refine pas_plain rfl ?_ | refine pas_g rfl rfl ?_ | refine act_plain rfl ?_ | refine act_g rfl rfl ?_ | refine last_plain rfl ?_ | refine tail_plain rfl ?_ | refine tail_g rfl rfl ?_); (repeat simp only [push_cast, Nat.reduceBEq, Nat.reduceLT, Nat.reduceEqDiff, reduceIte, reduceCtorEq, Nat.reduceMul, Nat.reduceAdd, Nat.reduceSub, Int.reduceEq, Int.reduceLT, Int.reduceLE, Int.reduceNeg, Int.reduceAdd, Int.reduceSub, Int.reduceMul, Nat.reduceLeDiff, Int.reduceToNat, eq_self, not_true_eq_false, cell_h, cellO_cells, hpd9, hhr, s0])) | (refine tail_fin ?_) | (refine sch_fin ?_)))
        refine tAt.mono ?_
        intro v w' ⟨hv, hw⟩
        subst hv; subst w'
        refine ⟨kept.refl _ _, ?_⟩
        (repeat (first | ((first | refine pas_plain rfl ?_ | refine pas_g rfl rfl ?_ | refine act_plain rfl ?_ | refine act_g rfl rfl ?_ | refine last_plain rfl ?_ | refine tail_plain rfl ?_ | refine tail_g rfl rfl ?_); (repeat simp only [push_cast, Nat.reduceBEq, Nat.reduceLT, Nat.reduceEqDiff, reduceIte, reduceCtorEq, Nat.reduceMul, Nat.reduceAdd, Nat.reduceSub, Int.reduceEq, Int.reduceLT, Int.reduceLE, Int.reduceNeg, Int.reduceAdd, Int.reduceSub, Int.reduceMul, Nat.reduceLeDiff, Int.reduceToNat, eq_self, not_true_eq_false, cell_h, cellO_cells, hpd9, hhr, s0])) | (refine tail_fin ?_) | (refine sch_fin ?_)))
        refine rAt.mono ?_
        intro v w' ⟨hv, hw⟩
        subst hv; subst w'
        refine ⟨kept.refl _ _, ?_⟩
        (repeat (first | ((first | refine pas_plain rfl ?_ | refine pas_g rfl rfl ?_ | refine act_plain rfl ?_ | refine act_g rfl rfl ?_ | refine last_plain rfl ?_ | refine tail_plain rfl ?_ | refine tail_g rfl rfl ?_); (repeat simp only [push_cast, Nat.reduceBEq, Nat.reduceLT, Nat.reduceEqDiff, reduceIte, reduceCtorEq, Nat.reduceMul, Nat.reduceAdd, Nat.reduceSub, Int.reduceEq, Int.reduceLT, Int.reduceLE, Int.reduceNeg, Int.reduceAdd, Int.reduceSub, Int.reduceMul, Nat.reduceLeDiff, Int.reduceToNat, eq_self, not_true_eq_false, cell_h, cellO_cells, hpd9, hhr, s0])) | (refine tail_fin ?_) | (refine sch_fin ?_)))
        refine tIx.mono ?_
        intro v w' ⟨hv, hw⟩
        subst hv; subst w'
        refine ⟨kept.refl _ _, ?_⟩
        (repeat (first | ((first | refine pas_plain rfl ?_ | refine pas_g rfl rfl ?_ | refine act_plain rfl ?_ | refine act_g rfl rfl ?_ | refine last_plain rfl ?_ | refine tail_plain rfl ?_ | refine tail_g rfl rfl ?_); (repeat simp only [push_cast, Nat.reduceBEq, Nat.reduceLT, Nat.reduceEqDiff, reduceIte, reduceCtorEq, Nat.reduceMul, Nat.reduceAdd, Nat.reduceSub, Int.reduceEq, Int.reduceLT, Int.reduceLE, Int.reduceNeg, Int.reduceAdd, Int.reduceSub, Int.reduceMul, Nat.reduceLeDiff, Int.reduceToNat, eq_self, not_true_eq_false, cell_h, cellO_cells, hpd9, hhr, s0])) | (refine tail_fin ?_) | (refine sch_fin ?_)))
        refine rIx.mono ?_
        intro v w' ⟨hv, hw⟩
        subst hv; subst w'
        refine ⟨kept.refl _ _, ?_⟩
        (repeat (first | ((first | refine pas_plain rfl ?_ | refine pas_g rfl rfl ?_ | refine act_plain rfl ?_ | refine act_g rfl rfl ?_ | refine last_plain rfl ?_ | refine tail_plain rfl ?_ | refine tail_g rfl rfl ?_); (repeat simp only [push_cast, Nat.reduceBEq, Nat.reduceLT, Nat.reduceEqDiff, reduceIte, reduceCtorEq, Nat.reduceMul, Nat.reduceAdd, Nat.reduceSub, Int.reduceEq, Int.reduceLT, Int.reduceLE, Int.reduceNeg, Int.reduceAdd, Int.reduceSub, Int.reduceMul, Nat.reduceLeDiff, Int.reduceToNat, eq_self, not_true_eq_false, cell_h, cellO_cells, hpd9, hhr, s0])) | (refine tail_fin ?_) | (refine sch_fin ?_)))
        ((repeat simp only [push_cast, Nat.reduceBEq, Nat.reduceLT, Nat.reduceEqDiff, reduceIte, reduceCtorEq, Nat.reduceMul, Nat.reduceAdd, Nat.reduceSub, Int.reduceEq, Int.reduceLT, Int.reduceLE, Int.reduceNeg, Int.reduceAdd, Int.reduceSub, Int.reduceMul, Nat.reduceLeDiff, Int.reduceToNat, eq_self, not_true_eq_false]); (repeat (first | (with_reducible first | (refine hK _ _ ?_; clear hK K) | refine (show ∀ σ' w', _ → K σ' w' from by assumption) _ _ ?_ | refine W_seq_k fun K hK => ?_ | refine W_block_k fun K hK => ?_ | refine W_skip ?_ | refine W_ret ?_) | ((first | ((with_reducible refine W_id ?_); refine W_reg (by decide) (by rfl) ?_) | (with_reducible first | refine W_cond ?_ | refine hZ _ _ ?_ | refine W_exit ?_ | refine Wo_id ?_)); repeat1' simp only [push_cast, Nat.reduceBEq, Nat.reduceLT, Nat.reduceEqDiff, reduceIte, reduceCtorEq, Nat.reduceMul, Nat.reduceAdd, Nat.reduceSub, Int.reduceEq, Int.reduceLT, Int.reduceLE, Int.reduceNeg, Int.reduceAdd, Int.reduceSub, Int.reduceMul, Nat.reduceLeDiff, Int.reduceToNat, eq_self, not_true_eq_false]) | ((repeat ((fail_if_success with_reducible refine hK _ _ ?_); clear hK K)); (with_reducible refine hK _ _ ?_); clear hK K))))
        (repeat simp only [push_cast, Nat.reduceBEq, Nat.reduceLT, Nat.reduceEqDiff, reduceIte, reduceCtorEq, Nat.reduceMul, Nat.reduceAdd, Nat.reduceSub, Int.reduceEq, Int.reduceLT, Int.reduceLE, Int.reduceNeg, Int.reduceAdd, Int.reduceSub, Int.reduceMul, Nat.reduceLeDiff, Int.reduceToNat])
        exact ⟨S9, l8, hS9, hR9, hok8, by rw [hnn]; exact hl8, hSb9, hpd9⟩
      · (repeat (first | ((first | refine pas_plain rfl ?_ | refine pas_g rfl rfl ?_ | refine act_plain rfl ?_ | refine act_g rfl rfl ?_ | refine last_plain rfl ?_ | refine tail_plain rfl ?_ | refine tail_g rfl rfl ?_); (repeat simp only [push_cast, Nat.reduceBEq, Nat.reduceLT, Nat.reduceEqDiff, reduceIte, reduceCtorEq, Nat.reduceMul, Nat.reduceAdd, Nat.reduceSub, Int.reduceEq, Int.reduceLT, Int.reduceLE, Int.reduceNeg, Int.reduceAdd, Int.reduceSub, Int.reduceMul, Nat.reduceLeDiff, Int.reduceToNat, eq_self, not_true_eq_false, cell_h, cellO_cells, hpd9, hhr, s0])) | (refine tail_fin ?_) | (refine sch_fin ?_)))
        refine ⟨kept.refl _ _, ?_⟩
        (repeat (first | ((first | refine pas_plain rfl ?_ | refine pas_g rfl rfl ?_ | refine act_plain rfl ?_ | refine act_g rfl rfl ?_ | refine last_plain rfl ?_ | refine tail_plain rfl ?_ | refine tail_g rfl rfl ?_); (repeat simp only [push_cast, Nat.reduceBEq, Nat.reduceLT, Nat.reduceEqDiff, reduceIte, reduceCtorEq, Nat.reduceMul, Nat.reduceAdd, Nat.reduceSub, Int.reduceEq, Int.reduceLT, Int.reduceLE, Int.reduceNeg, Int.reduceAdd, Int.reduceSub, Int.reduceMul, Nat.reduceLeDiff, Int.reduceToNat, eq_self, not_true_eq_false, cell_h, cellO_cells, hpd9, hhr, s0])) | (refine tail_fin ?_) | (refine sch_fin ?_)))
        refine tTop.mono ?_
        intro v w' ⟨hv, hw⟩
        subst hv; subst w'
        refine ⟨kept.refl _ _, ?_⟩
        (repeat (first | ((first | refine pas_plain rfl ?_ | refine pas_g rfl rfl ?_ | refine act_plain rfl ?_ | refine act_g rfl rfl ?_ | refine last_plain rfl ?_ | refine tail_plain rfl ?_ | refine tail_g rfl rfl ?_); (repeat simp only [push_cast, Nat.reduceBEq, Nat.reduceLT, Nat.reduceEqDiff, reduceIte, reduceCtorEq, Nat.reduceMul, Nat.reduceAdd, Nat.reduceSub, Int.reduceEq, Int.reduceLT, Int.reduceLE, Int.reduceNeg, Int.reduceAdd, Int.reduceSub, Int.reduceMul, Nat.reduceLeDiff, Int.reduceToNat, eq_self, not_true_eq_false, cell_h, cellO_cells, hpd9, hhr, s0])) | (refine tail_fin ?_) | (refine sch_fin ?_)))
        refine rTop.mono ?_
        intro v w' ⟨hv, hw⟩
        subst hv; subst w'
        refine ⟨kept.refl _ _, ?_⟩
        (repeat (first | ((first | refine pas_plain rfl ?_ | refine pas_g rfl rfl ?_ | refine act_plain rfl ?_ | refine act_g rfl rfl ?_ | refine last_plain rfl ?_ | refine tail_plain rfl ?_ | refine tail_g rfl rfl ?_); (repeat simp only [push_cast, Nat.reduceBEq, Nat.reduceLT, Nat.reduceEqDiff, reduceIte, reduceCtorEq, Nat.reduceMul, Nat.reduceAdd, Nat.reduceSub, Int.reduceEq, Int.reduceLT, Int.reduceLE, Int.reduceNeg, Int.reduceAdd, Int.reduceSub, Int.reduceMul, Nat.reduceLeDiff, Int.reduceToNat, eq_self, not_true_eq_false, cell_h, cellO_cells, hpd9, hhr, s0])) | (refine tail_fin ?_) | (refine sch_fin ?_)))
        refine tAt.mono ?_
        intro v w' ⟨hv, hw⟩
        subst hv; subst w'
        refine ⟨kept.refl _ _, ?_⟩
        (repeat (first | ((first | refine pas_plain rfl ?_ | refine pas_g rfl rfl ?_ | refine act_plain rfl ?_ | refine act_g rfl rfl ?_ | refine last_plain rfl ?_ | refine tail_plain rfl ?_ | refine tail_g rfl rfl ?_); (repeat simp only [push_cast, Nat.reduceBEq, Nat.reduceLT, Nat.reduceEqDiff, reduceIte, reduceCtorEq, Nat.reduceMul, Nat.reduceAdd, Nat.reduceSub, Int.reduceEq, Int.reduceLT, Int.reduceLE, Int.reduceNeg, Int.reduceAdd, Int.reduceSub, Int.reduceMul, Nat.reduceLeDiff, Int.reduceToNat, eq_self, not_true_eq_false, cell_h, cellO_cells, hpd9, hhr, s0])) | (refine tail_fin ?_) | (refine sch_fin ?_)))
        refine rAt.mono ?_
        intro v w' ⟨hv, hw⟩
        subst hv; subst w'
        refine ⟨kept.refl _ _, ?_⟩
        (repeat (first | ((first | refine pas_plain rfl ?_ | refine pas_g rfl rfl ?_ | refine act_plain rfl ?_ | refine act_g rfl rfl ?_ | refine last_plain rfl ?_ | refine tail_plain rfl ?_ | refine tail_g rfl rfl ?_); (repeat simp only [push_cast, Nat.reduceBEq, Nat.reduceLT, Nat.reduceEqDiff, reduceIte, reduceCtorEq, Nat.reduceMul, Nat.reduceAdd, Nat.reduceSub, Int.reduceEq, Int.reduceLT, Int.reduceLE, Int.reduceNeg, Int.reduceAdd, Int.reduceSub, Int.reduceMul, Nat.reduceLeDiff, Int.reduceToNat, eq_self, not_true_eq_false, cell_h, cellO_cells, hpd9, hhr, s0])) | (refine tail_fin ?_) | (refine sch_fin ?_)))
        refine tIx.mono ?_
        intro v w' ⟨hv, hw⟩
        subst hv; subst w'
        refine ⟨kept.refl _ _, ?_⟩
        (repeat (first | ((first | refine pas_plain rfl ?_ | refine pas_g rfl rfl ?_ | refine act_plain rfl ?_ | refine act_g rfl rfl ?_ | refine last_plain rfl ?_ | refine tail_plain rfl ?_ | refine tail_g rfl rfl ?_); (repeat simp only [push_cast, Nat.reduceBEq, Nat.reduceLT, Nat.reduceEqDiff, reduceIte, reduceCtorEq, Nat.reduceMul, Nat.reduceAdd, Nat.reduceSub, Int.reduceEq, Int.reduceLT, Int.reduceLE, Int.reduceNeg, Int.reduceAdd, Int.reduceSub, Int.reduceMul, Nat.reduceLeDiff, Int.reduceToNat, eq_self, not_true_eq_false, cell_h, cellO_cells, hpd9, hhr, s0])) | (refine tail_fin ?_) | (refine sch_fin ?_)))
        refine rIx.mono ?_
        intro v w' ⟨hv, hw⟩
        subst hv; subst w'
        refine ⟨kept.refl _ _, ?_⟩
        (repeat (first | ((first | refine pas_plain rfl ?_ | refine pas_g rfl rfl ?_ | refine act_plain rfl ?_ | refine act_g rfl rfl ?_ | refine last_plain rfl ?_ | refine tail_plain rfl ?_ | refine tail_g rfl rfl ?_); (repeat simp only [push_cast, Nat.reduceBEq, Nat.reduceLT, Nat.reduceEqDiff, reduceIte, reduceCtorEq, Nat.reduceMul, Nat.reduceAdd, Nat.reduceSub, Int.reduceEq, Int.reduceLT, Int.reduceLE, Int.reduceNeg, Int.reduceAdd, Int.reduceSub, Int.reduceMul, Nat.reduceLeDiff, Int.reduceToNat, eq_self, not_true_eq_false, cell_h, cellO_cells, hpd9, hhr, s0])) | (refine tail_fin ?_) | (refine sch_fin ?_)))
        ((repeat simp only [push_cast, Nat.reduceBEq, Nat.reduceLT, Nat.reduceEqDiff, reduceIte, reduceCtorEq, Nat.reduceMul, Nat.reduceAdd, Nat.reduceSub, Int.reduceEq, Int.reduceLT, Int.reduceLE, Int.reduceNeg, Int.reduceAdd, Int.reduceSub, Int.reduceMul, Nat.reduceLeDiff, Int.reduceToNat, eq_self, not_true_eq_false]); (repeat (first | (with_reducible first | (refine hK _ _ ?_; clear hK K) | refine (show ∀ σ' w', _ → K σ' w' from by assumption) _ _ ?_ | refine W_seq_k fun K hK => ?_ | refine W_block_k fun K hK => ?_ | refine W_skip ?_ | refine W_ret ?_) | ((first | ((with_reducible refine W_id ?_); refine W_reg (by decide) (by rfl) ?_) | (with_reducible first | refine W_cond ?_ | refine hZ _ _ ?_ | refine W_exit ?_ | refine Wo_id ?_)); repeat1' simp only [push_cast, Nat.reduceBEq, Nat.reduceLT, Nat.reduceEqDiff, reduceIte, reduceCtorEq, Nat.reduceMul, Nat.reduceAdd, Nat.reduceSub, Int.reduceEq, Int.reduceLT, Int.reduceLE, Int.reduceNeg, Int.reduceAdd, Int.reduceSub, Int.reduceMul, Nat.reduceLeDiff, Int.reduceToNat, eq_self, not_true_eq_false]) | ((repeat ((fail_if_success with_reducible refine hK _ _ ?_); clear hK K)); (with_reducible refine hK _ _ ?_); clear hK K))))
        (repeat simp only [push_cast, Nat.reduceBEq, Nat.reduceLT, Nat.reduceEqDiff, reduceIte, reduceCtorEq, Nat.reduceMul, Nat.reduceAdd, Nat.reduceSub, Int.reduceEq, Int.reduceLT, Int.reduceLE, Int.reduceNeg, Int.reduceAdd, Int.reduceSub, Int.reduceMul, Nat.reduceLeDiff, Int.reduceToNat])
        exact ⟨S9, l8, hS9, hR9, hok8, by rw [hnn]; exact hl8, hSb9, hpd9⟩
    · (repeat (first | ((first | refine pas_plain rfl ?_ | refine pas_g rfl rfl ?_ | refine act_plain rfl ?_ | refine act_g rfl rfl ?_ | refine last_plain rfl ?_ | refine tail_plain rfl ?_ | refine tail_g rfl rfl ?_); (repeat simp only [push_cast, Nat.reduceBEq, Nat.reduceLT, Nat.reduceEqDiff, reduceIte, reduceCtorEq, Nat.reduceMul, Nat.reduceAdd, Nat.reduceSub, Int.reduceEq, Int.reduceLT, Int.reduceLE, Int.reduceNeg, Int.reduceAdd, Int.reduceSub, Int.reduceMul, Nat.reduceLeDiff, Int.reduceToNat, eq_self, not_true_eq_false, cell_h, cellO_cells, hpd9, hhr, s0])) | (refine tail_fin ?_) | (refine sch_fin ?_)))
      refine ⟨kept.refl _ _, ?_⟩
      (repeat (first | ((first | refine pas_plain rfl ?_ | refine pas_g rfl rfl ?_ | refine act_plain rfl ?_ | refine act_g rfl rfl ?_ | refine last_plain rfl ?_ | refine tail_plain rfl ?_ | refine tail_g rfl rfl ?_); (repeat simp only [push_cast, Nat.reduceBEq, Nat.reduceLT, Nat.reduceEqDiff, reduceIte, reduceCtorEq, Nat.reduceMul, Nat.reduceAdd, Nat.reduceSub, Int.reduceEq, Int.reduceLT, Int.reduceLE, Int.reduceNeg, Int.reduceAdd, Int.reduceSub, Int.reduceMul, Nat.reduceLeDiff, Int.reduceToNat, eq_self, not_true_eq_false, cell_h, cellO_cells, hpd9, hhr, s0])) | (refine tail_fin ?_) | (refine sch_fin ?_)))
      refine tLen.mono ?_
      intro v w' ⟨hv, hw⟩
      subst hv; subst w'
      refine ⟨kept.refl _ _, ?_⟩
      (repeat (first | ((first | refine pas_plain rfl ?_ | refine pas_g rfl rfl ?_ | refine act_plain rfl ?_ | refine act_g rfl rfl ?_ | refine last_plain rfl ?_ | refine tail_plain rfl ?_ | refine tail_g rfl rfl ?_); (repeat simp only [push_cast, Nat.reduceBEq, Nat.reduceLT, Nat.reduceEqDiff, reduceIte, reduceCtorEq, Nat.reduceMul, Nat.reduceAdd, Nat.reduceSub, Int.reduceEq, Int.reduceLT, Int.reduceLE, Int.reduceNeg, Int.reduceAdd, Int.reduceSub, Int.reduceMul, Nat.reduceLeDiff, Int.reduceToNat, eq_self, not_true_eq_false, cell_h, cellO_cells, hpd9, hhr, s0])) | (refine tail_fin ?_) | (refine sch_fin ?_)))
      refine two_mk ?_ ?_
      · (repeat (first | ((first | refine pas_plain rfl ?_ | refine pas_g rfl rfl ?_ | refine act_plain rfl ?_ | refine act_g rfl rfl ?_ | refine last_plain rfl ?_ | refine tail_plain rfl ?_ | refine tail_g rfl rfl ?_); (repeat simp only [push_cast, Nat.reduceBEq, Nat.reduceLT, Nat.reduceEqDiff, reduceIte, reduceCtorEq, Nat.reduceMul, Nat.reduceAdd, Nat.reduceSub, Int.reduceEq, Int.reduceLT, Int.reduceLE, Int.reduceNeg, Int.reduceAdd, Int.reduceSub, Int.reduceMul, Nat.reduceLeDiff, Int.reduceToNat, eq_self, not_true_eq_false, cell_h, cellO_cells, hpd9, hhr, s0])) | (refine tail_fin ?_) | (refine sch_fin ?_)))
        refine tTop.mono ?_
        intro v w' ⟨hv, hw⟩
        subst hv; subst w'
        refine ⟨kept.refl _ _, ?_⟩
        (repeat (first | ((first | refine pas_plain rfl ?_ | refine pas_g rfl rfl ?_ | refine act_plain rfl ?_ | refine act_g rfl rfl ?_ | refine last_plain rfl ?_ | refine tail_plain rfl ?_ | refine tail_g rfl rfl ?_); (repeat simp only [push_cast, Nat.reduceBEq, Nat.reduceLT, Nat.reduceEqDiff, reduceIte, reduceCtorEq, Nat.reduceMul, Nat.reduceAdd, Nat.reduceSub, Int.reduceEq, Int.reduceLT, Int.reduceLE, Int.reduceNeg, Int.reduceAdd, Int.reduceSub, Int.reduceMul, Nat.reduceLeDiff, Int.reduceToNat, eq_self, not_true_eq_false, cell_h, cellO_cells, hpd9, hhr, s0])) | (refine tail_fin ?_) | (refine sch_fin ?_)))
        refine ⟨kept.refl _ _, ?_⟩
        (repeat (first | ((first | refine pas_plain rfl ?_ | refine pas_g rfl rfl ?_ | refine act_plain rfl ?_ | refine act_g rfl rfl ?_ | refine last_plain rfl ?_ | refine tail_plain rfl ?_ | refine tail_g rfl rfl ?_); (repeat simp only [push_cast, Nat.reduceBEq, Nat.reduceLT, Nat.reduceEqDiff, reduceIte, reduceCtorEq, Nat.reduceMul, Nat.reduceAdd, Nat.reduceSub, Int.reduceEq, Int.reduceLT, Int.reduceLE, Int.reduceNeg, Int.reduceAdd, Int.reduceSub, Int.reduceMul, Nat.reduceLeDiff, Int.reduceToNat, eq_self, not_true_eq_false, cell_h, cellO_cells, hpd9, hhr, s0])) | (refine tail_fin ?_) | (refine sch_fin ?_)))
        refine rTop.mono ?_
        intro v w' ⟨hv, hw⟩
        subst hv; subst w'
        refine ⟨kept.refl _ _, ?_⟩
        (repeat (first | ((first | refine pas_plain rfl ?_ | refine pas_g rfl rfl ?_ | refine act_plain rfl ?_ | refine act_g rfl rfl ?_ | refine last_plain rfl ?_ | refine tail_plain rfl ?_ | refine tail_g rfl rfl ?_); (repeat simp only [push_cast, Nat.reduceBEq, Nat.reduceLT, Nat.reduceEqDiff, reduceIte, reduceCtorEq, Nat.reduceMul, Nat.reduceAdd, Nat.reduceSub, Int.reduceEq, Int.reduceLT, Int.reduceLE, Int.reduceNeg, Int.reduceAdd, Int.reduceSub, Int.reduceMul, Nat.reduceLeDiff, Int.reduceToNat, eq_self, not_true_eq_false, cell_h, cellO_cells, hpd9, hhr, s0])) | (refine tail_fin ?_) | (refine sch_fin ?_)))
        refine tAt.mono ?_
        intro v w' ⟨hv, hw⟩
        subst hv; subst w'
        refine ⟨kept.refl _ _, ?_⟩
        (repeat (first | ((first | refine pas_plain rfl ?_ | refine pas_g rfl rfl ?_ | refine act_plain rfl ?_ | refine act_g rfl rfl ?_ | refine last_plain rfl ?_ | refine tail_plain rfl ?_ | refine tail_g rfl rfl ?_); (repeat simp only [push_cast, Nat.reduceBEq, Nat.reduceLT, Nat.reduceEqDiff, reduceIte, reduceCtorEq, Nat.reduceMul, Nat.reduceAdd, Nat.reduceSub, Int.reduceEq, Int.reduceLT, Int.reduceLE, Int.reduceNeg, Int.reduceAdd, Int.reduceSub, Int.reduceMul, Nat.reduceLeDiff, Int.reduceToNat, eq_self, not_true_eq_false, cell_h, cellO_cells, hpd9, hhr, s0])) | (refine tail_fin ?_) | (refine sch_fin ?_)))
        refine rAt.mono ?_
        intro v w' ⟨hv, hw⟩
        subst hv; subst w'
        refine ⟨kept.refl _ _, ?_⟩
        (repeat (first | ((first | refine pas_plain rfl ?_ | refine pas_g rfl rfl ?_ | refine act_plain rfl ?_ | refine act_g rfl rfl ?_ | refine last_plain rfl ?_ | refine tail_plain rfl ?_ | refine tail_g rfl rfl ?_); (repeat simp only [push_cast, Nat.reduceBEq, Nat.reduceLT, Nat.reduceEqDiff, reduceIte, reduceCtorEq, Nat.reduceMul, Nat.reduceAdd, Nat.reduceSub, Int.reduceEq, Int.reduceLT, Int.reduceLE, Int.reduceNeg, Int.reduceAdd, Int.reduceSub, Int.reduceMul, Nat.reduceLeDiff, Int.reduceToNat, eq_self, not_true_eq_false, cell_h, cellO_cells, hpd9, hhr, s0])) | (refine tail_fin ?_) | (refine sch_fin ?_)))
        refine tIx.mono ?_
        intro v w' ⟨hv, hw⟩
        subst hv; subst w'
        refine ⟨kept.refl _ _, ?_⟩
        (repeat (first | ((first | refine pas_plain rfl ?_ | refine pas_g rfl rfl ?_ | refine act_plain rfl ?_ | refine act_g rfl rfl ?_ | refine last_plain rfl ?_ | refine tail_plain rfl ?_ | refine tail_g rfl rfl ?_); (repeat simp only [push_cast, Nat.reduceBEq, Nat.reduceLT, Nat.reduceEqDiff, reduceIte, reduceCtorEq, Nat.reduceMul, Nat.reduceAdd, Nat.reduceSub, Int.reduceEq, Int.reduceLT, Int.reduceLE, Int.reduceNeg, Int.reduceAdd, Int.reduceSub, Int.reduceMul, Nat.reduceLeDiff, Int.reduceToNat, eq_self, not_true_eq_false, cell_h, cellO_cells, hpd9, hhr, s0])) | (refine tail_fin ?_) | (refine sch_fin ?_)))
        refine rIx.mono ?_
        intro v w' ⟨hv, hw⟩
        subst hv; subst w'
        refine ⟨kept.refl _ _, ?_⟩
        (repeat (first | ((first | refine pas_plain rfl ?_ | refine pas_g rfl rfl ?_ | refine act_plain rfl ?_ | refine act_g rfl rfl ?_ | refine last_plain rfl ?_ | refine tail_plain rfl ?_ | refine tail_g rfl rfl ?_); (repeat simp only [push_cast, Nat.reduceBEq, Nat.reduceLT, Nat.reduceEqDiff, reduceIte, reduceCtorEq, Nat.reduceMul, Nat.reduceAdd, Nat.reduceSub, Int.reduceEq, Int.reduceLT, Int.reduceLE, Int.reduceNeg, Int.reduceAdd, Int.reduceSub, Int.reduceMul, Nat.reduceLeDiff, Int.reduceToNat, eq_self, not_true_eq_false, cell_h, cellO_cells, hpd9, hhr, s0])) | (refine tail_fin ?_) | (refine sch_fin ?_)))
        ((repeat simp only [push_cast, Nat.reduceBEq, Nat.reduceLT, Nat.reduceEqDiff, reduceIte, reduceCtorEq, Nat.reduceMul, Nat.reduceAdd, Nat.reduceSub, Int.reduceEq, Int.reduceLT, Int.reduceLE, Int.reduceNeg, Int.reduceAdd, Int.reduceSub, Int.reduceMul, Nat.reduceLeDiff, Int.reduceToNat, eq_self, not_true_eq_false]); (repeat (first | (with_reducible first | (refine hK _ _ ?_; clear hK K) | refine (show ∀ σ' w', _ → K σ' w' from by assumption) _ _ ?_ | refine W_seq_k fun K hK => ?_ | refine W_block_k fun K hK => ?_ | refine W_skip ?_ | refine W_ret ?_) | ((first | ((with_reducible refine W_id ?_); refine W_reg (by decide) (by rfl) ?_) | (with_reducible first | refine W_cond ?_ | refine hZ _ _ ?_ | refine W_exit ?_ | refine Wo_id ?_)); repeat1' simp only [push_cast, Nat.reduceBEq, Nat.reduceLT, Nat.reduceEqDiff, reduceIte, reduceCtorEq, Nat.reduceMul, Nat.reduceAdd, Nat.reduceSub, Int.reduceEq, Int.reduceLT, Int.reduceLE, Int.reduceNeg, Int.reduceAdd, Int.reduceSub, Int.reduceMul, Nat.reduceLeDiff, Int.reduceToNat, eq_self, not_true_eq_false]) | ((repeat ((fail_if_success with_reducible refine hK _ _ ?_); clear hK K)); (with_reducible refine hK _ _ ?_); clear hK K))))
        (repeat simp only [push_cast, Nat.reduceBEq, Nat.reduceLT, Nat.reduceEqDiff, reduceIte, reduceCtorEq, Nat.reduceMul, Nat.reduceAdd, Nat.reduceSub, Int.reduceEq, Int.reduceLT, Int.reduceLE, Int.reduceNeg, Int.reduceAdd, Int.reduceSub, Int.reduceMul, Nat.reduceLeDiff, Int.reduceToNat])
        exact ⟨S9, l8, hS9, hR9, hok8, by rw [hnn]; exact hl8, hSb9, hpd9⟩
      · (repeat (first | ((first | refine pas_plain rfl ?_ | refine pas_g rfl rfl ?_ | refine act_plain rfl ?_ | refine act_g rfl rfl ?_ | refine last_plain rfl ?_ | refine tail_plain rfl ?_ | refine tail_g rfl rfl ?_); (repeat simp only [push_cast, Nat.reduceBEq, Nat.reduceLT, Nat.reduceEqDiff, reduceIte, reduceCtorEq, Nat.reduceMul, Nat.reduceAdd, Nat.reduceSub, Int.reduceEq, Int.reduceLT, Int.reduceLE, Int.reduceNeg, Int.reduceAdd, Int.reduceSub, Int.reduceMul, Nat.reduceLeDiff, Int.reduceToNat, eq_self, not_true_eq_false, cell_h, cellO_cells, hpd9, hhr, s0])) | (refine tail_fin ?_) | (refine sch_fin ?_)))
        refine ⟨kept.refl _ _, ?_⟩
        (repeat (first | ((first | refine pas_plain rfl ?_ | refine pas_g rfl rfl ?_ | refine act_plain rfl ?_ | refine act_g rfl rfl ?_ | refine last_plain rfl ?_ | refine tail_plain rfl ?_ | refine tail_g rfl rfl ?_); (repeat simp only [push_cast, Nat.reduceBEq, Nat.reduceLT, Nat.reduceEqDiff, reduceIte, reduceCtorEq, Nat.reduceMul, Nat.reduceAdd, Nat.reduceSub, Int.reduceEq, Int.reduceLT, Int.reduceLE, Int.reduceNeg, Int.reduceAdd, Int.reduceSub, Int.reduceMul, Nat.reduceLeDiff, Int.reduceToNat, eq_self, not_true_eq_false, cell_h, cellO_cells, hpd9, hhr, s0])) | (refine tail_fin ?_) | (refine sch_fin ?_)))
        refine tTop.mono ?_
        intro v w' ⟨hv, hw⟩
        subst hv; subst w'
        refine ⟨kept.refl _ _, ?_⟩
        (repeat (first | ((first | refine pas_plain rfl ?_ | refine pas_g rfl rfl ?_ | refine act_plain rfl ?_ | refine act_g rfl rfl ?_ | refine last_plain rfl ?_ | refine tail_plain rfl ?_ | refine tail_g rfl rfl ?_); (repeat simp only [push_cast, Nat.reduceBEq, Nat.reduceLT, Nat.reduceEqDiff, reduceIte, reduceCtorEq, Nat.reduceMul, Nat.reduceAdd, Nat.reduceSub, Int.reduceEq, Int.reduceLT, Int.reduceLE, Int.reduceNeg, Int.reduceAdd, Int.reduceSub, Int.reduceMul, Nat.reduceLeDiff, Int.reduceToNat, eq_self, not_true_eq_false, cell_h, cellO_cells, hpd9, hhr, s0])) | (refine tail_fin ?_) | (refine sch_fin ?_)))
        refine rTop.mono ?_
        intro v w' ⟨hv, hw⟩
        subst hv; subst w'
        refine ⟨kept.refl _ _, ?_⟩
        (repeat (first | ((first | refine pas_plain rfl ?_ | refine pas_g rfl rfl ?_ | refine act_plain rfl ?_ | refine act_g rfl rfl ?_ | refine last_plain rfl ?_ | refine tail_plain rfl ?_ | refine tail_g rfl rfl ?_); (repeat simp only [push_cast, Nat.reduceBEq, Nat.reduceLT, Nat.reduceEqDiff, reduceIte, reduceCtorEq, Nat.reduceMul, Nat.reduceAdd, Nat.reduceSub, Int.reduceEq, Int.reduceLT, Int.reduceLE, Int.reduceNeg, Int.reduceAdd, Int.reduceSub, Int.reduceMul, Nat.reduceLeDiff, Int.reduceToNat, eq_self, not_true_eq_false, cell_h, cellO_cells, hpd9, hhr, s0])) | (refine tail_fin ?_) | (refine sch_fin ?_)))
        refine tAt.mono ?_
        intro v w' ⟨hv, hw⟩
        subst hv; subst w'
        refine ⟨kept.refl _ _, ?_⟩
        (repeat (first | ((first | refine pas_plain rfl ?_ | refine pas_g rfl rfl ?_ | refine act_plain rfl ?_ | refine act_g rfl rfl ?_ | refine last_plain rfl ?_ | refine tail_plain rfl ?_ | refine tail_g rfl rfl ?_); (repeat simp only [push_cast, Nat.reduceBEq, Nat.reduceLT, Nat.reduceEqDiff, reduceIte, reduceCtorEq, Nat.reduceMul, Nat.reduceAdd, Nat.reduceSub, Int.reduceEq, Int.reduceLT, Int.reduceLE, Int.reduceNeg, Int.reduceAdd, Int.reduceSub, Int.reduceMul, Nat.reduceLeDiff, Int.reduceToNat, eq_self, not_true_eq_false, cell_h, cellO_cells, hpd9, hhr, s0])) | (refine tail_fin ?_) | (refine sch_fin ?_)))
        refine rAt.mono ?_
        intro v w' ⟨hv, hw⟩
        subst hv; subst w'
        refine ⟨kept.refl _ _, ?_⟩
        (repeat (first | ((first | refine pas_plain rfl ?_ | refine pas_g rfl rfl ?_ | refine act_plain rfl ?_ | refine act_g rfl rfl ?_ | refine last_plain rfl ?_ | refine tail_plain rfl ?_ | refine tail_g rfl rfl ?_); (repeat simp only [push_cast, Nat.reduceBEq, Nat.reduceLT, Nat.reduceEqDiff, reduceIte, reduceCtorEq, Nat.reduceMul, Nat.reduceAdd, Nat.reduceSub, Int.reduceEq, Int.reduceLT, Int.reduceLE, Int.reduceNeg, Int.reduceAdd, Int.reduceSub, Int.reduceMul, Nat.reduceLeDiff, Int.reduceToNat, eq_self, not_true_eq_false, cell_h, cellO_cells, hpd9, hhr, s0])) | (refine tail_fin ?_) | (refine sch_fin ?_)))
        refine tIx.mono ?_
        intro v w' ⟨hv, hw⟩
        subst hv; subst w'
        refine ⟨kept.refl _ _, ?_⟩
        (repeat (first | ((first | refine pas_plain rfl ?_ | refine pas_g rfl rfl ?_ | refine act_plain rfl ?_ | refine act_g rfl rfl ?_ | refine last_plain rfl ?_ | refine tail_plain rfl ?_ | refine tail_g rfl rfl ?_); (repeat simp only [push_cast, Nat.reduceBEq, Nat.reduceLT, Nat.reduceEqDiff, reduceIte, reduceCtorEq, Nat.reduceMul, Nat.reduceAdd, Nat.reduceSub, Int.reduceEq, Int.reduceLT, Int.reduceLE, Int.reduceNeg, Int.reduceAdd, Int.reduceSub, Int.reduceMul, Nat.reduceLeDiff, Int.reduceToNat, eq_self, not_true_eq_false, cell_h, cellO_cells, hpd9, hhr, s0])) | (refine tail_fin ?_) | (refine sch_fin ?_)))
        refine rIx.mono ?_
        intro v w' ⟨hv, hw⟩
        subst hv; subst w'
        refine ⟨kept.refl _ _, ?_⟩
        (repeat (first | ((first | refine pas_plain rfl ?_ | refine pas_g rfl rfl ?_ | refine act_plain rfl ?_ | refine act_g rfl rfl ?_ | refine last_plain rfl ?_ | refine tail_plain rfl ?_ | refine tail_g rfl rfl ?_); (repeat simp only [push_cast, Nat.reduceBEq, Nat.reduceLT, Nat.reduceEqDiff, reduceIte, reduceCtorEq, Nat.reduceMul, Nat.reduceAdd, Nat.reduceSub, Int.reduceEq, Int.reduceLT, Int.reduceLE, Int.reduceNeg, Int.reduceAdd, Int.reduceSub, Int.reduceMul, Nat.reduceLeDiff, Int.reduceToNat, eq_self, not_true_eq_false, cell_h, cellO_cells, hpd9, hhr, s0])) | (refine tail_fin ?_) | (refine sch_fin ?_)))
        ((repeat simp only [push_cast, Nat.reduceBEq, Nat.reduceLT, Nat.reduceEqDiff, reduceIte, reduceCtorEq, Nat.reduceMul, Nat.reduceAdd, Nat.reduceSub, Int.reduceEq, Int.reduceLT, Int.reduceLE, Int.reduceNeg, Int.reduceAdd, Int.reduceSub, Int.reduceMul, Nat.reduceLeDiff, Int.reduceToNat, eq_self, not_true_eq_false]); (repeat (first | (with_reducible first | (refine hK _ _ ?_; clear hK K) | refine (show ∀ σ' w', _ → K σ' w' from by assumption) _ _ ?_ | refine W_seq_k fun K hK => ?_ | refine W_block_k fun K hK => ?_ | refine W_skip ?_ | refine W_ret ?_) | ((first | ((with_reducible refine W_id ?_); refine W_reg (by decide) (by rfl) ?_) | (with_reducible first | refine W_cond ?_ | refine hZ _ _ ?_ | refine W_exit ?_ | refine Wo_id ?_)); repeat1' simp only [push_cast, Nat.reduceBEq, Nat.reduceLT, Nat.reduceEqDiff, reduceIte, reduceCtorEq, Nat.reduceMul, Nat.reduceAdd, Nat.reduceSub, Int.reduceEq, Int.reduceLT, Int.reduceLE, Int.reduceNeg, Int.reduceAdd, Int.reduceSub, Int.reduceMul, Nat.reduceLeDiff, Int.reduceToNat, eq_self, not_true_eq_false]) | ((repeat ((fail_if_success with_reducible refine hK _ _ ?_); clear hK K)); (with_reducible refine hK _ _ ?_); clear hK K))))
        (repeat simp only [push_cast, Nat.reduceBEq, Nat.reduceLT, Nat.reduceEqDiff, reduceIte, reduceCtorEq, Nat.reduceMul, Nat.reduceAdd, Nat.reduceSub, Int.reduceEq, Int.reduceLT, Int.reduceLE, Int.reduceNeg, Int.reduceAdd, Int.reduceSub, Int.reduceMul, Nat.reduceLeDiff, Int.reduceToNat])
        exact ⟨S9, l8, hS9, hR9, hok8, by rw [hnn]; exact hl8, hSb9, hpd9⟩
  · obtain rfl : k = acts.length := by omega
    have e0 : ¬ (acts.length : Int) < (acts.length : Int) := by omega
    (repeat (first | (with_reducible first | (refine hK _ _ ?_; clear hK K) | refine (show ∀ σ' w', _ → K σ' w' from by assumption) _ _ ?_ | refine W_seq_k fun K hK => ?_ | refine W_block_k fun K hK => ?_ | refine W_skip ?_ | refine W_ret ?_) | ((first | ((with_reducible refine W_id ?_); refine W_reg (by decide) (by rfl) ?_) | (with_reducible first | refine W_cond ?_ | refine hZ _ _ ?_ | refine W_exit ?_ | refine Wo_id ?_)); repeat1' simp only [push_cast, Nat.reduceBEq, Nat.reduceLT, Nat.reduceEqDiff, reduceIte, reduceCtorEq, Nat.reduceMul, Nat.reduceAdd, Nat.reduceSub, Int.reduceEq, Int.reduceLT, Int.reduceLE, Int.reduceNeg, Int.reduceAdd, Int.reduceSub, Int.reduceMul, Nat.reduceLeDiff, Int.reduceToNat, e0]) | ((repeat ((fail_if_success with_reducible refine hK _ _ ?_); clear hK K)); (with_reducible refine hK _ _ ?_); clear hK K)))
    refine (pile_c (hg.ext hS6.out)).mono ?_
    rintro v w7 ⟨rfl, hx7⟩
    ((repeat simp only [push_cast, Nat.reduceBEq, Nat.reduceLT, Nat.reduceEqDiff, reduceIte, reduceCtorEq, Nat.reduceMul, Nat.reduceAdd, Nat.reduceSub, Int.reduceEq, Int.reduceLT, Int.reduceLE, Int.reduceNeg, Int.reduceAdd, Int.reduceSub, Int.reduceMul, Nat.reduceLeDiff, Int.reduceToNat]); (repeat (first | (with_reducible first | (refine hK _ _ ?_; clear hK K) | refine (show ∀ σ' w', _ → K σ' w' from by assumption) _ _ ?_ | refine W_seq_k fun K hK => ?_ | refine W_block_k fun K hK => ?_ | refine W_skip ?_ | refine W_ret ?_) | ((first | ((with_reducible refine W_id ?_); refine W_reg (by decide) (by rfl) ?_) | (with_reducible first | refine W_cond ?_ | refine hZ _ _ ?_ | refine W_exit ?_ | refine Wo_id ?_)); repeat1' simp only [push_cast, Nat.reduceBEq, Nat.reduceLT, Nat.reduceEqDiff, reduceIte, reduceCtorEq, Nat.reduceMul, Nat.reduceAdd, Nat.reduceSub, Int.reduceEq, Int.reduceLT, Int.reduceLE, Int.reduceNeg, Int.reduceAdd, Int.reduceSub, Int.reduceMul, Nat.reduceLeDiff, Int.reduceToNat]) | ((repeat ((fail_if_success with_reducible refine hK _ _ ?_); clear hK K)); (with_reducible refine hK _ _ ?_); clear hK K))))
    exact hS6.out.trans hx7
end Go.Proofs.YtkafpameheohdaaDoor
end
section
set_option linter.unusedSimpArgs false
set_option linter.unusedVariables false
namespace Go.Vk
open Go Go.RowKit Go.WideShapes Go.ChangeShapes
variable {H : Type} {enc : TypeId × Value → H} {P : Program}
theorem Ext.below {w w' : World} (h : Ext w w') : Below w.heap.size w w' := ⟨h.alike.os, h.alike.tape, h.alike.output, h.alike.size, fun _ hk => h.heap hk⟩
theorem post_ext {f : Func} {s : ChangeSpec} {apart fresh handsOn again : Bool} {W W' : World} {args : Array Value} {v : Value} {ds gs : List (DataW H)} {before pa pv : List MemPlace}
    (hW : DataW.Whole enc P f.params.toList s.vars apart W args.toList ds gs before)
    (hres : ∀ (b : Nat) (sp : Nat → Bool) (hd : Bool), DataW.TrodAll enc P W' b sp hd f.resultTypes.toList (v.resultList f.resultTypes.size) (s.fn H (ds ++ gs)).results [])
    (hargs : ∀ sp : Nat → Bool, (∀ p ∈ before, sp p.block = true) → DataW.TrodAll enc P W' 0 sp true f.params.toList args.toList (s.fn H (ds ++ gs)).args pa)
    (hvars : ∀ sp : Nat → Bool, (∀ p ∈ before, sp p.block = true) → DataW.TrodVars enc P W' sp s.vars (s.fn H (ds ++ gs)).vars pv)
    (hps : before = pa ++ pv) (hx : Ext W W')
    (hok : ∀ (j : Nat) (t : TypeId) (r : Value), f.resultTypes[j]? = some t → (v.resultList f.resultTypes.size)[j]? = some r → Value.okWide P W' .any 0 t r) :
    s.post enc P f apart fresh handsOn again W args v W' := by
  subst hps
  have hb := hx.below
  have lt : ∀ p ∈ pa ++ pv, p.block < W.heap.size := fun p hp => hW.lt p hp
  have old : ∀ p ∈ pa ++ pv, (fun b => decide (b < W.heap.size)) p.block = true := fun p hp => by simpa using lt p hp
  refine ⟨ds, gs, pa ++ pv, [], pa, pv, hW, hres _ _ _, hargs _ old, hvars _ old, World.keptBut_mono (fun p hp => ⟨hp, .inr (List.mem_append.1 hp)⟩) (hb.frame (· ∈ pa ++ pv)), fun _ => ?_⟩
  obtain ⟨_, _, _, _, _, hz, hn⟩ := hW
  refine ⟨hok, _, _, ([] ++ pa) ++ pv, ⟨[] ++ pa, pv, trodAll_append (hargs _ fun _ _ => rfl) (hres _ _ _), hvars _ fun _ _ => rfl, rfl, fun b off hp => ?_, fun ha => by simpa using hn ha⟩, fun p hp _ => by simpa using hp⟩
  have hin : MemPlace.cell b off ∈ pa ++ pv := by simpa using hp
  rw [hb.frozen (lt _ hin)]
  exact hz b off hin
end Go.Vk
end
