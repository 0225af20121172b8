/- What the arena's questions answer: has, holds, hangs, up. -/
import Derived.Test.YtkafpameheohdaaHd
import Derived.Test.YtkafpameheohdaaAr1
set_option linter.unusedSimpArgs false
set_option linter.unusedVariables false
namespace Go.Vk
/-- the node of a number -/
def nd? (L : List Nd) (i : Int) : Option Nd := if 0 ≤ i then L[i.toNat]? else none
theorem nd?_nat (L : List Nd) (k : Nat) : nd? L (k : Int) = L[k]? := by simp [nd?]
theorem nd?_some {L : List Nd} {i : Int} {n : Nd} (h : nd? L i = some n) : ∃ k : Nat, i = k ∧ L[k]? = some n ∧ k < L.length := by
  unfold nd? at h
  split at h
  · exact ⟨i.toNat, by omega, h, (List.getElem?_eq_some_iff.1 h).1⟩
  · exact absurd h (by simp)
theorem nd?_isSome (L : List Nd) (i : Int) : (nd? L i).isSome = decide (0 ≤ i ∧ i < L.length) := by
  unfold nd?
  split
  · rename_i h
    by_cases h2 : i < L.length
    · rw [List.getElem?_eq_getElem (by omega)]; simp [h, h2]
    · rw [List.getElem?_eq_none (by omega)]; simp [h2]
  · rename_i h; simp [h]
theorem nd?_none {L : List Nd} {i : Int} (h : nd? L i = none) : ¬ (0 ≤ i ∧ i < L.length) := by
  have := nd?_isSome L i
  rw [h] at this
  simpa using this.symm
def kidK (k : Int) : Bool := decide (k = 2 ∨ k = 3 ∨ k = 4 ∨ k = 5)
def holdK (k : Int) : Bool := decide (k = 1 ∨ k = 3 ∨ k = 6)
def holdsN (L : List Nd) (i : Int) : Bool := match nd? L i with | none => false | some n => holdK n.kind
def hangsN (L : List Nd) (i : Int) : Bool := match nd? L i with | none => false | some n => kidK n.kind
def upN (L : List Nd) (i : Int) : Int := match nd? L i with | none => -1 | some n => if n.kind = 6 then i - 1 else n.parent
/-- a node of an arena: where it lies -/
theorem Ar.at {w : World} {pa : Nat} {L : List Nd} {F : Nat → Prop} (h : Ar w pa L F) {k : Nat} {n : Nd} (hk : L[k]? = some n) :
    ∃ bn cap M m, ArM w pa bn cap M ∧ M.map Laid.nd = L ∧ (∀ b ∈ blocks pa bn M, F b) ∧ M[k]? = some m ∧ m.nd = n ∧ M.length = L.length := by
  obtain ⟨bn, cap, M, hM, rfl, hF⟩ := h
  rw [List.getElem?_map] at hk
  obtain ⟨m, hm, rfl⟩ := Option.map_eq_some_iff.1 hk
  exact ⟨bn, cap, M, m, hM, rfl, hF, hm, rfl, by simp⟩
end Go.Vk
namespace Go.Proofs.Ytkafpameheohdaa
open Go.Vk
set_option maxHeartbeats 40000000
theorem has_n (i : Int) {pa : Nat} {L : List Nd} {F : Nat → Prop} {w : World} (h : Ar w pa L F) :
    Gives Try.prog 57 #[.pointer (some ⟨pa, 0, none⟩), .int .i64 i] w fun v w' => v = .bool (nd? L i).isSome ∧ w' = w := by
  rw [nd?_isSome]; exact has_c i h
theorem up_c {pa : Nat} {L : List Nd} {F : Nat → Prop} {w : World} (h : Ar w pa L F) (hb : L.length < 1000000) {i : Int} (hi : (nd? L i).isSome) :
    Gives Try.prog 82 #[.pointer (some ⟨pa, 0, none⟩), .int .i64 i] w fun v w' => v = .int .i64 (upN L i) ∧ w' = w := by
  obtain ⟨n, hn⟩ := Option.isSome_iff_exists.1 hi
  unfold upN; rw [hn]
  obtain ⟨k, rfl, hk, hkl⟩ := nd?_some hn
  obtain ⟨bn, cap, M, m, hM, rfl, hF, hm, rfl, hl⟩ := h.at hk
  have hh := hM.head
  have c0 := hM.cell hm (j := 0) (by decide)
  have c6 := hM.cell hm (j := 6) (by decide)
  simp only [Laid.cells, List.getElem?_cons_zero, List.getElem?_cons_succ, Nat.add_zero] at c0 c6
  have hi1 : (0 : Int) ≤ k := by omega
  have hi2 : (k : Int) < M.length := by omega
  by_cases h6 : m.nd.kind = 6
  · refine Gives.of_W Try.call82 Try.func82 rfl Try.ntmps82 (by simp) ?_; intro Z hZ
    have hr : inI64 ((k : Int) - 1) := by unfold inI64; omega
    (repeat (first | (with_reducible first | (refine hK _ _ ?_; clear hK K) | refine (show ∀ σ' w', _ → K σ' w' from by assumption) _ _ ?_ | refine W_seq_k fun K hK => ?_ | refine W_block_k fun K hK => ?_ | refine W_skip ?_ | refine W_ret ?_) | ((first | ((with_reducible refine W_id ?_); refine W_reg (by decide) (by rfl) ?_) | (with_reducible first | refine W_cond ?_ | refine hZ _ _ ?_ | refine W_exit ?_ | refine Wo_id ?_)); repeat1' simp only [push_cast, Nat.reduceBEq, Nat.reduceLT, Nat.reduceEqDiff, reduceIte, reduceCtorEq, Nat.reduceMul, Nat.reduceAdd, Nat.reduceSub, Int.reduceEq, Int.reduceLT, Int.reduceLE, Int.reduceNeg, Int.reduceAdd, Int.reduceSub, Int.reduceMul, Nat.reduceLeDiff, Int.reduceToNat, hh, hi1, hi2, c0, h6, hr]) | ((repeat ((fail_if_success with_reducible refine hK _ _ ?_); clear hK K)); (with_reducible refine hK _ _ ?_); clear hK K)))
  · refine Gives.of_W Try.call82 Try.func82 rfl Try.ntmps82 (by simp) ?_; intro Z hZ
    (repeat (first | (with_reducible first | (refine hK _ _ ?_; clear hK K) | refine (show ∀ σ' w', _ → K σ' w' from by assumption) _ _ ?_ | refine W_seq_k fun K hK => ?_ | refine W_block_k fun K hK => ?_ | refine W_skip ?_ | refine W_ret ?_) | ((first | ((with_reducible refine W_id ?_); refine W_reg (by decide) (by rfl) ?_) | (with_reducible first | refine W_cond ?_ | refine hZ _ _ ?_ | refine W_exit ?_ | refine Wo_id ?_)); repeat1' simp only [push_cast, Nat.reduceBEq, Nat.reduceLT, Nat.reduceEqDiff, reduceIte, reduceCtorEq, Nat.reduceMul, Nat.reduceAdd, Nat.reduceSub, Int.reduceEq, Int.reduceLT, Int.reduceLE, Int.reduceNeg, Int.reduceAdd, Int.reduceSub, Int.reduceMul, Nat.reduceLeDiff, Int.reduceToNat, hh, hi1, hi2, c0, c6, h6]) | ((repeat ((fail_if_success with_reducible refine hK _ _ ?_); clear hK K)); (with_reducible refine hK _ _ ?_); clear hK K)))
theorem holds_c (i : Int) {pa : Nat} {L : List Nd} {F : Nat → Prop} {w : World} (h : Ar w pa L F) :
    Gives Try.prog 53 #[.pointer (some ⟨pa, 0, none⟩), .int .i64 i] w fun v w' => v = .bool (holdsN L i) ∧ w' = w := by
  unfold holdsN
  cases hn : nd? L i with
  | none =>
    refine Gives.of_W Try.call53 Try.func53 rfl Try.ntmps53 (by simp) ?_; intro Z hZ
    (repeat (first | (with_reducible first | (refine hK _ _ ?_; clear hK K) | refine (show ∀ σ' w', _ → K σ' w' from by assumption) _ _ ?_ | refine W_seq_k fun K hK => ?_ | refine W_block_k fun K hK => ?_ | refine W_skip ?_ | refine W_ret ?_) | ((first | ((with_reducible refine W_id ?_); refine W_reg (by decide) (by rfl) ?_) | (with_reducible first | refine W_cond ?_ | refine hZ _ _ ?_ | refine W_exit ?_ | refine Wo_id ?_)); repeat1' simp only [push_cast, Nat.reduceBEq, Nat.reduceLT, Nat.reduceEqDiff, reduceIte, reduceCtorEq, Nat.reduceMul, Nat.reduceAdd, Nat.reduceSub, Int.reduceEq, Int.reduceLT, Int.reduceLE, Int.reduceNeg, Int.reduceAdd, Int.reduceSub, Int.reduceMul, Nat.reduceLeDiff, Int.reduceToNat]) | ((repeat ((fail_if_success with_reducible refine hK _ _ ?_); clear hK K)); (with_reducible refine hK _ _ ?_); clear hK K)))
    refine (has_n i h).mono ?_
    rintro v w' ⟨rfl, rfl⟩
    rw [hn]
    ((repeat simp only [push_cast, Nat.reduceBEq, Nat.reduceLT, Nat.reduceEqDiff, reduceIte, reduceCtorEq, Nat.reduceMul, Nat.reduceAdd, Nat.reduceSub, Int.reduceEq, Int.reduceLT, Int.reduceLE, Int.reduceNeg, Int.reduceAdd, Int.reduceSub, Int.reduceMul, Nat.reduceLeDiff, Int.reduceToNat]); (repeat (first | (with_reducible first | (refine hK _ _ ?_; clear hK K) | refine (show ∀ σ' w', _ → K σ' w' from by assumption) _ _ ?_ | refine W_seq_k fun K hK => ?_ | refine W_block_k fun K hK => ?_ | refine W_skip ?_ | refine W_ret ?_) | ((first | ((with_reducible refine W_id ?_); refine W_reg (by decide) (by rfl) ?_) | (with_reducible first | refine W_cond ?_ | refine hZ _ _ ?_ | refine W_exit ?_ | refine Wo_id ?_)); repeat1' simp only [push_cast, Nat.reduceBEq, Nat.reduceLT, Nat.reduceEqDiff, reduceIte, reduceCtorEq, Nat.reduceMul, Nat.reduceAdd, Nat.reduceSub, Int.reduceEq, Int.reduceLT, Int.reduceLE, Int.reduceNeg, Int.reduceAdd, Int.reduceSub, Int.reduceMul, Nat.reduceLeDiff, Int.reduceToNat]) | ((repeat ((fail_if_success with_reducible refine hK _ _ ?_); clear hK K)); (with_reducible refine hK _ _ ?_); clear hK K))))
  | some n =>
    obtain ⟨k, rfl, hk, hkl⟩ := nd?_some hn
    obtain ⟨bn, cap, M, m, hM, rfl, hF, hm, rfl, hl⟩ := h.at hk
    have hh := hM.head
    have c0 := hM.cell hm (j := 0) (by decide)
    simp only [Laid.cells, List.getElem?_cons_zero, List.getElem?_cons_succ, Nat.add_zero] at c0
    have hi1 : (0 : Int) ≤ k := by omega
    have hi2 : (k : Int) < M.length := by omega
    by_cases h1 : m.nd.kind = 1
    · refine Gives.of_W Try.call53 Try.func53 rfl Try.ntmps53 (by simp) ?_; intro Z hZ
      (repeat (first | (with_reducible first | (refine hK _ _ ?_; clear hK K) | refine (show ∀ σ' w', _ → K σ' w' from by assumption) _ _ ?_ | refine W_seq_k fun K hK => ?_ | refine W_block_k fun K hK => ?_ | refine W_skip ?_ | refine W_ret ?_) | ((first | ((with_reducible refine W_id ?_); refine W_reg (by decide) (by rfl) ?_) | (with_reducible first | refine W_cond ?_ | refine hZ _ _ ?_ | refine W_exit ?_ | refine Wo_id ?_)); repeat1' simp only [push_cast, Nat.reduceBEq, Nat.reduceLT, Nat.reduceEqDiff, reduceIte, reduceCtorEq, Nat.reduceMul, Nat.reduceAdd, Nat.reduceSub, Int.reduceEq, Int.reduceLT, Int.reduceLE, Int.reduceNeg, Int.reduceAdd, Int.reduceSub, Int.reduceMul, Nat.reduceLeDiff, Int.reduceToNat]) | ((repeat ((fail_if_success with_reducible refine hK _ _ ?_); clear hK K)); (with_reducible refine hK _ _ ?_); clear hK K)))
      refine (has_n k h).mono ?_
      rintro v w' ⟨rfl, rfl⟩
      rw [hn]
      ((repeat simp only [push_cast, Nat.reduceBEq, Nat.reduceLT, Nat.reduceEqDiff, reduceIte, reduceCtorEq, Nat.reduceMul, Nat.reduceAdd, Nat.reduceSub, Int.reduceEq, Int.reduceLT, Int.reduceLE, Int.reduceNeg, Int.reduceAdd, Int.reduceSub, Int.reduceMul, Nat.reduceLeDiff, Int.reduceToNat, hh, hi1, hi2, c0, h1]); (repeat (first | (with_reducible first | (refine hK _ _ ?_; clear hK K) | refine (show ∀ σ' w', _ → K σ' w' from by assumption) _ _ ?_ | refine W_seq_k fun K hK => ?_ | refine W_block_k fun K hK => ?_ | refine W_skip ?_ | refine W_ret ?_) | ((first | ((with_reducible refine W_id ?_); refine W_reg (by decide) (by rfl) ?_) | (with_reducible first | refine W_cond ?_ | refine hZ _ _ ?_ | refine W_exit ?_ | refine Wo_id ?_)); repeat1' simp only [push_cast, Nat.reduceBEq, Nat.reduceLT, Nat.reduceEqDiff, reduceIte, reduceCtorEq, Nat.reduceMul, Nat.reduceAdd, Nat.reduceSub, Int.reduceEq, Int.reduceLT, Int.reduceLE, Int.reduceNeg, Int.reduceAdd, Int.reduceSub, Int.reduceMul, Nat.reduceLeDiff, Int.reduceToNat, hh, hi1, hi2, c0, h1]) | ((repeat ((fail_if_success with_reducible refine hK _ _ ?_); clear hK K)); (with_reducible refine hK _ _ ?_); clear hK K))))
      simp [holdK]
    by_cases h3 : m.nd.kind = 3
    · refine Gives.of_W Try.call53 Try.func53 rfl Try.ntmps53 (by simp) ?_; intro Z hZ
      (repeat (first | (with_reducible first | (refine hK _ _ ?_; clear hK K) | refine (show ∀ σ' w', _ → K σ' w' from by assumption) _ _ ?_ | refine W_seq_k fun K hK => ?_ | refine W_block_k fun K hK => ?_ | refine W_skip ?_ | refine W_ret ?_) | ((first | ((with_reducible refine W_id ?_); refine W_reg (by decide) (by rfl) ?_) | (with_reducible first | refine W_cond ?_ | refine hZ _ _ ?_ | refine W_exit ?_ | refine Wo_id ?_)); repeat1' simp only [push_cast, Nat.reduceBEq, Nat.reduceLT, Nat.reduceEqDiff, reduceIte, reduceCtorEq, Nat.reduceMul, Nat.reduceAdd, Nat.reduceSub, Int.reduceEq, Int.reduceLT, Int.reduceLE, Int.reduceNeg, Int.reduceAdd, Int.reduceSub, Int.reduceMul, Nat.reduceLeDiff, Int.reduceToNat]) | ((repeat ((fail_if_success with_reducible refine hK _ _ ?_); clear hK K)); (with_reducible refine hK _ _ ?_); clear hK K)))
      refine (has_n k h).mono ?_
      rintro v w' ⟨rfl, rfl⟩
      rw [hn]
      ((repeat simp only [push_cast, Nat.reduceBEq, Nat.reduceLT, Nat.reduceEqDiff, reduceIte, reduceCtorEq, Nat.reduceMul, Nat.reduceAdd, Nat.reduceSub, Int.reduceEq, Int.reduceLT, Int.reduceLE, Int.reduceNeg, Int.reduceAdd, Int.reduceSub, Int.reduceMul, Nat.reduceLeDiff, Int.reduceToNat, hh, hi1, hi2, c0, h3]); (repeat (first | (with_reducible first | (refine hK _ _ ?_; clear hK K) | refine (show ∀ σ' w', _ → K σ' w' from by assumption) _ _ ?_ | refine W_seq_k fun K hK => ?_ | refine W_block_k fun K hK => ?_ | refine W_skip ?_ | refine W_ret ?_) | ((first | ((with_reducible refine W_id ?_); refine W_reg (by decide) (by rfl) ?_) | (with_reducible first | refine W_cond ?_ | refine hZ _ _ ?_ | refine W_exit ?_ | refine Wo_id ?_)); repeat1' simp only [push_cast, Nat.reduceBEq, Nat.reduceLT, Nat.reduceEqDiff, reduceIte, reduceCtorEq, Nat.reduceMul, Nat.reduceAdd, Nat.reduceSub, Int.reduceEq, Int.reduceLT, Int.reduceLE, Int.reduceNeg, Int.reduceAdd, Int.reduceSub, Int.reduceMul, Nat.reduceLeDiff, Int.reduceToNat, hh, hi1, hi2, c0, h3]) | ((repeat ((fail_if_success with_reducible refine hK _ _ ?_); clear hK K)); (with_reducible refine hK _ _ ?_); clear hK K))))
      simp [holdK]
    refine Gives.of_W Try.call53 Try.func53 rfl Try.ntmps53 (by simp) ?_; intro Z hZ
    (repeat (first | (with_reducible first | (refine hK _ _ ?_; clear hK K) | refine (show ∀ σ' w', _ → K σ' w' from by assumption) _ _ ?_ | refine W_seq_k fun K hK => ?_ | refine W_block_k fun K hK => ?_ | refine W_skip ?_ | refine W_ret ?_) | ((first | ((with_reducible refine W_id ?_); refine W_reg (by decide) (by rfl) ?_) | (with_reducible first | refine W_cond ?_ | refine hZ _ _ ?_ | refine W_exit ?_ | refine Wo_id ?_)); repeat1' simp only [push_cast, Nat.reduceBEq, Nat.reduceLT, Nat.reduceEqDiff, reduceIte, reduceCtorEq, Nat.reduceMul, Nat.reduceAdd, Nat.reduceSub, Int.reduceEq, Int.reduceLT, Int.reduceLE, Int.reduceNeg, Int.reduceAdd, Int.reduceSub, Int.reduceMul, Nat.reduceLeDiff, Int.reduceToNat]) | ((repeat ((fail_if_success with_reducible refine hK _ _ ?_); clear hK K)); (with_reducible refine hK _ _ ?_); clear hK K)))
    refine (has_n k h).mono ?_
    rintro v w' ⟨rfl, rfl⟩
    rw [hn]
    ((repeat simp only [push_cast, Nat.reduceBEq, Nat.reduceLT, Nat.reduceEqDiff, reduceIte, reduceCtorEq, Nat.reduceMul, Nat.reduceAdd, Nat.reduceSub, Int.reduceEq, Int.reduceLT, Int.reduceLE, Int.reduceNeg, Int.reduceAdd, Int.reduceSub, Int.reduceMul, Nat.reduceLeDiff, Int.reduceToNat, hh, hi1, hi2, c0, h1, h3]); (repeat (first | (with_reducible first | (refine hK _ _ ?_; clear hK K) | refine (show ∀ σ' w', _ → K σ' w' from by assumption) _ _ ?_ | refine W_seq_k fun K hK => ?_ | refine W_block_k fun K hK => ?_ | refine W_skip ?_ | refine W_ret ?_) | ((first | ((with_reducible refine W_id ?_); refine W_reg (by decide) (by rfl) ?_) | (with_reducible first | refine W_cond ?_ | refine hZ _ _ ?_ | refine W_exit ?_ | refine Wo_id ?_)); repeat1' simp only [push_cast, Nat.reduceBEq, Nat.reduceLT, Nat.reduceEqDiff, reduceIte, reduceCtorEq, Nat.reduceMul, Nat.reduceAdd, Nat.reduceSub, Int.reduceEq, Int.reduceLT, Int.reduceLE, Int.reduceNeg, Int.reduceAdd, Int.reduceSub, Int.reduceMul, Nat.reduceLeDiff, Int.reduceToNat, hh, hi1, hi2, c0, h1, h3]) | ((repeat ((fail_if_success with_reducible refine hK _ _ ?_); clear hK K)); (with_reducible refine hK _ _ ?_); clear hK K))))
    simp [holdK, h1, h3]
theorem hangs_c (i : Int) {pa : Nat} {L : List Nd} {F : Nat → Prop} {w : World} (h : Ar w pa L F) :
    Gives Try.prog 54 #[.pointer (some ⟨pa, 0, none⟩), .int .i64 i] w fun v w' => v = .bool (hangsN L i) ∧ w' = w := by
  unfold hangsN
  cases hn : nd? L i with
  | none =>
    refine Gives.of_W Try.call54 Try.func54 rfl Try.ntmps54 (by simp) ?_; intro Z hZ
    (repeat (first | (with_reducible first | (refine hK _ _ ?_; clear hK K) | refine (show ∀ σ' w', _ → K σ' w' from by assumption) _ _ ?_ | refine W_seq_k fun K hK => ?_ | refine W_block_k fun K hK => ?_ | refine W_skip ?_ | refine W_ret ?_) | ((first | ((with_reducible refine W_id ?_); refine W_reg (by decide) (by rfl) ?_) | (with_reducible first | refine W_cond ?_ | refine hZ _ _ ?_ | refine W_exit ?_ | refine Wo_id ?_)); repeat1' simp only [push_cast, Nat.reduceBEq, Nat.reduceLT, Nat.reduceEqDiff, reduceIte, reduceCtorEq, Nat.reduceMul, Nat.reduceAdd, Nat.reduceSub, Int.reduceEq, Int.reduceLT, Int.reduceLE, Int.reduceNeg, Int.reduceAdd, Int.reduceSub, Int.reduceMul, Nat.reduceLeDiff, Int.reduceToNat]) | ((repeat ((fail_if_success with_reducible refine hK _ _ ?_); clear hK K)); (with_reducible refine hK _ _ ?_); clear hK K)))
    refine (has_n i h).mono ?_
    rintro v w' ⟨rfl, rfl⟩
    rw [hn]
    ((repeat simp only [push_cast, Nat.reduceBEq, Nat.reduceLT, Nat.reduceEqDiff, reduceIte, reduceCtorEq, Nat.reduceMul, Nat.reduceAdd, Nat.reduceSub, Int.reduceEq, Int.reduceLT, Int.reduceLE, Int.reduceNeg, Int.reduceAdd, Int.reduceSub, Int.reduceMul, Nat.reduceLeDiff, Int.reduceToNat]); (repeat (first | (with_reducible first | (refine hK _ _ ?_; clear hK K) | refine (show ∀ σ' w', _ → K σ' w' from by assumption) _ _ ?_ | refine W_seq_k fun K hK => ?_ | refine W_block_k fun K hK => ?_ | refine W_skip ?_ | refine W_ret ?_) | ((first | ((with_reducible refine W_id ?_); refine W_reg (by decide) (by rfl) ?_) | (with_reducible first | refine W_cond ?_ | refine hZ _ _ ?_ | refine W_exit ?_ | refine Wo_id ?_)); repeat1' simp only [push_cast, Nat.reduceBEq, Nat.reduceLT, Nat.reduceEqDiff, reduceIte, reduceCtorEq, Nat.reduceMul, Nat.reduceAdd, Nat.reduceSub, Int.reduceEq, Int.reduceLT, Int.reduceLE, Int.reduceNeg, Int.reduceAdd, Int.reduceSub, Int.reduceMul, Nat.reduceLeDiff, Int.reduceToNat]) | ((repeat ((fail_if_success with_reducible refine hK _ _ ?_); clear hK K)); (with_reducible refine hK _ _ ?_); clear hK K))))
  | some n =>
    obtain ⟨k, rfl, hk, hkl⟩ := nd?_some hn
    obtain ⟨bn, cap, M, m, hM, rfl, hF, hm, rfl, hl⟩ := h.at hk
    have hh := hM.head
    have c0 := hM.cell hm (j := 0) (by decide)
    simp only [Laid.cells, List.getElem?_cons_zero, List.getElem?_cons_succ, Nat.add_zero] at c0
    have hi1 : (0 : Int) ≤ k := by omega
    have hi2 : (k : Int) < M.length := by omega
    refine Gives.of_W Try.call54 Try.func54 rfl Try.ntmps54 (by simp) ?_; intro Z hZ
    (repeat (first | (with_reducible first | (refine hK _ _ ?_; clear hK K) | refine (show ∀ σ' w', _ → K σ' w' from by assumption) _ _ ?_ | refine W_seq_k fun K hK => ?_ | refine W_block_k fun K hK => ?_ | refine W_skip ?_ | refine W_ret ?_) | ((first | ((with_reducible refine W_id ?_); refine W_reg (by decide) (by rfl) ?_) | (with_reducible first | refine W_cond ?_ | refine hZ _ _ ?_ | refine W_exit ?_ | refine Wo_id ?_)); repeat1' simp only [push_cast, Nat.reduceBEq, Nat.reduceLT, Nat.reduceEqDiff, reduceIte, reduceCtorEq, Nat.reduceMul, Nat.reduceAdd, Nat.reduceSub, Int.reduceEq, Int.reduceLT, Int.reduceLE, Int.reduceNeg, Int.reduceAdd, Int.reduceSub, Int.reduceMul, Nat.reduceLeDiff, Int.reduceToNat]) | ((repeat ((fail_if_success with_reducible refine hK _ _ ?_); clear hK K)); (with_reducible refine hK _ _ ?_); clear hK K)))
    refine (has_n k h).mono ?_
    rintro v w' ⟨rfl, rfl⟩
    rw [hn]
    ((repeat simp only [push_cast, Nat.reduceBEq, Nat.reduceLT, Nat.reduceEqDiff, reduceIte, reduceCtorEq, Nat.reduceMul, Nat.reduceAdd, Nat.reduceSub, Int.reduceEq, Int.reduceLT, Int.reduceLE, Int.reduceNeg, Int.reduceAdd, Int.reduceSub, Int.reduceMul, Nat.reduceLeDiff, Int.reduceToNat, hh, hi1, hi2, c0]); (repeat (first | (with_reducible first | (refine hK _ _ ?_; clear hK K) | refine (show ∀ σ' w', _ → K σ' w' from by assumption) _ _ ?_ | refine W_seq_k fun K hK => ?_ | refine W_block_k fun K hK => ?_ | refine W_skip ?_ | refine W_ret ?_) | ((first | ((with_reducible refine W_id ?_); refine W_reg (by decide) (by rfl) ?_) | (with_reducible first | refine W_cond ?_ | refine hZ _ _ ?_ | refine W_exit ?_ | refine Wo_id ?_)); repeat1' simp only [push_cast, Nat.reduceBEq, Nat.reduceLT, Nat.reduceEqDiff, reduceIte, reduceCtorEq, Nat.reduceMul, Nat.reduceAdd, Nat.reduceSub, Int.reduceEq, Int.reduceLT, Int.reduceLE, Int.reduceNeg, Int.reduceAdd, Int.reduceSub, Int.reduceMul, Nat.reduceLeDiff, Int.reduceToNat, hh, hi1, hi2, c0]) | ((repeat ((fail_if_success with_reducible refine hK _ _ ?_); clear hK K)); (with_reducible refine hK _ _ ?_); clear hK K))))
    refine (kid_c m.nd.kind).mono ?_
    rintro v w' ⟨rfl, rfl⟩
    ((repeat simp only [push_cast, Nat.reduceBEq, Nat.reduceLT, Nat.reduceEqDiff, reduceIte, reduceCtorEq, Nat.reduceMul, Nat.reduceAdd, Nat.reduceSub, Int.reduceEq, Int.reduceLT, Int.reduceLE, Int.reduceNeg, Int.reduceAdd, Int.reduceSub, Int.reduceMul, Nat.reduceLeDiff, Int.reduceToNat, hh, hi1, hi2, c0]); (repeat (first | (with_reducible first | (refine hK _ _ ?_; clear hK K) | refine (show ∀ σ' w', _ → K σ' w' from by assumption) _ _ ?_ | refine W_seq_k fun K hK => ?_ | refine W_block_k fun K hK => ?_ | refine W_skip ?_ | refine W_ret ?_) | ((first | ((with_reducible refine W_id ?_); refine W_reg (by decide) (by rfl) ?_) | (with_reducible first | refine W_cond ?_ | refine hZ _ _ ?_ | refine W_exit ?_ | refine Wo_id ?_)); repeat1' simp only [push_cast, Nat.reduceBEq, Nat.reduceLT, Nat.reduceEqDiff, reduceIte, reduceCtorEq, Nat.reduceMul, Nat.reduceAdd, Nat.reduceSub, Int.reduceEq, Int.reduceLT, Int.reduceLE, Int.reduceNeg, Int.reduceAdd, Int.reduceSub, Int.reduceMul, Nat.reduceLeDiff, Int.reduceToNat, hh, hi1, hi2, c0]) | ((repeat ((fail_if_success with_reducible refine hK _ _ ?_); clear hK K)); (with_reducible refine hK _ _ ?_); clear hK K))))
    simp [kidK]
end Go.Proofs.Ytkafpameheohdaa
