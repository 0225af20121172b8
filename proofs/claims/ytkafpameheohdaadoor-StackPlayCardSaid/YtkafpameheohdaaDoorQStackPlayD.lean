/- What the proof leans on, part 4 of 11. -/
import Derived.Test.YtkafpameheohdaaDoorQStackPlayC
section
set_option linter.unusedSimpArgs false
set_option linter.unusedVariables false
namespace Go.Vk
open Go
def spB : ByteArray := ⟨((([32, 97, 100, 100, 114, 101, 115, 115, 32, 97, 112, 112, 108, 101, 116, 32, 97, 114, 101, 97, 32, 97, 114, 116, 105, 99, 108, 101, 32, 97, 115, 105, 100, 101, 32, 98, 97, 115, 101, 32, 98, 97, 115, 101, 102, 111, 110, 116, 32, 98, 103, 115, 111, 117, 110, 100, 32, 98, 108, 111, 99].append [107, 113, 117, 111, 116, 101, 32, 98, 111, 100, 121, 32, 98, 114, 32, 98, 117, 116, 116, 111, 110, 32, 99, 97, 112, 116, 105, 111, 110, 32, 99, 101, 110, 116, 101, 114, 32, 99, 111, 108, 32, 99, 111, 108, 103, 114, 111, 117, 112, 32, 100, 100, 32, 100, 101, 116, 97, 105, 108, 115, 32]).append ([100, 105, 114, 32, 100, 105, 118, 32, 100, 108, 32, 100, 116, 32, 101, 109, 98, 101, 100, 32, 102, 105, 101, 108, 100, 115, 101, 116, 32, 102, 105, 103, 99, 97, 112, 116, 105, 111, 110, 32, 102, 105, 103, 117, 114, 101, 32, 102, 111, 111, 116, 101, 114, 32, 102, 111, 114, 109, 32, 102, 114].append [97, 109, 101, 32, 102, 114, 97, 109, 101, 115, 101, 116, 32, 104, 49, 32, 104, 50, 32, 104, 51, 32, 104, 52, 32, 104, 53, 32, 104, 54, 32, 104, 101, 97, 100, 32, 104, 101, 97, 100, 101, 114, 32, 104, 103, 114, 111, 117, 112, 32, 104, 114, 32, 104, 116, 109, 108, 32, 105, 102, 114, 97])).append (([109, 101, 32, 105, 109, 103, 32, 105, 110, 112, 117, 116, 32, 107, 101, 121, 103, 101, 110, 32, 108, 105, 32, 108, 105, 110, 107, 32, 108, 105, 115, 116, 105, 110, 103, 32, 109, 97, 105, 110, 32, 109, 97, 114, 113, 117, 101, 101, 32, 109, 101, 110, 117, 32, 109, 101, 116, 97, 32, 110, 97].append [118, 32, 110, 111, 101, 109, 98, 101, 100, 32, 110, 111, 102, 114, 97, 109, 101, 115, 32, 110, 111, 115, 99, 114, 105, 112, 116, 32, 111, 98, 106, 101, 99, 116, 32, 111, 108, 32, 112, 32, 112, 97, 114, 97, 109, 32, 112, 108, 97, 105, 110, 116, 101, 120, 116, 32, 112, 114, 101, 32, 115]).append ([99, 114, 105, 112, 116, 32, 115, 101, 97, 114, 99, 104, 32, 115, 101, 99, 116, 105, 111, 110, 32, 115, 101, 108, 101, 99, 116, 32, 115, 111, 117, 114, 99, 101, 32, 115, 116, 121, 108, 101, 32, 115, 117, 109, 109, 97, 114, 121, 32, 116, 97, 98, 108, 101, 32, 116, 98, 111, 100, 121, 32].append [116, 100, 32, 116, 101, 109, 112, 108, 97, 116, 101, 32, 116, 101, 120, 116, 97, 114, 101, 97, 32, 116, 102, 111, 111, 116, 32, 116, 104, 32, 116, 104, 101, 97, 100, 32, 116, 105, 116, 108, 101, 32, 116, 114, 32, 116, 114, 97, 99, 107, 32, 117, 108, 32, 119, 98, 114, 32, 120, 109, 112, 32]))).toArray⟩
def mathB : ByteArray := ⟨#[32, 97, 110, 110, 111, 116, 97, 116, 105, 111, 110, 45, 120, 109, 108, 32, 109, 105, 32, 109, 110, 32, 109, 111, 32, 109, 115, 32, 109, 116, 101, 120, 116, 32]⟩
def svgB : ByteArray := ⟨#[32, 100, 101, 115, 99, 32, 102, 111, 114, 101, 105, 103, 110, 111, 98, 106, 101, 99, 116, 32, 116, 105, 116, 108, 101, 32]⟩
def impB : ByteArray := ⟨#[32, 100, 100, 32, 100, 116, 32, 108, 105, 32, 111, 112, 116, 103, 114, 111, 117, 112, 32, 111, 112, 116, 105, 111, 110, 32, 112, 32, 114, 98, 32, 114, 112, 32, 114, 116, 32, 114, 116, 99, 32]⟩
def thoB : ByteArray := ⟨#[32, 99, 97, 112, 116, 105, 111, 110, 32, 99, 111, 108, 103, 114, 111, 117, 112, 32, 116, 98, 111, 100, 121, 32, 116, 100, 32, 116, 102, 111, 111, 116, 32, 116, 104, 32, 116, 104, 101, 97, 100, 32, 116, 114, 32]⟩
def norB : ByteArray := ⟨#[32, 97, 112, 112, 108, 101, 116, 32, 99, 97, 112, 116, 105, 111, 110, 32, 104, 116, 109, 108, 32, 109, 97, 114, 113, 117, 101, 101, 32, 111, 98, 106, 101, 99, 116, 32, 116, 97, 98, 108, 101, 32, 116, 100, 32, 116, 101, 109, 112, 108, 97, 116, 101, 32, 116, 104, 32]⟩
def tabB : ByteArray := ⟨#[32, 104, 116, 109, 108, 32, 116, 97, 98, 108, 101, 32, 116, 101, 109, 112, 108, 97, 116, 101, 32]⟩
def lisB : ByteArray := ⟨#[32, 97, 112, 112, 108, 101, 116, 32, 99, 97, 112, 116, 105, 111, 110, 32, 104, 116, 109, 108, 32, 109, 97, 114, 113, 117, 101, 101, 32, 111, 98, 106, 101, 99, 116, 32, 116, 97, 98, 108, 101, 32, 116, 100, 32, 116, 101, 109, 112, 108, 97, 116, 101, 32, 116, 104, 32, 111, 108, 32, 117, 108, 32]⟩
def butB : ByteArray := ⟨#[32, 97, 112, 112, 108, 101, 116, 32, 99, 97, 112, 116, 105, 111, 110, 32, 104, 116, 109, 108, 32, 109, 97, 114, 113, 117, 101, 101, 32, 111, 98, 106, 101, 99, 116, 32, 116, 97, 98, 108, 101, 32, 116, 100, 32, 116, 101, 109, 112, 108, 97, 116, 101, 32, 116, 104, 32, 98, 117, 116, 116, 111, 110, 32]⟩
def inB (l s : ByteArray) : Bool := decide (s ≠ ⟨#[]⟩) && !decide (0 ≤ Lib.indexByte s.data.toList 32) && Lib.contains l.data.toList ((⟨#[32]⟩ ++ s ++ ⟨#[32]⟩ : ByteArray).data.toList)
def specN (space : Int) (s : ByteArray) : Bool := if space = 0 then inB spB s else if space = 2 then inB mathB s else if space = 1 then inB svgB s else false
def impN (s : ByteArray) : Bool := inB impB s
def thoN (s : ByteArray) : Bool := impN s || inB thoB s
def scB (which : Int) : ByteArray := if which = 0 then norB else if which = 1 then lisB else if which = 2 then butB else tabB
def scopeN (which space : Int) (s : ByteArray) : Bool := if which < 0 ∨ 4 ≤ which then false else if space = 0 then inB (scB which) s else if which = 3 then false else specN space s
end Go.Vk
namespace Go.Proofs.YtkafpameheohdaaDoor
open Go Go.Vk
structure GL (w : World) : Prop where
  max : MaxAt w
  sc : ∃ t f, w.heap[0]? = some (.cells #[.string norB, .string lisB, .string butB, .string tabB] t f)
theorem GL.ext {w w' : World} (h : GL w) (hx : Ext w w') : GL w' := ⟨h.max.ext hx, let ⟨t, f, h⟩ := h.sc; ⟨t, f, hx.blk h⟩⟩
set_option maxHeartbeats 40000000
theorem in_c (l s : ByteArray) {w : World} (hm : MaxAt w) (hl : l.size < 4294967281) (hs : s.size < 4294967281) : Gives Tryd.prog 71 #[.string l, .string s] w fun v w' => v = .bool (inB l s) ∧ w' = w := by
  by_cases h0 : s = ⟨#[]⟩
  · have e : inB l s = false := by unfold inB; rw [h0]; rfl
    refine Gives.of_W Tryd.call71 Tryd.func71 rfl Tryd.ntmps71 (by simp) ?_; intro Z hZ
    (repeat (first | (with_reducible first | (refine hK _ _ ?_; clear hK K) | refine (show ∀ σ' w', _ → K σ' w' from by assumption) _ _ ?_ | refine W_seq_k fun K hK => ?_ | refine W_block_k fun K hK => ?_ | refine W_skip ?_ | refine W_ret ?_) | ((first | ((with_reducible refine W_id ?_); refine W_reg (by decide) (by rfl) ?_) | (with_reducible first | refine W_cond ?_ | refine hZ _ _ ?_ | refine W_exit ?_ | refine Wo_id ?_)); repeat1' simp only [push_cast, Nat.reduceBEq, Nat.reduceLT, Nat.reduceEqDiff, reduceIte, reduceCtorEq, Nat.reduceMul, Nat.reduceAdd, Nat.reduceSub, Int.reduceEq, Int.reduceLT, Int.reduceLE, Int.reduceNeg, Int.reduceAdd, Int.reduceSub, Int.reduceMul, Nat.reduceLeDiff, Int.reduceToNat, h0, not_true_eq_false]) | ((repeat ((fail_if_success with_reducible refine hK _ _ ?_); clear hK K)); (with_reducible refine hK _ _ ?_); clear hK K)))
    rw [← h0, e]
  · refine Gives.of_W Tryd.call71 Tryd.func71 rfl Tryd.ntmps71 (by simp) ?_; intro Z hZ
    (repeat (first | (with_reducible first | (refine hK _ _ ?_; clear hK K) | refine (show ∀ σ' w', _ → K σ' w' from by assumption) _ _ ?_ | refine W_seq_k fun K hK => ?_ | refine W_block_k fun K hK => ?_ | refine W_skip ?_ | refine W_ret ?_) | ((first | ((with_reducible refine W_id ?_); refine W_reg (by decide) (by rfl) ?_) | (with_reducible first | refine W_cond ?_ | refine hZ _ _ ?_ | refine W_exit ?_ | refine Wo_id ?_)); repeat1' simp only [push_cast, Nat.reduceBEq, Nat.reduceLT, Nat.reduceEqDiff, reduceIte, reduceCtorEq, Nat.reduceMul, Nat.reduceAdd, Nat.reduceSub, Int.reduceEq, Int.reduceLT, Int.reduceLE, Int.reduceNeg, Int.reduceAdd, Int.reduceSub, Int.reduceMul, Nat.reduceLeDiff, Int.reduceToNat, h0, not_false_eq_true]) | ((repeat ((fail_if_success with_reducible refine hK _ _ ?_); clear hK K)); (with_reducible refine hK _ _ ?_); clear hK K)))
    refine (contains_one_c s 32 w).mono ?_
    intro v w' ⟨hv, hw⟩
    subst hv; subst w'
    cases hb : decide (0 ≤ Lib.indexByte s.data.toList 32) with
    | true =>
      have e : inB l s = false := by unfold inB; rw [hb]; simp
      ((repeat simp only [push_cast, Nat.reduceBEq, Nat.reduceLT, Nat.reduceEqDiff, reduceIte, reduceCtorEq, Nat.reduceMul, Nat.reduceAdd, Nat.reduceSub, Int.reduceEq, Int.reduceLT, Int.reduceLE, Int.reduceNeg, Int.reduceAdd, Int.reduceSub, Int.reduceMul, Nat.reduceLeDiff, Int.reduceToNat]); (repeat (first | (with_reducible first | (refine hK _ _ ?_; clear hK K) | refine (show ∀ σ' w', _ → K σ' w' from by assumption) _ _ ?_ | refine W_seq_k fun K hK => ?_ | refine W_block_k fun K hK => ?_ | refine W_skip ?_ | refine W_ret ?_) | ((first | ((with_reducible refine W_id ?_); refine W_reg (by decide) (by rfl) ?_) | (with_reducible first | refine W_cond ?_ | refine hZ _ _ ?_ | refine W_exit ?_ | refine Wo_id ?_)); repeat1' simp only [push_cast, Nat.reduceBEq, Nat.reduceLT, Nat.reduceEqDiff, reduceIte, reduceCtorEq, Nat.reduceMul, Nat.reduceAdd, Nat.reduceSub, Int.reduceEq, Int.reduceLT, Int.reduceLE, Int.reduceNeg, Int.reduceAdd, Int.reduceSub, Int.reduceMul, Nat.reduceLeDiff, Int.reduceToNat]) | ((repeat ((fail_if_success with_reducible refine hK _ _ ?_); clear hK K)); (with_reducible refine hK _ _ ?_); clear hK K))))
      rw [e]
    | false =>
      have e : inB l s = Lib.contains l.data.toList ((⟨#[32]⟩ ++ s ++ ⟨#[32]⟩ : ByteArray).data.toList) := by unfold inB; rw [hb]; simp [h0]
      ((repeat simp only [push_cast, Nat.reduceBEq, Nat.reduceLT, Nat.reduceEqDiff, reduceIte, reduceCtorEq, Nat.reduceMul, Nat.reduceAdd, Nat.reduceSub, Int.reduceEq, Int.reduceLT, Int.reduceLE, Int.reduceNeg, Int.reduceAdd, Int.reduceSub, Int.reduceMul, Nat.reduceLeDiff, Int.reduceToNat]); (repeat (first | (with_reducible first | (refine hK _ _ ?_; clear hK K) | refine (show ∀ σ' w', _ → K σ' w' from by assumption) _ _ ?_ | refine W_seq_k fun K hK => ?_ | refine W_block_k fun K hK => ?_ | refine W_skip ?_ | refine W_ret ?_) | ((first | ((with_reducible refine W_id ?_); refine W_reg (by decide) (by rfl) ?_) | (with_reducible first | refine W_cond ?_ | refine hZ _ _ ?_ | refine W_exit ?_ | refine Wo_id ?_)); repeat1' simp only [push_cast, Nat.reduceBEq, Nat.reduceLT, Nat.reduceEqDiff, reduceIte, reduceCtorEq, Nat.reduceMul, Nat.reduceAdd, Nat.reduceSub, Int.reduceEq, Int.reduceLT, Int.reduceLE, Int.reduceNeg, Int.reduceAdd, Int.reduceSub, Int.reduceMul, Nat.reduceLeDiff, Int.reduceToNat]) | ((repeat ((fail_if_success with_reducible refine hK _ _ ?_); clear hK K)); (with_reducible refine hK _ _ ?_); clear hK K))))
      have a1 : (⟨#[32]⟩ : ByteArray).size = 1 := rfl
      refine ⟨by rw [a1]; omega, by rw [ByteArray.size_append, a1]; omega, ?_⟩
      refine (strcont_c l _ hl hm).mono ?_
      intro v w' ⟨hv, hw⟩
      subst hv; subst w'
      rw [← e]
      ((repeat simp only [push_cast, Nat.reduceBEq, Nat.reduceLT, Nat.reduceEqDiff, reduceIte, reduceCtorEq, Nat.reduceMul, Nat.reduceAdd, Nat.reduceSub, Int.reduceEq, Int.reduceLT, Int.reduceLE, Int.reduceNeg, Int.reduceAdd, Int.reduceSub, Int.reduceMul, Nat.reduceLeDiff, Int.reduceToNat]); (repeat (first | (with_reducible first | (refine hK _ _ ?_; clear hK K) | refine (show ∀ σ' w', _ → K σ' w' from by assumption) _ _ ?_ | refine W_seq_k fun K hK => ?_ | refine W_block_k fun K hK => ?_ | refine W_skip ?_ | refine W_ret ?_) | ((first | ((with_reducible refine W_id ?_); refine W_reg (by decide) (by rfl) ?_) | (with_reducible first | refine W_cond ?_ | refine hZ _ _ ?_ | refine W_exit ?_ | refine Wo_id ?_)); repeat1' simp only [push_cast, Nat.reduceBEq, Nat.reduceLT, Nat.reduceEqDiff, reduceIte, reduceCtorEq, Nat.reduceMul, Nat.reduceAdd, Nat.reduceSub, Int.reduceEq, Int.reduceLT, Int.reduceLE, Int.reduceNeg, Int.reduceAdd, Int.reduceSub, Int.reduceMul, Nat.reduceLeDiff, Int.reduceToNat]) | ((repeat ((fail_if_success with_reducible refine hK _ _ ?_); clear hK K)); (with_reducible refine hK _ _ ?_); clear hK K))))
theorem implied_c (s : ByteArray) {w : World} (hm : MaxAt w) (hz : s.size < 4294967281) : Gives Tryd.prog 46 #[.string s] w fun v w' => v = .bool (impN s) ∧ w' = w := by
  refine Gives.of_W Tryd.call46 Tryd.func46 rfl Tryd.ntmps46 (by simp) ?_; intro Z hZ
  (repeat (first | (with_reducible first | (refine hK _ _ ?_; clear hK K) | refine (show ∀ σ' w', _ → K σ' w' from by assumption) _ _ ?_ | refine W_seq_k fun K hK => ?_ | refine W_block_k fun K hK => ?_ | refine W_skip ?_ | refine W_ret ?_) | ((first | ((with_reducible refine W_id ?_); refine W_reg (by decide) (by rfl) ?_) | (with_reducible first | refine W_cond ?_ | refine hZ _ _ ?_ | refine W_exit ?_ | refine Wo_id ?_)); repeat1' simp only [push_cast, Nat.reduceBEq, Nat.reduceLT, Nat.reduceEqDiff, reduceIte, reduceCtorEq, Nat.reduceMul, Nat.reduceAdd, Nat.reduceSub, Int.reduceEq, Int.reduceLT, Int.reduceLE, Int.reduceNeg, Int.reduceAdd, Int.reduceSub, Int.reduceMul, Nat.reduceLeDiff, Int.reduceToNat]) | ((repeat ((fail_if_success with_reducible refine hK _ _ ?_); clear hK K)); (with_reducible refine hK _ _ ?_); clear hK K)))
  refine (in_c impB s hm (by decide) hz).mono ?_
  intro v w' ⟨hv, hw⟩
  subst hv; subst w'
  ((repeat simp only [push_cast, Nat.reduceBEq, Nat.reduceLT, Nat.reduceEqDiff, reduceIte, reduceCtorEq, Nat.reduceMul, Nat.reduceAdd, Nat.reduceSub, Int.reduceEq, Int.reduceLT, Int.reduceLE, Int.reduceNeg, Int.reduceAdd, Int.reduceSub, Int.reduceMul, Nat.reduceLeDiff, Int.reduceToNat]); (repeat (first | (with_reducible first | (refine hK _ _ ?_; clear hK K) | refine (show ∀ σ' w', _ → K σ' w' from by assumption) _ _ ?_ | refine W_seq_k fun K hK => ?_ | refine W_block_k fun K hK => ?_ | refine W_skip ?_ | refine W_ret ?_) | ((first | ((with_reducible refine W_id ?_); refine W_reg (by decide) (by rfl) ?_) | (with_reducible first | refine W_cond ?_ | refine hZ _ _ ?_ | refine W_exit ?_ | refine Wo_id ?_)); repeat1' simp only [push_cast, Nat.reduceBEq, Nat.reduceLT, Nat.reduceEqDiff, reduceIte, reduceCtorEq, Nat.reduceMul, Nat.reduceAdd, Nat.reduceSub, Int.reduceEq, Int.reduceLT, Int.reduceLE, Int.reduceNeg, Int.reduceAdd, Int.reduceSub, Int.reduceMul, Nat.reduceLeDiff, Int.reduceToNat]) | ((repeat ((fail_if_success with_reducible refine hK _ _ ?_); clear hK K)); (with_reducible refine hK _ _ ?_); clear hK K))))
  rfl
theorem thorough_c (s : ByteArray) {w : World} (hm : MaxAt w) (hz : s.size < 4294967281) : Gives Tryd.prog 47 #[.string s] w fun v w' => v = .bool (thoN s) ∧ w' = w := by
  unfold thoN
  cases hb : impN s with
  | true =>
    refine Gives.of_W Tryd.call47 Tryd.func47 rfl Tryd.ntmps47 (by simp) ?_; intro Z hZ
    (repeat (first | (with_reducible first | (refine hK _ _ ?_; clear hK K) | refine (show ∀ σ' w', _ → K σ' w' from by assumption) _ _ ?_ | refine W_seq_k fun K hK => ?_ | refine W_block_k fun K hK => ?_ | refine W_skip ?_ | refine W_ret ?_) | ((first | ((with_reducible refine W_id ?_); refine W_reg (by decide) (by rfl) ?_) | (with_reducible first | refine W_cond ?_ | refine hZ _ _ ?_ | refine W_exit ?_ | refine Wo_id ?_)); repeat1' simp only [push_cast, Nat.reduceBEq, Nat.reduceLT, Nat.reduceEqDiff, reduceIte, reduceCtorEq, Nat.reduceMul, Nat.reduceAdd, Nat.reduceSub, Int.reduceEq, Int.reduceLT, Int.reduceLE, Int.reduceNeg, Int.reduceAdd, Int.reduceSub, Int.reduceMul, Nat.reduceLeDiff, Int.reduceToNat]) | ((repeat ((fail_if_success with_reducible refine hK _ _ ?_); clear hK K)); (with_reducible refine hK _ _ ?_); clear hK K)))
    refine (implied_c s hm hz).mono ?_
    intro v w' ⟨hv, hw⟩
    subst hv; subst w'
    rw [hb]
    ((repeat simp only [push_cast, Nat.reduceBEq, Nat.reduceLT, Nat.reduceEqDiff, reduceIte, reduceCtorEq, Nat.reduceMul, Nat.reduceAdd, Nat.reduceSub, Int.reduceEq, Int.reduceLT, Int.reduceLE, Int.reduceNeg, Int.reduceAdd, Int.reduceSub, Int.reduceMul, Nat.reduceLeDiff, Int.reduceToNat]); (repeat (first | (with_reducible first | (refine hK _ _ ?_; clear hK K) | refine (show ∀ σ' w', _ → K σ' w' from by assumption) _ _ ?_ | refine W_seq_k fun K hK => ?_ | refine W_block_k fun K hK => ?_ | refine W_skip ?_ | refine W_ret ?_) | ((first | ((with_reducible refine W_id ?_); refine W_reg (by decide) (by rfl) ?_) | (with_reducible first | refine W_cond ?_ | refine hZ _ _ ?_ | refine W_exit ?_ | refine Wo_id ?_)); repeat1' simp only [push_cast, Nat.reduceBEq, Nat.reduceLT, Nat.reduceEqDiff, reduceIte, reduceCtorEq, Nat.reduceMul, Nat.reduceAdd, Nat.reduceSub, Int.reduceEq, Int.reduceLT, Int.reduceLE, Int.reduceNeg, Int.reduceAdd, Int.reduceSub, Int.reduceMul, Nat.reduceLeDiff, Int.reduceToNat]) | ((repeat ((fail_if_success with_reducible refine hK _ _ ?_); clear hK K)); (with_reducible refine hK _ _ ?_); clear hK K))))
  | false =>
    refine Gives.of_W Tryd.call47 Tryd.func47 rfl Tryd.ntmps47 (by simp) ?_; intro Z hZ
    (repeat (first | (with_reducible first | (refine hK _ _ ?_; clear hK K) | refine (show ∀ σ' w', _ → K σ' w' from by assumption) _ _ ?_ | refine W_seq_k fun K hK => ?_ | refine W_block_k fun K hK => ?_ | refine W_skip ?_ | refine W_ret ?_) | ((first | ((with_reducible refine W_id ?_); refine W_reg (by decide) (by rfl) ?_) | (with_reducible first | refine W_cond ?_ | refine hZ _ _ ?_ | refine W_exit ?_ | refine Wo_id ?_)); repeat1' simp only [push_cast, Nat.reduceBEq, Nat.reduceLT, Nat.reduceEqDiff, reduceIte, reduceCtorEq, Nat.reduceMul, Nat.reduceAdd, Nat.reduceSub, Int.reduceEq, Int.reduceLT, Int.reduceLE, Int.reduceNeg, Int.reduceAdd, Int.reduceSub, Int.reduceMul, Nat.reduceLeDiff, Int.reduceToNat]) | ((repeat ((fail_if_success with_reducible refine hK _ _ ?_); clear hK K)); (with_reducible refine hK _ _ ?_); clear hK K)))
    refine (implied_c s hm hz).mono ?_
    intro v w' ⟨hv, hw⟩
    subst hv; subst w'
    rw [hb]
    ((repeat simp only [push_cast, Nat.reduceBEq, Nat.reduceLT, Nat.reduceEqDiff, reduceIte, reduceCtorEq, Nat.reduceMul, Nat.reduceAdd, Nat.reduceSub, Int.reduceEq, Int.reduceLT, Int.reduceLE, Int.reduceNeg, Int.reduceAdd, Int.reduceSub, Int.reduceMul, Nat.reduceLeDiff, Int.reduceToNat]); (repeat (first | (with_reducible first | (refine hK _ _ ?_; clear hK K) | refine (show ∀ σ' w', _ → K σ' w' from by assumption) _ _ ?_ | refine W_seq_k fun K hK => ?_ | refine W_block_k fun K hK => ?_ | refine W_skip ?_ | refine W_ret ?_) | ((first | ((with_reducible refine W_id ?_); refine W_reg (by decide) (by rfl) ?_) | (with_reducible first | refine W_cond ?_ | refine hZ _ _ ?_ | refine W_exit ?_ | refine Wo_id ?_)); repeat1' simp only [push_cast, Nat.reduceBEq, Nat.reduceLT, Nat.reduceEqDiff, reduceIte, reduceCtorEq, Nat.reduceMul, Nat.reduceAdd, Nat.reduceSub, Int.reduceEq, Int.reduceLT, Int.reduceLE, Int.reduceNeg, Int.reduceAdd, Int.reduceSub, Int.reduceMul, Nat.reduceLeDiff, Int.reduceToNat]) | ((repeat ((fail_if_success with_reducible refine hK _ _ ?_); clear hK K)); (with_reducible refine hK _ _ ?_); clear hK K))))
    refine (in_c thoB s hm (by decide) hz).mono ?_
    intro v w' ⟨hv, hw⟩
    subst hv; subst w'
    ((repeat simp only [push_cast, Nat.reduceBEq, Nat.reduceLT, Nat.reduceEqDiff, reduceIte, reduceCtorEq, Nat.reduceMul, Nat.reduceAdd, Nat.reduceSub, Int.reduceEq, Int.reduceLT, Int.reduceLE, Int.reduceNeg, Int.reduceAdd, Int.reduceSub, Int.reduceMul, Nat.reduceLeDiff, Int.reduceToNat]); (repeat (first | (with_reducible first | (refine hK _ _ ?_; clear hK K) | refine (show ∀ σ' w', _ → K σ' w' from by assumption) _ _ ?_ | refine W_seq_k fun K hK => ?_ | refine W_block_k fun K hK => ?_ | refine W_skip ?_ | refine W_ret ?_) | ((first | ((with_reducible refine W_id ?_); refine W_reg (by decide) (by rfl) ?_) | (with_reducible first | refine W_cond ?_ | refine hZ _ _ ?_ | refine W_exit ?_ | refine Wo_id ?_)); repeat1' simp only [push_cast, Nat.reduceBEq, Nat.reduceLT, Nat.reduceEqDiff, reduceIte, reduceCtorEq, Nat.reduceMul, Nat.reduceAdd, Nat.reduceSub, Int.reduceEq, Int.reduceLT, Int.reduceLE, Int.reduceNeg, Int.reduceAdd, Int.reduceSub, Int.reduceMul, Nat.reduceLeDiff, Int.reduceToNat]) | ((repeat ((fail_if_success with_reducible refine hK _ _ ?_); clear hK K)); (with_reducible refine hK _ _ ?_); clear hK K))))
theorem spB_len : spB.size < 4294967281 := of_decide_eq_true (by kernel_rfl)
set_option maxRecDepth 100000 in
theorem special_c (space : Int) (s : ByteArray) {w : World} (hm : MaxAt w) (hz : s.size < 4294967281) : Gives Tryd.prog 80 #[.int .i64 space, .string s] w fun v w' => v = .bool (specN space s) ∧ w' = w := by
  unfold specN
  by_cases h0 : space = 0
  · rw [if_pos h0]
    refine Gives.of_W Tryd.call80 Tryd.func80 rfl Tryd.ntmps80 (by simp) ?_; intro Z hZ
    (repeat (first | (with_reducible first | (refine hK _ _ ?_; clear hK K) | refine (show ∀ σ' w', _ → K σ' w' from by assumption) _ _ ?_ | refine W_seq_k fun K hK => ?_ | refine W_block_k fun K hK => ?_ | refine W_skip ?_ | refine W_ret ?_) | ((first | ((with_reducible refine W_id ?_); refine W_reg (by decide) (by rfl) ?_) | (with_reducible first | refine W_cond ?_ | refine hZ _ _ ?_ | refine W_exit ?_ | refine Wo_id ?_)); repeat1' simp only [push_cast, Nat.reduceBEq, Nat.reduceLT, Nat.reduceEqDiff, reduceIte, reduceCtorEq, Nat.reduceMul, Nat.reduceAdd, Nat.reduceSub, Int.reduceEq, Int.reduceLT, Int.reduceLE, Int.reduceNeg, Int.reduceAdd, Int.reduceSub, Int.reduceMul, Nat.reduceLeDiff, Int.reduceToNat, h0]) | ((repeat ((fail_if_success with_reducible refine hK _ _ ?_); clear hK K)); (with_reducible refine hK _ _ ?_); clear hK K)))
    refine (in_c spB s hm spB_len hz).mono ?_
    intro v w' ⟨hv, hw⟩
    subst hv; subst w'
    ((repeat simp only [push_cast, Nat.reduceBEq, Nat.reduceLT, Nat.reduceEqDiff, reduceIte, reduceCtorEq, Nat.reduceMul, Nat.reduceAdd, Nat.reduceSub, Int.reduceEq, Int.reduceLT, Int.reduceLE, Int.reduceNeg, Int.reduceAdd, Int.reduceSub, Int.reduceMul, Nat.reduceLeDiff, Int.reduceToNat]); (repeat (first | (with_reducible first | (refine hK _ _ ?_; clear hK K) | refine (show ∀ σ' w', _ → K σ' w' from by assumption) _ _ ?_ | refine W_seq_k fun K hK => ?_ | refine W_block_k fun K hK => ?_ | refine W_skip ?_ | refine W_ret ?_) | ((first | ((with_reducible refine W_id ?_); refine W_reg (by decide) (by rfl) ?_) | (with_reducible first | refine W_cond ?_ | refine hZ _ _ ?_ | refine W_exit ?_ | refine Wo_id ?_)); repeat1' simp only [push_cast, Nat.reduceBEq, Nat.reduceLT, Nat.reduceEqDiff, reduceIte, reduceCtorEq, Nat.reduceMul, Nat.reduceAdd, Nat.reduceSub, Int.reduceEq, Int.reduceLT, Int.reduceLE, Int.reduceNeg, Int.reduceAdd, Int.reduceSub, Int.reduceMul, Nat.reduceLeDiff, Int.reduceToNat]) | ((repeat ((fail_if_success with_reducible refine hK _ _ ?_); clear hK K)); (with_reducible refine hK _ _ ?_); clear hK K))))
  · rw [if_neg h0]
    by_cases h2 : space = 2
    · rw [if_pos h2]
      have n20 : ((2 : Int) = 0) = False := by decide
      refine Gives.of_W Tryd.call80 Tryd.func80 rfl Tryd.ntmps80 (by simp) ?_; intro Z hZ
      (repeat (first | (with_reducible first | (refine hK _ _ ?_; clear hK K) | refine (show ∀ σ' w', _ → K σ' w' from by assumption) _ _ ?_ | refine W_seq_k fun K hK => ?_ | refine W_block_k fun K hK => ?_ | refine W_skip ?_ | refine W_ret ?_) | ((first | ((with_reducible refine W_id ?_); refine W_reg (by decide) (by rfl) ?_) | (with_reducible first | refine W_cond ?_ | refine hZ _ _ ?_ | refine W_exit ?_ | refine Wo_id ?_)); repeat1' simp only [push_cast, Nat.reduceBEq, Nat.reduceLT, Nat.reduceEqDiff, reduceIte, reduceCtorEq, Nat.reduceMul, Nat.reduceAdd, Nat.reduceSub, Int.reduceEq, Int.reduceLT, Int.reduceLE, Int.reduceNeg, Int.reduceAdd, Int.reduceSub, Int.reduceMul, Nat.reduceLeDiff, Int.reduceToNat, h2, n20]) | ((repeat ((fail_if_success with_reducible refine hK _ _ ?_); clear hK K)); (with_reducible refine hK _ _ ?_); clear hK K)))
      refine (in_c mathB s hm (by decide) hz).mono ?_
      intro v w' ⟨hv, hw⟩
      subst hv; subst w'
      ((repeat simp only [push_cast, Nat.reduceBEq, Nat.reduceLT, Nat.reduceEqDiff, reduceIte, reduceCtorEq, Nat.reduceMul, Nat.reduceAdd, Nat.reduceSub, Int.reduceEq, Int.reduceLT, Int.reduceLE, Int.reduceNeg, Int.reduceAdd, Int.reduceSub, Int.reduceMul, Nat.reduceLeDiff, Int.reduceToNat]); (repeat (first | (with_reducible first | (refine hK _ _ ?_; clear hK K) | refine (show ∀ σ' w', _ → K σ' w' from by assumption) _ _ ?_ | refine W_seq_k fun K hK => ?_ | refine W_block_k fun K hK => ?_ | refine W_skip ?_ | refine W_ret ?_) | ((first | ((with_reducible refine W_id ?_); refine W_reg (by decide) (by rfl) ?_) | (with_reducible first | refine W_cond ?_ | refine hZ _ _ ?_ | refine W_exit ?_ | refine Wo_id ?_)); repeat1' simp only [push_cast, Nat.reduceBEq, Nat.reduceLT, Nat.reduceEqDiff, reduceIte, reduceCtorEq, Nat.reduceMul, Nat.reduceAdd, Nat.reduceSub, Int.reduceEq, Int.reduceLT, Int.reduceLE, Int.reduceNeg, Int.reduceAdd, Int.reduceSub, Int.reduceMul, Nat.reduceLeDiff, Int.reduceToNat]) | ((repeat ((fail_if_success with_reducible refine hK _ _ ?_); clear hK K)); (with_reducible refine hK _ _ ?_); clear hK K))))
    · rw [if_neg h2]
      by_cases h1 : space = 1
      · rw [if_pos h1]
        have n10 : ((1 : Int) = 0) = False := by decide
        have n12 : ((1 : Int) = 2) = False := by decide
        refine Gives.of_W Tryd.call80 Tryd.func80 rfl Tryd.ntmps80 (by simp) ?_; intro Z hZ
        (repeat (first | (with_reducible first | (refine hK _ _ ?_; clear hK K) | refine (show ∀ σ' w', _ → K σ' w' from by assumption) _ _ ?_ | refine W_seq_k fun K hK => ?_ | refine W_block_k fun K hK => ?_ | refine W_skip ?_ | refine W_ret ?_) | ((first | ((with_reducible refine W_id ?_); refine W_reg (by decide) (by rfl) ?_) | (with_reducible first | refine W_cond ?_ | refine hZ _ _ ?_ | refine W_exit ?_ | refine Wo_id ?_)); repeat1' simp only [push_cast, Nat.reduceBEq, Nat.reduceLT, Nat.reduceEqDiff, reduceIte, reduceCtorEq, Nat.reduceMul, Nat.reduceAdd, Nat.reduceSub, Int.reduceEq, Int.reduceLT, Int.reduceLE, Int.reduceNeg, Int.reduceAdd, Int.reduceSub, Int.reduceMul, Nat.reduceLeDiff, Int.reduceToNat, h1, n10, n12]) | ((repeat ((fail_if_success with_reducible refine hK _ _ ?_); clear hK K)); (with_reducible refine hK _ _ ?_); clear hK K)))
        refine (in_c svgB s hm (by decide) hz).mono ?_
        intro v w' ⟨hv, hw⟩
        subst hv; subst w'
        ((repeat simp only [push_cast, Nat.reduceBEq, Nat.reduceLT, Nat.reduceEqDiff, reduceIte, reduceCtorEq, Nat.reduceMul, Nat.reduceAdd, Nat.reduceSub, Int.reduceEq, Int.reduceLT, Int.reduceLE, Int.reduceNeg, Int.reduceAdd, Int.reduceSub, Int.reduceMul, Nat.reduceLeDiff, Int.reduceToNat]); (repeat (first | (with_reducible first | (refine hK _ _ ?_; clear hK K) | refine (show ∀ σ' w', _ → K σ' w' from by assumption) _ _ ?_ | refine W_seq_k fun K hK => ?_ | refine W_block_k fun K hK => ?_ | refine W_skip ?_ | refine W_ret ?_) | ((first | ((with_reducible refine W_id ?_); refine W_reg (by decide) (by rfl) ?_) | (with_reducible first | refine W_cond ?_ | refine hZ _ _ ?_ | refine W_exit ?_ | refine Wo_id ?_)); repeat1' simp only [push_cast, Nat.reduceBEq, Nat.reduceLT, Nat.reduceEqDiff, reduceIte, reduceCtorEq, Nat.reduceMul, Nat.reduceAdd, Nat.reduceSub, Int.reduceEq, Int.reduceLT, Int.reduceLE, Int.reduceNeg, Int.reduceAdd, Int.reduceSub, Int.reduceMul, Nat.reduceLeDiff, Int.reduceToNat]) | ((repeat ((fail_if_success with_reducible refine hK _ _ ?_); clear hK K)); (with_reducible refine hK _ _ ?_); clear hK K))))
      · rw [if_neg h1]
        refine Gives.of_W Tryd.call80 Tryd.func80 rfl Tryd.ntmps80 (by simp) ?_; intro Z hZ
        (repeat (first | (with_reducible first | (refine hK _ _ ?_; clear hK K) | refine (show ∀ σ' w', _ → K σ' w' from by assumption) _ _ ?_ | refine W_seq_k fun K hK => ?_ | refine W_block_k fun K hK => ?_ | refine W_skip ?_ | refine W_ret ?_) | ((first | ((with_reducible refine W_id ?_); refine W_reg (by decide) (by rfl) ?_) | (with_reducible first | refine W_cond ?_ | refine hZ _ _ ?_ | refine W_exit ?_ | refine Wo_id ?_)); repeat1' simp only [push_cast, Nat.reduceBEq, Nat.reduceLT, Nat.reduceEqDiff, reduceIte, reduceCtorEq, Nat.reduceMul, Nat.reduceAdd, Nat.reduceSub, Int.reduceEq, Int.reduceLT, Int.reduceLE, Int.reduceNeg, Int.reduceAdd, Int.reduceSub, Int.reduceMul, Nat.reduceLeDiff, Int.reduceToNat, h0, h1, h2]) | ((repeat ((fail_if_success with_reducible refine hK _ _ ?_); clear hK K)); (with_reducible refine hK _ _ ?_); clear hK K)))
theorem scope_c (which space : Int) (s : ByteArray) {w : World} (hg : GL w) (hz : s.size < 4294967281) : Gives Tryd.prog 69 #[.int .i64 which, .int .i64 space, .string s] w fun v w' => v = .bool (scopeN which space s) ∧ w' = w := by
  obtain ⟨hm, t, f, hsc⟩ := hg
  unfold scopeN
  by_cases hr : which < 0 ∨ 4 ≤ which
  · rw [if_pos hr]
    by_cases h0 : which < 0
    · refine Gives.of_W Tryd.call69 Tryd.func69 rfl Tryd.ntmps69 (by simp) ?_; intro Z hZ
      (repeat (first | (with_reducible first | (refine hK _ _ ?_; clear hK K) | refine (show ∀ σ' w', _ → K σ' w' from by assumption) _ _ ?_ | refine W_seq_k fun K hK => ?_ | refine W_block_k fun K hK => ?_ | refine W_skip ?_ | refine W_ret ?_) | ((first | ((with_reducible refine W_id ?_); refine W_reg (by decide) (by rfl) ?_) | (with_reducible first | refine W_cond ?_ | refine hZ _ _ ?_ | refine W_exit ?_ | refine Wo_id ?_)); repeat1' simp only [push_cast, Nat.reduceBEq, Nat.reduceLT, Nat.reduceEqDiff, reduceIte, reduceCtorEq, Nat.reduceMul, Nat.reduceAdd, Nat.reduceSub, Int.reduceEq, Int.reduceLT, Int.reduceLE, Int.reduceNeg, Int.reduceAdd, Int.reduceSub, Int.reduceMul, Nat.reduceLeDiff, Int.reduceToNat, h0]) | ((repeat ((fail_if_success with_reducible refine hK _ _ ?_); clear hK K)); (with_reducible refine hK _ _ ?_); clear hK K)))
    · have h4 : 4 ≤ which := by omega
      refine Gives.of_W Tryd.call69 Tryd.func69 rfl Tryd.ntmps69 (by simp) ?_; intro Z hZ
      (repeat (first | (with_reducible first | (refine hK _ _ ?_; clear hK K) | refine (show ∀ σ' w', _ → K σ' w' from by assumption) _ _ ?_ | refine W_seq_k fun K hK => ?_ | refine W_block_k fun K hK => ?_ | refine W_skip ?_ | refine W_ret ?_) | ((first | ((with_reducible refine W_id ?_); refine W_reg (by decide) (by rfl) ?_) | (with_reducible first | refine W_cond ?_ | refine hZ _ _ ?_ | refine W_exit ?_ | refine Wo_id ?_)); repeat1' simp only [push_cast, Nat.reduceBEq, Nat.reduceLT, Nat.reduceEqDiff, reduceIte, reduceCtorEq, Nat.reduceMul, Nat.reduceAdd, Nat.reduceSub, Int.reduceEq, Int.reduceLT, Int.reduceLE, Int.reduceNeg, Int.reduceAdd, Int.reduceSub, Int.reduceMul, Nat.reduceLeDiff, Int.reduceToNat, h0, h4]) | ((repeat ((fail_if_success with_reducible refine hK _ _ ?_); clear hK K)); (with_reducible refine hK _ _ ?_); clear hK K)))
  · rw [if_neg hr]
    have h0 : ¬ which < 0 := by omega
    have h4 : ¬ 4 ≤ which := by omega
    by_cases hs : space = 0
    · rw [if_pos hs]
      have hw4 : which = 0 ∨ which = 1 ∨ which = 2 ∨ which = 3 := by omega
      have n0 : ¬ ((0 : Int) < 0) := by decide
      have key : ∀ (k : Nat) (b : ByteArray), k < 4 → which = (k : Int) → (#[Value.string norB, .string lisB, .string butB, .string tabB] : Array Value)[k]? = some (.string b) → b.size < 4294967281 → scB which = b → Gives Tryd.prog 69 #[.int .i64 which, .int .i64 space, .string s] w fun v w' => v = .bool (inB (scB which) s) ∧ w' = w := by
        intro k b hk4 hk hb hbs hsb
        rw [hsb]
        have k0 : (0 : Int) ≤ which := by omega
        have k4 : which < 4 := by omega
        have k5 : which.toNat = k := by omega
        refine Gives.of_W Tryd.call69 Tryd.func69 rfl Tryd.ntmps69 (by simp) ?_; intro Z hZ
        (repeat (first | (with_reducible first | (refine hK _ _ ?_; clear hK K) | refine (show ∀ σ' w', _ → K σ' w' from by assumption) _ _ ?_ | refine W_seq_k fun K hK => ?_ | refine W_block_k fun K hK => ?_ | refine W_skip ?_ | refine W_ret ?_) | ((first | ((with_reducible refine W_id ?_); refine W_reg (by decide) (by rfl) ?_) | (with_reducible first | refine W_cond ?_ | refine hZ _ _ ?_ | refine W_exit ?_ | refine Wo_id ?_)); repeat1' simp only [push_cast, Nat.reduceBEq, Nat.reduceLT, Nat.reduceEqDiff, reduceIte, reduceCtorEq, Nat.reduceMul, Nat.reduceAdd, Nat.reduceSub, Int.reduceEq, Int.reduceLT, Int.reduceLE, Int.reduceNeg, Int.reduceAdd, Int.reduceSub, Int.reduceMul, Nat.reduceLeDiff, Int.reduceToNat, h0, h4, hs, k0, k4, k5, cell_h, cellO_cells, hsc, hb]) | ((repeat ((fail_if_success with_reducible refine hK _ _ ?_); clear hK K)); (with_reducible refine hK _ _ ?_); clear hK K)))
        refine (in_c b s hm hbs hz).mono ?_
        intro v w' ⟨hv, hw⟩
        subst hv; subst w'
        ((repeat simp only [push_cast, Nat.reduceBEq, Nat.reduceLT, Nat.reduceEqDiff, reduceIte, reduceCtorEq, Nat.reduceMul, Nat.reduceAdd, Nat.reduceSub, Int.reduceEq, Int.reduceLT, Int.reduceLE, Int.reduceNeg, Int.reduceAdd, Int.reduceSub, Int.reduceMul, Nat.reduceLeDiff, Int.reduceToNat]); (repeat (first | (with_reducible first | (refine hK _ _ ?_; clear hK K) | refine (show ∀ σ' w', _ → K σ' w' from by assumption) _ _ ?_ | refine W_seq_k fun K hK => ?_ | refine W_block_k fun K hK => ?_ | refine W_skip ?_ | refine W_ret ?_) | ((first | ((with_reducible refine W_id ?_); refine W_reg (by decide) (by rfl) ?_) | (with_reducible first | refine W_cond ?_ | refine hZ _ _ ?_ | refine W_exit ?_ | refine Wo_id ?_)); repeat1' simp only [push_cast, Nat.reduceBEq, Nat.reduceLT, Nat.reduceEqDiff, reduceIte, reduceCtorEq, Nat.reduceMul, Nat.reduceAdd, Nat.reduceSub, Int.reduceEq, Int.reduceLT, Int.reduceLE, Int.reduceNeg, Int.reduceAdd, Int.reduceSub, Int.reduceMul, Nat.reduceLeDiff, Int.reduceToNat]) | ((repeat ((fail_if_success with_reducible refine hK _ _ ?_); clear hK K)); (with_reducible refine hK _ _ ?_); clear hK K))))
      rcases hw4 with h | h | h | h
      · exact key 0 norB (by decide) h rfl (by decide) (by rw [h]; rfl)
      · exact key 1 lisB (by decide) h rfl (by decide) (by rw [h]; rfl)
      · exact key 2 butB (by decide) h rfl (by decide) (by rw [h]; rfl)
      · exact key 3 tabB (by decide) h rfl (by decide) (by rw [h]; rfl)
    · rw [if_neg hs]
      by_cases h3 : which = 3
      · rw [if_pos h3]
        have n30 : ¬ ((3 : Int) < 0) := by decide
        have n34 : ¬ ((4 : Int) ≤ 3) := by decide
        refine Gives.of_W Tryd.call69 Tryd.func69 rfl Tryd.ntmps69 (by simp) ?_; intro Z hZ
        (repeat (first | (with_reducible first | (refine hK _ _ ?_; clear hK K) | refine (show ∀ σ' w', _ → K σ' w' from by assumption) _ _ ?_ | refine W_seq_k fun K hK => ?_ | refine W_block_k fun K hK => ?_ | refine W_skip ?_ | refine W_ret ?_) | ((first | ((with_reducible refine W_id ?_); refine W_reg (by decide) (by rfl) ?_) | (with_reducible first | refine W_cond ?_ | refine hZ _ _ ?_ | refine W_exit ?_ | refine Wo_id ?_)); repeat1' simp only [push_cast, Nat.reduceBEq, Nat.reduceLT, Nat.reduceEqDiff, reduceIte, reduceCtorEq, Nat.reduceMul, Nat.reduceAdd, Nat.reduceSub, Int.reduceEq, Int.reduceLT, Int.reduceLE, Int.reduceNeg, Int.reduceAdd, Int.reduceSub, Int.reduceMul, Nat.reduceLeDiff, Int.reduceToNat, h3, n30, n34, hs, not_true_eq_false]) | ((repeat ((fail_if_success with_reducible refine hK _ _ ?_); clear hK K)); (with_reducible refine hK _ _ ?_); clear hK K)))
      · rw [if_neg h3]
        refine Gives.of_W Tryd.call69 Tryd.func69 rfl Tryd.ntmps69 (by simp) ?_; intro Z hZ
        (repeat (first | (with_reducible first | (refine hK _ _ ?_; clear hK K) | refine (show ∀ σ' w', _ → K σ' w' from by assumption) _ _ ?_ | refine W_seq_k fun K hK => ?_ | refine W_block_k fun K hK => ?_ | refine W_skip ?_ | refine W_ret ?_) | ((first | ((with_reducible refine W_id ?_); refine W_reg (by decide) (by rfl) ?_) | (with_reducible first | refine W_cond ?_ | refine hZ _ _ ?_ | refine W_exit ?_ | refine Wo_id ?_)); repeat1' simp only [push_cast, Nat.reduceBEq, Nat.reduceLT, Nat.reduceEqDiff, reduceIte, reduceCtorEq, Nat.reduceMul, Nat.reduceAdd, Nat.reduceSub, Int.reduceEq, Int.reduceLT, Int.reduceLE, Int.reduceNeg, Int.reduceAdd, Int.reduceSub, Int.reduceMul, Nat.reduceLeDiff, Int.reduceToNat, h0, h4, hs, h3, not_false_eq_true]) | ((repeat ((fail_if_success with_reducible refine hK _ _ ?_); clear hK K)); (with_reducible refine hK _ _ ?_); clear hK K)))
        refine (special_c space s hm hz).mono ?_
        intro v w' ⟨hv, hw⟩
        subst hv; subst w'
        ((repeat simp only [push_cast, Nat.reduceBEq, Nat.reduceLT, Nat.reduceEqDiff, reduceIte, reduceCtorEq, Nat.reduceMul, Nat.reduceAdd, Nat.reduceSub, Int.reduceEq, Int.reduceLT, Int.reduceLE, Int.reduceNeg, Int.reduceAdd, Int.reduceSub, Int.reduceMul, Nat.reduceLeDiff, Int.reduceToNat]); (repeat (first | (with_reducible first | (refine hK _ _ ?_; clear hK K) | refine (show ∀ σ' w', _ → K σ' w' from by assumption) _ _ ?_ | refine W_seq_k fun K hK => ?_ | refine W_block_k fun K hK => ?_ | refine W_skip ?_ | refine W_ret ?_) | ((first | ((with_reducible refine W_id ?_); refine W_reg (by decide) (by rfl) ?_) | (with_reducible first | refine W_cond ?_ | refine hZ _ _ ?_ | refine W_exit ?_ | refine Wo_id ?_)); repeat1' simp only [push_cast, Nat.reduceBEq, Nat.reduceLT, Nat.reduceEqDiff, reduceIte, reduceCtorEq, Nat.reduceMul, Nat.reduceAdd, Nat.reduceSub, Int.reduceEq, Int.reduceLT, Int.reduceLE, Int.reduceNeg, Int.reduceAdd, Int.reduceSub, Int.reduceMul, Nat.reduceLeDiff, Int.reduceToNat]) | ((repeat ((fail_if_success with_reducible refine hK _ _ ?_); clear hK K)); (with_reducible refine hK _ _ ?_); clear hK K))))
end Go.Proofs.YtkafpameheohdaaDoor
end
section
set_option linter.unusedSimpArgs false
set_option linter.unusedVariables false
namespace Go.Vk
open Go
structure SK (w : World) (ps : Nat) (ap sv : Value) (s : List OpS) (bo : Option Nat) : Prop where
  head : w.heap[ps]? = some (.cells #[ap, sv] 71 (0, 0))
  sl : SlAt w 3 sv (opCells s) bo
  ne : bo ≠ some ps
theorem SK.upd {G : Nat → Prop} {w w' : World} {ps : Nat} {ap sv : Value} {s : List OpS} {bo : Option Nat} (h : SK w ps ap sv s bo) (hu : Upd G w w') (h1 : ¬ G ps) (h2 : ∀ b, bo = some b → ¬ G b) : SK w' ps ap sv s bo :=
  ⟨(hu.same ps (blk_lt h.head) h1).trans h.head, h.sl.upd hu h2, h.ne⟩
theorem SK.ext {w w' : World} {ps : Nat} {ap sv : Value} {s : List OpS} {bo : Option Nat} (h : SK w ps ap sv s bo) (hu : Ext w w') : SK w' ps ap sv s bo := h.upd hu id fun _ _ => id
def zS : OpS := ⟨0, 0, ⟨#[]⟩⟩
/-- the last place below one where it is so -/
def lastB (p : Nat → Bool) : Nat → Int
  | 0 => -1
  | k + 1 => if p k = true then k else lastB p k
def indexS (s : List OpS) (i : Int) : Int := lastB (fun k => decide ((s.getD k zS).node = i)) s.length
def atS (s : List OpS) (k : Int) : Int := if 0 ≤ k ∧ k < s.length then (s.getD k.toNat zS).node else -1
def topS (s : List OpS) : Int := atS s ((s.length : Int) - 1)
def strCells (l : List ByteArray) : List Value := l.map Value.string
def htmlS (o : OpS) (l : List ByteArray) : Bool := decide (o.space = 0) && l.any fun x => decide (o.name = x)
theorem str_len {w : World} {v : Value} {l : List ByteArray} (h : RdAt w 1 v (strCells l)) : ∃ a c, v = .slice a l.length c ∧ l.length ≤ c ∧ ∀ (i : Nat) (x : ByteArray), l[i]? = some x → ∃ b o, a = some ⟨b, o, none⟩ ∧ w.cell? ⟨b, o + i, none⟩ = some (.string x) := by
  obtain ⟨a, n, c, rfl, h1, h2, h3⟩ := h
  have hl : (strCells l).length = l.length := by simp [strCells]
  rw [hl, Nat.mul_one] at h2
  subst h2
  refine ⟨a, c, rfl, h1, fun i x hx => ?_⟩
  exact h3 i (.string x) (by simp [strCells, hx])
theorem lastB_rng (p : Nat → Bool) : ∀ k : Nat, -1 ≤ lastB p k ∧ lastB p k < k
  | 0 => by simp [lastB]
  | k + 1 => by
    have := lastB_rng p k
    rw [lastB]
    split <;> omega
theorem lastB_sat (p : Nat → Bool) : ∀ k : Nat, 0 ≤ lastB p k → ∃ q : Nat, lastB p k = q ∧ q < k ∧ p q = true
  | 0, h => by simp [lastB] at h
  | k + 1, h => by
    rw [lastB] at h ⊢
    by_cases hp : p k = true
    · rw [if_pos hp]; exact ⟨k, rfl, by omega, hp⟩
    · rw [if_neg hp] at h ⊢
      obtain ⟨q, e1, e2, e3⟩ := lastB_sat p k h
      exact ⟨q, e1, by omega, e3⟩
end Go.Vk
namespace Go.Proofs.YtkafpameheohdaaDoor
open Go Go.Vk
set_option maxHeartbeats 40000000
section
variable {w : World} {ps pa : Nat} {sv : Value} {s : List OpS} {bo : Option Nat}
theorem slen_c {ap : Value} (h : SK w ps ap sv s bo) : Gives Tryd.prog 16 #[.pointer (some ⟨ps, 0, none⟩)] w fun v w' => v = .int .i64 (s.length : Int) ∧ w' = w := by
  obtain ⟨a, c, rfl, _⟩ := ops_len h.sl
  have h0 := h.head
  refine Gives.of_W Tryd.call16 Tryd.func16 rfl Tryd.ntmps16 (by simp) ?_; intro Z hZ
  (repeat (first | (with_reducible first | (refine hK _ _ ?_; clear hK K) | refine (show ∀ σ' w', _ → K σ' w' from by assumption) _ _ ?_ | refine W_seq_k fun K hK => ?_ | refine W_block_k fun K hK => ?_ | refine W_skip ?_ | refine W_ret ?_) | ((first | ((with_reducible refine W_id ?_); refine W_reg (by decide) (by rfl) ?_) | (with_reducible first | refine W_cond ?_ | refine hZ _ _ ?_ | refine W_exit ?_ | refine Wo_id ?_)); repeat1' simp only [push_cast, Nat.reduceBEq, Nat.reduceLT, Nat.reduceEqDiff, reduceIte, reduceCtorEq, Nat.reduceMul, Nat.reduceAdd, Nat.reduceSub, Int.reduceEq, Int.reduceLT, Int.reduceLE, Int.reduceNeg, Int.reduceAdd, Int.reduceSub, Int.reduceMul, Nat.reduceLeDiff, Int.reduceToNat, cell_h, cellO_cells, h0]) | ((repeat ((fail_if_success with_reducible refine hK _ _ ?_); clear hK K)); (with_reducible refine hK _ _ ?_); clear hK K)))
theorem snone_c (h : SK w ps (.pointer (some ⟨pa, 0, none⟩)) sv s bo) : Gives Tryd.prog 43 #[.pointer (some ⟨ps, 0, none⟩)] w fun v w' => v = .bool false ∧ w' = w := by
  have h0 := h.head
  refine Gives.of_W Tryd.call43 Tryd.func43 rfl Tryd.ntmps43 (by simp) ?_; intro Z hZ
  (repeat (first | (with_reducible first | (refine hK _ _ ?_; clear hK K) | refine (show ∀ σ' w', _ → K σ' w' from by assumption) _ _ ?_ | refine W_seq_k fun K hK => ?_ | refine W_block_k fun K hK => ?_ | refine W_skip ?_ | refine W_ret ?_) | ((first | ((with_reducible refine W_id ?_); refine W_reg (by decide) (by rfl) ?_) | (with_reducible first | refine W_cond ?_ | refine hZ _ _ ?_ | refine W_exit ?_ | refine Wo_id ?_)); repeat1' simp only [push_cast, Nat.reduceBEq, Nat.reduceLT, Nat.reduceEqDiff, reduceIte, reduceCtorEq, Nat.reduceMul, Nat.reduceAdd, Nat.reduceSub, Int.reduceEq, Int.reduceLT, Int.reduceLE, Int.reduceNeg, Int.reduceAdd, Int.reduceSub, Int.reduceMul, Nat.reduceLeDiff, Int.reduceToNat, cell_h, cellO_cells, h0]) | ((repeat ((fail_if_success with_reducible refine hK _ _ ?_); clear hK K)); (with_reducible refine hK _ _ ?_); clear hK K)))
theorem sat_c {ap : Value} (h : SK w ps ap sv s bo) (k : Int) : Gives Tryd.prog 35 #[.pointer (some ⟨ps, 0, none⟩), .int .i64 k] w fun v w' => v = .int .i64 (atS s k) ∧ w' = w := by
  unfold atS
  by_cases hk0 : k < 0
  · rw [if_neg (by omega)]
    refine Gives.of_W Tryd.call35 Tryd.func35 rfl Tryd.ntmps35 (by simp) ?_; intro Z hZ
    (repeat (first | (with_reducible first | (refine hK _ _ ?_; clear hK K) | refine (show ∀ σ' w', _ → K σ' w' from by assumption) _ _ ?_ | refine W_seq_k fun K hK => ?_ | refine W_block_k fun K hK => ?_ | refine W_skip ?_ | refine W_ret ?_) | ((first | ((with_reducible refine W_id ?_); refine W_reg (by decide) (by rfl) ?_) | (with_reducible first | refine W_cond ?_ | refine hZ _ _ ?_ | refine W_exit ?_ | refine Wo_id ?_)); repeat1' simp only [push_cast, Nat.reduceBEq, Nat.reduceLT, Nat.reduceEqDiff, reduceIte, reduceCtorEq, Nat.reduceMul, Nat.reduceAdd, Nat.reduceSub, Int.reduceEq, Int.reduceLT, Int.reduceLE, Int.reduceNeg, Int.reduceAdd, Int.reduceSub, Int.reduceMul, Nat.reduceLeDiff, Int.reduceToNat, hk0]) | ((repeat ((fail_if_success with_reducible refine hK _ _ ?_); clear hK K)); (with_reducible refine hK _ _ ?_); clear hK K)))
  · obtain ⟨k, rfl⟩ : ∃ q : Nat, k = (q : Int) := ⟨k.toNat, by omega⟩
    have b0 : (0 : Int) ≤ (k : Int) := by omega
    by_cases hkl : k < s.length
    · obtain ⟨y, hy⟩ : ∃ y, s[k]? = some y := ⟨_, List.getElem?_eq_getElem hkl⟩
      have hgd : s.getD ((k : Int).toNat) zS = y := by simp [List.getD, hy]
      have b1 : ¬ (s.length : Int) ≤ (k : Int) := by omega
      have b2 : (k : Int) < (s.length : Int) := by omega
      rw [if_pos ⟨b0, b2⟩, hgd]
      have hlen := slen_c h
      obtain ⟨b, o, c, rfl, _, c1, c2, c3⟩ := ops_cell h.sl hy
      have h0 := h.head
      refine Gives.of_W Tryd.call35 Tryd.func35 rfl Tryd.ntmps35 (by simp) ?_; intro Z hZ
      (repeat (first | (with_reducible first | (refine hK _ _ ?_; clear hK K) | refine (show ∀ σ' w', _ → K σ' w' from by assumption) _ _ ?_ | refine W_seq_k fun K hK => ?_ | refine W_block_k fun K hK => ?_ | refine W_skip ?_ | refine W_ret ?_) | ((first | ((with_reducible refine W_id ?_); refine W_reg (by decide) (by rfl) ?_) | (with_reducible first | refine W_cond ?_ | refine hZ _ _ ?_ | refine W_exit ?_ | refine Wo_id ?_)); repeat1' simp only [push_cast, Nat.reduceBEq, Nat.reduceLT, Nat.reduceEqDiff, reduceIte, reduceCtorEq, Nat.reduceMul, Nat.reduceAdd, Nat.reduceSub, Int.reduceEq, Int.reduceLT, Int.reduceLE, Int.reduceNeg, Int.reduceAdd, Int.reduceSub, Int.reduceMul, Nat.reduceLeDiff, Int.reduceToNat, hk0]) | ((repeat ((fail_if_success with_reducible refine hK _ _ ?_); clear hK K)); (with_reducible refine hK _ _ ?_); clear hK K)))
      refine hlen.mono ?_
      intro v w' ⟨hv, hw⟩
      subst hv; subst w'
      ((repeat simp only [push_cast, Nat.reduceBEq, Nat.reduceLT, Nat.reduceEqDiff, reduceIte, reduceCtorEq, Nat.reduceMul, Nat.reduceAdd, Nat.reduceSub, Int.reduceEq, Int.reduceLT, Int.reduceLE, Int.reduceNeg, Int.reduceAdd, Int.reduceSub, Int.reduceMul, Nat.reduceLeDiff, Int.reduceToNat, b0, b1, b2, cell_h, cellO_cells, h0, c1]); (repeat (first | (with_reducible first | (refine hK _ _ ?_; clear hK K) | refine (show ∀ σ' w', _ → K σ' w' from by assumption) _ _ ?_ | refine W_seq_k fun K hK => ?_ | refine W_block_k fun K hK => ?_ | refine W_skip ?_ | refine W_ret ?_) | ((first | ((with_reducible refine W_id ?_); refine W_reg (by decide) (by rfl) ?_) | (with_reducible first | refine W_cond ?_ | refine hZ _ _ ?_ | refine W_exit ?_ | refine Wo_id ?_)); repeat1' simp only [push_cast, Nat.reduceBEq, Nat.reduceLT, Nat.reduceEqDiff, reduceIte, reduceCtorEq, Nat.reduceMul, Nat.reduceAdd, Nat.reduceSub, Int.reduceEq, Int.reduceLT, Int.reduceLE, Int.reduceNeg, Int.reduceAdd, Int.reduceSub, Int.reduceMul, Nat.reduceLeDiff, Int.reduceToNat, b0, b1, b2, cell_h, cellO_cells, h0, c1]) | ((repeat ((fail_if_success with_reducible refine hK _ _ ?_); clear hK K)); (with_reducible refine hK _ _ ?_); clear hK K))))
    · have b1 : (s.length : Int) ≤ (k : Int) := by omega
      rw [if_neg (by omega)]
      refine Gives.of_W Tryd.call35 Tryd.func35 rfl Tryd.ntmps35 (by simp) ?_; intro Z hZ
      (repeat (first | (with_reducible first | (refine hK _ _ ?_; clear hK K) | refine (show ∀ σ' w', _ → K σ' w' from by assumption) _ _ ?_ | refine W_seq_k fun K hK => ?_ | refine W_block_k fun K hK => ?_ | refine W_skip ?_ | refine W_ret ?_) | ((first | ((with_reducible refine W_id ?_); refine W_reg (by decide) (by rfl) ?_) | (with_reducible first | refine W_cond ?_ | refine hZ _ _ ?_ | refine W_exit ?_ | refine Wo_id ?_)); repeat1' simp only [push_cast, Nat.reduceBEq, Nat.reduceLT, Nat.reduceEqDiff, reduceIte, reduceCtorEq, Nat.reduceMul, Nat.reduceAdd, Nat.reduceSub, Int.reduceEq, Int.reduceLT, Int.reduceLE, Int.reduceNeg, Int.reduceAdd, Int.reduceSub, Int.reduceMul, Nat.reduceLeDiff, Int.reduceToNat, hk0]) | ((repeat ((fail_if_success with_reducible refine hK _ _ ?_); clear hK K)); (with_reducible refine hK _ _ ?_); clear hK K)))
      refine (slen_c h).mono ?_
      intro v w' ⟨hv, hw⟩
      subst hv; subst w'
      ((repeat simp only [push_cast, Nat.reduceBEq, Nat.reduceLT, Nat.reduceEqDiff, reduceIte, reduceCtorEq, Nat.reduceMul, Nat.reduceAdd, Nat.reduceSub, Int.reduceEq, Int.reduceLT, Int.reduceLE, Int.reduceNeg, Int.reduceAdd, Int.reduceSub, Int.reduceMul, Nat.reduceLeDiff, Int.reduceToNat, b1]); (repeat (first | (with_reducible first | (refine hK _ _ ?_; clear hK K) | refine (show ∀ σ' w', _ → K σ' w' from by assumption) _ _ ?_ | refine W_seq_k fun K hK => ?_ | refine W_block_k fun K hK => ?_ | refine W_skip ?_ | refine W_ret ?_) | ((first | ((with_reducible refine W_id ?_); refine W_reg (by decide) (by rfl) ?_) | (with_reducible first | refine W_cond ?_ | refine hZ _ _ ?_ | refine W_exit ?_ | refine Wo_id ?_)); repeat1' simp only [push_cast, Nat.reduceBEq, Nat.reduceLT, Nat.reduceEqDiff, reduceIte, reduceCtorEq, Nat.reduceMul, Nat.reduceAdd, Nat.reduceSub, Int.reduceEq, Int.reduceLT, Int.reduceLE, Int.reduceNeg, Int.reduceAdd, Int.reduceSub, Int.reduceMul, Nat.reduceLeDiff, Int.reduceToNat, b1]) | ((repeat ((fail_if_success with_reducible refine hK _ _ ?_); clear hK K)); (with_reducible refine hK _ _ ?_); clear hK K))))
theorem stop_c {ap : Value} (h : SK w ps ap sv s bo) (hs : s.length < 100000) : Gives Tryd.prog 13 #[.pointer (some ⟨ps, 0, none⟩)] w fun v w' => v = .int .i64 (topS s) ∧ w' = w := by
  have b0 : inI64 ((s.length : Int) - 1) := by unfold inI64; omega
  refine Gives.of_W Tryd.call13 Tryd.func13 rfl Tryd.ntmps13 (by simp) ?_; intro Z hZ
  (repeat (first | (with_reducible first | (refine hK _ _ ?_; clear hK K) | refine (show ∀ σ' w', _ → K σ' w' from by assumption) _ _ ?_ | refine W_seq_k fun K hK => ?_ | refine W_block_k fun K hK => ?_ | refine W_skip ?_ | refine W_ret ?_) | ((first | ((with_reducible refine W_id ?_); refine W_reg (by decide) (by rfl) ?_) | (with_reducible first | refine W_cond ?_ | refine hZ _ _ ?_ | refine W_exit ?_ | refine Wo_id ?_)); repeat1' simp only [push_cast, Nat.reduceBEq, Nat.reduceLT, Nat.reduceEqDiff, reduceIte, reduceCtorEq, Nat.reduceMul, Nat.reduceAdd, Nat.reduceSub, Int.reduceEq, Int.reduceLT, Int.reduceLE, Int.reduceNeg, Int.reduceAdd, Int.reduceSub, Int.reduceMul, Nat.reduceLeDiff, Int.reduceToNat]) | ((repeat ((fail_if_success with_reducible refine hK _ _ ?_); clear hK K)); (with_reducible refine hK _ _ ?_); clear hK K)))
  refine (slen_c h).mono ?_
  intro v w' ⟨hv, hw⟩
  subst hv; subst w'
  ((repeat simp only [push_cast, Nat.reduceBEq, Nat.reduceLT, Nat.reduceEqDiff, reduceIte, reduceCtorEq, Nat.reduceMul, Nat.reduceAdd, Nat.reduceSub, Int.reduceEq, Int.reduceLT, Int.reduceLE, Int.reduceNeg, Int.reduceAdd, Int.reduceSub, Int.reduceMul, Nat.reduceLeDiff, Int.reduceToNat, b0]); (repeat (first | (with_reducible first | (refine hK _ _ ?_; clear hK K) | refine (show ∀ σ' w', _ → K σ' w' from by assumption) _ _ ?_ | refine W_seq_k fun K hK => ?_ | refine W_block_k fun K hK => ?_ | refine W_skip ?_ | refine W_ret ?_) | ((first | ((with_reducible refine W_id ?_); refine W_reg (by decide) (by rfl) ?_) | (with_reducible first | refine W_cond ?_ | refine hZ _ _ ?_ | refine W_exit ?_ | refine Wo_id ?_)); repeat1' simp only [push_cast, Nat.reduceBEq, Nat.reduceLT, Nat.reduceEqDiff, reduceIte, reduceCtorEq, Nat.reduceMul, Nat.reduceAdd, Nat.reduceSub, Int.reduceEq, Int.reduceLT, Int.reduceLE, Int.reduceNeg, Int.reduceAdd, Int.reduceSub, Int.reduceMul, Nat.reduceLeDiff, Int.reduceToNat, b0]) | ((repeat ((fail_if_success with_reducible refine hK _ _ ?_); clear hK K)); (with_reducible refine hK _ _ ?_); clear hK K))))
  refine (sat_c h _).mono ?_
  intro v w' ⟨hv, hw⟩
  subst hv; subst w'
  ((repeat simp only [push_cast, Nat.reduceBEq, Nat.reduceLT, Nat.reduceEqDiff, reduceIte, reduceCtorEq, Nat.reduceMul, Nat.reduceAdd, Nat.reduceSub, Int.reduceEq, Int.reduceLT, Int.reduceLE, Int.reduceNeg, Int.reduceAdd, Int.reduceSub, Int.reduceMul, Nat.reduceLeDiff, Int.reduceToNat]); (repeat (first | (with_reducible first | (refine hK _ _ ?_; clear hK K) | refine (show ∀ σ' w', _ → K σ' w' from by assumption) _ _ ?_ | refine W_seq_k fun K hK => ?_ | refine W_block_k fun K hK => ?_ | refine W_skip ?_ | refine W_ret ?_) | ((first | ((with_reducible refine W_id ?_); refine W_reg (by decide) (by rfl) ?_) | (with_reducible first | refine W_cond ?_ | refine hZ _ _ ?_ | refine W_exit ?_ | refine Wo_id ?_)); repeat1' simp only [push_cast, Nat.reduceBEq, Nat.reduceLT, Nat.reduceEqDiff, reduceIte, reduceCtorEq, Nat.reduceMul, Nat.reduceAdd, Nat.reduceSub, Int.reduceEq, Int.reduceLT, Int.reduceLE, Int.reduceNeg, Int.reduceAdd, Int.reduceSub, Int.reduceMul, Nat.reduceLeDiff, Int.reduceToNat]) | ((repeat ((fail_if_success with_reducible refine hK _ _ ?_); clear hK K)); (with_reducible refine hK _ _ ?_); clear hK K))))
  rfl
theorem sindex_c {ap : Value} (h : SK w ps ap sv s bo) (hs : s.length < 100000) (i : Int) : Gives Tryd.prog 14 #[.pointer (some ⟨ps, 0, none⟩), .int .i64 i] w fun v w' => v = .int .i64 (indexS s i) ∧ w' = w := by
  have s0 : inI64 ((s.length : Int) - 1) := by unfold inI64; omega
  have h0 := h.head
  refine Gives.of_W Tryd.call14 Tryd.func14 rfl Tryd.ntmps14 (by simp) ?_; intro Z hZ
  (repeat (first | (with_reducible first | (refine hK _ _ ?_; clear hK K) | refine (show ∀ σ' w', _ → K σ' w' from by assumption) _ _ ?_ | refine W_seq_k fun K hK => ?_ | refine W_block_k fun K hK => ?_ | refine W_skip ?_ | refine W_ret ?_) | ((first | ((with_reducible refine W_id ?_); refine W_reg (by decide) (by rfl) ?_) | (with_reducible first | refine W_cond ?_ | refine hZ _ _ ?_ | refine W_exit ?_ | refine Wo_id ?_)); repeat1' simp only [push_cast, Nat.reduceBEq, Nat.reduceLT, Nat.reduceEqDiff, reduceIte, reduceCtorEq, Nat.reduceMul, Nat.reduceAdd, Nat.reduceSub, Int.reduceEq, Int.reduceLT, Int.reduceLE, Int.reduceNeg, Int.reduceAdd, Int.reduceSub, Int.reduceMul, Nat.reduceLeDiff, Int.reduceToNat]) | ((repeat ((fail_if_success with_reducible refine hK _ _ ?_); clear hK K)); (with_reducible refine hK _ _ ?_); clear hK K)))
  refine (slen_c h).mono ?_
  intro v w' ⟨hv, hw⟩
  subst hv; subst w'
  ((repeat simp only [push_cast, Nat.reduceBEq, Nat.reduceLT, Nat.reduceEqDiff, reduceIte, reduceCtorEq, Nat.reduceMul, Nat.reduceAdd, Nat.reduceSub, Int.reduceEq, Int.reduceLT, Int.reduceLE, Int.reduceNeg, Int.reduceAdd, Int.reduceSub, Int.reduceMul, Nat.reduceLeDiff, Int.reduceToNat, s0]); (repeat (first | (with_reducible first | (refine hK _ _ ?_; clear hK K) | refine (show ∀ σ' w', _ → K σ' w' from by assumption) _ _ ?_ | refine W_seq_k fun K hK => ?_ | refine W_block_k fun K hK => ?_ | refine W_skip ?_ | refine W_ret ?_) | ((first | ((with_reducible refine W_id ?_); refine W_reg (by decide) (by rfl) ?_) | (with_reducible first | refine W_cond ?_ | refine hZ _ _ ?_ | refine W_exit ?_ | refine Wo_id ?_)); repeat1' simp only [push_cast, Nat.reduceBEq, Nat.reduceLT, Nat.reduceEqDiff, reduceIte, reduceCtorEq, Nat.reduceMul, Nat.reduceAdd, Nat.reduceSub, Int.reduceEq, Int.reduceLT, Int.reduceLE, Int.reduceNeg, Int.reduceAdd, Int.reduceSub, Int.reduceMul, Nat.reduceLeDiff, Int.reduceToNat, s0]) | ((repeat ((fail_if_success with_reducible refine hK _ _ ?_); clear hK K)); (with_reducible refine hK _ _ ?_); clear hK K))))
  refine W_loop (S := Nat) (fun k => [(0, .pointer (some ⟨ps, 0, none⟩)), (1, .int .i64 i), (5, .int .i64 ((k : Int) - 1))])
    (fun k w2 => k ≤ s.length ∧ indexS s i = lastB (fun k => decide ((s.getD k zS).node = i)) k ∧ w2 = w) (fun k => k) s.length ?_ ?_ ?_
  · (repeat simp only [push_cast, Nat.reduceBEq, Nat.reduceLT, Nat.reduceEqDiff, reduceIte, reduceCtorEq, Nat.reduceMul, Nat.reduceAdd, Nat.reduceSub, Int.reduceEq, Int.reduceLT, Int.reduceLE, Int.reduceNeg, Int.reduceAdd, Int.reduceSub, Int.reduceMul, Nat.reduceLeDiff, Int.reduceToNat])
  · exact ⟨Nat.le_refl _, rfl, rfl⟩
  rintro k w2 ⟨hk, he, hw⟩
  subst w2
  cases k with
  | zero =>
    have e0 : (((0 : Nat) : Int) - 1) = -1 := rfl
    rw [e0]
    have b0 : ¬ (0 : Int) ≤ -1 := by omega
    (repeat (first | (with_reducible first | (refine hK _ _ ?_; clear hK K) | refine (show ∀ σ' w', _ → K σ' w' from by assumption) _ _ ?_ | refine W_seq_k fun K hK => ?_ | refine W_block_k fun K hK => ?_ | refine W_skip ?_ | refine W_ret ?_) | ((first | ((with_reducible refine W_id ?_); refine W_reg (by decide) (by rfl) ?_) | (with_reducible first | refine W_cond ?_ | refine hZ _ _ ?_ | refine W_exit ?_ | refine Wo_id ?_)); repeat1' simp only [push_cast, Nat.reduceBEq, Nat.reduceLT, Nat.reduceEqDiff, reduceIte, reduceCtorEq, Nat.reduceMul, Nat.reduceAdd, Nat.reduceSub, Int.reduceEq, Int.reduceLT, Int.reduceLE, Int.reduceNeg, Int.reduceAdd, Int.reduceSub, Int.reduceMul, Nat.reduceLeDiff, Int.reduceToNat, b0]) | ((repeat ((fail_if_success with_reducible refine hK _ _ ?_); clear hK K)); (with_reducible refine hK _ _ ?_); clear hK K)))
    rw [he]; rfl
  | succ k =>
    have e0 : (((k + 1 : Nat) : Int) - 1) = k := by omega
    rw [e0]
    rw [lastB] at he
    have b2 : inI64 ((k : Int) - 1) := by unfold inI64; omega
    have b0 : (0 : Int) ≤ (k : Int) := by omega
    have hkl : k < s.length := by omega
    have b3 : (k : Int) < (s.length : Int) := by omega
    obtain ⟨y, hy⟩ : ∃ y, s[k]? = some y := ⟨_, List.getElem?_eq_getElem hkl⟩
    have hgd : s.getD k zS = y := by simp [List.getD, hy]
    rw [hgd] at he
    obtain ⟨b, o, c, rfl, _, c1, c2, c3⟩ := ops_cell h.sl hy
    by_cases hyi : y.node = i
    · rw [if_pos (by simpa using hyi)] at he
      rw [hyi] at c1
      (repeat (first | (with_reducible first | (refine hK _ _ ?_; clear hK K) | refine (show ∀ σ' w', _ → K σ' w' from by assumption) _ _ ?_ | refine W_seq_k fun K hK => ?_ | refine W_block_k fun K hK => ?_ | refine W_skip ?_ | refine W_ret ?_) | ((first | ((with_reducible refine W_id ?_); refine W_reg (by decide) (by rfl) ?_) | (with_reducible first | refine W_cond ?_ | refine hZ _ _ ?_ | refine W_exit ?_ | refine Wo_id ?_)); repeat1' simp only [push_cast, Nat.reduceBEq, Nat.reduceLT, Nat.reduceEqDiff, reduceIte, reduceCtorEq, Nat.reduceMul, Nat.reduceAdd, Nat.reduceSub, Int.reduceEq, Int.reduceLT, Int.reduceLE, Int.reduceNeg, Int.reduceAdd, Int.reduceSub, Int.reduceMul, Nat.reduceLeDiff, Int.reduceToNat, b0, b3, cell_h, cellO_cells, h0, c1, eq_self]) | ((repeat ((fail_if_success with_reducible refine hK _ _ ?_); clear hK K)); (with_reducible refine hK _ _ ?_); clear hK K)))
      exact he.symm
    · rw [if_neg (by simpa using hyi)] at he
      (repeat (first | (with_reducible first | (refine hK _ _ ?_; clear hK K) | refine (show ∀ σ' w', _ → K σ' w' from by assumption) _ _ ?_ | refine W_seq_k fun K hK => ?_ | refine W_block_k fun K hK => ?_ | refine W_skip ?_ | refine W_ret ?_) | ((first | ((with_reducible refine W_id ?_); refine W_reg (by decide) (by rfl) ?_) | (with_reducible first | refine W_cond ?_ | refine hZ _ _ ?_ | refine W_exit ?_ | refine Wo_id ?_)); repeat1' simp only [push_cast, Nat.reduceBEq, Nat.reduceLT, Nat.reduceEqDiff, reduceIte, reduceCtorEq, Nat.reduceMul, Nat.reduceAdd, Nat.reduceSub, Int.reduceEq, Int.reduceLT, Int.reduceLE, Int.reduceNeg, Int.reduceAdd, Int.reduceSub, Int.reduceMul, Nat.reduceLeDiff, Int.reduceToNat, b0, b2, b3, cell_h, cellO_cells, h0, c1, hyi]) | ((repeat ((fail_if_success with_reducible refine hK _ _ ?_); clear hK K)); (with_reducible refine hK _ _ ?_); clear hK K)))
      refine ⟨k, by omega, ?_⟩
      (repeat simp only [push_cast, Nat.reduceBEq, Nat.reduceLT, Nat.reduceEqDiff, reduceIte, reduceCtorEq, Nat.reduceMul, Nat.reduceAdd, Nat.reduceSub, Int.reduceEq, Int.reduceLT, Int.reduceLE, Int.reduceNeg, Int.reduceAdd, Int.reduceSub, Int.reduceMul, Nat.reduceLeDiff, Int.reduceToNat])
      exact ⟨by omega, he⟩
theorem sidxs_c {v : Value} {l : List ByteArray} (ha : RdAt w 1 v (strCells l)) (hb : l.length < 1000000000) (x : ByteArray) :
    Gives Tryd.prog 81 #[v, .string x] w fun u w' => (∃ n, u = .int .i64 n ∧ decide (0 ≤ n) = l.any fun y => decide (x = y)) ∧ w' = w := by
  obtain ⟨a, c, rfl, _, hcell⟩ := str_len ha
  refine Gives.of_W Tryd.call81 Tryd.func81 rfl Tryd.ntmps81 (by simp) ?_; intro Z hZ
  (repeat (first | (with_reducible first | (refine hK _ _ ?_; clear hK K) | refine (show ∀ σ' w', _ → K σ' w' from by assumption) _ _ ?_ | refine W_seq_k fun K hK => ?_ | refine W_block_k fun K hK => ?_ | refine W_skip ?_ | refine W_ret ?_) | ((first | ((with_reducible refine W_id ?_); refine W_reg (by decide) (by rfl) ?_) | (with_reducible first | refine W_cond ?_ | refine hZ _ _ ?_ | refine W_exit ?_ | refine Wo_id ?_)); repeat1' simp only [push_cast, Nat.reduceBEq, Nat.reduceLT, Nat.reduceEqDiff, reduceIte, reduceCtorEq, Nat.reduceMul, Nat.reduceAdd, Nat.reduceSub, Int.reduceEq, Int.reduceLT, Int.reduceLE, Int.reduceNeg, Int.reduceAdd, Int.reduceSub, Int.reduceMul, Nat.reduceLeDiff, Int.reduceToNat]) | ((repeat ((fail_if_success with_reducible refine hK _ _ ?_); clear hK K)); (with_reducible refine hK _ _ ?_); clear hK K)))
  refine W_loop (S := Nat) (fun k => [(0, .slice a l.length c), (1, .string x), (7, .int .i64 (l.length : Int)), (8, .int .i64 (k : Int))])
    (fun k w2 => k ≤ l.length ∧ ((l.take k).any fun y => decide (x = y)) = false ∧ w2 = w) (fun k => l.length - k) 0 ?_ ?_ ?_
  · (repeat simp only [push_cast, Nat.reduceBEq, Nat.reduceLT, Nat.reduceEqDiff, reduceIte, reduceCtorEq, Nat.reduceMul, Nat.reduceAdd, Nat.reduceSub, Int.reduceEq, Int.reduceLT, Int.reduceLE, Int.reduceNeg, Int.reduceAdd, Int.reduceSub, Int.reduceMul, Nat.reduceLeDiff, Int.reduceToNat])
  · exact ⟨by omega, by simp, rfl⟩
  rintro k w2 ⟨hk, hn, hw⟩
  subst w2
  by_cases hkl : k < l.length
  · obtain ⟨y, hy⟩ : ∃ y, l[k]? = some y := ⟨_, List.getElem?_eq_getElem hkl⟩
    obtain ⟨b, o, rfl, c1⟩ := hcell k y hy
    rw [cell_h] at c1
    have b0 : (k : Int) < (l.length : Int) := by omega
    have b1 : (0 : Int) ≤ (k : Int) := by omega
    have b2 : inI64 ((k : Int) + 1) := by unfold inI64; omega
    by_cases hxy : x = y
    · (repeat (first | (with_reducible first | (refine hK _ _ ?_; clear hK K) | refine (show ∀ σ' w', _ → K σ' w' from by assumption) _ _ ?_ | refine W_seq_k fun K hK => ?_ | refine W_block_k fun K hK => ?_ | refine W_skip ?_ | refine W_ret ?_) | ((first | ((with_reducible refine W_id ?_); refine W_reg (by decide) (by rfl) ?_) | (with_reducible first | refine W_cond ?_ | refine hZ _ _ ?_ | refine W_exit ?_ | refine Wo_id ?_)); repeat1' simp only [push_cast, Nat.reduceBEq, Nat.reduceLT, Nat.reduceEqDiff, reduceIte, reduceCtorEq, Nat.reduceMul, Nat.reduceAdd, Nat.reduceSub, Int.reduceEq, Int.reduceLT, Int.reduceLE, Int.reduceNeg, Int.reduceAdd, Int.reduceSub, Int.reduceMul, Nat.reduceLeDiff, Int.reduceToNat, b0, b1, cell_h, cellO_cells, c1, hxy, eq_self]) | ((repeat ((fail_if_success with_reducible refine hK _ _ ?_); clear hK K)); (with_reducible refine hK _ _ ?_); clear hK K)))
      have : (l.any fun y => decide (x = y)) = true := List.any_eq_true.2 ⟨y, List.mem_of_getElem? hy, by simpa using hxy⟩
      rw [← hxy]
      exact this.symm
    · (repeat (first | (with_reducible first | (refine hK _ _ ?_; clear hK K) | refine (show ∀ σ' w', _ → K σ' w' from by assumption) _ _ ?_ | refine W_seq_k fun K hK => ?_ | refine W_block_k fun K hK => ?_ | refine W_skip ?_ | refine W_ret ?_) | ((first | ((with_reducible refine W_id ?_); refine W_reg (by decide) (by rfl) ?_) | (with_reducible first | refine W_cond ?_ | refine hZ _ _ ?_ | refine W_exit ?_ | refine Wo_id ?_)); repeat1' simp only [push_cast, Nat.reduceBEq, Nat.reduceLT, Nat.reduceEqDiff, reduceIte, reduceCtorEq, Nat.reduceMul, Nat.reduceAdd, Nat.reduceSub, Int.reduceEq, Int.reduceLT, Int.reduceLE, Int.reduceNeg, Int.reduceAdd, Int.reduceSub, Int.reduceMul, Nat.reduceLeDiff, Int.reduceToNat, b0, b1, b2, cell_h, cellO_cells, c1, hxy]) | ((repeat ((fail_if_success with_reducible refine hK _ _ ?_); clear hK K)); (with_reducible refine hK _ _ ?_); clear hK K)))
      refine ⟨k + 1, by omega, ?_⟩
      (repeat simp only [push_cast, Nat.reduceBEq, Nat.reduceLT, Nat.reduceEqDiff, reduceIte, reduceCtorEq, Nat.reduceMul, Nat.reduceAdd, Nat.reduceSub, Int.reduceEq, Int.reduceLT, Int.reduceLE, Int.reduceNeg, Int.reduceAdd, Int.reduceSub, Int.reduceMul, Nat.reduceLeDiff, Int.reduceToNat])
      refine ⟨by omega, ?_⟩
      rw [List.take_add_one, hy, List.any_append, hn]
      simp [hxy]
  · have hke : k = l.length := by omega
    subst hke
    have b0 : ¬ (l.length : Int) < (l.length : Int) := by omega
    rw [List.take_length] at hn
    (repeat (first | (with_reducible first | (refine hK _ _ ?_; clear hK K) | refine (show ∀ σ' w', _ → K σ' w' from by assumption) _ _ ?_ | refine W_seq_k fun K hK => ?_ | refine W_block_k fun K hK => ?_ | refine W_skip ?_ | refine W_ret ?_) | ((first | ((with_reducible refine W_id ?_); refine W_reg (by decide) (by rfl) ?_) | (with_reducible first | refine W_cond ?_ | refine hZ _ _ ?_ | refine W_exit ?_ | refine Wo_id ?_)); repeat1' simp only [push_cast, Nat.reduceBEq, Nat.reduceLT, Nat.reduceEqDiff, reduceIte, reduceCtorEq, Nat.reduceMul, Nat.reduceAdd, Nat.reduceSub, Int.reduceEq, Int.reduceLT, Int.reduceLE, Int.reduceNeg, Int.reduceAdd, Int.reduceSub, Int.reduceMul, Nat.reduceLeDiff, Int.reduceToNat, b0]) | ((repeat ((fail_if_success with_reducible refine hK _ _ ?_); clear hK K)); (with_reducible refine hK _ _ ?_); clear hK K)))
    rw [hn]
theorem sconts_c {v : Value} {l : List ByteArray} (ha : RdAt w 1 v (strCells l)) (hb : l.length < 1000000000) (x : ByteArray) :
    Gives Tryd.prog 70 #[v, .string x] w fun u w' => u = .bool (l.any fun y => decide (x = y)) ∧ w' = w := by
  obtain ⟨a, c, rfl, _, hcell⟩ := str_len ha
  refine Gives.of_W Tryd.call70 Tryd.func70 rfl Tryd.ntmps70 (by simp) ?_; intro Z hZ
  (repeat (first | (with_reducible first | (refine hK _ _ ?_; clear hK K) | refine (show ∀ σ' w', _ → K σ' w' from by assumption) _ _ ?_ | refine W_seq_k fun K hK => ?_ | refine W_block_k fun K hK => ?_ | refine W_skip ?_ | refine W_ret ?_) | ((first | ((with_reducible refine W_id ?_); refine W_reg (by decide) (by rfl) ?_) | (with_reducible first | refine W_cond ?_ | refine hZ _ _ ?_ | refine W_exit ?_ | refine Wo_id ?_)); repeat1' simp only [push_cast, Nat.reduceBEq, Nat.reduceLT, Nat.reduceEqDiff, reduceIte, reduceCtorEq, Nat.reduceMul, Nat.reduceAdd, Nat.reduceSub, Int.reduceEq, Int.reduceLT, Int.reduceLE, Int.reduceNeg, Int.reduceAdd, Int.reduceSub, Int.reduceMul, Nat.reduceLeDiff, Int.reduceToNat]) | ((repeat ((fail_if_success with_reducible refine hK _ _ ?_); clear hK K)); (with_reducible refine hK _ _ ?_); clear hK K)))
  refine (sidxs_c ha hb x).mono ?_
  rintro u w' ⟨⟨n, rfl, hn⟩, rfl⟩
  ((repeat simp only [push_cast, Nat.reduceBEq, Nat.reduceLT, Nat.reduceEqDiff, reduceIte, reduceCtorEq, Nat.reduceMul, Nat.reduceAdd, Nat.reduceSub, Int.reduceEq, Int.reduceLT, Int.reduceLE, Int.reduceNeg, Int.reduceAdd, Int.reduceSub, Int.reduceMul, Nat.reduceLeDiff, Int.reduceToNat]); (repeat (first | (with_reducible first | (refine hK _ _ ?_; clear hK K) | refine (show ∀ σ' w', _ → K σ' w' from by assumption) _ _ ?_ | refine W_seq_k fun K hK => ?_ | refine W_block_k fun K hK => ?_ | refine W_skip ?_ | refine W_ret ?_) | ((first | ((with_reducible refine W_id ?_); refine W_reg (by decide) (by rfl) ?_) | (with_reducible first | refine W_cond ?_ | refine hZ _ _ ?_ | refine W_exit ?_ | refine Wo_id ?_)); repeat1' simp only [push_cast, Nat.reduceBEq, Nat.reduceLT, Nat.reduceEqDiff, reduceIte, reduceCtorEq, Nat.reduceMul, Nat.reduceAdd, Nat.reduceSub, Int.reduceEq, Int.reduceLT, Int.reduceLE, Int.reduceNeg, Int.reduceAdd, Int.reduceSub, Int.reduceMul, Nat.reduceLeDiff, Int.reduceToNat]) | ((repeat ((fail_if_success with_reducible refine hK _ _ ?_); clear hK K)); (with_reducible refine hK _ _ ?_); clear hK K))))
  rw [hn]
theorem html_c {v : Value} {l : List ByteArray} (ha : RdAt w 1 v (strCells l)) (hb : l.length < 1000000000) (o : OpS) :
    Gives Tryd.prog 42 #[.agg o.row, v] w fun u w' => u = .bool (htmlS o l) ∧ Ext w w' := by
  obtain ⟨a, c, rfl, _, hcell⟩ := str_len ha
  have hx := Ext.alloc w (.cells o.row 79)
  unfold OpS.row at hx ⊢
  unfold htmlS
  by_cases hs : o.space = 0
  · rw [hs] at hx
    refine Gives.of_W Tryd.call42 Tryd.func42 rfl Tryd.ntmps42 (by simp) ?_; intro Z hZ
    (repeat (first | (with_reducible first | (refine hK _ _ ?_; clear hK K) | refine (show ∀ σ' w', _ → K σ' w' from by assumption) _ _ ?_ | refine W_seq_k fun K hK => ?_ | refine W_block_k fun K hK => ?_ | refine W_skip ?_ | refine W_ret ?_) | ((first | ((with_reducible refine W_id ?_); refine W_reg (by decide) (by rfl) ?_) | (with_reducible first | refine W_cond ?_ | refine hZ _ _ ?_ | refine W_exit ?_ | refine Wo_id ?_)); repeat1' simp only [push_cast, Nat.reduceBEq, Nat.reduceLT, Nat.reduceEqDiff, reduceIte, reduceCtorEq, Nat.reduceMul, Nat.reduceAdd, Nat.reduceSub, Int.reduceEq, Int.reduceLT, Int.reduceLE, Int.reduceNeg, Int.reduceAdd, Int.reduceSub, Int.reduceMul, Nat.reduceLeDiff, Int.reduceToNat, cell_h, can_h, cellO_cells, canO_cells, setO_cells, heap_set_h, heap_alloc_h, size_set_h, size_alloc_h, vcells_agg, succ_ne, ne_succ, List.setIfInBounds_toArray, List.set_cons_succ, List.set_cons_zero, setCells, drew_h, hs]) | ((repeat ((fail_if_success with_reducible refine hK _ _ ?_); clear hK K)); (with_reducible refine hK _ _ ?_); clear hK K)))
    refine (sconts_c (ha.ext hx) hb o.name).mono ?_
    intro u w' ⟨hv, hw⟩
    subst hv; subst w'
    ((repeat simp only [push_cast, Nat.reduceBEq, Nat.reduceLT, Nat.reduceEqDiff, reduceIte, reduceCtorEq, Nat.reduceMul, Nat.reduceAdd, Nat.reduceSub, Int.reduceEq, Int.reduceLT, Int.reduceLE, Int.reduceNeg, Int.reduceAdd, Int.reduceSub, Int.reduceMul, Nat.reduceLeDiff, Int.reduceToNat]); (repeat (first | (with_reducible first | (refine hK _ _ ?_; clear hK K) | refine (show ∀ σ' w', _ → K σ' w' from by assumption) _ _ ?_ | refine W_seq_k fun K hK => ?_ | refine W_block_k fun K hK => ?_ | refine W_skip ?_ | refine W_ret ?_) | ((first | ((with_reducible refine W_id ?_); refine W_reg (by decide) (by rfl) ?_) | (with_reducible first | refine W_cond ?_ | refine hZ _ _ ?_ | refine W_exit ?_ | refine Wo_id ?_)); repeat1' simp only [push_cast, Nat.reduceBEq, Nat.reduceLT, Nat.reduceEqDiff, reduceIte, reduceCtorEq, Nat.reduceMul, Nat.reduceAdd, Nat.reduceSub, Int.reduceEq, Int.reduceLT, Int.reduceLE, Int.reduceNeg, Int.reduceAdd, Int.reduceSub, Int.reduceMul, Nat.reduceLeDiff, Int.reduceToNat]) | ((repeat ((fail_if_success with_reducible refine hK _ _ ?_); clear hK K)); (with_reducible refine hK _ _ ?_); clear hK K))))
    exact ⟨by simp [hs], hx⟩
  · refine Gives.of_W Tryd.call42 Tryd.func42 rfl Tryd.ntmps42 (by simp) ?_; intro Z hZ
    (repeat (first | (with_reducible first | (refine hK _ _ ?_; clear hK K) | refine (show ∀ σ' w', _ → K σ' w' from by assumption) _ _ ?_ | refine W_seq_k fun K hK => ?_ | refine W_block_k fun K hK => ?_ | refine W_skip ?_ | refine W_ret ?_) | ((first | ((with_reducible refine W_id ?_); refine W_reg (by decide) (by rfl) ?_) | (with_reducible first | refine W_cond ?_ | refine hZ _ _ ?_ | refine W_exit ?_ | refine Wo_id ?_)); repeat1' simp only [push_cast, Nat.reduceBEq, Nat.reduceLT, Nat.reduceEqDiff, reduceIte, reduceCtorEq, Nat.reduceMul, Nat.reduceAdd, Nat.reduceSub, Int.reduceEq, Int.reduceLT, Int.reduceLE, Int.reduceNeg, Int.reduceAdd, Int.reduceSub, Int.reduceMul, Nat.reduceLeDiff, Int.reduceToNat, cell_h, can_h, cellO_cells, canO_cells, setO_cells, heap_set_h, heap_alloc_h, size_set_h, size_alloc_h, vcells_agg, succ_ne, ne_succ, List.setIfInBounds_toArray, List.set_cons_succ, List.set_cons_zero, setCells, drew_h, hs]) | ((repeat ((fail_if_success with_reducible refine hK _ _ ?_); clear hK K)); (with_reducible refine hK _ _ ?_); clear hK K)))
    exact hx
end
end Go.Proofs.YtkafpameheohdaaDoor
end
section
set_option linter.unusedSimpArgs false
set_option linter.unusedVariables false
namespace Go.Vk
structure MvS (L : List Nd) (N : Nat) (pk ck : List Int) : Prop where
  gd : Gd L
  len : L.length = N
  big : 4 ≤ N
  k1 : (gN L 1).kids = pk
  k3 : (gN L 3).kids = ck
  n1 : (gN L 1).kind = 3
  n2 : (gN L 2).kind = 3
  n3 : (gN L 3).kind = 6
  p1 : (gN L 1).parent = -1
  p2 : (gN L 2).parent = -1
  c2 : (gN L 2).content = 3
  at_ : ∀ n ∈ L, n.attrs = []
theorem MvS.p3 {L : List Nd} {N : Nat} {pk ck : List Int} (h : MvS L N pk ck) : (gN L 3).parent = -1 := by
  have h1 := h.gd.low 3
  have h2 := h.gd.knd 3
  rw [h.n3] at h2
  by_cases hp : 0 ≤ (gN L 3).parent
  · have := h2 hp; simp [kidK] at this
  · omega
theorem MvS.up1 {L : List Nd} {N : Nat} {pk ck : List Int} (h : MvS L N pk ck) : upN L 1 = -1 := by rw [upN_g, h.n1, h.p1]; decide
theorem MvS.up2 {L : List Nd} {N : Nat} {pk ck : List Int} (h : MvS L N pk ck) : upN L 2 = -1 := by rw [upN_g, h.n2, h.p2]; decide
theorem MvS.up3 {L : List Nd} {N : Nat} {pk ck : List Int} (h : MvS L N pk ck) : upN L 3 = 2 := by rw [upN_g, h.n3, if_pos rfl]; rfl
/-- who stands above the two -/
theorem MvS.above1 {L : List Nd} {N : Nat} {pk ck : List Int} (h : MvS L N pk ck) (i : Int) : aboveN L i 1 = decide (1 = i) := by
  obtain ⟨n, hn⟩ : ∃ n, L.length = n + 4 := ⟨L.length - 4, by have := h.len; have := h.big; omega⟩
  rw [aboveN, aboveF_ab, hn]
  simp [ab, h.up1]
theorem MvS.above3 {L : List Nd} {N : Nat} {pk ck : List Int} (h : MvS L N pk ck) (i : Int) : aboveN L i 3 = (decide (3 = i) || decide (2 = i)) := by
  obtain ⟨n, hn⟩ : ∃ n, L.length = n + 4 := ⟨L.length - 4, by have := h.len; have := h.big; omega⟩
  rw [aboveN, aboveF_ab, hn]
  simp [ab, h.up3, h.up2]
theorem addK_neg (i : Int) (l : List Int) : addK (-1) i l = l ++ [i] := by simp [addK]
/-- a node is hung that was nobody's kid, or another one's -/
theorem MvS.hang {L : List Nd} {N : Nat} {pk ck : List Int} (h : MvS L N pk ck) {i p : Nat} (hi : 4 ≤ i) (hil : i < N) (hp : p = 1 ∨ p = 3) (hg : Gd (hangN L p (-1) i)) :
    MvS (hangN L p (-1) i) N (if p = 1 then pk.erase i ++ [(i : Int)] else pk.erase i) (if p = 3 then ck.erase i ++ [(i : Int)] else ck.erase i) := by
  have hl := h.len
  have hb := h.big
  have hgn := gN_hang h.gd (i := i) (p := p) (by omega) (by omega) (-1)
  have ne : ∀ t : Int, t < 4 → ¬ t = (i : Int) := fun t ht => by omega
  refine ⟨hg, by rw [hangN_len]; exact hl, hb, ?_, ?_, ?_, ?_, ?_, ?_, ?_, ?_, fun n hn => ?_⟩
  · rw [hgn]
    show (if (1 : Int) = (p : Nat) then addK (-1) i ((gN L 1).kids.erase i) else (gN L 1).kids.erase i) = _
    rw [h.k1, addK_neg]
    rcases hp with rfl | rfl
    · rw [if_pos rfl]; exact if_pos rfl
    · rw [if_neg (by decide), if_neg (by decide)]
  · rw [hgn]
    show (if (3 : Int) = (p : Nat) then addK (-1) i ((gN L 3).kids.erase i) else (gN L 3).kids.erase i) = _
    rw [h.k3, addK_neg]
    rcases hp with rfl | rfl
    · rw [if_neg (by decide), if_neg (by decide)]
    · rw [if_pos rfl]; exact if_pos rfl
  · rw [hgn]; exact h.n1
  · rw [hgn]; exact h.n2
  · rw [hgn]; exact h.n3
  · rw [hgn]; simp only [if_neg (ne 1 (by decide))]; exact h.p1
  · rw [hgn]; simp only [if_neg (ne 2 (by decide))]; exact h.p2
  · rw [hgn]; exact h.c2
  · obtain ⟨k, hk⟩ := List.getElem?_of_mem hn
    have e := gN_nat hk
    rw [hgn] at e
    have e2 : n.attrs = (gN L k).attrs := by rw [← e]
    rw [e2]
    by_cases hkl : k < L.length
    · exact h.at_ _ (List.mem_of_getElem? (gN_some hkl))
    · rw [gN_none (by omega)]; rfl
theorem MvS.push {L : List Nd} {N : Nat} {pk ck : List Int} (h : MvS L N pk ck) {n : Nd} (hp : n.parent = -1) (hk : n.kids = []) (ha : n.attrs = []) (h1 : n.kind ≠ 1) : MvS (L ++ [n]) (N + 1) pk ck := by
  have hl := h.len
  have hb := h.big
  have ne : ∀ t : Int, t < 4 → gN (L ++ [n]) t = gN L t := fun t ht => by rw [gN_push, if_neg (by omega)]
  refine ⟨h.gd.push hp hk h1, by simp [hl], by omega, ?_, ?_, ?_, ?_, ?_, ?_, ?_, ?_, fun m hm => ?_⟩
  · rw [ne 1 (by decide)]; exact h.k1
  · rw [ne 3 (by decide)]; exact h.k3
  · rw [ne 1 (by decide)]; exact h.n1
  · rw [ne 2 (by decide)]; exact h.n2
  · rw [ne 3 (by decide)]; exact h.n3
  · rw [ne 1 (by decide)]; exact h.p1
  · rw [ne 2 (by decide)]; exact h.p2
  · rw [ne 2 (by decide)]; exact h.c2
  · simp only [List.mem_append, List.mem_singleton] at hm
    rcases hm with hm | rfl
    · exact h.at_ m hm
    · exact ha
/-- a new node behind the kids of one of the two -/
theorem MvS.add {L : List Nd} {N : Nat} {pk ck : List Int} (h : MvS L N pk ck) {n : Nd} (hk : kidK n.kind = true) (hp : n.parent = -1) (hks : n.kids = []) (ha : n.attrs = []) {p : Nat} (hp2 : p = 1 ∨ p = 3) :
    ∃ L', appendN (L ++ [n]) p N = (L', 0) ∧ MvS L' (N + 1) (if p = 1 then pk ++ [(N : Int)] else pk) (if p = 3 then ck ++ [(N : Int)] else ck) := by
  have hl := h.len
  have hb := h.big
  have h' := h.push hp hks ha (kidK_one hk)
  have hh : holdsN (L ++ [n]) p = true := by
    rw [holdsN_g]
    rcases hp2 with rfl | rfl
    · show holdK (gN (L ++ [n]) 1).kind = true; rw [h'.n1]; decide
    · show holdK (gN (L ++ [n]) 3).kind = true; rw [h'.n3]; decide
  have hn : hangsN (L ++ [n]) N = true := by rw [hangsN_g, gN_push, if_pos (by omega)]; exact hk
  have hab : aboveN (L ++ [n]) N p = false := by
    rcases hp2 with rfl | rfl
    · show aboveN (L ++ [n]) N 1 = false
      rw [h'.above1]; simp; omega
    · show aboveN (L ++ [n]) N 3 = false
      rw [h'.above3]; simp; omega
  have e : appendN (L ++ [n]) p N = (hangN (L ++ [n]) p (-1) N, 0) := by
    unfold appendN
    rw [if_pos ⟨hh, hn, hab⟩]
    simp
  refine ⟨_, e, ?_⟩
  have hg : Gd (hangN (L ++ [n]) p (-1) N) := by have := Go.Proofs.YtkafpameheohdaaDoor.append_gd h'.gd p N; rw [e] at this; exact this
  have := h'.hang (i := N) (p := p) hb (by omega) hp2 hg
  have e1 : pk.erase (N : Int) = pk := List.erase_of_not_mem fun hm => by
    rw [← h.k1] at hm
    have := (h.gd.range (j := (N : Int)) (by have := (h.gd.kid 1 N).1 hm; omega)).1; omega
  have e2 : ck.erase (N : Int) = ck := List.erase_of_not_mem fun hm => by
    rw [← h.k3] at hm
    have := (h.gd.range (j := (N : Int)) (by have := (h.gd.kid 3 N).1 hm; omega)).1; omega
  rw [e1, e2] at this
  exact this
theorem MvS.holds {L : List Nd} {N : Nat} {pk ck : List Int} (h : MvS L N pk ck) : holdsN L 1 = true ∧ holdsN L 3 = true := by
  refine ⟨?_, ?_⟩
  · rw [holdsN_g, h.n1]; decide
  · rw [holdsN_g, h.n3]; decide
/-- the template among the kids: then its content stands below them -/
theorem MvS.last {L : List Nd} {N : Nat} {pk ck : List Int} (h : MvS L N pk ck) : ∃ L', appendN L 1 2 = (L', 0) ∧ moveN L' 1 3 = (L', 2) ∧ Gd L' ∧ L'.length = N ∧ ∀ n ∈ L', n.attrs = [] := by
  have hb := h.big
  have hl := h.len
  have hh : hangsN L 2 = true := by rw [hangsN_g, h.n2]; decide
  have hab : aboveN L 2 1 = false := by rw [h.above1]; decide
  have e : appendN L 1 2 = (hangN L 1 (-1) 2, 0) := if_pos ⟨h.holds.1, hh, hab⟩
  have hg : Gd (hangN L 1 (-1) 2) := by have := Go.Proofs.YtkafpameheohdaaDoor.append_gd h.gd 1 2; rw [e] at this; exact this
  have hgn := gN_hang h.gd (i := 2) (p := 1) (by omega) (by omega) (-1)
  have hlen : (hangN L 1 (-1) 2).length = N := by rw [hangN_len]; exact hl
  refine ⟨_, e, if_neg fun hx => ?_, hg, hlen, fun n hn => ?_⟩
  · have hx := hx.2.2
    obtain ⟨n, hn⟩ : ∃ n, (hangN L 1 (-1) 2).length = n + 4 := ⟨N - 4, by omega⟩
    have u3 : upN (hangN L 1 (-1) 2) 3 = 2 := by rw [upN_g, hgn]; simp [h.n3]
    have u2 : upN (hangN L 1 (-1) 2) 2 = 1 := by rw [upN_g, hgn]; simp [h.n2]
    rw [aboveN, aboveF_ab, hn] at hx
    simp [ab, u3, u2] at hx
  · obtain ⟨k, hk⟩ := List.getElem?_of_mem hn
    have e := gN_nat hk
    rw [hgn] at e
    have e2 : n.attrs = (gN L k).attrs := by rw [← e]
    rw [e2]
    by_cases hkl : k < L.length
    · exact h.at_ _ (List.mem_of_getElem? (gN_some hkl))
    · rw [gN_none (by omega)]; rfl
end Go.Vk
end
section
set_option linter.unusedSimpArgs false
set_option linter.unusedVariables false
namespace Go.Vk
/-- other memory of our own changes -/
theorem At.app {G Q : Nat → Prop} {w0 w w' : World} {P : Nat → Prop} {pa : Nat} {L : List Nd} (h : At w0 w P pa L) (hu : Upd G w w') (hG : ∀ b, b < w.heap.size → G b → P b ∧ w0.heap.size ≤ b) (hQ : ∀ b, Q b → P b ∨ (w.heap.size ≤ b ∧ b < w'.heap.size)) : At w0 w' Q pa L := by
  have hs := hu.alike.size
  have h1 := h.ar.mono (G := fun b => AF w0 P b ∧ b < w.heap.size) fun b hl hf => ⟨hf, hl⟩
  have h2 := h1.frame hu fun b hf hg => hf.1.2 (hG b hf.2 hg).1
  refine ⟨h2.mono fun b _ hf => ⟨hf.1.1, fun hq => ?_⟩, h.gd, Upd.trans h.ext hu fun i hi hg => ?_, fun b hb => ?_⟩
  · rcases hQ b hq with hp | hp
    · exact hf.1.2 hp
    · have := hf.2; omega
  · have h0 := h.ext.alike.size
    have := (hG i (by omega) hg).2; omega
  · rcases hQ b hb with hp | hp
    · have := h.low b hp; omega
    · exact hp.2
end Go.Vk
end
section
set_option linter.unusedSimpArgs false
set_option linter.unusedVariables false
namespace Go.Vk
open Go
def StAt (w0 w : World) (Q : Nat → Prop) (ps pa : Nat) (L : List Nd) (s : List OpS) : Prop :=
  ∃ sv bo, SK w ps (.pointer (some ⟨pa, 0, none⟩)) sv s bo ∧ At w0 w (fun b => Q b ∨ b = ps ∨ bo = some b) pa L ∧ w0.heap.size ≤ ps ∧ (∀ b, bo = some b → w0.heap.size ≤ b ∧ ¬ Q b) ∧ ¬ Q ps
theorem StAt.pass {w0 w w' : World} {Q : Nat → Prop} {ps pa : Nat} {L : List Nd} {s : List OpS} (h : StAt w0 w Q ps pa L s) (hx : Ext w w') : StAt w0 w' Q ps pa L s := by
  obtain ⟨sv, bo, h1, h2, h3, h4, h5⟩ := h
  exact ⟨sv, bo, h1.ext hx, h2.pass hx, h3, h4, h5⟩
theorem StAt.out {w0 w : World} {Q : Nat → Prop} {ps pa : Nat} {L : List Nd} {s : List OpS} (h : StAt w0 w Q ps pa L s) : Ext w0 w := by
  obtain ⟨sv, bo, h1, h2, _⟩ := h
  exact h2.ext
theorem StAt.app {G : Nat → Prop} {w0 w w' : World} {Q Q' : Nat → Prop} {ps pa : Nat} {L : List Nd} {s : List OpS} (h : StAt w0 w Q ps pa L s) (hu : Upd G w w') (hG : ∀ b, b < w.heap.size → G b → Q b ∧ w0.heap.size ≤ b) (hQ : ∀ b, Q' b → Q b ∨ (w.heap.size ≤ b ∧ b < w'.heap.size)) : StAt w0 w' Q' ps pa L s := by
  obtain ⟨sv, bo, h1, h2, h3, h4, h5⟩ := h
  have hlt := blk_lt h1.head
  have hng : ¬ G ps := fun hg => h5 (hG ps hlt hg).1
  refine ⟨sv, bo, h1.upd hu hng fun b hb hg => ?_, h2.app hu (fun b hb hg => ⟨.inl (hG b hb hg).1, (hG b hb hg).2⟩) fun b hb => ?_, h3, fun b hb => ⟨(h4 b hb).1, fun hq => ?_⟩, fun hq => ?_⟩
  · have hbl : b < w.heap.size := by subst hb; exact h1.sl.lt
    exact (h4 b hb).2 (hG b hbl hg).1
  · rcases hb with hb | hb | hb
    · rcases hQ b hb with h | h
      · exact .inl (.inl h)
      · exact .inr h
    · exact .inl (.inr (.inl hb))
    · exact .inl (.inr (.inr hb))
  · rcases hQ b hq with h | h
    · exact (h4 b hb).2 h
    · subst hb
      have := h1.sl.lt; omega
  · rcases hQ ps hq with h | h
    · exact h5 h
    · omega
theorem st_put {w0 w w2 : World} {Q : Nat → Prop} {ps pa : Nat} {L : List Nd} {s s' : List OpS} {sv u : Value} {bo bo' : Option Nat} (hF : SK w ps (.pointer (some ⟨pa, 0, none⟩)) sv s bo) (hA : At w0 w (fun b => Q b ∨ b = ps ∨ bo = some b) pa L)
    (hpl : w0.heap.size ≤ ps) (hbo : ∀ b, bo = some b → w0.heap.size ≤ b ∧ ¬ Q b) (hQ : ¬ Q ps) (hQl : ∀ b, Q b → b < w.heap.size) (g1 : SlAt w2 3 u (opCells s') bo') (g2 : Upd (fun b => bo = some b) w w2) (g3 : ∀ b, bo' = some b → bo = some b ∨ w.heap.size ≤ b) :
    canStore w2 ⟨ps, 1, none⟩ ∧ StAt w0 (w2.setCell ⟨ps, 1, none⟩ u) Q ps pa L s' ∧ Upd (AF w0 Q) w (w2.setCell ⟨ps, 1, none⟩ u) := by
  have hlt := blk_lt hF.head
  have hnb : ¬ bo = some ps := hF.ne
  have hp2 := (g2.same ps hlt hnb).trans hF.head
  have h0 := hA.ext.alike.size
  have hne' : bo' ≠ some ps := fun e => by
    rcases g3 ps e with h | h
    · exact hnb h
    · omega
  have hs2 := g2.alike.size
  have up : Upd (fun b => b = ps) w2 (w2.setCell ⟨ps, 1, none⟩ u) := Upd.setCell (F := fun b => b = ps) (a := ⟨ps, 1, none⟩) w2 rfl u
  refine ⟨by rw [can_h, hp2, canO_cells]; exact Nat.lt_succ_self 1, ⟨u, bo', ⟨?_, g1.upd up fun b hb e => hne' (by rw [hb, e]), hne'⟩, ?_, hpl, fun b hb => ?_, hQ⟩, ?_⟩
  · rw [heap_set_h, if_pos rfl, hp2]; rfl
  · have hA2 : At w0 w2 (fun b => Q b ∨ b = ps ∨ bo' = some b) pa L := hA.app g2 (fun b hb e => ⟨.inr (.inr e), (hbo b e).1⟩) fun b hb => by
      rcases hb with hb | hb | hb
      · exact .inl (.inl hb)
      · exact .inl (.inr (.inl hb))
      · rcases g3 b hb with h | h
        · exact .inl (.inr (.inr h))
        · exact .inr ⟨h, by rw [hb] at g1; exact g1.lt⟩
    exact hA2.frame up fun b e => ⟨.inr (.inl e), e ▸ hpl⟩
  · rcases g3 b hb with h | h
    · exact hbo b h
    · exact ⟨by omega, fun hq => by have := hQl b hq; omega⟩
  · refine Upd.trans (g2.mono fun b _ e => ⟨(hbo b e).1, (hbo b e).2⟩) up fun b _ e => ⟨e ▸ hpl, e ▸ hQ⟩
/-- an element that is in place of another one -/
theorem st_same {w0 w w2 : World} {Q : Nat → Prop} {ps pa : Nat} {L : List Nd} {s s' : List OpS} {sv : Value} {bo : Option Nat} (hF : SK w ps (.pointer (some ⟨pa, 0, none⟩)) sv s bo) (hA : At w0 w (fun b => Q b ∨ b = ps ∨ bo = some b) pa L)
    (hpl : w0.heap.size ≤ ps) (hbo : ∀ b, bo = some b → w0.heap.size ≤ b ∧ ¬ Q b) (hQ : ¬ Q ps) (g1 : SlAt w2 3 sv (opCells s') bo) (g2 : Upd (fun b => bo = some b) w w2) : StAt w0 w2 Q ps pa L s' ∧ Upd (AF w0 Q) w w2 := by
  have hlt := blk_lt hF.head
  have hnb : ¬ bo = some ps := hF.ne
  refine ⟨⟨sv, bo, ⟨(g2.same ps hlt hnb).trans hF.head, g1, hnb⟩, hA.app g2 (fun b hb e => ⟨.inr (.inr e), (hbo b e).1⟩) fun b hb => .inl hb, hpl, hbo, hQ⟩, g2.mono fun b _ e => ⟨(hbo b e).1, (hbo b e).2⟩⟩
def opN (L : List Nd) (i : Int) : OpS := ⟨i, ((nd? L i).getD zN).space, ((nd? L i).getD zN).name⟩
end Go.Vk
namespace Go.Proofs.YtkafpameheohdaaDoor
open Go Go.Vk
theorem pl79 (w : World) : ((fsOf Tryd.prog 79).mapM plOf).run Tryd.prog w = .ok #[(0,1),(1,1),(2,1)] w := by
  simp [fsOf, plOf, Tryd.underlying79, Sem.run, Tryd.sizeOf3, Tryd.sizeOf9]
theorem un79 : Tryd.prog.underlying 79 = some (.struct (fsOf Tryd.prog 79)) := by rw [fsOf, Tryd.underlying79]
theorem pl71 (w : World) : ((fsOf Tryd.prog 71).mapM plOf).run Tryd.prog w = .ok #[(0,1),(1,1)] w := by
  simp [fsOf, plOf, Tryd.underlying71, Sem.run, Tryd.sizeOf43, Tryd.sizeOf69]
theorem un71 : Tryd.prog.underlying 71 = some (.struct (fsOf Tryd.prog 71)) := by rw [fsOf, Tryd.underlying71]
set_option maxHeartbeats 40000000
section
variable {w0 w : World} {Q : Nat → Prop} {ps pa : Nat} {L : List Nd} {s : List OpS}
theorem snew_c (h : At w0 w Q pa L) (hL : L ≠ []) : Gives Tryd.prog 24 #[.pointer (some ⟨pa, 0, none⟩)] w fun v w' => ∃ ps, v = .pointer (some ⟨ps, 0, none⟩) ∧ StAt w0 w' Q ps pa L [] ∧ Ext w w' := by
  have b0 : ((L.length : Int) = 0) = False := eq_false (by have := List.length_pos_iff.2 hL; omega)
  refine Gives.of_W Tryd.call24 Tryd.func24 rfl Tryd.ntmps24 (by simp) ?_; intro Z hZ
  (repeat (first | (with_reducible first | (refine hK _ _ ?_; clear hK K) | refine (show ∀ σ' w', _ → K σ' w' from by assumption) _ _ ?_ | refine W_seq_k fun K hK => ?_ | refine W_block_k fun K hK => ?_ | refine W_skip ?_ | refine W_ret ?_) | ((first | ((with_reducible refine W_id ?_); refine W_reg (by decide) (by rfl) ?_) | (with_reducible first | refine W_cond ?_ | refine hZ _ _ ?_ | refine W_exit ?_ | refine Wo_id ?_)); repeat1' simp only [push_cast, Nat.reduceBEq, Nat.reduceLT, Nat.reduceEqDiff, reduceIte, reduceCtorEq, Nat.reduceMul, Nat.reduceAdd, Nat.reduceSub, Int.reduceEq, Int.reduceLT, Int.reduceLE, Int.reduceNeg, Int.reduceAdd, Int.reduceSub, Int.reduceMul, Nat.reduceLeDiff, Int.reduceToNat]) | ((repeat ((fail_if_success with_reducible refine hK _ _ ?_); clear hK K)); (with_reducible refine hK _ _ ?_); clear hK K)))
  refine (len_a h).mono ?_
  rintro v w' ⟨rfl, rfl⟩
  ((repeat simp only [push_cast, Nat.reduceBEq, Nat.reduceLT, Nat.reduceEqDiff, reduceIte, reduceCtorEq, Nat.reduceMul, Nat.reduceAdd, Nat.reduceSub, Int.reduceEq, Int.reduceLT, Int.reduceLE, Int.reduceNeg, Int.reduceAdd, Int.reduceSub, Int.reduceMul, Nat.reduceLeDiff, Int.reduceToNat, b0]); (repeat (first | (with_reducible first | (refine hK _ _ ?_; clear hK K) | refine (show ∀ σ' w', _ → K σ' w' from by assumption) _ _ ?_ | refine W_seq_k fun K hK => ?_ | refine W_block_k fun K hK => ?_ | refine W_skip ?_ | refine W_ret ?_) | ((first | ((with_reducible refine W_id ?_); refine W_reg (by decide) (by rfl) ?_) | (with_reducible first | refine W_cond ?_ | refine hZ _ _ ?_ | refine W_exit ?_ | refine Wo_id ?_)); repeat1' simp only [push_cast, Nat.reduceBEq, Nat.reduceLT, Nat.reduceEqDiff, reduceIte, reduceCtorEq, Nat.reduceMul, Nat.reduceAdd, Nat.reduceSub, Int.reduceEq, Int.reduceLT, Int.reduceLE, Int.reduceNeg, Int.reduceAdd, Int.reduceSub, Int.reduceMul, Nat.reduceLeDiff, Int.reduceToNat, b0]) | ((repeat ((fail_if_success with_reducible refine hK _ _ ?_); clear hK K)); (with_reducible refine hK _ _ ?_); clear hK K))))
  refine build_struct Tryd.zeroValue71 un71 pl71 (cs := #[.pointer (some ⟨pa, 0, none⟩), .slice none 0 0]) (by rfl) ?_
  ((repeat simp only [push_cast, Nat.reduceBEq, Nat.reduceLT, Nat.reduceEqDiff, reduceIte, reduceCtorEq, Nat.reduceMul, Nat.reduceAdd, Nat.reduceSub, Int.reduceEq, Int.reduceLT, Int.reduceLE, Int.reduceNeg, Int.reduceAdd, Int.reduceSub, Int.reduceMul, Nat.reduceLeDiff, Int.reduceToNat, vcells_agg]); (repeat (first | (with_reducible first | (refine hK _ _ ?_; clear hK K) | refine (show ∀ σ' w', _ → K σ' w' from by assumption) _ _ ?_ | refine W_seq_k fun K hK => ?_ | refine W_block_k fun K hK => ?_ | refine W_skip ?_ | refine W_ret ?_) | ((first | ((with_reducible refine W_id ?_); refine W_reg (by decide) (by rfl) ?_) | (with_reducible first | refine W_cond ?_ | refine hZ _ _ ?_ | refine W_exit ?_ | refine Wo_id ?_)); repeat1' simp only [push_cast, Nat.reduceBEq, Nat.reduceLT, Nat.reduceEqDiff, reduceIte, reduceCtorEq, Nat.reduceMul, Nat.reduceAdd, Nat.reduceSub, Int.reduceEq, Int.reduceLT, Int.reduceLE, Int.reduceNeg, Int.reduceAdd, Int.reduceSub, Int.reduceMul, Nat.reduceLeDiff, Int.reduceToNat, vcells_agg]) | ((repeat ((fail_if_success with_reducible refine hK _ _ ?_); clear hK K)); (with_reducible refine hK _ _ ?_); clear hK K))))
  have hx := Ext.alloc w' (.cells #[.pointer (some ⟨pa, 0, none⟩), .slice none 0 0] 71)
  have h0 := h.ext.alike.size
  have hA : At w0 (w'.alloc (.cells #[.pointer (some ⟨pa, 0, none⟩), .slice none 0 0] 71)) (fun b => Q b ∨ b = w'.heap.size ∨ (none : Option Nat) = some b) pa L := h.guard hx fun b hb => by
    rcases hb with hb | rfl | hb
    · exact .inl hb
    · exact .inr ⟨Nat.le_refl _, by rw [size_alloc_h]; omega⟩
    · cases hb
  exact ⟨w'.heap.size, rfl, ⟨_, none, ⟨by rw [heap_alloc_h, if_pos rfl], SlAt.nil _ _, by simp⟩, hA, h0, (fun b hb => by cases hb), fun hq => by have := h.low _ hq; omega⟩, hx⟩
theorem sel_c (h : StAt w0 w Q ps pa L s) (hb : L.length < 100000) (ha : ∀ n ∈ L, n.attrs.length < 1000000) (i : Int) : Gives Tryd.prog 51 #[.pointer (some ⟨ps, 0, none⟩), .int .i64 i] w fun v w' => v = .tuple #[.agg (if ((nd? L i).getD zN).kind = 3 then (opN L i).row else zS.row), .int .i64 (if ((nd? L i).getD zN).kind = 3 then 0 else 2)] ∧ Ext w w' := by
  obtain ⟨sv, bo, hF, hA, hpl, hbo, hQ⟩ := h
  have hx1 := Ext.alloc w (.cells #[.int .i64 0, .int .i64 0, .string ⟨#[]⟩] 79)
  have z1 : (w.alloc (.cells #[.int .i64 0, .int .i64 0, .string ⟨#[]⟩] 79)).heap[w.heap.size]? = some (.cells #[.int .i64 0, .int .i64 0, .string ⟨#[]⟩] 79 (0, 0)) := by rw [heap_alloc_h, if_pos rfl]
  refine Gives.of_W Tryd.call51 Tryd.func51 rfl Tryd.ntmps51 (by simp) ?_; intro Z hZ
  (repeat (first | (with_reducible first | (refine hK _ _ ?_; clear hK K) | refine (show ∀ σ' w', _ → K σ' w' from by assumption) _ _ ?_ | refine W_seq_k fun K hK => ?_ | refine W_block_k fun K hK => ?_ | refine W_skip ?_ | refine W_ret ?_) | ((first | ((with_reducible refine W_id ?_); refine W_reg (by decide) (by rfl) ?_) | (with_reducible first | refine W_cond ?_ | refine hZ _ _ ?_ | refine W_exit ?_ | refine Wo_id ?_)); repeat1' simp only [push_cast, Nat.reduceBEq, Nat.reduceLT, Nat.reduceEqDiff, reduceIte, reduceCtorEq, Nat.reduceMul, Nat.reduceAdd, Nat.reduceSub, Int.reduceEq, Int.reduceLT, Int.reduceLE, Int.reduceNeg, Int.reduceAdd, Int.reduceSub, Int.reduceMul, Nat.reduceLeDiff, Int.reduceToNat, RunV_zero Tryd.zeroValue79, vcells_agg]) | ((repeat ((fail_if_success with_reducible refine hK _ _ ?_); clear hK K)); (with_reducible refine hK _ _ ?_); clear hK K)))
  generalize w.alloc (.cells #[.int .i64 0, .int .i64 0, .string ⟨#[]⟩] 79) = w1 at *
  have hF1 := hF.ext hx1
  have hA1 := hA.pass hx1
  refine (snone_c hF1).mono ?_
  intro v w' ⟨hv, hw⟩
  subst hv; subst w'
  have h0 := hF1.head
  ((repeat simp only [push_cast, Nat.reduceBEq, Nat.reduceLT, Nat.reduceEqDiff, reduceIte, reduceCtorEq, Nat.reduceMul, Nat.reduceAdd, Nat.reduceSub, Int.reduceEq, Int.reduceLT, Int.reduceLE, Int.reduceNeg, Int.reduceAdd, Int.reduceSub, Int.reduceMul, Nat.reduceLeDiff, Int.reduceToNat, cell_h, cellO_cells, h0]); (repeat (first | (with_reducible first | (refine hK _ _ ?_; clear hK K) | refine (show ∀ σ' w', _ → K σ' w' from by assumption) _ _ ?_ | refine W_seq_k fun K hK => ?_ | refine W_block_k fun K hK => ?_ | refine W_skip ?_ | refine W_ret ?_) | ((first | ((with_reducible refine W_id ?_); refine W_reg (by decide) (by rfl) ?_) | (with_reducible first | refine W_cond ?_ | refine hZ _ _ ?_ | refine W_exit ?_ | refine Wo_id ?_)); repeat1' simp only [push_cast, Nat.reduceBEq, Nat.reduceLT, Nat.reduceEqDiff, reduceIte, reduceCtorEq, Nat.reduceMul, Nat.reduceAdd, Nat.reduceSub, Int.reduceEq, Int.reduceLT, Int.reduceLE, Int.reduceNeg, Int.reduceAdd, Int.reduceSub, Int.reduceMul, Nat.reduceLeDiff, Int.reduceToNat, cell_h, cellO_cells, h0]) | ((repeat ((fail_if_success with_reducible refine hK _ _ ?_); clear hK K)); (with_reducible refine hK _ _ ?_); clear hK K))))
  refine (node_a hA1 hb ha i).mono ?_
  rintro v w2 ⟨m, rfl, hm, hok, hA2, hx2, _, _⟩
  have z2 := hx2.blk z1
  obtain ⟨xa, xn, xc, exa, _⟩ := hok.attrs.len
  obtain ⟨ya, yn, yc, eya, _⟩ := hok.kids.len
  rw [Laid.val_eq, exa, eya]
  ((repeat simp only [push_cast, Nat.reduceBEq, Nat.reduceLT, Nat.reduceEqDiff, reduceIte, reduceCtorEq, Nat.reduceMul, Nat.reduceAdd, Nat.reduceSub, Int.reduceEq, Int.reduceLT, Int.reduceLE, Int.reduceNeg, Int.reduceAdd, Int.reduceSub, Int.reduceMul, Nat.reduceLeDiff, Int.reduceToNat, RunV_zero Tryd.zeroValue49]); (repeat (first | (with_reducible first | (refine hK _ _ ?_; clear hK K) | refine (show ∀ σ' w', _ → K σ' w' from by assumption) _ _ ?_ | refine W_seq_k fun K hK => ?_ | refine W_block_k fun K hK => ?_ | refine W_skip ?_ | refine W_ret ?_) | ((first | ((with_reducible refine W_id ?_); refine W_reg (by decide) (by rfl) ?_) | (with_reducible first | refine W_cond ?_ | refine hZ _ _ ?_ | refine W_exit ?_ | refine Wo_id ?_)); repeat1' simp only [push_cast, Nat.reduceBEq, Nat.reduceLT, Nat.reduceEqDiff, reduceIte, reduceCtorEq, Nat.reduceMul, Nat.reduceAdd, Nat.reduceSub, Int.reduceEq, Int.reduceLT, Int.reduceLE, Int.reduceNeg, Int.reduceAdd, Int.reduceSub, Int.reduceMul, Nat.reduceLeDiff, Int.reduceToNat, RunV_zero Tryd.zeroValue49]) | ((repeat ((fail_if_success with_reducible refine hK _ _ ?_); clear hK K)); (with_reducible refine hK _ _ ?_); clear hK K))))
  simp only [vcells_agg, can_h, heap_alloc_h, if_true, canO_cells, List.size_toArray, List.length_cons, List.length_nil, Nat.zero_add, Nat.reduceAdd, Nat.reduceLT, true_and]
  have z6 : (w2.alloc (.cells #[.int .i64 0, .string ⟨#[]⟩, .string ⟨#[]⟩, .int .i64 0, .slice none 0 0, .bool false, .int .i64 0, .int .i64 0, .slice none 0 0, .int .i64 0, .int .i64 0] 49)).heap[w2.heap.size]? = some (.cells #[.int .i64 0, .string ⟨#[]⟩, .string ⟨#[]⟩, .int .i64 0, .slice none 0 0, .bool false, .int .i64 0, .int .i64 0, .slice none 0 0, .int .i64 0, .int .i64 0] 49 (0, 0)) := by rw [heap_alloc_h, if_pos rfl]
  have hp6 := setCells_all z6 (l := [.int .i64 m.nd.kind, .string m.nd.name, .string m.nd.text, .int .i64 m.nd.space, .slice xa xn xc, .bool m.nd.dup, .int .i64 m.nd.parent, .int .i64 m.nd.content, .slice ya yn yc, .int .i64 m.nd.frm, .int .i64 m.nd.to]) rfl
  have hx6 : Ext w2 (setCells (w2.alloc (.cells #[.int .i64 0, .string ⟨#[]⟩, .string ⟨#[]⟩, .int .i64 0, .slice none 0 0, .bool false, .int .i64 0, .int .i64 0, .slice none 0 0, .int .i64 0, .int .i64 0] 49)) ⟨w2.heap.size, 0, none⟩ [.int .i64 m.nd.kind, .string m.nd.name, .string m.nd.text, .int .i64 m.nd.space, .slice xa xn xc, .bool m.nd.dup, .int .i64 m.nd.parent, .int .i64 m.nd.content, .slice ya yn yc, .int .i64 m.nd.frm, .int .i64 m.nd.to] 0) := Upd.trans (Ext.alloc w2 _) (Upd.setCells (F := fun b => b = w2.heap.size) (a := ⟨w2.heap.size, 0, none⟩) _ rfl _ 0) fun i hi e => by omega
  generalize setCells (w2.alloc (.cells #[.int .i64 0, .string ⟨#[]⟩, .string ⟨#[]⟩, .int .i64 0, .slice none 0 0, .bool false, .int .i64 0, .int .i64 0, .slice none 0 0, .int .i64 0, .int .i64 0] 49)) ⟨w2.heap.size, 0, none⟩ [.int .i64 m.nd.kind, .string m.nd.name, .string m.nd.text, .int .i64 m.nd.space, .slice xa xn xc, .bool m.nd.dup, .int .i64 m.nd.parent, .int .i64 m.nd.content, .slice ya yn yc, .int .i64 m.nd.frm, .int .i64 m.nd.to] 0 = w6 at *
  obtain ⟨p8, hp8⟩ : ∃ p8, p8 = w2.heap.size := ⟨_, rfl⟩
  rw [← hp8] at hp6 ⊢
  have z3 := hx6.blk z2
  have hlt := blk_lt z2
  have hne : ¬ w.heap.size = p8 := by omega
  have hx : Ext w w6 := hx1.trans (hx2.trans hx6)
  by_cases hk : ((nd? L i).getD zN).kind = 3
  · rw [← hm] at hk
    ((repeat simp only [push_cast, Nat.reduceBEq, Nat.reduceLT, Nat.reduceEqDiff, reduceIte, reduceCtorEq, Nat.reduceMul, Nat.reduceAdd, Nat.reduceSub, Int.reduceEq, Int.reduceLT, Int.reduceLE, Int.reduceNeg, Int.reduceAdd, Int.reduceSub, Int.reduceMul, Nat.reduceLeDiff, Int.reduceToNat, cell_h, can_h, cellO_cells, canO_cells, setO_cells, heap_set_h, heap_alloc_h, size_set_h, size_alloc_h, vcells_agg, succ_ne, ne_succ, List.setIfInBounds_toArray, List.set_cons_succ, List.set_cons_zero, setCells, drew_h, hp6, z3, hk, not_true_eq_false, decide_false, decide_true, vcells_agg, hne]); (repeat (first | (with_reducible first | (refine hK _ _ ?_; clear hK K) | refine (show ∀ σ' w', _ → K σ' w' from by assumption) _ _ ?_ | refine W_seq_k fun K hK => ?_ | refine W_block_k fun K hK => ?_ | refine W_skip ?_ | refine W_ret ?_) | ((first | ((with_reducible refine W_id ?_); refine W_reg (by decide) (by rfl) ?_) | (with_reducible first | refine W_cond ?_ | refine hZ _ _ ?_ | refine W_exit ?_ | refine Wo_id ?_)); repeat1' simp only [push_cast, Nat.reduceBEq, Nat.reduceLT, Nat.reduceEqDiff, reduceIte, reduceCtorEq, Nat.reduceMul, Nat.reduceAdd, Nat.reduceSub, Int.reduceEq, Int.reduceLT, Int.reduceLE, Int.reduceNeg, Int.reduceAdd, Int.reduceSub, Int.reduceMul, Nat.reduceLeDiff, Int.reduceToNat, cell_h, can_h, cellO_cells, canO_cells, setO_cells, heap_set_h, heap_alloc_h, size_set_h, size_alloc_h, vcells_agg, succ_ne, ne_succ, List.setIfInBounds_toArray, List.set_cons_succ, List.set_cons_zero, setCells, drew_h, hp6, z3, hk, not_true_eq_false, decide_false, decide_true, vcells_agg, hne]) | ((repeat ((fail_if_success with_reducible refine hK _ _ ?_); clear hK K)); (with_reducible refine hK _ _ ?_); clear hK K))))
    refine build_struct Tryd.zeroValue79 un79 pl79 (cs := #[.int .i64 i, .int .i64 m.nd.space, .string m.nd.name]) (by rfl) ?_
    ((repeat simp only [push_cast, Nat.reduceBEq, Nat.reduceLT, Nat.reduceEqDiff, reduceIte, reduceCtorEq, Nat.reduceMul, Nat.reduceAdd, Nat.reduceSub, Int.reduceEq, Int.reduceLT, Int.reduceLE, Int.reduceNeg, Int.reduceAdd, Int.reduceSub, Int.reduceMul, Nat.reduceLeDiff, Int.reduceToNat, cell_h, can_h, cellO_cells, canO_cells, setO_cells, heap_set_h, heap_alloc_h, size_set_h, size_alloc_h, vcells_agg, succ_ne, ne_succ, List.setIfInBounds_toArray, List.set_cons_succ, List.set_cons_zero, setCells, drew_h, hp6, z3, hk, not_true_eq_false, decide_false, decide_true, vcells_agg, hne]); (repeat (first | (with_reducible first | (refine hK _ _ ?_; clear hK K) | refine (show ∀ σ' w', _ → K σ' w' from by assumption) _ _ ?_ | refine W_seq_k fun K hK => ?_ | refine W_block_k fun K hK => ?_ | refine W_skip ?_ | refine W_ret ?_) | ((first | ((with_reducible refine W_id ?_); refine W_reg (by decide) (by rfl) ?_) | (with_reducible first | refine W_cond ?_ | refine hZ _ _ ?_ | refine W_exit ?_ | refine Wo_id ?_)); repeat1' simp only [push_cast, Nat.reduceBEq, Nat.reduceLT, Nat.reduceEqDiff, reduceIte, reduceCtorEq, Nat.reduceMul, Nat.reduceAdd, Nat.reduceSub, Int.reduceEq, Int.reduceLT, Int.reduceLE, Int.reduceNeg, Int.reduceAdd, Int.reduceSub, Int.reduceMul, Nat.reduceLeDiff, Int.reduceToNat, cell_h, can_h, cellO_cells, canO_cells, setO_cells, heap_set_h, heap_alloc_h, size_set_h, size_alloc_h, vcells_agg, succ_ne, ne_succ, List.setIfInBounds_toArray, List.set_cons_succ, List.set_cons_zero, setCells, drew_h, hp6, z3, hk, not_true_eq_false, decide_false, decide_true, vcells_agg, hne]) | ((repeat ((fail_if_success with_reducible refine hK _ _ ?_); clear hK K)); (with_reducible refine hK _ _ ?_); clear hK K))))
    rw [hm] at hk
    rw [if_pos hk, if_pos hk]
    unfold opN OpS.row
    rw [← hm]
    exact ⟨rfl, Upd.trans hx (Upd.setCells (F := fun b => b = w.heap.size) (a := ⟨w.heap.size, 0, none⟩) w6 rfl [.int .i64 i, .int .i64 m.nd.space, .string m.nd.name] 0) fun i hi e => by omega⟩
  · rw [← hm] at hk
    ((repeat simp only [push_cast, Nat.reduceBEq, Nat.reduceLT, Nat.reduceEqDiff, reduceIte, reduceCtorEq, Nat.reduceMul, Nat.reduceAdd, Nat.reduceSub, Int.reduceEq, Int.reduceLT, Int.reduceLE, Int.reduceNeg, Int.reduceAdd, Int.reduceSub, Int.reduceMul, Nat.reduceLeDiff, Int.reduceToNat, cell_h, can_h, cellO_cells, canO_cells, setO_cells, heap_set_h, heap_alloc_h, size_set_h, size_alloc_h, vcells_agg, succ_ne, ne_succ, List.setIfInBounds_toArray, List.set_cons_succ, List.set_cons_zero, setCells, drew_h, hp6, z3, hk, not_true_eq_false, decide_false, decide_true, vcells_agg, hne]); (repeat (first | (with_reducible first | (refine hK _ _ ?_; clear hK K) | refine (show ∀ σ' w', _ → K σ' w' from by assumption) _ _ ?_ | refine W_seq_k fun K hK => ?_ | refine W_block_k fun K hK => ?_ | refine W_skip ?_ | refine W_ret ?_) | ((first | ((with_reducible refine W_id ?_); refine W_reg (by decide) (by rfl) ?_) | (with_reducible first | refine W_cond ?_ | refine hZ _ _ ?_ | refine W_exit ?_ | refine Wo_id ?_)); repeat1' simp only [push_cast, Nat.reduceBEq, Nat.reduceLT, Nat.reduceEqDiff, reduceIte, reduceCtorEq, Nat.reduceMul, Nat.reduceAdd, Nat.reduceSub, Int.reduceEq, Int.reduceLT, Int.reduceLE, Int.reduceNeg, Int.reduceAdd, Int.reduceSub, Int.reduceMul, Nat.reduceLeDiff, Int.reduceToNat, cell_h, can_h, cellO_cells, canO_cells, setO_cells, heap_set_h, heap_alloc_h, size_set_h, size_alloc_h, vcells_agg, succ_ne, ne_succ, List.setIfInBounds_toArray, List.set_cons_succ, List.set_cons_zero, setCells, drew_h, hp6, z3, hk, not_true_eq_false, decide_false, decide_true, vcells_agg, hne]) | ((repeat ((fail_if_success with_reducible refine hK _ _ ?_); clear hK K)); (with_reducible refine hK _ _ ?_); clear hK K))))
    refine build_struct Tryd.zeroValue79 un79 pl79 (cs := #[.int .i64 0, .int .i64 0, .string ⟨#[]⟩]) (by rfl) ?_
    ((repeat simp only [push_cast, Nat.reduceBEq, Nat.reduceLT, Nat.reduceEqDiff, reduceIte, reduceCtorEq, Nat.reduceMul, Nat.reduceAdd, Nat.reduceSub, Int.reduceEq, Int.reduceLT, Int.reduceLE, Int.reduceNeg, Int.reduceAdd, Int.reduceSub, Int.reduceMul, Nat.reduceLeDiff, Int.reduceToNat, cell_h, can_h, cellO_cells, canO_cells, setO_cells, heap_set_h, heap_alloc_h, size_set_h, size_alloc_h, vcells_agg, succ_ne, ne_succ, List.setIfInBounds_toArray, List.set_cons_succ, List.set_cons_zero, setCells, drew_h, hp6, z3, hk, not_true_eq_false, decide_false, decide_true, vcells_agg, hne]); (repeat (first | (with_reducible first | (refine hK _ _ ?_; clear hK K) | refine (show ∀ σ' w', _ → K σ' w' from by assumption) _ _ ?_ | refine W_seq_k fun K hK => ?_ | refine W_block_k fun K hK => ?_ | refine W_skip ?_ | refine W_ret ?_) | ((first | ((with_reducible refine W_id ?_); refine W_reg (by decide) (by rfl) ?_) | (with_reducible first | refine W_cond ?_ | refine hZ _ _ ?_ | refine W_exit ?_ | refine Wo_id ?_)); repeat1' simp only [push_cast, Nat.reduceBEq, Nat.reduceLT, Nat.reduceEqDiff, reduceIte, reduceCtorEq, Nat.reduceMul, Nat.reduceAdd, Nat.reduceSub, Int.reduceEq, Int.reduceLT, Int.reduceLE, Int.reduceNeg, Int.reduceAdd, Int.reduceSub, Int.reduceMul, Nat.reduceLeDiff, Int.reduceToNat, cell_h, can_h, cellO_cells, canO_cells, setO_cells, heap_set_h, heap_alloc_h, size_set_h, size_alloc_h, vcells_agg, succ_ne, ne_succ, List.setIfInBounds_toArray, List.set_cons_succ, List.set_cons_zero, setCells, drew_h, hp6, z3, hk, not_true_eq_false, decide_false, decide_true, vcells_agg, hne]) | ((repeat ((fail_if_success with_reducible refine hK _ _ ?_); clear hK K)); (with_reducible refine hK _ _ ?_); clear hK K))))
    rw [hm] at hk
    rw [if_neg hk, if_neg hk]
    exact ⟨rfl, Upd.trans hx (Upd.setCells (F := fun b => b = w.heap.size) (a := ⟨w.heap.size, 0, none⟩) w6 rfl [.int .i64 0, .int .i64 0, .string ⟨#[]⟩] 0) fun i hi e => by omega⟩
end
end Go.Proofs.YtkafpameheohdaaDoor
end
section
set_option linter.unusedSimpArgs false
set_option linter.unusedVariables false
namespace Go.Vk
open Go
def insS (L : List Nd) (s : List OpS) (k i : Int) : List OpS × Int := if ((nd? L i).getD zN).kind = 3 then (if 0 ≤ k ∧ k ≤ s.length then (if 512 ≤ s.length then (s, 150) else (s.take k.toNat ++ opN L i :: s.drop k.toNat, 0)) else (s, 2)) else (s, 2)
theorem ext0 {P : Program} (a b : Value) (w : World) (K : Value → World → Prop) : Pure1 P (Instr.extract (.tuple #[a, b]) 0) w K = K a w := Pure1_eq (fun w => by simp [Instr.extract, Sem.run]) w K
theorem ext1 {P : Program} (a b : Value) (w : World) (K : Value → World → Prop) : Pure1 P (Instr.extract (.tuple #[a, b]) 1) w K = K b w := Pure1_eq (fun w => by simp [Instr.extract, Sem.run]) w K
theorem new3 (w : World) (y1 y2 y3 x1 x2 x3 : Value) (t : TypeId) : Ext w (setCells (w.alloc (.cells #[y1, y2, y3] t)) ⟨w.heap.size, 0, none⟩ [x1, x2, x3] 0) ∧ (setCells (w.alloc (.cells #[y1, y2, y3] t)) ⟨w.heap.size, 0, none⟩ [x1, x2, x3] 0).heap[w.heap.size]? = some (.cells #[x1, x2, x3] t (0, 0)) ∧ (setCells (w.alloc (.cells #[y1, y2, y3] t)) ⟨w.heap.size, 0, none⟩ [x1, x2, x3] 0).heap.size = w.heap.size + 1 := by
  have z1 : (w.alloc (.cells #[y1, y2, y3] t)).heap[w.heap.size]? = some (.cells #[y1, y2, y3] t (0, 0)) := by rw [heap_alloc_h, if_pos rfl]
  have up := Upd.setCells (F := fun b => b = w.heap.size) (a := ⟨w.heap.size, 0, none⟩) (w.alloc (.cells #[y1, y2, y3] t)) rfl [x1, x2, x3] 0
  refine ⟨Upd.trans (Ext.alloc w _) up fun i hi e => by omega, setCells_all z1 rfl, ?_⟩
  simp [setCells, size_set_h, size_alloc_h]
end Go.Vk
namespace Go.Proofs.YtkafpameheohdaaDoor
open Go Go.Vk
set_option maxHeartbeats 40000000
section
variable {w0 w : World} {Q : Nat → Prop} {ps pa : Nat} {L : List Nd} {s : List OpS}
theorem sins_c (h : StAt w0 w Q ps pa L s) (hb : L.length < 100000) (ha : ∀ n ∈ L, n.attrs.length < 1000000) (hs : s.length < 10000) (k i : Int) : Gives Tryd.prog 28 #[.pointer (some ⟨ps, 0, none⟩), .int .i64 k, .int .i64 i] w fun v w' => v = .int .i64 (insS L s k i).2 ∧ StAt w0 w' Q ps pa L (insS L s k i).1 ∧ Upd (AF w0 Q) w w' := by
  refine Gives.of_W Tryd.call28 Tryd.func28 rfl Tryd.ntmps28 (by simp) ?_; intro Z hZ
  (repeat (first | (with_reducible first | (refine hK _ _ ?_; clear hK K) | refine (show ∀ σ' w', _ → K σ' w' from by assumption) _ _ ?_ | refine W_seq_k fun K hK => ?_ | refine W_block_k fun K hK => ?_ | refine W_skip ?_ | refine W_ret ?_) | ((first | ((with_reducible refine W_id ?_); refine W_reg (by decide) (by rfl) ?_) | (with_reducible first | refine W_cond ?_ | refine hZ _ _ ?_ | refine W_exit ?_ | refine Wo_id ?_)); repeat1' simp only [push_cast, Nat.reduceBEq, Nat.reduceLT, Nat.reduceEqDiff, reduceIte, reduceCtorEq, Nat.reduceMul, Nat.reduceAdd, Nat.reduceSub, Int.reduceEq, Int.reduceLT, Int.reduceLE, Int.reduceNeg, Int.reduceAdd, Int.reduceSub, Int.reduceMul, Nat.reduceLeDiff, Int.reduceToNat]) | ((repeat ((fail_if_success with_reducible refine hK _ _ ?_); clear hK K)); (with_reducible refine hK _ _ ?_); clear hK K)))
  refine (sel_c h hb ha i).mono ?_
  rintro v w2 ⟨rfl, hx2⟩
  have h2 := h.pass hx2
  obtain ⟨O, hO⟩ : ∃ O : OpS, (if ((nd? L i).getD zN).kind = 3 then (opN L i).row else zS.row) = O.row ∧ (((nd? L i).getD zN).kind = 3 → O = opN L i) := by
    by_cases hk : ((nd? L i).getD zN).kind = 3
    · exact ⟨opN L i, if_pos hk, fun _ => rfl⟩
    · exact ⟨zS, if_neg hk, fun h => absurd h hk⟩
  rw [hO.1]
  have hO := hO.2
  generalize he : (if ((nd? L i).getD zN).kind = 3 then (0 : Int) else 2) = e
  unfold OpS.row
  ((repeat simp only [push_cast, Nat.reduceBEq, Nat.reduceLT, Nat.reduceEqDiff, reduceIte, reduceCtorEq, Nat.reduceMul, Nat.reduceAdd, Nat.reduceSub, Int.reduceEq, Int.reduceLT, Int.reduceLE, Int.reduceNeg, Int.reduceAdd, Int.reduceSub, Int.reduceMul, Nat.reduceLeDiff, Int.reduceToNat, RunV_zero Tryd.zeroValue79, ext0, ext1, vcells_agg]); (repeat (first | (with_reducible first | (refine hK _ _ ?_; clear hK K) | refine (show ∀ σ' w', _ → K σ' w' from by assumption) _ _ ?_ | refine W_seq_k fun K hK => ?_ | refine W_block_k fun K hK => ?_ | refine W_skip ?_ | refine W_ret ?_) | ((first | ((with_reducible refine W_id ?_); refine W_reg (by decide) (by rfl) ?_) | (with_reducible first | refine W_cond ?_ | refine hZ _ _ ?_ | refine W_exit ?_ | refine Wo_id ?_)); repeat1' simp only [push_cast, Nat.reduceBEq, Nat.reduceLT, Nat.reduceEqDiff, reduceIte, reduceCtorEq, Nat.reduceMul, Nat.reduceAdd, Nat.reduceSub, Int.reduceEq, Int.reduceLT, Int.reduceLE, Int.reduceNeg, Int.reduceAdd, Int.reduceSub, Int.reduceMul, Nat.reduceLeDiff, Int.reduceToNat, RunV_zero Tryd.zeroValue79, ext0, ext1, vcells_agg]) | ((repeat ((fail_if_success with_reducible refine hK _ _ ?_); clear hK K)); (with_reducible refine hK _ _ ?_); clear hK K))))
  obtain ⟨hx3, z3, hs3⟩ := new3 w2 (.int .i64 0) (.int .i64 0) (.string ⟨#[]⟩) (.int .i64 O.node) (.int .i64 O.space) (.string O.name) 79
  simp only [can_h, heap_alloc_h, if_true, canO_cells, List.size_toArray, List.length_cons, List.length_nil, Nat.zero_add, Nat.reduceAdd, Nat.reduceLT, true_and]
  generalize setCells (w2.alloc (.cells #[.int .i64 0, .int .i64 0, .string ⟨#[]⟩] 79)) ⟨w2.heap.size, 0, none⟩ [.int .i64 O.node, .int .i64 O.space, .string O.name] 0 = w3 at *
  have hx13 : Ext w w3 := hx2.trans hx3
  have h3 := h2.pass hx3
  obtain ⟨p7, hp7⟩ : ∃ p7, p7 = w2.heap.size := ⟨_, rfl⟩
  rw [← hp7] at z3 hs3 ⊢
  by_cases hk : ((nd? L i).getD zN).kind = 3
  · rw [if_pos hk] at he
    subst he
    rw [hO hk] at z3
    by_cases hkk : 0 ≤ k ∧ k ≤ s.length
    · have b0 : ¬ k < 0 := by omega
      have b1 : ¬ (s.length : Int) < k := by omega
      have h2' := h2
      obtain ⟨sv, bo, hF2, hA2, hpl, hbo, hQ⟩ := h2'
      have hb7 : ∀ b, bo = some b → b < p7 := fun b hb => by
        have := hF2.sl; rw [hb] at this; have := this.lt; omega
      have hp2 := blk_lt hF2.head
      have hF := hF2.ext hx3
      have hA := hA2.pass hx3
      have h0 := hF.head
      obtain ⟨a, c, rfl, hc⟩ := ops_len hF.sl
      by_cases hd : 512 ≤ s.length
      · have eI : insS L s k i = (s, 150) := by unfold insS; rw [if_pos hk, if_pos hkk, if_pos hd]
        have b2 : (512 : Int) ≤ (s.length : Int) := by omega
        ((repeat simp only [push_cast, Nat.reduceBEq, Nat.reduceLT, Nat.reduceEqDiff, reduceIte, reduceCtorEq, Nat.reduceMul, Nat.reduceAdd, Nat.reduceSub, Int.reduceEq, Int.reduceLT, Int.reduceLE, Int.reduceNeg, Int.reduceAdd, Int.reduceSub, Int.reduceMul, Nat.reduceLeDiff, Int.reduceToNat, not_true_eq_false, not_false_eq_true, decide_true, decide_false, b0, b1, b2, cell_h, cellO_cells, h0]); (repeat (first | (with_reducible first | (refine hK _ _ ?_; clear hK K) | refine (show ∀ σ' w', _ → K σ' w' from by assumption) _ _ ?_ | refine W_seq_k fun K hK => ?_ | refine W_block_k fun K hK => ?_ | refine W_skip ?_ | refine W_ret ?_) | ((first | ((with_reducible refine W_id ?_); refine W_reg (by decide) (by rfl) ?_) | (with_reducible first | refine W_cond ?_ | refine hZ _ _ ?_ | refine W_exit ?_ | refine Wo_id ?_)); repeat1' simp only [push_cast, Nat.reduceBEq, Nat.reduceLT, Nat.reduceEqDiff, reduceIte, reduceCtorEq, Nat.reduceMul, Nat.reduceAdd, Nat.reduceSub, Int.reduceEq, Int.reduceLT, Int.reduceLE, Int.reduceNeg, Int.reduceAdd, Int.reduceSub, Int.reduceMul, Nat.reduceLeDiff, Int.reduceToNat, not_true_eq_false, not_false_eq_true, decide_true, decide_false, b0, b1, b2, cell_h, cellO_cells, h0]) | ((repeat ((fail_if_success with_reducible refine hK _ _ ?_); clear hK K)); (with_reducible refine hK _ _ ?_); clear hK K))))
        rw [eI]
        exact ⟨rfl, h3, hx13.upd⟩
      · have eI : insS L s k i = (s.take k.toNat ++ opN L i :: s.drop k.toNat, 0) := by unfold insS; rw [if_pos hk, if_pos hkk, if_neg hd]
        have b2 : ¬ (512 : Int) ≤ (s.length : Int) := by omega
        ((repeat simp only [push_cast, Nat.reduceBEq, Nat.reduceLT, Nat.reduceEqDiff, reduceIte, reduceCtorEq, Nat.reduceMul, Nat.reduceAdd, Nat.reduceSub, Int.reduceEq, Int.reduceLT, Int.reduceLE, Int.reduceNeg, Int.reduceAdd, Int.reduceSub, Int.reduceMul, Nat.reduceLeDiff, Int.reduceToNat, not_true_eq_false, not_false_eq_true, decide_true, decide_false, b0, b1, b2, cell_h, cellO_cells, h0]); (repeat (first | (with_reducible first | (refine hK _ _ ?_; clear hK K) | refine (show ∀ σ' w', _ → K σ' w' from by assumption) _ _ ?_ | refine W_seq_k fun K hK => ?_ | refine W_block_k fun K hK => ?_ | refine W_skip ?_ | refine W_ret ?_) | ((first | ((with_reducible refine W_id ?_); refine W_reg (by decide) (by rfl) ?_) | (with_reducible first | refine W_cond ?_ | refine hZ _ _ ?_ | refine W_exit ?_ | refine Wo_id ?_)); repeat1' simp only [push_cast, Nat.reduceBEq, Nat.reduceLT, Nat.reduceEqDiff, reduceIte, reduceCtorEq, Nat.reduceMul, Nat.reduceAdd, Nat.reduceSub, Int.reduceEq, Int.reduceLT, Int.reduceLE, Int.reduceNeg, Int.reduceAdd, Int.reduceSub, Int.reduceMul, Nat.reduceLeDiff, Int.reduceToNat, not_true_eq_false, not_false_eq_true, decide_true, decide_false, b0, b1, b2, cell_h, cellO_cells, h0]) | ((repeat ((fail_if_success with_reducible refine hK _ _ ?_); clear hK K)); (with_reducible refine hK _ _ ?_); clear hK K))))
        refine W_draw (.pas 0 (.pas 1 (.pas 2 (.pas 3 (.pas 4 (.pas 5 (.pas 6 (.act 7 (.act 8 (.pas 9 (.pas 10 (.last 11)))))))))))) (fun q => q = ps ∨ q = p7) (by decide) mixed (by kernel_rfl) ?_
        have hxd := Ext.drew w3
        have hF4 := hF.ext hxd
        have hA4 := hA.pass hxd
        have h04 := hF4.head
        have z4 := hxd.blk z3
        generalize w3.drew = w4 at *
        (repeat (first | ((first | refine pas_plain rfl ?_ | refine pas_g rfl rfl ?_ | refine act_plain rfl ?_ | refine act_g rfl rfl ?_ | refine last_plain rfl ?_ | refine tail_plain rfl ?_ | refine tail_g rfl rfl ?_); (repeat simp only [push_cast, Nat.reduceBEq, Nat.reduceLT, Nat.reduceEqDiff, reduceIte, reduceCtorEq, Nat.reduceMul, Nat.reduceAdd, Nat.reduceSub, Int.reduceEq, Int.reduceLT, Int.reduceLE, Int.reduceNeg, Int.reduceAdd, Int.reduceSub, Int.reduceMul, Nat.reduceLeDiff, Int.reduceToNat, cell_h, can_h, cellO_cells, canO_cells, setO_cells, heap_set_h, heap_alloc_h, size_set_h, size_alloc_h, vcells_agg, succ_ne, ne_succ, List.setIfInBounds_toArray, List.set_cons_succ, List.set_cons_zero, setCells, drew_h, true_or, or_true, h04, z4, true_or, or_true, eq_self])) | (refine tail_fin ?_) | (refine sch_fin ?_)))
        have hx4 : Ext w w4 := hx13.trans hxd
        have hs4 := hxd.alike.size
        refine bs_one styO (by decide) (by decide) (v := .agg (opN L i).row) rfl ?_
        refine ⟨kept_upd (Ext.alloc _ _) fun q hq => ⟨by have := blk_lt h04; have := blk_lt z4; rcases hq with hq | hq <;> omega, id⟩, ?_⟩
        (repeat (first | ((first | refine pas_plain rfl ?_ | refine pas_g rfl rfl ?_ | refine act_plain rfl ?_ | refine act_g rfl rfl ?_ | refine last_plain rfl ?_ | refine tail_plain rfl ?_ | refine tail_g rfl rfl ?_); (repeat simp only [push_cast, Nat.reduceBEq, Nat.reduceLT, Nat.reduceEqDiff, reduceIte, reduceCtorEq, Nat.reduceMul, Nat.reduceAdd, Nat.reduceSub, Int.reduceEq, Int.reduceLT, Int.reduceLE, Int.reduceNeg, Int.reduceAdd, Int.reduceSub, Int.reduceMul, Nat.reduceLeDiff, Int.reduceToNat, cell_h, can_h, cellO_cells, canO_cells, setO_cells, heap_set_h, heap_alloc_h, size_set_h, size_alloc_h, vcells_agg, succ_ne, ne_succ, List.setIfInBounds_toArray, List.set_cons_succ, List.set_cons_zero, setCells, drew_h, true_or, or_true, h04, z4, true_or, or_true, eq_self])) | (refine tail_fin ?_) | (refine sch_fin ?_)))
        have hx5 := Ext.alloc w4 (.cells (opN L i).row 79)
        have hz5 : (w4.alloc (.cells (opN L i).row 79)).heap[w4.heap.size]? = some (.cells (opN L i).row 79 (0, 0)) := by rw [heap_alloc_h, if_pos rfl]
        have hF5 := hF4.ext hx5
        have hA5 := hA4.pass hx5
        have h05 := hF5.head
        have hl0 := blk_lt h04
        have hl1 := blk_lt z4
        have hs5 : (w4.alloc (.cells (opN L i).row 79)).heap.size = w4.heap.size + 1 := size_alloc_h _ _
        generalize hw5 : w4.alloc (.cells (opN L i).row 79) = w5 at *
        have hne : bo ≠ some w4.heap.size := fun e => by
          have := hF4.sl; rw [e] at this; have := this.lt; omega
        obtain ⟨k, rfl⟩ : ∃ q : Nat, k = (q : Int) := ⟨k.toNat, by omega⟩
        refine (insert_o hF5.sl (by omega) hz5 hne k (by omega)).mono ?_
        rintro v w6 ⟨bo', g1, g2, g3⟩
        refine ⟨kept_upd g2 fun q hq => ⟨by rcases hq with hq | hq <;> omega, fun hb' => ?_⟩, ?_⟩
        · have := hb7 _ hb'
          rcases hq with rfl | rfl
          · exact hF.ne hb'
          · omega
        have hQl : ∀ b, Q b → b < w5.heap.size := fun b hb => hA5.low b (.inl hb)
        obtain ⟨k1, k2, k3⟩ := st_put hF5 hA5 hpl hbo hQ hQl g1 g2 g3
        have hx05 : Ext w w5 := hx4.trans hx5
        obtain ⟨va, vc, rfl, _⟩ := ops_len g1
        (repeat (first | ((first | refine pas_plain rfl ?_ | refine pas_g rfl rfl ?_ | refine act_plain rfl ?_ | refine act_g rfl rfl ?_ | refine last_plain rfl ?_ | refine tail_plain rfl ?_ | refine tail_g rfl rfl ?_); (repeat simp only [push_cast, Nat.reduceBEq, Nat.reduceLT, Nat.reduceEqDiff, reduceIte, reduceCtorEq, Nat.reduceMul, Nat.reduceAdd, Nat.reduceSub, Int.reduceEq, Int.reduceLT, Int.reduceLE, Int.reduceNeg, Int.reduceAdd, Int.reduceSub, Int.reduceMul, Nat.reduceLeDiff, Int.reduceToNat, k1])) | (refine tail_fin ?_) | (refine sch_fin ?_)))
        ((repeat simp only [push_cast, Nat.reduceBEq, Nat.reduceLT, Nat.reduceEqDiff, reduceIte, reduceCtorEq, Nat.reduceMul, Nat.reduceAdd, Nat.reduceSub, Int.reduceEq, Int.reduceLT, Int.reduceLE, Int.reduceNeg, Int.reduceAdd, Int.reduceSub, Int.reduceMul, Nat.reduceLeDiff, Int.reduceToNat, k1]); (repeat (first | (with_reducible first | (refine hK _ _ ?_; clear hK K) | refine (show ∀ σ' w', _ → K σ' w' from by assumption) _ _ ?_ | refine W_seq_k fun K hK => ?_ | refine W_block_k fun K hK => ?_ | refine W_skip ?_ | refine W_ret ?_) | ((first | ((with_reducible refine W_id ?_); refine W_reg (by decide) (by rfl) ?_) | (with_reducible first | refine W_cond ?_ | refine hZ _ _ ?_ | refine W_exit ?_ | refine Wo_id ?_)); repeat1' simp only [push_cast, Nat.reduceBEq, Nat.reduceLT, Nat.reduceEqDiff, reduceIte, reduceCtorEq, Nat.reduceMul, Nat.reduceAdd, Nat.reduceSub, Int.reduceEq, Int.reduceLT, Int.reduceLE, Int.reduceNeg, Int.reduceAdd, Int.reduceSub, Int.reduceMul, Nat.reduceLeDiff, Int.reduceToNat, k1]) | ((repeat ((fail_if_success with_reducible refine hK _ _ ?_); clear hK K)); (with_reducible refine hK _ _ ?_); clear hK K))))
        rw [eI]
        exact ⟨rfl, k2, Upd.trans hx05.upd k3 fun _ _ h => h⟩
    · have eI : insS L s k i = (s, 2) := by unfold insS; rw [if_pos hk, if_neg hkk]
      by_cases hk0 : k < 0
      · ((repeat simp only [push_cast, Nat.reduceBEq, Nat.reduceLT, Nat.reduceEqDiff, reduceIte, reduceCtorEq, Nat.reduceMul, Nat.reduceAdd, Nat.reduceSub, Int.reduceEq, Int.reduceLT, Int.reduceLE, Int.reduceNeg, Int.reduceAdd, Int.reduceSub, Int.reduceMul, Nat.reduceLeDiff, Int.reduceToNat, not_true_eq_false, not_false_eq_true, decide_true, decide_false, hk0]); (repeat (first | (with_reducible first | (refine hK _ _ ?_; clear hK K) | refine (show ∀ σ' w', _ → K σ' w' from by assumption) _ _ ?_ | refine W_seq_k fun K hK => ?_ | refine W_block_k fun K hK => ?_ | refine W_skip ?_ | refine W_ret ?_) | ((first | ((with_reducible refine W_id ?_); refine W_reg (by decide) (by rfl) ?_) | (with_reducible first | refine W_cond ?_ | refine hZ _ _ ?_ | refine W_exit ?_ | refine Wo_id ?_)); repeat1' simp only [push_cast, Nat.reduceBEq, Nat.reduceLT, Nat.reduceEqDiff, reduceIte, reduceCtorEq, Nat.reduceMul, Nat.reduceAdd, Nat.reduceSub, Int.reduceEq, Int.reduceLT, Int.reduceLE, Int.reduceNeg, Int.reduceAdd, Int.reduceSub, Int.reduceMul, Nat.reduceLeDiff, Int.reduceToNat, not_true_eq_false, not_false_eq_true, decide_true, decide_false, hk0]) | ((repeat ((fail_if_success with_reducible refine hK _ _ ?_); clear hK K)); (with_reducible refine hK _ _ ?_); clear hK K))))
        rw [eI]
        exact ⟨rfl, h3, hx13.upd⟩
      · obtain ⟨sv, bo, hF, _⟩ := id h3
        have h0 := hF.head
        obtain ⟨a, c, rfl, hc⟩ := ops_len hF.sl
        have b1 : (s.length : Int) < k := by omega
        ((repeat simp only [push_cast, Nat.reduceBEq, Nat.reduceLT, Nat.reduceEqDiff, reduceIte, reduceCtorEq, Nat.reduceMul, Nat.reduceAdd, Nat.reduceSub, Int.reduceEq, Int.reduceLT, Int.reduceLE, Int.reduceNeg, Int.reduceAdd, Int.reduceSub, Int.reduceMul, Nat.reduceLeDiff, Int.reduceToNat, not_true_eq_false, not_false_eq_true, decide_true, decide_false, hk0, b1, cell_h, cellO_cells, h0]); (repeat (first | (with_reducible first | (refine hK _ _ ?_; clear hK K) | refine (show ∀ σ' w', _ → K σ' w' from by assumption) _ _ ?_ | refine W_seq_k fun K hK => ?_ | refine W_block_k fun K hK => ?_ | refine W_skip ?_ | refine W_ret ?_) | ((first | ((with_reducible refine W_id ?_); refine W_reg (by decide) (by rfl) ?_) | (with_reducible first | refine W_cond ?_ | refine hZ _ _ ?_ | refine W_exit ?_ | refine Wo_id ?_)); repeat1' simp only [push_cast, Nat.reduceBEq, Nat.reduceLT, Nat.reduceEqDiff, reduceIte, reduceCtorEq, Nat.reduceMul, Nat.reduceAdd, Nat.reduceSub, Int.reduceEq, Int.reduceLT, Int.reduceLE, Int.reduceNeg, Int.reduceAdd, Int.reduceSub, Int.reduceMul, Nat.reduceLeDiff, Int.reduceToNat, not_true_eq_false, not_false_eq_true, decide_true, decide_false, hk0, b1, cell_h, cellO_cells, h0]) | ((repeat ((fail_if_success with_reducible refine hK _ _ ?_); clear hK K)); (with_reducible refine hK _ _ ?_); clear hK K))))
        rw [eI]
        exact ⟨rfl, h3, hx13.upd⟩
  · have eI : insS L s k i = (s, 2) := by unfold insS; rw [if_neg hk]
    rw [if_neg hk] at he
    subst he
    ((repeat simp only [push_cast, Nat.reduceBEq, Nat.reduceLT, Nat.reduceEqDiff, reduceIte, reduceCtorEq, Nat.reduceMul, Nat.reduceAdd, Nat.reduceSub, Int.reduceEq, Int.reduceLT, Int.reduceLE, Int.reduceNeg, Int.reduceAdd, Int.reduceSub, Int.reduceMul, Nat.reduceLeDiff, Int.reduceToNat, not_true_eq_false, not_false_eq_true, decide_true, decide_false]); (repeat (first | (with_reducible first | (refine hK _ _ ?_; clear hK K) | refine (show ∀ σ' w', _ → K σ' w' from by assumption) _ _ ?_ | refine W_seq_k fun K hK => ?_ | refine W_block_k fun K hK => ?_ | refine W_skip ?_ | refine W_ret ?_) | ((first | ((with_reducible refine W_id ?_); refine W_reg (by decide) (by rfl) ?_) | (with_reducible first | refine W_cond ?_ | refine hZ _ _ ?_ | refine W_exit ?_ | refine Wo_id ?_)); repeat1' simp only [push_cast, Nat.reduceBEq, Nat.reduceLT, Nat.reduceEqDiff, reduceIte, reduceCtorEq, Nat.reduceMul, Nat.reduceAdd, Nat.reduceSub, Int.reduceEq, Int.reduceLT, Int.reduceLE, Int.reduceNeg, Int.reduceAdd, Int.reduceSub, Int.reduceMul, Nat.reduceLeDiff, Int.reduceToNat, not_true_eq_false, not_false_eq_true, decide_true, decide_false]) | ((repeat ((fail_if_success with_reducible refine hK _ _ ?_); clear hK K)); (with_reducible refine hK _ _ ?_); clear hK K))))
    rw [eI]
    exact ⟨rfl, h3, hx13.upd⟩
theorem spush_c (h : StAt w0 w Q ps pa L s) (hb : L.length < 100000) (ha : ∀ n ∈ L, n.attrs.length < 1000000) (hs : s.length < 10000) (i : Int) : Gives Tryd.prog 26 #[.pointer (some ⟨ps, 0, none⟩), .int .i64 i] w fun v w' => v = .int .i64 (insS L s s.length i).2 ∧ StAt w0 w' Q ps pa L (insS L s s.length i).1 ∧ Upd (AF w0 Q) w w' := by
  obtain ⟨sv, bo, hF, _⟩ := id h
  refine Gives.of_W Tryd.call26 Tryd.func26 rfl Tryd.ntmps26 (by simp) ?_; intro Z hZ
  (repeat (first | (with_reducible first | (refine hK _ _ ?_; clear hK K) | refine (show ∀ σ' w', _ → K σ' w' from by assumption) _ _ ?_ | refine W_seq_k fun K hK => ?_ | refine W_block_k fun K hK => ?_ | refine W_skip ?_ | refine W_ret ?_) | ((first | ((with_reducible refine W_id ?_); refine W_reg (by decide) (by rfl) ?_) | (with_reducible first | refine W_cond ?_ | refine hZ _ _ ?_ | refine W_exit ?_ | refine Wo_id ?_)); repeat1' simp only [push_cast, Nat.reduceBEq, Nat.reduceLT, Nat.reduceEqDiff, reduceIte, reduceCtorEq, Nat.reduceMul, Nat.reduceAdd, Nat.reduceSub, Int.reduceEq, Int.reduceLT, Int.reduceLE, Int.reduceNeg, Int.reduceAdd, Int.reduceSub, Int.reduceMul, Nat.reduceLeDiff, Int.reduceToNat]) | ((repeat ((fail_if_success with_reducible refine hK _ _ ?_); clear hK K)); (with_reducible refine hK _ _ ?_); clear hK K)))
  refine (slen_c hF).mono ?_
  intro v w' ⟨hv, hw⟩
  subst hv; subst w'
  ((repeat simp only [push_cast, Nat.reduceBEq, Nat.reduceLT, Nat.reduceEqDiff, reduceIte, reduceCtorEq, Nat.reduceMul, Nat.reduceAdd, Nat.reduceSub, Int.reduceEq, Int.reduceLT, Int.reduceLE, Int.reduceNeg, Int.reduceAdd, Int.reduceSub, Int.reduceMul, Nat.reduceLeDiff, Int.reduceToNat]); (repeat (first | (with_reducible first | (refine hK _ _ ?_; clear hK K) | refine (show ∀ σ' w', _ → K σ' w' from by assumption) _ _ ?_ | refine W_seq_k fun K hK => ?_ | refine W_block_k fun K hK => ?_ | refine W_skip ?_ | refine W_ret ?_) | ((first | ((with_reducible refine W_id ?_); refine W_reg (by decide) (by rfl) ?_) | (with_reducible first | refine W_cond ?_ | refine hZ _ _ ?_ | refine W_exit ?_ | refine Wo_id ?_)); repeat1' simp only [push_cast, Nat.reduceBEq, Nat.reduceLT, Nat.reduceEqDiff, reduceIte, reduceCtorEq, Nat.reduceMul, Nat.reduceAdd, Nat.reduceSub, Int.reduceEq, Int.reduceLT, Int.reduceLE, Int.reduceNeg, Int.reduceAdd, Int.reduceSub, Int.reduceMul, Nat.reduceLeDiff, Int.reduceToNat]) | ((repeat ((fail_if_success with_reducible refine hK _ _ ?_); clear hK K)); (with_reducible refine hK _ _ ?_); clear hK K))))
  refine (sins_c h hb ha hs s.length i).mono ?_
  rintro v w2 ⟨rfl, h2, hx⟩
  ((repeat simp only [push_cast, Nat.reduceBEq, Nat.reduceLT, Nat.reduceEqDiff, reduceIte, reduceCtorEq, Nat.reduceMul, Nat.reduceAdd, Nat.reduceSub, Int.reduceEq, Int.reduceLT, Int.reduceLE, Int.reduceNeg, Int.reduceAdd, Int.reduceSub, Int.reduceMul, Nat.reduceLeDiff, Int.reduceToNat]); (repeat (first | (with_reducible first | (refine hK _ _ ?_; clear hK K) | refine (show ∀ σ' w', _ → K σ' w' from by assumption) _ _ ?_ | refine W_seq_k fun K hK => ?_ | refine W_block_k fun K hK => ?_ | refine W_skip ?_ | refine W_ret ?_) | ((first | ((with_reducible refine W_id ?_); refine W_reg (by decide) (by rfl) ?_) | (with_reducible first | refine W_cond ?_ | refine hZ _ _ ?_ | refine W_exit ?_ | refine Wo_id ?_)); repeat1' simp only [push_cast, Nat.reduceBEq, Nat.reduceLT, Nat.reduceEqDiff, reduceIte, reduceCtorEq, Nat.reduceMul, Nat.reduceAdd, Nat.reduceSub, Int.reduceEq, Int.reduceLT, Int.reduceLE, Int.reduceNeg, Int.reduceAdd, Int.reduceSub, Int.reduceMul, Nat.reduceLeDiff, Int.reduceToNat]) | ((repeat ((fail_if_success with_reducible refine hK _ _ ?_); clear hK K)); (with_reducible refine hK _ _ ?_); clear hK K))))
  exact ⟨h2, hx⟩
end
end Go.Proofs.YtkafpameheohdaaDoor
end
