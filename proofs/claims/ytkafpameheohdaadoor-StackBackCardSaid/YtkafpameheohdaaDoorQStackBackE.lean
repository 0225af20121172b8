/- What the proof leans on, part 5 of 7. -/
import Derived.Test.YtkafpameheohdaaDoorQStackBackD
section
set_option linter.unusedSimpArgs false
set_option linter.unusedVariables false
namespace Go.Vk
open Go
structure SK (w : World) (ps : Nat) (ap sv : Value) (s : List OpS) (bo : Option Nat) : Prop where
  head : w.heap[ps]? = some (.cells #[ap, sv] 71 (0, 0))
  sl : SlAt w 3 sv (opCells s) bo
  ne : bo ≠ some ps
theorem SK.upd {G : Nat → Prop} {w w' : World} {ps : Nat} {ap sv : Value} {s : List OpS} {bo : Option Nat} (h : SK w ps ap sv s bo) (hu : Upd G w w') (h1 : ¬ G ps) (h2 : ∀ b, bo = some b → ¬ G b) : SK w' ps ap sv s bo :=
  ⟨(hu.same ps (blk_lt h.head) h1).trans h.head, h.sl.upd hu h2, h.ne⟩
theorem SK.ext {w w' : World} {ps : Nat} {ap sv : Value} {s : List OpS} {bo : Option Nat} (h : SK w ps ap sv s bo) (hu : Ext w w') : SK w' ps ap sv s bo := h.upd hu id fun _ _ => id
def zS : OpS := ⟨0, 0, ⟨#[]⟩⟩
/-- the last place below one where it is so -/
def lastB (p : Nat → Bool) : Nat → Int
  | 0 => -1
  | k + 1 => if p k = true then k else lastB p k
def indexS (s : List OpS) (i : Int) : Int := lastB (fun k => decide ((s.getD k zS).node = i)) s.length
def atS (s : List OpS) (k : Int) : Int := if 0 ≤ k ∧ k < s.length then (s.getD k.toNat zS).node else -1
def topS (s : List OpS) : Int := atS s ((s.length : Int) - 1)
def strCells (l : List ByteArray) : List Value := l.map Value.string
def htmlS (o : OpS) (l : List ByteArray) : Bool := decide (o.space = 0) && l.any fun x => decide (o.name = x)
theorem str_len {w : World} {v : Value} {l : List ByteArray} (h : RdAt w 1 v (strCells l)) : ∃ a c, v = .slice a l.length c ∧ l.length ≤ c ∧ ∀ (i : Nat) (x : ByteArray), l[i]? = some x → ∃ b o, a = some ⟨b, o, none⟩ ∧ w.cell? ⟨b, o + i, none⟩ = some (.string x) := by
  obtain ⟨a, n, c, rfl, h1, h2, h3⟩ := h
  have hl : (strCells l).length = l.length := by simp [strCells]
  rw [hl, Nat.mul_one] at h2
  subst h2
  refine ⟨a, c, rfl, h1, fun i x hx => ?_⟩
  exact h3 i (.string x) (by simp [strCells, hx])
theorem lastB_rng (p : Nat → Bool) : ∀ k : Nat, -1 ≤ lastB p k ∧ lastB p k < k
  | 0 => by simp [lastB]
  | k + 1 => by
    have := lastB_rng p k
    rw [lastB]
    split <;> omega
theorem lastB_sat (p : Nat → Bool) : ∀ k : Nat, 0 ≤ lastB p k → ∃ q : Nat, lastB p k = q ∧ q < k ∧ p q = true
  | 0, h => by simp [lastB] at h
  | k + 1, h => by
    rw [lastB] at h ⊢
    by_cases hp : p k = true
    · rw [if_pos hp]; exact ⟨k, rfl, by omega, hp⟩
    · rw [if_neg hp] at h ⊢
      obtain ⟨q, e1, e2, e3⟩ := lastB_sat p k h
      exact ⟨q, e1, by omega, e3⟩
end Go.Vk
namespace Go.Proofs.YtkafpameheohdaaDoor
open Go Go.Vk
set_option maxHeartbeats 40000000
section
variable {w : World} {ps pa : Nat} {sv : Value} {s : List OpS} {bo : Option Nat}
theorem slen_c {ap : Value} (h : SK w ps ap sv s bo) : Gives Tryd.prog 16 #[.pointer (some ⟨ps, 0, none⟩)] w fun v w' => v = .int .i64 (s.length : Int) ∧ w' = w := by
  obtain ⟨a, c, rfl, _⟩ := ops_len h.sl
  have h0 := h.head
  refine Gives.of_W Tryd.call16 Tryd.func16 rfl Tryd.ntmps16 (by simp) ?_; intro Z hZ
  (repeat (first | (with_reducible first | (refine hK _ _ ?_; clear hK K) | refine (show ∀ σ' w', _ → K σ' w' from by assumption) _ _ ?_ | refine W_seq_k fun K hK => ?_ | refine W_block_k fun K hK => ?_ | refine W_skip ?_ | refine W_ret ?_) | ((first | ((with_reducible refine W_id ?_); refine W_reg (by decide) (by rfl) ?_) | (with_reducible first | refine W_cond ?_ | refine hZ _ _ ?_ | refine W_exit ?_ | refine Wo_id ?_)); repeat1' simp only [push_cast, Nat.reduceBEq, Nat.reduceLT, Nat.reduceEqDiff, reduceIte, reduceCtorEq, Nat.reduceMul, Nat.reduceAdd, Nat.reduceSub, Int.reduceEq, Int.reduceLT, Int.reduceLE, Int.reduceNeg, Int.reduceAdd, Int.reduceSub, Int.reduceMul, Nat.reduceLeDiff, Int.reduceToNat, cell_h, cellO_cells, h0]) | ((repeat ((fail_if_success with_reducible refine hK _ _ ?_); clear hK K)); (with_reducible refine hK _ _ ?_); clear hK K)))
theorem snone_c (h : SK w ps (.pointer (some ⟨pa, 0, none⟩)) sv s bo) : Gives Tryd.prog 43 #[.pointer (some ⟨ps, 0, none⟩)] w fun v w' => v = .bool false ∧ w' = w := by
  have h0 := h.head
  refine Gives.of_W Tryd.call43 Tryd.func43 rfl Tryd.ntmps43 (by simp) ?_; intro Z hZ
  (repeat (first | (with_reducible first | (refine hK _ _ ?_; clear hK K) | refine (show ∀ σ' w', _ → K σ' w' from by assumption) _ _ ?_ | refine W_seq_k fun K hK => ?_ | refine W_block_k fun K hK => ?_ | refine W_skip ?_ | refine W_ret ?_) | ((first | ((with_reducible refine W_id ?_); refine W_reg (by decide) (by rfl) ?_) | (with_reducible first | refine W_cond ?_ | refine hZ _ _ ?_ | refine W_exit ?_ | refine Wo_id ?_)); repeat1' simp only [push_cast, Nat.reduceBEq, Nat.reduceLT, Nat.reduceEqDiff, reduceIte, reduceCtorEq, Nat.reduceMul, Nat.reduceAdd, Nat.reduceSub, Int.reduceEq, Int.reduceLT, Int.reduceLE, Int.reduceNeg, Int.reduceAdd, Int.reduceSub, Int.reduceMul, Nat.reduceLeDiff, Int.reduceToNat, cell_h, cellO_cells, h0]) | ((repeat ((fail_if_success with_reducible refine hK _ _ ?_); clear hK K)); (with_reducible refine hK _ _ ?_); clear hK K)))
theorem sat_c {ap : Value} (h : SK w ps ap sv s bo) (k : Int) : Gives Tryd.prog 35 #[.pointer (some ⟨ps, 0, none⟩), .int .i64 k] w fun v w' => v = .int .i64 (atS s k) ∧ w' = w := by
  unfold atS
  by_cases hk0 : k < 0
  · rw [if_neg (by omega)]
    refine Gives.of_W Tryd.call35 Tryd.func35 rfl Tryd.ntmps35 (by simp) ?_; intro Z hZ
    (repeat (first | (with_reducible first | (refine hK _ _ ?_; clear hK K) | refine (show ∀ σ' w', _ → K σ' w' from by assumption) _ _ ?_ | refine W_seq_k fun K hK => ?_ | refine W_block_k fun K hK => ?_ | refine W_skip ?_ | refine W_ret ?_) | ((first | ((with_reducible refine W_id ?_); refine W_reg (by decide) (by rfl) ?_) | (with_reducible first | refine W_cond ?_ | refine hZ _ _ ?_ | refine W_exit ?_ | refine Wo_id ?_)); repeat1' simp only [push_cast, Nat.reduceBEq, Nat.reduceLT, Nat.reduceEqDiff, reduceIte, reduceCtorEq, Nat.reduceMul, Nat.reduceAdd, Nat.reduceSub, Int.reduceEq, Int.reduceLT, Int.reduceLE, Int.reduceNeg, Int.reduceAdd, Int.reduceSub, Int.reduceMul, Nat.reduceLeDiff, Int.reduceToNat, hk0]) | ((repeat ((fail_if_success with_reducible refine hK _ _ ?_); clear hK K)); (with_reducible refine hK _ _ ?_); clear hK K)))
  · obtain ⟨k, rfl⟩ : ∃ q : Nat, k = (q : Int) := ⟨k.toNat, by omega⟩
    have b0 : (0 : Int) ≤ (k : Int) := by omega
    by_cases hkl : k < s.length
    · obtain ⟨y, hy⟩ : ∃ y, s[k]? = some y := ⟨_, List.getElem?_eq_getElem hkl⟩
      have hgd : s.getD ((k : Int).toNat) zS = y := by simp [List.getD, hy]
      have b1 : ¬ (s.length : Int) ≤ (k : Int) := by omega
      have b2 : (k : Int) < (s.length : Int) := by omega
      rw [if_pos ⟨b0, b2⟩, hgd]
      have hlen := slen_c h
      obtain ⟨b, o, c, rfl, _, c1, c2, c3⟩ := ops_cell h.sl hy
      have h0 := h.head
      refine Gives.of_W Tryd.call35 Tryd.func35 rfl Tryd.ntmps35 (by simp) ?_; intro Z hZ
      (repeat (first | (with_reducible first | (refine hK _ _ ?_; clear hK K) | refine (show ∀ σ' w', _ → K σ' w' from by assumption) _ _ ?_ | refine W_seq_k fun K hK => ?_ | refine W_block_k fun K hK => ?_ | refine W_skip ?_ | refine W_ret ?_) | ((first | ((with_reducible refine W_id ?_); refine W_reg (by decide) (by rfl) ?_) | (with_reducible first | refine W_cond ?_ | refine hZ _ _ ?_ | refine W_exit ?_ | refine Wo_id ?_)); repeat1' simp only [push_cast, Nat.reduceBEq, Nat.reduceLT, Nat.reduceEqDiff, reduceIte, reduceCtorEq, Nat.reduceMul, Nat.reduceAdd, Nat.reduceSub, Int.reduceEq, Int.reduceLT, Int.reduceLE, Int.reduceNeg, Int.reduceAdd, Int.reduceSub, Int.reduceMul, Nat.reduceLeDiff, Int.reduceToNat, hk0]) | ((repeat ((fail_if_success with_reducible refine hK _ _ ?_); clear hK K)); (with_reducible refine hK _ _ ?_); clear hK K)))
      refine hlen.mono ?_
      intro v w' ⟨hv, hw⟩
      subst hv; subst w'
      ((repeat simp only [push_cast, Nat.reduceBEq, Nat.reduceLT, Nat.reduceEqDiff, reduceIte, reduceCtorEq, Nat.reduceMul, Nat.reduceAdd, Nat.reduceSub, Int.reduceEq, Int.reduceLT, Int.reduceLE, Int.reduceNeg, Int.reduceAdd, Int.reduceSub, Int.reduceMul, Nat.reduceLeDiff, Int.reduceToNat, b0, b1, b2, cell_h, cellO_cells, h0, c1]); (repeat (first | (with_reducible first | (refine hK _ _ ?_; clear hK K) | refine (show ∀ σ' w', _ → K σ' w' from by assumption) _ _ ?_ | refine W_seq_k fun K hK => ?_ | refine W_block_k fun K hK => ?_ | refine W_skip ?_ | refine W_ret ?_) | ((first | ((with_reducible refine W_id ?_); refine W_reg (by decide) (by rfl) ?_) | (with_reducible first | refine W_cond ?_ | refine hZ _ _ ?_ | refine W_exit ?_ | refine Wo_id ?_)); repeat1' simp only [push_cast, Nat.reduceBEq, Nat.reduceLT, Nat.reduceEqDiff, reduceIte, reduceCtorEq, Nat.reduceMul, Nat.reduceAdd, Nat.reduceSub, Int.reduceEq, Int.reduceLT, Int.reduceLE, Int.reduceNeg, Int.reduceAdd, Int.reduceSub, Int.reduceMul, Nat.reduceLeDiff, Int.reduceToNat, b0, b1, b2, cell_h, cellO_cells, h0, c1]) | ((repeat ((fail_if_success with_reducible refine hK _ _ ?_); clear hK K)); (with_reducible refine hK _ _ ?_); clear hK K))))
    · have b1 : (s.length : Int) ≤ (k : Int) := by omega
      rw [if_neg (by omega)]
      refine Gives.of_W Tryd.call35 Tryd.func35 rfl Tryd.ntmps35 (by simp) ?_; intro Z hZ
      (repeat (first | (with_reducible first | (refine hK _ _ ?_; clear hK K) | refine (show ∀ σ' w', _ → K σ' w' from by assumption) _ _ ?_ | refine W_seq_k fun K hK => ?_ | refine W_block_k fun K hK => ?_ | refine W_skip ?_ | refine W_ret ?_) | ((first | ((with_reducible refine W_id ?_); refine W_reg (by decide) (by rfl) ?_) | (with_reducible first | refine W_cond ?_ | refine hZ _ _ ?_ | refine W_exit ?_ | refine Wo_id ?_)); repeat1' simp only [push_cast, Nat.reduceBEq, Nat.reduceLT, Nat.reduceEqDiff, reduceIte, reduceCtorEq, Nat.reduceMul, Nat.reduceAdd, Nat.reduceSub, Int.reduceEq, Int.reduceLT, Int.reduceLE, Int.reduceNeg, Int.reduceAdd, Int.reduceSub, Int.reduceMul, Nat.reduceLeDiff, Int.reduceToNat, hk0]) | ((repeat ((fail_if_success with_reducible refine hK _ _ ?_); clear hK K)); (with_reducible refine hK _ _ ?_); clear hK K)))
      refine (slen_c h).mono ?_
      intro v w' ⟨hv, hw⟩
      subst hv; subst w'
      ((repeat simp only [push_cast, Nat.reduceBEq, Nat.reduceLT, Nat.reduceEqDiff, reduceIte, reduceCtorEq, Nat.reduceMul, Nat.reduceAdd, Nat.reduceSub, Int.reduceEq, Int.reduceLT, Int.reduceLE, Int.reduceNeg, Int.reduceAdd, Int.reduceSub, Int.reduceMul, Nat.reduceLeDiff, Int.reduceToNat, b1]); (repeat (first | (with_reducible first | (refine hK _ _ ?_; clear hK K) | refine (show ∀ σ' w', _ → K σ' w' from by assumption) _ _ ?_ | refine W_seq_k fun K hK => ?_ | refine W_block_k fun K hK => ?_ | refine W_skip ?_ | refine W_ret ?_) | ((first | ((with_reducible refine W_id ?_); refine W_reg (by decide) (by rfl) ?_) | (with_reducible first | refine W_cond ?_ | refine hZ _ _ ?_ | refine W_exit ?_ | refine Wo_id ?_)); repeat1' simp only [push_cast, Nat.reduceBEq, Nat.reduceLT, Nat.reduceEqDiff, reduceIte, reduceCtorEq, Nat.reduceMul, Nat.reduceAdd, Nat.reduceSub, Int.reduceEq, Int.reduceLT, Int.reduceLE, Int.reduceNeg, Int.reduceAdd, Int.reduceSub, Int.reduceMul, Nat.reduceLeDiff, Int.reduceToNat, b1]) | ((repeat ((fail_if_success with_reducible refine hK _ _ ?_); clear hK K)); (with_reducible refine hK _ _ ?_); clear hK K))))
theorem stop_c {ap : Value} (h : SK w ps ap sv s bo) (hs : s.length < 100000) : Gives Tryd.prog 13 #[.pointer (some ⟨ps, 0, none⟩)] w fun v w' => v = .int .i64 (topS s) ∧ w' = w := by
  have b0 : inI64 ((s.length : Int) - 1) := by unfold inI64; omega
  refine Gives.of_W Tryd.call13 Tryd.func13 rfl Tryd.ntmps13 (by simp) ?_; intro Z hZ
  (repeat (first | (with_reducible first | (refine hK _ _ ?_; clear hK K) | refine (show ∀ σ' w', _ → K σ' w' from by assumption) _ _ ?_ | refine W_seq_k fun K hK => ?_ | refine W_block_k fun K hK => ?_ | refine W_skip ?_ | refine W_ret ?_) | ((first | ((with_reducible refine W_id ?_); refine W_reg (by decide) (by rfl) ?_) | (with_reducible first | refine W_cond ?_ | refine hZ _ _ ?_ | refine W_exit ?_ | refine Wo_id ?_)); repeat1' simp only [push_cast, Nat.reduceBEq, Nat.reduceLT, Nat.reduceEqDiff, reduceIte, reduceCtorEq, Nat.reduceMul, Nat.reduceAdd, Nat.reduceSub, Int.reduceEq, Int.reduceLT, Int.reduceLE, Int.reduceNeg, Int.reduceAdd, Int.reduceSub, Int.reduceMul, Nat.reduceLeDiff, Int.reduceToNat]) | ((repeat ((fail_if_success with_reducible refine hK _ _ ?_); clear hK K)); (with_reducible refine hK _ _ ?_); clear hK K)))
  refine (slen_c h).mono ?_
  intro v w' ⟨hv, hw⟩
  subst hv; subst w'
  ((repeat simp only [push_cast, Nat.reduceBEq, Nat.reduceLT, Nat.reduceEqDiff, reduceIte, reduceCtorEq, Nat.reduceMul, Nat.reduceAdd, Nat.reduceSub, Int.reduceEq, Int.reduceLT, Int.reduceLE, Int.reduceNeg, Int.reduceAdd, Int.reduceSub, Int.reduceMul, Nat.reduceLeDiff, Int.reduceToNat, b0]); (repeat (first | (with_reducible first | (refine hK _ _ ?_; clear hK K) | refine (show ∀ σ' w', _ → K σ' w' from by assumption) _ _ ?_ | refine W_seq_k fun K hK => ?_ | refine W_block_k fun K hK => ?_ | refine W_skip ?_ | refine W_ret ?_) | ((first | ((with_reducible refine W_id ?_); refine W_reg (by decide) (by rfl) ?_) | (with_reducible first | refine W_cond ?_ | refine hZ _ _ ?_ | refine W_exit ?_ | refine Wo_id ?_)); repeat1' simp only [push_cast, Nat.reduceBEq, Nat.reduceLT, Nat.reduceEqDiff, reduceIte, reduceCtorEq, Nat.reduceMul, Nat.reduceAdd, Nat.reduceSub, Int.reduceEq, Int.reduceLT, Int.reduceLE, Int.reduceNeg, Int.reduceAdd, Int.reduceSub, Int.reduceMul, Nat.reduceLeDiff, Int.reduceToNat, b0]) | ((repeat ((fail_if_success with_reducible refine hK _ _ ?_); clear hK K)); (with_reducible refine hK _ _ ?_); clear hK K))))
  refine (sat_c h _).mono ?_
  intro v w' ⟨hv, hw⟩
  subst hv; subst w'
  ((repeat simp only [push_cast, Nat.reduceBEq, Nat.reduceLT, Nat.reduceEqDiff, reduceIte, reduceCtorEq, Nat.reduceMul, Nat.reduceAdd, Nat.reduceSub, Int.reduceEq, Int.reduceLT, Int.reduceLE, Int.reduceNeg, Int.reduceAdd, Int.reduceSub, Int.reduceMul, Nat.reduceLeDiff, Int.reduceToNat]); (repeat (first | (with_reducible first | (refine hK _ _ ?_; clear hK K) | refine (show ∀ σ' w', _ → K σ' w' from by assumption) _ _ ?_ | refine W_seq_k fun K hK => ?_ | refine W_block_k fun K hK => ?_ | refine W_skip ?_ | refine W_ret ?_) | ((first | ((with_reducible refine W_id ?_); refine W_reg (by decide) (by rfl) ?_) | (with_reducible first | refine W_cond ?_ | refine hZ _ _ ?_ | refine W_exit ?_ | refine Wo_id ?_)); repeat1' simp only [push_cast, Nat.reduceBEq, Nat.reduceLT, Nat.reduceEqDiff, reduceIte, reduceCtorEq, Nat.reduceMul, Nat.reduceAdd, Nat.reduceSub, Int.reduceEq, Int.reduceLT, Int.reduceLE, Int.reduceNeg, Int.reduceAdd, Int.reduceSub, Int.reduceMul, Nat.reduceLeDiff, Int.reduceToNat]) | ((repeat ((fail_if_success with_reducible refine hK _ _ ?_); clear hK K)); (with_reducible refine hK _ _ ?_); clear hK K))))
  rfl
theorem sindex_c {ap : Value} (h : SK w ps ap sv s bo) (hs : s.length < 100000) (i : Int) : Gives Tryd.prog 14 #[.pointer (some ⟨ps, 0, none⟩), .int .i64 i] w fun v w' => v = .int .i64 (indexS s i) ∧ w' = w := by
  have s0 : inI64 ((s.length : Int) - 1) := by unfold inI64; omega
  have h0 := h.head
  refine Gives.of_W Tryd.call14 Tryd.func14 rfl Tryd.ntmps14 (by simp) ?_; intro Z hZ
  (repeat (first | (with_reducible first | (refine hK _ _ ?_; clear hK K) | refine (show ∀ σ' w', _ → K σ' w' from by assumption) _ _ ?_ | refine W_seq_k fun K hK => ?_ | refine W_block_k fun K hK => ?_ | refine W_skip ?_ | refine W_ret ?_) | ((first | ((with_reducible refine W_id ?_); refine W_reg (by decide) (by rfl) ?_) | (with_reducible first | refine W_cond ?_ | refine hZ _ _ ?_ | refine W_exit ?_ | refine Wo_id ?_)); repeat1' simp only [push_cast, Nat.reduceBEq, Nat.reduceLT, Nat.reduceEqDiff, reduceIte, reduceCtorEq, Nat.reduceMul, Nat.reduceAdd, Nat.reduceSub, Int.reduceEq, Int.reduceLT, Int.reduceLE, Int.reduceNeg, Int.reduceAdd, Int.reduceSub, Int.reduceMul, Nat.reduceLeDiff, Int.reduceToNat]) | ((repeat ((fail_if_success with_reducible refine hK _ _ ?_); clear hK K)); (with_reducible refine hK _ _ ?_); clear hK K)))
  refine (slen_c h).mono ?_
  intro v w' ⟨hv, hw⟩
  subst hv; subst w'
  ((repeat simp only [push_cast, Nat.reduceBEq, Nat.reduceLT, Nat.reduceEqDiff, reduceIte, reduceCtorEq, Nat.reduceMul, Nat.reduceAdd, Nat.reduceSub, Int.reduceEq, Int.reduceLT, Int.reduceLE, Int.reduceNeg, Int.reduceAdd, Int.reduceSub, Int.reduceMul, Nat.reduceLeDiff, Int.reduceToNat, s0]); (repeat (first | (with_reducible first | (refine hK _ _ ?_; clear hK K) | refine (show ∀ σ' w', _ → K σ' w' from by assumption) _ _ ?_ | refine W_seq_k fun K hK => ?_ | refine W_block_k fun K hK => ?_ | refine W_skip ?_ | refine W_ret ?_) | ((first | ((with_reducible refine W_id ?_); refine W_reg (by decide) (by rfl) ?_) | (with_reducible first | refine W_cond ?_ | refine hZ _ _ ?_ | refine W_exit ?_ | refine Wo_id ?_)); repeat1' simp only [push_cast, Nat.reduceBEq, Nat.reduceLT, Nat.reduceEqDiff, reduceIte, reduceCtorEq, Nat.reduceMul, Nat.reduceAdd, Nat.reduceSub, Int.reduceEq, Int.reduceLT, Int.reduceLE, Int.reduceNeg, Int.reduceAdd, Int.reduceSub, Int.reduceMul, Nat.reduceLeDiff, Int.reduceToNat, s0]) | ((repeat ((fail_if_success with_reducible refine hK _ _ ?_); clear hK K)); (with_reducible refine hK _ _ ?_); clear hK K))))
  refine W_loop (S := Nat) (fun k => [(0, .pointer (some ⟨ps, 0, none⟩)), (1, .int .i64 i), (5, .int .i64 ((k : Int) - 1))])
    (fun k w2 => k ≤ s.length ∧ indexS s i = lastB (fun k => decide ((s.getD k zS).node = i)) k ∧ w2 = w) (fun k => k) s.length ?_ ?_ ?_
  · (repeat simp only [push_cast, Nat.reduceBEq, Nat.reduceLT, Nat.reduceEqDiff, reduceIte, reduceCtorEq, Nat.reduceMul, Nat.reduceAdd, Nat.reduceSub, Int.reduceEq, Int.reduceLT, Int.reduceLE, Int.reduceNeg, Int.reduceAdd, Int.reduceSub, Int.reduceMul, Nat.reduceLeDiff, Int.reduceToNat])
  · exact ⟨Nat.le_refl _, rfl, rfl⟩
  rintro k w2 ⟨hk, he, hw⟩
  subst w2
  cases k with
  | zero =>
    have e0 : (((0 : Nat) : Int) - 1) = -1 := rfl
    rw [e0]
    have b0 : ¬ (0 : Int) ≤ -1 := by omega
    (repeat (first | (with_reducible first | (refine hK _ _ ?_; clear hK K) | refine (show ∀ σ' w', _ → K σ' w' from by assumption) _ _ ?_ | refine W_seq_k fun K hK => ?_ | refine W_block_k fun K hK => ?_ | refine W_skip ?_ | refine W_ret ?_) | ((first | ((with_reducible refine W_id ?_); refine W_reg (by decide) (by rfl) ?_) | (with_reducible first | refine W_cond ?_ | refine hZ _ _ ?_ | refine W_exit ?_ | refine Wo_id ?_)); repeat1' simp only [push_cast, Nat.reduceBEq, Nat.reduceLT, Nat.reduceEqDiff, reduceIte, reduceCtorEq, Nat.reduceMul, Nat.reduceAdd, Nat.reduceSub, Int.reduceEq, Int.reduceLT, Int.reduceLE, Int.reduceNeg, Int.reduceAdd, Int.reduceSub, Int.reduceMul, Nat.reduceLeDiff, Int.reduceToNat, b0]) | ((repeat ((fail_if_success with_reducible refine hK _ _ ?_); clear hK K)); (with_reducible refine hK _ _ ?_); clear hK K)))
    rw [he]; rfl
  | succ k =>
    have e0 : (((k + 1 : Nat) : Int) - 1) = k := by omega
    rw [e0]
    rw [lastB] at he
    have b2 : inI64 ((k : Int) - 1) := by unfold inI64; omega
    have b0 : (0 : Int) ≤ (k : Int) := by omega
    have hkl : k < s.length := by omega
    have b3 : (k : Int) < (s.length : Int) := by omega
    obtain ⟨y, hy⟩ : ∃ y, s[k]? = some y := ⟨_, List.getElem?_eq_getElem hkl⟩
    have hgd : s.getD k zS = y := by simp [List.getD, hy]
    rw [hgd] at he
    obtain ⟨b, o, c, rfl, _, c1, c2, c3⟩ := ops_cell h.sl hy
    by_cases hyi : y.node = i
    · rw [if_pos (by simpa using hyi)] at he
      rw [hyi] at c1
      (repeat (first | (with_reducible first | (refine hK _ _ ?_; clear hK K) | refine (show ∀ σ' w', _ → K σ' w' from by assumption) _ _ ?_ | refine W_seq_k fun K hK => ?_ | refine W_block_k fun K hK => ?_ | refine W_skip ?_ | refine W_ret ?_) | ((first | ((with_reducible refine W_id ?_); refine W_reg (by decide) (by rfl) ?_) | (with_reducible first | refine W_cond ?_ | refine hZ _ _ ?_ | refine W_exit ?_ | refine Wo_id ?_)); repeat1' simp only [push_cast, Nat.reduceBEq, Nat.reduceLT, Nat.reduceEqDiff, reduceIte, reduceCtorEq, Nat.reduceMul, Nat.reduceAdd, Nat.reduceSub, Int.reduceEq, Int.reduceLT, Int.reduceLE, Int.reduceNeg, Int.reduceAdd, Int.reduceSub, Int.reduceMul, Nat.reduceLeDiff, Int.reduceToNat, b0, b3, cell_h, cellO_cells, h0, c1, eq_self]) | ((repeat ((fail_if_success with_reducible refine hK _ _ ?_); clear hK K)); (with_reducible refine hK _ _ ?_); clear hK K)))
      exact he.symm
    · rw [if_neg (by simpa using hyi)] at he
      (repeat (first | (with_reducible first | (refine hK _ _ ?_; clear hK K) | refine (show ∀ σ' w', _ → K σ' w' from by assumption) _ _ ?_ | refine W_seq_k fun K hK => ?_ | refine W_block_k fun K hK => ?_ | refine W_skip ?_ | refine W_ret ?_) | ((first | ((with_reducible refine W_id ?_); refine W_reg (by decide) (by rfl) ?_) | (with_reducible first | refine W_cond ?_ | refine hZ _ _ ?_ | refine W_exit ?_ | refine Wo_id ?_)); repeat1' simp only [push_cast, Nat.reduceBEq, Nat.reduceLT, Nat.reduceEqDiff, reduceIte, reduceCtorEq, Nat.reduceMul, Nat.reduceAdd, Nat.reduceSub, Int.reduceEq, Int.reduceLT, Int.reduceLE, Int.reduceNeg, Int.reduceAdd, Int.reduceSub, Int.reduceMul, Nat.reduceLeDiff, Int.reduceToNat, b0, b2, b3, cell_h, cellO_cells, h0, c1, hyi]) | ((repeat ((fail_if_success with_reducible refine hK _ _ ?_); clear hK K)); (with_reducible refine hK _ _ ?_); clear hK K)))
      refine ⟨k, by omega, ?_⟩
      (repeat simp only [push_cast, Nat.reduceBEq, Nat.reduceLT, Nat.reduceEqDiff, reduceIte, reduceCtorEq, Nat.reduceMul, Nat.reduceAdd, Nat.reduceSub, Int.reduceEq, Int.reduceLT, Int.reduceLE, Int.reduceNeg, Int.reduceAdd, Int.reduceSub, Int.reduceMul, Nat.reduceLeDiff, Int.reduceToNat])
      exact ⟨by omega, he⟩
theorem sidxs_c {v : Value} {l : List ByteArray} (ha : RdAt w 1 v (strCells l)) (hb : l.length < 1000000000) (x : ByteArray) :
    Gives Tryd.prog 81 #[v, .string x] w fun u w' => (∃ n, u = .int .i64 n ∧ decide (0 ≤ n) = l.any fun y => decide (x = y)) ∧ w' = w := by
  obtain ⟨a, c, rfl, _, hcell⟩ := str_len ha
  refine Gives.of_W Tryd.call81 Tryd.func81 rfl Tryd.ntmps81 (by simp) ?_; intro Z hZ
  (repeat (first | (with_reducible first | (refine hK _ _ ?_; clear hK K) | refine (show ∀ σ' w', _ → K σ' w' from by assumption) _ _ ?_ | refine W_seq_k fun K hK => ?_ | refine W_block_k fun K hK => ?_ | refine W_skip ?_ | refine W_ret ?_) | ((first | ((with_reducible refine W_id ?_); refine W_reg (by decide) (by rfl) ?_) | (with_reducible first | refine W_cond ?_ | refine hZ _ _ ?_ | refine W_exit ?_ | refine Wo_id ?_)); repeat1' simp only [push_cast, Nat.reduceBEq, Nat.reduceLT, Nat.reduceEqDiff, reduceIte, reduceCtorEq, Nat.reduceMul, Nat.reduceAdd, Nat.reduceSub, Int.reduceEq, Int.reduceLT, Int.reduceLE, Int.reduceNeg, Int.reduceAdd, Int.reduceSub, Int.reduceMul, Nat.reduceLeDiff, Int.reduceToNat]) | ((repeat ((fail_if_success with_reducible refine hK _ _ ?_); clear hK K)); (with_reducible refine hK _ _ ?_); clear hK K)))
  refine W_loop (S := Nat) (fun k => [(0, .slice a l.length c), (1, .string x), (7, .int .i64 (l.length : Int)), (8, .int .i64 (k : Int))])
    (fun k w2 => k ≤ l.length ∧ ((l.take k).any fun y => decide (x = y)) = false ∧ w2 = w) (fun k => l.length - k) 0 ?_ ?_ ?_
  · (repeat simp only [push_cast, Nat.reduceBEq, Nat.reduceLT, Nat.reduceEqDiff, reduceIte, reduceCtorEq, Nat.reduceMul, Nat.reduceAdd, Nat.reduceSub, Int.reduceEq, Int.reduceLT, Int.reduceLE, Int.reduceNeg, Int.reduceAdd, Int.reduceSub, Int.reduceMul, Nat.reduceLeDiff, Int.reduceToNat])
  · exact ⟨by omega, by simp, rfl⟩
  rintro k w2 ⟨hk, hn, hw⟩
  subst w2
  by_cases hkl : k < l.length
  · obtain ⟨y, hy⟩ : ∃ y, l[k]? = some y := ⟨_, List.getElem?_eq_getElem hkl⟩
    obtain ⟨b, o, rfl, c1⟩ := hcell k y hy
    rw [cell_h] at c1
    have b0 : (k : Int) < (l.length : Int) := by omega
    have b1 : (0 : Int) ≤ (k : Int) := by omega
    have b2 : inI64 ((k : Int) + 1) := by unfold inI64; omega
    by_cases hxy : x = y
    · (repeat (first | (with_reducible first | (refine hK _ _ ?_; clear hK K) | refine (show ∀ σ' w', _ → K σ' w' from by assumption) _ _ ?_ | refine W_seq_k fun K hK => ?_ | refine W_block_k fun K hK => ?_ | refine W_skip ?_ | refine W_ret ?_) | ((first | ((with_reducible refine W_id ?_); refine W_reg (by decide) (by rfl) ?_) | (with_reducible first | refine W_cond ?_ | refine hZ _ _ ?_ | refine W_exit ?_ | refine Wo_id ?_)); repeat1' simp only [push_cast, Nat.reduceBEq, Nat.reduceLT, Nat.reduceEqDiff, reduceIte, reduceCtorEq, Nat.reduceMul, Nat.reduceAdd, Nat.reduceSub, Int.reduceEq, Int.reduceLT, Int.reduceLE, Int.reduceNeg, Int.reduceAdd, Int.reduceSub, Int.reduceMul, Nat.reduceLeDiff, Int.reduceToNat, b0, b1, cell_h, cellO_cells, c1, hxy, eq_self]) | ((repeat ((fail_if_success with_reducible refine hK _ _ ?_); clear hK K)); (with_reducible refine hK _ _ ?_); clear hK K)))
      have : (l.any fun y => decide (x = y)) = true := List.any_eq_true.2 ⟨y, List.mem_of_getElem? hy, by simpa using hxy⟩
      rw [← hxy]
      exact this.symm
    · (repeat (first | (with_reducible first | (refine hK _ _ ?_; clear hK K) | refine (show ∀ σ' w', _ → K σ' w' from by assumption) _ _ ?_ | refine W_seq_k fun K hK => ?_ | refine W_block_k fun K hK => ?_ | refine W_skip ?_ | refine W_ret ?_) | ((first | ((with_reducible refine W_id ?_); refine W_reg (by decide) (by rfl) ?_) | (with_reducible first | refine W_cond ?_ | refine hZ _ _ ?_ | refine W_exit ?_ | refine Wo_id ?_)); repeat1' simp only [push_cast, Nat.reduceBEq, Nat.reduceLT, Nat.reduceEqDiff, reduceIte, reduceCtorEq, Nat.reduceMul, Nat.reduceAdd, Nat.reduceSub, Int.reduceEq, Int.reduceLT, Int.reduceLE, Int.reduceNeg, Int.reduceAdd, Int.reduceSub, Int.reduceMul, Nat.reduceLeDiff, Int.reduceToNat, b0, b1, b2, cell_h, cellO_cells, c1, hxy]) | ((repeat ((fail_if_success with_reducible refine hK _ _ ?_); clear hK K)); (with_reducible refine hK _ _ ?_); clear hK K)))
      refine ⟨k + 1, by omega, ?_⟩
      (repeat simp only [push_cast, Nat.reduceBEq, Nat.reduceLT, Nat.reduceEqDiff, reduceIte, reduceCtorEq, Nat.reduceMul, Nat.reduceAdd, Nat.reduceSub, Int.reduceEq, Int.reduceLT, Int.reduceLE, Int.reduceNeg, Int.reduceAdd, Int.reduceSub, Int.reduceMul, Nat.reduceLeDiff, Int.reduceToNat])
      refine ⟨by omega, ?_⟩
      rw [List.take_add_one, hy, List.any_append, hn]
      simp [hxy]
  · have hke : k = l.length := by omega
    subst hke
    have b0 : ¬ (l.length : Int) < (l.length : Int) := by omega
    rw [List.take_length] at hn
    (repeat (first | (with_reducible first | (refine hK _ _ ?_; clear hK K) | refine (show ∀ σ' w', _ → K σ' w' from by assumption) _ _ ?_ | refine W_seq_k fun K hK => ?_ | refine W_block_k fun K hK => ?_ | refine W_skip ?_ | refine W_ret ?_) | ((first | ((with_reducible refine W_id ?_); refine W_reg (by decide) (by rfl) ?_) | (with_reducible first | refine W_cond ?_ | refine hZ _ _ ?_ | refine W_exit ?_ | refine Wo_id ?_)); repeat1' simp only [push_cast, Nat.reduceBEq, Nat.reduceLT, Nat.reduceEqDiff, reduceIte, reduceCtorEq, Nat.reduceMul, Nat.reduceAdd, Nat.reduceSub, Int.reduceEq, Int.reduceLT, Int.reduceLE, Int.reduceNeg, Int.reduceAdd, Int.reduceSub, Int.reduceMul, Nat.reduceLeDiff, Int.reduceToNat, b0]) | ((repeat ((fail_if_success with_reducible refine hK _ _ ?_); clear hK K)); (with_reducible refine hK _ _ ?_); clear hK K)))
    rw [hn]
theorem sconts_c {v : Value} {l : List ByteArray} (ha : RdAt w 1 v (strCells l)) (hb : l.length < 1000000000) (x : ByteArray) :
    Gives Tryd.prog 70 #[v, .string x] w fun u w' => u = .bool (l.any fun y => decide (x = y)) ∧ w' = w := by
  obtain ⟨a, c, rfl, _, hcell⟩ := str_len ha
  refine Gives.of_W Tryd.call70 Tryd.func70 rfl Tryd.ntmps70 (by simp) ?_; intro Z hZ
  (repeat (first | (with_reducible first | (refine hK _ _ ?_; clear hK K) | refine (show ∀ σ' w', _ → K σ' w' from by assumption) _ _ ?_ | refine W_seq_k fun K hK => ?_ | refine W_block_k fun K hK => ?_ | refine W_skip ?_ | refine W_ret ?_) | ((first | ((with_reducible refine W_id ?_); refine W_reg (by decide) (by rfl) ?_) | (with_reducible first | refine W_cond ?_ | refine hZ _ _ ?_ | refine W_exit ?_ | refine Wo_id ?_)); repeat1' simp only [push_cast, Nat.reduceBEq, Nat.reduceLT, Nat.reduceEqDiff, reduceIte, reduceCtorEq, Nat.reduceMul, Nat.reduceAdd, Nat.reduceSub, Int.reduceEq, Int.reduceLT, Int.reduceLE, Int.reduceNeg, Int.reduceAdd, Int.reduceSub, Int.reduceMul, Nat.reduceLeDiff, Int.reduceToNat]) | ((repeat ((fail_if_success with_reducible refine hK _ _ ?_); clear hK K)); (with_reducible refine hK _ _ ?_); clear hK K)))
  refine (sidxs_c ha hb x).mono ?_
  rintro u w' ⟨⟨n, rfl, hn⟩, rfl⟩
  ((repeat simp only [push_cast, Nat.reduceBEq, Nat.reduceLT, Nat.reduceEqDiff, reduceIte, reduceCtorEq, Nat.reduceMul, Nat.reduceAdd, Nat.reduceSub, Int.reduceEq, Int.reduceLT, Int.reduceLE, Int.reduceNeg, Int.reduceAdd, Int.reduceSub, Int.reduceMul, Nat.reduceLeDiff, Int.reduceToNat]); (repeat (first | (with_reducible first | (refine hK _ _ ?_; clear hK K) | refine (show ∀ σ' w', _ → K σ' w' from by assumption) _ _ ?_ | refine W_seq_k fun K hK => ?_ | refine W_block_k fun K hK => ?_ | refine W_skip ?_ | refine W_ret ?_) | ((first | ((with_reducible refine W_id ?_); refine W_reg (by decide) (by rfl) ?_) | (with_reducible first | refine W_cond ?_ | refine hZ _ _ ?_ | refine W_exit ?_ | refine Wo_id ?_)); repeat1' simp only [push_cast, Nat.reduceBEq, Nat.reduceLT, Nat.reduceEqDiff, reduceIte, reduceCtorEq, Nat.reduceMul, Nat.reduceAdd, Nat.reduceSub, Int.reduceEq, Int.reduceLT, Int.reduceLE, Int.reduceNeg, Int.reduceAdd, Int.reduceSub, Int.reduceMul, Nat.reduceLeDiff, Int.reduceToNat]) | ((repeat ((fail_if_success with_reducible refine hK _ _ ?_); clear hK K)); (with_reducible refine hK _ _ ?_); clear hK K))))
  rw [hn]
theorem html_c {v : Value} {l : List ByteArray} (ha : RdAt w 1 v (strCells l)) (hb : l.length < 1000000000) (o : OpS) :
    Gives Tryd.prog 42 #[.agg o.row, v] w fun u w' => u = .bool (htmlS o l) ∧ Ext w w' := by
  obtain ⟨a, c, rfl, _, hcell⟩ := str_len ha
  have hx := Ext.alloc w (.cells o.row 79)
  unfold OpS.row at hx ⊢
  unfold htmlS
  by_cases hs : o.space = 0
  · rw [hs] at hx
    refine Gives.of_W Tryd.call42 Tryd.func42 rfl Tryd.ntmps42 (by simp) ?_; intro Z hZ
    (repeat (first | (with_reducible first | (refine hK _ _ ?_; clear hK K) | refine (show ∀ σ' w', _ → K σ' w' from by assumption) _ _ ?_ | refine W_seq_k fun K hK => ?_ | refine W_block_k fun K hK => ?_ | refine W_skip ?_ | refine W_ret ?_) | ((first | ((with_reducible refine W_id ?_); refine W_reg (by decide) (by rfl) ?_) | (with_reducible first | refine W_cond ?_ | refine hZ _ _ ?_ | refine W_exit ?_ | refine Wo_id ?_)); repeat1' simp only [push_cast, Nat.reduceBEq, Nat.reduceLT, Nat.reduceEqDiff, reduceIte, reduceCtorEq, Nat.reduceMul, Nat.reduceAdd, Nat.reduceSub, Int.reduceEq, Int.reduceLT, Int.reduceLE, Int.reduceNeg, Int.reduceAdd, Int.reduceSub, Int.reduceMul, Nat.reduceLeDiff, Int.reduceToNat, cell_h, can_h, cellO_cells, canO_cells, setO_cells, heap_set_h, heap_alloc_h, size_set_h, size_alloc_h, vcells_agg, succ_ne, ne_succ, List.setIfInBounds_toArray, List.set_cons_succ, List.set_cons_zero, setCells, drew_h, hs]) | ((repeat ((fail_if_success with_reducible refine hK _ _ ?_); clear hK K)); (with_reducible refine hK _ _ ?_); clear hK K)))
    refine (sconts_c (ha.ext hx) hb o.name).mono ?_
    intro u w' ⟨hv, hw⟩
    subst hv; subst w'
    ((repeat simp only [push_cast, Nat.reduceBEq, Nat.reduceLT, Nat.reduceEqDiff, reduceIte, reduceCtorEq, Nat.reduceMul, Nat.reduceAdd, Nat.reduceSub, Int.reduceEq, Int.reduceLT, Int.reduceLE, Int.reduceNeg, Int.reduceAdd, Int.reduceSub, Int.reduceMul, Nat.reduceLeDiff, Int.reduceToNat]); (repeat (first | (with_reducible first | (refine hK _ _ ?_; clear hK K) | refine (show ∀ σ' w', _ → K σ' w' from by assumption) _ _ ?_ | refine W_seq_k fun K hK => ?_ | refine W_block_k fun K hK => ?_ | refine W_skip ?_ | refine W_ret ?_) | ((first | ((with_reducible refine W_id ?_); refine W_reg (by decide) (by rfl) ?_) | (with_reducible first | refine W_cond ?_ | refine hZ _ _ ?_ | refine W_exit ?_ | refine Wo_id ?_)); repeat1' simp only [push_cast, Nat.reduceBEq, Nat.reduceLT, Nat.reduceEqDiff, reduceIte, reduceCtorEq, Nat.reduceMul, Nat.reduceAdd, Nat.reduceSub, Int.reduceEq, Int.reduceLT, Int.reduceLE, Int.reduceNeg, Int.reduceAdd, Int.reduceSub, Int.reduceMul, Nat.reduceLeDiff, Int.reduceToNat]) | ((repeat ((fail_if_success with_reducible refine hK _ _ ?_); clear hK K)); (with_reducible refine hK _ _ ?_); clear hK K))))
    exact ⟨by simp [hs], hx⟩
  · refine Gives.of_W Tryd.call42 Tryd.func42 rfl Tryd.ntmps42 (by simp) ?_; intro Z hZ
    (repeat (first | (with_reducible first | (refine hK _ _ ?_; clear hK K) | refine (show ∀ σ' w', _ → K σ' w' from by assumption) _ _ ?_ | refine W_seq_k fun K hK => ?_ | refine W_block_k fun K hK => ?_ | refine W_skip ?_ | refine W_ret ?_) | ((first | ((with_reducible refine W_id ?_); refine W_reg (by decide) (by rfl) ?_) | (with_reducible first | refine W_cond ?_ | refine hZ _ _ ?_ | refine W_exit ?_ | refine Wo_id ?_)); repeat1' simp only [push_cast, Nat.reduceBEq, Nat.reduceLT, Nat.reduceEqDiff, reduceIte, reduceCtorEq, Nat.reduceMul, Nat.reduceAdd, Nat.reduceSub, Int.reduceEq, Int.reduceLT, Int.reduceLE, Int.reduceNeg, Int.reduceAdd, Int.reduceSub, Int.reduceMul, Nat.reduceLeDiff, Int.reduceToNat, cell_h, can_h, cellO_cells, canO_cells, setO_cells, heap_set_h, heap_alloc_h, size_set_h, size_alloc_h, vcells_agg, succ_ne, ne_succ, List.setIfInBounds_toArray, List.set_cons_succ, List.set_cons_zero, setCells, drew_h, hs]) | ((repeat ((fail_if_success with_reducible refine hK _ _ ?_); clear hK K)); (with_reducible refine hK _ _ ?_); clear hK K)))
    exact hx
end
end Go.Proofs.YtkafpameheohdaaDoor
end
section
set_option linter.unusedSimpArgs false
set_option linter.unusedVariables false
namespace Go.Vk
open Go
def StAt (w0 w : World) (Q : Nat → Prop) (ps pa : Nat) (L : List Nd) (s : List OpS) : Prop :=
  ∃ sv bo, SK w ps (.pointer (some ⟨pa, 0, none⟩)) sv s bo ∧ At w0 w (fun b => Q b ∨ b = ps ∨ bo = some b) pa L ∧ w0.heap.size ≤ ps ∧ (∀ b, bo = some b → w0.heap.size ≤ b ∧ ¬ Q b) ∧ ¬ Q ps
theorem StAt.pass {w0 w w' : World} {Q : Nat → Prop} {ps pa : Nat} {L : List Nd} {s : List OpS} (h : StAt w0 w Q ps pa L s) (hx : Ext w w') : StAt w0 w' Q ps pa L s := by
  obtain ⟨sv, bo, h1, h2, h3, h4, h5⟩ := h
  exact ⟨sv, bo, h1.ext hx, h2.pass hx, h3, h4, h5⟩
theorem StAt.out {w0 w : World} {Q : Nat → Prop} {ps pa : Nat} {L : List Nd} {s : List OpS} (h : StAt w0 w Q ps pa L s) : Ext w0 w := by
  obtain ⟨sv, bo, h1, h2, _⟩ := h
  exact h2.ext
theorem StAt.app {G : Nat → Prop} {w0 w w' : World} {Q Q' : Nat → Prop} {ps pa : Nat} {L : List Nd} {s : List OpS} (h : StAt w0 w Q ps pa L s) (hu : Upd G w w') (hG : ∀ b, b < w.heap.size → G b → Q b ∧ w0.heap.size ≤ b) (hQ : ∀ b, Q' b → Q b ∨ (w.heap.size ≤ b ∧ b < w'.heap.size)) : StAt w0 w' Q' ps pa L s := by
  obtain ⟨sv, bo, h1, h2, h3, h4, h5⟩ := h
  have hlt := blk_lt h1.head
  have hng : ¬ G ps := fun hg => h5 (hG ps hlt hg).1
  refine ⟨sv, bo, h1.upd hu hng fun b hb hg => ?_, h2.app hu (fun b hb hg => ⟨.inl (hG b hb hg).1, (hG b hb hg).2⟩) fun b hb => ?_, h3, fun b hb => ⟨(h4 b hb).1, fun hq => ?_⟩, fun hq => ?_⟩
  · have hbl : b < w.heap.size := by subst hb; exact h1.sl.lt
    exact (h4 b hb).2 (hG b hbl hg).1
  · rcases hb with hb | hb | hb
    · rcases hQ b hb with h | h
      · exact .inl (.inl h)
      · exact .inr h
    · exact .inl (.inr (.inl hb))
    · exact .inl (.inr (.inr hb))
  · rcases hQ b hq with h | h
    · exact (h4 b hb).2 h
    · subst hb
      have := h1.sl.lt; omega
  · rcases hQ ps hq with h | h
    · exact h5 h
    · omega
theorem st_put {w0 w w2 : World} {Q : Nat → Prop} {ps pa : Nat} {L : List Nd} {s s' : List OpS} {sv u : Value} {bo bo' : Option Nat} (hF : SK w ps (.pointer (some ⟨pa, 0, none⟩)) sv s bo) (hA : At w0 w (fun b => Q b ∨ b = ps ∨ bo = some b) pa L)
    (hpl : w0.heap.size ≤ ps) (hbo : ∀ b, bo = some b → w0.heap.size ≤ b ∧ ¬ Q b) (hQ : ¬ Q ps) (hQl : ∀ b, Q b → b < w.heap.size) (g1 : SlAt w2 3 u (opCells s') bo') (g2 : Upd (fun b => bo = some b) w w2) (g3 : ∀ b, bo' = some b → bo = some b ∨ w.heap.size ≤ b) :
    canStore w2 ⟨ps, 1, none⟩ ∧ StAt w0 (w2.setCell ⟨ps, 1, none⟩ u) Q ps pa L s' ∧ Upd (AF w0 Q) w (w2.setCell ⟨ps, 1, none⟩ u) := by
  have hlt := blk_lt hF.head
  have hnb : ¬ bo = some ps := hF.ne
  have hp2 := (g2.same ps hlt hnb).trans hF.head
  have h0 := hA.ext.alike.size
  have hne' : bo' ≠ some ps := fun e => by
    rcases g3 ps e with h | h
    · exact hnb h
    · omega
  have hs2 := g2.alike.size
  have up : Upd (fun b => b = ps) w2 (w2.setCell ⟨ps, 1, none⟩ u) := Upd.setCell (F := fun b => b = ps) (a := ⟨ps, 1, none⟩) w2 rfl u
  refine ⟨by rw [can_h, hp2, canO_cells]; exact Nat.lt_succ_self 1, ⟨u, bo', ⟨?_, g1.upd up fun b hb e => hne' (by rw [hb, e]), hne'⟩, ?_, hpl, fun b hb => ?_, hQ⟩, ?_⟩
  · rw [heap_set_h, if_pos rfl, hp2]; rfl
  · have hA2 : At w0 w2 (fun b => Q b ∨ b = ps ∨ bo' = some b) pa L := hA.app g2 (fun b hb e => ⟨.inr (.inr e), (hbo b e).1⟩) fun b hb => by
      rcases hb with hb | hb | hb
      · exact .inl (.inl hb)
      · exact .inl (.inr (.inl hb))
      · rcases g3 b hb with h | h
        · exact .inl (.inr (.inr h))
        · exact .inr ⟨h, by rw [hb] at g1; exact g1.lt⟩
    exact hA2.frame up fun b e => ⟨.inr (.inl e), e ▸ hpl⟩
  · rcases g3 b hb with h | h
    · exact hbo b h
    · exact ⟨by omega, fun hq => by have := hQl b hq; omega⟩
  · refine Upd.trans (g2.mono fun b _ e => ⟨(hbo b e).1, (hbo b e).2⟩) up fun b _ e => ⟨e ▸ hpl, e ▸ hQ⟩
def opN (L : List Nd) (i : Int) : OpS := ⟨i, ((nd? L i).getD zN).space, ((nd? L i).getD zN).name⟩
end Go.Vk
namespace Go.Proofs.YtkafpameheohdaaDoor
open Go Go.Vk
theorem pl79 (w : World) : ((fsOf Tryd.prog 79).mapM plOf).run Tryd.prog w = .ok #[(0,1),(1,1),(2,1)] w := by
  simp [fsOf, plOf, Tryd.underlying79, Sem.run, Tryd.sizeOf3, Tryd.sizeOf9]
theorem un79 : Tryd.prog.underlying 79 = some (.struct (fsOf Tryd.prog 79)) := by rw [fsOf, Tryd.underlying79]
theorem pl71 (w : World) : ((fsOf Tryd.prog 71).mapM plOf).run Tryd.prog w = .ok #[(0,1),(1,1)] w := by
  simp [fsOf, plOf, Tryd.underlying71, Sem.run, Tryd.sizeOf43, Tryd.sizeOf69]
theorem un71 : Tryd.prog.underlying 71 = some (.struct (fsOf Tryd.prog 71)) := by rw [fsOf, Tryd.underlying71]
set_option maxHeartbeats 40000000
section
variable {w0 w : World} {Q : Nat → Prop} {ps pa : Nat} {L : List Nd} {s : List OpS}
theorem snew_c (h : At w0 w Q pa L) (hL : L ≠ []) : Gives Tryd.prog 24 #[.pointer (some ⟨pa, 0, none⟩)] w fun v w' => ∃ ps, v = .pointer (some ⟨ps, 0, none⟩) ∧ StAt w0 w' Q ps pa L [] ∧ Ext w w' := by
  have b0 : ((L.length : Int) = 0) = False := eq_false (by have := List.length_pos_iff.2 hL; omega)
  refine Gives.of_W Tryd.call24 Tryd.func24 rfl Tryd.ntmps24 (by simp) ?_; intro Z hZ
  (repeat (first | (with_reducible first | (refine hK _ _ ?_; clear hK K) | refine (show ∀ σ' w', _ → K σ' w' from by assumption) _ _ ?_ | refine W_seq_k fun K hK => ?_ | refine W_block_k fun K hK => ?_ | refine W_skip ?_ | refine W_ret ?_) | ((first | ((with_reducible refine W_id ?_); refine W_reg (by decide) (by rfl) ?_) | (with_reducible first | refine W_cond ?_ | refine hZ _ _ ?_ | refine W_exit ?_ | refine Wo_id ?_)); repeat1' simp only [push_cast, Nat.reduceBEq, Nat.reduceLT, Nat.reduceEqDiff, reduceIte, reduceCtorEq, Nat.reduceMul, Nat.reduceAdd, Nat.reduceSub, Int.reduceEq, Int.reduceLT, Int.reduceLE, Int.reduceNeg, Int.reduceAdd, Int.reduceSub, Int.reduceMul, Nat.reduceLeDiff, Int.reduceToNat]) | ((repeat ((fail_if_success with_reducible refine hK _ _ ?_); clear hK K)); (with_reducible refine hK _ _ ?_); clear hK K)))
  refine (len_a h).mono ?_
  rintro v w' ⟨rfl, rfl⟩
  ((repeat simp only [push_cast, Nat.reduceBEq, Nat.reduceLT, Nat.reduceEqDiff, reduceIte, reduceCtorEq, Nat.reduceMul, Nat.reduceAdd, Nat.reduceSub, Int.reduceEq, Int.reduceLT, Int.reduceLE, Int.reduceNeg, Int.reduceAdd, Int.reduceSub, Int.reduceMul, Nat.reduceLeDiff, Int.reduceToNat, b0]); (repeat (first | (with_reducible first | (refine hK _ _ ?_; clear hK K) | refine (show ∀ σ' w', _ → K σ' w' from by assumption) _ _ ?_ | refine W_seq_k fun K hK => ?_ | refine W_block_k fun K hK => ?_ | refine W_skip ?_ | refine W_ret ?_) | ((first | ((with_reducible refine W_id ?_); refine W_reg (by decide) (by rfl) ?_) | (with_reducible first | refine W_cond ?_ | refine hZ _ _ ?_ | refine W_exit ?_ | refine Wo_id ?_)); repeat1' simp only [push_cast, Nat.reduceBEq, Nat.reduceLT, Nat.reduceEqDiff, reduceIte, reduceCtorEq, Nat.reduceMul, Nat.reduceAdd, Nat.reduceSub, Int.reduceEq, Int.reduceLT, Int.reduceLE, Int.reduceNeg, Int.reduceAdd, Int.reduceSub, Int.reduceMul, Nat.reduceLeDiff, Int.reduceToNat, b0]) | ((repeat ((fail_if_success with_reducible refine hK _ _ ?_); clear hK K)); (with_reducible refine hK _ _ ?_); clear hK K))))
  refine build_struct Tryd.zeroValue71 un71 pl71 (cs := #[.pointer (some ⟨pa, 0, none⟩), .slice none 0 0]) (by rfl) ?_
  ((repeat simp only [push_cast, Nat.reduceBEq, Nat.reduceLT, Nat.reduceEqDiff, reduceIte, reduceCtorEq, Nat.reduceMul, Nat.reduceAdd, Nat.reduceSub, Int.reduceEq, Int.reduceLT, Int.reduceLE, Int.reduceNeg, Int.reduceAdd, Int.reduceSub, Int.reduceMul, Nat.reduceLeDiff, Int.reduceToNat, vcells_agg]); (repeat (first | (with_reducible first | (refine hK _ _ ?_; clear hK K) | refine (show ∀ σ' w', _ → K σ' w' from by assumption) _ _ ?_ | refine W_seq_k fun K hK => ?_ | refine W_block_k fun K hK => ?_ | refine W_skip ?_ | refine W_ret ?_) | ((first | ((with_reducible refine W_id ?_); refine W_reg (by decide) (by rfl) ?_) | (with_reducible first | refine W_cond ?_ | refine hZ _ _ ?_ | refine W_exit ?_ | refine Wo_id ?_)); repeat1' simp only [push_cast, Nat.reduceBEq, Nat.reduceLT, Nat.reduceEqDiff, reduceIte, reduceCtorEq, Nat.reduceMul, Nat.reduceAdd, Nat.reduceSub, Int.reduceEq, Int.reduceLT, Int.reduceLE, Int.reduceNeg, Int.reduceAdd, Int.reduceSub, Int.reduceMul, Nat.reduceLeDiff, Int.reduceToNat, vcells_agg]) | ((repeat ((fail_if_success with_reducible refine hK _ _ ?_); clear hK K)); (with_reducible refine hK _ _ ?_); clear hK K))))
  have hx := Ext.alloc w' (.cells #[.pointer (some ⟨pa, 0, none⟩), .slice none 0 0] 71)
  have h0 := h.ext.alike.size
  have hA : At w0 (w'.alloc (.cells #[.pointer (some ⟨pa, 0, none⟩), .slice none 0 0] 71)) (fun b => Q b ∨ b = w'.heap.size ∨ (none : Option Nat) = some b) pa L := h.guard hx fun b hb => by
    rcases hb with hb | rfl | hb
    · exact .inl hb
    · exact .inr ⟨Nat.le_refl _, by rw [size_alloc_h]; omega⟩
    · cases hb
  exact ⟨w'.heap.size, rfl, ⟨_, none, ⟨by rw [heap_alloc_h, if_pos rfl], SlAt.nil _ _, by simp⟩, hA, h0, (fun b hb => by cases hb), fun hq => by have := h.low _ hq; omega⟩, hx⟩
theorem sel_c (h : StAt w0 w Q ps pa L s) (hb : L.length < 100000) (ha : ∀ n ∈ L, n.attrs.length < 1000000) (i : Int) : Gives Tryd.prog 51 #[.pointer (some ⟨ps, 0, none⟩), .int .i64 i] w fun v w' => v = .tuple #[.agg (if ((nd? L i).getD zN).kind = 3 then (opN L i).row else zS.row), .int .i64 (if ((nd? L i).getD zN).kind = 3 then 0 else 2)] ∧ Ext w w' := by
  obtain ⟨sv, bo, hF, hA, hpl, hbo, hQ⟩ := h
  have hx1 := Ext.alloc w (.cells #[.int .i64 0, .int .i64 0, .string ⟨#[]⟩] 79)
  have z1 : (w.alloc (.cells #[.int .i64 0, .int .i64 0, .string ⟨#[]⟩] 79)).heap[w.heap.size]? = some (.cells #[.int .i64 0, .int .i64 0, .string ⟨#[]⟩] 79 (0, 0)) := by rw [heap_alloc_h, if_pos rfl]
  refine Gives.of_W Tryd.call51 Tryd.func51 rfl Tryd.ntmps51 (by simp) ?_; intro Z hZ
  (repeat (first | (with_reducible first | (refine hK _ _ ?_; clear hK K) | refine (show ∀ σ' w', _ → K σ' w' from by assumption) _ _ ?_ | refine W_seq_k fun K hK => ?_ | refine W_block_k fun K hK => ?_ | refine W_skip ?_ | refine W_ret ?_) | ((first | ((with_reducible refine W_id ?_); refine W_reg (by decide) (by rfl) ?_) | (with_reducible first | refine W_cond ?_ | refine hZ _ _ ?_ | refine W_exit ?_ | refine Wo_id ?_)); repeat1' simp only [push_cast, Nat.reduceBEq, Nat.reduceLT, Nat.reduceEqDiff, reduceIte, reduceCtorEq, Nat.reduceMul, Nat.reduceAdd, Nat.reduceSub, Int.reduceEq, Int.reduceLT, Int.reduceLE, Int.reduceNeg, Int.reduceAdd, Int.reduceSub, Int.reduceMul, Nat.reduceLeDiff, Int.reduceToNat, RunV_zero Tryd.zeroValue79, vcells_agg]) | ((repeat ((fail_if_success with_reducible refine hK _ _ ?_); clear hK K)); (with_reducible refine hK _ _ ?_); clear hK K)))
  generalize w.alloc (.cells #[.int .i64 0, .int .i64 0, .string ⟨#[]⟩] 79) = w1 at *
  have hF1 := hF.ext hx1
  have hA1 := hA.pass hx1
  refine (snone_c hF1).mono ?_
  intro v w' ⟨hv, hw⟩
  subst hv; subst w'
  have h0 := hF1.head
  ((repeat simp only [push_cast, Nat.reduceBEq, Nat.reduceLT, Nat.reduceEqDiff, reduceIte, reduceCtorEq, Nat.reduceMul, Nat.reduceAdd, Nat.reduceSub, Int.reduceEq, Int.reduceLT, Int.reduceLE, Int.reduceNeg, Int.reduceAdd, Int.reduceSub, Int.reduceMul, Nat.reduceLeDiff, Int.reduceToNat, cell_h, cellO_cells, h0]); (repeat (first | (with_reducible first | (refine hK _ _ ?_; clear hK K) | refine (show ∀ σ' w', _ → K σ' w' from by assumption) _ _ ?_ | refine W_seq_k fun K hK => ?_ | refine W_block_k fun K hK => ?_ | refine W_skip ?_ | refine W_ret ?_) | ((first | ((with_reducible refine W_id ?_); refine W_reg (by decide) (by rfl) ?_) | (with_reducible first | refine W_cond ?_ | refine hZ _ _ ?_ | refine W_exit ?_ | refine Wo_id ?_)); repeat1' simp only [push_cast, Nat.reduceBEq, Nat.reduceLT, Nat.reduceEqDiff, reduceIte, reduceCtorEq, Nat.reduceMul, Nat.reduceAdd, Nat.reduceSub, Int.reduceEq, Int.reduceLT, Int.reduceLE, Int.reduceNeg, Int.reduceAdd, Int.reduceSub, Int.reduceMul, Nat.reduceLeDiff, Int.reduceToNat, cell_h, cellO_cells, h0]) | ((repeat ((fail_if_success with_reducible refine hK _ _ ?_); clear hK K)); (with_reducible refine hK _ _ ?_); clear hK K))))
  refine (node_a hA1 hb ha i).mono ?_
  rintro v w2 ⟨m, rfl, hm, hok, hA2, hx2, _, _⟩
  have z2 := hx2.blk z1
  obtain ⟨xa, xn, xc, exa, _⟩ := hok.attrs.len
  obtain ⟨ya, yn, yc, eya, _⟩ := hok.kids.len
  rw [Laid.val_eq, exa, eya]
  ((repeat simp only [push_cast, Nat.reduceBEq, Nat.reduceLT, Nat.reduceEqDiff, reduceIte, reduceCtorEq, Nat.reduceMul, Nat.reduceAdd, Nat.reduceSub, Int.reduceEq, Int.reduceLT, Int.reduceLE, Int.reduceNeg, Int.reduceAdd, Int.reduceSub, Int.reduceMul, Nat.reduceLeDiff, Int.reduceToNat, RunV_zero Tryd.zeroValue49]); (repeat (first | (with_reducible first | (refine hK _ _ ?_; clear hK K) | refine (show ∀ σ' w', _ → K σ' w' from by assumption) _ _ ?_ | refine W_seq_k fun K hK => ?_ | refine W_block_k fun K hK => ?_ | refine W_skip ?_ | refine W_ret ?_) | ((first | ((with_reducible refine W_id ?_); refine W_reg (by decide) (by rfl) ?_) | (with_reducible first | refine W_cond ?_ | refine hZ _ _ ?_ | refine W_exit ?_ | refine Wo_id ?_)); repeat1' simp only [push_cast, Nat.reduceBEq, Nat.reduceLT, Nat.reduceEqDiff, reduceIte, reduceCtorEq, Nat.reduceMul, Nat.reduceAdd, Nat.reduceSub, Int.reduceEq, Int.reduceLT, Int.reduceLE, Int.reduceNeg, Int.reduceAdd, Int.reduceSub, Int.reduceMul, Nat.reduceLeDiff, Int.reduceToNat, RunV_zero Tryd.zeroValue49]) | ((repeat ((fail_if_success with_reducible refine hK _ _ ?_); clear hK K)); (with_reducible refine hK _ _ ?_); clear hK K))))
  simp only [vcells_agg, can_h, heap_alloc_h, if_true, canO_cells, List.size_toArray, List.length_cons, List.length_nil, Nat.zero_add, Nat.reduceAdd, Nat.reduceLT, true_and]
  have z6 : (w2.alloc (.cells #[.int .i64 0, .string ⟨#[]⟩, .string ⟨#[]⟩, .int .i64 0, .slice none 0 0, .bool false, .int .i64 0, .int .i64 0, .slice none 0 0, .int .i64 0, .int .i64 0] 49)).heap[w2.heap.size]? = some (.cells #[.int .i64 0, .string ⟨#[]⟩, .string ⟨#[]⟩, .int .i64 0, .slice none 0 0, .bool false, .int .i64 0, .int .i64 0, .slice none 0 0, .int .i64 0, .int .i64 0] 49 (0, 0)) := by rw [heap_alloc_h, if_pos rfl]
  have hp6 := setCells_all z6 (l := [.int .i64 m.nd.kind, .string m.nd.name, .string m.nd.text, .int .i64 m.nd.space, .slice xa xn xc, .bool m.nd.dup, .int .i64 m.nd.parent, .int .i64 m.nd.content, .slice ya yn yc, .int .i64 m.nd.frm, .int .i64 m.nd.to]) rfl
  have hx6 : Ext w2 (setCells (w2.alloc (.cells #[.int .i64 0, .string ⟨#[]⟩, .string ⟨#[]⟩, .int .i64 0, .slice none 0 0, .bool false, .int .i64 0, .int .i64 0, .slice none 0 0, .int .i64 0, .int .i64 0] 49)) ⟨w2.heap.size, 0, none⟩ [.int .i64 m.nd.kind, .string m.nd.name, .string m.nd.text, .int .i64 m.nd.space, .slice xa xn xc, .bool m.nd.dup, .int .i64 m.nd.parent, .int .i64 m.nd.content, .slice ya yn yc, .int .i64 m.nd.frm, .int .i64 m.nd.to] 0) := Upd.trans (Ext.alloc w2 _) (Upd.setCells (F := fun b => b = w2.heap.size) (a := ⟨w2.heap.size, 0, none⟩) _ rfl _ 0) fun i hi e => by omega
  generalize setCells (w2.alloc (.cells #[.int .i64 0, .string ⟨#[]⟩, .string ⟨#[]⟩, .int .i64 0, .slice none 0 0, .bool false, .int .i64 0, .int .i64 0, .slice none 0 0, .int .i64 0, .int .i64 0] 49)) ⟨w2.heap.size, 0, none⟩ [.int .i64 m.nd.kind, .string m.nd.name, .string m.nd.text, .int .i64 m.nd.space, .slice xa xn xc, .bool m.nd.dup, .int .i64 m.nd.parent, .int .i64 m.nd.content, .slice ya yn yc, .int .i64 m.nd.frm, .int .i64 m.nd.to] 0 = w6 at *
  obtain ⟨p8, hp8⟩ : ∃ p8, p8 = w2.heap.size := ⟨_, rfl⟩
  rw [← hp8] at hp6 ⊢
  have z3 := hx6.blk z2
  have hlt := blk_lt z2
  have hne : ¬ w.heap.size = p8 := by omega
  have hx : Ext w w6 := hx1.trans (hx2.trans hx6)
  by_cases hk : ((nd? L i).getD zN).kind = 3
  · rw [← hm] at hk
    ((repeat simp only [push_cast, Nat.reduceBEq, Nat.reduceLT, Nat.reduceEqDiff, reduceIte, reduceCtorEq, Nat.reduceMul, Nat.reduceAdd, Nat.reduceSub, Int.reduceEq, Int.reduceLT, Int.reduceLE, Int.reduceNeg, Int.reduceAdd, Int.reduceSub, Int.reduceMul, Nat.reduceLeDiff, Int.reduceToNat, cell_h, can_h, cellO_cells, canO_cells, setO_cells, heap_set_h, heap_alloc_h, size_set_h, size_alloc_h, vcells_agg, succ_ne, ne_succ, List.setIfInBounds_toArray, List.set_cons_succ, List.set_cons_zero, setCells, drew_h, hp6, z3, hk, not_true_eq_false, decide_false, decide_true, vcells_agg, hne]); (repeat (first | (with_reducible first | (refine hK _ _ ?_; clear hK K) | refine (show ∀ σ' w', _ → K σ' w' from by assumption) _ _ ?_ | refine W_seq_k fun K hK => ?_ | refine W_block_k fun K hK => ?_ | refine W_skip ?_ | refine W_ret ?_) | ((first | ((with_reducible refine W_id ?_); refine W_reg (by decide) (by rfl) ?_) | (with_reducible first | refine W_cond ?_ | refine hZ _ _ ?_ | refine W_exit ?_ | refine Wo_id ?_)); repeat1' simp only [push_cast, Nat.reduceBEq, Nat.reduceLT, Nat.reduceEqDiff, reduceIte, reduceCtorEq, Nat.reduceMul, Nat.reduceAdd, Nat.reduceSub, Int.reduceEq, Int.reduceLT, Int.reduceLE, Int.reduceNeg, Int.reduceAdd, Int.reduceSub, Int.reduceMul, Nat.reduceLeDiff, Int.reduceToNat, cell_h, can_h, cellO_cells, canO_cells, setO_cells, heap_set_h, heap_alloc_h, size_set_h, size_alloc_h, vcells_agg, succ_ne, ne_succ, List.setIfInBounds_toArray, List.set_cons_succ, List.set_cons_zero, setCells, drew_h, hp6, z3, hk, not_true_eq_false, decide_false, decide_true, vcells_agg, hne]) | ((repeat ((fail_if_success with_reducible refine hK _ _ ?_); clear hK K)); (with_reducible refine hK _ _ ?_); clear hK K))))
    refine build_struct Tryd.zeroValue79 un79 pl79 (cs := #[.int .i64 i, .int .i64 m.nd.space, .string m.nd.name]) (by rfl) ?_
    ((repeat simp only [push_cast, Nat.reduceBEq, Nat.reduceLT, Nat.reduceEqDiff, reduceIte, reduceCtorEq, Nat.reduceMul, Nat.reduceAdd, Nat.reduceSub, Int.reduceEq, Int.reduceLT, Int.reduceLE, Int.reduceNeg, Int.reduceAdd, Int.reduceSub, Int.reduceMul, Nat.reduceLeDiff, Int.reduceToNat, cell_h, can_h, cellO_cells, canO_cells, setO_cells, heap_set_h, heap_alloc_h, size_set_h, size_alloc_h, vcells_agg, succ_ne, ne_succ, List.setIfInBounds_toArray, List.set_cons_succ, List.set_cons_zero, setCells, drew_h, hp6, z3, hk, not_true_eq_false, decide_false, decide_true, vcells_agg, hne]); (repeat (first | (with_reducible first | (refine hK _ _ ?_; clear hK K) | refine (show ∀ σ' w', _ → K σ' w' from by assumption) _ _ ?_ | refine W_seq_k fun K hK => ?_ | refine W_block_k fun K hK => ?_ | refine W_skip ?_ | refine W_ret ?_) | ((first | ((with_reducible refine W_id ?_); refine W_reg (by decide) (by rfl) ?_) | (with_reducible first | refine W_cond ?_ | refine hZ _ _ ?_ | refine W_exit ?_ | refine Wo_id ?_)); repeat1' simp only [push_cast, Nat.reduceBEq, Nat.reduceLT, Nat.reduceEqDiff, reduceIte, reduceCtorEq, Nat.reduceMul, Nat.reduceAdd, Nat.reduceSub, Int.reduceEq, Int.reduceLT, Int.reduceLE, Int.reduceNeg, Int.reduceAdd, Int.reduceSub, Int.reduceMul, Nat.reduceLeDiff, Int.reduceToNat, cell_h, can_h, cellO_cells, canO_cells, setO_cells, heap_set_h, heap_alloc_h, size_set_h, size_alloc_h, vcells_agg, succ_ne, ne_succ, List.setIfInBounds_toArray, List.set_cons_succ, List.set_cons_zero, setCells, drew_h, hp6, z3, hk, not_true_eq_false, decide_false, decide_true, vcells_agg, hne]) | ((repeat ((fail_if_success with_reducible refine hK _ _ ?_); clear hK K)); (with_reducible refine hK _ _ ?_); clear hK K))))
    rw [hm] at hk
    rw [if_pos hk, if_pos hk]
    unfold opN OpS.row
    rw [← hm]
    exact ⟨rfl, Upd.trans hx (Upd.setCells (F := fun b => b = w.heap.size) (a := ⟨w.heap.size, 0, none⟩) w6 rfl [.int .i64 i, .int .i64 m.nd.space, .string m.nd.name] 0) fun i hi e => by omega⟩
  · rw [← hm] at hk
    ((repeat simp only [push_cast, Nat.reduceBEq, Nat.reduceLT, Nat.reduceEqDiff, reduceIte, reduceCtorEq, Nat.reduceMul, Nat.reduceAdd, Nat.reduceSub, Int.reduceEq, Int.reduceLT, Int.reduceLE, Int.reduceNeg, Int.reduceAdd, Int.reduceSub, Int.reduceMul, Nat.reduceLeDiff, Int.reduceToNat, cell_h, can_h, cellO_cells, canO_cells, setO_cells, heap_set_h, heap_alloc_h, size_set_h, size_alloc_h, vcells_agg, succ_ne, ne_succ, List.setIfInBounds_toArray, List.set_cons_succ, List.set_cons_zero, setCells, drew_h, hp6, z3, hk, not_true_eq_false, decide_false, decide_true, vcells_agg, hne]); (repeat (first | (with_reducible first | (refine hK _ _ ?_; clear hK K) | refine (show ∀ σ' w', _ → K σ' w' from by assumption) _ _ ?_ | refine W_seq_k fun K hK => ?_ | refine W_block_k fun K hK => ?_ | refine W_skip ?_ | refine W_ret ?_) | ((first | ((with_reducible refine W_id ?_); refine W_reg (by decide) (by rfl) ?_) | (with_reducible first | refine W_cond ?_ | refine hZ _ _ ?_ | refine W_exit ?_ | refine Wo_id ?_)); repeat1' simp only [push_cast, Nat.reduceBEq, Nat.reduceLT, Nat.reduceEqDiff, reduceIte, reduceCtorEq, Nat.reduceMul, Nat.reduceAdd, Nat.reduceSub, Int.reduceEq, Int.reduceLT, Int.reduceLE, Int.reduceNeg, Int.reduceAdd, Int.reduceSub, Int.reduceMul, Nat.reduceLeDiff, Int.reduceToNat, cell_h, can_h, cellO_cells, canO_cells, setO_cells, heap_set_h, heap_alloc_h, size_set_h, size_alloc_h, vcells_agg, succ_ne, ne_succ, List.setIfInBounds_toArray, List.set_cons_succ, List.set_cons_zero, setCells, drew_h, hp6, z3, hk, not_true_eq_false, decide_false, decide_true, vcells_agg, hne]) | ((repeat ((fail_if_success with_reducible refine hK _ _ ?_); clear hK K)); (with_reducible refine hK _ _ ?_); clear hK K))))
    refine build_struct Tryd.zeroValue79 un79 pl79 (cs := #[.int .i64 0, .int .i64 0, .string ⟨#[]⟩]) (by rfl) ?_
    ((repeat simp only [push_cast, Nat.reduceBEq, Nat.reduceLT, Nat.reduceEqDiff, reduceIte, reduceCtorEq, Nat.reduceMul, Nat.reduceAdd, Nat.reduceSub, Int.reduceEq, Int.reduceLT, Int.reduceLE, Int.reduceNeg, Int.reduceAdd, Int.reduceSub, Int.reduceMul, Nat.reduceLeDiff, Int.reduceToNat, cell_h, can_h, cellO_cells, canO_cells, setO_cells, heap_set_h, heap_alloc_h, size_set_h, size_alloc_h, vcells_agg, succ_ne, ne_succ, List.setIfInBounds_toArray, List.set_cons_succ, List.set_cons_zero, setCells, drew_h, hp6, z3, hk, not_true_eq_false, decide_false, decide_true, vcells_agg, hne]); (repeat (first | (with_reducible first | (refine hK _ _ ?_; clear hK K) | refine (show ∀ σ' w', _ → K σ' w' from by assumption) _ _ ?_ | refine W_seq_k fun K hK => ?_ | refine W_block_k fun K hK => ?_ | refine W_skip ?_ | refine W_ret ?_) | ((first | ((with_reducible refine W_id ?_); refine W_reg (by decide) (by rfl) ?_) | (with_reducible first | refine W_cond ?_ | refine hZ _ _ ?_ | refine W_exit ?_ | refine Wo_id ?_)); repeat1' simp only [push_cast, Nat.reduceBEq, Nat.reduceLT, Nat.reduceEqDiff, reduceIte, reduceCtorEq, Nat.reduceMul, Nat.reduceAdd, Nat.reduceSub, Int.reduceEq, Int.reduceLT, Int.reduceLE, Int.reduceNeg, Int.reduceAdd, Int.reduceSub, Int.reduceMul, Nat.reduceLeDiff, Int.reduceToNat, cell_h, can_h, cellO_cells, canO_cells, setO_cells, heap_set_h, heap_alloc_h, size_set_h, size_alloc_h, vcells_agg, succ_ne, ne_succ, List.setIfInBounds_toArray, List.set_cons_succ, List.set_cons_zero, setCells, drew_h, hp6, z3, hk, not_true_eq_false, decide_false, decide_true, vcells_agg, hne]) | ((repeat ((fail_if_success with_reducible refine hK _ _ ?_); clear hK K)); (with_reducible refine hK _ _ ?_); clear hK K))))
    rw [hm] at hk
    rw [if_neg hk, if_neg hk]
    exact ⟨rfl, Upd.trans hx (Upd.setCells (F := fun b => b = w.heap.size) (a := ⟨w.heap.size, 0, none⟩) w6 rfl [.int .i64 0, .int .i64 0, .string ⟨#[]⟩] 0) fun i hi e => by omega⟩
end
end Go.Proofs.YtkafpameheohdaaDoor
end
section
set_option linter.unusedSimpArgs false
set_option linter.unusedVariables false
namespace Go.Vk
open Go
def insS (L : List Nd) (s : List OpS) (k i : Int) : List OpS × Int := if ((nd? L i).getD zN).kind = 3 then (if 0 ≤ k ∧ k ≤ s.length then (if 512 ≤ s.length then (s, 150) else (s.take k.toNat ++ opN L i :: s.drop k.toNat, 0)) else (s, 2)) else (s, 2)
theorem ext0 {P : Program} (a b : Value) (w : World) (K : Value → World → Prop) : Pure1 P (Instr.extract (.tuple #[a, b]) 0) w K = K a w := Pure1_eq (fun w => by simp [Instr.extract, Sem.run]) w K
theorem ext1 {P : Program} (a b : Value) (w : World) (K : Value → World → Prop) : Pure1 P (Instr.extract (.tuple #[a, b]) 1) w K = K b w := Pure1_eq (fun w => by simp [Instr.extract, Sem.run]) w K
theorem new3 (w : World) (y1 y2 y3 x1 x2 x3 : Value) (t : TypeId) : Ext w (setCells (w.alloc (.cells #[y1, y2, y3] t)) ⟨w.heap.size, 0, none⟩ [x1, x2, x3] 0) ∧ (setCells (w.alloc (.cells #[y1, y2, y3] t)) ⟨w.heap.size, 0, none⟩ [x1, x2, x3] 0).heap[w.heap.size]? = some (.cells #[x1, x2, x3] t (0, 0)) ∧ (setCells (w.alloc (.cells #[y1, y2, y3] t)) ⟨w.heap.size, 0, none⟩ [x1, x2, x3] 0).heap.size = w.heap.size + 1 := by
  have z1 : (w.alloc (.cells #[y1, y2, y3] t)).heap[w.heap.size]? = some (.cells #[y1, y2, y3] t (0, 0)) := by rw [heap_alloc_h, if_pos rfl]
  have up := Upd.setCells (F := fun b => b = w.heap.size) (a := ⟨w.heap.size, 0, none⟩) (w.alloc (.cells #[y1, y2, y3] t)) rfl [x1, x2, x3] 0
  refine ⟨Upd.trans (Ext.alloc w _) up fun i hi e => by omega, setCells_all z1 rfl, ?_⟩
  simp [setCells, size_set_h, size_alloc_h]
end Go.Vk
namespace Go.Proofs.YtkafpameheohdaaDoor
open Go Go.Vk
set_option maxHeartbeats 40000000
section
variable {w0 w : World} {Q : Nat → Prop} {ps pa : Nat} {L : List Nd} {s : List OpS}
theorem sins_c (h : StAt w0 w Q ps pa L s) (hb : L.length < 100000) (ha : ∀ n ∈ L, n.attrs.length < 1000000) (hs : s.length < 10000) (k i : Int) : Gives Tryd.prog 28 #[.pointer (some ⟨ps, 0, none⟩), .int .i64 k, .int .i64 i] w fun v w' => v = .int .i64 (insS L s k i).2 ∧ StAt w0 w' Q ps pa L (insS L s k i).1 ∧ Upd (AF w0 Q) w w' := by
  refine Gives.of_W Tryd.call28 Tryd.func28 rfl Tryd.ntmps28 (by simp) ?_; intro Z hZ
  (repeat (first | (with_reducible first | (refine hK _ _ ?_; clear hK K) | refine (show ∀ σ' w', _ → K σ' w' from by assumption) _ _ ?_ | refine W_seq_k fun K hK => ?_ | refine W_block_k fun K hK => ?_ | refine W_skip ?_ | refine W_ret ?_) | ((first | ((with_reducible refine W_id ?_); refine W_reg (by decide) (by rfl) ?_) | (with_reducible first | refine W_cond ?_ | refine hZ _ _ ?_ | refine W_exit ?_ | refine Wo_id ?_)); repeat1' simp only [push_cast, Nat.reduceBEq, Nat.reduceLT, Nat.reduceEqDiff, reduceIte, reduceCtorEq, Nat.reduceMul, Nat.reduceAdd, Nat.reduceSub, Int.reduceEq, Int.reduceLT, Int.reduceLE, Int.reduceNeg, Int.reduceAdd, Int.reduceSub, Int.reduceMul, Nat.reduceLeDiff, Int.reduceToNat]) | ((repeat ((fail_if_success with_reducible refine hK _ _ ?_); clear hK K)); (with_reducible refine hK _ _ ?_); clear hK K)))
  refine (sel_c h hb ha i).mono ?_
  rintro v w2 ⟨rfl, hx2⟩
  have h2 := h.pass hx2
  obtain ⟨O, hO⟩ : ∃ O : OpS, (if ((nd? L i).getD zN).kind = 3 then (opN L i).row else zS.row) = O.row ∧ (((nd? L i).getD zN).kind = 3 → O = opN L i) := by
    by_cases hk : ((nd? L i).getD zN).kind = 3
    · exact ⟨opN L i, if_pos hk, fun _ => rfl⟩
    · exact ⟨zS, if_neg hk, fun h => absurd h hk⟩
  rw [hO.1]
  have hO := hO.2
  generalize he : (if ((nd? L i).getD zN).kind = 3 then (0 : Int) else 2) = e
  unfold OpS.row
  ((repeat simp only [push_cast, Nat.reduceBEq, Nat.reduceLT, Nat.reduceEqDiff, reduceIte, reduceCtorEq, Nat.reduceMul, Nat.reduceAdd, Nat.reduceSub, Int.reduceEq, Int.reduceLT, Int.reduceLE, Int.reduceNeg, Int.reduceAdd, Int.reduceSub, Int.reduceMul, Nat.reduceLeDiff, Int.reduceToNat, RunV_zero Tryd.zeroValue79, ext0, ext1, vcells_agg]); (repeat (first | (with_reducible first | (refine hK _ _ ?_; clear hK K) | refine (show ∀ σ' w', _ → K σ' w' from by assumption) _ _ ?_ | refine W_seq_k fun K hK => ?_ | refine W_block_k fun K hK => ?_ | refine W_skip ?_ | refine W_ret ?_) | ((first | ((with_reducible refine W_id ?_); refine W_reg (by decide) (by rfl) ?_) | (with_reducible first | refine W_cond ?_ | refine hZ _ _ ?_ | refine W_exit ?_ | refine Wo_id ?_)); repeat1' simp only [push_cast, Nat.reduceBEq, Nat.reduceLT, Nat.reduceEqDiff, reduceIte, reduceCtorEq, Nat.reduceMul, Nat.reduceAdd, Nat.reduceSub, Int.reduceEq, Int.reduceLT, Int.reduceLE, Int.reduceNeg, Int.reduceAdd, Int.reduceSub, Int.reduceMul, Nat.reduceLeDiff, Int.reduceToNat, RunV_zero Tryd.zeroValue79, ext0, ext1, vcells_agg]) | ((repeat ((fail_if_success with_reducible refine hK _ _ ?_); clear hK K)); (with_reducible refine hK _ _ ?_); clear hK K))))
  obtain ⟨hx3, z3, hs3⟩ := new3 w2 (.int .i64 0) (.int .i64 0) (.string ⟨#[]⟩) (.int .i64 O.node) (.int .i64 O.space) (.string O.name) 79
  simp only [can_h, heap_alloc_h, if_true, canO_cells, List.size_toArray, List.length_cons, List.length_nil, Nat.zero_add, Nat.reduceAdd, Nat.reduceLT, true_and]
  generalize setCells (w2.alloc (.cells #[.int .i64 0, .int .i64 0, .string ⟨#[]⟩] 79)) ⟨w2.heap.size, 0, none⟩ [.int .i64 O.node, .int .i64 O.space, .string O.name] 0 = w3 at *
  have hx13 : Ext w w3 := hx2.trans hx3
  have h3 := h2.pass hx3
  obtain ⟨p7, hp7⟩ : ∃ p7, p7 = w2.heap.size := ⟨_, rfl⟩
  rw [← hp7] at z3 hs3 ⊢
  by_cases hk : ((nd? L i).getD zN).kind = 3
  · rw [if_pos hk] at he
    subst he
    rw [hO hk] at z3
    by_cases hkk : 0 ≤ k ∧ k ≤ s.length
    · have b0 : ¬ k < 0 := by omega
      have b1 : ¬ (s.length : Int) < k := by omega
      have h2' := h2
      obtain ⟨sv, bo, hF2, hA2, hpl, hbo, hQ⟩ := h2'
      have hb7 : ∀ b, bo = some b → b < p7 := fun b hb => by
        have := hF2.sl; rw [hb] at this; have := this.lt; omega
      have hp2 := blk_lt hF2.head
      have hF := hF2.ext hx3
      have hA := hA2.pass hx3
      have h0 := hF.head
      obtain ⟨a, c, rfl, hc⟩ := ops_len hF.sl
      by_cases hd : 512 ≤ s.length
      · have eI : insS L s k i = (s, 150) := by unfold insS; rw [if_pos hk, if_pos hkk, if_pos hd]
        have b2 : (512 : Int) ≤ (s.length : Int) := by omega
        ((repeat simp only [push_cast, Nat.reduceBEq, Nat.reduceLT, Nat.reduceEqDiff, reduceIte, reduceCtorEq, Nat.reduceMul, Nat.reduceAdd, Nat.reduceSub, Int.reduceEq, Int.reduceLT, Int.reduceLE, Int.reduceNeg, Int.reduceAdd, Int.reduceSub, Int.reduceMul, Nat.reduceLeDiff, Int.reduceToNat, not_true_eq_false, not_false_eq_true, decide_true, decide_false, b0, b1, b2, cell_h, cellO_cells, h0]); (repeat (first | (with_reducible first | (refine hK _ _ ?_; clear hK K) | refine (show ∀ σ' w', _ → K σ' w' from by assumption) _ _ ?_ | refine W_seq_k fun K hK => ?_ | refine W_block_k fun K hK => ?_ | refine W_skip ?_ | refine W_ret ?_) | ((first | ((with_reducible refine W_id ?_); refine W_reg (by decide) (by rfl) ?_) | (with_reducible first | refine W_cond ?_ | refine hZ _ _ ?_ | refine W_exit ?_ | refine Wo_id ?_)); repeat1' simp only [push_cast, Nat.reduceBEq, Nat.reduceLT, Nat.reduceEqDiff, reduceIte, reduceCtorEq, Nat.reduceMul, Nat.reduceAdd, Nat.reduceSub, Int.reduceEq, Int.reduceLT, Int.reduceLE, Int.reduceNeg, Int.reduceAdd, Int.reduceSub, Int.reduceMul, Nat.reduceLeDiff, Int.reduceToNat, not_true_eq_false, not_false_eq_true, decide_true, decide_false, b0, b1, b2, cell_h, cellO_cells, h0]) | ((repeat ((fail_if_success with_reducible refine hK _ _ ?_); clear hK K)); (with_reducible refine hK _ _ ?_); clear hK K))))
        rw [eI]
        exact ⟨rfl, h3, hx13.upd⟩
      · have eI : insS L s k i = (s.take k.toNat ++ opN L i :: s.drop k.toNat, 0) := by unfold insS; rw [if_pos hk, if_pos hkk, if_neg hd]
        have b2 : ¬ (512 : Int) ≤ (s.length : Int) := by omega
        ((repeat simp only [push_cast, Nat.reduceBEq, Nat.reduceLT, Nat.reduceEqDiff, reduceIte, reduceCtorEq, Nat.reduceMul, Nat.reduceAdd, Nat.reduceSub, Int.reduceEq, Int.reduceLT, Int.reduceLE, Int.reduceNeg, Int.reduceAdd, Int.reduceSub, Int.reduceMul, Nat.reduceLeDiff, Int.reduceToNat, not_true_eq_false, not_false_eq_true, decide_true, decide_false, b0, b1, b2, cell_h, cellO_cells, h0]); (repeat (first | (with_reducible first | (refine hK _ _ ?_; clear hK K) | refine (show ∀ σ' w', _ → K σ' w' from by assumption) _ _ ?_ | refine W_seq_k fun K hK => ?_ | refine W_block_k fun K hK => ?_ | refine W_skip ?_ | refine W_ret ?_) | ((first | ((with_reducible refine W_id ?_); refine W_reg (by decide) (by rfl) ?_) | (with_reducible first | refine W_cond ?_ | refine hZ _ _ ?_ | refine W_exit ?_ | refine Wo_id ?_)); repeat1' simp only [push_cast, Nat.reduceBEq, Nat.reduceLT, Nat.reduceEqDiff, reduceIte, reduceCtorEq, Nat.reduceMul, Nat.reduceAdd, Nat.reduceSub, Int.reduceEq, Int.reduceLT, Int.reduceLE, Int.reduceNeg, Int.reduceAdd, Int.reduceSub, Int.reduceMul, Nat.reduceLeDiff, Int.reduceToNat, not_true_eq_false, not_false_eq_true, decide_true, decide_false, b0, b1, b2, cell_h, cellO_cells, h0]) | ((repeat ((fail_if_success with_reducible refine hK _ _ ?_); clear hK K)); (with_reducible refine hK _ _ ?_); clear hK K))))
        refine W_draw (.pas 0 (.pas 1 (.pas 2 (.pas 3 (.pas 4 (.pas 5 (.pas 6 (.act 7 (.act 8 (.pas 9 (.pas 10 (.last 11)))))))))))) (fun q => q = ps ∨ q = p7) (by decide) mixed (by kernel_rfl) ?_
        have hxd := Ext.drew w3
        have hF4 := hF.ext hxd
        have hA4 := hA.pass hxd
        have h04 := hF4.head
        have z4 := hxd.blk z3
        generalize w3.drew = w4 at *
        (repeat (first | ((first | refine pas_plain rfl ?_ | refine pas_g rfl rfl ?_ | refine act_plain rfl ?_ | refine act_g rfl rfl ?_ | refine last_plain rfl ?_ | refine tail_plain rfl ?_ | refine tail_g rfl rfl ?_); (repeat simp only [push_cast, Nat.reduceBEq, Nat.reduceLT, Nat.reduceEqDiff, reduceIte, reduceCtorEq, Nat.reduceMul, Nat.reduceAdd, Nat.reduceSub, Int.reduceEq, Int.reduceLT, Int.reduceLE, Int.reduceNeg, Int.reduceAdd, Int.reduceSub, Int.reduceMul, Nat.reduceLeDiff, Int.reduceToNat, cell_h, can_h, cellO_cells, canO_cells, setO_cells, heap_set_h, heap_alloc_h, size_set_h, size_alloc_h, vcells_agg, succ_ne, ne_succ, List.setIfInBounds_toArray, List.set_cons_succ, List.set_cons_zero, setCells, drew_h, true_or, or_true, h04, z4, true_or, or_true, eq_self])) | (refine tail_fin ?_) | (refine sch_fin ?_)))
        have hx4 : Ext w w4 := hx13.trans hxd
        have hs4 := hxd.alike.size
        refine bs_one styO (by decide) (by decide) (v := .agg (opN L i).row) rfl ?_
        refine ⟨kept_upd (Ext.alloc _ _) fun q hq => ⟨by have := blk_lt h04; have := blk_lt z4; rcases hq with hq | hq <;> omega, id⟩, ?_⟩
        (repeat (first | ((first | refine pas_plain rfl ?_ | refine pas_g rfl rfl ?_ | refine act_plain rfl ?_ | refine act_g rfl rfl ?_ | refine last_plain rfl ?_ | refine tail_plain rfl ?_ | refine tail_g rfl rfl ?_); (repeat simp only [push_cast, Nat.reduceBEq, Nat.reduceLT, Nat.reduceEqDiff, reduceIte, reduceCtorEq, Nat.reduceMul, Nat.reduceAdd, Nat.reduceSub, Int.reduceEq, Int.reduceLT, Int.reduceLE, Int.reduceNeg, Int.reduceAdd, Int.reduceSub, Int.reduceMul, Nat.reduceLeDiff, Int.reduceToNat, cell_h, can_h, cellO_cells, canO_cells, setO_cells, heap_set_h, heap_alloc_h, size_set_h, size_alloc_h, vcells_agg, succ_ne, ne_succ, List.setIfInBounds_toArray, List.set_cons_succ, List.set_cons_zero, setCells, drew_h, true_or, or_true, h04, z4, true_or, or_true, eq_self])) | (refine tail_fin ?_) | (refine sch_fin ?_)))
        have hx5 := Ext.alloc w4 (.cells (opN L i).row 79)
        have hz5 : (w4.alloc (.cells (opN L i).row 79)).heap[w4.heap.size]? = some (.cells (opN L i).row 79 (0, 0)) := by rw [heap_alloc_h, if_pos rfl]
        have hF5 := hF4.ext hx5
        have hA5 := hA4.pass hx5
        have h05 := hF5.head
        have hl0 := blk_lt h04
        have hl1 := blk_lt z4
        have hs5 : (w4.alloc (.cells (opN L i).row 79)).heap.size = w4.heap.size + 1 := size_alloc_h _ _
        generalize hw5 : w4.alloc (.cells (opN L i).row 79) = w5 at *
        have hne : bo ≠ some w4.heap.size := fun e => by
          have := hF4.sl; rw [e] at this; have := this.lt; omega
        obtain ⟨k, rfl⟩ : ∃ q : Nat, k = (q : Int) := ⟨k.toNat, by omega⟩
        refine (insert_o hF5.sl (by omega) hz5 hne k (by omega)).mono ?_
        rintro v w6 ⟨bo', g1, g2, g3⟩
        refine ⟨kept_upd g2 fun q hq => ⟨by rcases hq with hq | hq <;> omega, fun hb' => ?_⟩, ?_⟩
        · have := hb7 _ hb'
          rcases hq with rfl | rfl
          · exact hF.ne hb'
          · omega
        have hQl : ∀ b, Q b → b < w5.heap.size := fun b hb => hA5.low b (.inl hb)
        obtain ⟨k1, k2, k3⟩ := st_put hF5 hA5 hpl hbo hQ hQl g1 g2 g3
        have hx05 : Ext w w5 := hx4.trans hx5
        obtain ⟨va, vc, rfl, _⟩ := ops_len g1
        (repeat (first | ((first | refine pas_plain rfl ?_ | refine pas_g rfl rfl ?_ | refine act_plain rfl ?_ | refine act_g rfl rfl ?_ | refine last_plain rfl ?_ | refine tail_plain rfl ?_ | refine tail_g rfl rfl ?_); (repeat simp only [push_cast, Nat.reduceBEq, Nat.reduceLT, Nat.reduceEqDiff, reduceIte, reduceCtorEq, Nat.reduceMul, Nat.reduceAdd, Nat.reduceSub, Int.reduceEq, Int.reduceLT, Int.reduceLE, Int.reduceNeg, Int.reduceAdd, Int.reduceSub, Int.reduceMul, Nat.reduceLeDiff, Int.reduceToNat, k1])) | (refine tail_fin ?_) | (refine sch_fin ?_)))
        ((repeat simp only [push_cast, Nat.reduceBEq, Nat.reduceLT, Nat.reduceEqDiff, reduceIte, reduceCtorEq, Nat.reduceMul, Nat.reduceAdd, Nat.reduceSub, Int.reduceEq, Int.reduceLT, Int.reduceLE, Int.reduceNeg, Int.reduceAdd, Int.reduceSub, Int.reduceMul, Nat.reduceLeDiff, Int.reduceToNat, k1]); (repeat (first | (with_reducible first | (refine hK _ _ ?_; clear hK K) | refine (show ∀ σ' w', _ → K σ' w' from by assumption) _ _ ?_ | refine W_seq_k fun K hK => ?_ | refine W_block_k fun K hK => ?_ | refine W_skip ?_ | refine W_ret ?_) | ((first | ((with_reducible refine W_id ?_); refine W_reg (by decide) (by rfl) ?_) | (with_reducible first | refine W_cond ?_ | refine hZ _ _ ?_ | refine W_exit ?_ | refine Wo_id ?_)); repeat1' simp only [push_cast, Nat.reduceBEq, Nat.reduceLT, Nat.reduceEqDiff, reduceIte, reduceCtorEq, Nat.reduceMul, Nat.reduceAdd, Nat.reduceSub, Int.reduceEq, Int.reduceLT, Int.reduceLE, Int.reduceNeg, Int.reduceAdd, Int.reduceSub, Int.reduceMul, Nat.reduceLeDiff, Int.reduceToNat, k1]) | ((repeat ((fail_if_success with_reducible refine hK _ _ ?_); clear hK K)); (with_reducible refine hK _ _ ?_); clear hK K))))
        rw [eI]
        exact ⟨rfl, k2, Upd.trans hx05.upd k3 fun _ _ h => h⟩
    · have eI : insS L s k i = (s, 2) := by unfold insS; rw [if_pos hk, if_neg hkk]
      by_cases hk0 : k < 0
      · ((repeat simp only [push_cast, Nat.reduceBEq, Nat.reduceLT, Nat.reduceEqDiff, reduceIte, reduceCtorEq, Nat.reduceMul, Nat.reduceAdd, Nat.reduceSub, Int.reduceEq, Int.reduceLT, Int.reduceLE, Int.reduceNeg, Int.reduceAdd, Int.reduceSub, Int.reduceMul, Nat.reduceLeDiff, Int.reduceToNat, not_true_eq_false, not_false_eq_true, decide_true, decide_false, hk0]); (repeat (first | (with_reducible first | (refine hK _ _ ?_; clear hK K) | refine (show ∀ σ' w', _ → K σ' w' from by assumption) _ _ ?_ | refine W_seq_k fun K hK => ?_ | refine W_block_k fun K hK => ?_ | refine W_skip ?_ | refine W_ret ?_) | ((first | ((with_reducible refine W_id ?_); refine W_reg (by decide) (by rfl) ?_) | (with_reducible first | refine W_cond ?_ | refine hZ _ _ ?_ | refine W_exit ?_ | refine Wo_id ?_)); repeat1' simp only [push_cast, Nat.reduceBEq, Nat.reduceLT, Nat.reduceEqDiff, reduceIte, reduceCtorEq, Nat.reduceMul, Nat.reduceAdd, Nat.reduceSub, Int.reduceEq, Int.reduceLT, Int.reduceLE, Int.reduceNeg, Int.reduceAdd, Int.reduceSub, Int.reduceMul, Nat.reduceLeDiff, Int.reduceToNat, not_true_eq_false, not_false_eq_true, decide_true, decide_false, hk0]) | ((repeat ((fail_if_success with_reducible refine hK _ _ ?_); clear hK K)); (with_reducible refine hK _ _ ?_); clear hK K))))
        rw [eI]
        exact ⟨rfl, h3, hx13.upd⟩
      · obtain ⟨sv, bo, hF, _⟩ := id h3
        have h0 := hF.head
        obtain ⟨a, c, rfl, hc⟩ := ops_len hF.sl
        have b1 : (s.length : Int) < k := by omega
        ((repeat simp only [push_cast, Nat.reduceBEq, Nat.reduceLT, Nat.reduceEqDiff, reduceIte, reduceCtorEq, Nat.reduceMul, Nat.reduceAdd, Nat.reduceSub, Int.reduceEq, Int.reduceLT, Int.reduceLE, Int.reduceNeg, Int.reduceAdd, Int.reduceSub, Int.reduceMul, Nat.reduceLeDiff, Int.reduceToNat, not_true_eq_false, not_false_eq_true, decide_true, decide_false, hk0, b1, cell_h, cellO_cells, h0]); (repeat (first | (with_reducible first | (refine hK _ _ ?_; clear hK K) | refine (show ∀ σ' w', _ → K σ' w' from by assumption) _ _ ?_ | refine W_seq_k fun K hK => ?_ | refine W_block_k fun K hK => ?_ | refine W_skip ?_ | refine W_ret ?_) | ((first | ((with_reducible refine W_id ?_); refine W_reg (by decide) (by rfl) ?_) | (with_reducible first | refine W_cond ?_ | refine hZ _ _ ?_ | refine W_exit ?_ | refine Wo_id ?_)); repeat1' simp only [push_cast, Nat.reduceBEq, Nat.reduceLT, Nat.reduceEqDiff, reduceIte, reduceCtorEq, Nat.reduceMul, Nat.reduceAdd, Nat.reduceSub, Int.reduceEq, Int.reduceLT, Int.reduceLE, Int.reduceNeg, Int.reduceAdd, Int.reduceSub, Int.reduceMul, Nat.reduceLeDiff, Int.reduceToNat, not_true_eq_false, not_false_eq_true, decide_true, decide_false, hk0, b1, cell_h, cellO_cells, h0]) | ((repeat ((fail_if_success with_reducible refine hK _ _ ?_); clear hK K)); (with_reducible refine hK _ _ ?_); clear hK K))))
        rw [eI]
        exact ⟨rfl, h3, hx13.upd⟩
  · have eI : insS L s k i = (s, 2) := by unfold insS; rw [if_neg hk]
    rw [if_neg hk] at he
    subst he
    ((repeat simp only [push_cast, Nat.reduceBEq, Nat.reduceLT, Nat.reduceEqDiff, reduceIte, reduceCtorEq, Nat.reduceMul, Nat.reduceAdd, Nat.reduceSub, Int.reduceEq, Int.reduceLT, Int.reduceLE, Int.reduceNeg, Int.reduceAdd, Int.reduceSub, Int.reduceMul, Nat.reduceLeDiff, Int.reduceToNat, not_true_eq_false, not_false_eq_true, decide_true, decide_false]); (repeat (first | (with_reducible first | (refine hK _ _ ?_; clear hK K) | refine (show ∀ σ' w', _ → K σ' w' from by assumption) _ _ ?_ | refine W_seq_k fun K hK => ?_ | refine W_block_k fun K hK => ?_ | refine W_skip ?_ | refine W_ret ?_) | ((first | ((with_reducible refine W_id ?_); refine W_reg (by decide) (by rfl) ?_) | (with_reducible first | refine W_cond ?_ | refine hZ _ _ ?_ | refine W_exit ?_ | refine Wo_id ?_)); repeat1' simp only [push_cast, Nat.reduceBEq, Nat.reduceLT, Nat.reduceEqDiff, reduceIte, reduceCtorEq, Nat.reduceMul, Nat.reduceAdd, Nat.reduceSub, Int.reduceEq, Int.reduceLT, Int.reduceLE, Int.reduceNeg, Int.reduceAdd, Int.reduceSub, Int.reduceMul, Nat.reduceLeDiff, Int.reduceToNat, not_true_eq_false, not_false_eq_true, decide_true, decide_false]) | ((repeat ((fail_if_success with_reducible refine hK _ _ ?_); clear hK K)); (with_reducible refine hK _ _ ?_); clear hK K))))
    rw [eI]
    exact ⟨rfl, h3, hx13.upd⟩
theorem spush_c (h : StAt w0 w Q ps pa L s) (hb : L.length < 100000) (ha : ∀ n ∈ L, n.attrs.length < 1000000) (hs : s.length < 10000) (i : Int) : Gives Tryd.prog 26 #[.pointer (some ⟨ps, 0, none⟩), .int .i64 i] w fun v w' => v = .int .i64 (insS L s s.length i).2 ∧ StAt w0 w' Q ps pa L (insS L s s.length i).1 ∧ Upd (AF w0 Q) w w' := by
  obtain ⟨sv, bo, hF, _⟩ := id h
  refine Gives.of_W Tryd.call26 Tryd.func26 rfl Tryd.ntmps26 (by simp) ?_; intro Z hZ
  (repeat (first | (with_reducible first | (refine hK _ _ ?_; clear hK K) | refine (show ∀ σ' w', _ → K σ' w' from by assumption) _ _ ?_ | refine W_seq_k fun K hK => ?_ | refine W_block_k fun K hK => ?_ | refine W_skip ?_ | refine W_ret ?_) | ((first | ((with_reducible refine W_id ?_); refine W_reg (by decide) (by rfl) ?_) | (with_reducible first | refine W_cond ?_ | refine hZ _ _ ?_ | refine W_exit ?_ | refine Wo_id ?_)); repeat1' simp only [push_cast, Nat.reduceBEq, Nat.reduceLT, Nat.reduceEqDiff, reduceIte, reduceCtorEq, Nat.reduceMul, Nat.reduceAdd, Nat.reduceSub, Int.reduceEq, Int.reduceLT, Int.reduceLE, Int.reduceNeg, Int.reduceAdd, Int.reduceSub, Int.reduceMul, Nat.reduceLeDiff, Int.reduceToNat]) | ((repeat ((fail_if_success with_reducible refine hK _ _ ?_); clear hK K)); (with_reducible refine hK _ _ ?_); clear hK K)))
  refine (slen_c hF).mono ?_
  intro v w' ⟨hv, hw⟩
  subst hv; subst w'
  ((repeat simp only [push_cast, Nat.reduceBEq, Nat.reduceLT, Nat.reduceEqDiff, reduceIte, reduceCtorEq, Nat.reduceMul, Nat.reduceAdd, Nat.reduceSub, Int.reduceEq, Int.reduceLT, Int.reduceLE, Int.reduceNeg, Int.reduceAdd, Int.reduceSub, Int.reduceMul, Nat.reduceLeDiff, Int.reduceToNat]); (repeat (first | (with_reducible first | (refine hK _ _ ?_; clear hK K) | refine (show ∀ σ' w', _ → K σ' w' from by assumption) _ _ ?_ | refine W_seq_k fun K hK => ?_ | refine W_block_k fun K hK => ?_ | refine W_skip ?_ | refine W_ret ?_) | ((first | ((with_reducible refine W_id ?_); refine W_reg (by decide) (by rfl) ?_) | (with_reducible first | refine W_cond ?_ | refine hZ _ _ ?_ | refine W_exit ?_ | refine Wo_id ?_)); repeat1' simp only [push_cast, Nat.reduceBEq, Nat.reduceLT, Nat.reduceEqDiff, reduceIte, reduceCtorEq, Nat.reduceMul, Nat.reduceAdd, Nat.reduceSub, Int.reduceEq, Int.reduceLT, Int.reduceLE, Int.reduceNeg, Int.reduceAdd, Int.reduceSub, Int.reduceMul, Nat.reduceLeDiff, Int.reduceToNat]) | ((repeat ((fail_if_success with_reducible refine hK _ _ ?_); clear hK K)); (with_reducible refine hK _ _ ?_); clear hK K))))
  refine (sins_c h hb ha hs s.length i).mono ?_
  rintro v w2 ⟨rfl, h2, hx⟩
  ((repeat simp only [push_cast, Nat.reduceBEq, Nat.reduceLT, Nat.reduceEqDiff, reduceIte, reduceCtorEq, Nat.reduceMul, Nat.reduceAdd, Nat.reduceSub, Int.reduceEq, Int.reduceLT, Int.reduceLE, Int.reduceNeg, Int.reduceAdd, Int.reduceSub, Int.reduceMul, Nat.reduceLeDiff, Int.reduceToNat]); (repeat (first | (with_reducible first | (refine hK _ _ ?_; clear hK K) | refine (show ∀ σ' w', _ → K σ' w' from by assumption) _ _ ?_ | refine W_seq_k fun K hK => ?_ | refine W_block_k fun K hK => ?_ | refine W_skip ?_ | refine W_ret ?_) | ((first | ((with_reducible refine W_id ?_); refine W_reg (by decide) (by rfl) ?_) | (with_reducible first | refine W_cond ?_ | refine hZ _ _ ?_ | refine W_exit ?_ | refine Wo_id ?_)); repeat1' simp only [push_cast, Nat.reduceBEq, Nat.reduceLT, Nat.reduceEqDiff, reduceIte, reduceCtorEq, Nat.reduceMul, Nat.reduceAdd, Nat.reduceSub, Int.reduceEq, Int.reduceLT, Int.reduceLE, Int.reduceNeg, Int.reduceAdd, Int.reduceSub, Int.reduceMul, Nat.reduceLeDiff, Int.reduceToNat]) | ((repeat ((fail_if_success with_reducible refine hK _ _ ?_); clear hK K)); (with_reducible refine hK _ _ ?_); clear hK K))))
  exact ⟨h2, hx⟩
end
end Go.Proofs.YtkafpameheohdaaDoor
end
section
set_option linter.unusedSimpArgs false
set_option linter.unusedVariables false
namespace Go.Proofs.YtkafpameheohdaaDoor
open Go Go.Vk
set_option maxHeartbeats 40000000
section
variable {w0 w : World} {Q : Nat → Prop} {ps pa : Nat} {L : List Nd} {s : List OpS}
theorem spop_c (h : StAt w0 w Q ps pa L s) (hs : s.length < 10000) : Gives Tryd.prog 15 #[.pointer (some ⟨ps, 0, none⟩)] w fun v w' => v = .int .i64 (topS s) ∧ StAt w0 w' Q ps pa L s.dropLast ∧ Upd (AF w0 Q) w w' := by
  obtain ⟨sv, bo, hF, hA, hpl, hbo, hQ⟩ := id h
  have hQl : ∀ b, Q b → b < w.heap.size := fun b hb => hA.low b (.inl hb)
  have h0 := hF.head
  refine Gives.of_W Tryd.call15 Tryd.func15 rfl Tryd.ntmps15 (by simp) ?_; intro Z hZ
  (repeat (first | (with_reducible first | (refine hK _ _ ?_; clear hK K) | refine (show ∀ σ' w', _ → K σ' w' from by assumption) _ _ ?_ | refine W_seq_k fun K hK => ?_ | refine W_block_k fun K hK => ?_ | refine W_skip ?_ | refine W_ret ?_) | ((first | ((with_reducible refine W_id ?_); refine W_reg (by decide) (by rfl) ?_) | (with_reducible first | refine W_cond ?_ | refine hZ _ _ ?_ | refine W_exit ?_ | refine Wo_id ?_)); repeat1' simp only [push_cast, Nat.reduceBEq, Nat.reduceLT, Nat.reduceEqDiff, reduceIte, reduceCtorEq, Nat.reduceMul, Nat.reduceAdd, Nat.reduceSub, Int.reduceEq, Int.reduceLT, Int.reduceLE, Int.reduceNeg, Int.reduceAdd, Int.reduceSub, Int.reduceMul, Nat.reduceLeDiff, Int.reduceToNat]) | ((repeat ((fail_if_success with_reducible refine hK _ _ ?_); clear hK K)); (with_reducible refine hK _ _ ?_); clear hK K)))
  refine (stop_c hF (by omega)).mono ?_
  intro v w' ⟨hv, hw⟩
  subst hv; subst w'
  ((repeat simp only [push_cast, Nat.reduceBEq, Nat.reduceLT, Nat.reduceEqDiff, reduceIte, reduceCtorEq, Nat.reduceMul, Nat.reduceAdd, Nat.reduceSub, Int.reduceEq, Int.reduceLT, Int.reduceLE, Int.reduceNeg, Int.reduceAdd, Int.reduceSub, Int.reduceMul, Nat.reduceLeDiff, Int.reduceToNat]); (repeat (first | (with_reducible first | (refine hK _ _ ?_; clear hK K) | refine (show ∀ σ' w', _ → K σ' w' from by assumption) _ _ ?_ | refine W_seq_k fun K hK => ?_ | refine W_block_k fun K hK => ?_ | refine W_skip ?_ | refine W_ret ?_) | ((first | ((with_reducible refine W_id ?_); refine W_reg (by decide) (by rfl) ?_) | (with_reducible first | refine W_cond ?_ | refine hZ _ _ ?_ | refine W_exit ?_ | refine Wo_id ?_)); repeat1' simp only [push_cast, Nat.reduceBEq, Nat.reduceLT, Nat.reduceEqDiff, reduceIte, reduceCtorEq, Nat.reduceMul, Nat.reduceAdd, Nat.reduceSub, Int.reduceEq, Int.reduceLT, Int.reduceLE, Int.reduceNeg, Int.reduceAdd, Int.reduceSub, Int.reduceMul, Nat.reduceLeDiff, Int.reduceToNat]) | ((repeat ((fail_if_success with_reducible refine hK _ _ ?_); clear hK K)); (with_reducible refine hK _ _ ?_); clear hK K))))
  refine (slen_c hF).mono ?_
  intro v w' ⟨hv, hw⟩
  subst hv; subst w'
  by_cases hn : 0 < s.length
  · have b0 : (0 : Int) < (s.length : Int) := by omega
    have s0 : inI64 ((s.length : Int) - 1) := by unfold inI64; omega
    obtain ⟨b, o, n, c, rfl, hbo1⟩ := hF.sl.some_of (ops_ne hn)
    obtain ⟨_, _, e2, hc⟩ := ops_len hF.sl
    cases e2
    obtain ⟨m, hm⟩ : ∃ m : Nat, (s.length : Int) - 1 = m := ⟨s.length - 1, by omega⟩
    rw [hm] at s0
    have b1 : (0 : Int) ≤ (m : Int) := by omega
    have b2 : (m : Int) ≤ (c : Int) := by omega
    have b3 : (0 : Int) ≤ (c : Int) := by omega
    have x1 := hF.sl.partW (l := 0) (k := m) (m := c) (by omega) (by omega) (by omega) (by omega)
    simp only [Nat.zero_mul, Nat.sub_zero, List.drop_zero, opCells_take] at x1
    obtain ⟨k1, k2, k3⟩ := st_put hF hA hpl hbo hQ hQl x1 (Upd.refl _ _) (fun b hb => .inl hb)
    have e : s.dropLast = s.take m := by rw [List.dropLast_eq_take]; congr 1; omega
    ((repeat simp only [push_cast, Nat.reduceBEq, Nat.reduceLT, Nat.reduceEqDiff, reduceIte, reduceCtorEq, Nat.reduceMul, Nat.reduceAdd, Nat.reduceSub, Int.reduceEq, Int.reduceLT, Int.reduceLE, Int.reduceNeg, Int.reduceAdd, Int.reduceSub, Int.reduceMul, Nat.reduceLeDiff, Int.reduceToNat, b0, hm, s0, b1, b2, b3, cell_h, cellO_cells, h0, Nat.sub_zero, k1]); (repeat (first | (with_reducible first | (refine hK _ _ ?_; clear hK K) | refine (show ∀ σ' w', _ → K σ' w' from by assumption) _ _ ?_ | refine W_seq_k fun K hK => ?_ | refine W_block_k fun K hK => ?_ | refine W_skip ?_ | refine W_ret ?_) | ((first | ((with_reducible refine W_id ?_); refine W_reg (by decide) (by rfl) ?_) | (with_reducible first | refine W_cond ?_ | refine hZ _ _ ?_ | refine W_exit ?_ | refine Wo_id ?_)); repeat1' simp only [push_cast, Nat.reduceBEq, Nat.reduceLT, Nat.reduceEqDiff, reduceIte, reduceCtorEq, Nat.reduceMul, Nat.reduceAdd, Nat.reduceSub, Int.reduceEq, Int.reduceLT, Int.reduceLE, Int.reduceNeg, Int.reduceAdd, Int.reduceSub, Int.reduceMul, Nat.reduceLeDiff, Int.reduceToNat, b0, hm, s0, b1, b2, b3, cell_h, cellO_cells, h0, Nat.sub_zero, k1]) | ((repeat ((fail_if_success with_reducible refine hK _ _ ?_); clear hK K)); (with_reducible refine hK _ _ ?_); clear hK K))))
    rw [e]
    exact ⟨k2, k3⟩
  · have b0 : ¬ (0 : Int) < (s.length : Int) := by omega
    have e : s.dropLast = s := by rw [List.eq_nil_of_length_eq_zero (by omega : s.length = 0)]; rfl
    ((repeat simp only [push_cast, Nat.reduceBEq, Nat.reduceLT, Nat.reduceEqDiff, reduceIte, reduceCtorEq, Nat.reduceMul, Nat.reduceAdd, Nat.reduceSub, Int.reduceEq, Int.reduceLT, Int.reduceLE, Int.reduceNeg, Int.reduceAdd, Int.reduceSub, Int.reduceMul, Nat.reduceLeDiff, Int.reduceToNat, b0]); (repeat (first | (with_reducible first | (refine hK _ _ ?_; clear hK K) | refine (show ∀ σ' w', _ → K σ' w' from by assumption) _ _ ?_ | refine W_seq_k fun K hK => ?_ | refine W_block_k fun K hK => ?_ | refine W_skip ?_ | refine W_ret ?_) | ((first | ((with_reducible refine W_id ?_); refine W_reg (by decide) (by rfl) ?_) | (with_reducible first | refine W_cond ?_ | refine hZ _ _ ?_ | refine W_exit ?_ | refine Wo_id ?_)); repeat1' simp only [push_cast, Nat.reduceBEq, Nat.reduceLT, Nat.reduceEqDiff, reduceIte, reduceCtorEq, Nat.reduceMul, Nat.reduceAdd, Nat.reduceSub, Int.reduceEq, Int.reduceLT, Int.reduceLE, Int.reduceNeg, Int.reduceAdd, Int.reduceSub, Int.reduceMul, Nat.reduceLeDiff, Int.reduceToNat, b0]) | ((repeat ((fail_if_success with_reducible refine hK _ _ ?_); clear hK K)); (with_reducible refine hK _ _ ?_); clear hK K))))
    rw [e]
    exact ⟨h, Upd.refl _ _⟩
end
end Go.Proofs.YtkafpameheohdaaDoor
end
section
set_option linter.unusedSimpArgs false
set_option linter.unusedVariables false
namespace Go.Vk
open Go
def untS (s : List OpS) (l : List ByteArray) : List OpS × Int := if lastB (fun k => htmlS (s.getD k zS) l) s.length < 0 then (s, 4) else (s.take (lastB (fun k => htmlS (s.getD k zS) l) s.length).toNat, 0)
/-- how many are left when they go from the top, as long as they are so -/
def dropK (p : OpS → Bool) (s : List OpS) : Nat → Nat
  | 0 => 0
  | k + 1 => if p (s.getD k zS) = true then dropK p s k else k + 1
def goP (pn : ByteArray → Bool) (o : OpS) : Bool := decide (o.space = 0) && pn o.name
def dropS (pn : ByteArray → Bool) (s : List OpS) : List OpS := s.take (dropK (goP pn) s s.length)
def butN (but x : ByteArray) : Bool := !decide (x = but) && impN x
theorem vc_str (s : ByteArray) : (Value.string s).cells = #[.string s] := rfl
theorem vc_int (k : IntKind) (n : Int) : (Value.int k n).cells = #[.int k n] := rfl
theorem vc_ptr (a : Option Addr) : (Value.pointer a).cells = #[.pointer a] := rfl
theorem vc_sl (a : Option Addr) (n c : Nat) : (Value.slice a n c).cells = #[.slice a n c] := rfl
theorem StAt.out2 {w0 w w1 : World} {Q : Nat → Prop} {ps pa : Nat} {L : List Nd} {s : List OpS} (h : StAt w0 w Q ps pa L s) (hu : Upd (AF w0 Q) w w1) : Ext w0 w1 := Upd.trans h.out hu fun b hb hf => by have := hf.1; omega
theorem StAt.less {w0 w : World} {Q Q' : Nat → Prop} {ps pa : Nat} {L : List Nd} {s : List OpS} (h : StAt w0 w Q ps pa L s) (hq : ∀ b, Q' b → Q b) : StAt w0 w Q' ps pa L s := h.app (Ext.refl w) (fun _ _ h => h.elim) fun b hb => .inl (hq b hb)
end Go.Vk
namespace Go.Proofs.YtkafpameheohdaaDoor
open Go Go.Vk
set_option maxHeartbeats 40000000
section
variable {w0 w : World} {Q : Nat → Prop} {ps pa : Nat} {L : List Nd} {s : List OpS}
theorem suntil_c (h : StAt w0 w Q ps pa L s) (hs : s.length < 10000) {nv : Value} {l : List ByteArray} (hn : RdAt w 1 nv (strCells l)) (hl : l.length < 1000000000) : Gives Tryd.prog 19 #[.pointer (some ⟨ps, 0, none⟩), nv] w fun v w' => v = .int .i64 (untS s l).2 ∧ StAt w0 w' Q ps pa L (untS s l).1 ∧ Upd (AF w0 Q) w w' := by
  obtain ⟨sv, bo, hF, hA, hpl, hbo, hQ⟩ := id h
  have hQl : ∀ b, Q b → b < w.heap.size := fun b hb => hA.low b (.inl hb)
  have h0 := hF.head
  have s0 : inI64 ((s.length : Int) - 1) := by unfold inI64; omega
  obtain ⟨a0, c0, e0, hc0⟩ := ops_len hF.sl
  subst e0
  refine Gives.of_W Tryd.call19 Tryd.func19 rfl Tryd.ntmps19 (by simp) ?_; intro Z hZ
  (repeat (first | (with_reducible first | (refine hK _ _ ?_; clear hK K) | refine (show ∀ σ' w', _ → K σ' w' from by assumption) _ _ ?_ | refine W_seq_k fun K hK => ?_ | refine W_block_k fun K hK => ?_ | refine W_skip ?_ | refine W_ret ?_) | ((first | ((with_reducible refine W_id ?_); refine W_reg (by decide) (by rfl) ?_) | (with_reducible first | refine W_cond ?_ | refine hZ _ _ ?_ | refine W_exit ?_ | refine Wo_id ?_)); repeat1' simp only [push_cast, Nat.reduceBEq, Nat.reduceLT, Nat.reduceEqDiff, reduceIte, reduceCtorEq, Nat.reduceMul, Nat.reduceAdd, Nat.reduceSub, Int.reduceEq, Int.reduceLT, Int.reduceLE, Int.reduceNeg, Int.reduceAdd, Int.reduceSub, Int.reduceMul, Nat.reduceLeDiff, Int.reduceToNat]) | ((repeat ((fail_if_success with_reducible refine hK _ _ ?_); clear hK K)); (with_reducible refine hK _ _ ?_); clear hK K)))
  refine (snone_c hF).mono ?_
  intro v w' ⟨hv, hw⟩
  subst hv; subst w'
  ((repeat simp only [push_cast, Nat.reduceBEq, Nat.reduceLT, Nat.reduceEqDiff, reduceIte, reduceCtorEq, Nat.reduceMul, Nat.reduceAdd, Nat.reduceSub, Int.reduceEq, Int.reduceLT, Int.reduceLE, Int.reduceNeg, Int.reduceAdd, Int.reduceSub, Int.reduceMul, Nat.reduceLeDiff, Int.reduceToNat, s0, cell_h, cellO_cells, h0]); (repeat (first | (with_reducible first | (refine hK _ _ ?_; clear hK K) | refine (show ∀ σ' w', _ → K σ' w' from by assumption) _ _ ?_ | refine W_seq_k fun K hK => ?_ | refine W_block_k fun K hK => ?_ | refine W_skip ?_ | refine W_ret ?_) | ((first | ((with_reducible refine W_id ?_); refine W_reg (by decide) (by rfl) ?_) | (with_reducible first | refine W_cond ?_ | refine hZ _ _ ?_ | refine W_exit ?_ | refine Wo_id ?_)); repeat1' simp only [push_cast, Nat.reduceBEq, Nat.reduceLT, Nat.reduceEqDiff, reduceIte, reduceCtorEq, Nat.reduceMul, Nat.reduceAdd, Nat.reduceSub, Int.reduceEq, Int.reduceLT, Int.reduceLE, Int.reduceNeg, Int.reduceAdd, Int.reduceSub, Int.reduceMul, Nat.reduceLeDiff, Int.reduceToNat, s0, cell_h, cellO_cells, h0]) | ((repeat ((fail_if_success with_reducible refine hK _ _ ?_); clear hK K)); (with_reducible refine hK _ _ ?_); clear hK K))))
  refine W_loop (S := Nat) (fun k => [(0, .pointer (some ⟨ps, 0, none⟩)), (1, nv), (4, .int .i64 0), (5, .int .i64 ((k : Int) - 1))])
    (fun k w2 => k ≤ s.length ∧ lastB (fun k => htmlS (s.getD k zS) l) s.length = lastB (fun k => htmlS (s.getD k zS) l) k ∧ Ext w w2) (fun k => k) s.length ?_ ?_ ?_
  · (repeat simp only [push_cast, Nat.reduceBEq, Nat.reduceLT, Nat.reduceEqDiff, reduceIte, reduceCtorEq, Nat.reduceMul, Nat.reduceAdd, Nat.reduceSub, Int.reduceEq, Int.reduceLT, Int.reduceLE, Int.reduceNeg, Int.reduceAdd, Int.reduceSub, Int.reduceMul, Nat.reduceLeDiff, Int.reduceToNat])
  · exact ⟨Nat.le_refl _, rfl, Ext.refl _⟩
  rintro k w2 ⟨hk, he, hx⟩
  have hF2 := hF.ext hx
  have h02 := hF2.head
  cases k with
  | zero =>
    have e0 : (((0 : Nat) : Int) - 1) = -1 := rfl
    rw [e0]
    have b0 : ¬ (0 : Int) ≤ -1 := by omega
    (repeat (first | (with_reducible first | (refine hK _ _ ?_; clear hK K) | refine (show ∀ σ' w', _ → K σ' w' from by assumption) _ _ ?_ | refine W_seq_k fun K hK => ?_ | refine W_block_k fun K hK => ?_ | refine W_skip ?_ | refine W_ret ?_) | ((first | ((with_reducible refine W_id ?_); refine W_reg (by decide) (by rfl) ?_) | (with_reducible first | refine W_cond ?_ | refine hZ _ _ ?_ | refine W_exit ?_ | refine Wo_id ?_)); repeat1' simp only [push_cast, Nat.reduceBEq, Nat.reduceLT, Nat.reduceEqDiff, reduceIte, reduceCtorEq, Nat.reduceMul, Nat.reduceAdd, Nat.reduceSub, Int.reduceEq, Int.reduceLT, Int.reduceLE, Int.reduceNeg, Int.reduceAdd, Int.reduceSub, Int.reduceMul, Nat.reduceLeDiff, Int.reduceToNat, b0]) | ((repeat ((fail_if_success with_reducible refine hK _ _ ?_); clear hK K)); (with_reducible refine hK _ _ ?_); clear hK K)))
    have : untS s l = (s, 4) := by unfold untS; rw [he, lastB, if_pos (by decide)]
    rw [this]
    exact ⟨rfl, h.pass hx, hx.upd⟩
  | succ k =>
    have e0 : (((k + 1 : Nat) : Int) - 1) = k := by omega
    rw [e0]
    rw [lastB] at he
    have b2 : inI64 ((k : Int) - 1) := by unfold inI64; omega
    have b0 : (0 : Int) ≤ (k : Int) := by omega
    have hkl : k < s.length := by omega
    have b3 : (k : Int) < (s.length : Int) := by omega
    obtain ⟨y, hy⟩ : ∃ y, s[k]? = some y := ⟨_, List.getElem?_eq_getElem hkl⟩
    have hgd : s.getD k zS = y := by simp [List.getD, hy]
    rw [hgd] at he
    obtain ⟨b, o, c, e1, hbo1, c1, c2, c3⟩ := ops_cell hF2.sl hy
    cases e1
    (repeat (first | (with_reducible first | (refine hK _ _ ?_; clear hK K) | refine (show ∀ σ' w', _ → K σ' w' from by assumption) _ _ ?_ | refine W_seq_k fun K hK => ?_ | refine W_block_k fun K hK => ?_ | refine W_skip ?_ | refine W_ret ?_) | ((first | ((with_reducible refine W_id ?_); refine W_reg (by decide) (by rfl) ?_) | (with_reducible first | refine W_cond ?_ | refine hZ _ _ ?_ | refine W_exit ?_ | refine Wo_id ?_)); repeat1' simp only [push_cast, Nat.reduceBEq, Nat.reduceLT, Nat.reduceEqDiff, reduceIte, reduceCtorEq, Nat.reduceMul, Nat.reduceAdd, Nat.reduceSub, Int.reduceEq, Int.reduceLT, Int.reduceLE, Int.reduceNeg, Int.reduceAdd, Int.reduceSub, Int.reduceMul, Nat.reduceLeDiff, Int.reduceToNat, b0, b3, cell_h, cellO_cells, h02, c1, c2, c3]) | ((repeat ((fail_if_success with_reducible refine hK _ _ ?_); clear hK K)); (with_reducible refine hK _ _ ?_); clear hK K)))
    refine (html_c (hn.ext hx) hl y).mono ?_
    rintro v w3 ⟨rfl, hx3⟩
    have hF3 := hF2.ext hx3
    have h03 := hF3.head
    have hx03 := hx.trans hx3
    cases hh : htmlS y l
    · rw [hh, if_neg (by decide)] at he
      ((repeat simp only [push_cast, Nat.reduceBEq, Nat.reduceLT, Nat.reduceEqDiff, reduceIte, reduceCtorEq, Nat.reduceMul, Nat.reduceAdd, Nat.reduceSub, Int.reduceEq, Int.reduceLT, Int.reduceLE, Int.reduceNeg, Int.reduceAdd, Int.reduceSub, Int.reduceMul, Nat.reduceLeDiff, Int.reduceToNat, b2]); (repeat (first | (with_reducible first | (refine hK _ _ ?_; clear hK K) | refine (show ∀ σ' w', _ → K σ' w' from by assumption) _ _ ?_ | refine W_seq_k fun K hK => ?_ | refine W_block_k fun K hK => ?_ | refine W_skip ?_ | refine W_ret ?_) | ((first | ((with_reducible refine W_id ?_); refine W_reg (by decide) (by rfl) ?_) | (with_reducible first | refine W_cond ?_ | refine hZ _ _ ?_ | refine W_exit ?_ | refine Wo_id ?_)); repeat1' simp only [push_cast, Nat.reduceBEq, Nat.reduceLT, Nat.reduceEqDiff, reduceIte, reduceCtorEq, Nat.reduceMul, Nat.reduceAdd, Nat.reduceSub, Int.reduceEq, Int.reduceLT, Int.reduceLE, Int.reduceNeg, Int.reduceAdd, Int.reduceSub, Int.reduceMul, Nat.reduceLeDiff, Int.reduceToNat, b2]) | ((repeat ((fail_if_success with_reducible refine hK _ _ ?_); clear hK K)); (with_reducible refine hK _ _ ?_); clear hK K))))
      refine ⟨k, by omega, ?_⟩
      (repeat simp only [push_cast, Nat.reduceBEq, Nat.reduceLT, Nat.reduceEqDiff, reduceIte, reduceCtorEq, Nat.reduceMul, Nat.reduceAdd, Nat.reduceSub, Int.reduceEq, Int.reduceLT, Int.reduceLE, Int.reduceNeg, Int.reduceAdd, Int.reduceSub, Int.reduceMul, Nat.reduceLeDiff, Int.reduceToNat])
      exact ⟨by omega, he, hx03⟩
    · rw [hh, if_pos rfl] at he
      have eU : untS s l = (s.take k, 0) := by unfold untS; rw [he, if_neg (by omega)]; rfl
      have x1 := hF3.sl.partW (l := 0) (k := k) (m := c0) (by omega) (by omega) (by omega) (by omega)
      simp only [Nat.zero_mul, Nat.sub_zero, List.drop_zero, opCells_take] at x1
      obtain ⟨k1, k2, k3⟩ := st_put hF3 (hA.pass hx03) hpl hbo hQ (fun b hb => by have := hQl b hb; have := hx03.alike.size; omega) x1 (Upd.refl _ _) (fun b hb => .inl hb)
      have b4 : (k : Int) ≤ (c0 : Int) := by omega
      have b5 : (0 : Int) ≤ (c0 : Int) := by omega
      ((repeat simp only [push_cast, Nat.reduceBEq, Nat.reduceLT, Nat.reduceEqDiff, reduceIte, reduceCtorEq, Nat.reduceMul, Nat.reduceAdd, Nat.reduceSub, Int.reduceEq, Int.reduceLT, Int.reduceLE, Int.reduceNeg, Int.reduceAdd, Int.reduceSub, Int.reduceMul, Nat.reduceLeDiff, Int.reduceToNat, b0, b4, b5, cell_h, cellO_cells, h03, k1, Nat.sub_zero]); (repeat (first | (with_reducible first | (refine hK _ _ ?_; clear hK K) | refine (show ∀ σ' w', _ → K σ' w' from by assumption) _ _ ?_ | refine W_seq_k fun K hK => ?_ | refine W_block_k fun K hK => ?_ | refine W_skip ?_ | refine W_ret ?_) | ((first | ((with_reducible refine W_id ?_); refine W_reg (by decide) (by rfl) ?_) | (with_reducible first | refine W_cond ?_ | refine hZ _ _ ?_ | refine W_exit ?_ | refine Wo_id ?_)); repeat1' simp only [push_cast, Nat.reduceBEq, Nat.reduceLT, Nat.reduceEqDiff, reduceIte, reduceCtorEq, Nat.reduceMul, Nat.reduceAdd, Nat.reduceSub, Int.reduceEq, Int.reduceLT, Int.reduceLE, Int.reduceNeg, Int.reduceAdd, Int.reduceSub, Int.reduceMul, Nat.reduceLeDiff, Int.reduceToNat, b0, b4, b5, cell_h, cellO_cells, h03, k1, Nat.sub_zero]) | ((repeat ((fail_if_success with_reducible refine hK _ _ ?_); clear hK K)); (with_reducible refine hK _ _ ?_); clear hK K))))
      rw [eU]
      exact ⟨rfl, k2, Upd.trans hx03.upd k3 fun _ _ h => h⟩
theorem sdrop_c (h : StAt w0 w Q ps pa L s) (hs : s.length < 10000) {f : FuncId} {first captured : Array Value} {pn : ByteArray → Bool}
    (hso : ∀ o ∈ s, ∀ w1, Upd (AF w0 Q) w w1 → Gives Tryd.prog f (first.toList ++ [Value.string o.name] ++ captured.toList).toArray w1 fun v w' => v = .bool (pn o.name) ∧ Ext w1 w') :
    Gives Tryd.prog 44 #[.pointer (some ⟨ps, 0, none⟩), .func (.func f) first captured] w fun v w' => StAt w0 w' Q ps pa L (dropS pn s) ∧ Upd (AF w0 Q) w w' := by
  obtain ⟨sv, bo, hF, hA, hpl, hbo, hQ⟩ := id h
  have s0 : inI64 ((s.length : Int) - 1) := by unfold inI64; omega
  have hQl0 : ∀ b, Q b → b < w.heap.size := fun b hb => hA.low b (.inl hb)
  refine Gives.of_W Tryd.call44 Tryd.func44 rfl Tryd.ntmps44 (by simp) ?_; intro Z hZ
  (repeat (first | (with_reducible first | (refine hK _ _ ?_; clear hK K) | refine (show ∀ σ' w', _ → K σ' w' from by assumption) _ _ ?_ | refine W_seq_k fun K hK => ?_ | refine W_block_k fun K hK => ?_ | refine W_skip ?_ | refine W_ret ?_) | ((first | ((with_reducible refine W_id ?_); refine W_reg (by decide) (by rfl) ?_) | (with_reducible first | refine W_cond ?_ | refine hZ _ _ ?_ | refine W_exit ?_ | refine Wo_id ?_)); repeat1' simp only [push_cast, Nat.reduceBEq, Nat.reduceLT, Nat.reduceEqDiff, reduceIte, reduceCtorEq, Nat.reduceMul, Nat.reduceAdd, Nat.reduceSub, Int.reduceEq, Int.reduceLT, Int.reduceLE, Int.reduceNeg, Int.reduceAdd, Int.reduceSub, Int.reduceMul, Nat.reduceLeDiff, Int.reduceToNat]) | ((repeat ((fail_if_success with_reducible refine hK _ _ ?_); clear hK K)); (with_reducible refine hK _ _ ?_); clear hK K)))
  refine (slen_c hF).mono ?_
  intro v w' ⟨hv, hw⟩
  subst hv; subst w'
  ((repeat simp only [push_cast, Nat.reduceBEq, Nat.reduceLT, Nat.reduceEqDiff, reduceIte, reduceCtorEq, Nat.reduceMul, Nat.reduceAdd, Nat.reduceSub, Int.reduceEq, Int.reduceLT, Int.reduceLE, Int.reduceNeg, Int.reduceAdd, Int.reduceSub, Int.reduceMul, Nat.reduceLeDiff, Int.reduceToNat, s0]); (repeat (first | (with_reducible first | (refine hK _ _ ?_; clear hK K) | refine (show ∀ σ' w', _ → K σ' w' from by assumption) _ _ ?_ | refine W_seq_k fun K hK => ?_ | refine W_block_k fun K hK => ?_ | refine W_skip ?_ | refine W_ret ?_) | ((first | ((with_reducible refine W_id ?_); refine W_reg (by decide) (by rfl) ?_) | (with_reducible first | refine W_cond ?_ | refine hZ _ _ ?_ | refine W_exit ?_ | refine Wo_id ?_)); repeat1' simp only [push_cast, Nat.reduceBEq, Nat.reduceLT, Nat.reduceEqDiff, reduceIte, reduceCtorEq, Nat.reduceMul, Nat.reduceAdd, Nat.reduceSub, Int.reduceEq, Int.reduceLT, Int.reduceLE, Int.reduceNeg, Int.reduceAdd, Int.reduceSub, Int.reduceMul, Nat.reduceLeDiff, Int.reduceToNat, s0]) | ((repeat ((fail_if_success with_reducible refine hK _ _ ?_); clear hK K)); (with_reducible refine hK _ _ ?_); clear hK K))))
  refine W_loop (S := Nat) (fun k => [(0, .pointer (some ⟨ps, 0, none⟩)), (1, .func (.func f) first captured), (4, .int .i64 ((k : Int) - 1))])
    (fun k w2 => k ≤ s.length ∧ dropK (goP pn) s s.length = dropK (goP pn) s k ∧ StAt w0 w2 Q ps pa L (s.take k) ∧ Upd (AF w0 Q) w w2) (fun k => k) s.length ?_ ?_ ?_
  · (repeat simp only [push_cast, Nat.reduceBEq, Nat.reduceLT, Nat.reduceEqDiff, reduceIte, reduceCtorEq, Nat.reduceMul, Nat.reduceAdd, Nat.reduceSub, Int.reduceEq, Int.reduceLT, Int.reduceLE, Int.reduceNeg, Int.reduceAdd, Int.reduceSub, Int.reduceMul, Nat.reduceLeDiff, Int.reduceToNat])
  · exact ⟨Nat.le_refl _, rfl, by rw [List.take_length]; exact h, Upd.refl _ _⟩
  rintro k w2 ⟨hk, he, h2, hu⟩
  cases k with
  | zero =>
    have e0 : (((0 : Nat) : Int) - 1) = -1 := rfl
    rw [e0]
    have b0 : ¬ (0 : Int) ≤ -1 := by omega
    (repeat (first | (with_reducible first | (refine hK _ _ ?_; clear hK K) | refine (show ∀ σ' w', _ → K σ' w' from by assumption) _ _ ?_ | refine W_seq_k fun K hK => ?_ | refine W_block_k fun K hK => ?_ | refine W_skip ?_ | refine W_ret ?_) | ((first | ((with_reducible refine W_id ?_); refine W_reg (by decide) (by rfl) ?_) | (with_reducible first | refine W_cond ?_ | refine hZ _ _ ?_ | refine W_exit ?_ | refine Wo_id ?_)); repeat1' simp only [push_cast, Nat.reduceBEq, Nat.reduceLT, Nat.reduceEqDiff, reduceIte, reduceCtorEq, Nat.reduceMul, Nat.reduceAdd, Nat.reduceSub, Int.reduceEq, Int.reduceLT, Int.reduceLE, Int.reduceNeg, Int.reduceAdd, Int.reduceSub, Int.reduceMul, Nat.reduceLeDiff, Int.reduceToNat, b0]) | ((repeat ((fail_if_success with_reducible refine hK _ _ ?_); clear hK K)); (with_reducible refine hK _ _ ?_); clear hK K)))
    unfold dropS
    rw [he, dropK]
    exact ⟨h2, hu⟩
  | succ k =>
    have e0 : (((k + 1 : Nat) : Int) - 1) = k := by omega
    rw [e0]
    rw [dropK] at he
    have b2 : inI64 ((k : Int) - 1) := by unfold inI64; omega
    have b0 : (0 : Int) ≤ (k : Int) := by omega
    have hkl : k < s.length := by omega
    obtain ⟨y, hy⟩ : ∃ y, s[k]? = some y := ⟨_, List.getElem?_eq_getElem hkl⟩
    have hgd : s.getD k zS = y := by simp [List.getD, hy]
    rw [hgd] at he
    have hy1 : (s.take (k + 1))[k]? = some y := by rw [List.getElem?_take, if_pos (by omega)]; exact hy
    have hlen : (s.take (k + 1)).length = k + 1 := by rw [List.length_take]; omega
    obtain ⟨sv2, bo2, hF2, hA2, _, hbo2, _⟩ := id h2
    have h02 := hF2.head
    obtain ⟨b, o, c, rfl, hbo1, c1, c2, c3⟩ := ops_cell hF2.sl hy1
    obtain ⟨_, _, e2, hc⟩ := ops_len hF2.sl
    cases e2
    have b3 : (k : Int) < ((s.take (k + 1)).length : Int) := by omega
    by_cases hsp : y.space = 0
    · (repeat (first | (with_reducible first | (refine hK _ _ ?_; clear hK K) | refine (show ∀ σ' w', _ → K σ' w' from by assumption) _ _ ?_ | refine W_seq_k fun K hK => ?_ | refine W_block_k fun K hK => ?_ | refine W_skip ?_ | refine W_ret ?_) | ((first | ((with_reducible refine W_id ?_); refine W_reg (by decide) (by rfl) ?_) | (with_reducible first | refine W_cond ?_ | refine hZ _ _ ?_ | refine W_exit ?_ | refine Wo_id ?_)); repeat1' simp only [push_cast, Nat.reduceBEq, Nat.reduceLT, Nat.reduceEqDiff, reduceIte, reduceCtorEq, Nat.reduceMul, Nat.reduceAdd, Nat.reduceSub, Int.reduceEq, Int.reduceLT, Int.reduceLE, Int.reduceNeg, Int.reduceAdd, Int.reduceSub, Int.reduceMul, Nat.reduceLeDiff, Int.reduceToNat, b0, b3, cell_h, cellO_cells, h02, c1, c2, c3, hsp, eq_self]) | ((repeat ((fail_if_success with_reducible refine hK _ _ ?_); clear hK K)); (with_reducible refine hK _ _ ?_); clear hK K)))
      refine (hso y (List.mem_of_getElem? hy) w2 hu).mono ?_
      rintro v w3 ⟨rfl, hx3⟩
      have h3 := h2.pass hx3
      have hu3 := Upd.trans hu hx3.upd fun _ _ h => h
      cases hp : pn y.name
      · rw [if_neg (by unfold goP; simp [hp])] at he
        ((repeat simp only [push_cast, Nat.reduceBEq, Nat.reduceLT, Nat.reduceEqDiff, reduceIte, reduceCtorEq, Nat.reduceMul, Nat.reduceAdd, Nat.reduceSub, Int.reduceEq, Int.reduceLT, Int.reduceLE, Int.reduceNeg, Int.reduceAdd, Int.reduceSub, Int.reduceMul, Nat.reduceLeDiff, Int.reduceToNat]); (repeat (first | (with_reducible first | (refine hK _ _ ?_; clear hK K) | refine (show ∀ σ' w', _ → K σ' w' from by assumption) _ _ ?_ | refine W_seq_k fun K hK => ?_ | refine W_block_k fun K hK => ?_ | refine W_skip ?_ | refine W_ret ?_) | ((first | ((with_reducible refine W_id ?_); refine W_reg (by decide) (by rfl) ?_) | (with_reducible first | refine W_cond ?_ | refine hZ _ _ ?_ | refine W_exit ?_ | refine Wo_id ?_)); repeat1' simp only [push_cast, Nat.reduceBEq, Nat.reduceLT, Nat.reduceEqDiff, reduceIte, reduceCtorEq, Nat.reduceMul, Nat.reduceAdd, Nat.reduceSub, Int.reduceEq, Int.reduceLT, Int.reduceLE, Int.reduceNeg, Int.reduceAdd, Int.reduceSub, Int.reduceMul, Nat.reduceLeDiff, Int.reduceToNat]) | ((repeat ((fail_if_success with_reducible refine hK _ _ ?_); clear hK K)); (with_reducible refine hK _ _ ?_); clear hK K))))
        unfold dropS
        rw [he]
        exact ⟨h3, hu3⟩
      · rw [if_pos (by unfold goP; simp [hp, hsp])] at he
        have hF3 := hF2.ext hx3
        have h03 := hF3.head
        have x1 := hF3.sl.partW (l := 0) (k := k) (m := c) (by omega) (by omega) (by omega) (by omega)
        simp only [Nat.zero_mul, Nat.sub_zero, List.drop_zero, opCells_take, List.take_take, Nat.min_eq_left (Nat.le_succ k)] at x1
        obtain ⟨k1, k2, k3⟩ := st_put hF3 (hA2.pass hx3) hpl hbo2 hQ (fun b hb => by have := hQl0 b hb; have := hu3.alike.size; omega) x1 (Upd.refl _ _) (fun b hb => .inl hb)
        have b4 : (k : Int) ≤ (c : Int) := by omega
        have b5 : (0 : Int) ≤ (c : Int) := by omega
        ((repeat simp only [push_cast, Nat.reduceBEq, Nat.reduceLT, Nat.reduceEqDiff, reduceIte, reduceCtorEq, Nat.reduceMul, Nat.reduceAdd, Nat.reduceSub, Int.reduceEq, Int.reduceLT, Int.reduceLE, Int.reduceNeg, Int.reduceAdd, Int.reduceSub, Int.reduceMul, Nat.reduceLeDiff, Int.reduceToNat, b0, b2, b4, b5, cell_h, cellO_cells, h03, k1, Nat.sub_zero]); (repeat (first | (with_reducible first | (refine hK _ _ ?_; clear hK K) | refine (show ∀ σ' w', _ → K σ' w' from by assumption) _ _ ?_ | refine W_seq_k fun K hK => ?_ | refine W_block_k fun K hK => ?_ | refine W_skip ?_ | refine W_ret ?_) | ((first | ((with_reducible refine W_id ?_); refine W_reg (by decide) (by rfl) ?_) | (with_reducible first | refine W_cond ?_ | refine hZ _ _ ?_ | refine W_exit ?_ | refine Wo_id ?_)); repeat1' simp only [push_cast, Nat.reduceBEq, Nat.reduceLT, Nat.reduceEqDiff, reduceIte, reduceCtorEq, Nat.reduceMul, Nat.reduceAdd, Nat.reduceSub, Int.reduceEq, Int.reduceLT, Int.reduceLE, Int.reduceNeg, Int.reduceAdd, Int.reduceSub, Int.reduceMul, Nat.reduceLeDiff, Int.reduceToNat, b0, b2, b4, b5, cell_h, cellO_cells, h03, k1, Nat.sub_zero]) | ((repeat ((fail_if_success with_reducible refine hK _ _ ?_); clear hK K)); (with_reducible refine hK _ _ ?_); clear hK K))))
        refine ⟨k, by omega, ?_⟩
        (repeat simp only [push_cast, Nat.reduceBEq, Nat.reduceLT, Nat.reduceEqDiff, reduceIte, reduceCtorEq, Nat.reduceMul, Nat.reduceAdd, Nat.reduceSub, Int.reduceEq, Int.reduceLT, Int.reduceLE, Int.reduceNeg, Int.reduceAdd, Int.reduceSub, Int.reduceMul, Nat.reduceLeDiff, Int.reduceToNat])
        exact ⟨by omega, he, k2, Upd.trans hu3 k3 fun _ _ h => h⟩
    · rw [if_neg (by unfold goP; simp [hsp])] at he
      (repeat (first | (with_reducible first | (refine hK _ _ ?_; clear hK K) | refine (show ∀ σ' w', _ → K σ' w' from by assumption) _ _ ?_ | refine W_seq_k fun K hK => ?_ | refine W_block_k fun K hK => ?_ | refine W_skip ?_ | refine W_ret ?_) | ((first | ((with_reducible refine W_id ?_); refine W_reg (by decide) (by rfl) ?_) | (with_reducible first | refine W_cond ?_ | refine hZ _ _ ?_ | refine W_exit ?_ | refine Wo_id ?_)); repeat1' simp only [push_cast, Nat.reduceBEq, Nat.reduceLT, Nat.reduceEqDiff, reduceIte, reduceCtorEq, Nat.reduceMul, Nat.reduceAdd, Nat.reduceSub, Int.reduceEq, Int.reduceLT, Int.reduceLE, Int.reduceNeg, Int.reduceAdd, Int.reduceSub, Int.reduceMul, Nat.reduceLeDiff, Int.reduceToNat, b0, b3, cell_h, cellO_cells, h02, c1, c2, c3, hsp]) | ((repeat ((fail_if_success with_reducible refine hK _ _ ?_); clear hK K)); (with_reducible refine hK _ _ ?_); clear hK K)))
      unfold dropS
      rw [he]
      exact ⟨h2, hu⟩
theorem sthor_c (h : StAt w0 w Q ps pa L s) (hs : s.length < 10000) (hm : MaxAt w0) (hz : ∀ o ∈ s, o.name.size < 4294967281) : Gives Tryd.prog 21 #[.pointer (some ⟨ps, 0, none⟩)] w fun v w' => StAt w0 w' Q ps pa L (dropS thoN s) ∧ Upd (AF w0 Q) w w' := by
  refine Gives.of_W Tryd.call21 Tryd.func21 rfl Tryd.ntmps21 (by simp) ?_; intro Z hZ
  (repeat (first | (with_reducible first | (refine hK _ _ ?_; clear hK K) | refine (show ∀ σ' w', _ → K σ' w' from by assumption) _ _ ?_ | refine W_seq_k fun K hK => ?_ | refine W_block_k fun K hK => ?_ | refine W_skip ?_ | refine W_ret ?_) | ((first | ((with_reducible refine W_id ?_); refine W_reg (by decide) (by rfl) ?_) | (with_reducible first | refine W_cond ?_ | refine hZ _ _ ?_ | refine W_exit ?_ | refine Wo_id ?_)); repeat1' simp only [push_cast, Nat.reduceBEq, Nat.reduceLT, Nat.reduceEqDiff, reduceIte, reduceCtorEq, Nat.reduceMul, Nat.reduceAdd, Nat.reduceSub, Int.reduceEq, Int.reduceLT, Int.reduceLE, Int.reduceNeg, Int.reduceAdd, Int.reduceSub, Int.reduceMul, Nat.reduceLeDiff, Int.reduceToNat]) | ((repeat ((fail_if_success with_reducible refine hK _ _ ?_); clear hK K)); (with_reducible refine hK _ _ ?_); clear hK K)))
  refine (sdrop_c h hs (first := #[]) (captured := #[]) (pn := thoN) fun o ho w1 hu => ?_).mono ?_
  · refine (thorough_c o.name ?_ (hz o ho)).mono ?_
    · exact hm.ext (h.out2 hu)
    · rintro v w' ⟨rfl, rfl⟩
      exact ⟨rfl, Ext.refl _⟩
  rintro v w2 ⟨h2, hx⟩
  ((repeat simp only [push_cast, Nat.reduceBEq, Nat.reduceLT, Nat.reduceEqDiff, reduceIte, reduceCtorEq, Nat.reduceMul, Nat.reduceAdd, Nat.reduceSub, Int.reduceEq, Int.reduceLT, Int.reduceLE, Int.reduceNeg, Int.reduceAdd, Int.reduceSub, Int.reduceMul, Nat.reduceLeDiff, Int.reduceToNat]); (repeat (first | (with_reducible first | (refine hK _ _ ?_; clear hK K) | refine (show ∀ σ' w', _ → K σ' w' from by assumption) _ _ ?_ | refine W_seq_k fun K hK => ?_ | refine W_block_k fun K hK => ?_ | refine W_skip ?_ | refine W_ret ?_) | ((first | ((with_reducible refine W_id ?_); refine W_reg (by decide) (by rfl) ?_) | (with_reducible first | refine W_cond ?_ | refine hZ _ _ ?_ | refine W_exit ?_ | refine Wo_id ?_)); repeat1' simp only [push_cast, Nat.reduceBEq, Nat.reduceLT, Nat.reduceEqDiff, reduceIte, reduceCtorEq, Nat.reduceMul, Nat.reduceAdd, Nat.reduceSub, Int.reduceEq, Int.reduceLT, Int.reduceLE, Int.reduceNeg, Int.reduceAdd, Int.reduceSub, Int.reduceMul, Nat.reduceLeDiff, Int.reduceToNat]) | ((repeat ((fail_if_success with_reducible refine hK _ _ ?_); clear hK K)); (with_reducible refine hK _ _ ?_); clear hK K))))
  exact ⟨h2, hx⟩
theorem simp1_c (x but : ByteArray) {px : Nat} (hp : w.heap[px]? = some (.cells #[.string but] 9 (0, 0))) (hm : MaxAt w) (hz : x.size < 4294967281) : Gives Tryd.prog 45 #[.string x, .pointer (some ⟨px, 0, none⟩)] w fun v w' => v = .bool (butN but x) ∧ w' = w := by
  by_cases hxb : x = but
  · subst hxb
    refine Gives.of_W Tryd.call45 Tryd.func45 rfl Tryd.ntmps45 (by simp) ?_; intro Z hZ
    (repeat (first | (with_reducible first | (refine hK _ _ ?_; clear hK K) | refine (show ∀ σ' w', _ → K σ' w' from by assumption) _ _ ?_ | refine W_seq_k fun K hK => ?_ | refine W_block_k fun K hK => ?_ | refine W_skip ?_ | refine W_ret ?_) | ((first | ((with_reducible refine W_id ?_); refine W_reg (by decide) (by rfl) ?_) | (with_reducible first | refine W_cond ?_ | refine hZ _ _ ?_ | refine W_exit ?_ | refine Wo_id ?_)); repeat1' simp only [push_cast, Nat.reduceBEq, Nat.reduceLT, Nat.reduceEqDiff, reduceIte, reduceCtorEq, Nat.reduceMul, Nat.reduceAdd, Nat.reduceSub, Int.reduceEq, Int.reduceLT, Int.reduceLE, Int.reduceNeg, Int.reduceAdd, Int.reduceSub, Int.reduceMul, Nat.reduceLeDiff, Int.reduceToNat, cell_h, hp, cellO_cells, eq_self, not_true_eq_false, decide_true, decide_false]) | ((repeat ((fail_if_success with_reducible refine hK _ _ ?_); clear hK K)); (with_reducible refine hK _ _ ?_); clear hK K)))
    simp [butN]
  · refine Gives.of_W Tryd.call45 Tryd.func45 rfl Tryd.ntmps45 (by simp) ?_; intro Z hZ
    (repeat (first | (with_reducible first | (refine hK _ _ ?_; clear hK K) | refine (show ∀ σ' w', _ → K σ' w' from by assumption) _ _ ?_ | refine W_seq_k fun K hK => ?_ | refine W_block_k fun K hK => ?_ | refine W_skip ?_ | refine W_ret ?_) | ((first | ((with_reducible refine W_id ?_); refine W_reg (by decide) (by rfl) ?_) | (with_reducible first | refine W_cond ?_ | refine hZ _ _ ?_ | refine W_exit ?_ | refine Wo_id ?_)); repeat1' simp only [push_cast, Nat.reduceBEq, Nat.reduceLT, Nat.reduceEqDiff, reduceIte, reduceCtorEq, Nat.reduceMul, Nat.reduceAdd, Nat.reduceSub, Int.reduceEq, Int.reduceLT, Int.reduceLE, Int.reduceNeg, Int.reduceAdd, Int.reduceSub, Int.reduceMul, Nat.reduceLeDiff, Int.reduceToNat, cell_h, hp, cellO_cells, hxb]) | ((repeat ((fail_if_success with_reducible refine hK _ _ ?_); clear hK K)); (with_reducible refine hK _ _ ?_); clear hK K)))
    refine (implied_c x hm hz).mono ?_
    intro v w' ⟨hv, hw⟩
    subst hv; subst w'
    ((repeat simp only [push_cast, Nat.reduceBEq, Nat.reduceLT, Nat.reduceEqDiff, reduceIte, reduceCtorEq, Nat.reduceMul, Nat.reduceAdd, Nat.reduceSub, Int.reduceEq, Int.reduceLT, Int.reduceLE, Int.reduceNeg, Int.reduceAdd, Int.reduceSub, Int.reduceMul, Nat.reduceLeDiff, Int.reduceToNat]); (repeat (first | (with_reducible first | (refine hK _ _ ?_; clear hK K) | refine (show ∀ σ' w', _ → K σ' w' from by assumption) _ _ ?_ | refine W_seq_k fun K hK => ?_ | refine W_block_k fun K hK => ?_ | refine W_skip ?_ | refine W_ret ?_) | ((first | ((with_reducible refine W_id ?_); refine W_reg (by decide) (by rfl) ?_) | (with_reducible first | refine W_cond ?_ | refine hZ _ _ ?_ | refine W_exit ?_ | refine Wo_id ?_)); repeat1' simp only [push_cast, Nat.reduceBEq, Nat.reduceLT, Nat.reduceEqDiff, reduceIte, reduceCtorEq, Nat.reduceMul, Nat.reduceAdd, Nat.reduceSub, Int.reduceEq, Int.reduceLT, Int.reduceLE, Int.reduceNeg, Int.reduceAdd, Int.reduceSub, Int.reduceMul, Nat.reduceLeDiff, Int.reduceToNat]) | ((repeat ((fail_if_success with_reducible refine hK _ _ ?_); clear hK K)); (with_reducible refine hK _ _ ?_); clear hK K))))
    simp [butN, hxb]
theorem simp_c (h : StAt w0 w Q ps pa L s) (hs : s.length < 10000) (hm : MaxAt w0) (hz : ∀ o ∈ s, o.name.size < 4294967281) (but : ByteArray) : Gives Tryd.prog 20 #[.pointer (some ⟨ps, 0, none⟩), .string but] w fun v w' => StAt w0 w' Q ps pa L (dropS (butN but) s) ∧ Upd (AF w0 Q) w w' := by
  have hx := Ext.alloc w (.cells #[.string but] 9)
  have hb : (w.alloc (.cells #[.string but] 9)).heap[w.heap.size]? = some (.cells #[.string but] 9 (0, 0)) := by rw [heap_alloc_h, if_pos rfl]
  have hs1 : (w.alloc (.cells #[.string but] 9)).heap.size = w.heap.size + 1 := size_alloc_h _ _
  have h1 : StAt w0 (w.alloc (.cells #[.string but] 9)) (fun b => Q b ∨ b = w.heap.size) ps pa L s := h.app hx (fun _ _ h => h.elim) fun b hb => by
    rcases hb with hb | hb
    · exact .inl hb
    · exact .inr (by omega)
  have hlt := blk_lt hb
  refine Gives.of_W Tryd.call20 Tryd.func20 rfl Tryd.ntmps20 (by simp) ?_; intro Z hZ
  (repeat (first | (with_reducible first | (refine hK _ _ ?_; clear hK K) | refine (show ∀ σ' w', _ → K σ' w' from by assumption) _ _ ?_ | refine W_seq_k fun K hK => ?_ | refine W_block_k fun K hK => ?_ | refine W_skip ?_ | refine W_ret ?_) | ((first | ((with_reducible refine W_id ?_); refine W_reg (by decide) (by rfl) ?_) | (with_reducible first | refine W_cond ?_ | refine hZ _ _ ?_ | refine W_exit ?_ | refine Wo_id ?_)); repeat1' simp only [push_cast, Nat.reduceBEq, Nat.reduceLT, Nat.reduceEqDiff, reduceIte, reduceCtorEq, Nat.reduceMul, Nat.reduceAdd, Nat.reduceSub, Int.reduceEq, Int.reduceLT, Int.reduceLE, Int.reduceNeg, Int.reduceAdd, Int.reduceSub, Int.reduceMul, Nat.reduceLeDiff, Int.reduceToNat, vc_str]) | ((repeat ((fail_if_success with_reducible refine hK _ _ ?_); clear hK K)); (with_reducible refine hK _ _ ?_); clear hK K)))
  generalize w.alloc (.cells #[.string but] 9) = w1 at *
  refine (sdrop_c h1 hs (first := #[]) (captured := #[.pointer (some ⟨w.heap.size, 0, none⟩)]) (pn := butN but) fun o ho w2 hu => ?_).mono ?_
  · refine (simp1_c o.name but ((hu.same _ hlt fun hf => hf.2 (.inr rfl)).trans hb) (hm.ext (h1.out2 hu)) (hz o ho)).mono ?_
    intro v w' ⟨hv, hw⟩
    subst hv; subst w'
    exact ⟨rfl, Ext.refl _⟩
  rintro v w2 ⟨h2, hu⟩
  ((repeat simp only [push_cast, Nat.reduceBEq, Nat.reduceLT, Nat.reduceEqDiff, reduceIte, reduceCtorEq, Nat.reduceMul, Nat.reduceAdd, Nat.reduceSub, Int.reduceEq, Int.reduceLT, Int.reduceLE, Int.reduceNeg, Int.reduceAdd, Int.reduceSub, Int.reduceMul, Nat.reduceLeDiff, Int.reduceToNat]); (repeat (first | (with_reducible first | (refine hK _ _ ?_; clear hK K) | refine (show ∀ σ' w', _ → K σ' w' from by assumption) _ _ ?_ | refine W_seq_k fun K hK => ?_ | refine W_block_k fun K hK => ?_ | refine W_skip ?_ | refine W_ret ?_) | ((first | ((with_reducible refine W_id ?_); refine W_reg (by decide) (by rfl) ?_) | (with_reducible first | refine W_cond ?_ | refine hZ _ _ ?_ | refine W_exit ?_ | refine Wo_id ?_)); repeat1' simp only [push_cast, Nat.reduceBEq, Nat.reduceLT, Nat.reduceEqDiff, reduceIte, reduceCtorEq, Nat.reduceMul, Nat.reduceAdd, Nat.reduceSub, Int.reduceEq, Int.reduceLT, Int.reduceLE, Int.reduceNeg, Int.reduceAdd, Int.reduceSub, Int.reduceMul, Nat.reduceLeDiff, Int.reduceToNat]) | ((repeat ((fail_if_success with_reducible refine hK _ _ ?_); clear hK K)); (with_reducible refine hK _ _ ?_); clear hK K))))
  exact ⟨h2.less fun b hb => .inl hb, Upd.trans hx.upd hu fun b _ hf => ⟨hf.1, fun hq => hf.2 (.inl hq)⟩⟩
end
end Go.Proofs.YtkafpameheohdaaDoor
end
section
set_option linter.unusedSimpArgs false
set_option linter.unusedVariables false
namespace Go.Vk
open Go
theorem Does.wide {P : Program} {a : Act} {o : Oper} {w : World} {K : Value → World → Prop} {N : Act → World → Prop} {Q : Exit → Act → World → Prop} {m : Nat}
    (h : Does P a.eval o w K) (hn : ∀ v w', K v w' → N (a.put o.dst v) w') : o.wpIn Fence.wide m P a w N Q := by
  refine ⟨fun _ _ => trivial, ?_⟩
  rw [show Fence.wide.round = none from rfl, Oper.semAt_none]
  unfold Does at h
  generalize (execOp a.eval o).run P w = r at h
  cases r with
  | halt x w' => exact h.elim
  | ok n w' =>
    cases n <;> simp only [Oper.uponIn] at h ⊢
    case value v => exact hn _ _ h
    case skip => exact hn _ _ h
    case enter f args =>
      refine ⟨fun hd => (by cases hd), callsIn_wide.2 (h.mono ?_)⟩
      intro e w'' he
      obtain ⟨v, he, hk⟩ := he
      subst he
      exact hn _ _ hk
theorem step_wide {P : Program} {n : Nat} (hn : n ≤ 1000000) {ops : Array Oper} {o : Oper} {σ : Regs} {w : World} {a : Act} (hk : Known n σ a) {N : Act → World → Prop} {Q : Exit → Act → World → Prop} {m : Nat}
    {F : Value → World → Prop}
    (h : match (conv ops o).grd with
      | none => vcOp P o.op o.type σ w F
      | some (g, want) => on (find σ g) fun gv => ∃ b, gdv gv b want ∧ (b = want → vcOp P o.op o.type σ w F) ∧ (b ≠ want → F undef w))
    (hF : ∀ v w', F v w' → N (a.put o.dst v) w') :
    (if Region.wanted o (yielded ops a.tmps) then o.wpIn Fence.wide m P a w N Q else (∀ f, o.about P w a.eval = some f → Fence.wide.fn f) ∧ N (a.put o.dst undef) w) := by
  cases hg : (conv ops o).grd with
  | none =>
    rw [hg] at h
    rw [if_pos (wanted_none (conv_none hg))]
    exact (vcOp_spec hk h).wide hF
  | some gw =>
    obtain ⟨g, want⟩ := gw
    rw [hg] at h
    obtain ⟨gv, hgv, b, hgb, h1, h0⟩ := on_spec h
    have ht := hk.reg g _ hgv
    have hlt : g < n := by
      have := (Array.getElem?_eq_some_iff.1 ht).1
      rw [hk.size] at this; exact this
    obtain ⟨j, hj, hjd⟩ := conv_guard hg (by omega)
    rcases hgb with rfl | ⟨rfl, rfl⟩
    case inr =>
      rw [wanted_undef hj hjd ht]
      rw [if_neg (by simp)]
      exact ⟨fun _ _ => trivial, hF _ _ (h0 (by cases want <;> simp))⟩
    rw [wanted_some hj hjd ht]
    by_cases e : b = want
    · rw [if_pos (by simpa using e)]
      exact (vcOp_spec hk (h1 e)).wide hF
    · rw [if_neg (by simpa using e)]
      exact ⟨fun _ _ => trivial, hF _ _ (h0 e)⟩
theorem Wk_wide {P : Program} {n : Nat} (hn : n ≤ 1000000) {ops : Array Oper} {K : Regs → World → Prop} {Q : Exit → Act → World → Prop} {m : Nat} {rest : List Oper} (hQ : ∀ σ w a, Known n σ a → K σ w → wpListIn Fence.wide m P ops Q rest a w) :
    ∀ (l : List Oper) (σ : Regs) (w : World) (a : Act), Known n σ a → Wk P n (l.map (conv ops)) σ w K → wpListIn Fence.wide m P ops Q (l ++ rest) a w
  | [], σ, w, a, hk, h => hQ σ w a hk h
  | o :: r, σ, w, a, hk, h => by
    obtain ⟨hd, h⟩ := h
    rw [List.cons_append]
    unfold wpListIn
    exact step_wide hn hk (F := fun v w' => Wk P n (r.map (conv ops)) (put σ o.dst v) w' K) h fun v w' hK => Wk_wide hn hQ r _ w' _ (hk.put hd v) hK
/-- a round of a loop over a function: what yield hands back -/
def Yields (P : Program) (l : Nat) (args : List Value) (w : World) (R : Value → World → Prop) : Prop :=
  YieldAt Fence.wide 0 P l args.toArray w fun e w' => ∃ v, e = .returned v ∧ R v w'
theorem Yields.mono {P : Program} {l : Nat} {args : List Value} {w : World} {R R' : Value → World → Prop} (h : Yields P l args w R) (hr : ∀ v w', R v w' → R' v w') : Yields P l args w R' :=
  YieldAt.mono h fun _ _ ⟨v, he, hv⟩ => ⟨v, he, hr v _ hv⟩
/-- a region in which one step calls yield -/
theorem W_yield {P : Program} {n : Nat} {σ : Regs} {w : World} {K : Regs → World → Prop} {X : Outs} (hn : n ≤ 1000000) {id : Nat} (l1 l2 : List Oper) (d : Nat) (c : Call) (t : TypeId) (p : String) (e : Array Edge) (x : Operand) (hc : c.callee = .value x) (hd : d < n)
    (h1 : (l1 ++ ⟨some d, .call c, t, p, e, none⟩ :: l2).all (dLt n) = true) {ops : List Oper} (hops : ops = l1 ++ ⟨some d, .call c, t, p, e, none⟩ :: l2)
    (h : Wo P ops.toArray l1 σ w fun σ' w' => on (evO σ' x) fun fv => onL σ' c.args.toList fun vs => ∃ l, fv = .func (.yield l) #[] #[] ∧ Yields P l vs w' fun v w'' => Wo P ops.toArray l2 (put σ' (some d) v) w'' K) :
    W P n σ w (.region id ops.toArray false) K X := by
  intro a hk
  have hal := h1
  simp only [List.all_append, List.all_cons, Bool.and_eq_true] at hal
  refine wpIn_wide.1 (wpIn_region_list (n := 0) ?_)
  have e0 : ops.toArray.toList = l1 ++ ⟨some d, .call c, t, p, e, none⟩ :: l2 := by rw [List.toList_toArray]; exact hops
  rw [e0]
  rw [← Wo_eq l1 σ w hal.1] at h
  refine Wk_wide hn (m := 0) ?_ l1 σ w a hk h
  intro σ' w' a' hk' hK
  obtain ⟨fv, hfv, h2⟩ := on_spec hK
  obtain ⟨l, hl, hY⟩ := onL_spec hk' h2
  subst hl
  have hx := hk'.ev hfv
  obtain ⟨fn, tmps, assign, body, hy, hR⟩ := hY
  unfold wpListIn
  rw [if_pos (wanted_none rfl)]
  refine ⟨fun _ _ => trivial, ?_⟩
  rw [show Fence.wide.round = none from rfl, Oper.semAt_none]
  have hex : (execOp a'.eval ⟨some d, .call c, t, p, e, none⟩).run P w' = .ok (.round l fn tmps assign body) w' := by
    simp only [execOp, resolve, hc, hx, Deferred.ofValue, Sem.run_bind, Sem.run_pure, Result.andThen_ok, invoke]
    have ea : (#[] ++ Array.map a'.eval c.args : Array Value) = (c.args.toList.map a'.eval).toArray := by
      apply Array.toList_inj.1
      simp
    rw [ea]
    exact hy
  rw [hex]
  refine ⟨fun hd => (by cases hd), RoundIn.mono hR ?_⟩
  intro e2 w2 he
  obtain ⟨v, he, hv⟩ := he
  subst he
  have hv : Wo P ops.toArray l2 (put σ' (some d) v) w2 K := hv
  rw [← Wo_eq l2 _ w2 hal.2.2] at hv
  have := Wk_wide hn (m := 0) (rest := []) (Q := post n K X) (fun σ w a hk h => ⟨σ, hk, h⟩) l2 _ w2 _ (hk'.put (d := some d) hd v) hv
  rwa [List.append_nil] at this
end Go.Vk
end
section
set_option linter.unusedSimpArgs false
set_option linter.unusedVariables false
namespace Go.Vk
open Go Go.RowKit
/-- blocks that are no cells -/
def NC (w : World) (b : Nat) : Prop := ∃ o : Obj, w.heap[b]? = some o ∧ o.isCells = false
/-- whatever is cells lies as it lay -/
def Keep (w w' : World) : Prop := Upd (NC w) w w'
theorem Ext.keep {w w' : World} (h : Ext w w') : Keep w w' := h.upd
theorem Keep.trans {a b c : World} (h : Keep a b) (k : Keep b c) : Keep a c := Upd.trans h k fun i hi ⟨o, h1, h2⟩ => by
  apply Classical.byContradiction
  intro hn
  have e := h.same i hi hn
  exact hn ⟨o, by rw [← e]; exact h1, h2⟩
theorem Keep.blk {w w' : World} (h : Keep w w') {b : Nat} {cs : Array Value} {t : TypeId} {f : Nat × Nat} (hb : w.heap[b]? = some (.cells cs t f)) : w'.heap[b]? = some (.cells cs t f) :=
  (h.same b (blk_lt hb) (fun ⟨o, h1, h2⟩ => by rw [hb] at h1; cases h1; cases h2)).trans hb
theorem nc_not {w : World} {b : Nat} {o : Obj} (hb : w.heap[b]? = some o) (hc : o.isCells = true) : ¬ NC w b := fun ⟨o', h1, h2⟩ => by
  rw [hb] at h1; cases h1; rw [hc] at h2; cases h2
theorem Keep.putObj (W : World) (l : Nat) (o o' : Obj) (h : W.heap[l]? = some o) (hc : o.isCells = false) : Keep W (W.putObj l o') := by
  have hg := grownBy_putObj' W l o'
  exact ⟨⟨hg.os, hg.tape, hg.output, hg.size⟩, fun b hb hn => hg.block b hb fun e => by cases e; exact hn ⟨o, h, hc⟩⟩
theorem Keep.cell {w w' : World} (h : Keep w w') {a : Addr} {v : Value} (hv : w.cell? a = some v) : w'.cell? a = some v := by
  obtain ⟨o, h1, h2⟩ := cells_of_cell hv
  have e := h.same a.block (blk_lt h1) (nc_not h1 h2)
  exact (World.cell?_of_block e).trans hv
theorem Ext.grown {w w' : World} (h : Ext w w') : w.grownBy w' none := ⟨h.alike.os, h.alike.tape, h.alike.output, h.alike.size, fun k hk _ => h.same k hk id⟩
theorem Upd.grown {w0 w w' : World} {F : Nat → Prop} {row : Option Nat} (h : Upd F w0 w) (hg : w.grownBy w' row) (hr : ∀ r, row = some r → w0.heap.size ≤ r) : Upd F w0 w' :=
  ⟨h.alike.trans ⟨hg.os, hg.tape, hg.output, hg.size⟩, fun b hb hf => (hg.block b (Nat.lt_of_lt_of_le hb h.alike.size) fun e => by have := hr b e.symm; omega).trans (h.same b hb hf)⟩
theorem Below.upd {B : Nat} {w w' : World} (h : Below B w w') : Upd (fun b => B ≤ b) w w' := ⟨⟨h.os, h.tape, h.output, h.size⟩, fun b _ hb => h.block b (by omega)⟩
theorem Ext.keepsFrom {w w' : World} (h : Ext w w') (B : Nat) : KeepsFrom B w w' := ⟨h.alike.size, fun k o _ hk _ => h.blk hk⟩
theorem Upd.keepsFrom {F : Nat → Prop} {w w' : World} (h : Upd F w w') {B : Nat} (hf : ∀ b, F b → ∃ o : Obj, w.heap[b]? = some o ∧ o.isCells = true) : KeepsFrom B w w' :=
  ⟨h.alike.size, fun k o _ hk hc => (h.same k (blk_lt hk) fun hF => by
    obtain ⟨o', h1, h2⟩ := hf k hF
    rw [hk] at h1; cases h1; rw [hc] at h2; cases h2).trans hk⟩
/-- the fence of a round -/
def Rd (r : Option Nat) : Fence := { Fence.wide with round := r }
def nodef (o : Oper) : Bool := match o.op with
  | .defer _ => false
  | _ => true
theorem sem_rd (r : Option Nat) (ρ : Operand → Value) (o : Oper) (h : nodef o = true) : Oper.semAt r ρ o = execOp ρ o := by
  cases r with
  | none => exact Oper.semAt_none ρ o
  | some l => exact Oper.semAt_some l ρ o fun c e => by unfold nodef at h; rw [e] at h; cases h
theorem calls_rd {r : Option Nat} {n : Nat} {P : Program} {f : FuncId} {args : Array Value} {w : World} {R : Ending → World → Prop} (h : Calls P f args w R) : CallsIn (Rd r) n P f args w R :=
  (callsIn_wide (n := n)).2 h
theorem Does.rd {r : Option Nat} {P : Program} {a : Act} {o : Oper} {w : World} {K : Value → World → Prop} {N : Act → World → Prop} {Q : Exit → Act → World → Prop} {m : Nat} (hnd : nodef o = true)
    (h : Does P a.eval o w K) (hn : ∀ v w', K v w' → N (a.put o.dst v) w') : o.wpIn (Rd r) m P a w N Q := by
  refine ⟨fun _ _ => trivial, ?_⟩
  rw [show (Rd r).round = r from rfl, sem_rd r _ _ hnd]
  unfold Does at h
  generalize (execOp a.eval o).run P w = z at h
  cases z with
  | halt x w' => exact h.elim
  | ok n w' =>
    cases n <;> simp only [Oper.uponIn] at h ⊢
    case value v => exact hn _ _ h
    case skip => exact hn _ _ h
    case enter f args =>
      refine ⟨fun hd => (by cases hd), calls_rd (h.mono ?_)⟩
      intro e w'' he
      obtain ⟨v, he, hk⟩ := he
      subst he
      exact hn _ _ hk
/-- a state that is known but for its deferred calls -/
def Kn (n : Nat) (σ : Regs) (a : Act) : Prop := Known n σ { a with defers := [] }
theorem Kn.put {n : Nat} {σ : Regs} {a : Act} (h : Kn n σ a) {d : Option Nat} (hd : dOk n d) (v : Value) : Kn n (put σ d v) (a.put d v) := by
  have := Known.put h hd v
  cases d <;> exact this
theorem step_rd {r : Option Nat} {P : Program} {n : Nat} (hn : n ≤ 1000000) {ops : Array Oper} {o : Oper} {σ : Regs} {w : World} {a : Act} (hk : Kn n σ a) (hnd : nodef o = true) {N : Act → World → Prop} {Q : Exit → Act → World → Prop} {m : Nat}
    {F : Value → World → Prop}
    (h : match (conv ops o).grd with
      | none => vcOp P o.op o.type σ w F
      | some (g, want) => on (find σ g) fun gv => ∃ b, gdv gv b want ∧ (b = want → vcOp P o.op o.type σ w F) ∧ (b ≠ want → F undef w))
    (hF : ∀ v w', F v w' → N (a.put o.dst v) w') :
    (if Region.wanted o (yielded ops a.tmps) then o.wpIn (Rd r) m P a w N Q else (∀ f, o.about P w a.eval = some f → (Rd r).fn f) ∧ N (a.put o.dst undef) w) := by
  cases hg : (conv ops o).grd with
  | none =>
    rw [hg] at h
    rw [if_pos (wanted_none (conv_none hg))]
    exact Does.rd hnd (vcOp_spec hk h) hF
  | some gw =>
    obtain ⟨g, want⟩ := gw
    rw [hg] at h
    obtain ⟨gv, hgv, b, hgb, h1, h0⟩ := on_spec h
    have ht : a.tmps[g]? = some gv := hk.reg g _ hgv
    have hsz : a.tmps.size = n := hk.size
    have hlt : g < n := by
      have := (Array.getElem?_eq_some_iff.1 ht).1
      rw [hsz] at this; exact this
    obtain ⟨j, hj, hjd⟩ := conv_guard hg (by omega)
    rcases hgb with rfl | ⟨rfl, rfl⟩
    case inr =>
      rw [wanted_undef hj hjd ht]
      rw [if_neg (by simp)]
      exact ⟨fun _ _ => trivial, hF _ _ (h0 (by cases want <;> simp))⟩
    rw [wanted_some hj hjd ht]
    by_cases e : b = want
    · rw [if_pos (by simpa using e)]
      exact Does.rd hnd (vcOp_spec hk (h1 e)) hF
    · rw [if_neg (by simpa using e)]
      exact ⟨fun _ _ => trivial, hF _ _ (h0 e)⟩
theorem Wk_rd {r : Option Nat} {P : Program} {n : Nat} (hn : n ≤ 1000000) {ops : Array Oper} {K : Regs → World → Prop} {Q : Exit → Act → World → Prop} {m : Nat} {D : List Deferred} (hQ : ∀ σ w a, Kn n σ a → a.defers = D → K σ w → Q .normal a w) :
    ∀ (l : List Oper) (σ : Regs) (w : World) (a : Act), l.all nodef = true → Kn n σ a → a.defers = D → Wk P n (l.map (conv ops)) σ w K → wpListIn (Rd r) m P ops Q l a w
  | [], σ, w, a, _, hk, hD, h => hQ σ w a hk hD h
  | o :: l, σ, w, a, hnd, hk, hD, h => by
    obtain ⟨hd, h⟩ := h
    rw [List.all_cons, Bool.and_eq_true] at hnd
    unfold wpListIn
    exact step_rd hn hk hnd.1 (F := fun v w' => Wk P n (l.map (conv ops)) (put σ o.dst v) w' K) h fun v w' hK => Wk_rd hn hQ l _ w' _ hnd.2 (hk.put hd v) (by cases o.dst <;> exact hD) hK
theorem reg_rd {r : Option Nat} {P : Program} {n : Nat} (hn : n ≤ 1000000) {id : Nat} {l : List Oper} {Q : Exit → Act → World → Prop} {m : Nat} {σ : Regs} {w : World} {a : Act} (hk : Kn n σ a) (hd : l.all (dLt n) = true) (hnd : l.all nodef = true)
    (h : Wo P l.toArray l σ w fun σ' w' => ∀ a', Kn n σ' a' → a'.defers = a.defers → Q .normal a' w') : (Code.region id l.toArray false).wpIn (Rd r) m P Q a w := by
  refine wpIn_region_list ?_
  rw [List.toList_toArray]
  rw [← Wo_eq l σ w hd] at h
  exact Wk_rd hn (D := a.defers) (fun σ' w' a' h1 h2 h3 => h3 a' h1 h2) l σ w a hnd hk rfl h
theorem cond_rd {r : Option Nat} {P : Program} {n : Nat} {Q : Exit → Act → World → Prop} {m : Nat} {σ : Regs} {w : World} {a : Act} {c : Operand} {x y : Code} (hk : Kn n σ a) {b : Bool} (hc : evO σ c = some (.bool b)) (h1 : b = true → x.wpIn (Rd r) m P Q a w) (h2 : b = false → y.wpIn (Rd r) m P Q a w) :
    (Code.cond c x y).wpIn (Rd r) m P Q a w :=
  wpIn_cond_split (t := b) (hk.ev hc) h1 h2
end Go.Vk
end
