/- Slices of numbers and of attributes: Index, Clone. -/
import Derived.Test.YtkafpameheohdaaHd
import Derived.Test.YtkafpameheohdaaAr3
set_option linter.unusedSimpArgs false
set_option linter.unusedVariables false
namespace Go.Vk
/-- where a number first stands, counted from k; -1: nowhere -/
def idxF (x : Int) : List Int → Nat → Int
  | [], _ => -1
  | y :: r, k => if x = y then k else idxF x r (k + 1)
/-- what lies behind a value: a slice of numbers -/
structure IntsAt (w : World) (v : Value) (l : List Int) (bo : Option Nat) : Prop where
  at_ : SlAt w 1 v (intCells l) bo
theorem intCells_get {l : List Int} {i : Nat} {x : Int} (h : l[i]? = some x) : (intCells l)[i]? = some (.int .i64 x) := by simp [intCells, h]
theorem SlAt.ints_len {w : World} {v : Value} {l : List Int} {bo : Option Nat} (h : SlAt w 1 v (intCells l) bo) : ∃ a c, v = .slice a l.length c ∧ l.length ≤ c := by
  obtain ⟨a, n, c, rfl, h1, h2⟩ := h.len
  rw [intCells_length, Nat.mul_one] at h2
  exact ⟨a, c, by rw [h2], by omega⟩
theorem SlAt.ints_cell {w : World} {b o n c : Nat} {l : List Int} {bo : Option Nat} (h : SlAt w 1 (.slice (some ⟨b, o, none⟩) n c) (intCells l) bo) {i : Nat} {x : Int} (hi : l[i]? = some x) :
    w.cell? ⟨b, o + i, none⟩ = some (.int .i64 x) := by simpa using h.get (intCells_get hi)
end Go.Vk
namespace Go.Proofs.Ytkafpameheohdaa
open Go.Vk
set_option maxHeartbeats 40000000
theorem index_c {w : World} {v : Value} {l : List Int} {bo : Option Nat} (x : Int) (h : SlAt w 1 v (intCells l) bo) (hb : l.length < 1000000) :
    Gives Try.prog 58 #[v, .int .i64 x] w fun u w' => u = .int .i64 (idxF x l 0) ∧ w' = w := by
  obtain ⟨a, c, rfl, hc⟩ := h.ints_len
  refine Gives.of_W Try.call58 Try.func58 rfl Try.ntmps58 (by simp) ?_; intro Z hZ
  (repeat (first | (with_reducible first | (refine hK _ _ ?_; clear hK K) | refine (show ∀ σ' w', _ → K σ' w' from by assumption) _ _ ?_ | refine W_seq_k fun K hK => ?_ | refine W_block_k fun K hK => ?_ | refine W_skip ?_ | refine W_ret ?_) | ((first | ((with_reducible refine W_id ?_); refine W_reg (by decide) (by rfl) ?_) | (with_reducible first | refine W_cond ?_ | refine hZ _ _ ?_ | refine W_exit ?_ | refine Wo_id ?_)); repeat1' simp only [push_cast, Nat.reduceBEq, Nat.reduceLT, Nat.reduceEqDiff, reduceIte, reduceCtorEq, Nat.reduceMul, Nat.reduceAdd, Nat.reduceSub, Int.reduceEq, Int.reduceLT, Int.reduceLE, Int.reduceNeg, Int.reduceAdd, Int.reduceSub, Int.reduceMul, Nat.reduceLeDiff, Int.reduceToNat]) | ((repeat ((fail_if_success with_reducible refine hK _ _ ?_); clear hK K)); (with_reducible refine hK _ _ ?_); clear hK K)))
  refine W_loop (S := List Int × List Int) (fun s => [(0, .slice a l.length c), (1, .int .i64 x), (7, .int .i64 l.length), (8, .int .i64 (s.1.length : Int))]) (fun s w' => w' = w ∧ l = s.1 ++ s.2 ∧ idxF x l 0 = idxF x s.2 s.1.length) (fun s => s.2.length) ([], l) ?_ ⟨rfl, rfl, rfl⟩ ?_
  · (repeat simp only [push_cast, Nat.reduceBEq, Nat.reduceLT, Nat.reduceEqDiff, reduceIte, reduceCtorEq, Nat.reduceMul, Nat.reduceAdd, Nat.reduceSub, Int.reduceEq, Int.reduceLT, Int.reduceLE, Int.reduceNeg, Int.reduceAdd, Int.reduceSub, Int.reduceMul, Nat.reduceLeDiff, Int.reduceToNat])
  rintro ⟨m, a'⟩ w' ⟨rfl, h1, h2⟩
  cases a' with
  | nil =>
    have hn : ¬ (m.length : Int) < l.length := by rw [h1]; simp
    simp only at h1 h2
    (repeat (first | (with_reducible first | (refine hK _ _ ?_; clear hK K) | refine (show ∀ σ' w', _ → K σ' w' from by assumption) _ _ ?_ | refine W_seq_k fun K hK => ?_ | refine W_block_k fun K hK => ?_ | refine W_skip ?_ | refine W_ret ?_) | ((first | ((with_reducible refine W_id ?_); refine W_reg (by decide) (by rfl) ?_) | (with_reducible first | refine W_cond ?_ | refine hZ _ _ ?_ | refine W_exit ?_ | refine Wo_id ?_)); repeat1' simp only [push_cast, Nat.reduceBEq, Nat.reduceLT, Nat.reduceEqDiff, reduceIte, reduceCtorEq, Nat.reduceMul, Nat.reduceAdd, Nat.reduceSub, Int.reduceEq, Int.reduceLT, Int.reduceLE, Int.reduceNeg, Int.reduceAdd, Int.reduceSub, Int.reduceMul, Nat.reduceLeDiff, Int.reduceToNat, hn]) | ((repeat ((fail_if_success with_reducible refine hK _ _ ?_); clear hK K)); (with_reducible refine hK _ _ ?_); clear hK K)))
    exact h2.symm
  | cons y r =>
    simp only at h1 h2
    have hlen : m.length + (r.length + 1) = l.length := by rw [h1]; simp
    have hn : (m.length : Int) < l.length := by omega
    have hn0 : (0 : Int) ≤ m.length := by omega
    have hy : l[m.length]? = some y := by rw [h1]; simp
    obtain ⟨b, o, n', c', e1, rfl⟩ := h.some_of (by rw [h1]; simp [intCells])
    cases e1
    have hcell := h.ints_cell hy
    have hr : inI64 ((m.length : Int) + 1) := by unfold inI64; omega
    by_cases hxy : x = y
    · (repeat (first | (with_reducible first | (refine hK _ _ ?_; clear hK K) | refine (show ∀ σ' w', _ → K σ' w' from by assumption) _ _ ?_ | refine W_seq_k fun K hK => ?_ | refine W_block_k fun K hK => ?_ | refine W_skip ?_ | refine W_ret ?_) | ((first | ((with_reducible refine W_id ?_); refine W_reg (by decide) (by rfl) ?_) | (with_reducible first | refine W_cond ?_ | refine hZ _ _ ?_ | refine W_exit ?_ | refine Wo_id ?_)); repeat1' simp only [push_cast, Nat.reduceBEq, Nat.reduceLT, Nat.reduceEqDiff, reduceIte, reduceCtorEq, Nat.reduceMul, Nat.reduceAdd, Nat.reduceSub, Int.reduceEq, Int.reduceLT, Int.reduceLE, Int.reduceNeg, Int.reduceAdd, Int.reduceSub, Int.reduceMul, Nat.reduceLeDiff, Int.reduceToNat, hn, hn0, hcell, hxy]) | ((repeat ((fail_if_success with_reducible refine hK _ _ ?_); clear hK K)); (with_reducible refine hK _ _ ?_); clear hK K)))
      rw [← hxy, h2]
      simp [idxF, hxy]
    · (repeat (first | (with_reducible first | (refine hK _ _ ?_; clear hK K) | refine (show ∀ σ' w', _ → K σ' w' from by assumption) _ _ ?_ | refine W_seq_k fun K hK => ?_ | refine W_block_k fun K hK => ?_ | refine W_skip ?_ | refine W_ret ?_) | ((first | ((with_reducible refine W_id ?_); refine W_reg (by decide) (by rfl) ?_) | (with_reducible first | refine W_cond ?_ | refine hZ _ _ ?_ | refine W_exit ?_ | refine Wo_id ?_)); repeat1' simp only [push_cast, Nat.reduceBEq, Nat.reduceLT, Nat.reduceEqDiff, reduceIte, reduceCtorEq, Nat.reduceMul, Nat.reduceAdd, Nat.reduceSub, Int.reduceEq, Int.reduceLT, Int.reduceLE, Int.reduceNeg, Int.reduceAdd, Int.reduceSub, Int.reduceMul, Nat.reduceLeDiff, Int.reduceToNat, hn, hn0, hcell, hxy, hr]) | ((repeat ((fail_if_success with_reducible refine hK _ _ ?_); clear hK K)); (with_reducible refine hK _ _ ?_); clear hK K)))
      exact ⟨(m ++ [y], r), by simp, by simp, by simp [h1], by rw [h2]; simp [idxF, hxy]⟩
theorem sty28 : STy Try.prog 28 3 1 := ⟨Try.underlying28, fun w => by simp [Try.sizeOf3, Sem.run], fun w => ⟨_, by simp [Try.typeInfo3, Sem.run]; rfl, by decide, by decide⟩, fun w => ⟨_, by simp [Try.zeroValue3, Sem.run]; rfl, by decide⟩⟩
theorem sty27 : STy Try.prog 27 94 2 := ⟨Try.underlying27, fun w => by simp [Try.sizeOf94, Sem.run], fun w => ⟨_, by simp [Try.typeInfo94, Sem.run]; rfl, by decide, by decide⟩, fun w => ⟨_, by simp [Try.zeroValue94, Sem.run]; rfl, by decide⟩⟩
theorem sty39 : STy Try.prog 39 30 11 := ⟨Try.underlying39, fun w => by simp [Try.sizeOf30, Sem.run], fun w => ⟨_, by simp [Try.typeInfo30, Sem.run]; rfl, by decide, by decide⟩, fun w => ⟨_, by simp [Try.zeroValue30, Sem.run]; rfl, by decide⟩⟩
theorem clone_i {w : World} {v : Value} {l : List Int} {bo : Option Nat} (h : SlAt w 1 v (intCells l) bo) (hb : l.length < 1000000) :
    Gives Try.prog 60 #[v] w fun u w' => ∃ bo, SlAt w' 1 u (intCells l) bo ∧ Ext w w' ∧ ∀ b, bo = some b → w.heap.size ≤ b := by
  have h' := h
  rcases h with ⟨rfl, rfl, h⟩ | ⟨b, o, n, c, cs, t, h1, rfl, h3, h4, h5, h6, h7⟩
  · rw [h]
    refine Gives.of_W Try.call60 Try.func60 rfl Try.ntmps60 (by simp) ?_; intro Z hZ
    (repeat (first | (with_reducible first | (refine hK _ _ ?_; clear hK K) | refine (show ∀ σ' w', _ → K σ' w' from by assumption) _ _ ?_ | refine W_seq_k fun K hK => ?_ | refine W_block_k fun K hK => ?_ | refine W_skip ?_ | refine W_ret ?_) | ((first | ((with_reducible refine W_id ?_); refine W_reg (by decide) (by rfl) ?_) | (with_reducible first | refine W_cond ?_ | refine hZ _ _ ?_ | refine W_exit ?_ | refine Wo_id ?_)); repeat1' simp only [push_cast, Nat.reduceBEq, Nat.reduceLT, Nat.reduceEqDiff, reduceIte, reduceCtorEq, Nat.reduceMul, Nat.reduceAdd, Nat.reduceSub, Int.reduceEq, Int.reduceLT, Int.reduceLE, Int.reduceNeg, Int.reduceAdd, Int.reduceSub, Int.reduceMul, Nat.reduceLeDiff, Int.reduceToNat]) | ((repeat ((fail_if_success with_reducible refine hK _ _ ?_); clear hK K)); (with_reducible refine hK _ _ ?_); clear hK K)))
    exact ⟨none, SlAt.nil _ _, Ext.refl _, by simp⟩
  · refine Gives.of_W Try.call60 Try.func60 rfl Try.ntmps60 (by simp) ?_; intro Z hZ
    (repeat (first | (with_reducible first | (refine hK _ _ ?_; clear hK K) | refine (show ∀ σ' w', _ → K σ' w' from by assumption) _ _ ?_ | refine W_seq_k fun K hK => ?_ | refine W_block_k fun K hK => ?_ | refine W_skip ?_ | refine W_ret ?_) | ((first | ((with_reducible refine W_id ?_); refine W_reg (by decide) (by rfl) ?_) | (with_reducible first | refine W_cond ?_ | refine hZ _ _ ?_ | refine W_exit ?_ | refine Wo_id ?_)); repeat1' simp only [push_cast, Nat.reduceBEq, Nat.reduceLT, Nat.reduceEqDiff, reduceIte, reduceCtorEq, Nat.reduceMul, Nat.reduceAdd, Nat.reduceSub, Int.reduceEq, Int.reduceLT, Int.reduceLE, Int.reduceNeg, Int.reduceAdd, Int.reduceSub, Int.reduceMul, Nat.reduceLeDiff, Int.reduceToNat]) | ((repeat ((fail_if_success with_reducible refine hK _ _ ?_); clear hK K)); (with_reducible refine hK _ _ ?_); clear hK K)))
    refine bs_zero sty28 ?_
    refine app_to sty28 (sty28).und (by decide) (SlAt.new w 1 #[] 3 0 rfl) (h'.ext (Ext.alloc _ _)) (intCells_one l) (by simp [intCells_length]; omega) ?_
    intro v w' bo g1 g2 g3
    have hx : Ext w w' := Upd.trans (Ext.alloc w _) g2 fun i hi e => by cases e; omega
    ((repeat simp only [push_cast, Nat.reduceBEq, Nat.reduceLT, Nat.reduceEqDiff, reduceIte, reduceCtorEq, Nat.reduceMul, Nat.reduceAdd, Nat.reduceSub, Int.reduceEq, Int.reduceLT, Int.reduceLE, Int.reduceNeg, Int.reduceAdd, Int.reduceSub, Int.reduceMul, Nat.reduceLeDiff, Int.reduceToNat]); (repeat (first | (with_reducible first | (refine hK _ _ ?_; clear hK K) | refine (show ∀ σ' w', _ → K σ' w' from by assumption) _ _ ?_ | refine W_seq_k fun K hK => ?_ | refine W_block_k fun K hK => ?_ | refine W_skip ?_ | refine W_ret ?_) | ((first | ((with_reducible refine W_id ?_); refine W_reg (by decide) (by rfl) ?_) | (with_reducible first | refine W_cond ?_ | refine hZ _ _ ?_ | refine W_exit ?_ | refine Wo_id ?_)); repeat1' simp only [push_cast, Nat.reduceBEq, Nat.reduceLT, Nat.reduceEqDiff, reduceIte, reduceCtorEq, Nat.reduceMul, Nat.reduceAdd, Nat.reduceSub, Int.reduceEq, Int.reduceLT, Int.reduceLE, Int.reduceNeg, Int.reduceAdd, Int.reduceSub, Int.reduceMul, Nat.reduceLeDiff, Int.reduceToNat]) | ((repeat ((fail_if_success with_reducible refine hK _ _ ?_); clear hK K)); (with_reducible refine hK _ _ ?_); clear hK K))))
    refine ⟨bo, by simpa using g1, hx, fun b hb => ?_⟩
    rcases g3 b hb with h | h
    · cases h; omega
    · simp at h; omega
theorem clone_a {w : World} {v : Value} {l : List (ByteArray × ByteArray)} (h : RdAt w 2 v (attrCells l)) (hb : l.length < 1000000) :
    Gives Try.prog 59 #[v] w fun u w' => ∃ bo, SlAt w' 2 u (attrCells l) bo ∧ Ext w w' ∧ ∀ b, bo = some b → w.heap.size ≤ b := by
  have h' := h
  obtain ⟨a, n, c, rfl, h3, h4, h5⟩ := h
  cases a with
  | none =>
    have e : attrCells l = [] := by
      cases hl : attrCells l with
      | nil => rfl
      | cons x r => obtain ⟨b, o, e, _⟩ := h5 0 x (by rw [hl]; rfl); cases e
    rw [e]
    refine Gives.of_W Try.call59 Try.func59 rfl Try.ntmps59 (by simp) ?_; intro Z hZ
    (repeat (first | (with_reducible first | (refine hK _ _ ?_; clear hK K) | refine (show ∀ σ' w', _ → K σ' w' from by assumption) _ _ ?_ | refine W_seq_k fun K hK => ?_ | refine W_block_k fun K hK => ?_ | refine W_skip ?_ | refine W_ret ?_) | ((first | ((with_reducible refine W_id ?_); refine W_reg (by decide) (by rfl) ?_) | (with_reducible first | refine W_cond ?_ | refine hZ _ _ ?_ | refine W_exit ?_ | refine Wo_id ?_)); repeat1' simp only [push_cast, Nat.reduceBEq, Nat.reduceLT, Nat.reduceEqDiff, reduceIte, reduceCtorEq, Nat.reduceMul, Nat.reduceAdd, Nat.reduceSub, Int.reduceEq, Int.reduceLT, Int.reduceLE, Int.reduceNeg, Int.reduceAdd, Int.reduceSub, Int.reduceMul, Nat.reduceLeDiff, Int.reduceToNat]) | ((repeat ((fail_if_success with_reducible refine hK _ _ ?_); clear hK K)); (with_reducible refine hK _ _ ?_); clear hK K)))
    exact ⟨none, SlAt.nil _ _, Ext.refl _, by simp⟩
  | some a =>
    refine Gives.of_W Try.call59 Try.func59 rfl Try.ntmps59 (by simp) ?_; intro Z hZ
    (repeat (first | (with_reducible first | (refine hK _ _ ?_; clear hK K) | refine (show ∀ σ' w', _ → K σ' w' from by assumption) _ _ ?_ | refine W_seq_k fun K hK => ?_ | refine W_block_k fun K hK => ?_ | refine W_skip ?_ | refine W_ret ?_) | ((first | ((with_reducible refine W_id ?_); refine W_reg (by decide) (by rfl) ?_) | (with_reducible first | refine W_cond ?_ | refine hZ _ _ ?_ | refine W_exit ?_ | refine Wo_id ?_)); repeat1' simp only [push_cast, Nat.reduceBEq, Nat.reduceLT, Nat.reduceEqDiff, reduceIte, reduceCtorEq, Nat.reduceMul, Nat.reduceAdd, Nat.reduceSub, Int.reduceEq, Int.reduceLT, Int.reduceLE, Int.reduceNeg, Int.reduceAdd, Int.reduceSub, Int.reduceMul, Nat.reduceLeDiff, Int.reduceToNat]) | ((repeat ((fail_if_success with_reducible refine hK _ _ ?_); clear hK K)); (with_reducible refine hK _ _ ?_); clear hK K)))
    refine bs_zero sty27 ?_
    refine app_to_rd sty27 (sty27).und (by decide) (SlAt.new w 2 #[] 94 0 rfl) (h'.ext (Ext.alloc _ _)) (attrCells_one l) (by simp [attrCells_length]; omega) ?_
    intro v w' bo g1 g2 g3
    have hx : Ext w w' := Upd.trans (Ext.alloc w _) g2 fun i hi e => by cases e; omega
    ((repeat simp only [push_cast, Nat.reduceBEq, Nat.reduceLT, Nat.reduceEqDiff, reduceIte, reduceCtorEq, Nat.reduceMul, Nat.reduceAdd, Nat.reduceSub, Int.reduceEq, Int.reduceLT, Int.reduceLE, Int.reduceNeg, Int.reduceAdd, Int.reduceSub, Int.reduceMul, Nat.reduceLeDiff, Int.reduceToNat]); (repeat (first | (with_reducible first | (refine hK _ _ ?_; clear hK K) | refine (show ∀ σ' w', _ → K σ' w' from by assumption) _ _ ?_ | refine W_seq_k fun K hK => ?_ | refine W_block_k fun K hK => ?_ | refine W_skip ?_ | refine W_ret ?_) | ((first | ((with_reducible refine W_id ?_); refine W_reg (by decide) (by rfl) ?_) | (with_reducible first | refine W_cond ?_ | refine hZ _ _ ?_ | refine W_exit ?_ | refine Wo_id ?_)); repeat1' simp only [push_cast, Nat.reduceBEq, Nat.reduceLT, Nat.reduceEqDiff, reduceIte, reduceCtorEq, Nat.reduceMul, Nat.reduceAdd, Nat.reduceSub, Int.reduceEq, Int.reduceLT, Int.reduceLE, Int.reduceNeg, Int.reduceAdd, Int.reduceSub, Int.reduceMul, Nat.reduceLeDiff, Int.reduceToNat]) | ((repeat ((fail_if_success with_reducible refine hK _ _ ?_); clear hK K)); (with_reducible refine hK _ _ ?_); clear hK K))))
    refine ⟨bo, by simpa using g1, hx, fun b hb => ?_⟩
    rcases g3 b hb with h | h
    · cases h; omega
    · simp at h; omega
end Go.Proofs.Ytkafpameheohdaa
