/- What the proof leans on, part 4 of 8. -/
import Derived.Test.YtkafpameheohdaaQFormatsPlayC
section
set_option linter.unusedSimpArgs false
set_option linter.unusedVariables false
namespace Go.Vk
open Go
structure FL (w : World) (pl : Nat) (ap lv : Value) (l : List Int) (bo : Option Nat) : Prop where
  head : w.heap[pl]? = some (.cells #[ap, lv] 84 (0, 0))
  sl : SlAt w 1 lv (intCells l) bo
  ne : bo ≠ some pl
theorem FL.upd {G : Nat → Prop} {w w' : World} {pl : Nat} {ap lv : Value} {l : List Int} {bo : Option Nat} (h : FL w pl ap lv l bo) (hu : Upd G w w') (h1 : ¬ G pl) (h2 : ∀ b, bo = some b → ¬ G b) : FL w' pl ap lv l bo :=
  ⟨(hu.same pl (blk_lt h.head) h1).trans h.head, h.sl.upd hu h2, h.ne⟩
theorem FL.ext {w w' : World} {pl : Nat} {ap lv : Value} {l : List Int} {bo : Option Nat} (h : FL w pl ap lv l bo) (hu : Ext w w') : FL w' pl ap lv l bo := h.upd hu id fun _ _ => id
theorem FL.c0 {w : World} {pl : Nat} {ap lv : Value} {l : List Int} {bo : Option Nat} (h : FL w pl ap lv l bo) : w.cell? ⟨pl, 0, none⟩ = some ap := by rw [cell_h, h.head]; rfl
theorem FL.c1 {w : World} {pl : Nat} {ap lv : Value} {l : List Int} {bo : Option Nat} (h : FL w pl ap lv l bo) : w.cell? ⟨pl, 1, none⟩ = some lv := by rw [cell_h, h.head]; rfl
theorem vcells_int (k : IntKind) (n : Int) : (Value.int k n).cells = #[.int k n] := rfl
theorem vcells_ptr (a : Option Addr) : (Value.pointer a).cells = #[.pointer a] := rfl
theorem vcells_str (s : ByteArray) : (Value.string s).cells = #[.string s] := rfl
def lastF (p : Int → Bool) (l : List Int) (fr : Int) : Nat → Int
  | 0 => -1
  | k + 1 => if (k : Int) < fr then -1 else if p (l.getD k 0) = true then k else lastF p l fr k
end Go.Vk
namespace Go.Proofs.Ytkafpameheohdaa
open Go Go.Vk
set_option maxHeartbeats 40000000
section
variable {w : World} {pl pa : Nat} {lv : Value} {l : List Int} {bo : Option Nat}
theorem flen_c (h : FL w pl (.pointer (some ⟨pa, 0, none⟩)) lv l bo) : Gives Try.prog 33 #[.pointer (some ⟨pl, 0, none⟩)] w fun v w' => v = .int .i64 (l.length : Int) ∧ w' = w := by
  obtain ⟨a, c, rfl, hc⟩ := h.sl.ints_len
  have h1 := h.c1
  refine Gives.of_W Try.call33 Try.func33 rfl Try.ntmps33 (by simp) ?_; intro Z hZ
  (repeat (first | (with_reducible first | (refine hK _ _ ?_; clear hK K) | refine (show ∀ σ' w', _ → K σ' w' from by assumption) _ _ ?_ | refine W_seq_k fun K hK => ?_ | refine W_block_k fun K hK => ?_ | refine W_skip ?_ | refine W_ret ?_) | ((first | ((with_reducible refine W_id ?_); refine W_reg (by decide) (by rfl) ?_) | (with_reducible first | refine W_cond ?_ | refine hZ _ _ ?_ | refine W_exit ?_ | refine Wo_id ?_)); repeat1' simp only [push_cast, Nat.reduceBEq, Nat.reduceLT, Nat.reduceEqDiff, reduceIte, reduceCtorEq, Nat.reduceMul, Nat.reduceAdd, Nat.reduceSub, Int.reduceEq, Int.reduceLT, Int.reduceLE, Int.reduceNeg, Int.reduceAdd, Int.reduceSub, Int.reduceMul, Nat.reduceLeDiff, Int.reduceToNat, h1]) | ((repeat ((fail_if_success with_reducible refine hK _ _ ?_); clear hK K)); (with_reducible refine hK _ _ ?_); clear hK K)))
theorem fnone_c (h : FL w pl (.pointer (some ⟨pa, 0, none⟩)) lv l bo) : Gives Try.prog 66 #[.pointer (some ⟨pl, 0, none⟩)] w fun v w' => v = .bool false ∧ w' = w := by
  have h0 := h.c0
  refine Gives.of_W Try.call66 Try.func66 rfl Try.ntmps66 (by simp) ?_; intro Z hZ
  (repeat (first | (with_reducible first | (refine hK _ _ ?_; clear hK K) | refine (show ∀ σ' w', _ → K σ' w' from by assumption) _ _ ?_ | refine W_seq_k fun K hK => ?_ | refine W_block_k fun K hK => ?_ | refine W_skip ?_ | refine W_ret ?_) | ((first | ((with_reducible refine W_id ?_); refine W_reg (by decide) (by rfl) ?_) | (with_reducible first | refine W_cond ?_ | refine hZ _ _ ?_ | refine W_exit ?_ | refine Wo_id ?_)); repeat1' simp only [push_cast, Nat.reduceBEq, Nat.reduceLT, Nat.reduceEqDiff, reduceIte, reduceCtorEq, Nat.reduceMul, Nat.reduceAdd, Nat.reduceSub, Int.reduceEq, Int.reduceLT, Int.reduceLE, Int.reduceNeg, Int.reduceAdd, Int.reduceSub, Int.reduceMul, Nat.reduceLeDiff, Int.reduceToNat, h0]) | ((repeat ((fail_if_success with_reducible refine hK _ _ ?_); clear hK K)); (with_reducible refine hK _ _ ?_); clear hK K)))
theorem last_c (h : FL w pl (.pointer (some ⟨pa, 0, none⟩)) lv l bo) (hl : l.length < 100000) {f : FuncId} {first captured : Array Value} {p : Int → Bool} (fr : Int) (hfr : 0 ≤ fr)
    (hso : ∀ i ∈ l, ∀ w1, Ext w w1 → Gives Try.prog f (first.toList ++ [Value.int .i64 i] ++ captured.toList).toArray w1 fun v w' => v = .bool (p i) ∧ Ext w1 w') :
    Gives Try.prog 72 #[.pointer (some ⟨pl, 0, none⟩), .int .i64 fr, .func (.func f) first captured] w fun v w' => v = .int .i64 (lastF p l fr l.length) ∧ Ext w w' := by
  obtain ⟨a, c, rfl, hc⟩ := h.sl.ints_len
  have s0 : inI64 ((l.length : Int) - 1) := by unfold inI64; omega
  refine Gives.of_W Try.call72 Try.func72 rfl Try.ntmps72 (by simp) ?_; intro Z hZ
  (repeat (first | (with_reducible first | (refine hK _ _ ?_; clear hK K) | refine (show ∀ σ' w', _ → K σ' w' from by assumption) _ _ ?_ | refine W_seq_k fun K hK => ?_ | refine W_block_k fun K hK => ?_ | refine W_skip ?_ | refine W_ret ?_) | ((first | ((with_reducible refine W_id ?_); refine W_reg (by decide) (by rfl) ?_) | (with_reducible first | refine W_cond ?_ | refine hZ _ _ ?_ | refine W_exit ?_ | refine Wo_id ?_)); repeat1' simp only [push_cast, Nat.reduceBEq, Nat.reduceLT, Nat.reduceEqDiff, reduceIte, reduceCtorEq, Nat.reduceMul, Nat.reduceAdd, Nat.reduceSub, Int.reduceEq, Int.reduceLT, Int.reduceLE, Int.reduceNeg, Int.reduceAdd, Int.reduceSub, Int.reduceMul, Nat.reduceLeDiff, Int.reduceToNat]) | ((repeat ((fail_if_success with_reducible refine hK _ _ ?_); clear hK K)); (with_reducible refine hK _ _ ?_); clear hK K)))
  refine (flen_c h).mono ?_
  rintro v w' ⟨rfl, rfl⟩
  ((repeat simp only [push_cast, Nat.reduceBEq, Nat.reduceLT, Nat.reduceEqDiff, reduceIte, reduceCtorEq, Nat.reduceMul, Nat.reduceAdd, Nat.reduceSub, Int.reduceEq, Int.reduceLT, Int.reduceLE, Int.reduceNeg, Int.reduceAdd, Int.reduceSub, Int.reduceMul, Nat.reduceLeDiff, Int.reduceToNat, s0]); (repeat (first | (with_reducible first | (refine hK _ _ ?_; clear hK K) | refine (show ∀ σ' w', _ → K σ' w' from by assumption) _ _ ?_ | refine W_seq_k fun K hK => ?_ | refine W_block_k fun K hK => ?_ | refine W_skip ?_ | refine W_ret ?_) | ((first | ((with_reducible refine W_id ?_); refine W_reg (by decide) (by rfl) ?_) | (with_reducible first | refine W_cond ?_ | refine hZ _ _ ?_ | refine W_exit ?_ | refine Wo_id ?_)); repeat1' simp only [push_cast, Nat.reduceBEq, Nat.reduceLT, Nat.reduceEqDiff, reduceIte, reduceCtorEq, Nat.reduceMul, Nat.reduceAdd, Nat.reduceSub, Int.reduceEq, Int.reduceLT, Int.reduceLE, Int.reduceNeg, Int.reduceAdd, Int.reduceSub, Int.reduceMul, Nat.reduceLeDiff, Int.reduceToNat, s0]) | ((repeat ((fail_if_success with_reducible refine hK _ _ ?_); clear hK K)); (with_reducible refine hK _ _ ?_); clear hK K))))
  refine W_loop (S := Nat) (fun k => [(0, .pointer (some ⟨pl, 0, none⟩)), (1, .int .i64 fr), (2, .func (.func f) first captured), (7, .int .i64 ((k : Int) - 1))])
    (fun k w2 => k ≤ l.length ∧ lastF p l fr l.length = lastF p l fr k ∧ Ext w' w2) (fun k => k) l.length ?_ ?_ ?_
  · (repeat simp only [push_cast, Nat.reduceBEq, Nat.reduceLT, Nat.reduceEqDiff, reduceIte, reduceCtorEq, Nat.reduceMul, Nat.reduceAdd, Nat.reduceSub, Int.reduceEq, Int.reduceLT, Int.reduceLE, Int.reduceNeg, Int.reduceAdd, Int.reduceSub, Int.reduceMul, Nat.reduceLeDiff, Int.reduceToNat])
  · exact ⟨Nat.le_refl _, rfl, Ext.refl _⟩
  rintro k w2 ⟨hk, he, hx⟩
  cases k with
  | zero =>
    have e0 : (((0 : Nat) : Int) - 1) = -1 := rfl
    rw [e0]
    have b0 : ¬ fr ≤ -1 := by omega
    (repeat (first | (with_reducible first | (refine hK _ _ ?_; clear hK K) | refine (show ∀ σ' w', _ → K σ' w' from by assumption) _ _ ?_ | refine W_seq_k fun K hK => ?_ | refine W_block_k fun K hK => ?_ | refine W_skip ?_ | refine W_ret ?_) | ((first | ((with_reducible refine W_id ?_); refine W_reg (by decide) (by rfl) ?_) | (with_reducible first | refine W_cond ?_ | refine hZ _ _ ?_ | refine W_exit ?_ | refine Wo_id ?_)); repeat1' simp only [push_cast, Nat.reduceBEq, Nat.reduceLT, Nat.reduceEqDiff, reduceIte, reduceCtorEq, Nat.reduceMul, Nat.reduceAdd, Nat.reduceSub, Int.reduceEq, Int.reduceLT, Int.reduceLE, Int.reduceNeg, Int.reduceAdd, Int.reduceSub, Int.reduceMul, Nat.reduceLeDiff, Int.reduceToNat, b0]) | ((repeat ((fail_if_success with_reducible refine hK _ _ ?_); clear hK K)); (with_reducible refine hK _ _ ?_); clear hK K)))
    rw [he]
    exact ⟨rfl, hx⟩
  | succ k =>
    have e0 : (((k + 1 : Nat) : Int) - 1) = k := by omega
    rw [e0]
    rw [lastF] at he
    have b2 : inI64 ((k : Int) - 1) := by unfold inI64; omega
    by_cases hkf : (k : Int) < fr
    · have b0 : ¬ fr ≤ (k : Int) := by omega
      rw [if_pos hkf] at he
      (repeat (first | (with_reducible first | (refine hK _ _ ?_; clear hK K) | refine (show ∀ σ' w', _ → K σ' w' from by assumption) _ _ ?_ | refine W_seq_k fun K hK => ?_ | refine W_block_k fun K hK => ?_ | refine W_skip ?_ | refine W_ret ?_) | ((first | ((with_reducible refine W_id ?_); refine W_reg (by decide) (by rfl) ?_) | (with_reducible first | refine W_cond ?_ | refine hZ _ _ ?_ | refine W_exit ?_ | refine Wo_id ?_)); repeat1' simp only [push_cast, Nat.reduceBEq, Nat.reduceLT, Nat.reduceEqDiff, reduceIte, reduceCtorEq, Nat.reduceMul, Nat.reduceAdd, Nat.reduceSub, Int.reduceEq, Int.reduceLT, Int.reduceLE, Int.reduceNeg, Int.reduceAdd, Int.reduceSub, Int.reduceMul, Nat.reduceLeDiff, Int.reduceToNat, b0]) | ((repeat ((fail_if_success with_reducible refine hK _ _ ?_); clear hK K)); (with_reducible refine hK _ _ ?_); clear hK K)))
      exact ⟨he.symm, hx⟩
    · have b0 : fr ≤ (k : Int) := by omega
      rw [if_neg hkf] at he
      have hkl : k < l.length := by omega
      have hxk : l[k]? = some l[k] := List.getElem?_eq_getElem hkl
      have hgd : l.getD k 0 = l[k] := by simp [List.getD, hxk]
      rw [hgd] at he
      have hmem : l[k] ∈ l := List.getElem_mem hkl
      generalize l[k] = y at *
      obtain ⟨b, o, _, _, e1, _⟩ := h.sl.some_of (kids_ne hkl)
      cases e1
      have h1 := (h.ext hx).c1
      have hcell := (h.sl.ext hx).ints_cell hxk
      have b1 : (0 : Int) ≤ (k : Int) := by omega
      have b3 : (k : Int) < (l.length : Int) := by omega
      (repeat (first | (with_reducible first | (refine hK _ _ ?_; clear hK K) | refine (show ∀ σ' w', _ → K σ' w' from by assumption) _ _ ?_ | refine W_seq_k fun K hK => ?_ | refine W_block_k fun K hK => ?_ | refine W_skip ?_ | refine W_ret ?_) | ((first | ((with_reducible refine W_id ?_); refine W_reg (by decide) (by rfl) ?_) | (with_reducible first | refine W_cond ?_ | refine hZ _ _ ?_ | refine W_exit ?_ | refine Wo_id ?_)); repeat1' simp only [push_cast, Nat.reduceBEq, Nat.reduceLT, Nat.reduceEqDiff, reduceIte, reduceCtorEq, Nat.reduceMul, Nat.reduceAdd, Nat.reduceSub, Int.reduceEq, Int.reduceLT, Int.reduceLE, Int.reduceNeg, Int.reduceAdd, Int.reduceSub, Int.reduceMul, Nat.reduceLeDiff, Int.reduceToNat, b0, b1, b3, h1, hcell]) | ((repeat ((fail_if_success with_reducible refine hK _ _ ?_); clear hK K)); (with_reducible refine hK _ _ ?_); clear hK K)))
      refine (hso y hmem w2 hx).mono ?_
      rintro v w3 ⟨rfl, hx3⟩
      cases hpy : p y with
      | true =>
        rw [if_pos hpy] at he
        ((repeat simp only [push_cast, Nat.reduceBEq, Nat.reduceLT, Nat.reduceEqDiff, reduceIte, reduceCtorEq, Nat.reduceMul, Nat.reduceAdd, Nat.reduceSub, Int.reduceEq, Int.reduceLT, Int.reduceLE, Int.reduceNeg, Int.reduceAdd, Int.reduceSub, Int.reduceMul, Nat.reduceLeDiff, Int.reduceToNat]); (repeat (first | (with_reducible first | (refine hK _ _ ?_; clear hK K) | refine (show ∀ σ' w', _ → K σ' w' from by assumption) _ _ ?_ | refine W_seq_k fun K hK => ?_ | refine W_block_k fun K hK => ?_ | refine W_skip ?_ | refine W_ret ?_) | ((first | ((with_reducible refine W_id ?_); refine W_reg (by decide) (by rfl) ?_) | (with_reducible first | refine W_cond ?_ | refine hZ _ _ ?_ | refine W_exit ?_ | refine Wo_id ?_)); repeat1' simp only [push_cast, Nat.reduceBEq, Nat.reduceLT, Nat.reduceEqDiff, reduceIte, reduceCtorEq, Nat.reduceMul, Nat.reduceAdd, Nat.reduceSub, Int.reduceEq, Int.reduceLT, Int.reduceLE, Int.reduceNeg, Int.reduceAdd, Int.reduceSub, Int.reduceMul, Nat.reduceLeDiff, Int.reduceToNat]) | ((repeat ((fail_if_success with_reducible refine hK _ _ ?_); clear hK K)); (with_reducible refine hK _ _ ?_); clear hK K))))
        rw [he]
        exact ⟨rfl, hx.trans hx3⟩
      | false =>
        rw [if_neg (by rw [hpy]; decide)] at he
        ((repeat simp only [push_cast, Nat.reduceBEq, Nat.reduceLT, Nat.reduceEqDiff, reduceIte, reduceCtorEq, Nat.reduceMul, Nat.reduceAdd, Nat.reduceSub, Int.reduceEq, Int.reduceLT, Int.reduceLE, Int.reduceNeg, Int.reduceAdd, Int.reduceSub, Int.reduceMul, Nat.reduceLeDiff, Int.reduceToNat, b2]); (repeat (first | (with_reducible first | (refine hK _ _ ?_; clear hK K) | refine (show ∀ σ' w', _ → K σ' w' from by assumption) _ _ ?_ | refine W_seq_k fun K hK => ?_ | refine W_block_k fun K hK => ?_ | refine W_skip ?_ | refine W_ret ?_) | ((first | ((with_reducible refine W_id ?_); refine W_reg (by decide) (by rfl) ?_) | (with_reducible first | refine W_cond ?_ | refine hZ _ _ ?_ | refine W_exit ?_ | refine Wo_id ?_)); repeat1' simp only [push_cast, Nat.reduceBEq, Nat.reduceLT, Nat.reduceEqDiff, reduceIte, reduceCtorEq, Nat.reduceMul, Nat.reduceAdd, Nat.reduceSub, Int.reduceEq, Int.reduceLT, Int.reduceLE, Int.reduceNeg, Int.reduceAdd, Int.reduceSub, Int.reduceMul, Nat.reduceLeDiff, Int.reduceToNat, b2]) | ((repeat ((fail_if_success with_reducible refine hK _ _ ?_); clear hK K)); (with_reducible refine hK _ _ ?_); clear hK K))))
        refine ⟨k, by omega, ?_⟩
        (repeat simp only [push_cast, Nat.reduceBEq, Nat.reduceLT, Nat.reduceEqDiff, reduceIte, reduceCtorEq, Nat.reduceMul, Nat.reduceAdd, Nat.reduceSub, Int.reduceEq, Int.reduceLT, Int.reduceLE, Int.reduceNeg, Int.reduceAdd, Int.reduceSub, Int.reduceMul, Nat.reduceLeDiff, Int.reduceToNat])
        exact ⟨by omega, he, hx.trans hx3⟩
def openN (l : List Int) : Int := lastF (fun i => decide (i = -1)) l 0 l.length + 1
def indexN (l : List Int) (i : Int) : Int := if i < 0 then -1 else lastF (fun y => decide (y = i)) l 0 l.length
theorem lastF_rng (p : Int → Bool) (l : List Int) (fr : Int) : ∀ k : Nat, -1 ≤ lastF p l fr k ∧ lastF p l fr k < k
  | 0 => by simp [lastF]
  | k + 1 => by
    have := lastF_rng p l fr k
    rw [lastF]
    split
    · omega
    · split <;> omega
theorem open1_c (i : Int) {w : World} : Gives Try.prog 90 #[.int .i64 i] w fun v w' => v = .bool (decide (i = -1)) ∧ Ext w w' := by
  refine Gives.of_W Try.call90 Try.func90 rfl Try.ntmps90 (by simp) ?_; intro Z hZ
  (repeat (first | (with_reducible first | (refine hK _ _ ?_; clear hK K) | refine (show ∀ σ' w', _ → K σ' w' from by assumption) _ _ ?_ | refine W_seq_k fun K hK => ?_ | refine W_block_k fun K hK => ?_ | refine W_skip ?_ | refine W_ret ?_) | ((first | ((with_reducible refine W_id ?_); refine W_reg (by decide) (by rfl) ?_) | (with_reducible first | refine W_cond ?_ | refine hZ _ _ ?_ | refine W_exit ?_ | refine Wo_id ?_)); repeat1' simp only [push_cast, Nat.reduceBEq, Nat.reduceLT, Nat.reduceEqDiff, reduceIte, reduceCtorEq, Nat.reduceMul, Nat.reduceAdd, Nat.reduceSub, Int.reduceEq, Int.reduceLT, Int.reduceLE, Int.reduceNeg, Int.reduceAdd, Int.reduceSub, Int.reduceMul, Nat.reduceLeDiff, Int.reduceToNat]) | ((repeat ((fail_if_success with_reducible refine hK _ _ ?_); clear hK K)); (with_reducible refine hK _ _ ?_); clear hK K)))
  exact Ext.refl _
theorem open_c (h : FL w pl (.pointer (some ⟨pa, 0, none⟩)) lv l bo) (hl : l.length < 100000) : Gives Try.prog 70 #[.pointer (some ⟨pl, 0, none⟩)] w fun v w' => v = .int .i64 (openN l) ∧ Ext w w' := by
  have hr := lastF_rng (fun i => decide (i = -1)) l 0 l.length
  have s0 : inI64 (lastF (fun i => decide (i = -1)) l 0 l.length + 1) := by unfold inI64; omega
  refine Gives.of_W Try.call70 Try.func70 rfl Try.ntmps70 (by simp) ?_; intro Z hZ
  (repeat (first | (with_reducible first | (refine hK _ _ ?_; clear hK K) | refine (show ∀ σ' w', _ → K σ' w' from by assumption) _ _ ?_ | refine W_seq_k fun K hK => ?_ | refine W_block_k fun K hK => ?_ | refine W_skip ?_ | refine W_ret ?_) | ((first | ((with_reducible refine W_id ?_); refine W_reg (by decide) (by rfl) ?_) | (with_reducible first | refine W_cond ?_ | refine hZ _ _ ?_ | refine W_exit ?_ | refine Wo_id ?_)); repeat1' simp only [push_cast, Nat.reduceBEq, Nat.reduceLT, Nat.reduceEqDiff, reduceIte, reduceCtorEq, Nat.reduceMul, Nat.reduceAdd, Nat.reduceSub, Int.reduceEq, Int.reduceLT, Int.reduceLE, Int.reduceNeg, Int.reduceAdd, Int.reduceSub, Int.reduceMul, Nat.reduceLeDiff, Int.reduceToNat]) | ((repeat ((fail_if_success with_reducible refine hK _ _ ?_); clear hK K)); (with_reducible refine hK _ _ ?_); clear hK K)))
  refine (last_c h hl (first := #[]) (captured := #[]) (p := fun i => decide (i = -1)) 0 (by omega) fun i _ w1 _ => open1_c i).mono ?_
  rintro v w' ⟨rfl, hx⟩
  ((repeat simp only [push_cast, Nat.reduceBEq, Nat.reduceLT, Nat.reduceEqDiff, reduceIte, reduceCtorEq, Nat.reduceMul, Nat.reduceAdd, Nat.reduceSub, Int.reduceEq, Int.reduceLT, Int.reduceLE, Int.reduceNeg, Int.reduceAdd, Int.reduceSub, Int.reduceMul, Nat.reduceLeDiff, Int.reduceToNat, s0]); (repeat (first | (with_reducible first | (refine hK _ _ ?_; clear hK K) | refine (show ∀ σ' w', _ → K σ' w' from by assumption) _ _ ?_ | refine W_seq_k fun K hK => ?_ | refine W_block_k fun K hK => ?_ | refine W_skip ?_ | refine W_ret ?_) | ((first | ((with_reducible refine W_id ?_); refine W_reg (by decide) (by rfl) ?_) | (with_reducible first | refine W_cond ?_ | refine hZ _ _ ?_ | refine W_exit ?_ | refine Wo_id ?_)); repeat1' simp only [push_cast, Nat.reduceBEq, Nat.reduceLT, Nat.reduceEqDiff, reduceIte, reduceCtorEq, Nat.reduceMul, Nat.reduceAdd, Nat.reduceSub, Int.reduceEq, Int.reduceLT, Int.reduceLE, Int.reduceNeg, Int.reduceAdd, Int.reduceSub, Int.reduceMul, Nat.reduceLeDiff, Int.reduceToNat, s0]) | ((repeat ((fail_if_success with_reducible refine hK _ _ ?_); clear hK K)); (with_reducible refine hK _ _ ?_); clear hK K))))
  exact ⟨rfl, hx⟩
theorem index1_c (i x : Int) {w : World} {px : Nat} (hp : w.heap[px]? = some (.cells #[.int .i64 x] 3 (0, 0))) : Gives Try.prog 73 #[.int .i64 i, .pointer (some ⟨px, 0, none⟩)] w fun v w' => v = .bool (decide (i = x)) ∧ Ext w w' := by
  refine Gives.of_W Try.call73 Try.func73 rfl Try.ntmps73 (by simp) ?_; intro Z hZ
  (repeat (first | (with_reducible first | (refine hK _ _ ?_; clear hK K) | refine (show ∀ σ' w', _ → K σ' w' from by assumption) _ _ ?_ | refine W_seq_k fun K hK => ?_ | refine W_block_k fun K hK => ?_ | refine W_skip ?_ | refine W_ret ?_) | ((first | ((with_reducible refine W_id ?_); refine W_reg (by decide) (by rfl) ?_) | (with_reducible first | refine W_cond ?_ | refine hZ _ _ ?_ | refine W_exit ?_ | refine Wo_id ?_)); repeat1' simp only [push_cast, Nat.reduceBEq, Nat.reduceLT, Nat.reduceEqDiff, reduceIte, reduceCtorEq, Nat.reduceMul, Nat.reduceAdd, Nat.reduceSub, Int.reduceEq, Int.reduceLT, Int.reduceLE, Int.reduceNeg, Int.reduceAdd, Int.reduceSub, Int.reduceMul, Nat.reduceLeDiff, Int.reduceToNat, cell_h, hp, cellO_cells]) | ((repeat ((fail_if_success with_reducible refine hK _ _ ?_); clear hK K)); (with_reducible refine hK _ _ ?_); clear hK K)))
  exact Ext.refl _
theorem findex_c (h : FL w pl (.pointer (some ⟨pa, 0, none⟩)) lv l bo) (hl : l.length < 100000) (i : Int) : Gives Try.prog 32 #[.pointer (some ⟨pl, 0, none⟩), .int .i64 i] w fun v w' => v = .int .i64 (indexN l i) ∧ Ext w w' := by
  have hx1 := Ext.alloc w (.cells #[.int .i64 i] 3)
  have hp1 : (w.alloc (.cells #[.int .i64 i] 3)).heap[w.heap.size]? = some (.cells #[.int .i64 i] 3 (0, 0)) := by rw [heap_alloc_h, if_pos rfl]
  by_cases hi : i < 0
  · refine Gives.of_W Try.call32 Try.func32 rfl Try.ntmps32 (by simp) ?_; intro Z hZ
    (repeat (first | (with_reducible first | (refine hK _ _ ?_; clear hK K) | refine (show ∀ σ' w', _ → K σ' w' from by assumption) _ _ ?_ | refine W_seq_k fun K hK => ?_ | refine W_block_k fun K hK => ?_ | refine W_skip ?_ | refine W_ret ?_) | ((first | ((with_reducible refine W_id ?_); refine W_reg (by decide) (by rfl) ?_) | (with_reducible first | refine W_cond ?_ | refine hZ _ _ ?_ | refine W_exit ?_ | refine Wo_id ?_)); repeat1' simp only [push_cast, Nat.reduceBEq, Nat.reduceLT, Nat.reduceEqDiff, reduceIte, reduceCtorEq, Nat.reduceMul, Nat.reduceAdd, Nat.reduceSub, Int.reduceEq, Int.reduceLT, Int.reduceLE, Int.reduceNeg, Int.reduceAdd, Int.reduceSub, Int.reduceMul, Nat.reduceLeDiff, Int.reduceToNat, cell_h, heap_alloc_h, cellO_cells, vcells_int, hi]) | ((repeat ((fail_if_success with_reducible refine hK _ _ ?_); clear hK K)); (with_reducible refine hK _ _ ?_); clear hK K)))
    exact ⟨by rw [indexN, if_pos hi], hx1⟩
  · refine Gives.of_W Try.call32 Try.func32 rfl Try.ntmps32 (by simp) ?_; intro Z hZ
    (repeat (first | (with_reducible first | (refine hK _ _ ?_; clear hK K) | refine (show ∀ σ' w', _ → K σ' w' from by assumption) _ _ ?_ | refine W_seq_k fun K hK => ?_ | refine W_block_k fun K hK => ?_ | refine W_skip ?_ | refine W_ret ?_) | ((first | ((with_reducible refine W_id ?_); refine W_reg (by decide) (by rfl) ?_) | (with_reducible first | refine W_cond ?_ | refine hZ _ _ ?_ | refine W_exit ?_ | refine Wo_id ?_)); repeat1' simp only [push_cast, Nat.reduceBEq, Nat.reduceLT, Nat.reduceEqDiff, reduceIte, reduceCtorEq, Nat.reduceMul, Nat.reduceAdd, Nat.reduceSub, Int.reduceEq, Int.reduceLT, Int.reduceLE, Int.reduceNeg, Int.reduceAdd, Int.reduceSub, Int.reduceMul, Nat.reduceLeDiff, Int.reduceToNat, cell_h, heap_alloc_h, cellO_cells, vcells_int, hi]) | ((repeat ((fail_if_success with_reducible refine hK _ _ ?_); clear hK K)); (with_reducible refine hK _ _ ?_); clear hK K)))
    refine (last_c (h.ext hx1) hl (first := #[]) (captured := #[.pointer (some ⟨w.heap.size, 0, none⟩)]) (p := fun y => decide (y = i)) 0 (by omega) fun y _ w1 hx => index1_c y i (hx.blk hp1)).mono ?_
    rintro v w' ⟨rfl, hx⟩
    ((repeat simp only [push_cast, Nat.reduceBEq, Nat.reduceLT, Nat.reduceEqDiff, reduceIte, reduceCtorEq, Nat.reduceMul, Nat.reduceAdd, Nat.reduceSub, Int.reduceEq, Int.reduceLT, Int.reduceLE, Int.reduceNeg, Int.reduceAdd, Int.reduceSub, Int.reduceMul, Nat.reduceLeDiff, Int.reduceToNat]); (repeat (first | (with_reducible first | (refine hK _ _ ?_; clear hK K) | refine (show ∀ σ' w', _ → K σ' w' from by assumption) _ _ ?_ | refine W_seq_k fun K hK => ?_ | refine W_block_k fun K hK => ?_ | refine W_skip ?_ | refine W_ret ?_) | ((first | ((with_reducible refine W_id ?_); refine W_reg (by decide) (by rfl) ?_) | (with_reducible first | refine W_cond ?_ | refine hZ _ _ ?_ | refine W_exit ?_ | refine Wo_id ?_)); repeat1' simp only [push_cast, Nat.reduceBEq, Nat.reduceLT, Nat.reduceEqDiff, reduceIte, reduceCtorEq, Nat.reduceMul, Nat.reduceAdd, Nat.reduceSub, Int.reduceEq, Int.reduceLT, Int.reduceLE, Int.reduceNeg, Int.reduceAdd, Int.reduceSub, Int.reduceMul, Nat.reduceLeDiff, Int.reduceToNat]) | ((repeat ((fail_if_success with_reducible refine hK _ _ ?_); clear hK K)); (with_reducible refine hK _ _ ?_); clear hK K))))
    exact ⟨by rw [indexN, if_neg hi], hx1.trans hx⟩
end
end Go.Proofs.Ytkafpameheohdaa
end
section
set_option linter.unusedSimpArgs false
set_option linter.unusedVariables false
namespace Go.Vk
theorem attrCells_get0 {l : List (ByteArray × ByteArray)} {i : Nat} {x : ByteArray × ByteArray} (h : l[i]? = some x) : (attrCells l)[i * 2]? = some (.string x.1) ∧ (attrCells l)[i * 2 + 1]? = some (.string x.2) := by
  induction l generalizing i with
  | nil => simp at h
  | cons y r ih =>
    cases i with
    | zero => simp only [List.getElem?_cons_zero, Option.some.injEq] at h; subst h; exact ⟨rfl, rfl⟩
    | succ i =>
      rw [List.getElem?_cons_succ] at h
      obtain ⟨h1, h2⟩ := ih h
      rw [show (i + 1) * 2 = i * 2 + 1 + 1 by omega]
      exact ⟨h1, h2⟩
theorem attrs_len {w : World} {v : Value} {l : List (ByteArray × ByteArray)} (h : RdAt w 2 v (attrCells l)) : ∃ a c, v = .slice a l.length c ∧ l.length ≤ c ∧ ∀ i x, l[i]? = some x → ∃ b o, a = some ⟨b, o, none⟩ ∧ w.cell? ⟨b, o + i * 2, none⟩ = some (.string x.1) ∧ w.cell? ⟨b, o + i * 2 + 1, none⟩ = some (.string x.2) := by
  obtain ⟨a, n, c, rfl, h2, h3, h4⟩ := h
  rw [attrCells_length] at h3
  obtain rfl : n = l.length := by omega
  refine ⟨a, c, rfl, h2, fun i x hx => ?_⟩
  obtain ⟨g1, g2⟩ := attrCells_get0 hx
  obtain ⟨b, o, rfl, k1⟩ := h4 _ _ g1
  obtain ⟨b', o', e, k2⟩ := h4 _ _ g2
  cases e
  exact ⟨b, o, rfl, k1, by rw [Nat.add_assoc]; exact k2⟩
def idxA (p : ByteArray × ByteArray → Bool) : List (ByteArray × ByteArray) → Nat → Int
  | [], _ => -1
  | y :: r, k => if p y = true then k else idxA p r (k + 1)
theorem idxA_any (p : ByteArray × ByteArray → Bool) : ∀ (l : List (ByteArray × ByteArray)) (k : Nat), decide (0 ≤ idxA p l k) = l.any p
  | [], k => by simp [idxA]
  | y :: r, k => by
    rw [idxA, List.any_cons]
    by_cases h : p y = true
    · rw [if_pos h, h]; simp
    · rw [if_neg h, idxA_any p r]; simp [h]
theorem idxA_skip (p : ByteArray × ByteArray → Bool) : ∀ (l : List (ByteArray × ByteArray)) (j k : Nat), (∀ y ∈ l.take j, p y = false) → j ≤ l.length → idxA p l k = idxA p (l.drop j) (k + j)
  | l, 0, k, _, _ => by simp
  | [], j + 1, k, _, h => by simp at h
  | y :: r, j + 1, k, h, hl => by
    rw [idxA, if_neg (by simp [h y (by simp)]), List.drop_succ_cons, idxA_skip p r j (k + 1) (fun z hz => h z (by simp [hz])) (by simpa using hl)]
    congr 1; omega
end Go.Vk
end
section
set_option linter.unusedSimpArgs false
set_option linter.unusedVariables false
namespace Go.Vk
def hasA (x : ByteArray × ByteArray) (y : ByteArray × ByteArray) : Bool := decide (x.1 = y.1 ∧ x.2 = y.2)
def likeN (s n : Nd) : Bool := decide (n.kind = 3 ∧ n.space = s.space ∧ n.name = s.name ∧ n.attrs.length = s.attrs.length) && s.attrs.all fun x => n.attrs.any (hasA x)
end Go.Vk
namespace Go.Proofs.Ytkafpameheohdaa
open Go Go.Vk
theorem eq94g (s t s' t' : ByteArray) (w : World) : (Op.equalIn 10000 94 (.agg #[.string s, .string t]) (.agg #[.string s', .string t'])).run Try.prog w = .ok (decide (s = s' ∧ t = t')) w := by
  have hS : Try.prog.underlying 94 = some (.struct (Try.prog.fieldsOf 94)) := by kernel_rfl
  have hp : Try.prog.stoodInHeld 94 = false := by kernel_rfl
  rw [show (10000 : Nat) = 9998 + 1 + 1 from rfl, run_equalIn_agg w (9998 + 1) 94 _ _ hS hp]
  simp only [Program.fieldsOf, Try.underlying94]
  have e : ∀ (a b : ByteArray) (w : World), (Op.equalIn (9998 + 1) 9 (.string a) (.string b)).run Try.prog w = .ok (decide (a = b)) w := fun a b w => by
    rw [run_equalIn_string _ 9998 9 _ _ Try.underlying9, Vk.toList_beq]
  by_cases h1 : s = s' <;> by_cases h2 : t = t' <;> simp [Op.eqFields, part, Try.sizeOf9, e, Sem.run, h1, h2]
theorem eql94 {o1 o2 : Operand} (s t s' t' : ByteArray) (w : World) (K : Value → World → Prop) : Pure1 Try.prog (do eqGuard .eql 94 o1 o2 (.agg #[.string s, .string t]) (.agg #[.string s', .string t']); binOp .eql 94 (.agg #[.string s, .string t]) (.agg #[.string s', .string t'])) w K = K (.bool (decide (s = s' ∧ t = t'))) w :=
  Pure1_eq (fun w => by
    rw [Sem.run_bind, run_eqGuard_agg w .eql 94 o1 o2 _ _ (by kernel_rfl), Result.andThen_ok, run_eql_struct, eq94g]; rfl) w K
set_option maxHeartbeats 40000000
theorem sidx_c {w : World} {v : Value} {l : List (ByteArray × ByteArray)} (ha : RdAt w 2 v (attrCells l)) (hb : l.length < 1000000000) (x : ByteArray × ByteArray) :
    Gives Try.prog 96 #[v, .agg #[.string x.1, .string x.2]] w fun u w' => u = .int .i64 (idxA (hasA x) l 0) ∧ Ext w w' := by
  have hx1 := Ext.alloc w (.cells #[.string x.1, .string x.2] 94)
  have hp1 : (w.alloc (.cells #[.string x.1, .string x.2] 94)).heap[w.heap.size]? = some (.cells #[.string x.1, .string x.2] 94 (0, 0)) := by rw [heap_alloc_h, if_pos rfl]
  obtain ⟨a, c, rfl, hc, _⟩ := attrs_len ha
  refine Gives.of_W Try.call96 Try.func96 rfl Try.ntmps96 (by simp) ?_; intro Z hZ
  (repeat (first | (with_reducible first | (refine hK _ _ ?_; clear hK K) | refine (show ∀ σ' w', _ → K σ' w' from by assumption) _ _ ?_ | refine W_seq_k fun K hK => ?_ | refine W_block_k fun K hK => ?_ | refine W_skip ?_ | refine W_ret ?_) | ((first | ((with_reducible refine W_id ?_); refine W_reg (by decide) (by rfl) ?_) | (with_reducible first | refine W_cond ?_ | refine hZ _ _ ?_ | refine W_exit ?_ | refine Wo_id ?_)); repeat1' simp only [push_cast, Nat.reduceBEq, Nat.reduceLT, Nat.reduceEqDiff, reduceIte, reduceCtorEq, Nat.reduceMul, Nat.reduceAdd, Nat.reduceSub, Int.reduceEq, Int.reduceLT, Int.reduceLE, Int.reduceNeg, Int.reduceAdd, Int.reduceSub, Int.reduceMul, Nat.reduceLeDiff, Int.reduceToNat, vcells_agg]) | ((repeat ((fail_if_success with_reducible refine hK _ _ ?_); clear hK K)); (with_reducible refine hK _ _ ?_); clear hK K)))
  generalize w.alloc (.cells #[.string x.1, .string x.2] 94) = w1 at *
  refine W_loop (S := Nat) (fun k => [(0, .slice a l.length c), (3, .pointer (some ⟨w.heap.size, 0, none⟩)), (7, .int .i64 (l.length : Int)), (8, .int .i64 (k : Int))])
    (fun k w2 => k ≤ l.length ∧ (∀ y ∈ l.take k, hasA x y = false) ∧ Ext w1 w2) (fun k => l.length - k) 0 ?_ ?_ ?_
  · (repeat simp only [push_cast, Nat.reduceBEq, Nat.reduceLT, Nat.reduceEqDiff, reduceIte, reduceCtorEq, Nat.reduceMul, Nat.reduceAdd, Nat.reduceSub, Int.reduceEq, Int.reduceLT, Int.reduceLE, Int.reduceNeg, Int.reduceAdd, Int.reduceSub, Int.reduceMul, Nat.reduceLeDiff, Int.reduceToNat])
  · exact ⟨by omega, by simp, Ext.refl _⟩
  rintro k w2 ⟨hk, hn, hx⟩
  have hsk := idxA_skip (hasA x) l k 0 hn hk
  rw [Nat.zero_add] at hsk
  by_cases hkl : k < l.length
  · obtain ⟨y, hy⟩ : ∃ y, l[k]? = some y := ⟨_, List.getElem?_eq_getElem hkl⟩
    have hd : l.drop k = y :: l.drop (k + 1) := by
      rw [List.drop_eq_getElem_cons hkl]; congr 1
      rw [List.getElem?_eq_getElem hkl] at hy; exact Option.some.inj hy
    obtain ⟨_, _, e, _, hcell2⟩ := attrs_len ((ha.ext hx1).ext (hx.trans (Ext.drew _)))
    cases e
    obtain ⟨b, o, rfl, q1, q2⟩ := hcell2 k y hy
    have b0 : (k : Int) < (l.length : Int) := by omega
    have b1 : (0 : Int) ≤ (k : Int) := by omega
    have b2 : inI64 ((k : Int) + 1) := by unfold inI64; omega
    have hp2 := (hx.trans (Ext.drew _)).blk hp1
    have hc1 : w2.drew.cell? ⟨w.heap.size, 0, none⟩ = some (.string x.1) := by rw [cell_h, hp2]; rfl
    have hc2 : w2.drew.cell? ⟨w.heap.size, 1, none⟩ = some (.string x.2) := by rw [cell_h, hp2]; rfl
    rw [hd, idxA] at hsk
    clear hcell2
    (repeat (first | (with_reducible first | (refine hK _ _ ?_; clear hK K) | refine (show ∀ σ' w', _ → K σ' w' from by assumption) _ _ ?_ | refine W_seq_k fun K hK => ?_ | refine W_block_k fun K hK => ?_ | refine W_skip ?_ | refine W_ret ?_) | ((first | ((with_reducible refine W_id ?_); refine W_reg (by decide) (by rfl) ?_) | (with_reducible first | refine W_cond ?_ | refine hZ _ _ ?_ | refine W_exit ?_ | refine Wo_id ?_)); repeat1' simp only [push_cast, Nat.reduceBEq, Nat.reduceLT, Nat.reduceEqDiff, reduceIte, reduceCtorEq, Nat.reduceMul, Nat.reduceAdd, Nat.reduceSub, Int.reduceEq, Int.reduceLT, Int.reduceLE, Int.reduceNeg, Int.reduceAdd, Int.reduceSub, Int.reduceMul, Nat.reduceLeDiff, Int.reduceToNat, b0, b1]) | ((repeat ((fail_if_success with_reducible refine hK _ _ ?_); clear hK K)); (with_reducible refine hK _ _ ?_); clear hK K)))
    refine W_draw (.pas 0 (.pas 1 (.pas 2 (.pas 3 (.pas 4 (.pas 5 .fin)))))) (fun _ => True) (by decide) mixed (by kernel_rfl) ?_
    (repeat (first | ((first | refine pas_plain rfl ?_ | refine pas_g rfl rfl ?_ | refine act_plain rfl ?_ | refine act_g rfl rfl ?_ | refine last_plain rfl ?_ | refine tail_plain rfl ?_ | refine tail_g rfl rfl ?_); (repeat simp only [push_cast, Nat.reduceBEq, Nat.reduceLT, Nat.reduceEqDiff, reduceIte, reduceCtorEq, Nat.reduceMul, Nat.reduceAdd, Nat.reduceSub, Int.reduceEq, Int.reduceLT, Int.reduceLE, Int.reduceNeg, Int.reduceAdd, Int.reduceSub, Int.reduceMul, Nat.reduceLeDiff, Int.reduceToNat, b0, b1, q1, q2, hc1, hc2, eql94])) | (refine tail_fin ?_) | (refine sch_fin ?_)))
    by_cases hyx : hasA x y = true
    · have hyx' : (x.1 = y.1 ∧ x.2 = y.2) = True := eq_true (by simpa [hasA] using hyx)
      ((repeat simp only [push_cast, Nat.reduceBEq, Nat.reduceLT, Nat.reduceEqDiff, reduceIte, reduceCtorEq, Nat.reduceMul, Nat.reduceAdd, Nat.reduceSub, Int.reduceEq, Int.reduceLT, Int.reduceLE, Int.reduceNeg, Int.reduceAdd, Int.reduceSub, Int.reduceMul, Nat.reduceLeDiff, Int.reduceToNat, hyx', decide_true]); (repeat (first | (with_reducible first | (refine hK _ _ ?_; clear hK K) | refine (show ∀ σ' w', _ → K σ' w' from by assumption) _ _ ?_ | refine W_seq_k fun K hK => ?_ | refine W_block_k fun K hK => ?_ | refine W_skip ?_ | refine W_ret ?_) | ((first | ((with_reducible refine W_id ?_); refine W_reg (by decide) (by rfl) ?_) | (with_reducible first | refine W_cond ?_ | refine hZ _ _ ?_ | refine W_exit ?_ | refine Wo_id ?_)); repeat1' simp only [push_cast, Nat.reduceBEq, Nat.reduceLT, Nat.reduceEqDiff, reduceIte, reduceCtorEq, Nat.reduceMul, Nat.reduceAdd, Nat.reduceSub, Int.reduceEq, Int.reduceLT, Int.reduceLE, Int.reduceNeg, Int.reduceAdd, Int.reduceSub, Int.reduceMul, Nat.reduceLeDiff, Int.reduceToNat, hyx', decide_true]) | ((repeat ((fail_if_success with_reducible refine hK _ _ ?_); clear hK K)); (with_reducible refine hK _ _ ?_); clear hK K))))
      exact ⟨by rw [hsk, if_pos hyx], hx1.trans (hx.trans (Ext.drew _))⟩
    · have hyx' : (x.1 = y.1 ∧ x.2 = y.2) = False := eq_false (by simpa [hasA] using hyx)
      ((repeat simp only [push_cast, Nat.reduceBEq, Nat.reduceLT, Nat.reduceEqDiff, reduceIte, reduceCtorEq, Nat.reduceMul, Nat.reduceAdd, Nat.reduceSub, Int.reduceEq, Int.reduceLT, Int.reduceLE, Int.reduceNeg, Int.reduceAdd, Int.reduceSub, Int.reduceMul, Nat.reduceLeDiff, Int.reduceToNat, hyx', decide_false, b2]); (repeat (first | (with_reducible first | (refine hK _ _ ?_; clear hK K) | refine (show ∀ σ' w', _ → K σ' w' from by assumption) _ _ ?_ | refine W_seq_k fun K hK => ?_ | refine W_block_k fun K hK => ?_ | refine W_skip ?_ | refine W_ret ?_) | ((first | ((with_reducible refine W_id ?_); refine W_reg (by decide) (by rfl) ?_) | (with_reducible first | refine W_cond ?_ | refine hZ _ _ ?_ | refine W_exit ?_ | refine Wo_id ?_)); repeat1' simp only [push_cast, Nat.reduceBEq, Nat.reduceLT, Nat.reduceEqDiff, reduceIte, reduceCtorEq, Nat.reduceMul, Nat.reduceAdd, Nat.reduceSub, Int.reduceEq, Int.reduceLT, Int.reduceLE, Int.reduceNeg, Int.reduceAdd, Int.reduceSub, Int.reduceMul, Nat.reduceLeDiff, Int.reduceToNat, hyx', decide_false, b2]) | ((repeat ((fail_if_success with_reducible refine hK _ _ ?_); clear hK K)); (with_reducible refine hK _ _ ?_); clear hK K))))
      refine ⟨k + 1, by omega, ?_⟩
      (repeat simp only [push_cast, Nat.reduceBEq, Nat.reduceLT, Nat.reduceEqDiff, reduceIte, reduceCtorEq, Nat.reduceMul, Nat.reduceAdd, Nat.reduceSub, Int.reduceEq, Int.reduceLT, Int.reduceLE, Int.reduceNeg, Int.reduceAdd, Int.reduceSub, Int.reduceMul, Nat.reduceLeDiff, Int.reduceToNat])
      refine ⟨by omega, fun z hz => ?_, hx.trans (Ext.drew _)⟩
      rw [List.take_add_one, hy] at hz
      simp only [Option.toList_some, List.mem_append, List.mem_singleton] at hz
      rcases hz with hz | rfl
      · exact hn z hz
      · simpa using hyx
  · have hke : k = l.length := by omega
    subst hke
    have b0 : ¬ (l.length : Int) < (l.length : Int) := by omega
    rw [List.drop_length, idxA] at hsk
    (repeat (first | (with_reducible first | (refine hK _ _ ?_; clear hK K) | refine (show ∀ σ' w', _ → K σ' w' from by assumption) _ _ ?_ | refine W_seq_k fun K hK => ?_ | refine W_block_k fun K hK => ?_ | refine W_skip ?_ | refine W_ret ?_) | ((first | ((with_reducible refine W_id ?_); refine W_reg (by decide) (by rfl) ?_) | (with_reducible first | refine W_cond ?_ | refine hZ _ _ ?_ | refine W_exit ?_ | refine Wo_id ?_)); repeat1' simp only [push_cast, Nat.reduceBEq, Nat.reduceLT, Nat.reduceEqDiff, reduceIte, reduceCtorEq, Nat.reduceMul, Nat.reduceAdd, Nat.reduceSub, Int.reduceEq, Int.reduceLT, Int.reduceLE, Int.reduceNeg, Int.reduceAdd, Int.reduceSub, Int.reduceMul, Nat.reduceLeDiff, Int.reduceToNat, b0]) | ((repeat ((fail_if_success with_reducible refine hK _ _ ?_); clear hK K)); (with_reducible refine hK _ _ ?_); clear hK K)))
    exact ⟨by rw [hsk], hx1.trans hx⟩
theorem scont_c {w : World} {v : Value} {l : List (ByteArray × ByteArray)} (ha : RdAt w 2 v (attrCells l)) (hb : l.length < 1000000000) (x : ByteArray × ByteArray) :
    Gives Try.prog 89 #[v, .agg #[.string x.1, .string x.2]] w fun u w' => u = .bool (l.any (hasA x)) ∧ Ext w w' := by
  have hx1 := Ext.alloc w (.cells #[.string x.1, .string x.2] 94)
  have hp1 : (w.alloc (.cells #[.string x.1, .string x.2] 94)).heap[w.heap.size]? = some (.cells #[.string x.1, .string x.2] 94 (0, 0)) := by rw [heap_alloc_h, if_pos rfl]
  refine Gives.of_W Try.call89 Try.func89 rfl Try.ntmps89 (by simp) ?_; intro Z hZ
  (repeat (first | (with_reducible first | (refine hK _ _ ?_; clear hK K) | refine (show ∀ σ' w', _ → K σ' w' from by assumption) _ _ ?_ | refine W_seq_k fun K hK => ?_ | refine W_block_k fun K hK => ?_ | refine W_skip ?_ | refine W_ret ?_) | ((first | ((with_reducible refine W_id ?_); refine W_reg (by decide) (by rfl) ?_) | (with_reducible first | refine W_cond ?_ | refine hZ _ _ ?_ | refine W_exit ?_ | refine Wo_id ?_)); repeat1' simp only [push_cast, Nat.reduceBEq, Nat.reduceLT, Nat.reduceEqDiff, reduceIte, reduceCtorEq, Nat.reduceMul, Nat.reduceAdd, Nat.reduceSub, Int.reduceEq, Int.reduceLT, Int.reduceLE, Int.reduceNeg, Int.reduceAdd, Int.reduceSub, Int.reduceMul, Nat.reduceLeDiff, Int.reduceToNat, vcells_agg]) | ((repeat ((fail_if_success with_reducible refine hK _ _ ?_); clear hK K)); (with_reducible refine hK _ _ ?_); clear hK K)))
  generalize w.alloc (.cells #[.string x.1, .string x.2] 94) = w1 at *
  ((repeat simp only [push_cast, Nat.reduceBEq, Nat.reduceLT, Nat.reduceEqDiff, reduceIte, reduceCtorEq, Nat.reduceMul, Nat.reduceAdd, Nat.reduceSub, Int.reduceEq, Int.reduceLT, Int.reduceLE, Int.reduceNeg, Int.reduceAdd, Int.reduceSub, Int.reduceMul, Nat.reduceLeDiff, Int.reduceToNat, cell_h, hp1, cellO_cells]); (repeat (first | (with_reducible first | (refine hK _ _ ?_; clear hK K) | refine (show ∀ σ' w', _ → K σ' w' from by assumption) _ _ ?_ | refine W_seq_k fun K hK => ?_ | refine W_block_k fun K hK => ?_ | refine W_skip ?_ | refine W_ret ?_) | ((first | ((with_reducible refine W_id ?_); refine W_reg (by decide) (by rfl) ?_) | (with_reducible first | refine W_cond ?_ | refine hZ _ _ ?_ | refine W_exit ?_ | refine Wo_id ?_)); repeat1' simp only [push_cast, Nat.reduceBEq, Nat.reduceLT, Nat.reduceEqDiff, reduceIte, reduceCtorEq, Nat.reduceMul, Nat.reduceAdd, Nat.reduceSub, Int.reduceEq, Int.reduceLT, Int.reduceLE, Int.reduceNeg, Int.reduceAdd, Int.reduceSub, Int.reduceMul, Nat.reduceLeDiff, Int.reduceToNat, cell_h, hp1, cellO_cells]) | ((repeat ((fail_if_success with_reducible refine hK _ _ ?_); clear hK K)); (with_reducible refine hK _ _ ?_); clear hK K))))
  refine (sidx_c (ha.ext hx1) hb x).mono ?_
  rintro v w' ⟨rfl, hx⟩
  have e := idxA_any (hasA x) l 0
  ((repeat simp only [push_cast, Nat.reduceBEq, Nat.reduceLT, Nat.reduceEqDiff, reduceIte, reduceCtorEq, Nat.reduceMul, Nat.reduceAdd, Nat.reduceSub, Int.reduceEq, Int.reduceLT, Int.reduceLE, Int.reduceNeg, Int.reduceAdd, Int.reduceSub, Int.reduceMul, Nat.reduceLeDiff, Int.reduceToNat]); (repeat (first | (with_reducible first | (refine hK _ _ ?_; clear hK K) | refine (show ∀ σ' w', _ → K σ' w' from by assumption) _ _ ?_ | refine W_seq_k fun K hK => ?_ | refine W_block_k fun K hK => ?_ | refine W_skip ?_ | refine W_ret ?_) | ((first | ((with_reducible refine W_id ?_); refine W_reg (by decide) (by rfl) ?_) | (with_reducible first | refine W_cond ?_ | refine hZ _ _ ?_ | refine W_exit ?_ | refine Wo_id ?_)); repeat1' simp only [push_cast, Nat.reduceBEq, Nat.reduceLT, Nat.reduceEqDiff, reduceIte, reduceCtorEq, Nat.reduceMul, Nat.reduceAdd, Nat.reduceSub, Int.reduceEq, Int.reduceLT, Int.reduceLE, Int.reduceNeg, Int.reduceAdd, Int.reduceSub, Int.reduceMul, Nat.reduceLeDiff, Int.reduceToNat]) | ((repeat ((fail_if_success with_reducible refine hK _ _ ?_); clear hK K)); (with_reducible refine hK _ _ ?_); clear hK K))))
  exact ⟨by rw [← e], hx1.trans hx⟩
set_option maxRecDepth 10000 in
theorem like_c {s m : Laid} {w : World} (hs : RdAt w 2 s.av (attrCells s.nd.attrs)) (hm : RdAt w 2 m.av (attrCells m.nd.attrs)) (hl : s.nd.attrs.length < 1000000) (hl2 : m.nd.attrs.length < 1000000) :
    Gives Try.prog 69 #[s.val, m.val] w fun v w' => v = .bool (likeN s.nd m.nd) ∧ Ext w w' := by
  obtain ⟨sa, sc, esv, _, hsc⟩ := attrs_len hs
  obtain ⟨ma, mc, emv, _, _⟩ := attrs_len hm
  rw [Laid.val_eq, Laid.val_eq]
  have hx : Ext w ((w.alloc (.cells #[.int .i64 s.nd.kind, .string s.nd.name, .string s.nd.text, .int .i64 s.nd.space, s.av, .bool s.nd.dup, .int .i64 s.nd.parent, .int .i64 s.nd.content, s.kv, .int .i64 s.nd.frm, .int .i64 s.nd.to] 101)).alloc (.cells #[.int .i64 m.nd.kind, .string m.nd.name, .string m.nd.text, .int .i64 m.nd.space, m.av, .bool m.nd.dup, .int .i64 m.nd.parent, .int .i64 m.nd.content, m.kv, .int .i64 m.nd.frm, .int .i64 m.nd.to] 30)) := (Ext.alloc _ _).trans (Ext.alloc _ _)
  have c1 : ((w.alloc (.cells #[.int .i64 s.nd.kind, .string s.nd.name, .string s.nd.text, .int .i64 s.nd.space, s.av, .bool s.nd.dup, .int .i64 s.nd.parent, .int .i64 s.nd.content, s.kv, .int .i64 s.nd.frm, .int .i64 s.nd.to] 101)).alloc (.cells #[.int .i64 m.nd.kind, .string m.nd.name, .string m.nd.text, .int .i64 m.nd.space, m.av, .bool m.nd.dup, .int .i64 m.nd.parent, .int .i64 m.nd.content, m.kv, .int .i64 m.nd.frm, .int .i64 m.nd.to] 30)).heap[w.heap.size]? = some (.cells #[.int .i64 s.nd.kind, .string s.nd.name, .string s.nd.text, .int .i64 s.nd.space, s.av, .bool s.nd.dup, .int .i64 s.nd.parent, .int .i64 s.nd.content, s.kv, .int .i64 s.nd.frm, .int .i64 s.nd.to] 101 (0, 0)) := by
    rw [heap_alloc_h, size_alloc_h, if_neg (by omega), heap_alloc_h, if_pos rfl]
  have c2 : ((w.alloc (.cells #[.int .i64 s.nd.kind, .string s.nd.name, .string s.nd.text, .int .i64 s.nd.space, s.av, .bool s.nd.dup, .int .i64 s.nd.parent, .int .i64 s.nd.content, s.kv, .int .i64 s.nd.frm, .int .i64 s.nd.to] 101)).alloc (.cells #[.int .i64 m.nd.kind, .string m.nd.name, .string m.nd.text, .int .i64 m.nd.space, m.av, .bool m.nd.dup, .int .i64 m.nd.parent, .int .i64 m.nd.content, m.kv, .int .i64 m.nd.frm, .int .i64 m.nd.to] 30)).heap[w.heap.size + 1]? = some (.cells #[.int .i64 m.nd.kind, .string m.nd.name, .string m.nd.text, .int .i64 m.nd.space, m.av, .bool m.nd.dup, .int .i64 m.nd.parent, .int .i64 m.nd.content, m.kv, .int .i64 m.nd.frm, .int .i64 m.nd.to] 30 (0, 0)) := by
    rw [heap_alloc_h, size_alloc_h, if_pos rfl]
  rw [esv, emv] at c1 c2 hx ⊢
  have hm' : RdAt w 2 (.slice ma m.nd.attrs.length mc) (attrCells m.nd.attrs) := by rw [← emv]; exact hm
  refine Gives.of_W Try.call69 Try.func69 rfl Try.ntmps69 (by simp) ?_; intro Z hZ
  (repeat (first | (with_reducible first | (refine hK _ _ ?_; clear hK K) | refine (show ∀ σ' w', _ → K σ' w' from by assumption) _ _ ?_ | refine W_seq_k fun K hK => ?_ | refine W_block_k fun K hK => ?_ | refine W_skip ?_ | refine W_ret ?_) | ((first | ((with_reducible refine W_id ?_); refine W_reg (by decide) (by rfl) ?_) | (with_reducible first | refine W_cond ?_ | refine hZ _ _ ?_ | refine W_exit ?_ | refine Wo_id ?_)); repeat1' simp only [push_cast, Nat.reduceBEq, Nat.reduceLT, Nat.reduceEqDiff, reduceIte, reduceCtorEq, Nat.reduceMul, Nat.reduceAdd, Nat.reduceSub, Int.reduceEq, Int.reduceLT, Int.reduceLE, Int.reduceNeg, Int.reduceAdd, Int.reduceSub, Int.reduceMul, Nat.reduceLeDiff, Int.reduceToNat, vcells_agg, size_alloc_h]) | ((repeat ((fail_if_success with_reducible refine hK _ _ ?_); clear hK K)); (with_reducible refine hK _ _ ?_); clear hK K)))
  have no : likeN s.nd m.nd = false → ∀ w2, Ext w w2 → (false = likeN s.nd m.nd ∧ Ext w w2) := fun e w2 h => ⟨by rw [e], h⟩
  generalize (w.alloc (.cells #[.int .i64 s.nd.kind, .string s.nd.name, .string s.nd.text, .int .i64 s.nd.space, .slice sa s.nd.attrs.length sc, .bool s.nd.dup, .int .i64 s.nd.parent, .int .i64 s.nd.content, s.kv, .int .i64 s.nd.frm, .int .i64 s.nd.to] 101)).alloc (.cells #[.int .i64 m.nd.kind, .string m.nd.name, .string m.nd.text, .int .i64 m.nd.space, .slice ma m.nd.attrs.length mc, .bool m.nd.dup, .int .i64 m.nd.parent, .int .i64 m.nd.content, m.kv, .int .i64 m.nd.frm, .int .i64 m.nd.to] 30) = w1 at *
  have f1 : w1.heap[w.heap.size + 1]? = some (.cells #[.int .i64 m.nd.kind, .string m.nd.name, .string m.nd.text, .int .i64 m.nd.space, .slice ma m.nd.attrs.length mc, .bool m.nd.dup, .int .i64 m.nd.parent, .int .i64 m.nd.content, m.kv, .int .i64 m.nd.frm, .int .i64 m.nd.to] 30 (0, 0)) := c2
  by_cases h1 : m.nd.kind = 3
  · by_cases h2 : m.nd.space = s.nd.space
    · by_cases h3 : m.nd.name = s.nd.name
      · by_cases h4 : m.nd.attrs.length = s.nd.attrs.length
        · have h4' : (m.nd.attrs.length : Int) = s.nd.attrs.length := by omega
          have hlike : likeN s.nd m.nd = s.nd.attrs.all fun x => m.nd.attrs.any (hasA x) := by simp [likeN, h1, h2, h3, h4]
          ((repeat simp only [push_cast, Nat.reduceBEq, Nat.reduceLT, Nat.reduceEqDiff, reduceIte, reduceCtorEq, Nat.reduceMul, Nat.reduceAdd, Nat.reduceSub, Int.reduceEq, Int.reduceLT, Int.reduceLE, Int.reduceNeg, Int.reduceAdd, Int.reduceSub, Int.reduceMul, Nat.reduceLeDiff, Int.reduceToNat, cell_h, c1, c2, cellO_cells, h1, h2, h3, h4', not_true_eq_false]); (repeat (first | (with_reducible first | (refine hK _ _ ?_; clear hK K) | refine (show ∀ σ' w', _ → K σ' w' from by assumption) _ _ ?_ | refine W_seq_k fun K hK => ?_ | refine W_block_k fun K hK => ?_ | refine W_skip ?_ | refine W_ret ?_) | ((first | ((with_reducible refine W_id ?_); refine W_reg (by decide) (by rfl) ?_) | (with_reducible first | refine W_cond ?_ | refine hZ _ _ ?_ | refine W_exit ?_ | refine Wo_id ?_)); repeat1' simp only [push_cast, Nat.reduceBEq, Nat.reduceLT, Nat.reduceEqDiff, reduceIte, reduceCtorEq, Nat.reduceMul, Nat.reduceAdd, Nat.reduceSub, Int.reduceEq, Int.reduceLT, Int.reduceLE, Int.reduceNeg, Int.reduceAdd, Int.reduceSub, Int.reduceMul, Nat.reduceLeDiff, Int.reduceToNat, cell_h, c1, c2, cellO_cells, h1, h2, h3, h4', not_true_eq_false]) | ((repeat ((fail_if_success with_reducible refine hK _ _ ?_); clear hK K)); (with_reducible refine hK _ _ ?_); clear hK K))))
          refine W_loop (S := Nat) (fun k => [(3, .pointer (some ⟨w.heap.size + 1, 0, none⟩)), (34, .slice sa s.nd.attrs.length sc), (35, .int .i64 (s.nd.attrs.length : Int)), (36, .int .i64 (k : Int))])
            (fun k w2 => k ≤ s.nd.attrs.length ∧ (∀ x ∈ s.nd.attrs.take k, m.nd.attrs.any (hasA x) = true) ∧ Ext w1 w2) (fun k => s.nd.attrs.length - k) 0 ?_ ?_ ?_
          · (repeat simp only [push_cast, Nat.reduceBEq, Nat.reduceLT, Nat.reduceEqDiff, reduceIte, reduceCtorEq, Nat.reduceMul, Nat.reduceAdd, Nat.reduceSub, Int.reduceEq, Int.reduceLT, Int.reduceLE, Int.reduceNeg, Int.reduceAdd, Int.reduceSub, Int.reduceMul, Nat.reduceLeDiff, Int.reduceToNat])
          · exact ⟨by omega, by simp, Ext.refl _⟩
          rintro k w2 ⟨hk, hall, hx2⟩
          by_cases hkl : k < s.nd.attrs.length
          · obtain ⟨x, hxk⟩ : ∃ x, s.nd.attrs[k]? = some x := ⟨_, List.getElem?_eq_getElem hkl⟩
            obtain ⟨_, _, e, _, hcell2⟩ := attrs_len ((hs.ext hx).ext hx2)
            rw [esv] at e
            cases e
            obtain ⟨b, o, rfl, q1, q2⟩ := hcell2 k x hxk
            rw [cell_h] at q1 q2
            have b0 : (k : Int) < (s.nd.attrs.length : Int) := by omega
            have b1 : (0 : Int) ≤ (k : Int) := by omega
            have b2 : inI64 ((k : Int) + 1) := by unfold inI64; omega
            clear hcell2 hsc
            (repeat (first | (with_reducible first | (refine hK _ _ ?_; clear hK K) | refine (show ∀ σ' w', _ → K σ' w' from by assumption) _ _ ?_ | refine W_seq_k fun K hK => ?_ | refine W_block_k fun K hK => ?_ | refine W_skip ?_ | refine W_ret ?_) | ((first | ((with_reducible refine W_id ?_); refine W_reg (by decide) (by rfl) ?_) | (with_reducible first | refine W_cond ?_ | refine hZ _ _ ?_ | refine W_exit ?_ | refine Wo_id ?_)); repeat1' simp only [push_cast, Nat.reduceBEq, Nat.reduceLT, Nat.reduceEqDiff, reduceIte, reduceCtorEq, Nat.reduceMul, Nat.reduceAdd, Nat.reduceSub, Int.reduceEq, Int.reduceLT, Int.reduceLE, Int.reduceNeg, Int.reduceAdd, Int.reduceSub, Int.reduceMul, Nat.reduceLeDiff, Int.reduceToNat, cell_h, can_h, cellO_cells, canO_cells, setO_cells, heap_set_h, heap_alloc_h, size_set_h, size_alloc_h, vcells_agg, succ_ne, ne_succ, List.setIfInBounds_toArray, List.set_cons_succ, List.set_cons_zero, drew_h, b0, b1, q1, q2, RunV_zero Try.zeroValue94]) | ((repeat ((fail_if_success with_reducible refine hK _ _ ?_); clear hK K)); (with_reducible refine hK _ _ ?_); clear hK K)))
            have z1 : (w2.alloc (.cells #[.string ⟨#[]⟩, .string ⟨#[]⟩] 94)).heap[w2.heap.size]? = some (.cells #[.string ⟨#[]⟩, .string ⟨#[]⟩] 94 (0, 0)) := by rw [heap_alloc_h, if_pos rfl]
            have hp3 := setCells_all z1 (l := [.string x.1, .string x.2]) rfl
            have hx3 : Ext w2 (setCells (w2.alloc (.cells #[.string ⟨#[]⟩, .string ⟨#[]⟩] 94)) ⟨w2.heap.size, 0, none⟩ [.string x.1, .string x.2] 0) := Upd.trans (Ext.alloc w2 _) (Upd.setCells (F := fun b => b = w2.heap.size) (a := ⟨w2.heap.size, 0, none⟩) _ rfl _ 0) fun i hi e => by omega
            generalize setCells (w2.alloc (.cells #[.string ⟨#[]⟩, .string ⟨#[]⟩] 94)) ⟨w2.heap.size, 0, none⟩ [.string x.1, .string x.2] 0 = w3 at *
            have d2 := (hx2.trans hx3).blk c2
            ((repeat simp only [push_cast, Nat.reduceBEq, Nat.reduceLT, Nat.reduceEqDiff, reduceIte, reduceCtorEq, Nat.reduceMul, Nat.reduceAdd, Nat.reduceSub, Int.reduceEq, Int.reduceLT, Int.reduceLE, Int.reduceNeg, Int.reduceAdd, Int.reduceSub, Int.reduceMul, Nat.reduceLeDiff, Int.reduceToNat, cell_h, d2, hp3, cellO_cells]); (repeat (first | (with_reducible first | (refine hK _ _ ?_; clear hK K) | refine (show ∀ σ' w', _ → K σ' w' from by assumption) _ _ ?_ | refine W_seq_k fun K hK => ?_ | refine W_block_k fun K hK => ?_ | refine W_skip ?_ | refine W_ret ?_) | ((first | ((with_reducible refine W_id ?_); refine W_reg (by decide) (by rfl) ?_) | (with_reducible first | refine W_cond ?_ | refine hZ _ _ ?_ | refine W_exit ?_ | refine Wo_id ?_)); repeat1' simp only [push_cast, Nat.reduceBEq, Nat.reduceLT, Nat.reduceEqDiff, reduceIte, reduceCtorEq, Nat.reduceMul, Nat.reduceAdd, Nat.reduceSub, Int.reduceEq, Int.reduceLT, Int.reduceLE, Int.reduceNeg, Int.reduceAdd, Int.reduceSub, Int.reduceMul, Nat.reduceLeDiff, Int.reduceToNat, cell_h, d2, hp3, cellO_cells]) | ((repeat ((fail_if_success with_reducible refine hK _ _ ?_); clear hK K)); (with_reducible refine hK _ _ ?_); clear hK K))))
            refine (scont_c (((hm'.ext hx).ext hx2).ext hx3) (by omega) x).mono ?_
            rintro v w4 ⟨rfl, hx4⟩
            cases hany : m.nd.attrs.any (hasA x) with
            | true =>
              ((repeat simp only [push_cast, Nat.reduceBEq, Nat.reduceLT, Nat.reduceEqDiff, reduceIte, reduceCtorEq, Nat.reduceMul, Nat.reduceAdd, Nat.reduceSub, Int.reduceEq, Int.reduceLT, Int.reduceLE, Int.reduceNeg, Int.reduceAdd, Int.reduceSub, Int.reduceMul, Nat.reduceLeDiff, Int.reduceToNat, b2]); (repeat (first | (with_reducible first | (refine hK _ _ ?_; clear hK K) | refine (show ∀ σ' w', _ → K σ' w' from by assumption) _ _ ?_ | refine W_seq_k fun K hK => ?_ | refine W_block_k fun K hK => ?_ | refine W_skip ?_ | refine W_ret ?_) | ((first | ((with_reducible refine W_id ?_); refine W_reg (by decide) (by rfl) ?_) | (with_reducible first | refine W_cond ?_ | refine hZ _ _ ?_ | refine W_exit ?_ | refine Wo_id ?_)); repeat1' simp only [push_cast, Nat.reduceBEq, Nat.reduceLT, Nat.reduceEqDiff, reduceIte, reduceCtorEq, Nat.reduceMul, Nat.reduceAdd, Nat.reduceSub, Int.reduceEq, Int.reduceLT, Int.reduceLE, Int.reduceNeg, Int.reduceAdd, Int.reduceSub, Int.reduceMul, Nat.reduceLeDiff, Int.reduceToNat, b2]) | ((repeat ((fail_if_success with_reducible refine hK _ _ ?_); clear hK K)); (with_reducible refine hK _ _ ?_); clear hK K))))
              refine ⟨k + 1, by omega, ?_⟩
              (repeat simp only [push_cast, Nat.reduceBEq, Nat.reduceLT, Nat.reduceEqDiff, reduceIte, reduceCtorEq, Nat.reduceMul, Nat.reduceAdd, Nat.reduceSub, Int.reduceEq, Int.reduceLT, Int.reduceLE, Int.reduceNeg, Int.reduceAdd, Int.reduceSub, Int.reduceMul, Nat.reduceLeDiff, Int.reduceToNat])
              refine ⟨by omega, fun y hy => ?_, hx2.trans (hx3.trans hx4)⟩
              rw [List.take_add_one, hxk] at hy
              simp only [Option.toList_some, List.mem_append, List.mem_singleton] at hy
              rcases hy with hy | rfl
              · exact hall y hy
              · exact hany
            | false =>
              ((repeat simp only [push_cast, Nat.reduceBEq, Nat.reduceLT, Nat.reduceEqDiff, reduceIte, reduceCtorEq, Nat.reduceMul, Nat.reduceAdd, Nat.reduceSub, Int.reduceEq, Int.reduceLT, Int.reduceLE, Int.reduceNeg, Int.reduceAdd, Int.reduceSub, Int.reduceMul, Nat.reduceLeDiff, Int.reduceToNat]); (repeat (first | (with_reducible first | (refine hK _ _ ?_; clear hK K) | refine (show ∀ σ' w', _ → K σ' w' from by assumption) _ _ ?_ | refine W_seq_k fun K hK => ?_ | refine W_block_k fun K hK => ?_ | refine W_skip ?_ | refine W_ret ?_) | ((first | ((with_reducible refine W_id ?_); refine W_reg (by decide) (by rfl) ?_) | (with_reducible first | refine W_cond ?_ | refine hZ _ _ ?_ | refine W_exit ?_ | refine Wo_id ?_)); repeat1' simp only [push_cast, Nat.reduceBEq, Nat.reduceLT, Nat.reduceEqDiff, reduceIte, reduceCtorEq, Nat.reduceMul, Nat.reduceAdd, Nat.reduceSub, Int.reduceEq, Int.reduceLT, Int.reduceLE, Int.reduceNeg, Int.reduceAdd, Int.reduceSub, Int.reduceMul, Nat.reduceLeDiff, Int.reduceToNat]) | ((repeat ((fail_if_success with_reducible refine hK _ _ ?_); clear hK K)); (with_reducible refine hK _ _ ?_); clear hK K))))
              refine no ?_ _ (hx.trans (hx2.trans (hx3.trans hx4)))
              rw [hlike, List.all_eq_false]
              exact ⟨x, List.mem_of_getElem? hxk, by rw [hany]; decide⟩
          · have hke : k = s.nd.attrs.length := by omega
            subst hke
            rw [List.take_length] at hall
            have b0 : ¬ (s.nd.attrs.length : Int) < (s.nd.attrs.length : Int) := by omega
            (repeat (first | (with_reducible first | (refine hK _ _ ?_; clear hK K) | refine (show ∀ σ' w', _ → K σ' w' from by assumption) _ _ ?_ | refine W_seq_k fun K hK => ?_ | refine W_block_k fun K hK => ?_ | refine W_skip ?_ | refine W_ret ?_) | ((first | ((with_reducible refine W_id ?_); refine W_reg (by decide) (by rfl) ?_) | (with_reducible first | refine W_cond ?_ | refine hZ _ _ ?_ | refine W_exit ?_ | refine Wo_id ?_)); repeat1' simp only [push_cast, Nat.reduceBEq, Nat.reduceLT, Nat.reduceEqDiff, reduceIte, reduceCtorEq, Nat.reduceMul, Nat.reduceAdd, Nat.reduceSub, Int.reduceEq, Int.reduceLT, Int.reduceLE, Int.reduceNeg, Int.reduceAdd, Int.reduceSub, Int.reduceMul, Nat.reduceLeDiff, Int.reduceToNat, b0]) | ((repeat ((fail_if_success with_reducible refine hK _ _ ?_); clear hK K)); (with_reducible refine hK _ _ ?_); clear hK K)))
            refine ⟨?_, hx.trans hx2⟩
            rw [hlike]
            exact (List.all_eq_true.2 hall).symm
        · have h4' : ¬ (m.nd.attrs.length : Int) = s.nd.attrs.length := by omega
          ((repeat simp only [push_cast, Nat.reduceBEq, Nat.reduceLT, Nat.reduceEqDiff, reduceIte, reduceCtorEq, Nat.reduceMul, Nat.reduceAdd, Nat.reduceSub, Int.reduceEq, Int.reduceLT, Int.reduceLE, Int.reduceNeg, Int.reduceAdd, Int.reduceSub, Int.reduceMul, Nat.reduceLeDiff, Int.reduceToNat, cell_h, c1, c2, cellO_cells, h1, h2, h3, h4', not_true_eq_false, not_false_eq_true]); (repeat (first | (with_reducible first | (refine hK _ _ ?_; clear hK K) | refine (show ∀ σ' w', _ → K σ' w' from by assumption) _ _ ?_ | refine W_seq_k fun K hK => ?_ | refine W_block_k fun K hK => ?_ | refine W_skip ?_ | refine W_ret ?_) | ((first | ((with_reducible refine W_id ?_); refine W_reg (by decide) (by rfl) ?_) | (with_reducible first | refine W_cond ?_ | refine hZ _ _ ?_ | refine W_exit ?_ | refine Wo_id ?_)); repeat1' simp only [push_cast, Nat.reduceBEq, Nat.reduceLT, Nat.reduceEqDiff, reduceIte, reduceCtorEq, Nat.reduceMul, Nat.reduceAdd, Nat.reduceSub, Int.reduceEq, Int.reduceLT, Int.reduceLE, Int.reduceNeg, Int.reduceAdd, Int.reduceSub, Int.reduceMul, Nat.reduceLeDiff, Int.reduceToNat, cell_h, c1, c2, cellO_cells, h1, h2, h3, h4', not_true_eq_false, not_false_eq_true]) | ((repeat ((fail_if_success with_reducible refine hK _ _ ?_); clear hK K)); (with_reducible refine hK _ _ ?_); clear hK K))))
          exact no (by simp [likeN, h4]) _ hx
      · ((repeat simp only [push_cast, Nat.reduceBEq, Nat.reduceLT, Nat.reduceEqDiff, reduceIte, reduceCtorEq, Nat.reduceMul, Nat.reduceAdd, Nat.reduceSub, Int.reduceEq, Int.reduceLT, Int.reduceLE, Int.reduceNeg, Int.reduceAdd, Int.reduceSub, Int.reduceMul, Nat.reduceLeDiff, Int.reduceToNat, cell_h, c1, c2, cellO_cells, h1, h2, h3, not_true_eq_false, not_false_eq_true]); (repeat (first | (with_reducible first | (refine hK _ _ ?_; clear hK K) | refine (show ∀ σ' w', _ → K σ' w' from by assumption) _ _ ?_ | refine W_seq_k fun K hK => ?_ | refine W_block_k fun K hK => ?_ | refine W_skip ?_ | refine W_ret ?_) | ((first | ((with_reducible refine W_id ?_); refine W_reg (by decide) (by rfl) ?_) | (with_reducible first | refine W_cond ?_ | refine hZ _ _ ?_ | refine W_exit ?_ | refine Wo_id ?_)); repeat1' simp only [push_cast, Nat.reduceBEq, Nat.reduceLT, Nat.reduceEqDiff, reduceIte, reduceCtorEq, Nat.reduceMul, Nat.reduceAdd, Nat.reduceSub, Int.reduceEq, Int.reduceLT, Int.reduceLE, Int.reduceNeg, Int.reduceAdd, Int.reduceSub, Int.reduceMul, Nat.reduceLeDiff, Int.reduceToNat, cell_h, c1, c2, cellO_cells, h1, h2, h3, not_true_eq_false, not_false_eq_true]) | ((repeat ((fail_if_success with_reducible refine hK _ _ ?_); clear hK K)); (with_reducible refine hK _ _ ?_); clear hK K))))
        exact no (by simp [likeN, h3]) _ hx
    · ((repeat simp only [push_cast, Nat.reduceBEq, Nat.reduceLT, Nat.reduceEqDiff, reduceIte, reduceCtorEq, Nat.reduceMul, Nat.reduceAdd, Nat.reduceSub, Int.reduceEq, Int.reduceLT, Int.reduceLE, Int.reduceNeg, Int.reduceAdd, Int.reduceSub, Int.reduceMul, Nat.reduceLeDiff, Int.reduceToNat, cell_h, c1, c2, cellO_cells, h1, h2, not_true_eq_false, not_false_eq_true]); (repeat (first | (with_reducible first | (refine hK _ _ ?_; clear hK K) | refine (show ∀ σ' w', _ → K σ' w' from by assumption) _ _ ?_ | refine W_seq_k fun K hK => ?_ | refine W_block_k fun K hK => ?_ | refine W_skip ?_ | refine W_ret ?_) | ((first | ((with_reducible refine W_id ?_); refine W_reg (by decide) (by rfl) ?_) | (with_reducible first | refine W_cond ?_ | refine hZ _ _ ?_ | refine W_exit ?_ | refine Wo_id ?_)); repeat1' simp only [push_cast, Nat.reduceBEq, Nat.reduceLT, Nat.reduceEqDiff, reduceIte, reduceCtorEq, Nat.reduceMul, Nat.reduceAdd, Nat.reduceSub, Int.reduceEq, Int.reduceLT, Int.reduceLE, Int.reduceNeg, Int.reduceAdd, Int.reduceSub, Int.reduceMul, Nat.reduceLeDiff, Int.reduceToNat, cell_h, c1, c2, cellO_cells, h1, h2, not_true_eq_false, not_false_eq_true]) | ((repeat ((fail_if_success with_reducible refine hK _ _ ?_); clear hK K)); (with_reducible refine hK _ _ ?_); clear hK K))))
      exact no (by simp [likeN, h2]) _ hx
  · ((repeat simp only [push_cast, Nat.reduceBEq, Nat.reduceLT, Nat.reduceEqDiff, reduceIte, reduceCtorEq, Nat.reduceMul, Nat.reduceAdd, Nat.reduceSub, Int.reduceEq, Int.reduceLT, Int.reduceLE, Int.reduceNeg, Int.reduceAdd, Int.reduceSub, Int.reduceMul, Nat.reduceLeDiff, Int.reduceToNat, cell_h, c1, c2, cellO_cells, h1, not_false_eq_true]); (repeat (first | (with_reducible first | (refine hK _ _ ?_; clear hK K) | refine (show ∀ σ' w', _ → K σ' w' from by assumption) _ _ ?_ | refine W_seq_k fun K hK => ?_ | refine W_block_k fun K hK => ?_ | refine W_skip ?_ | refine W_ret ?_) | ((first | ((with_reducible refine W_id ?_); refine W_reg (by decide) (by rfl) ?_) | (with_reducible first | refine W_cond ?_ | refine hZ _ _ ?_ | refine W_exit ?_ | refine Wo_id ?_)); repeat1' simp only [push_cast, Nat.reduceBEq, Nat.reduceLT, Nat.reduceEqDiff, reduceIte, reduceCtorEq, Nat.reduceMul, Nat.reduceAdd, Nat.reduceSub, Int.reduceEq, Int.reduceLT, Int.reduceLE, Int.reduceNeg, Int.reduceAdd, Int.reduceSub, Int.reduceMul, Nat.reduceLeDiff, Int.reduceToNat, cell_h, c1, c2, cellO_cells, h1, not_false_eq_true]) | ((repeat ((fail_if_success with_reducible refine hK _ _ ?_); clear hK K)); (with_reducible refine hK _ _ ?_); clear hK K))))
    exact no (by simp [likeN, h1]) _ hx
end Go.Proofs.Ytkafpameheohdaa
end
section
set_option linter.unusedSimpArgs false
set_option linter.unusedVariables false
namespace Go.Vk
open Go
def likeR (s n : Nd) : Bool := decide (n.space = s.space ∧ n.name = s.name ∧ n.attrs.length = s.attrs.length) && s.attrs.all fun x => n.attrs.any (hasA x)
theorem likeR_N {s n : Nd} (h : n.kind = 3) : likeN s n = likeR s n := by
  unfold likeN likeR
  simp [h]
end Go.Vk
namespace Go.Proofs.Ytkafpameheohdaa
open Go Go.Vk
set_option maxHeartbeats 40000000
theorem rlike_c {s m : Laid} {w : World} (hs : RdAt w 2 s.av (attrCells s.nd.attrs)) (hm : RdAt w 2 m.av (attrCells m.nd.attrs)) (hl : s.nd.attrs.length < 1000000) (hl2 : m.nd.attrs.length < 1000000) :
    Gives Try.prog 35 #[s.val, m.val] w fun v w' => v = .bool (likeR s.nd m.nd) ∧ Ext w w' := by
  obtain ⟨sa, sc, esv, _, hsc⟩ := attrs_len hs
  obtain ⟨ma, mc, emv, _, hmc⟩ := attrs_len hm
  rw [Laid.val_eq, Laid.val_eq]
  have hx : Ext w ((w.alloc (.cells #[.int .i64 s.nd.kind, .string s.nd.name, .string s.nd.text, .int .i64 s.nd.space, s.av, .bool s.nd.dup, .int .i64 s.nd.parent, .int .i64 s.nd.content, s.kv, .int .i64 s.nd.frm, .int .i64 s.nd.to] 30)).alloc (.cells #[.int .i64 m.nd.kind, .string m.nd.name, .string m.nd.text, .int .i64 m.nd.space, m.av, .bool m.nd.dup, .int .i64 m.nd.parent, .int .i64 m.nd.content, m.kv, .int .i64 m.nd.frm, .int .i64 m.nd.to] 30)) := (Ext.alloc _ _).trans (Ext.alloc _ _)
  have c1 : ((w.alloc (.cells #[.int .i64 s.nd.kind, .string s.nd.name, .string s.nd.text, .int .i64 s.nd.space, s.av, .bool s.nd.dup, .int .i64 s.nd.parent, .int .i64 s.nd.content, s.kv, .int .i64 s.nd.frm, .int .i64 s.nd.to] 30)).alloc (.cells #[.int .i64 m.nd.kind, .string m.nd.name, .string m.nd.text, .int .i64 m.nd.space, m.av, .bool m.nd.dup, .int .i64 m.nd.parent, .int .i64 m.nd.content, m.kv, .int .i64 m.nd.frm, .int .i64 m.nd.to] 30)).heap[w.heap.size]? = some (.cells #[.int .i64 s.nd.kind, .string s.nd.name, .string s.nd.text, .int .i64 s.nd.space, s.av, .bool s.nd.dup, .int .i64 s.nd.parent, .int .i64 s.nd.content, s.kv, .int .i64 s.nd.frm, .int .i64 s.nd.to] 30 (0, 0)) := by
    rw [heap_alloc_h, size_alloc_h, if_neg (by omega), heap_alloc_h, if_pos rfl]
  have c2 : ((w.alloc (.cells #[.int .i64 s.nd.kind, .string s.nd.name, .string s.nd.text, .int .i64 s.nd.space, s.av, .bool s.nd.dup, .int .i64 s.nd.parent, .int .i64 s.nd.content, s.kv, .int .i64 s.nd.frm, .int .i64 s.nd.to] 30)).alloc (.cells #[.int .i64 m.nd.kind, .string m.nd.name, .string m.nd.text, .int .i64 m.nd.space, m.av, .bool m.nd.dup, .int .i64 m.nd.parent, .int .i64 m.nd.content, m.kv, .int .i64 m.nd.frm, .int .i64 m.nd.to] 30)).heap[w.heap.size + 1]? = some (.cells #[.int .i64 m.nd.kind, .string m.nd.name, .string m.nd.text, .int .i64 m.nd.space, m.av, .bool m.nd.dup, .int .i64 m.nd.parent, .int .i64 m.nd.content, m.kv, .int .i64 m.nd.frm, .int .i64 m.nd.to] 30 (0, 0)) := by
    rw [heap_alloc_h, size_alloc_h, if_pos rfl]
  rw [esv, emv] at c1 c2 hx ⊢
  refine Gives.of_W Try.call35 Try.func35 rfl Try.ntmps35 (by simp) ?_; intro Z hZ
  (repeat (first | (with_reducible first | (refine hK _ _ ?_; clear hK K) | refine (show ∀ σ' w', _ → K σ' w' from by assumption) _ _ ?_ | refine W_seq_k fun K hK => ?_ | refine W_block_k fun K hK => ?_ | refine W_skip ?_ | refine W_ret ?_) | ((first | ((with_reducible refine W_id ?_); refine W_reg (by decide) (by rfl) ?_) | (with_reducible first | refine W_cond ?_ | refine hZ _ _ ?_ | refine W_exit ?_ | refine Wo_id ?_)); repeat1' simp only [push_cast, Nat.reduceBEq, Nat.reduceLT, Nat.reduceEqDiff, reduceIte, reduceCtorEq, Nat.reduceMul, Nat.reduceAdd, Nat.reduceSub, Int.reduceEq, Int.reduceLT, Int.reduceLE, Int.reduceNeg, Int.reduceAdd, Int.reduceSub, Int.reduceMul, Nat.reduceLeDiff, Int.reduceToNat, vcells_agg, size_alloc_h]) | ((repeat ((fail_if_success with_reducible refine hK _ _ ?_); clear hK K)); (with_reducible refine hK _ _ ?_); clear hK K)))
  have no : likeR s.nd m.nd = false → ∀ w2, Ext w w2 → (false = likeR s.nd m.nd ∧ Ext w w2) := fun e w2 h => ⟨by rw [e], h⟩
  generalize (w.alloc (.cells #[.int .i64 s.nd.kind, .string s.nd.name, .string s.nd.text, .int .i64 s.nd.space, .slice sa s.nd.attrs.length sc, .bool s.nd.dup, .int .i64 s.nd.parent, .int .i64 s.nd.content, s.kv, .int .i64 s.nd.frm, .int .i64 s.nd.to] 30)).alloc (.cells #[.int .i64 m.nd.kind, .string m.nd.name, .string m.nd.text, .int .i64 m.nd.space, .slice ma m.nd.attrs.length mc, .bool m.nd.dup, .int .i64 m.nd.parent, .int .i64 m.nd.content, m.kv, .int .i64 m.nd.frm, .int .i64 m.nd.to] 30) = w1 at *
  obtain ⟨p1, hp1⟩ : ∃ p1, p1 = w.heap.size := ⟨_, rfl⟩
  rw [← hp1] at c1 c2 ⊢
  by_cases h2 : m.nd.space = s.nd.space
  · by_cases h3 : m.nd.name = s.nd.name
    · by_cases h4 : m.nd.attrs.length = s.nd.attrs.length
      · have hlike : likeR s.nd m.nd = s.nd.attrs.all fun x => m.nd.attrs.any (hasA x) := by simp [likeR, h2, h3, h4]
        have h4' : (m.nd.attrs.length : Int) = s.nd.attrs.length := by omega
        ((repeat simp only [push_cast, Nat.reduceBEq, Nat.reduceLT, Nat.reduceEqDiff, reduceIte, reduceCtorEq, Nat.reduceMul, Nat.reduceAdd, Nat.reduceSub, Int.reduceEq, Int.reduceLT, Int.reduceLE, Int.reduceNeg, Int.reduceAdd, Int.reduceSub, Int.reduceMul, Nat.reduceLeDiff, Int.reduceToNat, cell_h, c1, c2, cellO_cells, h2, h3, h4', not_true_eq_false]); (repeat (first | (with_reducible first | (refine hK _ _ ?_; clear hK K) | refine (show ∀ σ' w', _ → K σ' w' from by assumption) _ _ ?_ | refine W_seq_k fun K hK => ?_ | refine W_block_k fun K hK => ?_ | refine W_skip ?_ | refine W_ret ?_) | ((first | ((with_reducible refine W_id ?_); refine W_reg (by decide) (by rfl) ?_) | (with_reducible first | refine W_cond ?_ | refine hZ _ _ ?_ | refine W_exit ?_ | refine Wo_id ?_)); repeat1' simp only [push_cast, Nat.reduceBEq, Nat.reduceLT, Nat.reduceEqDiff, reduceIte, reduceCtorEq, Nat.reduceMul, Nat.reduceAdd, Nat.reduceSub, Int.reduceEq, Int.reduceLT, Int.reduceLE, Int.reduceNeg, Int.reduceAdd, Int.reduceSub, Int.reduceMul, Nat.reduceLeDiff, Int.reduceToNat, cell_h, c1, c2, cellO_cells, h2, h3, h4', not_true_eq_false]) | ((repeat ((fail_if_success with_reducible refine hK _ _ ?_); clear hK K)); (with_reducible refine hK _ _ ?_); clear hK K))))
        refine W_loop (S := Nat) (fun k => [(2, .pointer (some ⟨p1, 0, none⟩)), (3, .pointer (some ⟨p1 + 1, 0, none⟩)), (5, .int .i64 (k : Int))])
          (fun k w2 => k ≤ s.nd.attrs.length ∧ (∀ x ∈ s.nd.attrs.take k, m.nd.attrs.any (hasA x) = true) ∧ Ext w1 w2) (fun k => s.nd.attrs.length - k) 0 ?_ ?_ ?_
        · (repeat simp only [push_cast, Nat.reduceBEq, Nat.reduceLT, Nat.reduceEqDiff, reduceIte, reduceCtorEq, Nat.reduceMul, Nat.reduceAdd, Nat.reduceSub, Int.reduceEq, Int.reduceLT, Int.reduceLE, Int.reduceNeg, Int.reduceAdd, Int.reduceSub, Int.reduceMul, Nat.reduceLeDiff, Int.reduceToNat])
        · exact ⟨by omega, by simp, Ext.refl _⟩
        rintro k w2 ⟨hk, hall, hx2⟩
        by_cases hkl : k < s.nd.attrs.length
        · obtain ⟨x, hxk⟩ : ∃ x, s.nd.attrs[k]? = some x := ⟨_, List.getElem?_eq_getElem hkl⟩
          obtain ⟨bs, os, e, q1, q2⟩ := hsc k x hxk
          subst e
          have d1 := hx2.blk c1
          have d2 := hx2.blk c2
          have b0 : (k : Int) < (s.nd.attrs.length : Int) := by omega
          have b1 : (0 : Int) ≤ (k : Int) := by omega
          have b2 : inI64 ((k : Int) + 1) := by unfold inI64; omega
          (repeat (first | (with_reducible first | (refine hK _ _ ?_; clear hK K) | refine (show ∀ σ' w', _ → K σ' w' from by assumption) _ _ ?_ | refine W_seq_k fun K hK => ?_ | refine W_block_k fun K hK => ?_ | refine W_skip ?_ | refine W_ret ?_) | ((first | ((with_reducible refine W_id ?_); refine W_reg (by decide) (by rfl) ?_) | (with_reducible first | refine W_cond ?_ | refine hZ _ _ ?_ | refine W_exit ?_ | refine Wo_id ?_)); repeat1' simp only [push_cast, Nat.reduceBEq, Nat.reduceLT, Nat.reduceEqDiff, reduceIte, reduceCtorEq, Nat.reduceMul, Nat.reduceAdd, Nat.reduceSub, Int.reduceEq, Int.reduceLT, Int.reduceLE, Int.reduceNeg, Int.reduceAdd, Int.reduceSub, Int.reduceMul, Nat.reduceLeDiff, Int.reduceToNat, cell_h, cellO_cells, d1, d2, b0]) | ((repeat ((fail_if_success with_reducible refine hK _ _ ?_); clear hK K)); (with_reducible refine hK _ _ ?_); clear hK K)))
          refine W_loop (S := Nat) (fun q => [(2, .pointer (some ⟨p1, 0, none⟩)), (3, .pointer (some ⟨p1 + 1, 0, none⟩)), (5, .int .i64 (k : Int)), (6, .bool ((m.nd.attrs.take q).any (hasA x))), (7, .int .i64 (q : Int))])
            (fun q w3 => q ≤ m.nd.attrs.length ∧ Ext w2 w3) (fun q => m.nd.attrs.length - q) 0 ?_ ?_ ?_
          · (repeat simp only [push_cast, Nat.reduceBEq, Nat.reduceLT, Nat.reduceEqDiff, reduceIte, reduceCtorEq, Nat.reduceMul, Nat.reduceAdd, Nat.reduceSub, Int.reduceEq, Int.reduceLT, Int.reduceLE, Int.reduceNeg, Int.reduceAdd, Int.reduceSub, Int.reduceMul, Nat.reduceLeDiff, Int.reduceToNat, List.take_zero, List.any_nil])
          · exact ⟨by omega, Ext.refl _⟩
          rintro q w3 ⟨hq, hx3⟩
          have d3 := hx3.blk d2
          by_cases hql : q < m.nd.attrs.length
          · obtain ⟨y, hyq⟩ : ∃ y, m.nd.attrs[q]? = some y := ⟨_, List.getElem?_eq_getElem hql⟩
            obtain ⟨bm, om, e, r1, r2⟩ := hmc q y hyq
            subst e
            have f0 : (q : Int) < (s.nd.attrs.length : Int) := by omega
            have f0' : (q : Int) < (m.nd.attrs.length : Int) := by omega
            have f1 : (0 : Int) ≤ (q : Int) := by omega
            have f2 : inI64 ((q : Int) + 1) := by unfold inI64; omega
            have hx4 := hx3.trans (Ext.drew w3)
            have d4 := hx4.blk d2
            have d5 := hx4.blk d1
            have hx5 := hx.trans (hx2.trans hx4)
            have s1 := cell_ext hx5 q1
            have s2 := cell_ext hx5 q2
            have s3 := cell_ext hx5 r1
            have s4 := cell_ext hx5 r2
            rw [cell_h] at s1 s2 s3 s4
            have et : (m.nd.attrs.take (q + 1)).any (hasA x) = ((m.nd.attrs.take q).any (hasA x) || hasA x y) := by
              rw [List.take_add_one, hyq]; simp
            cases hany : (m.nd.attrs.take q).any (hasA x) with
            | true =>
              rw [hany] at et
              (repeat (first | (with_reducible first | (refine hK _ _ ?_; clear hK K) | refine (show ∀ σ' w', _ → K σ' w' from by assumption) _ _ ?_ | refine W_seq_k fun K hK => ?_ | refine W_block_k fun K hK => ?_ | refine W_skip ?_ | refine W_ret ?_) | ((first | ((with_reducible refine W_id ?_); refine W_reg (by decide) (by rfl) ?_) | (with_reducible first | refine W_cond ?_ | refine hZ _ _ ?_ | refine W_exit ?_ | refine Wo_id ?_)); repeat1' simp only [push_cast, Nat.reduceBEq, Nat.reduceLT, Nat.reduceEqDiff, reduceIte, reduceCtorEq, Nat.reduceMul, Nat.reduceAdd, Nat.reduceSub, Int.reduceEq, Int.reduceLT, Int.reduceLE, Int.reduceNeg, Int.reduceAdd, Int.reduceSub, Int.reduceMul, Nat.reduceLeDiff, Int.reduceToNat, cell_h, cellO_cells, d3, f0, f0', h4']) | ((repeat ((fail_if_success with_reducible refine hK _ _ ?_); clear hK K)); (with_reducible refine hK _ _ ?_); clear hK K)))
              (refine W_draw (.pas 0 (.pas 1 (.pas 2 (.pas 3 (.pas 4 (.pas 5 (.pas 6 (.pas 7 (.pas 8 (.pas 9 (.pas 10 (.pas 11 (.pas 12 (.pas 13 (.pas 14 .fin))))))))))))))) (fun _ => True) (by decide) mixed (by kernel_rfl) ?_; (repeat (first | ((first | refine pas_plain rfl ?_ | refine pas_g rfl rfl ?_ | refine act_plain rfl ?_ | refine act_g rfl rfl ?_ | refine last_plain rfl ?_ | refine tail_plain rfl ?_ | refine tail_g rfl rfl ?_); (repeat simp only [push_cast, Nat.reduceBEq, Nat.reduceLT, Nat.reduceEqDiff, reduceIte, reduceCtorEq, Nat.reduceMul, Nat.reduceAdd, Nat.reduceSub, Int.reduceEq, Int.reduceLT, Int.reduceLE, Int.reduceNeg, Int.reduceAdd, Int.reduceSub, Int.reduceMul, Nat.reduceLeDiff, Int.reduceToNat,  cell_h, cellO_cells, d4, d5, f2])) | (refine tail_fin ?_) | (refine sch_fin ?_))); (repeat (first | (with_reducible first | (refine hK _ _ ?_; clear hK K) | refine (show ∀ σ' w', _ → K σ' w' from by assumption) _ _ ?_ | refine W_seq_k fun K hK => ?_ | refine W_block_k fun K hK => ?_ | refine W_skip ?_ | refine W_ret ?_) | ((first | ((with_reducible refine W_id ?_); refine W_reg (by decide) (by rfl) ?_) | (with_reducible first | refine W_cond ?_ | refine hZ _ _ ?_ | refine W_exit ?_ | refine Wo_id ?_)); repeat1' simp only [push_cast, Nat.reduceBEq, Nat.reduceLT, Nat.reduceEqDiff, reduceIte, reduceCtorEq, Nat.reduceMul, Nat.reduceAdd, Nat.reduceSub, Int.reduceEq, Int.reduceLT, Int.reduceLE, Int.reduceNeg, Int.reduceAdd, Int.reduceSub, Int.reduceMul, Nat.reduceLeDiff, Int.reduceToNat,  cell_h, cellO_cells, d4, d5, f2]) | ((repeat ((fail_if_success with_reducible refine hK _ _ ?_); clear hK K)); (with_reducible refine hK _ _ ?_); clear hK K))))
              refine ⟨q + 1, by omega, ?_⟩
              (repeat simp only [push_cast, Nat.reduceBEq, Nat.reduceLT, Nat.reduceEqDiff, reduceIte, reduceCtorEq, Nat.reduceMul, Nat.reduceAdd, Nat.reduceSub, Int.reduceEq, Int.reduceLT, Int.reduceLE, Int.reduceNeg, Int.reduceAdd, Int.reduceSub, Int.reduceMul, Nat.reduceLeDiff, Int.reduceToNat, et])
              exact ⟨by omega, hx4⟩
            | false =>
              rw [hany] at et
              (repeat (first | (with_reducible first | (refine hK _ _ ?_; clear hK K) | refine (show ∀ σ' w', _ → K σ' w' from by assumption) _ _ ?_ | refine W_seq_k fun K hK => ?_ | refine W_block_k fun K hK => ?_ | refine W_skip ?_ | refine W_ret ?_) | ((first | ((with_reducible refine W_id ?_); refine W_reg (by decide) (by rfl) ?_) | (with_reducible first | refine W_cond ?_ | refine hZ _ _ ?_ | refine W_exit ?_ | refine Wo_id ?_)); repeat1' simp only [push_cast, Nat.reduceBEq, Nat.reduceLT, Nat.reduceEqDiff, reduceIte, reduceCtorEq, Nat.reduceMul, Nat.reduceAdd, Nat.reduceSub, Int.reduceEq, Int.reduceLT, Int.reduceLE, Int.reduceNeg, Int.reduceAdd, Int.reduceSub, Int.reduceMul, Nat.reduceLeDiff, Int.reduceToNat, cell_h, cellO_cells, d3, f0, f0', h4']) | ((repeat ((fail_if_success with_reducible refine hK _ _ ?_); clear hK K)); (with_reducible refine hK _ _ ?_); clear hK K)))
              (refine W_draw (.pas 0 (.pas 1 (.pas 2 (.pas 3 (.pas 4 (.pas 5 (.pas 6 (.pas 7 (.pas 8 (.pas 9 (.pas 10 (.pas 11 (.pas 12 (.pas 13 (.pas 14 .fin))))))))))))))) (fun _ => True) (by decide) mixed (by kernel_rfl) ?_; (repeat (first | ((first | refine pas_plain rfl ?_ | refine pas_g rfl rfl ?_ | refine act_plain rfl ?_ | refine act_g rfl rfl ?_ | refine last_plain rfl ?_ | refine tail_plain rfl ?_ | refine tail_g rfl rfl ?_); (repeat simp only [push_cast, Nat.reduceBEq, Nat.reduceLT, Nat.reduceEqDiff, reduceIte, reduceCtorEq, Nat.reduceMul, Nat.reduceAdd, Nat.reduceSub, Int.reduceEq, Int.reduceLT, Int.reduceLE, Int.reduceNeg, Int.reduceAdd, Int.reduceSub, Int.reduceMul, Nat.reduceLeDiff, Int.reduceToNat,  cell_h, cellO_cells, d4, d5, s1, s2, s3, s4, f0, f0', f1, b0, b1])) | (refine tail_fin ?_) | (refine sch_fin ?_))); (repeat (first | (with_reducible first | (refine hK _ _ ?_; clear hK K) | refine (show ∀ σ' w', _ → K σ' w' from by assumption) _ _ ?_ | refine W_seq_k fun K hK => ?_ | refine W_block_k fun K hK => ?_ | refine W_skip ?_ | refine W_ret ?_) | ((first | ((with_reducible refine W_id ?_); refine W_reg (by decide) (by rfl) ?_) | (with_reducible first | refine W_cond ?_ | refine hZ _ _ ?_ | refine W_exit ?_ | refine Wo_id ?_)); repeat1' simp only [push_cast, Nat.reduceBEq, Nat.reduceLT, Nat.reduceEqDiff, reduceIte, reduceCtorEq, Nat.reduceMul, Nat.reduceAdd, Nat.reduceSub, Int.reduceEq, Int.reduceLT, Int.reduceLE, Int.reduceNeg, Int.reduceAdd, Int.reduceSub, Int.reduceMul, Nat.reduceLeDiff, Int.reduceToNat,  cell_h, cellO_cells, d4, d5, s1, s2, s3, s4, f0, f0', f1, b0, b1]) | ((repeat ((fail_if_success with_reducible refine hK _ _ ?_); clear hK K)); (with_reducible refine hK _ _ ?_); clear hK K))))
              rw [eql94]
              (repeat (first | ((first | refine pas_plain rfl ?_ | refine pas_g rfl rfl ?_ | refine act_plain rfl ?_ | refine act_g rfl rfl ?_ | refine last_plain rfl ?_ | refine tail_plain rfl ?_ | refine tail_g rfl rfl ?_); (repeat simp only [push_cast, Nat.reduceBEq, Nat.reduceLT, Nat.reduceEqDiff, reduceIte, reduceCtorEq, Nat.reduceMul, Nat.reduceAdd, Nat.reduceSub, Int.reduceEq, Int.reduceLT, Int.reduceLE, Int.reduceNeg, Int.reduceAdd, Int.reduceSub, Int.reduceMul, Nat.reduceLeDiff, Int.reduceToNat, cell_h, cellO_cells, d4, d5, s1, s2, s3, s4, f0, f0', f1, b0, b1])) | (refine tail_fin ?_) | (refine sch_fin ?_)))
              (repeat (first | (with_reducible first | (refine hK _ _ ?_; clear hK K) | refine (show ∀ σ' w', _ → K σ' w' from by assumption) _ _ ?_ | refine W_seq_k fun K hK => ?_ | refine W_block_k fun K hK => ?_ | refine W_skip ?_ | refine W_ret ?_) | ((first | ((with_reducible refine W_id ?_); refine W_reg (by decide) (by rfl) ?_) | (with_reducible first | refine W_cond ?_ | refine hZ _ _ ?_ | refine W_exit ?_ | refine Wo_id ?_)); repeat1' simp only [push_cast, Nat.reduceBEq, Nat.reduceLT, Nat.reduceEqDiff, reduceIte, reduceCtorEq, Nat.reduceMul, Nat.reduceAdd, Nat.reduceSub, Int.reduceEq, Int.reduceLT, Int.reduceLE, Int.reduceNeg, Int.reduceAdd, Int.reduceSub, Int.reduceMul, Nat.reduceLeDiff, Int.reduceToNat, f2]) | ((repeat ((fail_if_success with_reducible refine hK _ _ ?_); clear hK K)); (with_reducible refine hK _ _ ?_); clear hK K)))
              refine ⟨q + 1, by omega, ?_⟩
              (repeat simp only [push_cast, Nat.reduceBEq, Nat.reduceLT, Nat.reduceEqDiff, reduceIte, reduceCtorEq, Nat.reduceMul, Nat.reduceAdd, Nat.reduceSub, Int.reduceEq, Int.reduceLT, Int.reduceLE, Int.reduceNeg, Int.reduceAdd, Int.reduceSub, Int.reduceMul, Nat.reduceLeDiff, Int.reduceToNat, et, hasA])
              refine ⟨?_, by omega, hx4⟩
              exact decide_eq_decide.2 ⟨fun h => ⟨h.1.symm, h.2.symm⟩, fun h => ⟨h.1.symm, h.2.symm⟩⟩
          · have hqe : q = m.nd.attrs.length := by omega
            rw [hqe, List.take_length]
            have f0 : ¬ ((s.nd.attrs.length : Int) < (s.nd.attrs.length : Int)) := by omega
            cases hany : m.nd.attrs.any (hasA x) with
            | true =>
              (repeat (first | (with_reducible first | (refine hK _ _ ?_; clear hK K) | refine (show ∀ σ' w', _ → K σ' w' from by assumption) _ _ ?_ | refine W_seq_k fun K hK => ?_ | refine W_block_k fun K hK => ?_ | refine W_skip ?_ | refine W_ret ?_) | ((first | ((with_reducible refine W_id ?_); refine W_reg (by decide) (by rfl) ?_) | (with_reducible first | refine W_cond ?_ | refine hZ _ _ ?_ | refine W_exit ?_ | refine Wo_id ?_)); repeat1' simp only [push_cast, Nat.reduceBEq, Nat.reduceLT, Nat.reduceEqDiff, reduceIte, reduceCtorEq, Nat.reduceMul, Nat.reduceAdd, Nat.reduceSub, Int.reduceEq, Int.reduceLT, Int.reduceLE, Int.reduceNeg, Int.reduceAdd, Int.reduceSub, Int.reduceMul, Nat.reduceLeDiff, Int.reduceToNat, cell_h, cellO_cells, d3, f0, h4', b2]) | ((repeat ((fail_if_success with_reducible refine hK _ _ ?_); clear hK K)); (with_reducible refine hK _ _ ?_); clear hK K)))
              refine ⟨k + 1, by omega, ?_⟩
              (repeat simp only [push_cast, Nat.reduceBEq, Nat.reduceLT, Nat.reduceEqDiff, reduceIte, reduceCtorEq, Nat.reduceMul, Nat.reduceAdd, Nat.reduceSub, Int.reduceEq, Int.reduceLT, Int.reduceLE, Int.reduceNeg, Int.reduceAdd, Int.reduceSub, Int.reduceMul, Nat.reduceLeDiff, Int.reduceToNat])
              refine ⟨by omega, fun z hz => ?_, hx2.trans hx3⟩
              rw [List.take_add_one, hxk] at hz
              simp only [Option.toList_some, List.mem_append, List.mem_singleton] at hz
              rcases hz with hz | rfl
              · exact hall z hz
              · exact hany
            | false =>
              have hno : likeR s.nd m.nd = false := by
                rw [hlike, List.all_eq_false]
                exact ⟨x, List.mem_of_getElem? hxk, by rw [hany]; decide⟩
              (repeat (first | (with_reducible first | (refine hK _ _ ?_; clear hK K) | refine (show ∀ σ' w', _ → K σ' w' from by assumption) _ _ ?_ | refine W_seq_k fun K hK => ?_ | refine W_block_k fun K hK => ?_ | refine W_skip ?_ | refine W_ret ?_) | ((first | ((with_reducible refine W_id ?_); refine W_reg (by decide) (by rfl) ?_) | (with_reducible first | refine W_cond ?_ | refine hZ _ _ ?_ | refine W_exit ?_ | refine Wo_id ?_)); repeat1' simp only [push_cast, Nat.reduceBEq, Nat.reduceLT, Nat.reduceEqDiff, reduceIte, reduceCtorEq, Nat.reduceMul, Nat.reduceAdd, Nat.reduceSub, Int.reduceEq, Int.reduceLT, Int.reduceLE, Int.reduceNeg, Int.reduceAdd, Int.reduceSub, Int.reduceMul, Nat.reduceLeDiff, Int.reduceToNat, cell_h, cellO_cells, d3, f0, h4']) | ((repeat ((fail_if_success with_reducible refine hK _ _ ?_); clear hK K)); (with_reducible refine hK _ _ ?_); clear hK K)))
              exact no hno _ (hx.trans (hx2.trans hx3))
        · have hke : k = s.nd.attrs.length := by omega
          subst hke
          have d1 := hx2.blk c1
          have b0 : ¬ ((s.nd.attrs.length : Int) < (s.nd.attrs.length : Int)) := by omega
          (repeat (first | (with_reducible first | (refine hK _ _ ?_; clear hK K) | refine (show ∀ σ' w', _ → K σ' w' from by assumption) _ _ ?_ | refine W_seq_k fun K hK => ?_ | refine W_block_k fun K hK => ?_ | refine W_skip ?_ | refine W_ret ?_) | ((first | ((with_reducible refine W_id ?_); refine W_reg (by decide) (by rfl) ?_) | (with_reducible first | refine W_cond ?_ | refine hZ _ _ ?_ | refine W_exit ?_ | refine Wo_id ?_)); repeat1' simp only [push_cast, Nat.reduceBEq, Nat.reduceLT, Nat.reduceEqDiff, reduceIte, reduceCtorEq, Nat.reduceMul, Nat.reduceAdd, Nat.reduceSub, Int.reduceEq, Int.reduceLT, Int.reduceLE, Int.reduceNeg, Int.reduceAdd, Int.reduceSub, Int.reduceMul, Nat.reduceLeDiff, Int.reduceToNat, cell_h, cellO_cells, d1, b0]) | ((repeat ((fail_if_success with_reducible refine hK _ _ ?_); clear hK K)); (with_reducible refine hK _ _ ?_); clear hK K)))
          rw [List.take_length] at hall
          refine ⟨?_, hx.trans hx2⟩
          rw [hlike]
          exact (List.all_eq_true.2 hall).symm
      · have h4' : ¬ (s.nd.attrs.length : Int) = m.nd.attrs.length := by omega
        have hno : likeR s.nd m.nd = false := by simp [likeR, h4]
        ((repeat simp only [push_cast, Nat.reduceBEq, Nat.reduceLT, Nat.reduceEqDiff, reduceIte, reduceCtorEq, Nat.reduceMul, Nat.reduceAdd, Nat.reduceSub, Int.reduceEq, Int.reduceLT, Int.reduceLE, Int.reduceNeg, Int.reduceAdd, Int.reduceSub, Int.reduceMul, Nat.reduceLeDiff, Int.reduceToNat, cell_h, c1, c2, cellO_cells, h2, h3, h4', not_true_eq_false]); (repeat (first | (with_reducible first | (refine hK _ _ ?_; clear hK K) | refine (show ∀ σ' w', _ → K σ' w' from by assumption) _ _ ?_ | refine W_seq_k fun K hK => ?_ | refine W_block_k fun K hK => ?_ | refine W_skip ?_ | refine W_ret ?_) | ((first | ((with_reducible refine W_id ?_); refine W_reg (by decide) (by rfl) ?_) | (with_reducible first | refine W_cond ?_ | refine hZ _ _ ?_ | refine W_exit ?_ | refine Wo_id ?_)); repeat1' simp only [push_cast, Nat.reduceBEq, Nat.reduceLT, Nat.reduceEqDiff, reduceIte, reduceCtorEq, Nat.reduceMul, Nat.reduceAdd, Nat.reduceSub, Int.reduceEq, Int.reduceLT, Int.reduceLE, Int.reduceNeg, Int.reduceAdd, Int.reduceSub, Int.reduceMul, Nat.reduceLeDiff, Int.reduceToNat, cell_h, c1, c2, cellO_cells, h2, h3, h4', not_true_eq_false]) | ((repeat ((fail_if_success with_reducible refine hK _ _ ?_); clear hK K)); (with_reducible refine hK _ _ ?_); clear hK K))))
        exact no hno _ hx
    · have h3' : ¬ s.nd.name = m.nd.name := fun e => h3 e.symm
      have hno : likeR s.nd m.nd = false := by simp [likeR, h3]
      ((repeat simp only [push_cast, Nat.reduceBEq, Nat.reduceLT, Nat.reduceEqDiff, reduceIte, reduceCtorEq, Nat.reduceMul, Nat.reduceAdd, Nat.reduceSub, Int.reduceEq, Int.reduceLT, Int.reduceLE, Int.reduceNeg, Int.reduceAdd, Int.reduceSub, Int.reduceMul, Nat.reduceLeDiff, Int.reduceToNat, cell_h, c1, c2, cellO_cells, h2, h3', not_true_eq_false]); (repeat (first | (with_reducible first | (refine hK _ _ ?_; clear hK K) | refine (show ∀ σ' w', _ → K σ' w' from by assumption) _ _ ?_ | refine W_seq_k fun K hK => ?_ | refine W_block_k fun K hK => ?_ | refine W_skip ?_ | refine W_ret ?_) | ((first | ((with_reducible refine W_id ?_); refine W_reg (by decide) (by rfl) ?_) | (with_reducible first | refine W_cond ?_ | refine hZ _ _ ?_ | refine W_exit ?_ | refine Wo_id ?_)); repeat1' simp only [push_cast, Nat.reduceBEq, Nat.reduceLT, Nat.reduceEqDiff, reduceIte, reduceCtorEq, Nat.reduceMul, Nat.reduceAdd, Nat.reduceSub, Int.reduceEq, Int.reduceLT, Int.reduceLE, Int.reduceNeg, Int.reduceAdd, Int.reduceSub, Int.reduceMul, Nat.reduceLeDiff, Int.reduceToNat, cell_h, c1, c2, cellO_cells, h2, h3', not_true_eq_false]) | ((repeat ((fail_if_success with_reducible refine hK _ _ ?_); clear hK K)); (with_reducible refine hK _ _ ?_); clear hK K))))
      exact no hno _ hx
  · have h2' : ¬ s.nd.space = m.nd.space := fun e => h2 e.symm
    have hno : likeR s.nd m.nd = false := by simp [likeR, h2]
    ((repeat simp only [push_cast, Nat.reduceBEq, Nat.reduceLT, Nat.reduceEqDiff, reduceIte, reduceCtorEq, Nat.reduceMul, Nat.reduceAdd, Nat.reduceSub, Int.reduceEq, Int.reduceLT, Int.reduceLE, Int.reduceNeg, Int.reduceAdd, Int.reduceSub, Int.reduceMul, Nat.reduceLeDiff, Int.reduceToNat, cell_h, c1, c2, cellO_cells, h2', not_true_eq_false]); (repeat (first | (with_reducible first | (refine hK _ _ ?_; clear hK K) | refine (show ∀ σ' w', _ → K σ' w' from by assumption) _ _ ?_ | refine W_seq_k fun K hK => ?_ | refine W_block_k fun K hK => ?_ | refine W_skip ?_ | refine W_ret ?_) | ((first | ((with_reducible refine W_id ?_); refine W_reg (by decide) (by rfl) ?_) | (with_reducible first | refine W_cond ?_ | refine hZ _ _ ?_ | refine W_exit ?_ | refine Wo_id ?_)); repeat1' simp only [push_cast, Nat.reduceBEq, Nat.reduceLT, Nat.reduceEqDiff, reduceIte, reduceCtorEq, Nat.reduceMul, Nat.reduceAdd, Nat.reduceSub, Int.reduceEq, Int.reduceLT, Int.reduceLE, Int.reduceNeg, Int.reduceAdd, Int.reduceSub, Int.reduceMul, Nat.reduceLeDiff, Int.reduceToNat, cell_h, c1, c2, cellO_cells, h2', not_true_eq_false]) | ((repeat ((fail_if_success with_reducible refine hK _ _ ?_); clear hK K)); (with_reducible refine hK _ _ ?_); clear hK K))))
    exact no hno _ hx
end Go.Proofs.Ytkafpameheohdaa
end
section
set_option linter.unusedSimpArgs false
set_option linter.unusedVariables false
namespace Go.Vk
structure MvS (L : List Nd) (N : Nat) (pk ck : List Int) : Prop where
  gd : Gd L
  len : L.length = N
  big : 4 ≤ N
  k1 : (gN L 1).kids = pk
  k3 : (gN L 3).kids = ck
  n1 : (gN L 1).kind = 3
  n2 : (gN L 2).kind = 3
  n3 : (gN L 3).kind = 6
  p1 : (gN L 1).parent = -1
  p2 : (gN L 2).parent = -1
  c2 : (gN L 2).content = 3
  at_ : ∀ n ∈ L, n.attrs = []
theorem MvS.p3 {L : List Nd} {N : Nat} {pk ck : List Int} (h : MvS L N pk ck) : (gN L 3).parent = -1 := by
  have h1 := h.gd.low 3
  have h2 := h.gd.knd 3
  rw [h.n3] at h2
  by_cases hp : 0 ≤ (gN L 3).parent
  · have := h2 hp; simp [kidK] at this
  · omega
theorem MvS.up1 {L : List Nd} {N : Nat} {pk ck : List Int} (h : MvS L N pk ck) : upN L 1 = -1 := by rw [upN_g, h.n1, h.p1]; decide
theorem MvS.up2 {L : List Nd} {N : Nat} {pk ck : List Int} (h : MvS L N pk ck) : upN L 2 = -1 := by rw [upN_g, h.n2, h.p2]; decide
theorem MvS.up3 {L : List Nd} {N : Nat} {pk ck : List Int} (h : MvS L N pk ck) : upN L 3 = 2 := by rw [upN_g, h.n3, if_pos rfl]; rfl
/-- who stands above the two -/
theorem MvS.above1 {L : List Nd} {N : Nat} {pk ck : List Int} (h : MvS L N pk ck) (i : Int) : aboveN L i 1 = decide (1 = i) := by
  obtain ⟨n, hn⟩ : ∃ n, L.length = n + 4 := ⟨L.length - 4, by have := h.len; have := h.big; omega⟩
  rw [aboveN, aboveF_ab, hn]
  simp [ab, h.up1]
theorem MvS.above3 {L : List Nd} {N : Nat} {pk ck : List Int} (h : MvS L N pk ck) (i : Int) : aboveN L i 3 = (decide (3 = i) || decide (2 = i)) := by
  obtain ⟨n, hn⟩ : ∃ n, L.length = n + 4 := ⟨L.length - 4, by have := h.len; have := h.big; omega⟩
  rw [aboveN, aboveF_ab, hn]
  simp [ab, h.up3, h.up2]
theorem addK_neg (i : Int) (l : List Int) : addK (-1) i l = l ++ [i] := by simp [addK]
/-- a node is hung that was nobody's kid, or another one's -/
theorem MvS.hang {L : List Nd} {N : Nat} {pk ck : List Int} (h : MvS L N pk ck) {i p : Nat} (hi : 4 ≤ i) (hil : i < N) (hp : p = 1 ∨ p = 3) (hg : Gd (hangN L p (-1) i)) :
    MvS (hangN L p (-1) i) N (if p = 1 then pk.erase i ++ [(i : Int)] else pk.erase i) (if p = 3 then ck.erase i ++ [(i : Int)] else ck.erase i) := by
  have hl := h.len
  have hb := h.big
  have hgn := gN_hang h.gd (i := i) (p := p) (by omega) (by omega) (-1)
  have ne : ∀ t : Int, t < 4 → ¬ t = (i : Int) := fun t ht => by omega
  refine ⟨hg, by rw [hangN_len]; exact hl, hb, ?_, ?_, ?_, ?_, ?_, ?_, ?_, ?_, fun n hn => ?_⟩
  · rw [hgn]
    show (if (1 : Int) = (p : Nat) then addK (-1) i ((gN L 1).kids.erase i) else (gN L 1).kids.erase i) = _
    rw [h.k1, addK_neg]
    rcases hp with rfl | rfl
    · rw [if_pos rfl]; exact if_pos rfl
    · rw [if_neg (by decide), if_neg (by decide)]
  · rw [hgn]
    show (if (3 : Int) = (p : Nat) then addK (-1) i ((gN L 3).kids.erase i) else (gN L 3).kids.erase i) = _
    rw [h.k3, addK_neg]
    rcases hp with rfl | rfl
    · rw [if_neg (by decide), if_neg (by decide)]
    · rw [if_pos rfl]; exact if_pos rfl
  · rw [hgn]; exact h.n1
  · rw [hgn]; exact h.n2
  · rw [hgn]; exact h.n3
  · rw [hgn]; simp only [if_neg (ne 1 (by decide))]; exact h.p1
  · rw [hgn]; simp only [if_neg (ne 2 (by decide))]; exact h.p2
  · rw [hgn]; exact h.c2
  · obtain ⟨k, hk⟩ := List.getElem?_of_mem hn
    have e := gN_nat hk
    rw [hgn] at e
    have e2 : n.attrs = (gN L k).attrs := by rw [← e]
    rw [e2]
    by_cases hkl : k < L.length
    · exact h.at_ _ (List.mem_of_getElem? (gN_some hkl))
    · rw [gN_none (by omega)]; rfl
theorem MvS.push {L : List Nd} {N : Nat} {pk ck : List Int} (h : MvS L N pk ck) {n : Nd} (hp : n.parent = -1) (hk : n.kids = []) (ha : n.attrs = []) (h1 : n.kind ≠ 1) : MvS (L ++ [n]) (N + 1) pk ck := by
  have hl := h.len
  have hb := h.big
  have ne : ∀ t : Int, t < 4 → gN (L ++ [n]) t = gN L t := fun t ht => by rw [gN_push, if_neg (by omega)]
  refine ⟨h.gd.push hp hk h1, by simp [hl], by omega, ?_, ?_, ?_, ?_, ?_, ?_, ?_, ?_, fun m hm => ?_⟩
  · rw [ne 1 (by decide)]; exact h.k1
  · rw [ne 3 (by decide)]; exact h.k3
  · rw [ne 1 (by decide)]; exact h.n1
  · rw [ne 2 (by decide)]; exact h.n2
  · rw [ne 3 (by decide)]; exact h.n3
  · rw [ne 1 (by decide)]; exact h.p1
  · rw [ne 2 (by decide)]; exact h.p2
  · rw [ne 2 (by decide)]; exact h.c2
  · simp only [List.mem_append, List.mem_singleton] at hm
    rcases hm with hm | rfl
    · exact h.at_ m hm
    · exact ha
/-- a new node behind the kids of one of the two -/
theorem MvS.add {L : List Nd} {N : Nat} {pk ck : List Int} (h : MvS L N pk ck) {n : Nd} (hk : kidK n.kind = true) (hp : n.parent = -1) (hks : n.kids = []) (ha : n.attrs = []) {p : Nat} (hp2 : p = 1 ∨ p = 3) :
    ∃ L', appendN (L ++ [n]) p N = (L', 0) ∧ MvS L' (N + 1) (if p = 1 then pk ++ [(N : Int)] else pk) (if p = 3 then ck ++ [(N : Int)] else ck) := by
  have hl := h.len
  have hb := h.big
  have h' := h.push hp hks ha (kidK_one hk)
  have hh : holdsN (L ++ [n]) p = true := by
    rw [holdsN_g]
    rcases hp2 with rfl | rfl
    · show holdK (gN (L ++ [n]) 1).kind = true; rw [h'.n1]; decide
    · show holdK (gN (L ++ [n]) 3).kind = true; rw [h'.n3]; decide
  have hn : hangsN (L ++ [n]) N = true := by rw [hangsN_g, gN_push, if_pos (by omega)]; exact hk
  have hab : aboveN (L ++ [n]) N p = false := by
    rcases hp2 with rfl | rfl
    · show aboveN (L ++ [n]) N 1 = false
      rw [h'.above1]; simp; omega
    · show aboveN (L ++ [n]) N 3 = false
      rw [h'.above3]; simp; omega
  have e : appendN (L ++ [n]) p N = (hangN (L ++ [n]) p (-1) N, 0) := by
    unfold appendN
    rw [if_pos ⟨hh, hn, hab⟩]
    simp
  refine ⟨_, e, ?_⟩
  have hg : Gd (hangN (L ++ [n]) p (-1) N) := by have := Go.Proofs.Ytkafpameheohdaa.append_gd h'.gd p N; rw [e] at this; exact this
  have := h'.hang (i := N) (p := p) hb (by omega) hp2 hg
  have e1 : pk.erase (N : Int) = pk := List.erase_of_not_mem fun hm => by
    rw [← h.k1] at hm
    have := (h.gd.range (j := (N : Int)) (by have := (h.gd.kid 1 N).1 hm; omega)).1; omega
  have e2 : ck.erase (N : Int) = ck := List.erase_of_not_mem fun hm => by
    rw [← h.k3] at hm
    have := (h.gd.range (j := (N : Int)) (by have := (h.gd.kid 3 N).1 hm; omega)).1; omega
  rw [e1, e2] at this
  exact this
theorem MvS.holds {L : List Nd} {N : Nat} {pk ck : List Int} (h : MvS L N pk ck) : holdsN L 1 = true ∧ holdsN L 3 = true := by
  refine ⟨?_, ?_⟩
  · rw [holdsN_g, h.n1]; decide
  · rw [holdsN_g, h.n3]; decide
/-- the template among the kids: then its content stands below them -/
theorem MvS.last {L : List Nd} {N : Nat} {pk ck : List Int} (h : MvS L N pk ck) : ∃ L', appendN L 1 2 = (L', 0) ∧ moveN L' 1 3 = (L', 2) ∧ Gd L' ∧ L'.length = N ∧ ∀ n ∈ L', n.attrs = [] := by
  have hb := h.big
  have hl := h.len
  have hh : hangsN L 2 = true := by rw [hangsN_g, h.n2]; decide
  have hab : aboveN L 2 1 = false := by rw [h.above1]; decide
  have e : appendN L 1 2 = (hangN L 1 (-1) 2, 0) := if_pos ⟨h.holds.1, hh, hab⟩
  have hg : Gd (hangN L 1 (-1) 2) := by have := Go.Proofs.Ytkafpameheohdaa.append_gd h.gd 1 2; rw [e] at this; exact this
  have hgn := gN_hang h.gd (i := 2) (p := 1) (by omega) (by omega) (-1)
  have hlen : (hangN L 1 (-1) 2).length = N := by rw [hangN_len]; exact hl
  refine ⟨_, e, if_neg fun hx => ?_, hg, hlen, fun n hn => ?_⟩
  · have hx := hx.2.2
    obtain ⟨n, hn⟩ : ∃ n, (hangN L 1 (-1) 2).length = n + 4 := ⟨N - 4, by omega⟩
    have u3 : upN (hangN L 1 (-1) 2) 3 = 2 := by rw [upN_g, hgn]; simp [h.n3]
    have u2 : upN (hangN L 1 (-1) 2) 2 = 1 := by rw [upN_g, hgn]; simp [h.n2]
    rw [aboveN, aboveF_ab, hn] at hx
    simp [ab, u3, u2] at hx
  · obtain ⟨k, hk⟩ := List.getElem?_of_mem hn
    have e := gN_nat hk
    rw [hgn] at e
    have e2 : n.attrs = (gN L k).attrs := by rw [← e]
    rw [e2]
    by_cases hkl : k < L.length
    · exact h.at_ _ (List.mem_of_getElem? (gN_some hkl))
    · rw [gN_none (by omega)]; rfl
end Go.Vk
end
section
set_option linter.unusedSimpArgs false
set_option linter.unusedVariables false
namespace Go.Vk
/-- other memory of our own changes -/
theorem At.app {G Q : Nat → Prop} {w0 w w' : World} {P : Nat → Prop} {pa : Nat} {L : List Nd} (h : At w0 w P pa L) (hu : Upd G w w') (hG : ∀ b, b < w.heap.size → G b → P b ∧ w0.heap.size ≤ b) (hQ : ∀ b, Q b → P b ∨ (w.heap.size ≤ b ∧ b < w'.heap.size)) : At w0 w' Q pa L := by
  have hs := hu.alike.size
  have h1 := h.ar.mono (G := fun b => AF w0 P b ∧ b < w.heap.size) fun b hl hf => ⟨hf, hl⟩
  have h2 := h1.frame hu fun b hf hg => hf.1.2 (hG b hf.2 hg).1
  refine ⟨h2.mono fun b _ hf => ⟨hf.1.1, fun hq => ?_⟩, h.gd, Upd.trans h.ext hu fun i hi hg => ?_, fun b hb => ?_⟩
  · rcases hQ b hq with hp | hp
    · exact hf.1.2 hp
    · have := hf.2; omega
  · have h0 := h.ext.alike.size
    have := (hG i (by omega) hg).2; omega
  · rcases hQ b hb with hp | hp
    · have := h.low b hp; omega
    · exact hp.2
end Go.Vk
end
section
set_option linter.unusedSimpArgs false
set_option linter.unusedVariables false
namespace Go.Vk
open Go
def LsAt (w0 w : World) (Q : Nat → Prop) (pl pa : Nat) (L : List Nd) (l : List Int) : Prop :=
  ∃ lv bo, FL w pl (.pointer (some ⟨pa, 0, none⟩)) lv l bo ∧ At w0 w (fun b => Q b ∨ b = pl ∨ bo = some b) pa L ∧ w0.heap.size ≤ pl ∧ (∀ b, bo = some b → w0.heap.size ≤ b ∧ ¬ Q b) ∧ ¬ Q pl
theorem LsAt.pass {w0 w w' : World} {Q : Nat → Prop} {pl pa : Nat} {L : List Nd} {l : List Int} (h : LsAt w0 w Q pl pa L l) (hx : Ext w w') : LsAt w0 w' Q pl pa L l := by
  obtain ⟨lv, bo, h1, h2, h3, h4, h5⟩ := h
  exact ⟨lv, bo, h1.ext hx, h2.pass hx, h3, h4, h5⟩
theorem ls_put {w0 w w2 : World} {Q : Nat → Prop} {pl pa : Nat} {L : List Nd} {l l' : List Int} {lv u : Value} {bo bo' : Option Nat} (hF : FL w pl (.pointer (some ⟨pa, 0, none⟩)) lv l bo) (hA : At w0 w (fun b => Q b ∨ b = pl ∨ bo = some b) pa L)
    (hpl : w0.heap.size ≤ pl) (hbo : ∀ b, bo = some b → w0.heap.size ≤ b ∧ ¬ Q b) (hQ : ¬ Q pl) (hQl : ∀ b, Q b → b < w.heap.size) (g1 : SlAt w2 1 u (intCells l') bo') (g2 : Upd (fun b => bo = some b) w w2) (g3 : ∀ b, bo' = some b → bo = some b ∨ w.heap.size ≤ b) :
    canStore w2 ⟨pl, 1, none⟩ ∧ LsAt w0 (w2.setCell ⟨pl, 1, none⟩ u) Q pl pa L l' ∧ Upd (AF w0 Q) w (w2.setCell ⟨pl, 1, none⟩ u) := by
  have hlt := blk_lt hF.head
  have hnb : ¬ bo = some pl := hF.ne
  have hp2 := (g2.same pl hlt hnb).trans hF.head
  have h0 := hA.ext.alike.size
  have hne' : bo' ≠ some pl := fun e => by
    rcases g3 pl e with h | h
    · exact hnb h
    · omega
  have hs2 := g2.alike.size
  have up : Upd (fun b => b = pl) w2 (w2.setCell ⟨pl, 1, none⟩ u) := Upd.setCell (F := fun b => b = pl) (a := ⟨pl, 1, none⟩) w2 rfl u
  refine ⟨by rw [can_h, hp2, canO_cells]; exact Nat.lt_succ_self 1, ⟨u, bo', ⟨?_, g1.upd up fun b hb e => hne' (by rw [hb, e]), hne'⟩, ?_, hpl, fun b hb => ?_, hQ⟩, ?_⟩
  · rw [heap_set_h, if_pos rfl, hp2]; rfl
  · have hA2 : At w0 w2 (fun b => Q b ∨ b = pl ∨ bo' = some b) pa L := hA.app g2 (fun b hb e => ⟨.inr (.inr e), (hbo b e).1⟩) fun b hb => by
      rcases hb with hb | hb | hb
      · exact .inl (.inl hb)
      · exact .inl (.inr (.inl hb))
      · rcases g3 b hb with h | h
        · exact .inl (.inr (.inr h))
        · exact .inr ⟨h, by rw [hb] at g1; exact g1.lt⟩
    exact hA2.frame up fun b e => ⟨.inr (.inl e), e ▸ hpl⟩
  · rcases g3 b hb with h | h
    · exact hbo b h
    · exact ⟨by omega, fun hq => by have := hQl b hq; omega⟩
  · refine Upd.trans (g2.mono fun b _ e => ⟨(hbo b e).1, (hbo b e).2⟩) up fun b _ e => ⟨e ▸ hpl, e ▸ hQ⟩
def layN (l : List Int) (k : Nat) (i : Int) : List Int × Int := if 64 ≤ l.length then (l, 3) else (l.take k ++ i :: l.drop k, 0)
end Go.Vk
namespace Go.Proofs.Ytkafpameheohdaa
open Go Go.Vk
set_option maxHeartbeats 40000000
section
variable {w0 w : World} {Q : Nat → Prop} {pl pa : Nat} {L : List Nd} {l : List Int}
theorem lay_c (h : LsAt w0 w Q pl pa L l) (hl : l.length < 10000) (k : Nat) (hk : k ≤ l.length) (i : Int) : Gives Try.prog 67 #[.pointer (some ⟨pl, 0, none⟩), .int .i64 (k : Int), .int .i64 i] w fun v w' => v = .int .i64 (layN l k i).2 ∧ LsAt w0 w' Q pl pa L (layN l k i).1 ∧ Upd (AF w0 Q) w w' := by
  have h' := h
  obtain ⟨lv, bo, hF, hA, hpl, hbo, hQ⟩ := h
  have hQl : ∀ b, Q b → b < w.heap.size := fun b hb => hA.low b (.inl hb)
  have h1 := hF.c1
  obtain ⟨a, c, rfl, hc⟩ := hF.sl.ints_len
  by_cases hb : 64 ≤ l.length
  · have b0 : (64 : Int) ≤ (l.length : Int) := by omega
    have e : layN l k i = (l, 3) := if_pos hb
    rw [e]
    refine Gives.of_W Try.call67 Try.func67 rfl Try.ntmps67 (by simp) ?_; intro Z hZ
    (repeat (first | (with_reducible first | (refine hK _ _ ?_; clear hK K) | refine (show ∀ σ' w', _ → K σ' w' from by assumption) _ _ ?_ | refine W_seq_k fun K hK => ?_ | refine W_block_k fun K hK => ?_ | refine W_skip ?_ | refine W_ret ?_) | ((first | ((with_reducible refine W_id ?_); refine W_reg (by decide) (by rfl) ?_) | (with_reducible first | refine W_cond ?_ | refine hZ _ _ ?_ | refine W_exit ?_ | refine Wo_id ?_)); repeat1' simp only [push_cast, Nat.reduceBEq, Nat.reduceLT, Nat.reduceEqDiff, reduceIte, reduceCtorEq, Nat.reduceMul, Nat.reduceAdd, Nat.reduceSub, Int.reduceEq, Int.reduceLT, Int.reduceLE, Int.reduceNeg, Int.reduceAdd, Int.reduceSub, Int.reduceMul, Nat.reduceLeDiff, Int.reduceToNat, h1, b0]) | ((repeat ((fail_if_success with_reducible refine hK _ _ ?_); clear hK K)); (with_reducible refine hK _ _ ?_); clear hK K)))
    exact ⟨h', Upd.refl _ _⟩
  · have b0 : ¬ (64 : Int) ≤ (l.length : Int) := by omega
    have e : layN l k i = (l.take k ++ i :: l.drop k, 0) := if_neg hb
    rw [e]
    refine Gives.of_W Try.call67 Try.func67 rfl Try.ntmps67 (by simp) ?_; intro Z hZ
    (repeat (first | (with_reducible first | (refine hK _ _ ?_; clear hK K) | refine (show ∀ σ' w', _ → K σ' w' from by assumption) _ _ ?_ | refine W_seq_k fun K hK => ?_ | refine W_block_k fun K hK => ?_ | refine W_skip ?_ | refine W_ret ?_) | ((first | ((with_reducible refine W_id ?_); refine W_reg (by decide) (by rfl) ?_) | (with_reducible first | refine W_cond ?_ | refine hZ _ _ ?_ | refine W_exit ?_ | refine Wo_id ?_)); repeat1' simp only [push_cast, Nat.reduceBEq, Nat.reduceLT, Nat.reduceEqDiff, reduceIte, reduceCtorEq, Nat.reduceMul, Nat.reduceAdd, Nat.reduceSub, Int.reduceEq, Int.reduceLT, Int.reduceLE, Int.reduceNeg, Int.reduceAdd, Int.reduceSub, Int.reduceMul, Nat.reduceLeDiff, Int.reduceToNat, h1, b0]) | ((repeat ((fail_if_success with_reducible refine hK _ _ ?_); clear hK K)); (with_reducible refine hK _ _ ?_); clear hK K)))
    refine bs_one sty28 (by decide) (by decide) (v := .int .i64 i) rfl ?_
    have hx := Ext.alloc w (.cells (Value.int .i64 i).cells 3)
    have hb1 : (w.alloc (.cells (Value.int .i64 i).cells 3)).heap[w.heap.size]? = some (.cells #[.int .i64 i] 3 (0, 0)) := by rw [heap_alloc_h, if_pos rfl]; rfl
    have hF1 := hF.ext hx
    have hA1 := hA.pass hx
    have hne : bo ≠ some w.heap.size := fun e => by
      have := hF.sl; rw [e] at this; have := this.lt; omega
    refine (insert_c hF1.sl (by omega) hb1 hne k hk).mono ?_
    rintro v w2 ⟨bo', g1, g2, g3⟩
    have hsz : (w.alloc (.cells (Value.int .i64 i).cells 3)).heap.size = w.heap.size + 1 := size_alloc_h _ _
    obtain ⟨k1, k2, k3⟩ := ls_put hF1 hA1 hpl hbo hQ (fun b hb => by have := hQl b hb; omega) g1 g2 g3
    obtain ⟨va, vn, vc, rfl, _, _⟩ := g1.len
    ((repeat simp only [push_cast, Nat.reduceBEq, Nat.reduceLT, Nat.reduceEqDiff, reduceIte, reduceCtorEq, Nat.reduceMul, Nat.reduceAdd, Nat.reduceSub, Int.reduceEq, Int.reduceLT, Int.reduceLE, Int.reduceNeg, Int.reduceAdd, Int.reduceSub, Int.reduceMul, Nat.reduceLeDiff, Int.reduceToNat, k1]); (repeat (first | (with_reducible first | (refine hK _ _ ?_; clear hK K) | refine (show ∀ σ' w', _ → K σ' w' from by assumption) _ _ ?_ | refine W_seq_k fun K hK => ?_ | refine W_block_k fun K hK => ?_ | refine W_skip ?_ | refine W_ret ?_) | ((first | ((with_reducible refine W_id ?_); refine W_reg (by decide) (by rfl) ?_) | (with_reducible first | refine W_cond ?_ | refine hZ _ _ ?_ | refine W_exit ?_ | refine Wo_id ?_)); repeat1' simp only [push_cast, Nat.reduceBEq, Nat.reduceLT, Nat.reduceEqDiff, reduceIte, reduceCtorEq, Nat.reduceMul, Nat.reduceAdd, Nat.reduceSub, Int.reduceEq, Int.reduceLT, Int.reduceLE, Int.reduceNeg, Int.reduceAdd, Int.reduceSub, Int.reduceMul, Nat.reduceLeDiff, Int.reduceToNat, k1]) | ((repeat ((fail_if_success with_reducible refine hK _ _ ?_); clear hK K)); (with_reducible refine hK _ _ ?_); clear hK K))))
    exact ⟨k2, Upd.trans hx.upd k3 fun _ _ h => h⟩
theorem mark_c (h : LsAt w0 w Q pl pa L l) (hl : l.length < 10000) : Gives Try.prog 30 #[.pointer (some ⟨pl, 0, none⟩)] w fun v w' => v = .int .i64 (layN l l.length (-1)).2 ∧ LsAt w0 w' Q pl pa L (layN l l.length (-1)).1 ∧ Upd (AF w0 Q) w w' := by
  have h' := h
  obtain ⟨lv, bo, hF, hA, hpl, hbo, hQ⟩ := h
  have h1 := hF.c1
  have hn := fnone_c hF
  obtain ⟨a, c, rfl, hc⟩ := hF.sl.ints_len
  refine Gives.of_W Try.call30 Try.func30 rfl Try.ntmps30 (by simp) ?_; intro Z hZ
  (repeat (first | (with_reducible first | (refine hK _ _ ?_; clear hK K) | refine (show ∀ σ' w', _ → K σ' w' from by assumption) _ _ ?_ | refine W_seq_k fun K hK => ?_ | refine W_block_k fun K hK => ?_ | refine W_skip ?_ | refine W_ret ?_) | ((first | ((with_reducible refine W_id ?_); refine W_reg (by decide) (by rfl) ?_) | (with_reducible first | refine W_cond ?_ | refine hZ _ _ ?_ | refine W_exit ?_ | refine Wo_id ?_)); repeat1' simp only [push_cast, Nat.reduceBEq, Nat.reduceLT, Nat.reduceEqDiff, reduceIte, reduceCtorEq, Nat.reduceMul, Nat.reduceAdd, Nat.reduceSub, Int.reduceEq, Int.reduceLT, Int.reduceLE, Int.reduceNeg, Int.reduceAdd, Int.reduceSub, Int.reduceMul, Nat.reduceLeDiff, Int.reduceToNat]) | ((repeat ((fail_if_success with_reducible refine hK _ _ ?_); clear hK K)); (with_reducible refine hK _ _ ?_); clear hK K)))
  refine hn.mono ?_
  rintro v w' ⟨rfl, rfl⟩
  ((repeat simp only [push_cast, Nat.reduceBEq, Nat.reduceLT, Nat.reduceEqDiff, reduceIte, reduceCtorEq, Nat.reduceMul, Nat.reduceAdd, Nat.reduceSub, Int.reduceEq, Int.reduceLT, Int.reduceLE, Int.reduceNeg, Int.reduceAdd, Int.reduceSub, Int.reduceMul, Nat.reduceLeDiff, Int.reduceToNat, h1]); (repeat (first | (with_reducible first | (refine hK _ _ ?_; clear hK K) | refine (show ∀ σ' w', _ → K σ' w' from by assumption) _ _ ?_ | refine W_seq_k fun K hK => ?_ | refine W_block_k fun K hK => ?_ | refine W_skip ?_ | refine W_ret ?_) | ((first | ((with_reducible refine W_id ?_); refine W_reg (by decide) (by rfl) ?_) | (with_reducible first | refine W_cond ?_ | refine hZ _ _ ?_ | refine W_exit ?_ | refine Wo_id ?_)); repeat1' simp only [push_cast, Nat.reduceBEq, Nat.reduceLT, Nat.reduceEqDiff, reduceIte, reduceCtorEq, Nat.reduceMul, Nat.reduceAdd, Nat.reduceSub, Int.reduceEq, Int.reduceLT, Int.reduceLE, Int.reduceNeg, Int.reduceAdd, Int.reduceSub, Int.reduceMul, Nat.reduceLeDiff, Int.reduceToNat, h1]) | ((repeat ((fail_if_success with_reducible refine hK _ _ ?_); clear hK K)); (with_reducible refine hK _ _ ?_); clear hK K))))
  refine (lay_c h' hl l.length (Nat.le_refl _) (-1)).mono ?_
  rintro v w' ⟨rfl, k2, k3⟩
  ((repeat simp only [push_cast, Nat.reduceBEq, Nat.reduceLT, Nat.reduceEqDiff, reduceIte, reduceCtorEq, Nat.reduceMul, Nat.reduceAdd, Nat.reduceSub, Int.reduceEq, Int.reduceLT, Int.reduceLE, Int.reduceNeg, Int.reduceAdd, Int.reduceSub, Int.reduceMul, Nat.reduceLeDiff, Int.reduceToNat]); (repeat (first | (with_reducible first | (refine hK _ _ ?_; clear hK K) | refine (show ∀ σ' w', _ → K σ' w' from by assumption) _ _ ?_ | refine W_seq_k fun K hK => ?_ | refine W_block_k fun K hK => ?_ | refine W_skip ?_ | refine W_ret ?_) | ((first | ((with_reducible refine W_id ?_); refine W_reg (by decide) (by rfl) ?_) | (with_reducible first | refine W_cond ?_ | refine hZ _ _ ?_ | refine W_exit ?_ | refine Wo_id ?_)); repeat1' simp only [push_cast, Nat.reduceBEq, Nat.reduceLT, Nat.reduceEqDiff, reduceIte, reduceCtorEq, Nat.reduceMul, Nat.reduceAdd, Nat.reduceSub, Int.reduceEq, Int.reduceLT, Int.reduceLE, Int.reduceNeg, Int.reduceAdd, Int.reduceSub, Int.reduceMul, Nat.reduceLeDiff, Int.reduceToNat]) | ((repeat ((fail_if_success with_reducible refine hK _ _ ?_); clear hK K)); (with_reducible refine hK _ _ ?_); clear hK K))))
  exact ⟨k2, k3⟩
theorem may_c (h : LsAt w0 w Q pl pa L l) (hb : L.length < 100000) (ha : ∀ n ∈ L, n.attrs.length < 1000000) (i : Int) : Gives Try.prog 68 #[.pointer (some ⟨pl, 0, none⟩), .int .i64 i] w fun v w' => v = .int .i64 (if ((nd? L i).getD zN).kind = 3 then 0 else 2) ∧ Ext w w' := by
  obtain ⟨lv, bo, hF, hA, hpl, hbo, hQ⟩ := h
  have h0 := hF.c0
  have hn := fnone_c hF
  by_cases hk : ((nd? L i).getD zN).kind = 3
  · rw [if_pos hk]
    refine Gives.of_W Try.call68 Try.func68 rfl Try.ntmps68 (by simp) ?_; intro Z hZ
    (repeat (first | (with_reducible first | (refine hK _ _ ?_; clear hK K) | refine (show ∀ σ' w', _ → K σ' w' from by assumption) _ _ ?_ | refine W_seq_k fun K hK => ?_ | refine W_block_k fun K hK => ?_ | refine W_skip ?_ | refine W_ret ?_) | ((first | ((with_reducible refine W_id ?_); refine W_reg (by decide) (by rfl) ?_) | (with_reducible first | refine W_cond ?_ | refine hZ _ _ ?_ | refine W_exit ?_ | refine Wo_id ?_)); repeat1' simp only [push_cast, Nat.reduceBEq, Nat.reduceLT, Nat.reduceEqDiff, reduceIte, reduceCtorEq, Nat.reduceMul, Nat.reduceAdd, Nat.reduceSub, Int.reduceEq, Int.reduceLT, Int.reduceLE, Int.reduceNeg, Int.reduceAdd, Int.reduceSub, Int.reduceMul, Nat.reduceLeDiff, Int.reduceToNat]) | ((repeat ((fail_if_success with_reducible refine hK _ _ ?_); clear hK K)); (with_reducible refine hK _ _ ?_); clear hK K)))
    refine hn.mono ?_
    rintro v w' ⟨rfl, rfl⟩
    ((repeat simp only [push_cast, Nat.reduceBEq, Nat.reduceLT, Nat.reduceEqDiff, reduceIte, reduceCtorEq, Nat.reduceMul, Nat.reduceAdd, Nat.reduceSub, Int.reduceEq, Int.reduceLT, Int.reduceLE, Int.reduceNeg, Int.reduceAdd, Int.reduceSub, Int.reduceMul, Nat.reduceLeDiff, Int.reduceToNat, h0]); (repeat (first | (with_reducible first | (refine hK _ _ ?_; clear hK K) | refine (show ∀ σ' w', _ → K σ' w' from by assumption) _ _ ?_ | refine W_seq_k fun K hK => ?_ | refine W_block_k fun K hK => ?_ | refine W_skip ?_ | refine W_ret ?_) | ((first | ((with_reducible refine W_id ?_); refine W_reg (by decide) (by rfl) ?_) | (with_reducible first | refine W_cond ?_ | refine hZ _ _ ?_ | refine W_exit ?_ | refine Wo_id ?_)); repeat1' simp only [push_cast, Nat.reduceBEq, Nat.reduceLT, Nat.reduceEqDiff, reduceIte, reduceCtorEq, Nat.reduceMul, Nat.reduceAdd, Nat.reduceSub, Int.reduceEq, Int.reduceLT, Int.reduceLE, Int.reduceNeg, Int.reduceAdd, Int.reduceSub, Int.reduceMul, Nat.reduceLeDiff, Int.reduceToNat, h0]) | ((repeat ((fail_if_success with_reducible refine hK _ _ ?_); clear hK K)); (with_reducible refine hK _ _ ?_); clear hK K))))
    refine (node_a hA hb ha i).mono ?_
    rintro v w2 ⟨m, rfl, em, _, _, hx, _, _⟩
    have ek : m.nd.kind = 3 := by rw [em]; exact hk
    ((repeat simp only [push_cast, Nat.reduceBEq, Nat.reduceLT, Nat.reduceEqDiff, reduceIte, reduceCtorEq, Nat.reduceMul, Nat.reduceAdd, Nat.reduceSub, Int.reduceEq, Int.reduceLT, Int.reduceLE, Int.reduceNeg, Int.reduceAdd, Int.reduceSub, Int.reduceMul, Nat.reduceLeDiff, Int.reduceToNat, fld0, ek, not_true_eq_false]); (repeat (first | (with_reducible first | (refine hK _ _ ?_; clear hK K) | refine (show ∀ σ' w', _ → K σ' w' from by assumption) _ _ ?_ | refine W_seq_k fun K hK => ?_ | refine W_block_k fun K hK => ?_ | refine W_skip ?_ | refine W_ret ?_) | ((first | ((with_reducible refine W_id ?_); refine W_reg (by decide) (by rfl) ?_) | (with_reducible first | refine W_cond ?_ | refine hZ _ _ ?_ | refine W_exit ?_ | refine Wo_id ?_)); repeat1' simp only [push_cast, Nat.reduceBEq, Nat.reduceLT, Nat.reduceEqDiff, reduceIte, reduceCtorEq, Nat.reduceMul, Nat.reduceAdd, Nat.reduceSub, Int.reduceEq, Int.reduceLT, Int.reduceLE, Int.reduceNeg, Int.reduceAdd, Int.reduceSub, Int.reduceMul, Nat.reduceLeDiff, Int.reduceToNat, fld0, ek, not_true_eq_false]) | ((repeat ((fail_if_success with_reducible refine hK _ _ ?_); clear hK K)); (with_reducible refine hK _ _ ?_); clear hK K))))
    exact hx
  · rw [if_neg hk]
    refine Gives.of_W Try.call68 Try.func68 rfl Try.ntmps68 (by simp) ?_; intro Z hZ
    (repeat (first | (with_reducible first | (refine hK _ _ ?_; clear hK K) | refine (show ∀ σ' w', _ → K σ' w' from by assumption) _ _ ?_ | refine W_seq_k fun K hK => ?_ | refine W_block_k fun K hK => ?_ | refine W_skip ?_ | refine W_ret ?_) | ((first | ((with_reducible refine W_id ?_); refine W_reg (by decide) (by rfl) ?_) | (with_reducible first | refine W_cond ?_ | refine hZ _ _ ?_ | refine W_exit ?_ | refine Wo_id ?_)); repeat1' simp only [push_cast, Nat.reduceBEq, Nat.reduceLT, Nat.reduceEqDiff, reduceIte, reduceCtorEq, Nat.reduceMul, Nat.reduceAdd, Nat.reduceSub, Int.reduceEq, Int.reduceLT, Int.reduceLE, Int.reduceNeg, Int.reduceAdd, Int.reduceSub, Int.reduceMul, Nat.reduceLeDiff, Int.reduceToNat]) | ((repeat ((fail_if_success with_reducible refine hK _ _ ?_); clear hK K)); (with_reducible refine hK _ _ ?_); clear hK K)))
    refine hn.mono ?_
    rintro v w' ⟨rfl, rfl⟩
    ((repeat simp only [push_cast, Nat.reduceBEq, Nat.reduceLT, Nat.reduceEqDiff, reduceIte, reduceCtorEq, Nat.reduceMul, Nat.reduceAdd, Nat.reduceSub, Int.reduceEq, Int.reduceLT, Int.reduceLE, Int.reduceNeg, Int.reduceAdd, Int.reduceSub, Int.reduceMul, Nat.reduceLeDiff, Int.reduceToNat, h0]); (repeat (first | (with_reducible first | (refine hK _ _ ?_; clear hK K) | refine (show ∀ σ' w', _ → K σ' w' from by assumption) _ _ ?_ | refine W_seq_k fun K hK => ?_ | refine W_block_k fun K hK => ?_ | refine W_skip ?_ | refine W_ret ?_) | ((first | ((with_reducible refine W_id ?_); refine W_reg (by decide) (by rfl) ?_) | (with_reducible first | refine W_cond ?_ | refine hZ _ _ ?_ | refine W_exit ?_ | refine Wo_id ?_)); repeat1' simp only [push_cast, Nat.reduceBEq, Nat.reduceLT, Nat.reduceEqDiff, reduceIte, reduceCtorEq, Nat.reduceMul, Nat.reduceAdd, Nat.reduceSub, Int.reduceEq, Int.reduceLT, Int.reduceLE, Int.reduceNeg, Int.reduceAdd, Int.reduceSub, Int.reduceMul, Nat.reduceLeDiff, Int.reduceToNat, h0]) | ((repeat ((fail_if_success with_reducible refine hK _ _ ?_); clear hK K)); (with_reducible refine hK _ _ ?_); clear hK K))))
    refine (node_a hA hb ha i).mono ?_
    rintro v w2 ⟨m, rfl, em, _, _, hx, _, _⟩
    have ek : ¬ m.nd.kind = 3 := by rw [em]; exact hk
    ((repeat simp only [push_cast, Nat.reduceBEq, Nat.reduceLT, Nat.reduceEqDiff, reduceIte, reduceCtorEq, Nat.reduceMul, Nat.reduceAdd, Nat.reduceSub, Int.reduceEq, Int.reduceLT, Int.reduceLE, Int.reduceNeg, Int.reduceAdd, Int.reduceSub, Int.reduceMul, Nat.reduceLeDiff, Int.reduceToNat, fld0, ek, not_false_eq_true]); (repeat (first | (with_reducible first | (refine hK _ _ ?_; clear hK K) | refine (show ∀ σ' w', _ → K σ' w' from by assumption) _ _ ?_ | refine W_seq_k fun K hK => ?_ | refine W_block_k fun K hK => ?_ | refine W_skip ?_ | refine W_ret ?_) | ((first | ((with_reducible refine W_id ?_); refine W_reg (by decide) (by rfl) ?_) | (with_reducible first | refine W_cond ?_ | refine hZ _ _ ?_ | refine W_exit ?_ | refine Wo_id ?_)); repeat1' simp only [push_cast, Nat.reduceBEq, Nat.reduceLT, Nat.reduceEqDiff, reduceIte, reduceCtorEq, Nat.reduceMul, Nat.reduceAdd, Nat.reduceSub, Int.reduceEq, Int.reduceLT, Int.reduceLE, Int.reduceNeg, Int.reduceAdd, Int.reduceSub, Int.reduceMul, Nat.reduceLeDiff, Int.reduceToNat, fld0, ek, not_false_eq_true]) | ((repeat ((fail_if_success with_reducible refine hK _ _ ?_); clear hK K)); (with_reducible refine hK _ _ ?_); clear hK K))))
    exact hx
theorem lastF_sat (p : Int → Bool) (l : List Int) (fr : Int) : ∀ k : Nat, 0 ≤ lastF p l fr k → ∃ q : Nat, lastF p l fr k = q ∧ q < k ∧ fr ≤ q ∧ p (l.getD q 0) = true
  | 0, h => by simp [lastF] at h
  | k + 1, h => by
    rw [lastF] at h ⊢
    by_cases h1 : (k : Int) < fr
    · rw [if_pos h1] at h; omega
    · rw [if_neg h1] at h ⊢
      by_cases h2 : p (l.getD k 0) = true
      · rw [if_pos h2]; exact ⟨k, rfl, by omega, by omega, h2⟩
      · rw [if_neg h2] at h ⊢
        obtain ⟨q, e1, e2, e3, e4⟩ := lastF_sat p l fr k h
        exact ⟨q, e1, by omega, e3, e4⟩
theorem indexN_rng (l : List Int) (i : Int) : indexN l i < 0 ∨ ∃ q : Nat, indexN l i = q ∧ q < l.length := by
  unfold indexN
  split
  · exact .inl (by decide)
  · by_cases h : 0 ≤ lastF (fun y => decide (y = i)) l 0 l.length
    · obtain ⟨q, e, h1, _⟩ := lastF_sat _ _ _ _ h
      exact .inr ⟨q, e, h1⟩
    · exact .inl (by omega)
def removeN (l : List Int) (i : Int) : List Int × Int := if indexN l i < 0 then (l, 4) else (l.eraseIdx (indexN l i).toNat, 0)
theorem remove_c (h : LsAt w0 w Q pl pa L l) (hl : l.length < 10000) (i : Int) : Gives Try.prog 48 #[.pointer (some ⟨pl, 0, none⟩), .int .i64 i] w fun v w' => v = .int .i64 (removeN l i).2 ∧ LsAt w0 w' Q pl pa L (removeN l i).1 ∧ Upd (AF w0 Q) w w' := by
  have h' := h
  obtain ⟨lv, bo, hF, hA, hpl, hbo, hQ⟩ := h
  have hQl : ∀ b, Q b → b < w.heap.size := fun b hb => hA.low b (.inl hb)
  have hn := fnone_c hF
  rcases indexN_rng l i with hi | ⟨q, hi, hq⟩
  · have e : removeN l i = (l, 4) := if_pos hi
    rw [e]
    refine Gives.of_W Try.call48 Try.func48 rfl Try.ntmps48 (by simp) ?_; intro Z hZ
    (repeat (first | (with_reducible first | (refine hK _ _ ?_; clear hK K) | refine (show ∀ σ' w', _ → K σ' w' from by assumption) _ _ ?_ | refine W_seq_k fun K hK => ?_ | refine W_block_k fun K hK => ?_ | refine W_skip ?_ | refine W_ret ?_) | ((first | ((with_reducible refine W_id ?_); refine W_reg (by decide) (by rfl) ?_) | (with_reducible first | refine W_cond ?_ | refine hZ _ _ ?_ | refine W_exit ?_ | refine Wo_id ?_)); repeat1' simp only [push_cast, Nat.reduceBEq, Nat.reduceLT, Nat.reduceEqDiff, reduceIte, reduceCtorEq, Nat.reduceMul, Nat.reduceAdd, Nat.reduceSub, Int.reduceEq, Int.reduceLT, Int.reduceLE, Int.reduceNeg, Int.reduceAdd, Int.reduceSub, Int.reduceMul, Nat.reduceLeDiff, Int.reduceToNat]) | ((repeat ((fail_if_success with_reducible refine hK _ _ ?_); clear hK K)); (with_reducible refine hK _ _ ?_); clear hK K)))
    refine hn.mono ?_
    rintro v w' ⟨rfl, rfl⟩
    ((repeat simp only [push_cast, Nat.reduceBEq, Nat.reduceLT, Nat.reduceEqDiff, reduceIte, reduceCtorEq, Nat.reduceMul, Nat.reduceAdd, Nat.reduceSub, Int.reduceEq, Int.reduceLT, Int.reduceLE, Int.reduceNeg, Int.reduceAdd, Int.reduceSub, Int.reduceMul, Nat.reduceLeDiff, Int.reduceToNat]); (repeat (first | (with_reducible first | (refine hK _ _ ?_; clear hK K) | refine (show ∀ σ' w', _ → K σ' w' from by assumption) _ _ ?_ | refine W_seq_k fun K hK => ?_ | refine W_block_k fun K hK => ?_ | refine W_skip ?_ | refine W_ret ?_) | ((first | ((with_reducible refine W_id ?_); refine W_reg (by decide) (by rfl) ?_) | (with_reducible first | refine W_cond ?_ | refine hZ _ _ ?_ | refine W_exit ?_ | refine Wo_id ?_)); repeat1' simp only [push_cast, Nat.reduceBEq, Nat.reduceLT, Nat.reduceEqDiff, reduceIte, reduceCtorEq, Nat.reduceMul, Nat.reduceAdd, Nat.reduceSub, Int.reduceEq, Int.reduceLT, Int.reduceLE, Int.reduceNeg, Int.reduceAdd, Int.reduceSub, Int.reduceMul, Nat.reduceLeDiff, Int.reduceToNat]) | ((repeat ((fail_if_success with_reducible refine hK _ _ ?_); clear hK K)); (with_reducible refine hK _ _ ?_); clear hK K))))
    refine (findex_c hF (by omega) i).mono ?_
    rintro v w2 ⟨rfl, hx⟩
    ((repeat simp only [push_cast, Nat.reduceBEq, Nat.reduceLT, Nat.reduceEqDiff, reduceIte, reduceCtorEq, Nat.reduceMul, Nat.reduceAdd, Nat.reduceSub, Int.reduceEq, Int.reduceLT, Int.reduceLE, Int.reduceNeg, Int.reduceAdd, Int.reduceSub, Int.reduceMul, Nat.reduceLeDiff, Int.reduceToNat, hi]); (repeat (first | (with_reducible first | (refine hK _ _ ?_; clear hK K) | refine (show ∀ σ' w', _ → K σ' w' from by assumption) _ _ ?_ | refine W_seq_k fun K hK => ?_ | refine W_block_k fun K hK => ?_ | refine W_skip ?_ | refine W_ret ?_) | ((first | ((with_reducible refine W_id ?_); refine W_reg (by decide) (by rfl) ?_) | (with_reducible first | refine W_cond ?_ | refine hZ _ _ ?_ | refine W_exit ?_ | refine Wo_id ?_)); repeat1' simp only [push_cast, Nat.reduceBEq, Nat.reduceLT, Nat.reduceEqDiff, reduceIte, reduceCtorEq, Nat.reduceMul, Nat.reduceAdd, Nat.reduceSub, Int.reduceEq, Int.reduceLT, Int.reduceLE, Int.reduceNeg, Int.reduceAdd, Int.reduceSub, Int.reduceMul, Nat.reduceLeDiff, Int.reduceToNat, hi]) | ((repeat ((fail_if_success with_reducible refine hK _ _ ?_); clear hK K)); (with_reducible refine hK _ _ ?_); clear hK K))))
    exact ⟨h'.pass hx, hx.upd⟩
  · have e : removeN l i = (l.eraseIdx q, 0) := by
      unfold removeN; rw [hi, if_neg (by omega)]; simp
    rw [e]
    have b0 : ¬ (q : Int) < 0 := by omega
    have b1 : inI64 ((q : Int) + 1) := by unfold inI64; omega
    refine Gives.of_W Try.call48 Try.func48 rfl Try.ntmps48 (by simp) ?_; intro Z hZ
    (repeat (first | (with_reducible first | (refine hK _ _ ?_; clear hK K) | refine (show ∀ σ' w', _ → K σ' w' from by assumption) _ _ ?_ | refine W_seq_k fun K hK => ?_ | refine W_block_k fun K hK => ?_ | refine W_skip ?_ | refine W_ret ?_) | ((first | ((with_reducible refine W_id ?_); refine W_reg (by decide) (by rfl) ?_) | (with_reducible first | refine W_cond ?_ | refine hZ _ _ ?_ | refine W_exit ?_ | refine Wo_id ?_)); repeat1' simp only [push_cast, Nat.reduceBEq, Nat.reduceLT, Nat.reduceEqDiff, reduceIte, reduceCtorEq, Nat.reduceMul, Nat.reduceAdd, Nat.reduceSub, Int.reduceEq, Int.reduceLT, Int.reduceLE, Int.reduceNeg, Int.reduceAdd, Int.reduceSub, Int.reduceMul, Nat.reduceLeDiff, Int.reduceToNat]) | ((repeat ((fail_if_success with_reducible refine hK _ _ ?_); clear hK K)); (with_reducible refine hK _ _ ?_); clear hK K)))
    refine hn.mono ?_
    rintro v w' ⟨rfl, rfl⟩
    ((repeat simp only [push_cast, Nat.reduceBEq, Nat.reduceLT, Nat.reduceEqDiff, reduceIte, reduceCtorEq, Nat.reduceMul, Nat.reduceAdd, Nat.reduceSub, Int.reduceEq, Int.reduceLT, Int.reduceLE, Int.reduceNeg, Int.reduceAdd, Int.reduceSub, Int.reduceMul, Nat.reduceLeDiff, Int.reduceToNat]); (repeat (first | (with_reducible first | (refine hK _ _ ?_; clear hK K) | refine (show ∀ σ' w', _ → K σ' w' from by assumption) _ _ ?_ | refine W_seq_k fun K hK => ?_ | refine W_block_k fun K hK => ?_ | refine W_skip ?_ | refine W_ret ?_) | ((first | ((with_reducible refine W_id ?_); refine W_reg (by decide) (by rfl) ?_) | (with_reducible first | refine W_cond ?_ | refine hZ _ _ ?_ | refine W_exit ?_ | refine Wo_id ?_)); repeat1' simp only [push_cast, Nat.reduceBEq, Nat.reduceLT, Nat.reduceEqDiff, reduceIte, reduceCtorEq, Nat.reduceMul, Nat.reduceAdd, Nat.reduceSub, Int.reduceEq, Int.reduceLT, Int.reduceLE, Int.reduceNeg, Int.reduceAdd, Int.reduceSub, Int.reduceMul, Nat.reduceLeDiff, Int.reduceToNat]) | ((repeat ((fail_if_success with_reducible refine hK _ _ ?_); clear hK K)); (with_reducible refine hK _ _ ?_); clear hK K))))
    refine (findex_c hF (by omega) i).mono ?_
    rintro v w2 ⟨rfl, hx⟩
    rw [hi]
    have hF2 := hF.ext hx
    have hA2 := hA.pass hx
    have hs := hx.alike.size
    have h1 := hF2.c1
    ((repeat simp only [push_cast, Nat.reduceBEq, Nat.reduceLT, Nat.reduceEqDiff, reduceIte, reduceCtorEq, Nat.reduceMul, Nat.reduceAdd, Nat.reduceSub, Int.reduceEq, Int.reduceLT, Int.reduceLE, Int.reduceNeg, Int.reduceAdd, Int.reduceSub, Int.reduceMul, Nat.reduceLeDiff, Int.reduceToNat, b0, b1, h1]); (repeat (first | (with_reducible first | (refine hK _ _ ?_; clear hK K) | refine (show ∀ σ' w', _ → K σ' w' from by assumption) _ _ ?_ | refine W_seq_k fun K hK => ?_ | refine W_block_k fun K hK => ?_ | refine W_skip ?_ | refine W_ret ?_) | ((first | ((with_reducible refine W_id ?_); refine W_reg (by decide) (by rfl) ?_) | (with_reducible first | refine W_cond ?_ | refine hZ _ _ ?_ | refine W_exit ?_ | refine Wo_id ?_)); repeat1' simp only [push_cast, Nat.reduceBEq, Nat.reduceLT, Nat.reduceEqDiff, reduceIte, reduceCtorEq, Nat.reduceMul, Nat.reduceAdd, Nat.reduceSub, Int.reduceEq, Int.reduceLT, Int.reduceLE, Int.reduceNeg, Int.reduceAdd, Int.reduceSub, Int.reduceMul, Nat.reduceLeDiff, Int.reduceToNat, b0, b1, h1]) | ((repeat ((fail_if_success with_reducible refine hK _ _ ?_); clear hK K)); (with_reducible refine hK _ _ ?_); clear hK K))))
    refine (delete_c hF2.sl (by omega) q hq).mono ?_
    rintro v w3 ⟨g1, g2⟩
    obtain ⟨k1, k2, k3⟩ := ls_put hF2 hA2 hpl hbo hQ (fun b hb => by have := hQl b hb; omega) g1 g2 (fun b hb => .inl hb)
    obtain ⟨va, vn, vc, rfl, _, _⟩ := g1.len
    ((repeat simp only [push_cast, Nat.reduceBEq, Nat.reduceLT, Nat.reduceEqDiff, reduceIte, reduceCtorEq, Nat.reduceMul, Nat.reduceAdd, Nat.reduceSub, Int.reduceEq, Int.reduceLT, Int.reduceLE, Int.reduceNeg, Int.reduceAdd, Int.reduceSub, Int.reduceMul, Nat.reduceLeDiff, Int.reduceToNat, k1]); (repeat (first | (with_reducible first | (refine hK _ _ ?_; clear hK K) | refine (show ∀ σ' w', _ → K σ' w' from by assumption) _ _ ?_ | refine W_seq_k fun K hK => ?_ | refine W_block_k fun K hK => ?_ | refine W_skip ?_ | refine W_ret ?_) | ((first | ((with_reducible refine W_id ?_); refine W_reg (by decide) (by rfl) ?_) | (with_reducible first | refine W_cond ?_ | refine hZ _ _ ?_ | refine W_exit ?_ | refine Wo_id ?_)); repeat1' simp only [push_cast, Nat.reduceBEq, Nat.reduceLT, Nat.reduceEqDiff, reduceIte, reduceCtorEq, Nat.reduceMul, Nat.reduceAdd, Nat.reduceSub, Int.reduceEq, Int.reduceLT, Int.reduceLE, Int.reduceNeg, Int.reduceAdd, Int.reduceSub, Int.reduceMul, Nat.reduceLeDiff, Int.reduceToNat, k1]) | ((repeat ((fail_if_success with_reducible refine hK _ _ ?_); clear hK K)); (with_reducible refine hK _ _ ?_); clear hK K))))
    exact ⟨k2, Upd.trans hx.upd k3 fun _ _ h => h⟩
def insertL (L : List Nd) (l : List Int) (k i : Int) : List Int × Int := if ((nd? L i).getD zN).kind = 3 then (if 0 ≤ k ∧ k ≤ l.length then layN l k.toNat i else (l, 2)) else (l, 2)
theorem insertl_c (h : LsAt w0 w Q pl pa L l) (hb : L.length < 100000) (ha : ∀ n ∈ L, n.attrs.length < 1000000) (hl : l.length < 10000) (k i : Int) : Gives Try.prog 46 #[.pointer (some ⟨pl, 0, none⟩), .int .i64 k, .int .i64 i] w fun v w' => v = .int .i64 (insertL L l k i).2 ∧ LsAt w0 w' Q pl pa L (insertL L l k i).1 ∧ Upd (AF w0 Q) w w' := by
  have hm := may_c h hb ha i
  unfold insertL
  by_cases hk : ((nd? L i).getD zN).kind = 3
  · rw [if_pos hk]
    rw [if_pos hk] at hm
    by_cases hkk : 0 ≤ k ∧ k ≤ l.length
    · rw [if_pos hkk]
      obtain ⟨k, rfl⟩ : ∃ q : Nat, k = q := ⟨k.toNat, by omega⟩
      have b0 : ¬ (k : Int) < 0 := by omega
      have b1 : ¬ (l.length : Int) < (k : Int) := by omega
      refine Gives.of_W Try.call46 Try.func46 rfl Try.ntmps46 (by simp) ?_; intro Z hZ
      (repeat (first | (with_reducible first | (refine hK _ _ ?_; clear hK K) | refine (show ∀ σ' w', _ → K σ' w' from by assumption) _ _ ?_ | refine W_seq_k fun K hK => ?_ | refine W_block_k fun K hK => ?_ | refine W_skip ?_ | refine W_ret ?_) | ((first | ((with_reducible refine W_id ?_); refine W_reg (by decide) (by rfl) ?_) | (with_reducible first | refine W_cond ?_ | refine hZ _ _ ?_ | refine W_exit ?_ | refine Wo_id ?_)); repeat1' simp only [push_cast, Nat.reduceBEq, Nat.reduceLT, Nat.reduceEqDiff, reduceIte, reduceCtorEq, Nat.reduceMul, Nat.reduceAdd, Nat.reduceSub, Int.reduceEq, Int.reduceLT, Int.reduceLE, Int.reduceNeg, Int.reduceAdd, Int.reduceSub, Int.reduceMul, Nat.reduceLeDiff, Int.reduceToNat]) | ((repeat ((fail_if_success with_reducible refine hK _ _ ?_); clear hK K)); (with_reducible refine hK _ _ ?_); clear hK K)))
      refine hm.mono ?_
      rintro v w2 ⟨rfl, hx⟩
      have h2 := h.pass hx
      have h2' := h2
      obtain ⟨lv, bo, hF, _⟩ := h2'
      have h1 := hF.c1
      obtain ⟨a, c, rfl, _⟩ := hF.sl.ints_len
      ((repeat simp only [push_cast, Nat.reduceBEq, Nat.reduceLT, Nat.reduceEqDiff, reduceIte, reduceCtorEq, Nat.reduceMul, Nat.reduceAdd, Nat.reduceSub, Int.reduceEq, Int.reduceLT, Int.reduceLE, Int.reduceNeg, Int.reduceAdd, Int.reduceSub, Int.reduceMul, Nat.reduceLeDiff, Int.reduceToNat, not_true_eq_false, h1, b0, b1]); (repeat (first | (with_reducible first | (refine hK _ _ ?_; clear hK K) | refine (show ∀ σ' w', _ → K σ' w' from by assumption) _ _ ?_ | refine W_seq_k fun K hK => ?_ | refine W_block_k fun K hK => ?_ | refine W_skip ?_ | refine W_ret ?_) | ((first | ((with_reducible refine W_id ?_); refine W_reg (by decide) (by rfl) ?_) | (with_reducible first | refine W_cond ?_ | refine hZ _ _ ?_ | refine W_exit ?_ | refine Wo_id ?_)); repeat1' simp only [push_cast, Nat.reduceBEq, Nat.reduceLT, Nat.reduceEqDiff, reduceIte, reduceCtorEq, Nat.reduceMul, Nat.reduceAdd, Nat.reduceSub, Int.reduceEq, Int.reduceLT, Int.reduceLE, Int.reduceNeg, Int.reduceAdd, Int.reduceSub, Int.reduceMul, Nat.reduceLeDiff, Int.reduceToNat, not_true_eq_false, h1, b0, b1]) | ((repeat ((fail_if_success with_reducible refine hK _ _ ?_); clear hK K)); (with_reducible refine hK _ _ ?_); clear hK K))))
      refine (lay_c h2 hl k (by omega) i).mono ?_
      rintro v w3 ⟨rfl, k2, k3⟩
      ((repeat simp only [push_cast, Nat.reduceBEq, Nat.reduceLT, Nat.reduceEqDiff, reduceIte, reduceCtorEq, Nat.reduceMul, Nat.reduceAdd, Nat.reduceSub, Int.reduceEq, Int.reduceLT, Int.reduceLE, Int.reduceNeg, Int.reduceAdd, Int.reduceSub, Int.reduceMul, Nat.reduceLeDiff, Int.reduceToNat]); (repeat (first | (with_reducible first | (refine hK _ _ ?_; clear hK K) | refine (show ∀ σ' w', _ → K σ' w' from by assumption) _ _ ?_ | refine W_seq_k fun K hK => ?_ | refine W_block_k fun K hK => ?_ | refine W_skip ?_ | refine W_ret ?_) | ((first | ((with_reducible refine W_id ?_); refine W_reg (by decide) (by rfl) ?_) | (with_reducible first | refine W_cond ?_ | refine hZ _ _ ?_ | refine W_exit ?_ | refine Wo_id ?_)); repeat1' simp only [push_cast, Nat.reduceBEq, Nat.reduceLT, Nat.reduceEqDiff, reduceIte, reduceCtorEq, Nat.reduceMul, Nat.reduceAdd, Nat.reduceSub, Int.reduceEq, Int.reduceLT, Int.reduceLE, Int.reduceNeg, Int.reduceAdd, Int.reduceSub, Int.reduceMul, Nat.reduceLeDiff, Int.reduceToNat]) | ((repeat ((fail_if_success with_reducible refine hK _ _ ?_); clear hK K)); (with_reducible refine hK _ _ ?_); clear hK K))))
      exact ⟨k2, Upd.trans hx.upd k3 fun _ _ h => h⟩
    · rw [if_neg hkk]
      by_cases hk0 : k < 0
      · refine Gives.of_W Try.call46 Try.func46 rfl Try.ntmps46 (by simp) ?_; intro Z hZ
        (repeat (first | (with_reducible first | (refine hK _ _ ?_; clear hK K) | refine (show ∀ σ' w', _ → K σ' w' from by assumption) _ _ ?_ | refine W_seq_k fun K hK => ?_ | refine W_block_k fun K hK => ?_ | refine W_skip ?_ | refine W_ret ?_) | ((first | ((with_reducible refine W_id ?_); refine W_reg (by decide) (by rfl) ?_) | (with_reducible first | refine W_cond ?_ | refine hZ _ _ ?_ | refine W_exit ?_ | refine Wo_id ?_)); repeat1' simp only [push_cast, Nat.reduceBEq, Nat.reduceLT, Nat.reduceEqDiff, reduceIte, reduceCtorEq, Nat.reduceMul, Nat.reduceAdd, Nat.reduceSub, Int.reduceEq, Int.reduceLT, Int.reduceLE, Int.reduceNeg, Int.reduceAdd, Int.reduceSub, Int.reduceMul, Nat.reduceLeDiff, Int.reduceToNat]) | ((repeat ((fail_if_success with_reducible refine hK _ _ ?_); clear hK K)); (with_reducible refine hK _ _ ?_); clear hK K)))
        refine hm.mono ?_
        rintro v w2 ⟨rfl, hx⟩
        ((repeat simp only [push_cast, Nat.reduceBEq, Nat.reduceLT, Nat.reduceEqDiff, reduceIte, reduceCtorEq, Nat.reduceMul, Nat.reduceAdd, Nat.reduceSub, Int.reduceEq, Int.reduceLT, Int.reduceLE, Int.reduceNeg, Int.reduceAdd, Int.reduceSub, Int.reduceMul, Nat.reduceLeDiff, Int.reduceToNat, not_true_eq_false, hk0]); (repeat (first | (with_reducible first | (refine hK _ _ ?_; clear hK K) | refine (show ∀ σ' w', _ → K σ' w' from by assumption) _ _ ?_ | refine W_seq_k fun K hK => ?_ | refine W_block_k fun K hK => ?_ | refine W_skip ?_ | refine W_ret ?_) | ((first | ((with_reducible refine W_id ?_); refine W_reg (by decide) (by rfl) ?_) | (with_reducible first | refine W_cond ?_ | refine hZ _ _ ?_ | refine W_exit ?_ | refine Wo_id ?_)); repeat1' simp only [push_cast, Nat.reduceBEq, Nat.reduceLT, Nat.reduceEqDiff, reduceIte, reduceCtorEq, Nat.reduceMul, Nat.reduceAdd, Nat.reduceSub, Int.reduceEq, Int.reduceLT, Int.reduceLE, Int.reduceNeg, Int.reduceAdd, Int.reduceSub, Int.reduceMul, Nat.reduceLeDiff, Int.reduceToNat, not_true_eq_false, hk0]) | ((repeat ((fail_if_success with_reducible refine hK _ _ ?_); clear hK K)); (with_reducible refine hK _ _ ?_); clear hK K))))
        exact ⟨h.pass hx, hx.upd⟩
      · have b1 : (l.length : Int) < k := by omega
        refine Gives.of_W Try.call46 Try.func46 rfl Try.ntmps46 (by simp) ?_; intro Z hZ
        (repeat (first | (with_reducible first | (refine hK _ _ ?_; clear hK K) | refine (show ∀ σ' w', _ → K σ' w' from by assumption) _ _ ?_ | refine W_seq_k fun K hK => ?_ | refine W_block_k fun K hK => ?_ | refine W_skip ?_ | refine W_ret ?_) | ((first | ((with_reducible refine W_id ?_); refine W_reg (by decide) (by rfl) ?_) | (with_reducible first | refine W_cond ?_ | refine hZ _ _ ?_ | refine W_exit ?_ | refine Wo_id ?_)); repeat1' simp only [push_cast, Nat.reduceBEq, Nat.reduceLT, Nat.reduceEqDiff, reduceIte, reduceCtorEq, Nat.reduceMul, Nat.reduceAdd, Nat.reduceSub, Int.reduceEq, Int.reduceLT, Int.reduceLE, Int.reduceNeg, Int.reduceAdd, Int.reduceSub, Int.reduceMul, Nat.reduceLeDiff, Int.reduceToNat]) | ((repeat ((fail_if_success with_reducible refine hK _ _ ?_); clear hK K)); (with_reducible refine hK _ _ ?_); clear hK K)))
        refine hm.mono ?_
        rintro v w2 ⟨rfl, hx⟩
        have h2 := h.pass hx
        have h2' := h2
        obtain ⟨lv, bo, hF, _⟩ := h2'
        have h1 := hF.c1
        obtain ⟨a, c, rfl, _⟩ := hF.sl.ints_len
        ((repeat simp only [push_cast, Nat.reduceBEq, Nat.reduceLT, Nat.reduceEqDiff, reduceIte, reduceCtorEq, Nat.reduceMul, Nat.reduceAdd, Nat.reduceSub, Int.reduceEq, Int.reduceLT, Int.reduceLE, Int.reduceNeg, Int.reduceAdd, Int.reduceSub, Int.reduceMul, Nat.reduceLeDiff, Int.reduceToNat, not_true_eq_false, hk0, h1, b1]); (repeat (first | (with_reducible first | (refine hK _ _ ?_; clear hK K) | refine (show ∀ σ' w', _ → K σ' w' from by assumption) _ _ ?_ | refine W_seq_k fun K hK => ?_ | refine W_block_k fun K hK => ?_ | refine W_skip ?_ | refine W_ret ?_) | ((first | ((with_reducible refine W_id ?_); refine W_reg (by decide) (by rfl) ?_) | (with_reducible first | refine W_cond ?_ | refine hZ _ _ ?_ | refine W_exit ?_ | refine Wo_id ?_)); repeat1' simp only [push_cast, Nat.reduceBEq, Nat.reduceLT, Nat.reduceEqDiff, reduceIte, reduceCtorEq, Nat.reduceMul, Nat.reduceAdd, Nat.reduceSub, Int.reduceEq, Int.reduceLT, Int.reduceLE, Int.reduceNeg, Int.reduceAdd, Int.reduceSub, Int.reduceMul, Nat.reduceLeDiff, Int.reduceToNat, not_true_eq_false, hk0, h1, b1]) | ((repeat ((fail_if_success with_reducible refine hK _ _ ?_); clear hK K)); (with_reducible refine hK _ _ ?_); clear hK K))))
        exact ⟨h2, hx.upd⟩
  · rw [if_neg hk]
    rw [if_neg hk] at hm
    refine Gives.of_W Try.call46 Try.func46 rfl Try.ntmps46 (by simp) ?_; intro Z hZ
    (repeat (first | (with_reducible first | (refine hK _ _ ?_; clear hK K) | refine (show ∀ σ' w', _ → K σ' w' from by assumption) _ _ ?_ | refine W_seq_k fun K hK => ?_ | refine W_block_k fun K hK => ?_ | refine W_skip ?_ | refine W_ret ?_) | ((first | ((with_reducible refine W_id ?_); refine W_reg (by decide) (by rfl) ?_) | (with_reducible first | refine W_cond ?_ | refine hZ _ _ ?_ | refine W_exit ?_ | refine Wo_id ?_)); repeat1' simp only [push_cast, Nat.reduceBEq, Nat.reduceLT, Nat.reduceEqDiff, reduceIte, reduceCtorEq, Nat.reduceMul, Nat.reduceAdd, Nat.reduceSub, Int.reduceEq, Int.reduceLT, Int.reduceLE, Int.reduceNeg, Int.reduceAdd, Int.reduceSub, Int.reduceMul, Nat.reduceLeDiff, Int.reduceToNat]) | ((repeat ((fail_if_success with_reducible refine hK _ _ ?_); clear hK K)); (with_reducible refine hK _ _ ?_); clear hK K)))
    refine hm.mono ?_
    rintro v w2 ⟨rfl, hx⟩
    ((repeat simp only [push_cast, Nat.reduceBEq, Nat.reduceLT, Nat.reduceEqDiff, reduceIte, reduceCtorEq, Nat.reduceMul, Nat.reduceAdd, Nat.reduceSub, Int.reduceEq, Int.reduceLT, Int.reduceLE, Int.reduceNeg, Int.reduceAdd, Int.reduceSub, Int.reduceMul, Nat.reduceLeDiff, Int.reduceToNat, not_false_eq_true]); (repeat (first | (with_reducible first | (refine hK _ _ ?_; clear hK K) | refine (show ∀ σ' w', _ → K σ' w' from by assumption) _ _ ?_ | refine W_seq_k fun K hK => ?_ | refine W_block_k fun K hK => ?_ | refine W_skip ?_ | refine W_ret ?_) | ((first | ((with_reducible refine W_id ?_); refine W_reg (by decide) (by rfl) ?_) | (with_reducible first | refine W_cond ?_ | refine hZ _ _ ?_ | refine W_exit ?_ | refine Wo_id ?_)); repeat1' simp only [push_cast, Nat.reduceBEq, Nat.reduceLT, Nat.reduceEqDiff, reduceIte, reduceCtorEq, Nat.reduceMul, Nat.reduceAdd, Nat.reduceSub, Int.reduceEq, Int.reduceLT, Int.reduceLE, Int.reduceNeg, Int.reduceAdd, Int.reduceSub, Int.reduceMul, Nat.reduceLeDiff, Int.reduceToNat, not_false_eq_true]) | ((repeat ((fail_if_success with_reducible refine hK _ _ ?_); clear hK K)); (with_reducible refine hK _ _ ?_); clear hK K))))
    exact ⟨h.pass hx, hx.upd⟩
end
end Go.Proofs.Ytkafpameheohdaa
end
