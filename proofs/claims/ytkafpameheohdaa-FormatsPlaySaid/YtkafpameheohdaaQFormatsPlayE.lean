/- What the proof leans on, part 5 of 8. -/
import Derived.Test.YtkafpameheohdaaQFormatsPlayD
section
set_option linter.unusedSimpArgs false
set_option linter.unusedVariables false
namespace Go.Proofs.Ytkafpameheohdaa
open Go Go.Vk
set_option maxHeartbeats 40000000
section
variable {w0 w : World} {Q : Nat → Prop} {pl pa : Nat} {L : List Nd} {l : List Int}
def replN (L : List Nd) (l : List Int) (k i : Int) : List Int × Int := if ((nd? L i).getD zN).kind = 3 then (if 0 ≤ k ∧ k < l.length then (l.set k.toNat i, 0) else (l, 2)) else (l, 2)
theorem replace_c (h : LsAt w0 w Q pl pa L l) (hb : L.length < 100000) (ha : ∀ n ∈ L, n.attrs.length < 1000000) (hl : l.length < 10000) (k i : Int) : Gives Try.prog 47 #[.pointer (some ⟨pl, 0, none⟩), .int .i64 k, .int .i64 i] w fun v w' => v = .int .i64 (replN L l k i).2 ∧ LsAt w0 w' Q pl pa L (replN L l k i).1 ∧ Upd (AF w0 Q) w w' := by
  have hm := may_c h hb ha i
  unfold replN
  by_cases hk : ((nd? L i).getD zN).kind = 3
  · rw [if_pos hk]
    rw [if_pos hk] at hm
    by_cases hkk : 0 ≤ k ∧ k < l.length
    · rw [if_pos hkk]
      obtain ⟨k, rfl⟩ : ∃ q : Nat, k = q := ⟨k.toNat, by omega⟩
      have b0 : ¬ (k : Int) < 0 := by omega
      have b1 : ¬ (l.length : Int) ≤ (k : Int) := by omega
      have b2 : (0 : Int) ≤ (k : Int) := by omega
      have b3 : (k : Int) < (l.length : Int) := by omega
      refine Gives.of_W Try.call47 Try.func47 rfl Try.ntmps47 (by simp) ?_; intro Z hZ
      (repeat (first | (with_reducible first | (refine hK _ _ ?_; clear hK K) | refine (show ∀ σ' w', _ → K σ' w' from by assumption) _ _ ?_ | refine W_seq_k fun K hK => ?_ | refine W_block_k fun K hK => ?_ | refine W_skip ?_ | refine W_ret ?_) | ((first | ((with_reducible refine W_id ?_); refine W_reg (by decide) (by rfl) ?_) | (with_reducible first | refine W_cond ?_ | refine hZ _ _ ?_ | refine W_exit ?_ | refine Wo_id ?_)); repeat1' simp only [push_cast, Nat.reduceBEq, Nat.reduceLT, Nat.reduceEqDiff, reduceIte, reduceCtorEq, Nat.reduceMul, Nat.reduceAdd, Nat.reduceSub, Int.reduceEq, Int.reduceLT, Int.reduceLE, Int.reduceNeg, Int.reduceAdd, Int.reduceSub, Int.reduceMul, Nat.reduceLeDiff, Int.reduceToNat]) | ((repeat ((fail_if_success with_reducible refine hK _ _ ?_); clear hK K)); (with_reducible refine hK _ _ ?_); clear hK K)))
      refine hm.mono ?_
      rintro v w2 ⟨rfl, hx⟩
      obtain ⟨lv, bo, hF, hA, hpl, hbo, hQ⟩ := h.pass hx
      have h1 := hF.c1
      obtain ⟨b, o, n, c, rfl, hbo1⟩ := hF.sl.some_of (kids_ne (k := k) (by omega))
      have hsl := hF.sl
      have hlen : (intCells l).length = l.length := intCells_length l
      obtain ⟨_, _, e3, _⟩ := hsl.inv
      have hn : n = l.length := by omega
      subst hn
      have hcan := hsl.can (i := k) (by omega)
      have hset := hsl.set (i := k) (by omega) (.int .i64 i)
      have eset : (intCells l).set k (.int .i64 i) = intCells (l.set k i) := by simp [intCells, List.map_set]
      rw [eset] at hset
      have hbb := hbo b hbo1
      have hnp : ¬ b = pl := fun e => hF.ne (by rw [hbo1, e])
      have up : Upd (fun q => q = b) w2 (w2.setCell ⟨b, o + k, none⟩ (.int .i64 i)) := Upd.setCell (F := fun q => q = b) (a := ⟨b, o + k, none⟩) w2 rfl _
      ((repeat simp only [push_cast, Nat.reduceBEq, Nat.reduceLT, Nat.reduceEqDiff, reduceIte, reduceCtorEq, Nat.reduceMul, Nat.reduceAdd, Nat.reduceSub, Int.reduceEq, Int.reduceLT, Int.reduceLE, Int.reduceNeg, Int.reduceAdd, Int.reduceSub, Int.reduceMul, Nat.reduceLeDiff, Int.reduceToNat, not_true_eq_false, h1, b0, b1, b2, b3, hcan]); (repeat (first | (with_reducible first | (refine hK _ _ ?_; clear hK K) | refine (show ∀ σ' w', _ → K σ' w' from by assumption) _ _ ?_ | refine W_seq_k fun K hK => ?_ | refine W_block_k fun K hK => ?_ | refine W_skip ?_ | refine W_ret ?_) | ((first | ((with_reducible refine W_id ?_); refine W_reg (by decide) (by rfl) ?_) | (with_reducible first | refine W_cond ?_ | refine hZ _ _ ?_ | refine W_exit ?_ | refine Wo_id ?_)); repeat1' simp only [push_cast, Nat.reduceBEq, Nat.reduceLT, Nat.reduceEqDiff, reduceIte, reduceCtorEq, Nat.reduceMul, Nat.reduceAdd, Nat.reduceSub, Int.reduceEq, Int.reduceLT, Int.reduceLE, Int.reduceNeg, Int.reduceAdd, Int.reduceSub, Int.reduceMul, Nat.reduceLeDiff, Int.reduceToNat, not_true_eq_false, h1, b0, b1, b2, b3, hcan]) | ((repeat ((fail_if_success with_reducible refine hK _ _ ?_); clear hK K)); (with_reducible refine hK _ _ ?_); clear hK K))))
      refine ⟨⟨_, bo, ⟨(up.same pl (blk_lt hF.head) (fun e => hnp e.symm)).trans hF.head, hset, hF.ne⟩, hA.frame up fun q e => ⟨.inr (.inr (by rw [e]; exact hbo1)), e ▸ hbb.1⟩, hpl, hbo, hQ⟩, Upd.trans hx.upd up fun q _ e => e ▸ hbb⟩
    · rw [if_neg hkk]
      by_cases hk0 : k < 0
      · refine Gives.of_W Try.call47 Try.func47 rfl Try.ntmps47 (by simp) ?_; intro Z hZ
        (repeat (first | (with_reducible first | (refine hK _ _ ?_; clear hK K) | refine (show ∀ σ' w', _ → K σ' w' from by assumption) _ _ ?_ | refine W_seq_k fun K hK => ?_ | refine W_block_k fun K hK => ?_ | refine W_skip ?_ | refine W_ret ?_) | ((first | ((with_reducible refine W_id ?_); refine W_reg (by decide) (by rfl) ?_) | (with_reducible first | refine W_cond ?_ | refine hZ _ _ ?_ | refine W_exit ?_ | refine Wo_id ?_)); repeat1' simp only [push_cast, Nat.reduceBEq, Nat.reduceLT, Nat.reduceEqDiff, reduceIte, reduceCtorEq, Nat.reduceMul, Nat.reduceAdd, Nat.reduceSub, Int.reduceEq, Int.reduceLT, Int.reduceLE, Int.reduceNeg, Int.reduceAdd, Int.reduceSub, Int.reduceMul, Nat.reduceLeDiff, Int.reduceToNat]) | ((repeat ((fail_if_success with_reducible refine hK _ _ ?_); clear hK K)); (with_reducible refine hK _ _ ?_); clear hK K)))
        refine hm.mono ?_
        rintro v w2 ⟨rfl, hx⟩
        ((repeat simp only [push_cast, Nat.reduceBEq, Nat.reduceLT, Nat.reduceEqDiff, reduceIte, reduceCtorEq, Nat.reduceMul, Nat.reduceAdd, Nat.reduceSub, Int.reduceEq, Int.reduceLT, Int.reduceLE, Int.reduceNeg, Int.reduceAdd, Int.reduceSub, Int.reduceMul, Nat.reduceLeDiff, Int.reduceToNat, not_true_eq_false, hk0]); (repeat (first | (with_reducible first | (refine hK _ _ ?_; clear hK K) | refine (show ∀ σ' w', _ → K σ' w' from by assumption) _ _ ?_ | refine W_seq_k fun K hK => ?_ | refine W_block_k fun K hK => ?_ | refine W_skip ?_ | refine W_ret ?_) | ((first | ((with_reducible refine W_id ?_); refine W_reg (by decide) (by rfl) ?_) | (with_reducible first | refine W_cond ?_ | refine hZ _ _ ?_ | refine W_exit ?_ | refine Wo_id ?_)); repeat1' simp only [push_cast, Nat.reduceBEq, Nat.reduceLT, Nat.reduceEqDiff, reduceIte, reduceCtorEq, Nat.reduceMul, Nat.reduceAdd, Nat.reduceSub, Int.reduceEq, Int.reduceLT, Int.reduceLE, Int.reduceNeg, Int.reduceAdd, Int.reduceSub, Int.reduceMul, Nat.reduceLeDiff, Int.reduceToNat, not_true_eq_false, hk0]) | ((repeat ((fail_if_success with_reducible refine hK _ _ ?_); clear hK K)); (with_reducible refine hK _ _ ?_); clear hK K))))
        exact ⟨h.pass hx, hx.upd⟩
      · have b1 : (l.length : Int) ≤ k := by omega
        refine Gives.of_W Try.call47 Try.func47 rfl Try.ntmps47 (by simp) ?_; intro Z hZ
        (repeat (first | (with_reducible first | (refine hK _ _ ?_; clear hK K) | refine (show ∀ σ' w', _ → K σ' w' from by assumption) _ _ ?_ | refine W_seq_k fun K hK => ?_ | refine W_block_k fun K hK => ?_ | refine W_skip ?_ | refine W_ret ?_) | ((first | ((with_reducible refine W_id ?_); refine W_reg (by decide) (by rfl) ?_) | (with_reducible first | refine W_cond ?_ | refine hZ _ _ ?_ | refine W_exit ?_ | refine Wo_id ?_)); repeat1' simp only [push_cast, Nat.reduceBEq, Nat.reduceLT, Nat.reduceEqDiff, reduceIte, reduceCtorEq, Nat.reduceMul, Nat.reduceAdd, Nat.reduceSub, Int.reduceEq, Int.reduceLT, Int.reduceLE, Int.reduceNeg, Int.reduceAdd, Int.reduceSub, Int.reduceMul, Nat.reduceLeDiff, Int.reduceToNat]) | ((repeat ((fail_if_success with_reducible refine hK _ _ ?_); clear hK K)); (with_reducible refine hK _ _ ?_); clear hK K)))
        refine hm.mono ?_
        rintro v w2 ⟨rfl, hx⟩
        have h2 := h.pass hx
        have h2' := h2
        obtain ⟨lv, bo, hF, _⟩ := h2'
        have h1 := hF.c1
        obtain ⟨a, c, rfl, _⟩ := hF.sl.ints_len
        ((repeat simp only [push_cast, Nat.reduceBEq, Nat.reduceLT, Nat.reduceEqDiff, reduceIte, reduceCtorEq, Nat.reduceMul, Nat.reduceAdd, Nat.reduceSub, Int.reduceEq, Int.reduceLT, Int.reduceLE, Int.reduceNeg, Int.reduceAdd, Int.reduceSub, Int.reduceMul, Nat.reduceLeDiff, Int.reduceToNat, not_true_eq_false, hk0, h1, b1]); (repeat (first | (with_reducible first | (refine hK _ _ ?_; clear hK K) | refine (show ∀ σ' w', _ → K σ' w' from by assumption) _ _ ?_ | refine W_seq_k fun K hK => ?_ | refine W_block_k fun K hK => ?_ | refine W_skip ?_ | refine W_ret ?_) | ((first | ((with_reducible refine W_id ?_); refine W_reg (by decide) (by rfl) ?_) | (with_reducible first | refine W_cond ?_ | refine hZ _ _ ?_ | refine W_exit ?_ | refine Wo_id ?_)); repeat1' simp only [push_cast, Nat.reduceBEq, Nat.reduceLT, Nat.reduceEqDiff, reduceIte, reduceCtorEq, Nat.reduceMul, Nat.reduceAdd, Nat.reduceSub, Int.reduceEq, Int.reduceLT, Int.reduceLE, Int.reduceNeg, Int.reduceAdd, Int.reduceSub, Int.reduceMul, Nat.reduceLeDiff, Int.reduceToNat, not_true_eq_false, hk0, h1, b1]) | ((repeat ((fail_if_success with_reducible refine hK _ _ ?_); clear hK K)); (with_reducible refine hK _ _ ?_); clear hK K))))
        exact ⟨h2, hx.upd⟩
  · rw [if_neg hk]
    rw [if_neg hk] at hm
    refine Gives.of_W Try.call47 Try.func47 rfl Try.ntmps47 (by simp) ?_; intro Z hZ
    (repeat (first | (with_reducible first | (refine hK _ _ ?_; clear hK K) | refine (show ∀ σ' w', _ → K σ' w' from by assumption) _ _ ?_ | refine W_seq_k fun K hK => ?_ | refine W_block_k fun K hK => ?_ | refine W_skip ?_ | refine W_ret ?_) | ((first | ((with_reducible refine W_id ?_); refine W_reg (by decide) (by rfl) ?_) | (with_reducible first | refine W_cond ?_ | refine hZ _ _ ?_ | refine W_exit ?_ | refine Wo_id ?_)); repeat1' simp only [push_cast, Nat.reduceBEq, Nat.reduceLT, Nat.reduceEqDiff, reduceIte, reduceCtorEq, Nat.reduceMul, Nat.reduceAdd, Nat.reduceSub, Int.reduceEq, Int.reduceLT, Int.reduceLE, Int.reduceNeg, Int.reduceAdd, Int.reduceSub, Int.reduceMul, Nat.reduceLeDiff, Int.reduceToNat]) | ((repeat ((fail_if_success with_reducible refine hK _ _ ?_); clear hK K)); (with_reducible refine hK _ _ ?_); clear hK K)))
    refine hm.mono ?_
    rintro v w2 ⟨rfl, hx⟩
    ((repeat simp only [push_cast, Nat.reduceBEq, Nat.reduceLT, Nat.reduceEqDiff, reduceIte, reduceCtorEq, Nat.reduceMul, Nat.reduceAdd, Nat.reduceSub, Int.reduceEq, Int.reduceLT, Int.reduceLE, Int.reduceNeg, Int.reduceAdd, Int.reduceSub, Int.reduceMul, Nat.reduceLeDiff, Int.reduceToNat, not_false_eq_true]); (repeat (first | (with_reducible first | (refine hK _ _ ?_; clear hK K) | refine (show ∀ σ' w', _ → K σ' w' from by assumption) _ _ ?_ | refine W_seq_k fun K hK => ?_ | refine W_block_k fun K hK => ?_ | refine W_skip ?_ | refine W_ret ?_) | ((first | ((with_reducible refine W_id ?_); refine W_reg (by decide) (by rfl) ?_) | (with_reducible first | refine W_cond ?_ | refine hZ _ _ ?_ | refine W_exit ?_ | refine Wo_id ?_)); repeat1' simp only [push_cast, Nat.reduceBEq, Nat.reduceLT, Nat.reduceEqDiff, reduceIte, reduceCtorEq, Nat.reduceMul, Nat.reduceAdd, Nat.reduceSub, Int.reduceEq, Int.reduceLT, Int.reduceLE, Int.reduceNeg, Int.reduceAdd, Int.reduceSub, Int.reduceMul, Nat.reduceLeDiff, Int.reduceToNat, not_false_eq_true]) | ((repeat ((fail_if_success with_reducible refine hK _ _ ?_); clear hK K)); (with_reducible refine hK _ _ ?_); clear hK K))))
    exact ⟨h.pass hx, hx.upd⟩
theorem pl84 (w : World) : ((fsOf Try.prog 84).mapM plOf).run Try.prog w = .ok #[(0,1),(1,1)] w := by
  simp [fsOf, plOf, Try.underlying84, Sem.run, Try.sizeOf24, Try.sizeOf28]
theorem un84 : Try.prog.underlying 84 = some (.struct (fsOf Try.prog 84)) := by rw [fsOf, Try.underlying84]
theorem fnew_c (h : At w0 w Q pa L) (hL : L ≠ []) : Gives Try.prog 29 #[.pointer (some ⟨pa, 0, none⟩)] w fun v w' => ∃ pl, v = .pointer (some ⟨pl, 0, none⟩) ∧ LsAt w0 w' Q pl pa L [] ∧ Ext w w' := by
  have b0 : ((L.length : Int) = 0) = False := eq_false (by have := List.length_pos_iff.2 hL; omega)
  refine Gives.of_W Try.call29 Try.func29 rfl Try.ntmps29 (by simp) ?_; intro Z hZ
  (repeat (first | (with_reducible first | (refine hK _ _ ?_; clear hK K) | refine (show ∀ σ' w', _ → K σ' w' from by assumption) _ _ ?_ | refine W_seq_k fun K hK => ?_ | refine W_block_k fun K hK => ?_ | refine W_skip ?_ | refine W_ret ?_) | ((first | ((with_reducible refine W_id ?_); refine W_reg (by decide) (by rfl) ?_) | (with_reducible first | refine W_cond ?_ | refine hZ _ _ ?_ | refine W_exit ?_ | refine Wo_id ?_)); repeat1' simp only [push_cast, Nat.reduceBEq, Nat.reduceLT, Nat.reduceEqDiff, reduceIte, reduceCtorEq, Nat.reduceMul, Nat.reduceAdd, Nat.reduceSub, Int.reduceEq, Int.reduceLT, Int.reduceLE, Int.reduceNeg, Int.reduceAdd, Int.reduceSub, Int.reduceMul, Nat.reduceLeDiff, Int.reduceToNat]) | ((repeat ((fail_if_success with_reducible refine hK _ _ ?_); clear hK K)); (with_reducible refine hK _ _ ?_); clear hK K)))
  refine (len_a h).mono ?_
  rintro v w' ⟨rfl, rfl⟩
  ((repeat simp only [push_cast, Nat.reduceBEq, Nat.reduceLT, Nat.reduceEqDiff, reduceIte, reduceCtorEq, Nat.reduceMul, Nat.reduceAdd, Nat.reduceSub, Int.reduceEq, Int.reduceLT, Int.reduceLE, Int.reduceNeg, Int.reduceAdd, Int.reduceSub, Int.reduceMul, Nat.reduceLeDiff, Int.reduceToNat, b0]); (repeat (first | (with_reducible first | (refine hK _ _ ?_; clear hK K) | refine (show ∀ σ' w', _ → K σ' w' from by assumption) _ _ ?_ | refine W_seq_k fun K hK => ?_ | refine W_block_k fun K hK => ?_ | refine W_skip ?_ | refine W_ret ?_) | ((first | ((with_reducible refine W_id ?_); refine W_reg (by decide) (by rfl) ?_) | (with_reducible first | refine W_cond ?_ | refine hZ _ _ ?_ | refine W_exit ?_ | refine Wo_id ?_)); repeat1' simp only [push_cast, Nat.reduceBEq, Nat.reduceLT, Nat.reduceEqDiff, reduceIte, reduceCtorEq, Nat.reduceMul, Nat.reduceAdd, Nat.reduceSub, Int.reduceEq, Int.reduceLT, Int.reduceLE, Int.reduceNeg, Int.reduceAdd, Int.reduceSub, Int.reduceMul, Nat.reduceLeDiff, Int.reduceToNat, b0]) | ((repeat ((fail_if_success with_reducible refine hK _ _ ?_); clear hK K)); (with_reducible refine hK _ _ ?_); clear hK K))))
  refine build_struct Try.zeroValue84 un84 pl84 (cs := #[.pointer (some ⟨pa, 0, none⟩), .slice none 0 0]) (by rfl) ?_
  ((repeat simp only [push_cast, Nat.reduceBEq, Nat.reduceLT, Nat.reduceEqDiff, reduceIte, reduceCtorEq, Nat.reduceMul, Nat.reduceAdd, Nat.reduceSub, Int.reduceEq, Int.reduceLT, Int.reduceLE, Int.reduceNeg, Int.reduceAdd, Int.reduceSub, Int.reduceMul, Nat.reduceLeDiff, Int.reduceToNat, vcells_agg]); (repeat (first | (with_reducible first | (refine hK _ _ ?_; clear hK K) | refine (show ∀ σ' w', _ → K σ' w' from by assumption) _ _ ?_ | refine W_seq_k fun K hK => ?_ | refine W_block_k fun K hK => ?_ | refine W_skip ?_ | refine W_ret ?_) | ((first | ((with_reducible refine W_id ?_); refine W_reg (by decide) (by rfl) ?_) | (with_reducible first | refine W_cond ?_ | refine hZ _ _ ?_ | refine W_exit ?_ | refine Wo_id ?_)); repeat1' simp only [push_cast, Nat.reduceBEq, Nat.reduceLT, Nat.reduceEqDiff, reduceIte, reduceCtorEq, Nat.reduceMul, Nat.reduceAdd, Nat.reduceSub, Int.reduceEq, Int.reduceLT, Int.reduceLE, Int.reduceNeg, Int.reduceAdd, Int.reduceSub, Int.reduceMul, Nat.reduceLeDiff, Int.reduceToNat, vcells_agg]) | ((repeat ((fail_if_success with_reducible refine hK _ _ ?_); clear hK K)); (with_reducible refine hK _ _ ?_); clear hK K))))
  have hx := Ext.alloc w' (.cells #[.pointer (some ⟨pa, 0, none⟩), .slice none 0 0] 84)
  have h0 := h.ext.alike.size
  have hA : At w0 (w'.alloc (.cells #[.pointer (some ⟨pa, 0, none⟩), .slice none 0 0] 84)) (fun b => Q b ∨ b = w'.heap.size ∨ (none : Option Nat) = some b) pa L := h.guard hx fun b hb => by
    rcases hb with hb | rfl | hb
    · exact .inl hb
    · exact .inr ⟨Nat.le_refl _, by rw [size_alloc_h]; omega⟩
    · cases hb
  exact ⟨w'.heap.size, rfl, ⟨_, none, ⟨by rw [heap_alloc_h, if_pos rfl], SlAt.nil _ _, by simp⟩, hA, h0, (fun b hb => by cases hb), fun hq => by have := h.low _ hq; omega⟩, hx⟩
theorem fat_c (h : LsAt w0 w Q pl pa L l) (k : Int) : Gives Try.prog 44 #[.pointer (some ⟨pl, 0, none⟩), .int .i64 k] w fun v w' => v = .tuple #[.int .i64 (if 0 ≤ k ∧ k < l.length then l.getD k.toNat 0 else -1), .bool (decide ((0 ≤ k ∧ k < l.length) ∧ l.getD k.toNat 0 = -1))] ∧ Ext w w' := by
  obtain ⟨lv, bo, hF, hA, hpl, hbo, hQ⟩ := h
  by_cases hk : 0 ≤ k ∧ k < l.length
  · obtain ⟨k, rfl⟩ : ∃ q : Nat, k = q := ⟨k.toNat, by omega⟩
    have hkl : k < l.length := by omega
    have hxk : l[k]? = some l[k] := List.getElem?_eq_getElem hkl
    have hgd : l.getD ((k : Int).toNat) 0 = l[k] := by simp [List.getD, hxk]
    rw [if_pos hk, hgd]
    have b0 : ¬ (k : Int) < 0 := by omega
    have b1 : ¬ (l.length : Int) ≤ (k : Int) := by omega
    have b2 : (0 : Int) ≤ (k : Int) := by omega
    have b3 : (k : Int) < (l.length : Int) := by omega
    have hlen := flen_c hF
    obtain ⟨b, o, n, c, e1, hbo1⟩ := hF.sl.some_of (kids_ne hkl)
    obtain ⟨_, _, e2, _⟩ := hF.sl.ints_len
    rw [e1] at e2
    cases e2
    have hFd := hF.ext (Ext.drew w)
    have h1 := hFd.c1
    rw [e1] at h1
    have hs := hFd.sl
    rw [e1] at hs
    have hcell := hs.ints_cell hxk
    generalize l[k] = y at *
    refine Gives.of_W Try.call44 Try.func44 rfl Try.ntmps44 (by simp) ?_; intro Z hZ
    (repeat (first | (with_reducible first | (refine hK _ _ ?_; clear hK K) | refine (show ∀ σ' w', _ → K σ' w' from by assumption) _ _ ?_ | refine W_seq_k fun K hK => ?_ | refine W_block_k fun K hK => ?_ | refine W_skip ?_ | refine W_ret ?_) | ((first | ((with_reducible refine W_id ?_); refine W_reg (by decide) (by rfl) ?_) | (with_reducible first | refine W_cond ?_ | refine hZ _ _ ?_ | refine W_exit ?_ | refine Wo_id ?_)); repeat1' simp only [push_cast, Nat.reduceBEq, Nat.reduceLT, Nat.reduceEqDiff, reduceIte, reduceCtorEq, Nat.reduceMul, Nat.reduceAdd, Nat.reduceSub, Int.reduceEq, Int.reduceLT, Int.reduceLE, Int.reduceNeg, Int.reduceAdd, Int.reduceSub, Int.reduceMul, Nat.reduceLeDiff, Int.reduceToNat, b0]) | ((repeat ((fail_if_success with_reducible refine hK _ _ ?_); clear hK K)); (with_reducible refine hK _ _ ?_); clear hK K)))
    refine hlen.mono ?_
    rintro v w' ⟨rfl, rfl⟩
    ((repeat simp only [push_cast, Nat.reduceBEq, Nat.reduceLT, Nat.reduceEqDiff, reduceIte, reduceCtorEq, Nat.reduceMul, Nat.reduceAdd, Nat.reduceSub, Int.reduceEq, Int.reduceLT, Int.reduceLE, Int.reduceNeg, Int.reduceAdd, Int.reduceSub, Int.reduceMul, Nat.reduceLeDiff, Int.reduceToNat, b1]); (repeat (first | (with_reducible first | (refine hK _ _ ?_; clear hK K) | refine (show ∀ σ' w', _ → K σ' w' from by assumption) _ _ ?_ | refine W_seq_k fun K hK => ?_ | refine W_block_k fun K hK => ?_ | refine W_skip ?_ | refine W_ret ?_) | ((first | ((with_reducible refine W_id ?_); refine W_reg (by decide) (by rfl) ?_) | (with_reducible first | refine W_cond ?_ | refine hZ _ _ ?_ | refine W_exit ?_ | refine Wo_id ?_)); repeat1' simp only [push_cast, Nat.reduceBEq, Nat.reduceLT, Nat.reduceEqDiff, reduceIte, reduceCtorEq, Nat.reduceMul, Nat.reduceAdd, Nat.reduceSub, Int.reduceEq, Int.reduceLT, Int.reduceLE, Int.reduceNeg, Int.reduceAdd, Int.reduceSub, Int.reduceMul, Nat.reduceLeDiff, Int.reduceToNat, b1]) | ((repeat ((fail_if_success with_reducible refine hK _ _ ?_); clear hK K)); (with_reducible refine hK _ _ ?_); clear hK K))))
    refine W_draw (.pas 0 (.pas 1 (.pas 2 (.pas 3 (.pas 4 (.pas 5 (.pas 6 (.pas 7 (.pas 8 (.pas 9 (.pas 10 (.pas 11 (.pas 12 (.pas 13 (.pas 14 (.pas 15 (.pas 16 .fin))))))))))))))))) (fun _ => True) (by decide) mixed (by kernel_rfl) ?_
    (repeat (first | ((first | refine pas_plain rfl ?_ | refine pas_g rfl rfl ?_ | refine act_plain rfl ?_ | refine act_g rfl rfl ?_ | refine last_plain rfl ?_ | refine tail_plain rfl ?_ | refine tail_g rfl rfl ?_); (repeat simp only [push_cast, Nat.reduceBEq, Nat.reduceLT, Nat.reduceEqDiff, reduceIte, reduceCtorEq, Nat.reduceMul, Nat.reduceAdd, Nat.reduceSub, Int.reduceEq, Int.reduceLT, Int.reduceLE, Int.reduceNeg, Int.reduceAdd, Int.reduceSub, Int.reduceMul, Nat.reduceLeDiff, Int.reduceToNat, h1, b2, b3, hcell])) | (refine tail_fin ?_) | (refine sch_fin ?_)))
    ((repeat simp only [push_cast, Nat.reduceBEq, Nat.reduceLT, Nat.reduceEqDiff, reduceIte, reduceCtorEq, Nat.reduceMul, Nat.reduceAdd, Nat.reduceSub, Int.reduceEq, Int.reduceLT, Int.reduceLE, Int.reduceNeg, Int.reduceAdd, Int.reduceSub, Int.reduceMul, Nat.reduceLeDiff, Int.reduceToNat]); (repeat (first | (with_reducible first | (refine hK _ _ ?_; clear hK K) | refine (show ∀ σ' w', _ → K σ' w' from by assumption) _ _ ?_ | refine W_seq_k fun K hK => ?_ | refine W_block_k fun K hK => ?_ | refine W_skip ?_ | refine W_ret ?_) | ((first | ((with_reducible refine W_id ?_); refine W_reg (by decide) (by rfl) ?_) | (with_reducible first | refine W_cond ?_ | refine hZ _ _ ?_ | refine W_exit ?_ | refine Wo_id ?_)); repeat1' simp only [push_cast, Nat.reduceBEq, Nat.reduceLT, Nat.reduceEqDiff, reduceIte, reduceCtorEq, Nat.reduceMul, Nat.reduceAdd, Nat.reduceSub, Int.reduceEq, Int.reduceLT, Int.reduceLE, Int.reduceNeg, Int.reduceAdd, Int.reduceSub, Int.reduceMul, Nat.reduceLeDiff, Int.reduceToNat]) | ((repeat ((fail_if_success with_reducible refine hK _ _ ?_); clear hK K)); (with_reducible refine hK _ _ ?_); clear hK K))))
    refine ⟨?_, Ext.drew _⟩
    have e : (0 ≤ (k : Int) ∧ (k : Int) < (l.length : Int) ∧ y = -1) = (y = -1) := propext ⟨fun h => h.2.2, fun h => ⟨b2, b3, h⟩⟩
    simp only [e]
  · rw [if_neg hk]
    have e : decide ((0 ≤ k ∧ k < (l.length : Int)) ∧ l.getD k.toNat 0 = -1) = false := by simp; intro h1 h2; exact absurd ⟨h1, h2⟩ hk
    rw [e]
    have hlen := flen_c hF
    by_cases hk0 : k < 0
    · refine Gives.of_W Try.call44 Try.func44 rfl Try.ntmps44 (by simp) ?_; intro Z hZ
      (repeat (first | (with_reducible first | (refine hK _ _ ?_; clear hK K) | refine (show ∀ σ' w', _ → K σ' w' from by assumption) _ _ ?_ | refine W_seq_k fun K hK => ?_ | refine W_block_k fun K hK => ?_ | refine W_skip ?_ | refine W_ret ?_) | ((first | ((with_reducible refine W_id ?_); refine W_reg (by decide) (by rfl) ?_) | (with_reducible first | refine W_cond ?_ | refine hZ _ _ ?_ | refine W_exit ?_ | refine Wo_id ?_)); repeat1' simp only [push_cast, Nat.reduceBEq, Nat.reduceLT, Nat.reduceEqDiff, reduceIte, reduceCtorEq, Nat.reduceMul, Nat.reduceAdd, Nat.reduceSub, Int.reduceEq, Int.reduceLT, Int.reduceLE, Int.reduceNeg, Int.reduceAdd, Int.reduceSub, Int.reduceMul, Nat.reduceLeDiff, Int.reduceToNat, hk0]) | ((repeat ((fail_if_success with_reducible refine hK _ _ ?_); clear hK K)); (with_reducible refine hK _ _ ?_); clear hK K)))
      exact Ext.refl _
    · have b1 : (l.length : Int) ≤ k := by omega
      refine Gives.of_W Try.call44 Try.func44 rfl Try.ntmps44 (by simp) ?_; intro Z hZ
      (repeat (first | (with_reducible first | (refine hK _ _ ?_; clear hK K) | refine (show ∀ σ' w', _ → K σ' w' from by assumption) _ _ ?_ | refine W_seq_k fun K hK => ?_ | refine W_block_k fun K hK => ?_ | refine W_skip ?_ | refine W_ret ?_) | ((first | ((with_reducible refine W_id ?_); refine W_reg (by decide) (by rfl) ?_) | (with_reducible first | refine W_cond ?_ | refine hZ _ _ ?_ | refine W_exit ?_ | refine Wo_id ?_)); repeat1' simp only [push_cast, Nat.reduceBEq, Nat.reduceLT, Nat.reduceEqDiff, reduceIte, reduceCtorEq, Nat.reduceMul, Nat.reduceAdd, Nat.reduceSub, Int.reduceEq, Int.reduceLT, Int.reduceLE, Int.reduceNeg, Int.reduceAdd, Int.reduceSub, Int.reduceMul, Nat.reduceLeDiff, Int.reduceToNat, hk0]) | ((repeat ((fail_if_success with_reducible refine hK _ _ ?_); clear hK K)); (with_reducible refine hK _ _ ?_); clear hK K)))
      refine hlen.mono ?_
      rintro v w' ⟨rfl, rfl⟩
      ((repeat simp only [push_cast, Nat.reduceBEq, Nat.reduceLT, Nat.reduceEqDiff, reduceIte, reduceCtorEq, Nat.reduceMul, Nat.reduceAdd, Nat.reduceSub, Int.reduceEq, Int.reduceLT, Int.reduceLE, Int.reduceNeg, Int.reduceAdd, Int.reduceSub, Int.reduceMul, Nat.reduceLeDiff, Int.reduceToNat, b1]); (repeat (first | (with_reducible first | (refine hK _ _ ?_; clear hK K) | refine (show ∀ σ' w', _ → K σ' w' from by assumption) _ _ ?_ | refine W_seq_k fun K hK => ?_ | refine W_block_k fun K hK => ?_ | refine W_skip ?_ | refine W_ret ?_) | ((first | ((with_reducible refine W_id ?_); refine W_reg (by decide) (by rfl) ?_) | (with_reducible first | refine W_cond ?_ | refine hZ _ _ ?_ | refine W_exit ?_ | refine Wo_id ?_)); repeat1' simp only [push_cast, Nat.reduceBEq, Nat.reduceLT, Nat.reduceEqDiff, reduceIte, reduceCtorEq, Nat.reduceMul, Nat.reduceAdd, Nat.reduceSub, Int.reduceEq, Int.reduceLT, Int.reduceLE, Int.reduceNeg, Int.reduceAdd, Int.reduceSub, Int.reduceMul, Nat.reduceLeDiff, Int.reduceToNat, b1]) | ((repeat ((fail_if_success with_reducible refine hK _ _ ?_); clear hK K)); (with_reducible refine hK _ _ ?_); clear hK K))))
      exact Ext.refl _
def nameN (L : List Nd) (s : ByteArray) (i : Int) : Bool := decide (((nd? L i).getD zN).space = 0 ∧ ((nd? L i).getD zN).name = s)
def lastName (L : List Nd) (l : List Int) (s : ByteArray) : Int := if lastF (nameN L s) l (openN l) l.length < 0 then -1 else l.getD (lastF (nameN L s) l (openN l) l.length).toNat 0
theorem openN_rng (l : List Int) : 0 ≤ openN l ∧ openN l ≤ l.length := by
  have := lastF_rng (fun i => decide (i = -1)) l 0 l.length
  unfold openN; omega
theorem last1_c {w2 : World} {p2 p3 : Nat} {s : ByteArray} (h : LsAt w0 w Q pl pa L l) (hx : Ext w w2) (hb : L.length < 100000) (ha : ∀ n ∈ L, n.attrs.length < 1000000) (h2 : w2.heap[p2]? = some (.cells #[.pointer (some ⟨pl, 0, none⟩)] 57 (0, 0))) (h3 : w2.heap[p3]? = some (.cells #[.string s] 9 (0, 0))) (i : Int) :
    Gives Try.prog 74 #[.int .i64 i, .pointer (some ⟨p2, 0, none⟩), .pointer (some ⟨p3, 0, none⟩)] w2 fun v w' => v = .bool (nameN L s i) ∧ Ext w2 w' := by
  obtain ⟨lv, bo, hF, hA, hpl, hbo, hQ⟩ := h.pass hx
  have h0 := hF.c0
  have e2 : w2.cell? ⟨p2, 0, none⟩ = some (.pointer (some ⟨pl, 0, none⟩)) := by rw [cell_h, h2]; rfl
  refine Gives.of_W Try.call74 Try.func74 rfl Try.ntmps74 (by simp) ?_; intro Z hZ
  (repeat (first | (with_reducible first | (refine hK _ _ ?_; clear hK K) | refine (show ∀ σ' w', _ → K σ' w' from by assumption) _ _ ?_ | refine W_seq_k fun K hK => ?_ | refine W_block_k fun K hK => ?_ | refine W_skip ?_ | refine W_ret ?_) | ((first | ((with_reducible refine W_id ?_); refine W_reg (by decide) (by rfl) ?_) | (with_reducible first | refine W_cond ?_ | refine hZ _ _ ?_ | refine W_exit ?_ | refine Wo_id ?_)); repeat1' simp only [push_cast, Nat.reduceBEq, Nat.reduceLT, Nat.reduceEqDiff, reduceIte, reduceCtorEq, Nat.reduceMul, Nat.reduceAdd, Nat.reduceSub, Int.reduceEq, Int.reduceLT, Int.reduceLE, Int.reduceNeg, Int.reduceAdd, Int.reduceSub, Int.reduceMul, Nat.reduceLeDiff, Int.reduceToNat, e2, h0]) | ((repeat ((fail_if_success with_reducible refine hK _ _ ?_); clear hK K)); (with_reducible refine hK _ _ ?_); clear hK K)))
  refine (node_a hA hb ha i).mono ?_
  rintro v w3 ⟨m, rfl, em, hok, _, hx3, _, _⟩
  rw [Laid.val_eq]
  obtain ⟨ea, en, ec, eav, _, _⟩ := hok.attrs.len
  obtain ⟨ka, kn, kc, ekv, _, _⟩ := hok.kids.len
  have en1 : nameN L s i = decide (m.nd.space = 0 ∧ m.nd.name = s) := by rw [nameN, ← em]
  rw [eav, ekv]
  ((repeat simp only [push_cast, Nat.reduceBEq, Nat.reduceLT, Nat.reduceEqDiff, reduceIte, reduceCtorEq, Nat.reduceMul, Nat.reduceAdd, Nat.reduceSub, Int.reduceEq, Int.reduceLT, Int.reduceLE, Int.reduceNeg, Int.reduceAdd, Int.reduceSub, Int.reduceMul, Nat.reduceLeDiff, Int.reduceToNat, RunV_zero Try.zeroValue30]); (repeat (first | (with_reducible first | (refine hK _ _ ?_; clear hK K) | refine (show ∀ σ' w', _ → K σ' w' from by assumption) _ _ ?_ | refine W_seq_k fun K hK => ?_ | refine W_block_k fun K hK => ?_ | refine W_skip ?_ | refine W_ret ?_) | ((first | ((with_reducible refine W_id ?_); refine W_reg (by decide) (by rfl) ?_) | (with_reducible first | refine W_cond ?_ | refine hZ _ _ ?_ | refine W_exit ?_ | refine Wo_id ?_)); repeat1' simp only [push_cast, Nat.reduceBEq, Nat.reduceLT, Nat.reduceEqDiff, reduceIte, reduceCtorEq, Nat.reduceMul, Nat.reduceAdd, Nat.reduceSub, Int.reduceEq, Int.reduceLT, Int.reduceLE, Int.reduceNeg, Int.reduceAdd, Int.reduceSub, Int.reduceMul, Nat.reduceLeDiff, Int.reduceToNat, RunV_zero Try.zeroValue30]) | ((repeat ((fail_if_success with_reducible refine hK _ _ ?_); clear hK K)); (with_reducible refine hK _ _ ?_); clear hK K))))
  simp only [vcells_agg, can_h, heap_alloc_h, if_true, canO_cells, List.size_toArray, List.length_cons, List.length_nil, Nat.zero_add, Nat.reduceAdd, Nat.reduceLT, true_and]
  have z1 : (w3.alloc (.cells #[.int .i64 0, .string ⟨#[]⟩, .string ⟨#[]⟩, .int .i64 0, .slice none 0 0, .bool false, .int .i64 0, .int .i64 0, .slice none 0 0, .int .i64 0, .int .i64 0] 30)).heap[w3.heap.size]? = some (.cells #[.int .i64 0, .string ⟨#[]⟩, .string ⟨#[]⟩, .int .i64 0, .slice none 0 0, .bool false, .int .i64 0, .int .i64 0, .slice none 0 0, .int .i64 0, .int .i64 0] 30 (0, 0)) := by rw [heap_alloc_h, if_pos rfl]
  have hp3 := setCells_all z1 (l := [.int .i64 m.nd.kind, .string m.nd.name, .string m.nd.text, .int .i64 m.nd.space, .slice ea en ec, .bool m.nd.dup, .int .i64 m.nd.parent, .int .i64 m.nd.content, .slice ka kn kc, .int .i64 m.nd.frm, .int .i64 m.nd.to]) rfl
  have hx4 : Ext w3 (setCells (w3.alloc (.cells #[.int .i64 0, .string ⟨#[]⟩, .string ⟨#[]⟩, .int .i64 0, .slice none 0 0, .bool false, .int .i64 0, .int .i64 0, .slice none 0 0, .int .i64 0, .int .i64 0] 30)) ⟨w3.heap.size, 0, none⟩ [.int .i64 m.nd.kind, .string m.nd.name, .string m.nd.text, .int .i64 m.nd.space, .slice ea en ec, .bool m.nd.dup, .int .i64 m.nd.parent, .int .i64 m.nd.content, .slice ka kn kc, .int .i64 m.nd.frm, .int .i64 m.nd.to] 0) := Upd.trans (Ext.alloc w3 _) (Upd.setCells (F := fun b => b = w3.heap.size) (a := ⟨w3.heap.size, 0, none⟩) _ rfl _ 0) fun i hi e => by omega
  generalize setCells (w3.alloc (.cells #[.int .i64 0, .string ⟨#[]⟩, .string ⟨#[]⟩, .int .i64 0, .slice none 0 0, .bool false, .int .i64 0, .int .i64 0, .slice none 0 0, .int .i64 0, .int .i64 0] 30)) ⟨w3.heap.size, 0, none⟩ [.int .i64 m.nd.kind, .string m.nd.name, .string m.nd.text, .int .i64 m.nd.space, .slice ea en ec, .bool m.nd.dup, .int .i64 m.nd.parent, .int .i64 m.nd.content, .slice ka kn kc, .int .i64 m.nd.frm, .int .i64 m.nd.to] 0 = w4 at *
  have h5 := (hx3.trans hx4).blk h3
  by_cases q1 : m.nd.space = 0
  · ((repeat simp only [push_cast, Nat.reduceBEq, Nat.reduceLT, Nat.reduceEqDiff, reduceIte, reduceCtorEq, Nat.reduceMul, Nat.reduceAdd, Nat.reduceSub, Int.reduceEq, Int.reduceLT, Int.reduceLE, Int.reduceNeg, Int.reduceAdd, Int.reduceSub, Int.reduceMul, Nat.reduceLeDiff, Int.reduceToNat, cell_h, hp3, h5, cellO_cells, q1]); (repeat (first | (with_reducible first | (refine hK _ _ ?_; clear hK K) | refine (show ∀ σ' w', _ → K σ' w' from by assumption) _ _ ?_ | refine W_seq_k fun K hK => ?_ | refine W_block_k fun K hK => ?_ | refine W_skip ?_ | refine W_ret ?_) | ((first | ((with_reducible refine W_id ?_); refine W_reg (by decide) (by rfl) ?_) | (with_reducible first | refine W_cond ?_ | refine hZ _ _ ?_ | refine W_exit ?_ | refine Wo_id ?_)); repeat1' simp only [push_cast, Nat.reduceBEq, Nat.reduceLT, Nat.reduceEqDiff, reduceIte, reduceCtorEq, Nat.reduceMul, Nat.reduceAdd, Nat.reduceSub, Int.reduceEq, Int.reduceLT, Int.reduceLE, Int.reduceNeg, Int.reduceAdd, Int.reduceSub, Int.reduceMul, Nat.reduceLeDiff, Int.reduceToNat, cell_h, hp3, h5, cellO_cells, q1]) | ((repeat ((fail_if_success with_reducible refine hK _ _ ?_); clear hK K)); (with_reducible refine hK _ _ ?_); clear hK K))))
    exact ⟨by rw [en1]; simp [q1], hx3.trans hx4⟩
  · ((repeat simp only [push_cast, Nat.reduceBEq, Nat.reduceLT, Nat.reduceEqDiff, reduceIte, reduceCtorEq, Nat.reduceMul, Nat.reduceAdd, Nat.reduceSub, Int.reduceEq, Int.reduceLT, Int.reduceLE, Int.reduceNeg, Int.reduceAdd, Int.reduceSub, Int.reduceMul, Nat.reduceLeDiff, Int.reduceToNat, cell_h, hp3, h5, cellO_cells, q1]); (repeat (first | (with_reducible first | (refine hK _ _ ?_; clear hK K) | refine (show ∀ σ' w', _ → K σ' w' from by assumption) _ _ ?_ | refine W_seq_k fun K hK => ?_ | refine W_block_k fun K hK => ?_ | refine W_skip ?_ | refine W_ret ?_) | ((first | ((with_reducible refine W_id ?_); refine W_reg (by decide) (by rfl) ?_) | (with_reducible first | refine W_cond ?_ | refine hZ _ _ ?_ | refine W_exit ?_ | refine Wo_id ?_)); repeat1' simp only [push_cast, Nat.reduceBEq, Nat.reduceLT, Nat.reduceEqDiff, reduceIte, reduceCtorEq, Nat.reduceMul, Nat.reduceAdd, Nat.reduceSub, Int.reduceEq, Int.reduceLT, Int.reduceLE, Int.reduceNeg, Int.reduceAdd, Int.reduceSub, Int.reduceMul, Nat.reduceLeDiff, Int.reduceToNat, cell_h, hp3, h5, cellO_cells, q1]) | ((repeat ((fail_if_success with_reducible refine hK _ _ ?_); clear hK K)); (with_reducible refine hK _ _ ?_); clear hK K))))
    exact ⟨by rw [en1]; simp [q1], hx3.trans hx4⟩
theorem flast_c (h : LsAt w0 w Q pl pa L l) (hb : L.length < 100000) (ha : ∀ n ∈ L, n.attrs.length < 1000000) (hl : l.length < 10000) (s : ByteArray) : Gives Try.prog 36 #[.pointer (some ⟨pl, 0, none⟩), .string s] w fun v w' => v = .int .i64 (lastName L l s) ∧ Ext w w' := by
  have h' := h
  obtain ⟨lv, bo, hF, hA, hpl, hbo, hQ⟩ := h
  have hx1 : Ext w ((w.alloc (.cells #[.pointer (some ⟨pl, 0, none⟩)] 57)).alloc (.cells #[.string s] 9)) := (Ext.alloc _ _).trans (Ext.alloc _ _)
  have c2 : ((w.alloc (.cells #[.pointer (some ⟨pl, 0, none⟩)] 57)).alloc (.cells #[.string s] 9)).heap[w.heap.size]? = some (.cells #[.pointer (some ⟨pl, 0, none⟩)] 57 (0, 0)) := by
    rw [heap_alloc_h, if_neg (by rw [size_alloc_h]; omega), heap_alloc_h, if_pos rfl]
  have c3 : ((w.alloc (.cells #[.pointer (some ⟨pl, 0, none⟩)] 57)).alloc (.cells #[.string s] 9)).heap[w.heap.size + 1]? = some (.cells #[.string s] 9 (0, 0)) := by
    rw [heap_alloc_h, if_pos (by rw [size_alloc_h])]
  refine Gives.of_W Try.call36 Try.func36 rfl Try.ntmps36 (by simp) ?_; intro Z hZ
  (repeat (first | (with_reducible first | (refine hK _ _ ?_; clear hK K) | refine (show ∀ σ' w', _ → K σ' w' from by assumption) _ _ ?_ | refine W_seq_k fun K hK => ?_ | refine W_block_k fun K hK => ?_ | refine W_skip ?_ | refine W_ret ?_) | ((first | ((with_reducible refine W_id ?_); refine W_reg (by decide) (by rfl) ?_) | (with_reducible first | refine W_cond ?_ | refine hZ _ _ ?_ | refine W_exit ?_ | refine Wo_id ?_)); repeat1' simp only [push_cast, Nat.reduceBEq, Nat.reduceLT, Nat.reduceEqDiff, reduceIte, reduceCtorEq, Nat.reduceMul, Nat.reduceAdd, Nat.reduceSub, Int.reduceEq, Int.reduceLT, Int.reduceLE, Int.reduceNeg, Int.reduceAdd, Int.reduceSub, Int.reduceMul, Nat.reduceLeDiff, Int.reduceToNat, vcells_ptr, vcells_str, size_alloc_h]) | ((repeat ((fail_if_success with_reducible refine hK _ _ ?_); clear hK K)); (with_reducible refine hK _ _ ?_); clear hK K)))
  generalize (w.alloc (.cells #[.pointer (some ⟨pl, 0, none⟩)] 57)).alloc (.cells #[.string s] 9) = w1 at *
  have hx2 := hx1.trans (Ext.drew w1)
  have d2 := (Ext.drew w1).blk c2
  have d3 := (Ext.drew w1).blk c3
  have hsz := hx1.alike.size
  have hbs := blk_lt c2
  refine W_draw (.pas 0 (.pas 1 (.pas 3 (.act 2 (.act 4 (.pas 5 .fin)))))) (fun b => b = w.heap.size) (by decide) mixed (by kernel_rfl) ?_
  generalize w1.drew = w2 at *
  have hbs2 := blk_lt d2
  (repeat (first | ((first | refine pas_plain rfl ?_ | refine pas_g rfl rfl ?_ | refine act_plain rfl ?_ | refine act_g rfl rfl ?_ | refine last_plain rfl ?_ | refine tail_plain rfl ?_ | refine tail_g rfl rfl ?_); (repeat simp only [push_cast, Nat.reduceBEq, Nat.reduceLT, Nat.reduceEqDiff, reduceIte, reduceCtorEq, Nat.reduceMul, Nat.reduceAdd, Nat.reduceSub, Int.reduceEq, Int.reduceLT, Int.reduceLE, Int.reduceNeg, Int.reduceAdd, Int.reduceSub, Int.reduceMul, Nat.reduceLeDiff, Int.reduceToNat, cell_h, d2, cellO_cells, eq_self])) | (refine tail_fin ?_) | (refine sch_fin ?_)))
  refine (open_c (hF.ext hx2) (by omega)).mono ?_
  rintro v w3 ⟨rfl, hx3⟩
  refine ⟨kept_upd hx3 fun b hb => ⟨by have : b = w.heap.size := hb; omega, id⟩, ?_⟩
  (repeat (first | ((first | refine pas_plain rfl ?_ | refine pas_g rfl rfl ?_ | refine act_plain rfl ?_ | refine act_g rfl rfl ?_ | refine last_plain rfl ?_ | refine tail_plain rfl ?_ | refine tail_g rfl rfl ?_); (repeat simp only [push_cast, Nat.reduceBEq, Nat.reduceLT, Nat.reduceEqDiff, reduceIte, reduceCtorEq, Nat.reduceMul, Nat.reduceAdd, Nat.reduceSub, Int.reduceEq, Int.reduceLT, Int.reduceLE, Int.reduceNeg, Int.reduceAdd, Int.reduceSub, Int.reduceMul, Nat.reduceLeDiff, Int.reduceToNat, cell_h, d2, cellO_cells, eq_self])) | (refine tail_fin ?_) | (refine sch_fin ?_)))
  have hor := openN_rng l
  refine (last_c (hF.ext (hx2.trans hx3)) (by omega) (first := #[]) (captured := #[.pointer (some ⟨w.heap.size, 0, none⟩), .pointer (some ⟨w.heap.size + 1, 0, none⟩)]) (p := nameN L s) (openN l) hor.1 fun i _ w4 hx4 => last1_c h' (hx2.trans (hx3.trans hx4)) hb ha ((hx3.trans hx4).blk d2) ((hx3.trans hx4).blk d3) i).mono ?_
  rintro v w4 ⟨rfl, hx4⟩
  refine ⟨kept_upd hx4 fun b hb => ⟨by have : b = w.heap.size := hb; have := hx3.alike.size; omega, id⟩, ?_⟩
  (repeat (first | ((first | refine pas_plain rfl ?_ | refine pas_g rfl rfl ?_ | refine act_plain rfl ?_ | refine act_g rfl rfl ?_ | refine last_plain rfl ?_ | refine tail_plain rfl ?_ | refine tail_g rfl rfl ?_); (repeat simp only [push_cast, Nat.reduceBEq, Nat.reduceLT, Nat.reduceEqDiff, reduceIte, reduceCtorEq, Nat.reduceMul, Nat.reduceAdd, Nat.reduceSub, Int.reduceEq, Int.reduceLT, Int.reduceLE, Int.reduceNeg, Int.reduceAdd, Int.reduceSub, Int.reduceMul, Nat.reduceLeDiff, Int.reduceToNat, cell_h, d2, cellO_cells, eq_self])) | (refine tail_fin ?_) | (refine sch_fin ?_)))
  have hx5 := hx2.trans (hx3.trans hx4)
  have d5 := (hx3.trans hx4).blk d2
  have hF5 := hF.ext hx5
  have h1 := hF5.c1
  rw [cell_h] at h1
  by_cases hn : lastF (nameN L s) l (openN l) l.length < 0
  · have en : lastName L l s = -1 := by rw [lastName, if_pos hn]
    ((repeat simp only [push_cast, Nat.reduceBEq, Nat.reduceLT, Nat.reduceEqDiff, reduceIte, reduceCtorEq, Nat.reduceMul, Nat.reduceAdd, Nat.reduceSub, Int.reduceEq, Int.reduceLT, Int.reduceLE, Int.reduceNeg, Int.reduceAdd, Int.reduceSub, Int.reduceMul, Nat.reduceLeDiff, Int.reduceToNat, hn]); (repeat (first | (with_reducible first | (refine hK _ _ ?_; clear hK K) | refine (show ∀ σ' w', _ → K σ' w' from by assumption) _ _ ?_ | refine W_seq_k fun K hK => ?_ | refine W_block_k fun K hK => ?_ | refine W_skip ?_ | refine W_ret ?_) | ((first | ((with_reducible refine W_id ?_); refine W_reg (by decide) (by rfl) ?_) | (with_reducible first | refine W_cond ?_ | refine hZ _ _ ?_ | refine W_exit ?_ | refine Wo_id ?_)); repeat1' simp only [push_cast, Nat.reduceBEq, Nat.reduceLT, Nat.reduceEqDiff, reduceIte, reduceCtorEq, Nat.reduceMul, Nat.reduceAdd, Nat.reduceSub, Int.reduceEq, Int.reduceLT, Int.reduceLE, Int.reduceNeg, Int.reduceAdd, Int.reduceSub, Int.reduceMul, Nat.reduceLeDiff, Int.reduceToNat, hn]) | ((repeat ((fail_if_success with_reducible refine hK _ _ ?_); clear hK K)); (with_reducible refine hK _ _ ?_); clear hK K))))
    exact ⟨en.symm, hx5⟩
  · have en : lastName L l s = l.getD (lastF (nameN L s) l (openN l) l.length).toNat 0 := by rw [lastName, if_neg hn]
    obtain ⟨q, e, q1, q2, q3⟩ := lastF_sat _ _ _ _ (by omega : 0 ≤ lastF (nameN L s) l (openN l) l.length)
    rw [e]
    have hxk : l[q]? = some l[q] := List.getElem?_eq_getElem q1
    have hgd : l.getD ((q : Int).toNat) 0 = l[q] := by simp [List.getD, hxk]
    rw [e, hgd] at en
    obtain ⟨_, o, _, _, e1, _⟩ := hF.sl.some_of (kids_ne q1)
    obtain ⟨_, _, e2, _⟩ := hF.sl.ints_len
    rw [e1] at e2
    cases e2
    rw [e1] at h1
    have hs5 := hF5.sl
    rw [e1] at hs5
    have hcell := hs5.ints_cell hxk
    rw [cell_h] at hcell
    generalize l[q] = y at *
    have b0 : ¬ (q : Int) < 0 := by omega
    have b1 : (0 : Int) ≤ (q : Int) := by omega
    have b3 : (q : Int) < (l.length : Int) := by omega
    ((repeat simp only [push_cast, Nat.reduceBEq, Nat.reduceLT, Nat.reduceEqDiff, reduceIte, reduceCtorEq, Nat.reduceMul, Nat.reduceAdd, Nat.reduceSub, Int.reduceEq, Int.reduceLT, Int.reduceLE, Int.reduceNeg, Int.reduceAdd, Int.reduceSub, Int.reduceMul, Nat.reduceLeDiff, Int.reduceToNat, cell_h, d5, h1, cellO_cells, b0, b1, b3, hcell]); (repeat (first | (with_reducible first | (refine hK _ _ ?_; clear hK K) | refine (show ∀ σ' w', _ → K σ' w' from by assumption) _ _ ?_ | refine W_seq_k fun K hK => ?_ | refine W_block_k fun K hK => ?_ | refine W_skip ?_ | refine W_ret ?_) | ((first | ((with_reducible refine W_id ?_); refine W_reg (by decide) (by rfl) ?_) | (with_reducible first | refine W_cond ?_ | refine hZ _ _ ?_ | refine W_exit ?_ | refine Wo_id ?_)); repeat1' simp only [push_cast, Nat.reduceBEq, Nat.reduceLT, Nat.reduceEqDiff, reduceIte, reduceCtorEq, Nat.reduceMul, Nat.reduceAdd, Nat.reduceSub, Int.reduceEq, Int.reduceLT, Int.reduceLE, Int.reduceNeg, Int.reduceAdd, Int.reduceSub, Int.reduceMul, Nat.reduceLeDiff, Int.reduceToNat, cell_h, d5, h1, cellO_cells, b0, b1, b3, hcell]) | ((repeat ((fail_if_success with_reducible refine hK _ _ ?_); clear hK K)); (with_reducible refine hK _ _ ?_); clear hK K))))
    exact ⟨en.symm, hx5⟩
end
end Go.Proofs.Ytkafpameheohdaa
end
section
set_option linter.unusedSimpArgs false
set_option linter.unusedVariables false
namespace Go.Vk
open Go
theorem max_int {P : Program} {ats : Array TypeId} {t : TypeId} {k j : IntKind} {x y : Int} (w : World) (K : Value → World → Prop) : RunV P (Builtin.max_ ats t #[.int k x, .int j y]) w K = K (.int k (if y > x then y else x)) w := by
  have : (Builtin.max_ ats t #[.int k x, .int j y]).run P w = .ok (.int k (if y > x then y else x)) w := by simp [Builtin.max_, Builtin.max2, Sem.run]
  refine propext ⟨fun h => ?_, fun h => .of this h⟩
  obtain ⟨v, w', h1, h2⟩ := h.spec
  rw [this] at h1; cases h1; exact h2
def clearN (l : List Int) (q : Int) : List Int := l.take (q - 1).toNat
def pushG (p : Int → Bool) (l : List Int) (fr : Int) : Nat → Nat → Nat → Nat × Nat
  | 0, first, many => (first, many)
  | k + 1, first, many => if (k : Int) < fr then (first, many) else if p (l.getD k 0) = true then pushG p l fr k k (many + 1) else pushG p l fr k first many
theorem pushG_rng (p : Int → Bool) (l : List Int) (fr : Int) : ∀ k first many : Nat, k ≤ l.length → (many = 0 ∨ first < l.length) → (pushG p l fr k first many).2 = 0 ∨ (pushG p l fr k first many).1 < l.length
  | 0, first, many, _, h => h
  | k + 1, first, many, hk, h => by
    rw [pushG]
    split
    · exact h
    · split
      · exact pushG_rng p l fr k k _ (by omega) (.inr (by omega))
      · exact pushG_rng p l fr k _ _ (by omega) h
theorem pushG_done (p : Int → Bool) (l : List Int) (fr : Int) (k f m : Nat) (h : ¬ fr ≤ (k : Int) - 1) : pushG p l fr k f m = (f, m) := by
  cases k with
  | zero => rfl
  | succ k => rw [pushG, if_pos (by omega)]
def likeP (L : List Nd) (i y : Int) : Bool := likeN ((nd? L i).getD zN) ((nd? L y).getD zN)
end Go.Vk
namespace Go.Proofs.Ytkafpameheohdaa
open Go Go.Vk
set_option maxHeartbeats 40000000
section
variable {w0 w : World} {Q : Nat → Prop} {pl pa : Nat} {L : List Nd} {l : List Int}
theorem clear_c (h : LsAt w0 w Q pl pa L l) (hl : l.length < 10000) : Gives Try.prog 37 #[.pointer (some ⟨pl, 0, none⟩)] w fun v w' => LsAt w0 w' Q pl pa L (clearN l (openN l)) ∧ Upd (AF w0 Q) w w' := by
  have h' := h
  obtain ⟨lv, bo, hF, hA, hpl, hbo, hQ⟩ := h
  have hQl : ∀ b, Q b → b < w.heap.size := fun b hb => hA.low b (.inl hb)
  have hor := openN_rng l
  by_cases hl0 : l.length = 0
  · have el : l = [] := List.eq_nil_of_length_eq_zero hl0
    have e : clearN l (openN l) = l := by rw [el]; simp [clearN]
    rw [e]
    have b0 : ¬ (0 : Int) < (l.length : Int) := by omega
    refine Gives.of_W Try.call37 Try.func37 rfl Try.ntmps37 (by simp) ?_; intro Z hZ
    (repeat (first | (with_reducible first | (refine hK _ _ ?_; clear hK K) | refine (show ∀ σ' w', _ → K σ' w' from by assumption) _ _ ?_ | refine W_seq_k fun K hK => ?_ | refine W_block_k fun K hK => ?_ | refine W_skip ?_ | refine W_ret ?_) | ((first | ((with_reducible refine W_id ?_); refine W_reg (by decide) (by rfl) ?_) | (with_reducible first | refine W_cond ?_ | refine hZ _ _ ?_ | refine W_exit ?_ | refine Wo_id ?_)); repeat1' simp only [push_cast, Nat.reduceBEq, Nat.reduceLT, Nat.reduceEqDiff, reduceIte, reduceCtorEq, Nat.reduceMul, Nat.reduceAdd, Nat.reduceSub, Int.reduceEq, Int.reduceLT, Int.reduceLE, Int.reduceNeg, Int.reduceAdd, Int.reduceSub, Int.reduceMul, Nat.reduceLeDiff, Int.reduceToNat]) | ((repeat ((fail_if_success with_reducible refine hK _ _ ?_); clear hK K)); (with_reducible refine hK _ _ ?_); clear hK K)))
    refine (open_c hF (by omega)).mono ?_
    rintro v w2 ⟨rfl, hx⟩
    ((repeat simp only [push_cast, Nat.reduceBEq, Nat.reduceLT, Nat.reduceEqDiff, reduceIte, reduceCtorEq, Nat.reduceMul, Nat.reduceAdd, Nat.reduceSub, Int.reduceEq, Int.reduceLT, Int.reduceLE, Int.reduceNeg, Int.reduceAdd, Int.reduceSub, Int.reduceMul, Nat.reduceLeDiff, Int.reduceToNat]); (repeat (first | (with_reducible first | (refine hK _ _ ?_; clear hK K) | refine (show ∀ σ' w', _ → K σ' w' from by assumption) _ _ ?_ | refine W_seq_k fun K hK => ?_ | refine W_block_k fun K hK => ?_ | refine W_skip ?_ | refine W_ret ?_) | ((first | ((with_reducible refine W_id ?_); refine W_reg (by decide) (by rfl) ?_) | (with_reducible first | refine W_cond ?_ | refine hZ _ _ ?_ | refine W_exit ?_ | refine Wo_id ?_)); repeat1' simp only [push_cast, Nat.reduceBEq, Nat.reduceLT, Nat.reduceEqDiff, reduceIte, reduceCtorEq, Nat.reduceMul, Nat.reduceAdd, Nat.reduceSub, Int.reduceEq, Int.reduceLT, Int.reduceLE, Int.reduceNeg, Int.reduceAdd, Int.reduceSub, Int.reduceMul, Nat.reduceLeDiff, Int.reduceToNat]) | ((repeat ((fail_if_success with_reducible refine hK _ _ ?_); clear hK K)); (with_reducible refine hK _ _ ?_); clear hK K))))
    refine (flen_c (hF.ext hx)).mono ?_
    rintro v w' ⟨rfl, rfl⟩
    ((repeat simp only [push_cast, Nat.reduceBEq, Nat.reduceLT, Nat.reduceEqDiff, reduceIte, reduceCtorEq, Nat.reduceMul, Nat.reduceAdd, Nat.reduceSub, Int.reduceEq, Int.reduceLT, Int.reduceLE, Int.reduceNeg, Int.reduceAdd, Int.reduceSub, Int.reduceMul, Nat.reduceLeDiff, Int.reduceToNat, b0]); (repeat (first | (with_reducible first | (refine hK _ _ ?_; clear hK K) | refine (show ∀ σ' w', _ → K σ' w' from by assumption) _ _ ?_ | refine W_seq_k fun K hK => ?_ | refine W_block_k fun K hK => ?_ | refine W_skip ?_ | refine W_ret ?_) | ((first | ((with_reducible refine W_id ?_); refine W_reg (by decide) (by rfl) ?_) | (with_reducible first | refine W_cond ?_ | refine hZ _ _ ?_ | refine W_exit ?_ | refine Wo_id ?_)); repeat1' simp only [push_cast, Nat.reduceBEq, Nat.reduceLT, Nat.reduceEqDiff, reduceIte, reduceCtorEq, Nat.reduceMul, Nat.reduceAdd, Nat.reduceSub, Int.reduceEq, Int.reduceLT, Int.reduceLE, Int.reduceNeg, Int.reduceAdd, Int.reduceSub, Int.reduceMul, Nat.reduceLeDiff, Int.reduceToNat, b0]) | ((repeat ((fail_if_success with_reducible refine hK _ _ ?_); clear hK K)); (with_reducible refine hK _ _ ?_); clear hK K))))
    exact ⟨h'.pass hx, hx.upd⟩
  · have b0 : (0 : Int) < (l.length : Int) := by omega
    have s0 : inI64 (openN l - 1) := by unfold inI64; omega
    obtain ⟨b, o, n, c, rfl, hbo1⟩ := hF.sl.some_of (kids_ne (k := 0) (by omega))
    obtain ⟨_, _, e2, hc⟩ := hF.sl.ints_len
    cases e2
    obtain ⟨m, hm⟩ : ∃ m : Nat, (if (0 : Int) > openN l - 1 then (0 : Int) else openN l - 1) = m := by
      split
      · exact ⟨0, rfl⟩
      · exact ⟨(openN l - 1).toNat, by omega⟩
    have hml : m ≤ l.length := by split at hm <;> omega
    have em : clearN l (openN l) = l.take m := by
      unfold clearN
      congr 1
      split at hm <;> omega
    rw [em]
    have b1 : (0 : Int) ≤ (m : Int) := by omega
    have b2 : (m : Int) ≤ (c : Int) := by omega
    have b3 : (0 : Int) ≤ (c : Int) := by omega
    refine Gives.of_W Try.call37 Try.func37 rfl Try.ntmps37 (by simp) ?_; intro Z hZ
    (repeat (first | (with_reducible first | (refine hK _ _ ?_; clear hK K) | refine (show ∀ σ' w', _ → K σ' w' from by assumption) _ _ ?_ | refine W_seq_k fun K hK => ?_ | refine W_block_k fun K hK => ?_ | refine W_skip ?_ | refine W_ret ?_) | ((first | ((with_reducible refine W_id ?_); refine W_reg (by decide) (by rfl) ?_) | (with_reducible first | refine W_cond ?_ | refine hZ _ _ ?_ | refine W_exit ?_ | refine Wo_id ?_)); repeat1' simp only [push_cast, Nat.reduceBEq, Nat.reduceLT, Nat.reduceEqDiff, reduceIte, reduceCtorEq, Nat.reduceMul, Nat.reduceAdd, Nat.reduceSub, Int.reduceEq, Int.reduceLT, Int.reduceLE, Int.reduceNeg, Int.reduceAdd, Int.reduceSub, Int.reduceMul, Nat.reduceLeDiff, Int.reduceToNat]) | ((repeat ((fail_if_success with_reducible refine hK _ _ ?_); clear hK K)); (with_reducible refine hK _ _ ?_); clear hK K)))
    refine (open_c hF (by omega)).mono ?_
    rintro v w2 ⟨rfl, hx⟩
    ((repeat simp only [push_cast, Nat.reduceBEq, Nat.reduceLT, Nat.reduceEqDiff, reduceIte, reduceCtorEq, Nat.reduceMul, Nat.reduceAdd, Nat.reduceSub, Int.reduceEq, Int.reduceLT, Int.reduceLE, Int.reduceNeg, Int.reduceAdd, Int.reduceSub, Int.reduceMul, Nat.reduceLeDiff, Int.reduceToNat]); (repeat (first | (with_reducible first | (refine hK _ _ ?_; clear hK K) | refine (show ∀ σ' w', _ → K σ' w' from by assumption) _ _ ?_ | refine W_seq_k fun K hK => ?_ | refine W_block_k fun K hK => ?_ | refine W_skip ?_ | refine W_ret ?_) | ((first | ((with_reducible refine W_id ?_); refine W_reg (by decide) (by rfl) ?_) | (with_reducible first | refine W_cond ?_ | refine hZ _ _ ?_ | refine W_exit ?_ | refine Wo_id ?_)); repeat1' simp only [push_cast, Nat.reduceBEq, Nat.reduceLT, Nat.reduceEqDiff, reduceIte, reduceCtorEq, Nat.reduceMul, Nat.reduceAdd, Nat.reduceSub, Int.reduceEq, Int.reduceLT, Int.reduceLE, Int.reduceNeg, Int.reduceAdd, Int.reduceSub, Int.reduceMul, Nat.reduceLeDiff, Int.reduceToNat]) | ((repeat ((fail_if_success with_reducible refine hK _ _ ?_); clear hK K)); (with_reducible refine hK _ _ ?_); clear hK K))))
    refine (flen_c (hF.ext hx)).mono ?_
    rintro v w' ⟨rfl, rfl⟩
    have hF2 := hF.ext hx
    have h1 := hF2.c1
    ((repeat simp only [push_cast, Nat.reduceBEq, Nat.reduceLT, Nat.reduceEqDiff, reduceIte, reduceCtorEq, Nat.reduceMul, Nat.reduceAdd, Nat.reduceSub, Int.reduceEq, Int.reduceLT, Int.reduceLE, Int.reduceNeg, Int.reduceAdd, Int.reduceSub, Int.reduceMul, Nat.reduceLeDiff, Int.reduceToNat, b0, h1, s0, max_int, hm, b1, b2, b3, Nat.sub_zero]); (repeat (first | (with_reducible first | (refine hK _ _ ?_; clear hK K) | refine (show ∀ σ' w', _ → K σ' w' from by assumption) _ _ ?_ | refine W_seq_k fun K hK => ?_ | refine W_block_k fun K hK => ?_ | refine W_skip ?_ | refine W_ret ?_) | ((first | ((with_reducible refine W_id ?_); refine W_reg (by decide) (by rfl) ?_) | (with_reducible first | refine W_cond ?_ | refine hZ _ _ ?_ | refine W_exit ?_ | refine Wo_id ?_)); repeat1' simp only [push_cast, Nat.reduceBEq, Nat.reduceLT, Nat.reduceEqDiff, reduceIte, reduceCtorEq, Nat.reduceMul, Nat.reduceAdd, Nat.reduceSub, Int.reduceEq, Int.reduceLT, Int.reduceLE, Int.reduceNeg, Int.reduceAdd, Int.reduceSub, Int.reduceMul, Nat.reduceLeDiff, Int.reduceToNat, b0, h1, s0, max_int, hm, b1, b2, b3, Nat.sub_zero]) | ((repeat ((fail_if_success with_reducible refine hK _ _ ?_); clear hK K)); (with_reducible refine hK _ _ ?_); clear hK K))))
    have x1 := hF2.sl.part1 (l := 0) (k := m) (m := c) (by omega) (by omega) (by omega) (by omega)
    rw [intCells_part, List.drop_zero, Nat.sub_zero, Nat.sub_zero] at x1
    have hs := hx.alike.size
    obtain ⟨k1, k2, k3⟩ := ls_put hF2 (hA.pass hx) hpl hbo hQ (fun b hb => by have := hQl b hb; omega) x1 (Upd.refl _ _) (fun b hb => .inl hb)
    refine ⟨k1, ?_⟩
    ((repeat simp only [push_cast, Nat.reduceBEq, Nat.reduceLT, Nat.reduceEqDiff, reduceIte, reduceCtorEq, Nat.reduceMul, Nat.reduceAdd, Nat.reduceSub, Int.reduceEq, Int.reduceLT, Int.reduceLE, Int.reduceNeg, Int.reduceAdd, Int.reduceSub, Int.reduceMul, Nat.reduceLeDiff, Int.reduceToNat]); (repeat (first | (with_reducible first | (refine hK _ _ ?_; clear hK K) | refine (show ∀ σ' w', _ → K σ' w' from by assumption) _ _ ?_ | refine W_seq_k fun K hK => ?_ | refine W_block_k fun K hK => ?_ | refine W_skip ?_ | refine W_ret ?_) | ((first | ((with_reducible refine W_id ?_); refine W_reg (by decide) (by rfl) ?_) | (with_reducible first | refine W_cond ?_ | refine hZ _ _ ?_ | refine W_exit ?_ | refine Wo_id ?_)); repeat1' simp only [push_cast, Nat.reduceBEq, Nat.reduceLT, Nat.reduceEqDiff, reduceIte, reduceCtorEq, Nat.reduceMul, Nat.reduceAdd, Nat.reduceSub, Int.reduceEq, Int.reduceLT, Int.reduceLE, Int.reduceNeg, Int.reduceAdd, Int.reduceSub, Int.reduceMul, Nat.reduceLeDiff, Int.reduceToNat]) | ((repeat ((fail_if_success with_reducible refine hK _ _ ?_); clear hK K)); (with_reducible refine hK _ _ ?_); clear hK K))))
    exact ⟨k2, Upd.trans hx.upd k3 fun _ _ h => h⟩
theorem nd_few (ha : ∀ n ∈ L, n.attrs.length < 1000000) (i : Int) : ((nd? L i).getD zN).attrs.length < 1000000 := by
  cases h : nd? L i with
  | none => decide
  | some n =>
    obtain ⟨k, _, hk, _⟩ := nd?_some h
    exact ha n (List.mem_of_getElem? hk)
def dropN (l : List Int) (r : Nat × Nat) : List Int := if 3 ≤ r.2 then l.eraseIdx r.1 else l
def pushN (L : List Nd) (l : List Int) (i : Int) : List Int × Int := if ((nd? L i).getD zN).kind = 3 then layN (dropN l (pushG (likeP L i) l (openN l) l.length 0 0)) (dropN l (pushG (likeP L i) l (openN l) l.length 0 0)).length i else (l, 2)
theorem push_c (h : LsAt w0 w Q pl pa L l) (hb : L.length < 100000) (ha : ∀ n ∈ L, n.attrs.length < 1000000) (hl : l.length < 10000) (i : Int) : Gives Try.prog 31 #[.pointer (some ⟨pl, 0, none⟩), .int .i64 i] w fun v w' => v = .int .i64 (pushN L l i).2 ∧ LsAt w0 w' Q pl pa L (pushN L l i).1 ∧ Upd (AF w0 Q) w w' := by
  have hm := may_c h hb ha i
  unfold pushN
  by_cases hk : ((nd? L i).getD zN).kind = 3
  · rw [if_pos hk]
    rw [if_pos hk] at hm
    have s0 : inI64 ((l.length : Int) - 1) := by unfold inI64; omega
    generalize hG : pushG (likeP L i) l (openN l) l.length 0 0 = G
    generalize hD : dropN l G = D
    refine Gives.of_W Try.call31 Try.func31 rfl Try.ntmps31 (by simp) ?_; intro Z hZ
    (repeat (first | (with_reducible first | (refine hK _ _ ?_; clear hK K) | refine (show ∀ σ' w', _ → K σ' w' from by assumption) _ _ ?_ | refine W_seq_k fun K hK => ?_ | refine W_block_k fun K hK => ?_ | refine W_skip ?_ | refine W_ret ?_) | ((first | ((with_reducible refine W_id ?_); refine W_reg (by decide) (by rfl) ?_) | (with_reducible first | refine W_cond ?_ | refine hZ _ _ ?_ | refine W_exit ?_ | refine Wo_id ?_)); repeat1' simp only [push_cast, Nat.reduceBEq, Nat.reduceLT, Nat.reduceEqDiff, reduceIte, reduceCtorEq, Nat.reduceMul, Nat.reduceAdd, Nat.reduceSub, Int.reduceEq, Int.reduceLT, Int.reduceLE, Int.reduceNeg, Int.reduceAdd, Int.reduceSub, Int.reduceMul, Nat.reduceLeDiff, Int.reduceToNat]) | ((repeat ((fail_if_success with_reducible refine hK _ _ ?_); clear hK K)); (with_reducible refine hK _ _ ?_); clear hK K)))
    refine hm.mono ?_
    rintro v w2 ⟨rfl, hx⟩
    have h2 := h.pass hx
    have h2' := h2
    obtain ⟨lv, bo, hF, hA, hpl, hbo, hQ⟩ := h2'
    have hQl : ∀ b, Q b → b < w2.heap.size := fun b hb => hA.low b (.inl hb)
    have h0 := hF.c0
    ((repeat simp only [push_cast, Nat.reduceBEq, Nat.reduceLT, Nat.reduceEqDiff, reduceIte, reduceCtorEq, Nat.reduceMul, Nat.reduceAdd, Nat.reduceSub, Int.reduceEq, Int.reduceLT, Int.reduceLE, Int.reduceNeg, Int.reduceAdd, Int.reduceSub, Int.reduceMul, Nat.reduceLeDiff, Int.reduceToNat, not_true_eq_false, h0]); (repeat (first | (with_reducible first | (refine hK _ _ ?_; clear hK K) | refine (show ∀ σ' w', _ → K σ' w' from by assumption) _ _ ?_ | refine W_seq_k fun K hK => ?_ | refine W_block_k fun K hK => ?_ | refine W_skip ?_ | refine W_ret ?_) | ((first | ((with_reducible refine W_id ?_); refine W_reg (by decide) (by rfl) ?_) | (with_reducible first | refine W_cond ?_ | refine hZ _ _ ?_ | refine W_exit ?_ | refine Wo_id ?_)); repeat1' simp only [push_cast, Nat.reduceBEq, Nat.reduceLT, Nat.reduceEqDiff, reduceIte, reduceCtorEq, Nat.reduceMul, Nat.reduceAdd, Nat.reduceSub, Int.reduceEq, Int.reduceLT, Int.reduceLE, Int.reduceNeg, Int.reduceAdd, Int.reduceSub, Int.reduceMul, Nat.reduceLeDiff, Int.reduceToNat, not_true_eq_false, h0]) | ((repeat ((fail_if_success with_reducible refine hK _ _ ?_); clear hK K)); (with_reducible refine hK _ _ ?_); clear hK K))))
    refine (node_a hA hb ha i).mono ?_
    rintro v w3 ⟨s, rfl, es, hsok, hA3, hx3, _, _⟩
    have hF3 := hF.ext hx3
    ((repeat simp only [push_cast, Nat.reduceBEq, Nat.reduceLT, Nat.reduceEqDiff, reduceIte, reduceCtorEq, Nat.reduceMul, Nat.reduceAdd, Nat.reduceSub, Int.reduceEq, Int.reduceLT, Int.reduceLE, Int.reduceNeg, Int.reduceAdd, Int.reduceSub, Int.reduceMul, Nat.reduceLeDiff, Int.reduceToNat]); (repeat (first | (with_reducible first | (refine hK _ _ ?_; clear hK K) | refine (show ∀ σ' w', _ → K σ' w' from by assumption) _ _ ?_ | refine W_seq_k fun K hK => ?_ | refine W_block_k fun K hK => ?_ | refine W_skip ?_ | refine W_ret ?_) | ((first | ((with_reducible refine W_id ?_); refine W_reg (by decide) (by rfl) ?_) | (with_reducible first | refine W_cond ?_ | refine hZ _ _ ?_ | refine W_exit ?_ | refine Wo_id ?_)); repeat1' simp only [push_cast, Nat.reduceBEq, Nat.reduceLT, Nat.reduceEqDiff, reduceIte, reduceCtorEq, Nat.reduceMul, Nat.reduceAdd, Nat.reduceSub, Int.reduceEq, Int.reduceLT, Int.reduceLE, Int.reduceNeg, Int.reduceAdd, Int.reduceSub, Int.reduceMul, Nat.reduceLeDiff, Int.reduceToNat]) | ((repeat ((fail_if_success with_reducible refine hK _ _ ?_); clear hK K)); (with_reducible refine hK _ _ ?_); clear hK K))))
    refine (flen_c hF3).mono ?_
    rintro v w' ⟨rfl, rfl⟩
    ((repeat simp only [push_cast, Nat.reduceBEq, Nat.reduceLT, Nat.reduceEqDiff, reduceIte, reduceCtorEq, Nat.reduceMul, Nat.reduceAdd, Nat.reduceSub, Int.reduceEq, Int.reduceLT, Int.reduceLE, Int.reduceNeg, Int.reduceAdd, Int.reduceSub, Int.reduceMul, Nat.reduceLeDiff, Int.reduceToNat, s0]); (repeat (first | (with_reducible first | (refine hK _ _ ?_; clear hK K) | refine (show ∀ σ' w', _ → K σ' w' from by assumption) _ _ ?_ | refine W_seq_k fun K hK => ?_ | refine W_block_k fun K hK => ?_ | refine W_skip ?_ | refine W_ret ?_) | ((first | ((with_reducible refine W_id ?_); refine W_reg (by decide) (by rfl) ?_) | (with_reducible first | refine W_cond ?_ | refine hZ _ _ ?_ | refine W_exit ?_ | refine Wo_id ?_)); repeat1' simp only [push_cast, Nat.reduceBEq, Nat.reduceLT, Nat.reduceEqDiff, reduceIte, reduceCtorEq, Nat.reduceMul, Nat.reduceAdd, Nat.reduceSub, Int.reduceEq, Int.reduceLT, Int.reduceLE, Int.reduceNeg, Int.reduceAdd, Int.reduceSub, Int.reduceMul, Nat.reduceLeDiff, Int.reduceToNat, s0]) | ((repeat ((fail_if_success with_reducible refine hK _ _ ?_); clear hK K)); (with_reducible refine hK _ _ ?_); clear hK K))))
    refine W_loop (S := Nat × Nat × Nat) (fun z => [(0, .pointer (some ⟨pl, 0, none⟩)), (1, .int .i64 i), (6, .func (.func 69) #[s.val] #[]), (7, .int .i64 (z.2.1 : Int)), (8, .int .i64 (z.2.2 : Int)), (9, .int .i64 ((z.1 : Int) - 1))])
      (fun z w4 => z.1 ≤ l.length ∧ z.2.2 + z.1 ≤ l.length ∧ G = pushG (likeP L i) l (openN l) z.1 z.2.1 z.2.2 ∧ Ext w' w4) (fun z => z.1) (l.length, 0, 0) ?_ ?_ ?_
    · (repeat simp only [push_cast, Nat.reduceBEq, Nat.reduceLT, Nat.reduceEqDiff, reduceIte, reduceCtorEq, Nat.reduceMul, Nat.reduceAdd, Nat.reduceSub, Int.reduceEq, Int.reduceLT, Int.reduceLE, Int.reduceNeg, Int.reduceAdd, Int.reduceSub, Int.reduceMul, Nat.reduceLeDiff, Int.reduceToNat])
    · exact ⟨Nat.le_refl _, by simp, hG.symm, Ext.refl _⟩
    rintro ⟨k, f, m⟩ w4 ⟨q1, q2, q3, hx4⟩
    have hF4 := hF3.ext hx4
    have hA4 := hA3.pass hx4
    dsimp only at q1 q2 q3 ⊢
    by_cases hko : openN l ≤ (k : Int) - 1
    · have hor := openN_rng l
      obtain ⟨k, rfl⟩ : ∃ j, k = j + 1 := ⟨k - 1, by omega⟩
      have e0 : (((k + 1 : Nat) : Int) - 1) = k := by omega
      rw [e0] at hko ⊢
      have hkl : k < l.length := by omega
      have hxk : l[k]? = some l[k] := List.getElem?_eq_getElem hkl
      have hgd : l.getD k 0 = l[k] := by simp [List.getD, hxk]
      rw [pushG, if_neg (by omega), hgd] at q3
      generalize l[k] = y at *
      obtain ⟨b, o, _, c, e1, hbo1⟩ := hF.sl.some_of (kids_ne hkl)
      obtain ⟨_, _, e2, _⟩ := hF.sl.ints_len
      rw [e1] at e2
      cases e2
      subst e1
      have b1 : (0 : Int) ≤ (k : Int) := by omega
      have b3 : (k : Int) < (l.length : Int) := by omega
      have b2 : inI64 ((k : Int) - 1) := by unfold inI64; omega
      have b4 : inI64 ((m : Int) + 1) := by unfold inI64; omega
      (repeat (first | (with_reducible first | (refine hK _ _ ?_; clear hK K) | refine (show ∀ σ' w', _ → K σ' w' from by assumption) _ _ ?_ | refine W_seq_k fun K hK => ?_ | refine W_block_k fun K hK => ?_ | refine W_skip ?_ | refine W_ret ?_) | ((first | ((with_reducible refine W_id ?_); refine W_reg (by decide) (by rfl) ?_) | (with_reducible first | refine W_cond ?_ | refine hZ _ _ ?_ | refine W_exit ?_ | refine Wo_id ?_)); repeat1' simp only [push_cast, Nat.reduceBEq, Nat.reduceLT, Nat.reduceEqDiff, reduceIte, reduceCtorEq, Nat.reduceMul, Nat.reduceAdd, Nat.reduceSub, Int.reduceEq, Int.reduceLT, Int.reduceLE, Int.reduceNeg, Int.reduceAdd, Int.reduceSub, Int.reduceMul, Nat.reduceLeDiff, Int.reduceToNat]) | ((repeat ((fail_if_success with_reducible refine hK _ _ ?_); clear hK K)); (with_reducible refine hK _ _ ?_); clear hK K)))
      refine (open_c hF4 (by omega)).mono ?_
      rintro v w5 ⟨rfl, hx5⟩
      have hFd := (hF4.ext hx5).ext (Ext.drew w5)
      have h0 := hFd.c0
      have h1 := hFd.c1
      have hcell := hFd.sl.ints_cell hxk
      have hpl5 := blk_lt hFd.head
      have hsl5 := hFd.sl
      rw [hbo1] at hsl5
      have hbl5 := hsl5.lt
      rw [cell_h] at h0 h1 hcell
      have hAd := (hA4.pass hx5).pass (Ext.drew w5)
      ((repeat simp only [push_cast, Nat.reduceBEq, Nat.reduceLT, Nat.reduceEqDiff, reduceIte, reduceCtorEq, Nat.reduceMul, Nat.reduceAdd, Nat.reduceSub, Int.reduceEq, Int.reduceLT, Int.reduceLE, Int.reduceNeg, Int.reduceAdd, Int.reduceSub, Int.reduceMul, Nat.reduceLeDiff, Int.reduceToNat, hko]); (repeat (first | (with_reducible first | (refine hK _ _ ?_; clear hK K) | refine (show ∀ σ' w', _ → K σ' w' from by assumption) _ _ ?_ | refine W_seq_k fun K hK => ?_ | refine W_block_k fun K hK => ?_ | refine W_skip ?_ | refine W_ret ?_) | ((first | ((with_reducible refine W_id ?_); refine W_reg (by decide) (by rfl) ?_) | (with_reducible first | refine W_cond ?_ | refine hZ _ _ ?_ | refine W_exit ?_ | refine Wo_id ?_)); repeat1' simp only [push_cast, Nat.reduceBEq, Nat.reduceLT, Nat.reduceEqDiff, reduceIte, reduceCtorEq, Nat.reduceMul, Nat.reduceAdd, Nat.reduceSub, Int.reduceEq, Int.reduceLT, Int.reduceLE, Int.reduceNeg, Int.reduceAdd, Int.reduceSub, Int.reduceMul, Nat.reduceLeDiff, Int.reduceToNat, hko]) | ((repeat ((fail_if_success with_reducible refine hK _ _ ?_); clear hK K)); (with_reducible refine hK _ _ ?_); clear hK K))))
      refine W_draw (.pas 0 (.pas 1 (.pas 2 (.pas 3 (.pas 4 (.pas 5 (.pas 6 (.pas 7 (.pas 8 (.pas 9 (.pas 10 (.pas 11 (.act 12 (.act 13 .fin)))))))))))))) (fun q => q = pl ∨ q = b) (by decide) mixed (by kernel_rfl) ?_
      have hxd := Ext.drew w5
      generalize w5.drew = w6 at *
      (repeat (first | ((first | refine pas_plain rfl ?_ | refine pas_g rfl rfl ?_ | refine act_plain rfl ?_ | refine act_g rfl rfl ?_ | refine last_plain rfl ?_ | refine tail_plain rfl ?_ | refine tail_g rfl rfl ?_); (repeat simp only [push_cast, Nat.reduceBEq, Nat.reduceLT, Nat.reduceEqDiff, reduceIte, reduceCtorEq, Nat.reduceMul, Nat.reduceAdd, Nat.reduceSub, Int.reduceEq, Int.reduceLT, Int.reduceLE, Int.reduceNeg, Int.reduceAdd, Int.reduceSub, Int.reduceMul, Nat.reduceLeDiff, Int.reduceToNat, cell_h, h0, h1, hcell, b1, b3, true_or, or_true, eq_self])) | (refine tail_fin ?_) | (refine sch_fin ?_)))
      refine (node_a hAd hb ha y).mono ?_
      rintro v w7 ⟨n, rfl, en, hnok, hA7, hx7, _, _⟩
      refine ⟨kept_upd hx7 fun q hq => ⟨by rcases hq with rfl | rfl <;> omega, id⟩, ?_⟩
      (repeat (first | ((first | refine pas_plain rfl ?_ | refine pas_g rfl rfl ?_ | refine act_plain rfl ?_ | refine act_g rfl rfl ?_ | refine last_plain rfl ?_ | refine tail_plain rfl ?_ | refine tail_g rfl rfl ?_); (repeat simp only [push_cast, Nat.reduceBEq, Nat.reduceLT, Nat.reduceEqDiff, reduceIte, reduceCtorEq, Nat.reduceMul, Nat.reduceAdd, Nat.reduceSub, Int.reduceEq, Int.reduceLT, Int.reduceLE, Int.reduceNeg, Int.reduceAdd, Int.reduceSub, Int.reduceMul, Nat.reduceLeDiff, Int.reduceToNat, cell_h, h0, h1, hcell, b1, b3, true_or, or_true, eq_self])) | (refine tail_fin ?_) | (refine sch_fin ?_)))
      have hx8 : Ext w' w7 := hx4.trans (hx5.trans (hxd.trans hx7))
      refine (like_c (s := s) (m := n) (hsok.attrs.rd.ext hx8) hnok.attrs.rd (by rw [es]; exact nd_few ha i) (by rw [en]; exact nd_few ha y)).mono ?_
      rintro v w8 ⟨rfl, hx9⟩
      have hs7 := hx7.alike.size
      refine ⟨kept_upd hx9 fun q hq => ⟨by rcases hq with rfl | rfl <;> omega, id⟩, ?_⟩
      (repeat (first | ((first | refine pas_plain rfl ?_ | refine pas_g rfl rfl ?_ | refine act_plain rfl ?_ | refine act_g rfl rfl ?_ | refine last_plain rfl ?_ | refine tail_plain rfl ?_ | refine tail_g rfl rfl ?_); (repeat simp only [push_cast, Nat.reduceBEq, Nat.reduceLT, Nat.reduceEqDiff, reduceIte, reduceCtorEq, Nat.reduceMul, Nat.reduceAdd, Nat.reduceSub, Int.reduceEq, Int.reduceLT, Int.reduceLE, Int.reduceNeg, Int.reduceAdd, Int.reduceSub, Int.reduceMul, Nat.reduceLeDiff, Int.reduceToNat, cell_h, h0, h1, hcell, b1, b3, true_or, or_true, eq_self])) | (refine tail_fin ?_) | (refine sch_fin ?_)))
      have hx10 := hx4.trans (hx5.trans (hxd.trans (hx7.trans hx9)))
      have ep : likeN s.nd n.nd = likeP L i y := by rw [es, en]; rfl
      rw [ep]
      cases hp : likeP L i y with
      | true =>
        rw [if_pos hp] at q3
        ((repeat simp only [push_cast, Nat.reduceBEq, Nat.reduceLT, Nat.reduceEqDiff, reduceIte, reduceCtorEq, Nat.reduceMul, Nat.reduceAdd, Nat.reduceSub, Int.reduceEq, Int.reduceLT, Int.reduceLE, Int.reduceNeg, Int.reduceAdd, Int.reduceSub, Int.reduceMul, Nat.reduceLeDiff, Int.reduceToNat, b2, b4]); (repeat (first | (with_reducible first | (refine hK _ _ ?_; clear hK K) | refine (show ∀ σ' w', _ → K σ' w' from by assumption) _ _ ?_ | refine W_seq_k fun K hK => ?_ | refine W_block_k fun K hK => ?_ | refine W_skip ?_ | refine W_ret ?_) | ((first | ((with_reducible refine W_id ?_); refine W_reg (by decide) (by rfl) ?_) | (with_reducible first | refine W_cond ?_ | refine hZ _ _ ?_ | refine W_exit ?_ | refine Wo_id ?_)); repeat1' simp only [push_cast, Nat.reduceBEq, Nat.reduceLT, Nat.reduceEqDiff, reduceIte, reduceCtorEq, Nat.reduceMul, Nat.reduceAdd, Nat.reduceSub, Int.reduceEq, Int.reduceLT, Int.reduceLE, Int.reduceNeg, Int.reduceAdd, Int.reduceSub, Int.reduceMul, Nat.reduceLeDiff, Int.reduceToNat, b2, b4]) | ((repeat ((fail_if_success with_reducible refine hK _ _ ?_); clear hK K)); (with_reducible refine hK _ _ ?_); clear hK K))))
        refine ⟨(k, k, m + 1), by simp, ?_⟩
        (repeat simp only [push_cast, Nat.reduceBEq, Nat.reduceLT, Nat.reduceEqDiff, reduceIte, reduceCtorEq, Nat.reduceMul, Nat.reduceAdd, Nat.reduceSub, Int.reduceEq, Int.reduceLT, Int.reduceLE, Int.reduceNeg, Int.reduceAdd, Int.reduceSub, Int.reduceMul, Nat.reduceLeDiff, Int.reduceToNat])
        exact ⟨by omega, by omega, q3, hx10⟩
      | false =>
        rw [if_neg (by rw [hp]; decide)] at q3
        ((repeat simp only [push_cast, Nat.reduceBEq, Nat.reduceLT, Nat.reduceEqDiff, reduceIte, reduceCtorEq, Nat.reduceMul, Nat.reduceAdd, Nat.reduceSub, Int.reduceEq, Int.reduceLT, Int.reduceLE, Int.reduceNeg, Int.reduceAdd, Int.reduceSub, Int.reduceMul, Nat.reduceLeDiff, Int.reduceToNat, b2]); (repeat (first | (with_reducible first | (refine hK _ _ ?_; clear hK K) | refine (show ∀ σ' w', _ → K σ' w' from by assumption) _ _ ?_ | refine W_seq_k fun K hK => ?_ | refine W_block_k fun K hK => ?_ | refine W_skip ?_ | refine W_ret ?_) | ((first | ((with_reducible refine W_id ?_); refine W_reg (by decide) (by rfl) ?_) | (with_reducible first | refine W_cond ?_ | refine hZ _ _ ?_ | refine W_exit ?_ | refine Wo_id ?_)); repeat1' simp only [push_cast, Nat.reduceBEq, Nat.reduceLT, Nat.reduceEqDiff, reduceIte, reduceCtorEq, Nat.reduceMul, Nat.reduceAdd, Nat.reduceSub, Int.reduceEq, Int.reduceLT, Int.reduceLE, Int.reduceNeg, Int.reduceAdd, Int.reduceSub, Int.reduceMul, Nat.reduceLeDiff, Int.reduceToNat, b2]) | ((repeat ((fail_if_success with_reducible refine hK _ _ ?_); clear hK K)); (with_reducible refine hK _ _ ?_); clear hK K))))
        refine ⟨(k, f, m), by simp, ?_⟩
        (repeat simp only [push_cast, Nat.reduceBEq, Nat.reduceLT, Nat.reduceEqDiff, reduceIte, reduceCtorEq, Nat.reduceMul, Nat.reduceAdd, Nat.reduceSub, Int.reduceEq, Int.reduceLT, Int.reduceLE, Int.reduceNeg, Int.reduceAdd, Int.reduceSub, Int.reduceMul, Nat.reduceLeDiff, Int.reduceToNat])
        exact ⟨by omega, by omega, q3, hx10⟩
    · rw [pushG_done _ _ _ _ _ _ hko] at q3
      rw [q3] at hD
      have hgr := pushG_rng (likeP L i) l (openN l) l.length 0 0 (Nat.le_refl _) (.inl rfl)
      rw [hG, q3] at hgr
      dsimp only at hgr
      (repeat (first | (with_reducible first | (refine hK _ _ ?_; clear hK K) | refine (show ∀ σ' w', _ → K σ' w' from by assumption) _ _ ?_ | refine W_seq_k fun K hK => ?_ | refine W_block_k fun K hK => ?_ | refine W_skip ?_ | refine W_ret ?_) | ((first | ((with_reducible refine W_id ?_); refine W_reg (by decide) (by rfl) ?_) | (with_reducible first | refine W_cond ?_ | refine hZ _ _ ?_ | refine W_exit ?_ | refine Wo_id ?_)); repeat1' simp only [push_cast, Nat.reduceBEq, Nat.reduceLT, Nat.reduceEqDiff, reduceIte, reduceCtorEq, Nat.reduceMul, Nat.reduceAdd, Nat.reduceSub, Int.reduceEq, Int.reduceLT, Int.reduceLE, Int.reduceNeg, Int.reduceAdd, Int.reduceSub, Int.reduceMul, Nat.reduceLeDiff, Int.reduceToNat]) | ((repeat ((fail_if_success with_reducible refine hK _ _ ?_); clear hK K)); (with_reducible refine hK _ _ ?_); clear hK K)))
      refine (open_c hF4 (by omega)).mono ?_
      rintro v w5 ⟨rfl, hx5⟩
      have hx6 : Ext w' w5 := hx4.trans hx5
      have hx7 : Ext w2 w5 := hx3.trans hx6
      have hx8 : Ext w w5 := hx.trans hx7
      have hF6 := hF.ext hx7
      have hs := hx7.alike.size
      have h1 := hF6.c1
      by_cases hm3 : 3 ≤ m
      · have b0 : (3 : Int) ≤ (m : Int) := by omega
        have hfl : f < l.length := by omega
        have b1 : inI64 ((f : Int) + 1) := by unfold inI64; omega
        have e : dropN l (f, m) = l.eraseIdx f := if_pos hm3
        rw [e] at hD
        ((repeat simp only [push_cast, Nat.reduceBEq, Nat.reduceLT, Nat.reduceEqDiff, reduceIte, reduceCtorEq, Nat.reduceMul, Nat.reduceAdd, Nat.reduceSub, Int.reduceEq, Int.reduceLT, Int.reduceLE, Int.reduceNeg, Int.reduceAdd, Int.reduceSub, Int.reduceMul, Nat.reduceLeDiff, Int.reduceToNat, hko, b0, h1, b1]); (repeat (first | (with_reducible first | (refine hK _ _ ?_; clear hK K) | refine (show ∀ σ' w', _ → K σ' w' from by assumption) _ _ ?_ | refine W_seq_k fun K hK => ?_ | refine W_block_k fun K hK => ?_ | refine W_skip ?_ | refine W_ret ?_) | ((first | ((with_reducible refine W_id ?_); refine W_reg (by decide) (by rfl) ?_) | (with_reducible first | refine W_cond ?_ | refine hZ _ _ ?_ | refine W_exit ?_ | refine Wo_id ?_)); repeat1' simp only [push_cast, Nat.reduceBEq, Nat.reduceLT, Nat.reduceEqDiff, reduceIte, reduceCtorEq, Nat.reduceMul, Nat.reduceAdd, Nat.reduceSub, Int.reduceEq, Int.reduceLT, Int.reduceLE, Int.reduceNeg, Int.reduceAdd, Int.reduceSub, Int.reduceMul, Nat.reduceLeDiff, Int.reduceToNat, hko, b0, h1, b1]) | ((repeat ((fail_if_success with_reducible refine hK _ _ ?_); clear hK K)); (with_reducible refine hK _ _ ?_); clear hK K))))
        refine (delete_c hF6.sl (by omega) f hfl).mono ?_
        rintro v w9 ⟨g1, g2⟩
        obtain ⟨k1, k2, k3⟩ := ls_put hF6 (hA.pass hx7) hpl hbo hQ (fun b hb => by have := hQl b hb; omega) g1 g2 (fun b hb => .inl hb)
        obtain ⟨va, vn, vc, rfl, _, _⟩ := g1.len
        rw [hD] at k2
        have hle : D.length < 10000 := by rw [← hD, List.length_eraseIdx]; split <;> omega
        have k4 := k2
        obtain ⟨lv2, bo2, hG, _⟩ := k4
        obtain ⟨a2, c2, rfl, _⟩ := hG.sl.ints_len
        have h4 := hG.c1
        ((repeat simp only [push_cast, Nat.reduceBEq, Nat.reduceLT, Nat.reduceEqDiff, reduceIte, reduceCtorEq, Nat.reduceMul, Nat.reduceAdd, Nat.reduceSub, Int.reduceEq, Int.reduceLT, Int.reduceLE, Int.reduceNeg, Int.reduceAdd, Int.reduceSub, Int.reduceMul, Nat.reduceLeDiff, Int.reduceToNat, k1, h4]); (repeat (first | (with_reducible first | (refine hK _ _ ?_; clear hK K) | refine (show ∀ σ' w', _ → K σ' w' from by assumption) _ _ ?_ | refine W_seq_k fun K hK => ?_ | refine W_block_k fun K hK => ?_ | refine W_skip ?_ | refine W_ret ?_) | ((first | ((with_reducible refine W_id ?_); refine W_reg (by decide) (by rfl) ?_) | (with_reducible first | refine W_cond ?_ | refine hZ _ _ ?_ | refine W_exit ?_ | refine Wo_id ?_)); repeat1' simp only [push_cast, Nat.reduceBEq, Nat.reduceLT, Nat.reduceEqDiff, reduceIte, reduceCtorEq, Nat.reduceMul, Nat.reduceAdd, Nat.reduceSub, Int.reduceEq, Int.reduceLT, Int.reduceLE, Int.reduceNeg, Int.reduceAdd, Int.reduceSub, Int.reduceMul, Nat.reduceLeDiff, Int.reduceToNat, k1, h4]) | ((repeat ((fail_if_success with_reducible refine hK _ _ ?_); clear hK K)); (with_reducible refine hK _ _ ?_); clear hK K))))
        refine (lay_c k2 hle D.length (Nat.le_refl _) i).mono ?_
        rintro v w11 ⟨rfl, k5, k6⟩
        ((repeat simp only [push_cast, Nat.reduceBEq, Nat.reduceLT, Nat.reduceEqDiff, reduceIte, reduceCtorEq, Nat.reduceMul, Nat.reduceAdd, Nat.reduceSub, Int.reduceEq, Int.reduceLT, Int.reduceLE, Int.reduceNeg, Int.reduceAdd, Int.reduceSub, Int.reduceMul, Nat.reduceLeDiff, Int.reduceToNat]); (repeat (first | (with_reducible first | (refine hK _ _ ?_; clear hK K) | refine (show ∀ σ' w', _ → K σ' w' from by assumption) _ _ ?_ | refine W_seq_k fun K hK => ?_ | refine W_block_k fun K hK => ?_ | refine W_skip ?_ | refine W_ret ?_) | ((first | ((with_reducible refine W_id ?_); refine W_reg (by decide) (by rfl) ?_) | (with_reducible first | refine W_cond ?_ | refine hZ _ _ ?_ | refine W_exit ?_ | refine Wo_id ?_)); repeat1' simp only [push_cast, Nat.reduceBEq, Nat.reduceLT, Nat.reduceEqDiff, reduceIte, reduceCtorEq, Nat.reduceMul, Nat.reduceAdd, Nat.reduceSub, Int.reduceEq, Int.reduceLT, Int.reduceLE, Int.reduceNeg, Int.reduceAdd, Int.reduceSub, Int.reduceMul, Nat.reduceLeDiff, Int.reduceToNat]) | ((repeat ((fail_if_success with_reducible refine hK _ _ ?_); clear hK K)); (with_reducible refine hK _ _ ?_); clear hK K))))
        exact ⟨k5, Upd.trans hx8.upd (Upd.trans k3 k6 fun _ _ h => h) fun _ _ h => h⟩
      · have b0 : ¬ (3 : Int) ≤ (m : Int) := by omega
        have e : dropN l (f, m) = l := if_neg hm3
        rw [e] at hD
        subst hD
        obtain ⟨a2, c2, rfl, _⟩ := hF6.sl.ints_len
        ((repeat simp only [push_cast, Nat.reduceBEq, Nat.reduceLT, Nat.reduceEqDiff, reduceIte, reduceCtorEq, Nat.reduceMul, Nat.reduceAdd, Nat.reduceSub, Int.reduceEq, Int.reduceLT, Int.reduceLE, Int.reduceNeg, Int.reduceAdd, Int.reduceSub, Int.reduceMul, Nat.reduceLeDiff, Int.reduceToNat, hko, b0, h1]); (repeat (first | (with_reducible first | (refine hK _ _ ?_; clear hK K) | refine (show ∀ σ' w', _ → K σ' w' from by assumption) _ _ ?_ | refine W_seq_k fun K hK => ?_ | refine W_block_k fun K hK => ?_ | refine W_skip ?_ | refine W_ret ?_) | ((first | ((with_reducible refine W_id ?_); refine W_reg (by decide) (by rfl) ?_) | (with_reducible first | refine W_cond ?_ | refine hZ _ _ ?_ | refine W_exit ?_ | refine Wo_id ?_)); repeat1' simp only [push_cast, Nat.reduceBEq, Nat.reduceLT, Nat.reduceEqDiff, reduceIte, reduceCtorEq, Nat.reduceMul, Nat.reduceAdd, Nat.reduceSub, Int.reduceEq, Int.reduceLT, Int.reduceLE, Int.reduceNeg, Int.reduceAdd, Int.reduceSub, Int.reduceMul, Nat.reduceLeDiff, Int.reduceToNat, hko, b0, h1]) | ((repeat ((fail_if_success with_reducible refine hK _ _ ?_); clear hK K)); (with_reducible refine hK _ _ ?_); clear hK K))))
        refine (lay_c (h.pass hx8) hl l.length (Nat.le_refl _) i).mono ?_
        rintro v w11 ⟨rfl, k5, k6⟩
        ((repeat simp only [push_cast, Nat.reduceBEq, Nat.reduceLT, Nat.reduceEqDiff, reduceIte, reduceCtorEq, Nat.reduceMul, Nat.reduceAdd, Nat.reduceSub, Int.reduceEq, Int.reduceLT, Int.reduceLE, Int.reduceNeg, Int.reduceAdd, Int.reduceSub, Int.reduceMul, Nat.reduceLeDiff, Int.reduceToNat]); (repeat (first | (with_reducible first | (refine hK _ _ ?_; clear hK K) | refine (show ∀ σ' w', _ → K σ' w' from by assumption) _ _ ?_ | refine W_seq_k fun K hK => ?_ | refine W_block_k fun K hK => ?_ | refine W_skip ?_ | refine W_ret ?_) | ((first | ((with_reducible refine W_id ?_); refine W_reg (by decide) (by rfl) ?_) | (with_reducible first | refine W_cond ?_ | refine hZ _ _ ?_ | refine W_exit ?_ | refine Wo_id ?_)); repeat1' simp only [push_cast, Nat.reduceBEq, Nat.reduceLT, Nat.reduceEqDiff, reduceIte, reduceCtorEq, Nat.reduceMul, Nat.reduceAdd, Nat.reduceSub, Int.reduceEq, Int.reduceLT, Int.reduceLE, Int.reduceNeg, Int.reduceAdd, Int.reduceSub, Int.reduceMul, Nat.reduceLeDiff, Int.reduceToNat]) | ((repeat ((fail_if_success with_reducible refine hK _ _ ?_); clear hK K)); (with_reducible refine hK _ _ ?_); clear hK K))))
        exact ⟨k5, Upd.trans hx8.upd k6 fun _ _ h => h⟩
  · rw [if_neg hk]
    rw [if_neg hk] at hm
    refine Gives.of_W Try.call31 Try.func31 rfl Try.ntmps31 (by simp) ?_; intro Z hZ
    (repeat (first | (with_reducible first | (refine hK _ _ ?_; clear hK K) | refine (show ∀ σ' w', _ → K σ' w' from by assumption) _ _ ?_ | refine W_seq_k fun K hK => ?_ | refine W_block_k fun K hK => ?_ | refine W_skip ?_ | refine W_ret ?_) | ((first | ((with_reducible refine W_id ?_); refine W_reg (by decide) (by rfl) ?_) | (with_reducible first | refine W_cond ?_ | refine hZ _ _ ?_ | refine W_exit ?_ | refine Wo_id ?_)); repeat1' simp only [push_cast, Nat.reduceBEq, Nat.reduceLT, Nat.reduceEqDiff, reduceIte, reduceCtorEq, Nat.reduceMul, Nat.reduceAdd, Nat.reduceSub, Int.reduceEq, Int.reduceLT, Int.reduceLE, Int.reduceNeg, Int.reduceAdd, Int.reduceSub, Int.reduceMul, Nat.reduceLeDiff, Int.reduceToNat]) | ((repeat ((fail_if_success with_reducible refine hK _ _ ?_); clear hK K)); (with_reducible refine hK _ _ ?_); clear hK K)))
    refine hm.mono ?_
    rintro v w2 ⟨rfl, hx⟩
    ((repeat simp only [push_cast, Nat.reduceBEq, Nat.reduceLT, Nat.reduceEqDiff, reduceIte, reduceCtorEq, Nat.reduceMul, Nat.reduceAdd, Nat.reduceSub, Int.reduceEq, Int.reduceLT, Int.reduceLE, Int.reduceNeg, Int.reduceAdd, Int.reduceSub, Int.reduceMul, Nat.reduceLeDiff, Int.reduceToNat, not_false_eq_true]); (repeat (first | (with_reducible first | (refine hK _ _ ?_; clear hK K) | refine (show ∀ σ' w', _ → K σ' w' from by assumption) _ _ ?_ | refine W_seq_k fun K hK => ?_ | refine W_block_k fun K hK => ?_ | refine W_skip ?_ | refine W_ret ?_) | ((first | ((with_reducible refine W_id ?_); refine W_reg (by decide) (by rfl) ?_) | (with_reducible first | refine W_cond ?_ | refine hZ _ _ ?_ | refine W_exit ?_ | refine Wo_id ?_)); repeat1' simp only [push_cast, Nat.reduceBEq, Nat.reduceLT, Nat.reduceEqDiff, reduceIte, reduceCtorEq, Nat.reduceMul, Nat.reduceAdd, Nat.reduceSub, Int.reduceEq, Int.reduceLT, Int.reduceLE, Int.reduceNeg, Int.reduceAdd, Int.reduceSub, Int.reduceMul, Nat.reduceLeDiff, Int.reduceToNat, not_false_eq_true]) | ((repeat ((fail_if_success with_reducible refine hK _ _ ?_); clear hK K)); (with_reducible refine hK _ _ ?_); clear hK K))))
    exact ⟨h.pass hx, hx.upd⟩
end
end Go.Proofs.Ytkafpameheohdaa
end
section
set_option linter.unusedSimpArgs false
set_option linter.unusedVariables false
namespace Go.Proofs.Ytkafpameheohdaa
open Go Go.Vk
/-- the last place where it is so, in a list that is cut in two -/
theorem lastF_none {p : Int → Bool} {l : List Int} {fr : Int} : ∀ k : Nat, (∀ j, j < k → fr ≤ (j : Int) → p (l.getD j 0) = false) → lastF p l fr k = -1
  | 0, _ => rfl
  | k + 1, h => by
    rw [lastF]
    by_cases h1 : (k : Int) < fr
    · rw [if_pos h1]
    · rw [if_neg h1, if_neg (by rw [h k (by omega) (by omega)]; decide)]
      exact lastF_none k fun j hj => h j (by omega)
theorem lastF_at {p : Int → Bool} {l : List Int} {fr : Int} {q : Nat} (hq : fr ≤ q) (hp : p (l.getD q 0) = true) : ∀ k : Nat, q < k → (∀ j, q < j → j < k → p (l.getD j 0) = false) → lastF p l fr k = q
  | 0, h, _ => by omega
  | k + 1, h, h2 => by
    rw [lastF, if_neg (by omega)]
    by_cases h1 : q = k
    · subst h1; rw [if_pos hp]
    · rw [if_neg (by rw [h2 k (by omega) (by omega)]; decide)]
      exact lastF_at hq hp k (by omega) fun j hj hk => h2 j hj (by omega)
theorem getD_mid (a m : List Int) (j : Nat) : (a ++ m).getD (a.length + j) 0 = m.getD j 0 := by
  simp [List.getD, List.getElem?_append_right]
theorem getD_mem {m : List Int} {j : Nat} (h : j < m.length) : m.getD j 0 ∈ m := by
  have : m.getD j 0 = m[j] := by simp [List.getD, h]
  rw [this]; exact List.getElem_mem h
/-- a: up to the last marker; m: behind it -/
structure Cut (l a m : List Int) : Prop where
  eq : l = a ++ m
  no : ∀ y ∈ m, y ≠ -1
  a : a = [] ∨ ∃ r, a = r ++ [-1]
theorem Cut.open_ {l a m : List Int} (h : Cut l a m) : openN l = a.length := by
  obtain ⟨rfl, hn, ha⟩ := h
  unfold openN
  rcases ha with rfl | ⟨r, rfl⟩
  · rw [lastF_none _ fun j hj _ => by simpa using hn _ (getD_mem (m := m) (j := j) (by simpa using hj))]; rfl
  · rw [lastF_at (q := r.length) (by omega) (by simp [List.getD]) _ (by simp) fun j h1 h2 => ?_]
    · simp
    · have hj : j = (r ++ [-1]).length + (j - (r.length + 1)) := by simp; omega
      rw [hj, getD_mid]
      have := hn _ (getD_mem (m := m) (j := j - (r.length + 1)) (by simp at h2; omega))
      simpa using this
/-- what stands behind the last marker, one pushed -/
def pushM (p : Int → Bool) (m : List Int) (i : Int) : List Int := (if 3 ≤ m.countP p then m.eraseP p else m) ++ [i]
theorem lay_end (l : List Int) (i : Int) (h : l.length < 64) : layN l l.length i = (l ++ [i], 0) := by
  unfold layN; rw [if_neg (by omega)]; simp
theorem pushM_no {p : Int → Bool} {m : List Int} {i : Int} (h : ∀ y ∈ m, y ≠ -1) (hi : i ≠ -1) : ∀ y ∈ pushM p m i, y ≠ -1 := by
  intro y hy
  unfold pushM at hy
  rw [List.mem_append] at hy
  rcases hy with hy | hy
  · split at hy
    · exact h y (List.mem_of_mem_eraseP hy)
    · exact h y hy
  · simp at hy; subst hy; exact hi
theorem Cut.push {l a m : List Int} (h : Cut l a m) (p : Int → Bool) {i : Int} (hi : i ≠ -1) : Cut (a ++ pushM p m i) a (pushM p m i) := ⟨rfl, pushM_no h.no hi, h.a⟩
theorem Cut.mark {l a m : List Int} (_ : Cut l a m) : Cut (l ++ [-1]) (l ++ [-1]) [] := ⟨by simp, by simp, .inr ⟨l, rfl⟩⟩
theorem Cut.clear {l a m : List Int} (h : Cut l a m) : clearN l (openN l) = a.dropLast := by
  rw [h.open_]
  obtain ⟨rfl, hn, ha⟩ := h
  unfold clearN
  rcases ha with rfl | ⟨r, rfl⟩
  · simp
  · have : (((r ++ [-1]).length : Int) - 1).toNat = r.length := by simp
    rw [this]; simp
end Go.Proofs.Ytkafpameheohdaa
end
section
set_option linter.unusedSimpArgs false
set_option linter.unusedVariables false
namespace Go.Vk
open Go
theorem fill30 (k : Int) (s t : ByteArray) (sp : Int) (a : Option Addr) (n c : Nat) (d : Bool) (p f o : Int) :
    Instr.fill (#[(0,1),(1,1),(2,1),(3,1),(4,1),(5,1),(6,1),(7,1),(8,1),(9,1),(10,1)][·]?) #[.int .i64 0, .string ⟨#[]⟩, .string ⟨#[]⟩, .int .i64 0, .slice none 0 0, .bool false, .int .i64 0, .int .i64 0, .slice none 0 0, .int .i64 0, .int .i64 0]
      [(0, .int .i64 k), (1, .string s), (2, .string t), (3, .int .i64 sp), (4, .slice a n c), (5, .bool d), (6, .int .i64 p), (9, .int .i64 f), (10, .int .i64 o)] = some #[.int .i64 k, .string s, .string t, .int .i64 sp, .slice a n c, .bool d, .int .i64 p, .int .i64 0, .slice none 0 0, .int .i64 f, .int .i64 o] := by
  simp [Instr.fill, Value.cells]
end Go.Vk
namespace Go.Proofs.Ytkafpameheohdaa
open Go Go.Vk
set_option maxHeartbeats 40000000
theorem rkid_c (k : Int) {w : World} : Gives Try.prog 87 #[.int .i64 k] w fun v w' => v = .bool (kidK k) ∧ w' = w := by
  unfold kidK
  by_cases h2 : k = 2
  · refine Gives.of_W Try.call87 Try.func87 rfl Try.ntmps87 (by simp) ?_; intro Z hZ
    (repeat (first | (with_reducible first | (refine hK _ _ ?_; clear hK K) | refine (show ∀ σ' w', _ → K σ' w' from by assumption) _ _ ?_ | refine W_seq_k fun K hK => ?_ | refine W_block_k fun K hK => ?_ | refine W_skip ?_ | refine W_ret ?_) | ((first | ((with_reducible refine W_id ?_); refine W_reg (by decide) (by rfl) ?_) | (with_reducible first | refine W_cond ?_ | refine hZ _ _ ?_ | refine W_exit ?_ | refine Wo_id ?_)); repeat1' simp only [push_cast, Nat.reduceBEq, Nat.reduceLT, Nat.reduceEqDiff, reduceIte, reduceCtorEq, Nat.reduceMul, Nat.reduceAdd, Nat.reduceSub, Int.reduceEq, Int.reduceLT, Int.reduceLE, Int.reduceNeg, Int.reduceAdd, Int.reduceSub, Int.reduceMul, Nat.reduceLeDiff, Int.reduceToNat, h2]) | ((repeat ((fail_if_success with_reducible refine hK _ _ ?_); clear hK K)); (with_reducible refine hK _ _ ?_); clear hK K)))
    simp [h2]
  · by_cases h3 : k = 3
    · refine Gives.of_W Try.call87 Try.func87 rfl Try.ntmps87 (by simp) ?_; intro Z hZ
      (repeat (first | (with_reducible first | (refine hK _ _ ?_; clear hK K) | refine (show ∀ σ' w', _ → K σ' w' from by assumption) _ _ ?_ | refine W_seq_k fun K hK => ?_ | refine W_block_k fun K hK => ?_ | refine W_skip ?_ | refine W_ret ?_) | ((first | ((with_reducible refine W_id ?_); refine W_reg (by decide) (by rfl) ?_) | (with_reducible first | refine W_cond ?_ | refine hZ _ _ ?_ | refine W_exit ?_ | refine Wo_id ?_)); repeat1' simp only [push_cast, Nat.reduceBEq, Nat.reduceLT, Nat.reduceEqDiff, reduceIte, reduceCtorEq, Nat.reduceMul, Nat.reduceAdd, Nat.reduceSub, Int.reduceEq, Int.reduceLT, Int.reduceLE, Int.reduceNeg, Int.reduceAdd, Int.reduceSub, Int.reduceMul, Nat.reduceLeDiff, Int.reduceToNat, h2, h3]) | ((repeat ((fail_if_success with_reducible refine hK _ _ ?_); clear hK K)); (with_reducible refine hK _ _ ?_); clear hK K)))
      simp [h3]
    · by_cases h4 : k = 4
      · refine Gives.of_W Try.call87 Try.func87 rfl Try.ntmps87 (by simp) ?_; intro Z hZ
        (repeat (first | (with_reducible first | (refine hK _ _ ?_; clear hK K) | refine (show ∀ σ' w', _ → K σ' w' from by assumption) _ _ ?_ | refine W_seq_k fun K hK => ?_ | refine W_block_k fun K hK => ?_ | refine W_skip ?_ | refine W_ret ?_) | ((first | ((with_reducible refine W_id ?_); refine W_reg (by decide) (by rfl) ?_) | (with_reducible first | refine W_cond ?_ | refine hZ _ _ ?_ | refine W_exit ?_ | refine Wo_id ?_)); repeat1' simp only [push_cast, Nat.reduceBEq, Nat.reduceLT, Nat.reduceEqDiff, reduceIte, reduceCtorEq, Nat.reduceMul, Nat.reduceAdd, Nat.reduceSub, Int.reduceEq, Int.reduceLT, Int.reduceLE, Int.reduceNeg, Int.reduceAdd, Int.reduceSub, Int.reduceMul, Nat.reduceLeDiff, Int.reduceToNat, h2, h3, h4]) | ((repeat ((fail_if_success with_reducible refine hK _ _ ?_); clear hK K)); (with_reducible refine hK _ _ ?_); clear hK K)))
        simp [h4]
      · by_cases h5 : k = 5
        · refine Gives.of_W Try.call87 Try.func87 rfl Try.ntmps87 (by simp) ?_; intro Z hZ
          (repeat (first | (with_reducible first | (refine hK _ _ ?_; clear hK K) | refine (show ∀ σ' w', _ → K σ' w' from by assumption) _ _ ?_ | refine W_seq_k fun K hK => ?_ | refine W_block_k fun K hK => ?_ | refine W_skip ?_ | refine W_ret ?_) | ((first | ((with_reducible refine W_id ?_); refine W_reg (by decide) (by rfl) ?_) | (with_reducible first | refine W_cond ?_ | refine hZ _ _ ?_ | refine W_exit ?_ | refine Wo_id ?_)); repeat1' simp only [push_cast, Nat.reduceBEq, Nat.reduceLT, Nat.reduceEqDiff, reduceIte, reduceCtorEq, Nat.reduceMul, Nat.reduceAdd, Nat.reduceSub, Int.reduceEq, Int.reduceLT, Int.reduceLE, Int.reduceNeg, Int.reduceAdd, Int.reduceSub, Int.reduceMul, Nat.reduceLeDiff, Int.reduceToNat, h2, h3, h4, h5]) | ((repeat ((fail_if_success with_reducible refine hK _ _ ?_); clear hK K)); (with_reducible refine hK _ _ ?_); clear hK K)))
          simp [h5]
        · refine Gives.of_W Try.call87 Try.func87 rfl Try.ntmps87 (by simp) ?_; intro Z hZ
          (repeat (first | (with_reducible first | (refine hK _ _ ?_; clear hK K) | refine (show ∀ σ' w', _ → K σ' w' from by assumption) _ _ ?_ | refine W_seq_k fun K hK => ?_ | refine W_block_k fun K hK => ?_ | refine W_skip ?_ | refine W_ret ?_) | ((first | ((with_reducible refine W_id ?_); refine W_reg (by decide) (by rfl) ?_) | (with_reducible first | refine W_cond ?_ | refine hZ _ _ ?_ | refine W_exit ?_ | refine Wo_id ?_)); repeat1' simp only [push_cast, Nat.reduceBEq, Nat.reduceLT, Nat.reduceEqDiff, reduceIte, reduceCtorEq, Nat.reduceMul, Nat.reduceAdd, Nat.reduceSub, Int.reduceEq, Int.reduceLT, Int.reduceLE, Int.reduceNeg, Int.reduceAdd, Int.reduceSub, Int.reduceMul, Nat.reduceLeDiff, Int.reduceToNat, h2, h3, h4, h5]) | ((repeat ((fail_if_success with_reducible refine hK _ _ ?_); clear hK K)); (with_reducible refine hK _ _ ?_); clear hK K)))
          simp [h2, h3, h4, h5]
theorem rmade_c {w : World} {m : Laid} (h : RdAt w 2 m.av (attrCells m.nd.attrs)) (hb : m.nd.attrs.length < 1000000) :
    Gives Try.prog 86 #[m.val] w fun v w' => ∃ m' : Laid, v = m'.val ∧ m'.nd = bareN m.nd ∧ m'.ok w' ∧ Ext w w' ∧ (∀ b ∈ m'.blks, w.heap.size ≤ b) ∧ m'.blks.Nodup ∧ m'.kb = none := by
  rw [Laid.val_eq]
  refine Gives.of_W Try.call86 Try.func86 rfl Try.ntmps86 (by simp) ?_; intro Z hZ
  (repeat (first | (with_reducible first | (refine hK _ _ ?_; clear hK K) | refine (show ∀ σ' w', _ → K σ' w' from by assumption) _ _ ?_ | refine W_seq_k fun K hK => ?_ | refine W_block_k fun K hK => ?_ | refine W_skip ?_ | refine W_ret ?_) | ((first | ((with_reducible refine W_id ?_); refine W_reg (by decide) (by rfl) ?_) | (with_reducible first | refine W_cond ?_ | refine hZ _ _ ?_ | refine W_exit ?_ | refine Wo_id ?_)); repeat1' simp only [push_cast, Nat.reduceBEq, Nat.reduceLT, Nat.reduceEqDiff, reduceIte, reduceCtorEq, Nat.reduceMul, Nat.reduceAdd, Nat.reduceSub, Int.reduceEq, Int.reduceLT, Int.reduceLE, Int.reduceNeg, Int.reduceAdd, Int.reduceSub, Int.reduceMul, Nat.reduceLeDiff, Int.reduceToNat, RunV_zero Try.zeroValue30, vcells_agg, size_alloc_h]) | ((repeat ((fail_if_success with_reducible refine hK _ _ ?_); clear hK K)); (with_reducible refine hK _ _ ?_); clear hK K)))
  have hx1 : Ext w ((w.alloc (.cells #[.int .i64 m.nd.kind, .string m.nd.name, .string m.nd.text, .int .i64 m.nd.space, m.av, .bool m.nd.dup, .int .i64 m.nd.parent, .int .i64 m.nd.content, m.kv, .int .i64 m.nd.frm, .int .i64 m.nd.to] 30)).alloc (.cells #[.int .i64 0, .string ⟨#[]⟩, .string ⟨#[]⟩, .int .i64 0, .slice none 0 0, .bool false, .int .i64 0, .int .i64 0, .slice none 0 0, .int .i64 0, .int .i64 0] 30)) := (Ext.alloc _ _).trans (Ext.alloc _ _)
  have c1 : ((w.alloc (.cells #[.int .i64 m.nd.kind, .string m.nd.name, .string m.nd.text, .int .i64 m.nd.space, m.av, .bool m.nd.dup, .int .i64 m.nd.parent, .int .i64 m.nd.content, m.kv, .int .i64 m.nd.frm, .int .i64 m.nd.to] 30)).alloc (.cells #[.int .i64 0, .string ⟨#[]⟩, .string ⟨#[]⟩, .int .i64 0, .slice none 0 0, .bool false, .int .i64 0, .int .i64 0, .slice none 0 0, .int .i64 0, .int .i64 0] 30)).heap[w.heap.size]? = some (.cells #[.int .i64 m.nd.kind, .string m.nd.name, .string m.nd.text, .int .i64 m.nd.space, m.av, .bool m.nd.dup, .int .i64 m.nd.parent, .int .i64 m.nd.content, m.kv, .int .i64 m.nd.frm, .int .i64 m.nd.to] 30 (0, 0)) := by
    rw [heap_alloc_h, if_neg (by rw [size_alloc_h]; omega), heap_alloc_h, if_pos rfl]
  have c2 : ((w.alloc (.cells #[.int .i64 m.nd.kind, .string m.nd.name, .string m.nd.text, .int .i64 m.nd.space, m.av, .bool m.nd.dup, .int .i64 m.nd.parent, .int .i64 m.nd.content, m.kv, .int .i64 m.nd.frm, .int .i64 m.nd.to] 30)).alloc (.cells #[.int .i64 0, .string ⟨#[]⟩, .string ⟨#[]⟩, .int .i64 0, .slice none 0 0, .bool false, .int .i64 0, .int .i64 0, .slice none 0 0, .int .i64 0, .int .i64 0] 30)).heap[w.heap.size + 1]? = some (.cells #[.int .i64 0, .string ⟨#[]⟩, .string ⟨#[]⟩, .int .i64 0, .slice none 0 0, .bool false, .int .i64 0, .int .i64 0, .slice none 0 0, .int .i64 0, .int .i64 0] 30 (0, 0)) := by
    rw [heap_alloc_h, if_pos (by rw [size_alloc_h])]
  generalize (w.alloc (.cells #[.int .i64 m.nd.kind, .string m.nd.name, .string m.nd.text, .int .i64 m.nd.space, m.av, .bool m.nd.dup, .int .i64 m.nd.parent, .int .i64 m.nd.content, m.kv, .int .i64 m.nd.frm, .int .i64 m.nd.to] 30)).alloc (.cells #[.int .i64 0, .string ⟨#[]⟩, .string ⟨#[]⟩, .int .i64 0, .slice none 0 0, .bool false, .int .i64 0, .int .i64 0, .slice none 0 0, .int .i64 0, .int .i64 0] 30) = w1 at *
  have d1 := (Ext.drew w1).blk c1
  have d2 := (Ext.drew w1).blk c2
  have hxd := hx1.trans (Ext.drew w1)
  refine W_draw (.pas 0 (.pas 1 (.pas 2 (.pas 3 (.pas 4 (.pas 5 (.pas 6 (.pas 7 (.pas 8 (.pas 9 (.pas 11 (.pas 12 (.pas 13 (.pas 14 (.pas 15 (.pas 16 (.act 10 (.pas 17 (.last 18))))))))))))))))))) (fun b => b = w.heap.size) (by decide) mixed (by kernel_rfl) ?_
  generalize w1.drew = w2 at *
  have hl1 := blk_lt d1
  have hl2 := blk_lt d2
  (repeat (first | ((first | refine pas_plain rfl ?_ | refine pas_g rfl rfl ?_ | refine act_plain rfl ?_ | refine act_g rfl rfl ?_ | refine last_plain rfl ?_ | refine tail_plain rfl ?_ | refine tail_g rfl rfl ?_); (repeat simp only [push_cast, Nat.reduceBEq, Nat.reduceLT, Nat.reduceEqDiff, reduceIte, reduceCtorEq, Nat.reduceMul, Nat.reduceAdd, Nat.reduceSub, Int.reduceEq, Int.reduceLT, Int.reduceLE, Int.reduceNeg, Int.reduceAdd, Int.reduceSub, Int.reduceMul, Nat.reduceLeDiff, Int.reduceToNat, cell_h, d1, cellO_cells, eq_self])) | (refine tail_fin ?_) | (refine sch_fin ?_)))
  refine app_to_rd sty27 sty27.und (by decide) (SlAt.nil _ _) (h.ext hxd) (attrCells_one _) (by rw [attrCells_length]; simp; omega) ?_
  intro v w3 bo g1 g2 g3
  rw [List.nil_append] at g1
  refine ⟨kept_upd g2 fun b hb => ⟨by have : b = w.heap.size := hb; omega, fun e => by cases e⟩, ?_⟩
  have hx3 : Ext w2 w3 := g2.mono fun b _ e => by cases e
  have d3 := hx3.blk d2
  obtain ⟨va, vn, vc, rfl, _, _⟩ := g1.len
  (repeat (first | ((first | refine pas_plain rfl ?_ | refine pas_g rfl rfl ?_ | refine act_plain rfl ?_ | refine act_g rfl rfl ?_ | refine last_plain rfl ?_ | refine tail_plain rfl ?_ | refine tail_g rfl rfl ?_); (repeat simp only [push_cast, Nat.reduceBEq, Nat.reduceLT, Nat.reduceEqDiff, reduceIte, reduceCtorEq, Nat.reduceMul, Nat.reduceAdd, Nat.reduceSub, Int.reduceEq, Int.reduceLT, Int.reduceLE, Int.reduceNeg, Int.reduceAdd, Int.reduceSub, Int.reduceMul, Nat.reduceLeDiff, Int.reduceToNat, cell_h, d1, cellO_cells, eq_self])) | (refine tail_fin ?_) | (refine sch_fin ?_)))
  refine build_struct Try.zeroValue30 un30 pl30 (cs := #[.int .i64 m.nd.kind, .string m.nd.name, .string m.nd.text, .int .i64 m.nd.space, .slice va vn vc, .bool m.nd.dup, .int .i64 (-1), .int .i64 0, .slice none 0 0, .int .i64 m.nd.frm, .int .i64 m.nd.to]) (fill30 _ _ _ _ _ _ _ _ _ _ _) ?_
  (repeat (first | ((first | refine pas_plain rfl ?_ | refine pas_g rfl rfl ?_ | refine act_plain rfl ?_ | refine act_g rfl rfl ?_ | refine last_plain rfl ?_ | refine tail_plain rfl ?_ | refine tail_g rfl rfl ?_); (repeat simp only [push_cast, Nat.reduceBEq, Nat.reduceLT, Nat.reduceEqDiff, reduceIte, reduceCtorEq, Nat.reduceMul, Nat.reduceAdd, Nat.reduceSub, Int.reduceEq, Int.reduceLT, Int.reduceLE, Int.reduceNeg, Int.reduceAdd, Int.reduceSub, Int.reduceMul, Nat.reduceLeDiff, Int.reduceToNat, cell_h, d1, cellO_cells, eq_self])) | (refine tail_fin ?_) | (refine sch_fin ?_)))
  simp only [can_h, d3, canO_cells, List.size_toArray, List.length_cons, List.length_nil, Nat.zero_add, Nat.reduceAdd, Nat.reduceLT, true_and]
  have hp4 := setCells_all d3 (l := [.int .i64 m.nd.kind, .string m.nd.name, .string m.nd.text, .int .i64 m.nd.space, .slice va vn vc, .bool m.nd.dup, .int .i64 (-1), .int .i64 0, .slice none 0 0, .int .i64 m.nd.frm, .int .i64 m.nd.to]) rfl
  have hu4 := Upd.setCells (F := fun b => b = w.heap.size + 1) (a := ⟨w.heap.size + 1, 0, none⟩) w3 rfl [.int .i64 m.nd.kind, .string m.nd.name, .string m.nd.text, .int .i64 m.nd.space, .slice va vn vc, .bool m.nd.dup, .int .i64 (-1), .int .i64 0, .slice none 0 0, .int .i64 m.nd.frm, .int .i64 m.nd.to] 0
  generalize setCells w3 ⟨w.heap.size + 1, 0, none⟩ [.int .i64 m.nd.kind, .string m.nd.name, .string m.nd.text, .int .i64 m.nd.space, .slice va vn vc, .bool m.nd.dup, .int .i64 (-1), .int .i64 0, .slice none 0 0, .int .i64 m.nd.frm, .int .i64 m.nd.to] 0 = w4 at *
  ((repeat simp only [push_cast, Nat.reduceBEq, Nat.reduceLT, Nat.reduceEqDiff, reduceIte, reduceCtorEq, Nat.reduceMul, Nat.reduceAdd, Nat.reduceSub, Int.reduceEq, Int.reduceLT, Int.reduceLE, Int.reduceNeg, Int.reduceAdd, Int.reduceSub, Int.reduceMul, Nat.reduceLeDiff, Int.reduceToNat, cell_h, hp4, cellO_cells]); (repeat (first | (with_reducible first | (refine hK _ _ ?_; clear hK K) | refine (show ∀ σ' w', _ → K σ' w' from by assumption) _ _ ?_ | refine W_seq_k fun K hK => ?_ | refine W_block_k fun K hK => ?_ | refine W_skip ?_ | refine W_ret ?_) | ((first | ((with_reducible refine W_id ?_); refine W_reg (by decide) (by rfl) ?_) | (with_reducible first | refine W_cond ?_ | refine hZ _ _ ?_ | refine W_exit ?_ | refine Wo_id ?_)); repeat1' simp only [push_cast, Nat.reduceBEq, Nat.reduceLT, Nat.reduceEqDiff, reduceIte, reduceCtorEq, Nat.reduceMul, Nat.reduceAdd, Nat.reduceSub, Int.reduceEq, Int.reduceLT, Int.reduceLE, Int.reduceNeg, Int.reduceAdd, Int.reduceSub, Int.reduceMul, Nat.reduceLeDiff, Int.reduceToNat, cell_h, hp4, cellO_cells]) | ((repeat ((fail_if_success with_reducible refine hK _ _ ?_); clear hK K)); (with_reducible refine hK _ _ ?_); clear hK K))))
  have hx4 : Ext w w4 := Upd.trans (hxd.trans hx3) hu4 fun i hi e => by omega
  refine ⟨⟨bareN m.nd, .slice va vn vc, .slice none 0 0, bo, none⟩, rfl, rfl, ⟨g1.upd hu4 fun b hb e => ?_, SlAt.nil _ _⟩, hx4, fun b hb => ?_, ?_, rfl⟩
  · rcases g3 b hb with h1 | h1
    · cases h1
    · omega
  · simp only [Laid.blks, Option.toList_none, List.append_nil, Option.mem_toList] at hb
    rcases g3 b hb with h1 | h1
    · cases h1
    · omega
  · cases bo <;> simp [Laid.blks]
theorem pl64 (w : World) : ((fsOf Try.prog 64).mapM plOf).run Try.prog w = .ok #[(0,1)] w := by
  simp [fsOf, plOf, Try.underlying64, Sem.run, Try.sizeOf39]
theorem un64 : Try.prog.underlying 64 = some (.struct (fsOf Try.prog 64)) := by rw [fsOf, Try.underlying64]
theorem rnew_c {w : World} :
    Gives Try.prog 64 #[] w fun v w' => ∃ pa, v = .pointer (some ⟨pa, 0, none⟩) ∧ Ar w' pa [docN] (fun b => w.heap.size ≤ b) ∧ Ext w w' := by
  refine Gives.of_W Try.call64 Try.func64 rfl Try.ntmps64 (by simp) ?_; intro Z hZ
  (repeat (first | (with_reducible first | (refine hK _ _ ?_; clear hK K) | refine (show ∀ σ' w', _ → K σ' w' from by assumption) _ _ ?_ | refine W_seq_k fun K hK => ?_ | refine W_block_k fun K hK => ?_ | refine W_skip ?_ | refine W_ret ?_) | ((first | ((with_reducible refine W_id ?_); refine W_reg (by decide) (by rfl) ?_) | (with_reducible first | refine W_cond ?_ | refine hZ _ _ ?_ | refine W_exit ?_ | refine Wo_id ?_)); repeat1' simp only [push_cast, Nat.reduceBEq, Nat.reduceLT, Nat.reduceEqDiff, reduceIte, reduceCtorEq, Nat.reduceMul, Nat.reduceAdd, Nat.reduceSub, Int.reduceEq, Int.reduceLT, Int.reduceLE, Int.reduceNeg, Int.reduceAdd, Int.reduceSub, Int.reduceMul, Nat.reduceLeDiff, Int.reduceToNat]) | ((repeat ((fail_if_success with_reducible refine hK _ _ ?_); clear hK K)); (with_reducible refine hK _ _ ?_); clear hK K)))
  refine build_struct Try.zeroValue30 un30 pl30 (cs := #[.int .i64 1, .string ⟨#[]⟩, .string ⟨#[]⟩, .int .i64 0, .slice none 0 0, .bool false, .int .i64 0, .int .i64 0, .slice none 0 0, .int .i64 (-1), .int .i64 (-1)]) (by rfl) ?_
  refine (rmade_c (m := ⟨{ zN with kind := 1, frm := -1, to := -1 }, .slice none 0 0, .slice none 0 0, none, none⟩) (SlAt.nil _ _).rd (by decide)).mono ?_
  rintro v w' ⟨m', rfl, h1, h2, h3, h4, h5, h6⟩
  ((repeat simp only [push_cast, Nat.reduceBEq, Nat.reduceLT, Nat.reduceEqDiff, reduceIte, reduceCtorEq, Nat.reduceMul, Nat.reduceAdd, Nat.reduceSub, Int.reduceEq, Int.reduceLT, Int.reduceLE, Int.reduceNeg, Int.reduceAdd, Int.reduceSub, Int.reduceMul, Nat.reduceLeDiff, Int.reduceToNat]); (repeat (first | (with_reducible first | (refine hK _ _ ?_; clear hK K) | refine (show ∀ σ' w', _ → K σ' w' from by assumption) _ _ ?_ | refine W_seq_k fun K hK => ?_ | refine W_block_k fun K hK => ?_ | refine W_skip ?_ | refine W_ret ?_) | ((first | ((with_reducible refine W_id ?_); refine W_reg (by decide) (by rfl) ?_) | (with_reducible first | refine W_cond ?_ | refine hZ _ _ ?_ | refine W_exit ?_ | refine Wo_id ?_)); repeat1' simp only [push_cast, Nat.reduceBEq, Nat.reduceLT, Nat.reduceEqDiff, reduceIte, reduceCtorEq, Nat.reduceMul, Nat.reduceAdd, Nat.reduceSub, Int.reduceEq, Int.reduceLT, Int.reduceLE, Int.reduceNeg, Int.reduceAdd, Int.reduceSub, Int.reduceMul, Nat.reduceLeDiff, Int.reduceToNat]) | ((repeat ((fail_if_success with_reducible refine hK _ _ ?_); clear hK K)); (with_reducible refine hK _ _ ?_); clear hK K))))
  refine bs_one sty39 (by decide) (by decide) (v := m'.val) rfl ?_
  ((repeat simp only [push_cast, Nat.reduceBEq, Nat.reduceLT, Nat.reduceEqDiff, reduceIte, reduceCtorEq, Nat.reduceMul, Nat.reduceAdd, Nat.reduceSub, Int.reduceEq, Int.reduceLT, Int.reduceLE, Int.reduceNeg, Int.reduceAdd, Int.reduceSub, Int.reduceMul, Nat.reduceLeDiff, Int.reduceToNat]); (repeat (first | (with_reducible first | (refine hK _ _ ?_; clear hK K) | refine (show ∀ σ' w', _ → K σ' w' from by assumption) _ _ ?_ | refine W_seq_k fun K hK => ?_ | refine W_block_k fun K hK => ?_ | refine W_skip ?_ | refine W_ret ?_) | ((first | ((with_reducible refine W_id ?_); refine W_reg (by decide) (by rfl) ?_) | (with_reducible first | refine W_cond ?_ | refine hZ _ _ ?_ | refine W_exit ?_ | refine Wo_id ?_)); repeat1' simp only [push_cast, Nat.reduceBEq, Nat.reduceLT, Nat.reduceEqDiff, reduceIte, reduceCtorEq, Nat.reduceMul, Nat.reduceAdd, Nat.reduceSub, Int.reduceEq, Int.reduceLT, Int.reduceLE, Int.reduceNeg, Int.reduceAdd, Int.reduceSub, Int.reduceMul, Nat.reduceLeDiff, Int.reduceToNat]) | ((repeat ((fail_if_success with_reducible refine hK _ _ ?_); clear hK K)); (with_reducible refine hK _ _ ?_); clear hK K))))
  refine build_struct Try.zeroValue64 un64 pl64 (cs := #[.slice (some ⟨w'.heap.size, 0, none⟩) 1 1]) (by rfl) ?_
  ((repeat simp only [push_cast, Nat.reduceBEq, Nat.reduceLT, Nat.reduceEqDiff, reduceIte, reduceCtorEq, Nat.reduceMul, Nat.reduceAdd, Nat.reduceSub, Int.reduceEq, Int.reduceLT, Int.reduceLE, Int.reduceNeg, Int.reduceAdd, Int.reduceSub, Int.reduceMul, Nat.reduceLeDiff, Int.reduceToNat, cell_h, can_h, cellO_cells, canO_cells, setO_cells, heap_set_h, heap_alloc_h, size_set_h, size_alloc_h, vcells_agg, succ_ne, ne_succ, List.setIfInBounds_toArray, List.set_cons_succ, List.set_cons_zero, setCells, drew_h]); (repeat (first | (with_reducible first | (refine hK _ _ ?_; clear hK K) | refine (show ∀ σ' w', _ → K σ' w' from by assumption) _ _ ?_ | refine W_seq_k fun K hK => ?_ | refine W_block_k fun K hK => ?_ | refine W_skip ?_ | refine W_ret ?_) | ((first | ((with_reducible refine W_id ?_); refine W_reg (by decide) (by rfl) ?_) | (with_reducible first | refine W_cond ?_ | refine hZ _ _ ?_ | refine W_exit ?_ | refine Wo_id ?_)); repeat1' simp only [push_cast, Nat.reduceBEq, Nat.reduceLT, Nat.reduceEqDiff, reduceIte, reduceCtorEq, Nat.reduceMul, Nat.reduceAdd, Nat.reduceSub, Int.reduceEq, Int.reduceLT, Int.reduceLE, Int.reduceNeg, Int.reduceAdd, Int.reduceSub, Int.reduceMul, Nat.reduceLeDiff, Int.reduceToNat, cell_h, can_h, cellO_cells, canO_cells, setO_cells, heap_set_h, heap_alloc_h, size_set_h, size_alloc_h, vcells_agg, succ_ne, ne_succ, List.setIfInBounds_toArray, List.set_cons_succ, List.set_cons_zero, setCells, drew_h]) | ((repeat ((fail_if_success with_reducible refine hK _ _ ?_); clear hK K)); (with_reducible refine hK _ _ ?_); clear hK K))))
  have hsz := h3.alike.size
  have hx : Ext w' ((w'.alloc (.cells m'.val.cells 30)).alloc (.cells #[.slice (some ⟨w'.heap.size, 0, none⟩) 1 1] 64)) := (Ext.alloc _ _).trans (Ext.alloc _ _)
  refine ⟨w'.heap.size + 1, rfl, ⟨w'.heap.size, 1, [m'], ⟨⟨64, ?_⟩, ?_, ?_, ?_⟩, ?_, ?_⟩, h3.trans hx⟩
  · rw [heap_alloc_h, if_pos (by simp)]; rfl
  · exact (SlAt.new w' 11 m'.val.cells 30 1 rfl).ext (Ext.alloc _ _)
  · intro m hm
    simp only [List.mem_singleton] at hm
    subst hm
    exact h2.upd hx fun _ _ h => h.elim
  · have hb : ∀ b ∈ m'.blks, b < w'.heap.size := fun b hb => h2.lt hb
    simp only [blocks, List.flatMap_cons, List.flatMap_nil, List.append_nil, List.nodup_cons, List.mem_cons, not_or]
    refine ⟨⟨by omega, fun hm => ?_⟩, fun hm => ?_, h5⟩
    · have := hb _ hm; omega
    · have := hb _ hm; omega
  · simp [h1, docN, bareN, zN]
  · intro b hb
    simp only [blocks, List.flatMap_cons, List.flatMap_nil, List.append_nil, List.mem_cons] at hb
    rcases hb with rfl | rfl | hb
    · omega
    · omega
    · exact h4 b hb
theorem radd_c {pa : Nat} {L : List Nd} {F : Nat → Prop} {w : World} (h : Ar w pa L F) (hb : L.length < 1000000) {m : Laid} (hm : RdAt w 2 m.av (attrCells m.nd.attrs)) (hmb : m.nd.attrs.length < 1000000) (hk3 : m.nd.kind = 3) (hnt : ¬ m.nd.name = tmpl) :
    Gives Try.prog 65 #[.pointer (some ⟨pa, 0, none⟩), m.val] w fun v w' => Ar w' pa (L ++ [bareN m.nd]) (fun b => F b ∨ w.heap.size ≤ b) ∧ Upd F w w' := by
  rw [Laid.val_eq]
  have hpa : pa < w.heap.size := by obtain ⟨bn, cap, M, hM, _, _⟩ := h; exact hM.lt (by simp [blocks])
  have hne : ¬ pa = w.heap.size := by omega
  have hk : kidK m.nd.kind = true := by rw [hk3]; rfl
  have hnt' : ¬ m.nd.name = ⟨#[116, 101, 109, 112, 108, 97, 116, 101]⟩ := hnt
  refine Gives.of_W Try.call65 Try.func65 rfl Try.ntmps65 (by simp) ?_; intro Z hZ
  (repeat (first | (with_reducible first | (refine hK _ _ ?_; clear hK K) | refine (show ∀ σ' w', _ → K σ' w' from by assumption) _ _ ?_ | refine W_seq_k fun K hK => ?_ | refine W_block_k fun K hK => ?_ | refine W_skip ?_ | refine W_ret ?_) | ((first | ((with_reducible refine W_id ?_); refine W_reg (by decide) (by rfl) ?_) | (with_reducible first | refine W_cond ?_ | refine hZ _ _ ?_ | refine W_exit ?_ | refine Wo_id ?_)); repeat1' simp only [push_cast, Nat.reduceBEq, Nat.reduceLT, Nat.reduceEqDiff, reduceIte, reduceCtorEq, Nat.reduceMul, Nat.reduceAdd, Nat.reduceSub, Int.reduceEq, Int.reduceLT, Int.reduceLE, Int.reduceNeg, Int.reduceAdd, Int.reduceSub, Int.reduceMul, Nat.reduceLeDiff, Int.reduceToNat, cell_h, can_h, cellO_cells, canO_cells, setO_cells, heap_set_h, heap_alloc_h, size_set_h, size_alloc_h, vcells_agg, succ_ne, ne_succ, List.setIfInBounds_toArray, List.set_cons_succ, List.set_cons_zero, setCells, drew_h]) | ((repeat ((fail_if_success with_reducible refine hK _ _ ?_); clear hK K)); (with_reducible refine hK _ _ ?_); clear hK K)))
  refine (rkid_c _).mono ?_
  rintro v w' ⟨rfl, rfl⟩
  have hx := h.ext (Ext.alloc w (.cells #[.int .i64 m.nd.kind, .string m.nd.name, .string m.nd.text, .int .i64 m.nd.space, m.av, .bool m.nd.dup, .int .i64 m.nd.parent, .int .i64 m.nd.content, m.kv, .int .i64 m.nd.frm, .int .i64 m.nd.to] 30))
  obtain ⟨bn, cap, M, hM, hML, hMF⟩ := h
  obtain ⟨t, ht⟩ := hM.hdr
  ((repeat simp only [push_cast, Nat.reduceBEq, Nat.reduceLT, Nat.reduceEqDiff, reduceIte, reduceCtorEq, Nat.reduceMul, Nat.reduceAdd, Nat.reduceSub, Int.reduceEq, Int.reduceLT, Int.reduceLE, Int.reduceNeg, Int.reduceAdd, Int.reduceSub, Int.reduceMul, Nat.reduceLeDiff, Int.reduceToNat, cell_h, can_h, cellO_cells, canO_cells, setO_cells, heap_set_h, heap_alloc_h, size_set_h, size_alloc_h, vcells_agg, succ_ne, ne_succ, List.setIfInBounds_toArray, List.set_cons_succ, List.set_cons_zero, setCells, drew_h, hk, hne, ht]); (repeat (first | (with_reducible first | (refine hK _ _ ?_; clear hK K) | refine (show ∀ σ' w', _ → K σ' w' from by assumption) _ _ ?_ | refine W_seq_k fun K hK => ?_ | refine W_block_k fun K hK => ?_ | refine W_skip ?_ | refine W_ret ?_) | ((first | ((with_reducible refine W_id ?_); refine W_reg (by decide) (by rfl) ?_) | (with_reducible first | refine W_cond ?_ | refine hZ _ _ ?_ | refine W_exit ?_ | refine Wo_id ?_)); repeat1' simp only [push_cast, Nat.reduceBEq, Nat.reduceLT, Nat.reduceEqDiff, reduceIte, reduceCtorEq, Nat.reduceMul, Nat.reduceAdd, Nat.reduceSub, Int.reduceEq, Int.reduceLT, Int.reduceLE, Int.reduceNeg, Int.reduceAdd, Int.reduceSub, Int.reduceMul, Nat.reduceLeDiff, Int.reduceToNat, cell_h, can_h, cellO_cells, canO_cells, setO_cells, heap_set_h, heap_alloc_h, size_set_h, size_alloc_h, vcells_agg, succ_ne, ne_succ, List.setIfInBounds_toArray, List.set_cons_succ, List.set_cons_zero, setCells, drew_h, hk, hne, ht]) | ((repeat ((fail_if_success with_reducible refine hK _ _ ?_); clear hK K)); (with_reducible refine hK _ _ ?_); clear hK K))))
  refine W_draw (.pas 0 (.pas 1 (.pas 2 (.pas 3 (.pas 4 (.pas 5 (.act 6 (.act 7 (.act 8 (.pas 9 (.pas 10 (.last 11)))))))))))) (fun b => b = pa ∨ b = w.heap.size) (by decide) mixed (by kernel_rfl) ?_
  (repeat (first | ((first | refine pas_plain rfl ?_ | refine pas_g rfl rfl ?_ | refine act_plain rfl ?_ | refine act_g rfl rfl ?_ | refine last_plain rfl ?_ | refine tail_plain rfl ?_ | refine tail_g rfl rfl ?_); (repeat simp only [push_cast, Nat.reduceBEq, Nat.reduceLT, Nat.reduceEqDiff, reduceIte, reduceCtorEq, Nat.reduceMul, Nat.reduceAdd, Nat.reduceSub, Int.reduceEq, Int.reduceLT, Int.reduceLE, Int.reduceNeg, Int.reduceAdd, Int.reduceSub, Int.reduceMul, Nat.reduceLeDiff, Int.reduceToNat, cell_h, can_h, cellO_cells, canO_cells, setO_cells, heap_set_h, heap_alloc_h, size_set_h, size_alloc_h, vcells_agg, succ_ne, ne_succ, List.setIfInBounds_toArray, List.set_cons_succ, List.set_cons_zero, setCells, drew_h, true_or, or_true, hne, ht])) | (refine tail_fin ?_) | (refine sch_fin ?_)))
  have hx1 : Ext w (w.alloc (.cells #[.int .i64 m.nd.kind, .string m.nd.name, .string m.nd.text, .int .i64 m.nd.space, m.av, .bool m.nd.dup, .int .i64 m.nd.parent, .int .i64 m.nd.content, m.kv, .int .i64 m.nd.frm, .int .i64 m.nd.to] 30)).drew := (Ext.alloc _ _).trans (Ext.drew _)
  refine (rmade_c (m := m) (hm.ext hx1) hmb).mono ?_
  rintro v w2 ⟨m', rfl, h1, h2, h3, h4, h5, h6⟩
  refine ⟨kept_upd h3 fun b hb => ⟨by simp only [drew_size, size_alloc_h]; omega, id⟩, ?_⟩
  (repeat (first | ((first | refine pas_plain rfl ?_ | refine pas_g rfl rfl ?_ | refine act_plain rfl ?_ | refine act_g rfl rfl ?_ | refine last_plain rfl ?_ | refine tail_plain rfl ?_ | refine tail_g rfl rfl ?_); (repeat simp only [push_cast, Nat.reduceBEq, Nat.reduceLT, Nat.reduceEqDiff, reduceIte, reduceCtorEq, Nat.reduceMul, Nat.reduceAdd, Nat.reduceSub, Int.reduceEq, Int.reduceLT, Int.reduceLE, Int.reduceNeg, Int.reduceAdd, Int.reduceSub, Int.reduceMul, Nat.reduceLeDiff, Int.reduceToNat, cell_h, can_h, cellO_cells, canO_cells, setO_cells, heap_set_h, heap_alloc_h, size_set_h, size_alloc_h, vcells_agg, succ_ne, ne_succ, List.setIfInBounds_toArray, List.set_cons_succ, List.set_cons_zero, setCells, drew_h, true_or, or_true, hne, ht])) | (refine tail_fin ?_) | (refine sch_fin ?_)))
  refine bs_one sty39 (by decide) (by decide) (v := m'.val) rfl ?_
  refine ⟨kept_upd (Ext.alloc _ _) fun b hb => ⟨?_, id⟩, ?_⟩
  · have := h3.alike.size
    simp only [drew_size, size_alloc_h] at this; omega
  (repeat (first | ((first | refine pas_plain rfl ?_ | refine pas_g rfl rfl ?_ | refine act_plain rfl ?_ | refine act_g rfl rfl ?_ | refine last_plain rfl ?_ | refine tail_plain rfl ?_ | refine tail_g rfl rfl ?_); (repeat simp only [push_cast, Nat.reduceBEq, Nat.reduceLT, Nat.reduceEqDiff, reduceIte, reduceCtorEq, Nat.reduceMul, Nat.reduceAdd, Nat.reduceSub, Int.reduceEq, Int.reduceLT, Int.reduceLE, Int.reduceNeg, Int.reduceAdd, Int.reduceSub, Int.reduceMul, Nat.reduceLeDiff, Int.reduceToNat, cell_h, can_h, cellO_cells, canO_cells, setO_cells, heap_set_h, heap_alloc_h, size_set_h, size_alloc_h, vcells_agg, succ_ne, ne_succ, List.setIfInBounds_toArray, List.set_cons_succ, List.set_cons_zero, setCells, drew_h, true_or, or_true, hne, ht])) | (refine tail_fin ?_) | (refine sch_fin ?_)))
  have hx2 : Ext w (w2.alloc (.cells m'.val.cells 30)) := hx1.trans (h3.trans (Ext.alloc _ _))
  have hok2 : m'.ok (w2.alloc (.cells m'.val.cells 30)) := h2.upd (Ext.alloc _ _) fun _ _ h => h.elim
  have hmlen : M.length = L.length := by rw [← hML]; simp
  refine hM.app sty39 hx2 hok2 (SlAt.new w2 11 m'.val.cells 30 1 rfl) (by omega) ?_
  intro bn' cap' w3 g1 g2 g3
  have hne2 : ¬ bn = w.heap.size := by have := hM.lt (b := bn) (by simp [blocks]); omega
  have hnp : ¬ pa = bn := by have := hM.own; simp [blocks] at this; exact this.1.1
  have hsz2 := h3.alike.size
  simp only [drew_size, size_alloc_h] at hsz2
  refine ⟨kept_upd g2 fun b hb => ⟨?_, ?_⟩, ?_⟩
  · simp only [size_alloc_h]; omega
  · rcases hb with rfl | rfl <;> omega
  (repeat (first | ((first | refine pas_plain rfl ?_ | refine pas_g rfl rfl ?_ | refine act_plain rfl ?_ | refine act_g rfl rfl ?_ | refine last_plain rfl ?_ | refine tail_plain rfl ?_ | refine tail_g rfl rfl ?_); (repeat simp only [push_cast, Nat.reduceBEq, Nat.reduceLT, Nat.reduceEqDiff, reduceIte, reduceCtorEq, Nat.reduceMul, Nat.reduceAdd, Nat.reduceSub, Int.reduceEq, Int.reduceLT, Int.reduceLE, Int.reduceNeg, Int.reduceAdd, Int.reduceSub, Int.reduceMul, Nat.reduceLeDiff, Int.reduceToNat, cell_h, can_h, cellO_cells, canO_cells, setO_cells, heap_set_h, heap_alloc_h, size_set_h, size_alloc_h, vcells_agg, succ_ne, ne_succ, List.setIfInBounds_toArray, List.set_cons_succ, List.set_cons_zero, setCells, drew_h, true_or, or_true, hne, ht])) | (refine tail_fin ?_) | (refine sch_fin ?_)))
  have hp3 : w3.heap[pa]? = some (.cells #[.slice (some ⟨bn, 0, none⟩) M.length cap] t (0, 0)) :=
    (g2.same pa (by simp only [size_alloc_h]; omega) hnp).trans ((hx2.heap hpa).trans ht)
  have hb3 : w3.heap[w.heap.size]? = some (.cells #[.int .i64 m.nd.kind, .string m.nd.name, .string m.nd.text, .int .i64 m.nd.space, m.av, .bool m.nd.dup, .int .i64 m.nd.parent, .int .i64 m.nd.content, m.kv, .int .i64 m.nd.frm, .int .i64 m.nd.to] 30 (0, 0)) := by
    refine (g2.same _ (by simp only [size_alloc_h]; omega) (fun e => hne2 e.symm)).trans ?_
    rw [heap_alloc_h, if_neg (by omega), h3.heap (by simp only [drew_size, size_alloc_h]; omega), drew_h, heap_alloc_h, if_pos rfl]
  (repeat simp only [push_cast, Nat.reduceBEq, Nat.reduceLT, Nat.reduceEqDiff, reduceIte, reduceCtorEq, Nat.reduceMul, Nat.reduceAdd, Nat.reduceSub, Int.reduceEq, Int.reduceLT, Int.reduceLE, Int.reduceNeg, Int.reduceAdd, Int.reduceSub, Int.reduceMul, Nat.reduceLeDiff, Int.reduceToNat, cell_h, can_h, cellO_cells, canO_cells, setO_cells, heap_set_h, heap_alloc_h, size_set_h, size_alloc_h, vcells_agg, succ_ne, ne_succ, List.setIfInBounds_toArray, List.set_cons_succ, List.set_cons_zero, setCells, drew_h, hp3])
  have hA := hM.push hx2 m' hok2 (fun b hb => by have := h4 b hb; simp only [drew_size, size_alloc_h] at this; omega) h5 g1 g2 g3
  have hu4 : Upd F w (w3.setCell ⟨pa, 0, none⟩ (.slice (some ⟨bn', 0, none⟩) (M.length + 1) cap')) :=
    (Upd.trans (hx2.upd (F := F)) g2 fun i hi e => by subst e; exact hMF _ (by simp [blocks])).put (hMF _ (by simp [blocks]))
  have hb4 : (w3.setCell ⟨pa, 0, none⟩ (.slice (some ⟨bn', 0, none⟩) (M.length + 1) cap')).heap[w.heap.size]? = some (.cells #[.int .i64 m.nd.kind, .string m.nd.name, .string m.nd.text, .int .i64 m.nd.space, m.av, .bool m.nd.dup, .int .i64 m.nd.parent, .int .i64 m.nd.content, m.kv, .int .i64 m.nd.frm, .int .i64 m.nd.to] 30 (0, 0)) := by
    rw [heap_set_h, if_neg (by omega), hb3]
  generalize w3.setCell ⟨pa, 0, none⟩ (.slice (some ⟨bn', 0, none⟩) (M.length + 1) cap') = w4 at *
  have hres : Ar w4 pa (L ++ [bareN m.nd]) (fun b => F b ∨ w.heap.size ≤ b) ∧ Upd F w w4 := by
    refine ⟨⟨bn', cap', M ++ [m'], hA, by simp [hML, h1], fun b hb => ?_⟩, hu4⟩
    simp only [blocks, List.flatMap_append, List.flatMap_cons, List.flatMap_nil, List.append_nil, List.mem_cons, List.mem_append] at hb
    rcases hb with rfl | rfl | hb | hb
    · exact .inl (hMF _ (by simp [blocks]))
    · rcases g3 with rfl | g3
      · exact .inl (hMF _ (by simp [blocks]))
      · simp only [size_alloc_h] at g3; exact .inr (by omega)
    · exact .inl (hMF _ (by simp only [blocks, List.mem_cons]; exact .inr (.inr hb)))
    · have := h4 b hb
      simp only [drew_size, size_alloc_h] at this; exact .inr (by omega)
  ((repeat simp only [push_cast, Nat.reduceBEq, Nat.reduceLT, Nat.reduceEqDiff, reduceIte, reduceCtorEq, Nat.reduceMul, Nat.reduceAdd, Nat.reduceSub, Int.reduceEq, Int.reduceLT, Int.reduceLE, Int.reduceNeg, Int.reduceAdd, Int.reduceSub, Int.reduceMul, Nat.reduceLeDiff, Int.reduceToNat, cell_h, can_h, cellO_cells, canO_cells, setO_cells, heap_set_h, heap_alloc_h, size_set_h, size_alloc_h, vcells_agg, succ_ne, ne_succ, List.setIfInBounds_toArray, List.set_cons_succ, List.set_cons_zero, setCells, drew_h, hb4, hk3, hnt']); (repeat (first | (with_reducible first | (refine hK _ _ ?_; clear hK K) | refine (show ∀ σ' w', _ → K σ' w' from by assumption) _ _ ?_ | refine W_seq_k fun K hK => ?_ | refine W_block_k fun K hK => ?_ | refine W_skip ?_ | refine W_ret ?_) | ((first | ((with_reducible refine W_id ?_); refine W_reg (by decide) (by rfl) ?_) | (with_reducible first | refine W_cond ?_ | refine hZ _ _ ?_ | refine W_exit ?_ | refine Wo_id ?_)); repeat1' simp only [push_cast, Nat.reduceBEq, Nat.reduceLT, Nat.reduceEqDiff, reduceIte, reduceCtorEq, Nat.reduceMul, Nat.reduceAdd, Nat.reduceSub, Int.reduceEq, Int.reduceLT, Int.reduceLE, Int.reduceNeg, Int.reduceAdd, Int.reduceSub, Int.reduceMul, Nat.reduceLeDiff, Int.reduceToNat, cell_h, can_h, cellO_cells, canO_cells, setO_cells, heap_set_h, heap_alloc_h, size_set_h, size_alloc_h, vcells_agg, succ_ne, ne_succ, List.setIfInBounds_toArray, List.set_cons_succ, List.set_cons_zero, setCells, drew_h, hb4, hk3, hnt']) | ((repeat ((fail_if_success with_reducible refine hK _ _ ?_); clear hK K)); (with_reducible refine hK _ _ ?_); clear hK K))))
  exact hres
end Go.Proofs.Ytkafpameheohdaa
end
