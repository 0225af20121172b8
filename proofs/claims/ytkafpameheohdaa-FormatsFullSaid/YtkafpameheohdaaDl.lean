/- slices.Delete, of one number. -/
import Derived.Test.YtkafpameheohdaaHd
import Derived.Test.YtkafpameheohdaaBi
set_option linter.unusedSimpArgs false
set_option linter.unusedVariables false
namespace Go.Vk
theorem SlAt.beyond {w : World} {es b o n c : Nat} {cells : List Value} {bo : Option Nat} (h : SlAt w es (.slice (some ⟨b, o, none⟩) n c) cells bo) {q : Nat} (hq : o + cells.length ≤ q) (xs : List Value) :
    SlAt (setCells w ⟨b, q, none⟩ xs 0) es (.slice (some ⟨b, o, none⟩) n c) cells bo := by
  obtain ⟨g1, g3, g4, cs, t, g5, g6, g7⟩ := h.inv
  refine .inr ⟨b, o, n, c, ovw cs (q + 0) xs, t, g1, rfl, g3, g4, g5.sets xs q 0, by rw [ovw_size]; exact g6, fun i hi => ?_⟩
  rw [ovw_out _ _ _ _ (.inl (by omega))]; exact g7 i hi
theorem eraseIdx_eq (l : List Int) (k : Nat) : l.eraseIdx k = l.take k ++ l.drop (k + 1) := List.eraseIdx_eq_take_drop_succ l k
theorem SlAt.canAt {w : World} {b o n c : Nat} {cells : List Value} {bo : Option Nat} (h : SlAt w 1 (.slice (some ⟨b, o, none⟩) n c) cells bo) {q : Nat} (hq : q < c) : canStore w ⟨b, o + q, none⟩ := by
  obtain ⟨g1, g3, g4, cs, t, g5, g6, g7⟩ := h.inv
  exact g5.can (by omega)
theorem intCells_part (l : List Int) (a b : Nat) : ((intCells l).drop a).take b = intCells ((l.drop a).take b) := by simp [intCells, List.map_take, List.map_drop]
end Go.Vk
namespace Go.Proofs.Ytkafpameheohdaa
open Go.Vk
set_option maxHeartbeats 40000000
theorem delete_c {w : World} {v : Value} {l : List Int} {bo : Option Nat} (h : SlAt w 1 v (intCells l) bo) (hl : l.length < 100000) (k : Nat) (hk : k < l.length) :
    Gives Try.prog 71 #[v, .int .i64 (k : Int), .int .i64 ((k : Int) + 1)] w fun u w' => SlAt w' 1 u (intCells (l.eraseIdx k)) bo ∧ Upd (fun b => bo = some b) w w' := by
  obtain ⟨b, o, n, c, rfl, hbo⟩ := h.some_of (kids_ne hk)
  obtain ⟨_, g3, g4, _⟩ := h.inv
  rw [intCells_length, Nat.mul_one] at g4
  obtain ⟨N, hN⟩ : ∃ N, n = N + 1 := ⟨n - 1, by omega⟩
  subst hN
  have s1 : (0 : Int) ≤ k := by omega
  have s2 : (k : Int) ≤ c := by omega
  have s3 : (k : Int) + 1 ≤ (N : Int) + 1 := by omega
  have s4 : (N : Int) + 1 ≤ c := by omega
  have s5 : (0 : Int) ≤ (k : Int) + 1 := by omega
  have s7 : ((k : Int) + 1).toNat = k + 1 := by omega
  have s8 : (k : Int) + 1 ≤ c := by omega
  have s9 : (k : Int) ≤ (k : Int) + 1 := by omega
  have s10 : ((k : Int) = (k : Int) + 1) = False := eq_false (by omega)
  have s11 : (0 : Int) ≤ (N : Int) + 1 := by omega
  have s12 : ((N : Int) + 1).toNat = N + 1 := by omega
  have s13 : (k : Int) ≤ (N : Int) + 1 := by omega
  refine Gives.of_W Try.call71 Try.func71 rfl Try.ntmps71 (by simp) ?_; intro Z hZ
  (repeat (first | (with_reducible first | (refine hK _ _ ?_; clear hK K) | refine (show ∀ σ' w', _ → K σ' w' from by assumption) _ _ ?_ | refine W_seq_k fun K hK => ?_ | refine W_block_k fun K hK => ?_ | refine W_skip ?_ | refine W_ret ?_) | ((first | ((with_reducible refine W_id ?_); refine W_reg (by decide) (by rfl) ?_) | (with_reducible first | refine W_cond ?_ | refine hZ _ _ ?_ | refine W_exit ?_ | refine Wo_id ?_)); repeat1' simp only [push_cast, Nat.reduceBEq, Nat.reduceLT, Nat.reduceEqDiff, reduceIte, reduceCtorEq, Nat.reduceMul, Nat.reduceAdd, Nat.reduceSub, Int.reduceEq, Int.reduceLT, Int.reduceLE, Int.reduceNeg, Int.reduceAdd, Int.reduceSub, Int.reduceMul, Nat.reduceLeDiff, Int.reduceToNat, s1, s2, s3, s4, s5, s7, s8, s9, s10, s11, s12, s13, Int.le_refl]) | ((repeat ((fail_if_success with_reducible refine hK _ _ ?_); clear hK K)); (with_reducible refine hK _ _ ?_); clear hK K)))
  refine W_draw (.pas 0 (.pas 1 (.pas 2 (.pas 3 (.pas 4 (.pas 5 (.tail [6, 7]))))))) (fun _ => False) (by decide) mixed (by kernel_rfl) ?_
  (repeat (first | ((first | refine pas_plain rfl ?_ | refine pas_g rfl rfl ?_ | refine act_plain rfl ?_ | refine act_g rfl rfl ?_ | refine last_plain rfl ?_ | refine tail_plain rfl ?_ | refine tail_g rfl rfl ?_); (repeat simp only [push_cast, Nat.reduceBEq, Nat.reduceLT, Nat.reduceEqDiff, reduceIte, reduceCtorEq, Nat.reduceMul, Nat.reduceAdd, Nat.reduceSub, Int.reduceEq, Int.reduceLT, Int.reduceLE, Int.reduceNeg, Int.reduceAdd, Int.reduceSub, Int.reduceMul, Nat.reduceLeDiff, Int.reduceToNat, s1, s2, s3, s4, s5, s7, s8, s9, s10, s11, s12, s13, Int.le_refl])) | (refine tail_fin ?_) | (refine sch_fin ?_)))
  have hd := h.ext (Ext.drew w)
  have x1 := hd.part1 (l := 0) (k := k) (m := c) (by omega) (by omega) (by omega) (by omega)
  have x2 := hd.part1 (l := k + 1) (k := N + 1) (m := c) (by omega) (by omega) (by omega) (by omega)
  rw [intCells_part] at x1 x2
  refine app_in sty28 sty28.und (by decide) (m := N + 1 - (k + 1)) x1 x2.rd (intCells_one _) (by rw [intCells_length, intCells_length]; simp; omega) (by rw [intCells_length]; simp; omega) (by omega) ?_
  intro w1 g1 g2
  have eA : (if c = 0 then some (⟨b, o, none⟩ : Addr) else Option.map (fun x : Addr => x.add 0) (some ⟨b, o, none⟩)) = some ⟨b, o, none⟩ := by rw [if_neg (by omega)]; rfl
  have eN : k - 0 + (N + 1 - (k + 1)) = N := by omega
  rw [eA, eN, Nat.sub_zero, ← intCells_append] at g1
  rw [eA, eN, Nat.sub_zero, Nat.sub_zero]
  have eL : (l.drop 0).take k ++ (l.drop (k + 1)).take (N + 1 - (k + 1)) = l.eraseIdx k := by
    rw [eraseIdx_eq, List.drop_zero, List.take_of_length_le (l := l.drop (k + 1)) (by simp; omega)]
  rw [show k - 0 = k by omega, eL] at g1
  have s20 : (0 : Int) ≤ (N : Int) := by omega
  have s21 : (N : Int) ≤ (N : Int) + 1 := by omega
  have s22 : (c = N) = False := eq_false (by omega)
  have s23 : N + 1 - N = 1 := by omega
  (repeat (first | ((first | refine pas_plain rfl ?_ | refine pas_g rfl rfl ?_ | refine act_plain rfl ?_ | refine act_g rfl rfl ?_ | refine last_plain rfl ?_ | refine tail_plain rfl ?_ | refine tail_g rfl rfl ?_); (repeat simp only [push_cast, Nat.reduceBEq, Nat.reduceLT, Nat.reduceEqDiff, reduceIte, reduceCtorEq, Nat.reduceMul, Nat.reduceAdd, Nat.reduceSub, Int.reduceEq, Int.reduceLT, Int.reduceLE, Int.reduceNeg, Int.reduceAdd, Int.reduceSub, Int.reduceMul, Nat.reduceLeDiff, Int.reduceToNat])) | (refine tail_fin ?_) | (refine sch_fin ?_)))
  ((repeat simp only [push_cast, Nat.reduceBEq, Nat.reduceLT, Nat.reduceEqDiff, reduceIte, reduceCtorEq, Nat.reduceMul, Nat.reduceAdd, Nat.reduceSub, Int.reduceEq, Int.reduceLT, Int.reduceLE, Int.reduceNeg, Int.reduceAdd, Int.reduceSub, Int.reduceMul, Nat.reduceLeDiff, Int.reduceToNat, s4, s11, s12, s20, s21, s22, s23]); (repeat (first | (with_reducible first | (refine hK _ _ ?_; clear hK K) | refine (show ∀ σ' w', _ → K σ' w' from by assumption) _ _ ?_ | refine W_seq_k fun K hK => ?_ | refine W_block_k fun K hK => ?_ | refine W_skip ?_ | refine W_ret ?_) | ((first | ((with_reducible refine W_id ?_); refine W_reg (by decide) (by rfl) ?_) | (with_reducible first | refine W_cond ?_ | refine hZ _ _ ?_ | refine W_exit ?_ | refine Wo_id ?_)); repeat1' simp only [push_cast, Nat.reduceBEq, Nat.reduceLT, Nat.reduceEqDiff, reduceIte, reduceCtorEq, Nat.reduceMul, Nat.reduceAdd, Nat.reduceSub, Int.reduceEq, Int.reduceLT, Int.reduceLE, Int.reduceNeg, Int.reduceAdd, Int.reduceSub, Int.reduceMul, Nat.reduceLeDiff, Int.reduceToNat, s4, s11, s12, s20, s21, s22, s23]) | ((repeat ((fail_if_success with_reducible refine hK _ _ ?_); clear hK K)); (with_reducible refine hK _ _ ?_); clear hK K))))
  rw [Option.map_some, add_mk]
  refine clear_part sty28.und (z := .int .i64 0) (fun w => by simp [Try.zeroValue3, Sem.run]) rfl rfl (fun j hj => ?_) ?_
  · have := g1.canAt (q := N + j) (by omega)
    rw [Nat.add_assoc]; exact this
  have hb1 : bo = some b := hbo
  have hlen : (intCells (l.eraseIdx k)).length = N := by rw [intCells_length, List.length_eraseIdx, if_pos hk]; omega
  have g3 := g1.beyond (q := o + N) (by omega) (List.replicate 1 (.int .i64 0))
  have g4 : Upd (fun b => bo = some b) w (setCells w1 ⟨b, o + N, none⟩ (List.replicate 1 (.int .i64 0)) 0) :=
    Upd.trans ((Ext.drew w).upd.trans g2 fun _ _ h => h) (Upd.setCells (F := fun b => bo = some b) (a := ⟨b, o + N, none⟩) w1 hb1 _ 0) fun _ _ h => h
  ((repeat simp only [push_cast, Nat.reduceBEq, Nat.reduceLT, Nat.reduceEqDiff, reduceIte, reduceCtorEq, Nat.reduceMul, Nat.reduceAdd, Nat.reduceSub, Int.reduceEq, Int.reduceLT, Int.reduceLE, Int.reduceNeg, Int.reduceAdd, Int.reduceSub, Int.reduceMul, Nat.reduceLeDiff, Int.reduceToNat]); (repeat (first | (with_reducible first | (refine hK _ _ ?_; clear hK K) | refine (show ∀ σ' w', _ → K σ' w' from by assumption) _ _ ?_ | refine W_seq_k fun K hK => ?_ | refine W_block_k fun K hK => ?_ | refine W_skip ?_ | refine W_ret ?_) | ((first | ((with_reducible refine W_id ?_); refine W_reg (by decide) (by rfl) ?_) | (with_reducible first | refine W_cond ?_ | refine hZ _ _ ?_ | refine W_exit ?_ | refine Wo_id ?_)); repeat1' simp only [push_cast, Nat.reduceBEq, Nat.reduceLT, Nat.reduceEqDiff, reduceIte, reduceCtorEq, Nat.reduceMul, Nat.reduceAdd, Nat.reduceSub, Int.reduceEq, Int.reduceLT, Int.reduceLE, Int.reduceNeg, Int.reduceAdd, Int.reduceSub, Int.reduceMul, Nat.reduceLeDiff, Int.reduceToNat]) | ((repeat ((fail_if_success with_reducible refine hK _ _ ?_); clear hK K)); (with_reducible refine hK _ _ ?_); clear hK K))))
  exact ⟨g3, g4⟩
end Go.Proofs.Ytkafpameheohdaa
