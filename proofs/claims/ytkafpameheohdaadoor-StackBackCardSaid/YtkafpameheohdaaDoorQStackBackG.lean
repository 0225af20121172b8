/- What the proof leans on, part 7 of 7. -/
import Derived.Test.YtkafpameheohdaaDoorQStackBackF
section
set_option linter.unusedSimpArgs false
set_option linter.unusedVariables false
namespace Go.Proofs.YtkafpameheohdaaDoor
open Go Go.Vk
set_option maxHeartbeats 40000000
theorem filled_c {w : World} {v1 v2 : Value} {l1 l2 : List Nat} (h1 : RdAt w 1 v1 (u8Cells l1)) (h2 : RdAt w 1 v2 (u8Cells l2)) (hl1 : l1.length ≤ 60) (b1 : ∀ c ∈ l1, c < 256) (b2 : ∀ c ∈ l2, c < 256) (hl2 : l2.length ≤ 60) :
    Gives Tryd.prog 10 #[.agg #[v1, v2]] w fun v w' => ∃ ps pa vl Q bo, v = .tuple #[.pointer (some ⟨ps, 0, none⟩), vl] ∧ StAt w w' Q ps pa (kitL l1 l2) (elS (kitL l1 l2) (kitL l1 l2).length) ∧ SlAt w' 1 vl (intCells ((elS (kitL l1 l2) (kitL l1 l2).length).map OpS.node)) bo ∧ ∀ b, bo = some b → Q b ∧ w.heap.size ≤ b := by
  have hlen := kitL_len l1 l2
  have hge := kitL_ge l1 l2
  have hok := kitL_ok l1 l2
  refine Gives.of_W Tryd.call10 Tryd.func10 rfl Tryd.ntmps10 (by simp) ?_; intro Z hZ
  (repeat (first | (with_reducible first | (refine hK _ _ ?_; clear hK K) | refine (show ∀ σ' w', _ → K σ' w' from by assumption) _ _ ?_ | refine W_seq_k fun K hK => ?_ | refine W_block_k fun K hK => ?_ | refine W_skip ?_ | refine W_ret ?_) | ((first | ((with_reducible refine W_id ?_); refine W_reg (by decide) (by rfl) ?_) | (with_reducible first | refine W_cond ?_ | refine hZ _ _ ?_ | refine W_exit ?_ | refine Wo_id ?_)); repeat1' simp only [push_cast, Nat.reduceBEq, Nat.reduceLT, Nat.reduceEqDiff, reduceIte, reduceCtorEq, Nat.reduceMul, Nat.reduceAdd, Nat.reduceSub, Int.reduceEq, Int.reduceLT, Int.reduceLE, Int.reduceNeg, Int.reduceAdd, Int.reduceSub, Int.reduceMul, Nat.reduceLeDiff, Int.reduceToNat, vcells_agg]) | ((repeat ((fail_if_success with_reducible refine hK _ _ ?_); clear hK K)); (with_reducible refine hK _ _ ?_); clear hK K)))
  have hx1 := Ext.alloc w (.cells #[v1, v2] 24)
  have z1 : (w.alloc (.cells #[v1, v2] 24)).heap[w.heap.size]? = some (.cells #[v1, v2] 24 (0, 0)) := by rw [heap_alloc_h, if_pos rfl]
  generalize w.alloc (.cells #[v1, v2] 24) = w1 at *
  ((repeat simp only [push_cast, Nat.reduceBEq, Nat.reduceLT, Nat.reduceEqDiff, reduceIte, reduceCtorEq, Nat.reduceMul, Nat.reduceAdd, Nat.reduceSub, Int.reduceEq, Int.reduceLT, Int.reduceLE, Int.reduceNeg, Int.reduceAdd, Int.reduceSub, Int.reduceMul, Nat.reduceLeDiff, Int.reduceToNat, cell_h, cellO_cells, z1]); (repeat (first | (with_reducible first | (refine hK _ _ ?_; clear hK K) | refine (show ∀ σ' w', _ → K σ' w' from by assumption) _ _ ?_ | refine W_seq_k fun K hK => ?_ | refine W_block_k fun K hK => ?_ | refine W_skip ?_ | refine W_ret ?_) | ((first | ((with_reducible refine W_id ?_); refine W_reg (by decide) (by rfl) ?_) | (with_reducible first | refine W_cond ?_ | refine hZ _ _ ?_ | refine W_exit ?_ | refine Wo_id ?_)); repeat1' simp only [push_cast, Nat.reduceBEq, Nat.reduceLT, Nat.reduceEqDiff, reduceIte, reduceCtorEq, Nat.reduceMul, Nat.reduceAdd, Nat.reduceSub, Int.reduceEq, Int.reduceLT, Int.reduceLE, Int.reduceNeg, Int.reduceAdd, Int.reduceSub, Int.reduceMul, Nat.reduceLeDiff, Int.reduceToNat, cell_h, cellO_cells, z1]) | ((repeat ((fail_if_success with_reducible refine hK _ _ ?_); clear hK K)); (with_reducible refine hK _ _ ?_); clear hK K))))
  refine (made15_c (h1.ext hx1) (h2.ext hx1) (by omega) b1 b2 (by omega)).mono ?_
  rintro v w2 ⟨pa, pb, rfl, F, hA, _, _, _⟩
  have hA2 := hA.base (P' := F) hx1 fun b hb => .inl (.inl hb)
  clear hA
  ((repeat simp only [push_cast, Nat.reduceBEq, Nat.reduceLT, Nat.reduceEqDiff, reduceIte, reduceCtorEq, Nat.reduceMul, Nat.reduceAdd, Nat.reduceSub, Int.reduceEq, Int.reduceLT, Int.reduceLE, Int.reduceNeg, Int.reduceAdd, Int.reduceSub, Int.reduceMul, Nat.reduceLeDiff, Int.reduceToNat, ext0, ext1]); (repeat (first | (with_reducible first | (refine hK _ _ ?_; clear hK K) | refine (show ∀ σ' w', _ → K σ' w' from by assumption) _ _ ?_ | refine W_seq_k fun K hK => ?_ | refine W_block_k fun K hK => ?_ | refine W_skip ?_ | refine W_ret ?_) | ((first | ((with_reducible refine W_id ?_); refine W_reg (by decide) (by rfl) ?_) | (with_reducible first | refine W_cond ?_ | refine hZ _ _ ?_ | refine W_exit ?_ | refine Wo_id ?_)); repeat1' simp only [push_cast, Nat.reduceBEq, Nat.reduceLT, Nat.reduceEqDiff, reduceIte, reduceCtorEq, Nat.reduceMul, Nat.reduceAdd, Nat.reduceSub, Int.reduceEq, Int.reduceLT, Int.reduceLE, Int.reduceNeg, Int.reduceAdd, Int.reduceSub, Int.reduceMul, Nat.reduceLeDiff, Int.reduceToNat, ext0, ext1]) | ((repeat ((fail_if_success with_reducible refine hK _ _ ?_); clear hK K)); (with_reducible refine hK _ _ ?_); clear hK K))))
  refine (snew_c hA2 (fun e => by rw [e] at hge; exact absurd hge (by decide))).mono ?_
  rintro v w3 ⟨ps, rfl, hS3, hx3⟩
  ((repeat simp only [push_cast, Nat.reduceBEq, Nat.reduceLT, Nat.reduceEqDiff, reduceIte, reduceCtorEq, Nat.reduceMul, Nat.reduceAdd, Nat.reduceSub, Int.reduceEq, Int.reduceLT, Int.reduceLE, Int.reduceNeg, Int.reduceAdd, Int.reduceSub, Int.reduceMul, Nat.reduceLeDiff, Int.reduceToNat]); (repeat (first | (with_reducible first | (refine hK _ _ ?_; clear hK K) | refine (show ∀ σ' w', _ → K σ' w' from by assumption) _ _ ?_ | refine W_seq_k fun K hK => ?_ | refine W_block_k fun K hK => ?_ | refine W_skip ?_ | refine W_ret ?_) | ((first | ((with_reducible refine W_id ?_); refine W_reg (by decide) (by rfl) ?_) | (with_reducible first | refine W_cond ?_ | refine hZ _ _ ?_ | refine W_exit ?_ | refine Wo_id ?_)); repeat1' simp only [push_cast, Nat.reduceBEq, Nat.reduceLT, Nat.reduceEqDiff, reduceIte, reduceCtorEq, Nat.reduceMul, Nat.reduceAdd, Nat.reduceSub, Int.reduceEq, Int.reduceLT, Int.reduceLE, Int.reduceNeg, Int.reduceAdd, Int.reduceSub, Int.reduceMul, Nat.reduceLeDiff, Int.reduceToNat]) | ((repeat ((fail_if_success with_reducible refine hK _ _ ?_); clear hK K)); (with_reducible refine hK _ _ ?_); clear hK K))))
  generalize hL : kitL l1 l2 = L at *
  have hat : ∀ n ∈ L, n.attrs.length < 1000000 := fun n hn => (hok n hn).2
  refine W_loop (S := Nat × Value) (fun z => [(1, .pointer (some ⟨w.heap.size, 0, none⟩)), (4, .pointer (some ⟨pa, 0, none⟩)), (5, .pointer (some ⟨pb, 0, none⟩)), (6, .pointer (some ⟨ps, 0, none⟩)), (7, z.2), (8, .int .i64 (z.1 : Int))])
    (fun z w4 => 3 ≤ z.1 ∧ z.1 ≤ L.length ∧ ∃ bo, StAt w w4 (fun b => F b ∨ bo = some b) ps pa L (elS L z.1) ∧ SlAt w4 1 z.2 (intCells ((elS L z.1).map OpS.node)) bo ∧ ∀ b, bo = some b → w.heap.size ≤ b)
    (fun z => L.length - z.1) (3, .slice none 0 0) ?_ ?_ ?_
  · (repeat simp only [push_cast, Nat.reduceBEq, Nat.reduceLT, Nat.reduceEqDiff, reduceIte, reduceCtorEq, Nat.reduceMul, Nat.reduceAdd, Nat.reduceSub, Int.reduceEq, Int.reduceLT, Int.reduceLE, Int.reduceNeg, Int.reduceAdd, Int.reduceSub, Int.reduceMul, Nat.reduceLeDiff, Int.reduceToNat])
  · refine ⟨by decide, hge, none, hS3.less fun b hb => ?_, SlAt.nil _ _, fun b hb => by cases hb⟩
    rcases hb with hb | hb
    · exact hb
    · cases hb
  rintro ⟨k, vl⟩ w4 ⟨hk3, hk, bo, hS, hV, hbo⟩
  dsimp only at hk3 hk hS hV ⊢
  obtain ⟨sv, bs, hF4, hA4, hp4, hb4, hq4⟩ := id hS
  by_cases hkl : k < L.length
  · have d0 : (k : Int) < (L.length : Int) := by omega
    have d2 : inI64 ((k : Int) + 1) := by unfold inI64; omega
    have hsl := elS_len L k
    (repeat (first | (with_reducible first | (refine hK _ _ ?_; clear hK K) | refine (show ∀ σ' w', _ → K σ' w' from by assumption) _ _ ?_ | refine W_seq_k fun K hK => ?_ | refine W_block_k fun K hK => ?_ | refine W_skip ?_ | refine W_ret ?_) | ((first | ((with_reducible refine W_id ?_); refine W_reg (by decide) (by rfl) ?_) | (with_reducible first | refine W_cond ?_ | refine hZ _ _ ?_ | refine W_exit ?_ | refine Wo_id ?_)); repeat1' simp only [push_cast, Nat.reduceBEq, Nat.reduceLT, Nat.reduceEqDiff, reduceIte, reduceCtorEq, Nat.reduceMul, Nat.reduceAdd, Nat.reduceSub, Int.reduceEq, Int.reduceLT, Int.reduceLE, Int.reduceNeg, Int.reduceAdd, Int.reduceSub, Int.reduceMul, Nat.reduceLeDiff, Int.reduceToNat]) | ((repeat ((fail_if_success with_reducible refine hK _ _ ?_); clear hK K)); (with_reducible refine hK _ _ ?_); clear hK K)))
    refine (len_a hA4).mono ?_
    intro v w' ⟨hv, hw⟩
    subst hv; subst w'
    ((repeat simp only [push_cast, Nat.reduceBEq, Nat.reduceLT, Nat.reduceEqDiff, reduceIte, reduceCtorEq, Nat.reduceMul, Nat.reduceAdd, Nat.reduceSub, Int.reduceEq, Int.reduceLT, Int.reduceLE, Int.reduceNeg, Int.reduceAdd, Int.reduceSub, Int.reduceMul, Nat.reduceLeDiff, Int.reduceToNat, d0]); (repeat (first | (with_reducible first | (refine hK _ _ ?_; clear hK K) | refine (show ∀ σ' w', _ → K σ' w' from by assumption) _ _ ?_ | refine W_seq_k fun K hK => ?_ | refine W_block_k fun K hK => ?_ | refine W_skip ?_ | refine W_ret ?_) | ((first | ((with_reducible refine W_id ?_); refine W_reg (by decide) (by rfl) ?_) | (with_reducible first | refine W_cond ?_ | refine hZ _ _ ?_ | refine W_exit ?_ | refine Wo_id ?_)); repeat1' simp only [push_cast, Nat.reduceBEq, Nat.reduceLT, Nat.reduceEqDiff, reduceIte, reduceCtorEq, Nat.reduceMul, Nat.reduceAdd, Nat.reduceSub, Int.reduceEq, Int.reduceLT, Int.reduceLE, Int.reduceNeg, Int.reduceAdd, Int.reduceSub, Int.reduceMul, Nat.reduceLeDiff, Int.reduceToNat, d0]) | ((repeat ((fail_if_success with_reducible refine hK _ _ ?_); clear hK K)); (with_reducible refine hK _ _ ?_); clear hK K))))
    refine (node_a hA4 (by omega) hat _).mono ?_
    rintro v w5 ⟨m, rfl, hm, _, _, hx5, _, _⟩
    have hS5 := hS.pass hx5
    have hV5 := hV.ext hx5
    by_cases hkd : ((nd? L (k : Int)).getD zN).kind = 3
    · have hmk : m.nd.kind = 3 := by rw [hm]; exact hkd
      have ei := ins_end (L := L) (s := elS L k) (i := (k : Int)) (by omega) hkd
      have eS : elS L (k + 1) = elS L k ++ [opN L (k : Int)] := by rw [elS, if_pos ⟨hk3, hkd⟩]
      ((repeat simp only [push_cast, Nat.reduceBEq, Nat.reduceLT, Nat.reduceEqDiff, reduceIte, reduceCtorEq, Nat.reduceMul, Nat.reduceAdd, Nat.reduceSub, Int.reduceEq, Int.reduceLT, Int.reduceLE, Int.reduceNeg, Int.reduceAdd, Int.reduceSub, Int.reduceMul, Nat.reduceLeDiff, Int.reduceToNat, fld0, hmk]); (repeat (first | (with_reducible first | (refine hK _ _ ?_; clear hK K) | refine (show ∀ σ' w', _ → K σ' w' from by assumption) _ _ ?_ | refine W_seq_k fun K hK => ?_ | refine W_block_k fun K hK => ?_ | refine W_skip ?_ | refine W_ret ?_) | ((first | ((with_reducible refine W_id ?_); refine W_reg (by decide) (by rfl) ?_) | (with_reducible first | refine W_cond ?_ | refine hZ _ _ ?_ | refine W_exit ?_ | refine Wo_id ?_)); repeat1' simp only [push_cast, Nat.reduceBEq, Nat.reduceLT, Nat.reduceEqDiff, reduceIte, reduceCtorEq, Nat.reduceMul, Nat.reduceAdd, Nat.reduceSub, Int.reduceEq, Int.reduceLT, Int.reduceLE, Int.reduceNeg, Int.reduceAdd, Int.reduceSub, Int.reduceMul, Nat.reduceLeDiff, Int.reduceToNat, fld0, hmk]) | ((repeat ((fail_if_success with_reducible refine hK _ _ ?_); clear hK K)); (with_reducible refine hK _ _ ?_); clear hK K))))
      refine (spush_c hS5 (by omega) hat (by omega) _).mono ?_
      rintro v w6 ⟨rfl, hS6, hu6⟩
      rw [ei] at hS6 ⊢
      have hV6 := hV5.upd hu6 fun b hb hf => hf.2 (.inr hb)
      ((repeat simp only [push_cast, Nat.reduceBEq, Nat.reduceLT, Nat.reduceEqDiff, reduceIte, reduceCtorEq, Nat.reduceMul, Nat.reduceAdd, Nat.reduceSub, Int.reduceEq, Int.reduceLT, Int.reduceLE, Int.reduceNeg, Int.reduceAdd, Int.reduceSub, Int.reduceMul, Nat.reduceLeDiff, Int.reduceToNat, not_true_eq_false]); (repeat (first | (with_reducible first | (refine hK _ _ ?_; clear hK K) | refine (show ∀ σ' w', _ → K σ' w' from by assumption) _ _ ?_ | refine W_seq_k fun K hK => ?_ | refine W_block_k fun K hK => ?_ | refine W_skip ?_ | refine W_ret ?_) | ((first | ((with_reducible refine W_id ?_); refine W_reg (by decide) (by rfl) ?_) | (with_reducible first | refine W_cond ?_ | refine hZ _ _ ?_ | refine W_exit ?_ | refine Wo_id ?_)); repeat1' simp only [push_cast, Nat.reduceBEq, Nat.reduceLT, Nat.reduceEqDiff, reduceIte, reduceCtorEq, Nat.reduceMul, Nat.reduceAdd, Nat.reduceSub, Int.reduceEq, Int.reduceLT, Int.reduceLE, Int.reduceNeg, Int.reduceAdd, Int.reduceSub, Int.reduceMul, Nat.reduceLeDiff, Int.reduceToNat, not_true_eq_false]) | ((repeat ((fail_if_success with_reducible refine hK _ _ ?_); clear hK K)); (with_reducible refine hK _ _ ?_); clear hK K))))
      refine bs_one sty28 (by decide) (by decide) (v := .int .i64 (k : Int)) rfl ?_
      have hx7 := Ext.alloc w6 (.cells (Value.int .i64 (k : Int)).cells 3)
      have hs7 : (w6.alloc (.cells (Value.int .i64 (k : Int)).cells 3)).heap.size = w6.heap.size + 1 := size_alloc_h _ _
      ((repeat simp only [push_cast, Nat.reduceBEq, Nat.reduceLT, Nat.reduceEqDiff, reduceIte, reduceCtorEq, Nat.reduceMul, Nat.reduceAdd, Nat.reduceSub, Int.reduceEq, Int.reduceLT, Int.reduceLE, Int.reduceNeg, Int.reduceAdd, Int.reduceSub, Int.reduceMul, Nat.reduceLeDiff, Int.reduceToNat]); (repeat (first | (with_reducible first | (refine hK _ _ ?_; clear hK K) | refine (show ∀ σ' w', _ → K σ' w' from by assumption) _ _ ?_ | refine W_seq_k fun K hK => ?_ | refine W_block_k fun K hK => ?_ | refine W_skip ?_ | refine W_ret ?_) | ((first | ((with_reducible refine W_id ?_); refine W_reg (by decide) (by rfl) ?_) | (with_reducible first | refine W_cond ?_ | refine hZ _ _ ?_ | refine W_exit ?_ | refine Wo_id ?_)); repeat1' simp only [push_cast, Nat.reduceBEq, Nat.reduceLT, Nat.reduceEqDiff, reduceIte, reduceCtorEq, Nat.reduceMul, Nat.reduceAdd, Nat.reduceSub, Int.reduceEq, Int.reduceLT, Int.reduceLE, Int.reduceNeg, Int.reduceAdd, Int.reduceSub, Int.reduceMul, Nat.reduceLeDiff, Int.reduceToNat]) | ((repeat ((fail_if_success with_reducible refine hK _ _ ?_); clear hK K)); (with_reducible refine hK _ _ ?_); clear hK K))))
      refine app_to sty28 sty28.und (by decide) (hV6.ext hx7) (SlAt.new w6 1 (Value.int .i64 (k : Int)).cells 3 1 rfl) (by rfl) (by rw [intCells_length, List.length_map]; simp [Value.cells]; omega) ?_
      intro v w8 bo8 s1 s2 s3
      have e5 : intCells ((elS L k).map OpS.node) ++ (Value.int .i64 (k : Int)).cells.toList = intCells ((elS L (k + 1)).map OpS.node) := by rw [eS, List.map_append, intCells_append]; rfl
      rw [e5] at s1
      have h06 := hS6.out.alike.size
      have hS8 := (hS6.pass hx7).app (Q' := fun b => F b ∨ bo8 = some b) s2 (fun b _ hb => ⟨.inr hb, hbo b hb⟩) fun b hb => by
        rcases hb with hb | hb
        · exact .inl (.inl hb)
        · rcases s3 b hb with h | h
          · exact .inl (.inr h)
          · exact .inr ⟨h, by subst hb; exact s1.lt⟩
      ((repeat simp only [push_cast, Nat.reduceBEq, Nat.reduceLT, Nat.reduceEqDiff, reduceIte, reduceCtorEq, Nat.reduceMul, Nat.reduceAdd, Nat.reduceSub, Int.reduceEq, Int.reduceLT, Int.reduceLE, Int.reduceNeg, Int.reduceAdd, Int.reduceSub, Int.reduceMul, Nat.reduceLeDiff, Int.reduceToNat, d2]); (repeat (first | (with_reducible first | (refine hK _ _ ?_; clear hK K) | refine (show ∀ σ' w', _ → K σ' w' from by assumption) _ _ ?_ | refine W_seq_k fun K hK => ?_ | refine W_block_k fun K hK => ?_ | refine W_skip ?_ | refine W_ret ?_) | ((first | ((with_reducible refine W_id ?_); refine W_reg (by decide) (by rfl) ?_) | (with_reducible first | refine W_cond ?_ | refine hZ _ _ ?_ | refine W_exit ?_ | refine Wo_id ?_)); repeat1' simp only [push_cast, Nat.reduceBEq, Nat.reduceLT, Nat.reduceEqDiff, reduceIte, reduceCtorEq, Nat.reduceMul, Nat.reduceAdd, Nat.reduceSub, Int.reduceEq, Int.reduceLT, Int.reduceLE, Int.reduceNeg, Int.reduceAdd, Int.reduceSub, Int.reduceMul, Nat.reduceLeDiff, Int.reduceToNat, d2]) | ((repeat ((fail_if_success with_reducible refine hK _ _ ?_); clear hK K)); (with_reducible refine hK _ _ ?_); clear hK K))))
      refine ⟨(k + 1, v), by simp; omega, ?_⟩
      (repeat simp only [push_cast, Nat.reduceBEq, Nat.reduceLT, Nat.reduceEqDiff, reduceIte, reduceCtorEq, Nat.reduceMul, Nat.reduceAdd, Nat.reduceSub, Int.reduceEq, Int.reduceLT, Int.reduceLE, Int.reduceNeg, Int.reduceAdd, Int.reduceSub, Int.reduceMul, Nat.reduceLeDiff, Int.reduceToNat])
      refine ⟨by omega, by omega, bo8, by rw [eS]; exact hS8, s1, fun b hb => ?_⟩
      rcases s3 b hb with h | h
      · exact hbo b h
      · omega
    · have hmk : ¬ m.nd.kind = 3 := by rw [hm]; exact hkd
      have eS : elS L (k + 1) = elS L k := by rw [elS, if_neg fun h => hkd h.2]
      ((repeat simp only [push_cast, Nat.reduceBEq, Nat.reduceLT, Nat.reduceEqDiff, reduceIte, reduceCtorEq, Nat.reduceMul, Nat.reduceAdd, Nat.reduceSub, Int.reduceEq, Int.reduceLT, Int.reduceLE, Int.reduceNeg, Int.reduceAdd, Int.reduceSub, Int.reduceMul, Nat.reduceLeDiff, Int.reduceToNat, fld0, hmk, d2]); (repeat (first | (with_reducible first | (refine hK _ _ ?_; clear hK K) | refine (show ∀ σ' w', _ → K σ' w' from by assumption) _ _ ?_ | refine W_seq_k fun K hK => ?_ | refine W_block_k fun K hK => ?_ | refine W_skip ?_ | refine W_ret ?_) | ((first | ((with_reducible refine W_id ?_); refine W_reg (by decide) (by rfl) ?_) | (with_reducible first | refine W_cond ?_ | refine hZ _ _ ?_ | refine W_exit ?_ | refine Wo_id ?_)); repeat1' simp only [push_cast, Nat.reduceBEq, Nat.reduceLT, Nat.reduceEqDiff, reduceIte, reduceCtorEq, Nat.reduceMul, Nat.reduceAdd, Nat.reduceSub, Int.reduceEq, Int.reduceLT, Int.reduceLE, Int.reduceNeg, Int.reduceAdd, Int.reduceSub, Int.reduceMul, Nat.reduceLeDiff, Int.reduceToNat, fld0, hmk, d2]) | ((repeat ((fail_if_success with_reducible refine hK _ _ ?_); clear hK K)); (with_reducible refine hK _ _ ?_); clear hK K))))
      refine ⟨(k + 1, vl), by simp; omega, ?_⟩
      (repeat simp only [push_cast, Nat.reduceBEq, Nat.reduceLT, Nat.reduceEqDiff, reduceIte, reduceCtorEq, Nat.reduceMul, Nat.reduceAdd, Nat.reduceSub, Int.reduceEq, Int.reduceLT, Int.reduceLE, Int.reduceNeg, Int.reduceAdd, Int.reduceSub, Int.reduceMul, Nat.reduceLeDiff, Int.reduceToNat])
      exact ⟨by omega, by omega, bo, by rw [eS]; exact hS5, by rw [eS]; exact hV5, hbo⟩
  · obtain rfl : k = L.length := by omega
    have d0 : ¬ (L.length : Int) < (L.length : Int) := by omega
    (repeat (first | (with_reducible first | (refine hK _ _ ?_; clear hK K) | refine (show ∀ σ' w', _ → K σ' w' from by assumption) _ _ ?_ | refine W_seq_k fun K hK => ?_ | refine W_block_k fun K hK => ?_ | refine W_skip ?_ | refine W_ret ?_) | ((first | ((with_reducible refine W_id ?_); refine W_reg (by decide) (by rfl) ?_) | (with_reducible first | refine W_cond ?_ | refine hZ _ _ ?_ | refine W_exit ?_ | refine Wo_id ?_)); repeat1' simp only [push_cast, Nat.reduceBEq, Nat.reduceLT, Nat.reduceEqDiff, reduceIte, reduceCtorEq, Nat.reduceMul, Nat.reduceAdd, Nat.reduceSub, Int.reduceEq, Int.reduceLT, Int.reduceLE, Int.reduceNeg, Int.reduceAdd, Int.reduceSub, Int.reduceMul, Nat.reduceLeDiff, Int.reduceToNat]) | ((repeat ((fail_if_success with_reducible refine hK _ _ ?_); clear hK K)); (with_reducible refine hK _ _ ?_); clear hK K)))
    refine (len_a hA4).mono ?_
    intro v w' ⟨hv, hw⟩
    subst hv; subst w'
    ((repeat simp only [push_cast, Nat.reduceBEq, Nat.reduceLT, Nat.reduceEqDiff, reduceIte, reduceCtorEq, Nat.reduceMul, Nat.reduceAdd, Nat.reduceSub, Int.reduceEq, Int.reduceLT, Int.reduceLE, Int.reduceNeg, Int.reduceAdd, Int.reduceSub, Int.reduceMul, Nat.reduceLeDiff, Int.reduceToNat, d0]); (repeat (first | (with_reducible first | (refine hK _ _ ?_; clear hK K) | refine (show ∀ σ' w', _ → K σ' w' from by assumption) _ _ ?_ | refine W_seq_k fun K hK => ?_ | refine W_block_k fun K hK => ?_ | refine W_skip ?_ | refine W_ret ?_) | ((first | ((with_reducible refine W_id ?_); refine W_reg (by decide) (by rfl) ?_) | (with_reducible first | refine W_cond ?_ | refine hZ _ _ ?_ | refine W_exit ?_ | refine Wo_id ?_)); repeat1' simp only [push_cast, Nat.reduceBEq, Nat.reduceLT, Nat.reduceEqDiff, reduceIte, reduceCtorEq, Nat.reduceMul, Nat.reduceAdd, Nat.reduceSub, Int.reduceEq, Int.reduceLT, Int.reduceLE, Int.reduceNeg, Int.reduceAdd, Int.reduceSub, Int.reduceMul, Nat.reduceLeDiff, Int.reduceToNat, d0]) | ((repeat ((fail_if_success with_reducible refine hK _ _ ?_); clear hK K)); (with_reducible refine hK _ _ ?_); clear hK K))))
    exact ⟨ps, pa, vl, rfl, _, hS, bo, hV, fun b hb => ⟨.inr hb, hbo b hb⟩⟩
theorem nodes_c {w0 w : World} {Q : Nat → Prop} {ps pa : Nat} {L : List Nd} {s : List OpS} (h : StAt w0 w Q ps pa L s) (hs : s.length < 10000) :
    Gives Tryd.prog 12 #[.pointer (some ⟨ps, 0, none⟩)] w fun v w' => ∃ bo, SlAt w' 1 v (intCells (s.map OpS.node)) bo ∧ Ext w w' := by
  obtain ⟨sv, bs, hF, _⟩ := id h
  refine Gives.of_W Tryd.call12 Tryd.func12 rfl Tryd.ntmps12 (by simp) ?_; intro Z hZ
  (repeat (first | (with_reducible first | (refine hK _ _ ?_; clear hK K) | refine (show ∀ σ' w', _ → K σ' w' from by assumption) _ _ ?_ | refine W_seq_k fun K hK => ?_ | refine W_block_k fun K hK => ?_ | refine W_skip ?_ | refine W_ret ?_) | ((first | ((with_reducible refine W_id ?_); refine W_reg (by decide) (by rfl) ?_) | (with_reducible first | refine W_cond ?_ | refine hZ _ _ ?_ | refine W_exit ?_ | refine Wo_id ?_)); repeat1' simp only [push_cast, Nat.reduceBEq, Nat.reduceLT, Nat.reduceEqDiff, reduceIte, reduceCtorEq, Nat.reduceMul, Nat.reduceAdd, Nat.reduceSub, Int.reduceEq, Int.reduceLT, Int.reduceLE, Int.reduceNeg, Int.reduceAdd, Int.reduceSub, Int.reduceMul, Nat.reduceLeDiff, Int.reduceToNat]) | ((repeat ((fail_if_success with_reducible refine hK _ _ ?_); clear hK K)); (with_reducible refine hK _ _ ?_); clear hK K)))
  refine W_loop (S := Nat × Value) (fun z => [(0, .pointer (some ⟨ps, 0, none⟩)), (3, z.2), (4, .int .i64 (z.1 : Int))])
    (fun z w4 => z.1 ≤ s.length ∧ Ext w w4 ∧ ∃ bo, SlAt w4 1 z.2 (intCells ((s.take z.1).map OpS.node)) bo ∧ ∀ b, bo = some b → w.heap.size ≤ b)
    (fun z => s.length - z.1) (0, .slice none 0 0) ?_ ?_ ?_
  · (repeat simp only [push_cast, Nat.reduceBEq, Nat.reduceLT, Nat.reduceEqDiff, reduceIte, reduceCtorEq, Nat.reduceMul, Nat.reduceAdd, Nat.reduceSub, Int.reduceEq, Int.reduceLT, Int.reduceLE, Int.reduceNeg, Int.reduceAdd, Int.reduceSub, Int.reduceMul, Nat.reduceLeDiff, Int.reduceToNat])
  · exact ⟨by omega, Ext.refl _, none, SlAt.nil _ _, fun b hb => by cases hb⟩
  rintro ⟨k, vl⟩ w4 ⟨hk, hx4, bo, hV, hbo⟩
  dsimp only at hk hV ⊢
  have hS4 := h.pass hx4
  by_cases hkl : k < s.length
  · have d0 : (k : Int) < (s.length : Int) := by omega
    have d2 : inI64 ((k : Int) + 1) := by unfold inI64; omega
    have eA : atS s (k : Int) = s[k].node := by
      unfold atS
      rw [if_pos ⟨by omega, d0⟩, Int.toNat_natCast, getD_lt hkl]
    (repeat (first | (with_reducible first | (refine hK _ _ ?_; clear hK K) | refine (show ∀ σ' w', _ → K σ' w' from by assumption) _ _ ?_ | refine W_seq_k fun K hK => ?_ | refine W_block_k fun K hK => ?_ | refine W_skip ?_ | refine W_ret ?_) | ((first | ((with_reducible refine W_id ?_); refine W_reg (by decide) (by rfl) ?_) | (with_reducible first | refine W_cond ?_ | refine hZ _ _ ?_ | refine W_exit ?_ | refine Wo_id ?_)); repeat1' simp only [push_cast, Nat.reduceBEq, Nat.reduceLT, Nat.reduceEqDiff, reduceIte, reduceCtorEq, Nat.reduceMul, Nat.reduceAdd, Nat.reduceSub, Int.reduceEq, Int.reduceLT, Int.reduceLE, Int.reduceNeg, Int.reduceAdd, Int.reduceSub, Int.reduceMul, Nat.reduceLeDiff, Int.reduceToNat]) | ((repeat ((fail_if_success with_reducible refine hK _ _ ?_); clear hK K)); (with_reducible refine hK _ _ ?_); clear hK K)))
    refine (len_s hS4).mono ?_
    intro v w' ⟨hv, hw⟩
    subst hv; subst w'
    ((repeat simp only [push_cast, Nat.reduceBEq, Nat.reduceLT, Nat.reduceEqDiff, reduceIte, reduceCtorEq, Nat.reduceMul, Nat.reduceAdd, Nat.reduceSub, Int.reduceEq, Int.reduceLT, Int.reduceLE, Int.reduceNeg, Int.reduceAdd, Int.reduceSub, Int.reduceMul, Nat.reduceLeDiff, Int.reduceToNat, d0]); (repeat (first | (with_reducible first | (refine hK _ _ ?_; clear hK K) | refine (show ∀ σ' w', _ → K σ' w' from by assumption) _ _ ?_ | refine W_seq_k fun K hK => ?_ | refine W_block_k fun K hK => ?_ | refine W_skip ?_ | refine W_ret ?_) | ((first | ((with_reducible refine W_id ?_); refine W_reg (by decide) (by rfl) ?_) | (with_reducible first | refine W_cond ?_ | refine hZ _ _ ?_ | refine W_exit ?_ | refine Wo_id ?_)); repeat1' simp only [push_cast, Nat.reduceBEq, Nat.reduceLT, Nat.reduceEqDiff, reduceIte, reduceCtorEq, Nat.reduceMul, Nat.reduceAdd, Nat.reduceSub, Int.reduceEq, Int.reduceLT, Int.reduceLE, Int.reduceNeg, Int.reduceAdd, Int.reduceSub, Int.reduceMul, Nat.reduceLeDiff, Int.reduceToNat, d0]) | ((repeat ((fail_if_success with_reducible refine hK _ _ ?_); clear hK K)); (with_reducible refine hK _ _ ?_); clear hK K))))
    refine (at_s hS4 _).mono ?_
    intro v w' ⟨hv, hw⟩
    subst hv; subst w'
    rw [eA]
    obtain ⟨nk, hnk⟩ : ∃ x, x = s[k].node := ⟨_, rfl⟩
    have eT : (s.take (k + 1)).map OpS.node = (s.take k).map OpS.node ++ [nk] := by rw [List.take_succ_eq_append_getElem hkl, List.map_append, hnk]; rfl
    rw [← hnk]
    ((repeat simp only [push_cast, Nat.reduceBEq, Nat.reduceLT, Nat.reduceEqDiff, reduceIte, reduceCtorEq, Nat.reduceMul, Nat.reduceAdd, Nat.reduceSub, Int.reduceEq, Int.reduceLT, Int.reduceLE, Int.reduceNeg, Int.reduceAdd, Int.reduceSub, Int.reduceMul, Nat.reduceLeDiff, Int.reduceToNat]); (repeat (first | (with_reducible first | (refine hK _ _ ?_; clear hK K) | refine (show ∀ σ' w', _ → K σ' w' from by assumption) _ _ ?_ | refine W_seq_k fun K hK => ?_ | refine W_block_k fun K hK => ?_ | refine W_skip ?_ | refine W_ret ?_) | ((first | ((with_reducible refine W_id ?_); refine W_reg (by decide) (by rfl) ?_) | (with_reducible first | refine W_cond ?_ | refine hZ _ _ ?_ | refine W_exit ?_ | refine Wo_id ?_)); repeat1' simp only [push_cast, Nat.reduceBEq, Nat.reduceLT, Nat.reduceEqDiff, reduceIte, reduceCtorEq, Nat.reduceMul, Nat.reduceAdd, Nat.reduceSub, Int.reduceEq, Int.reduceLT, Int.reduceLE, Int.reduceNeg, Int.reduceAdd, Int.reduceSub, Int.reduceMul, Nat.reduceLeDiff, Int.reduceToNat]) | ((repeat ((fail_if_success with_reducible refine hK _ _ ?_); clear hK K)); (with_reducible refine hK _ _ ?_); clear hK K))))
    refine bs_one sty28 (by decide) (by decide) (v := .int .i64 nk) rfl ?_
    have hx7 := Ext.alloc w4 (.cells (Value.int .i64 nk).cells 3)
    have hs7 : (w4.alloc (.cells (Value.int .i64 nk).cells 3)).heap.size = w4.heap.size + 1 := size_alloc_h _ _
    ((repeat simp only [push_cast, Nat.reduceBEq, Nat.reduceLT, Nat.reduceEqDiff, reduceIte, reduceCtorEq, Nat.reduceMul, Nat.reduceAdd, Nat.reduceSub, Int.reduceEq, Int.reduceLT, Int.reduceLE, Int.reduceNeg, Int.reduceAdd, Int.reduceSub, Int.reduceMul, Nat.reduceLeDiff, Int.reduceToNat]); (repeat (first | (with_reducible first | (refine hK _ _ ?_; clear hK K) | refine (show ∀ σ' w', _ → K σ' w' from by assumption) _ _ ?_ | refine W_seq_k fun K hK => ?_ | refine W_block_k fun K hK => ?_ | refine W_skip ?_ | refine W_ret ?_) | ((first | ((with_reducible refine W_id ?_); refine W_reg (by decide) (by rfl) ?_) | (with_reducible first | refine W_cond ?_ | refine hZ _ _ ?_ | refine W_exit ?_ | refine Wo_id ?_)); repeat1' simp only [push_cast, Nat.reduceBEq, Nat.reduceLT, Nat.reduceEqDiff, reduceIte, reduceCtorEq, Nat.reduceMul, Nat.reduceAdd, Nat.reduceSub, Int.reduceEq, Int.reduceLT, Int.reduceLE, Int.reduceNeg, Int.reduceAdd, Int.reduceSub, Int.reduceMul, Nat.reduceLeDiff, Int.reduceToNat]) | ((repeat ((fail_if_success with_reducible refine hK _ _ ?_); clear hK K)); (with_reducible refine hK _ _ ?_); clear hK K))))
    refine app_to sty28 sty28.und (by decide) (hV.ext hx7) (SlAt.new w4 1 (Value.int .i64 nk).cells 3 1 rfl) (by rfl) (by rw [intCells_length, List.length_map, List.length_take]; simp [Value.cells]; omega) ?_
    intro v w8 bo8 s1 s2 s3
    have e5 : intCells ((s.take k).map OpS.node) ++ (Value.int .i64 nk).cells.toList = intCells ((s.take (k + 1)).map OpS.node) := by rw [eT, intCells_append]; rfl
    rw [e5] at s1
    have h04 := hx4.alike.size
    ((repeat simp only [push_cast, Nat.reduceBEq, Nat.reduceLT, Nat.reduceEqDiff, reduceIte, reduceCtorEq, Nat.reduceMul, Nat.reduceAdd, Nat.reduceSub, Int.reduceEq, Int.reduceLT, Int.reduceLE, Int.reduceNeg, Int.reduceAdd, Int.reduceSub, Int.reduceMul, Nat.reduceLeDiff, Int.reduceToNat, d2]); (repeat (first | (with_reducible first | (refine hK _ _ ?_; clear hK K) | refine (show ∀ σ' w', _ → K σ' w' from by assumption) _ _ ?_ | refine W_seq_k fun K hK => ?_ | refine W_block_k fun K hK => ?_ | refine W_skip ?_ | refine W_ret ?_) | ((first | ((with_reducible refine W_id ?_); refine W_reg (by decide) (by rfl) ?_) | (with_reducible first | refine W_cond ?_ | refine hZ _ _ ?_ | refine W_exit ?_ | refine Wo_id ?_)); repeat1' simp only [push_cast, Nat.reduceBEq, Nat.reduceLT, Nat.reduceEqDiff, reduceIte, reduceCtorEq, Nat.reduceMul, Nat.reduceAdd, Nat.reduceSub, Int.reduceEq, Int.reduceLT, Int.reduceLE, Int.reduceNeg, Int.reduceAdd, Int.reduceSub, Int.reduceMul, Nat.reduceLeDiff, Int.reduceToNat, d2]) | ((repeat ((fail_if_success with_reducible refine hK _ _ ?_); clear hK K)); (with_reducible refine hK _ _ ?_); clear hK K))))
    refine ⟨(k + 1, v), by simp; omega, ?_⟩
    (repeat simp only [push_cast, Nat.reduceBEq, Nat.reduceLT, Nat.reduceEqDiff, reduceIte, reduceCtorEq, Nat.reduceMul, Nat.reduceAdd, Nat.reduceSub, Int.reduceEq, Int.reduceLT, Int.reduceLE, Int.reduceNeg, Int.reduceAdd, Int.reduceSub, Int.reduceMul, Nat.reduceLeDiff, Int.reduceToNat])
    refine ⟨by omega, Upd.trans (hx4.trans hx7) s2 fun b hl hb => ?_, bo8, s1, fun b hb => ?_⟩
    · have := hbo b hb; omega
    · rcases s3 b hb with h | h
      · exact hbo b h
      · omega
  · obtain rfl : k = s.length := by omega
    have d0 : ¬ (s.length : Int) < (s.length : Int) := by omega
    rw [List.take_length] at hV
    (repeat (first | (with_reducible first | (refine hK _ _ ?_; clear hK K) | refine (show ∀ σ' w', _ → K σ' w' from by assumption) _ _ ?_ | refine W_seq_k fun K hK => ?_ | refine W_block_k fun K hK => ?_ | refine W_skip ?_ | refine W_ret ?_) | ((first | ((with_reducible refine W_id ?_); refine W_reg (by decide) (by rfl) ?_) | (with_reducible first | refine W_cond ?_ | refine hZ _ _ ?_ | refine W_exit ?_ | refine Wo_id ?_)); repeat1' simp only [push_cast, Nat.reduceBEq, Nat.reduceLT, Nat.reduceEqDiff, reduceIte, reduceCtorEq, Nat.reduceMul, Nat.reduceAdd, Nat.reduceSub, Int.reduceEq, Int.reduceLT, Int.reduceLE, Int.reduceNeg, Int.reduceAdd, Int.reduceSub, Int.reduceMul, Nat.reduceLeDiff, Int.reduceToNat]) | ((repeat ((fail_if_success with_reducible refine hK _ _ ?_); clear hK K)); (with_reducible refine hK _ _ ?_); clear hK K)))
    refine (len_s hS4).mono ?_
    intro v w' ⟨hv, hw⟩
    subst hv; subst w'
    ((repeat simp only [push_cast, Nat.reduceBEq, Nat.reduceLT, Nat.reduceEqDiff, reduceIte, reduceCtorEq, Nat.reduceMul, Nat.reduceAdd, Nat.reduceSub, Int.reduceEq, Int.reduceLT, Int.reduceLE, Int.reduceNeg, Int.reduceAdd, Int.reduceSub, Int.reduceMul, Nat.reduceLeDiff, Int.reduceToNat, d0]); (repeat (first | (with_reducible first | (refine hK _ _ ?_; clear hK K) | refine (show ∀ σ' w', _ → K σ' w' from by assumption) _ _ ?_ | refine W_seq_k fun K hK => ?_ | refine W_block_k fun K hK => ?_ | refine W_skip ?_ | refine W_ret ?_) | ((first | ((with_reducible refine W_id ?_); refine W_reg (by decide) (by rfl) ?_) | (with_reducible first | refine W_cond ?_ | refine hZ _ _ ?_ | refine W_exit ?_ | refine Wo_id ?_)); repeat1' simp only [push_cast, Nat.reduceBEq, Nat.reduceLT, Nat.reduceEqDiff, reduceIte, reduceCtorEq, Nat.reduceMul, Nat.reduceAdd, Nat.reduceSub, Int.reduceEq, Int.reduceLT, Int.reduceLE, Int.reduceNeg, Int.reduceAdd, Int.reduceSub, Int.reduceMul, Nat.reduceLeDiff, Int.reduceToNat, d0]) | ((repeat ((fail_if_success with_reducible refine hK _ _ ?_); clear hK K)); (with_reducible refine hK _ _ ?_); clear hK K))))
    exact ⟨bo, hV, hx4⟩
theorem great_c {w : World} {v1 v2 : Value} {l1 l2 : List Nat} (h1 : RdAt w 1 v1 (u8Cells l1)) (h2 : RdAt w 1 v2 (u8Cells l2)) :
    Gives Tryd.prog 8 #[.agg #[v1, v2]] w fun v w' => v = .bool (decide (60 < l1.length ∨ 60 < l2.length)) ∧ Ext w w' := by
  obtain ⟨a1, c1, rfl, hc1, hcell1⟩ := u8_len h1
  obtain ⟨a2, c2, rfl, hc2, hcell2⟩ := u8_len h2
  have hx1 := Ext.alloc w (.cells #[.slice a1 l1.length c1, .slice a2 l2.length c2] 24)
  by_cases g1 : 60 < l1.length
  · have d1 : (60 : Int) < (l1.length : Int) := by omega
    refine Gives.of_W Tryd.call8 Tryd.func8 rfl Tryd.ntmps8 (by simp) ?_; intro Z hZ
    (repeat (first | (with_reducible first | (refine hK _ _ ?_; clear hK K) | refine (show ∀ σ' w', _ → K σ' w' from by assumption) _ _ ?_ | refine W_seq_k fun K hK => ?_ | refine W_block_k fun K hK => ?_ | refine W_skip ?_ | refine W_ret ?_) | ((first | ((with_reducible refine W_id ?_); refine W_reg (by decide) (by rfl) ?_) | (with_reducible first | refine W_cond ?_ | refine hZ _ _ ?_ | refine W_exit ?_ | refine Wo_id ?_)); repeat1' simp only [push_cast, Nat.reduceBEq, Nat.reduceLT, Nat.reduceEqDiff, reduceIte, reduceCtorEq, Nat.reduceMul, Nat.reduceAdd, Nat.reduceSub, Int.reduceEq, Int.reduceLT, Int.reduceLE, Int.reduceNeg, Int.reduceAdd, Int.reduceSub, Int.reduceMul, Nat.reduceLeDiff, Int.reduceToNat, vcells_agg, cell_h, can_h, cellO_cells, canO_cells, setO_cells, heap_set_h, heap_alloc_h, size_set_h, size_alloc_h, vcells_agg, succ_ne, ne_succ, List.setIfInBounds_toArray, List.set_cons_succ, List.set_cons_zero, setCells, drew_h, d1, decide_true]) | ((repeat ((fail_if_success with_reducible refine hK _ _ ?_); clear hK K)); (with_reducible refine hK _ _ ?_); clear hK K)))
    exact ⟨by simp [g1], hx1⟩
  · have d1 : ¬ (60 : Int) < (l1.length : Int) := by omega
    by_cases g2 : 60 < l2.length
    · have d2 : (60 : Int) < (l2.length : Int) := by omega
      refine Gives.of_W Tryd.call8 Tryd.func8 rfl Tryd.ntmps8 (by simp) ?_; intro Z hZ
      (repeat (first | (with_reducible first | (refine hK _ _ ?_; clear hK K) | refine (show ∀ σ' w', _ → K σ' w' from by assumption) _ _ ?_ | refine W_seq_k fun K hK => ?_ | refine W_block_k fun K hK => ?_ | refine W_skip ?_ | refine W_ret ?_) | ((first | ((with_reducible refine W_id ?_); refine W_reg (by decide) (by rfl) ?_) | (with_reducible first | refine W_cond ?_ | refine hZ _ _ ?_ | refine W_exit ?_ | refine Wo_id ?_)); repeat1' simp only [push_cast, Nat.reduceBEq, Nat.reduceLT, Nat.reduceEqDiff, reduceIte, reduceCtorEq, Nat.reduceMul, Nat.reduceAdd, Nat.reduceSub, Int.reduceEq, Int.reduceLT, Int.reduceLE, Int.reduceNeg, Int.reduceAdd, Int.reduceSub, Int.reduceMul, Nat.reduceLeDiff, Int.reduceToNat, vcells_agg, cell_h, can_h, cellO_cells, canO_cells, setO_cells, heap_set_h, heap_alloc_h, size_set_h, size_alloc_h, vcells_agg, succ_ne, ne_succ, List.setIfInBounds_toArray, List.set_cons_succ, List.set_cons_zero, setCells, drew_h, d1, d2, decide_true, decide_false]) | ((repeat ((fail_if_success with_reducible refine hK _ _ ?_); clear hK K)); (with_reducible refine hK _ _ ?_); clear hK K)))
      exact ⟨by simp [g1, g2], hx1⟩
    · have d2 : ¬ (60 : Int) < (l2.length : Int) := by omega
      refine Gives.of_W Tryd.call8 Tryd.func8 rfl Tryd.ntmps8 (by simp) ?_; intro Z hZ
      (repeat (first | (with_reducible first | (refine hK _ _ ?_; clear hK K) | refine (show ∀ σ' w', _ → K σ' w' from by assumption) _ _ ?_ | refine W_seq_k fun K hK => ?_ | refine W_block_k fun K hK => ?_ | refine W_skip ?_ | refine W_ret ?_) | ((first | ((with_reducible refine W_id ?_); refine W_reg (by decide) (by rfl) ?_) | (with_reducible first | refine W_cond ?_ | refine hZ _ _ ?_ | refine W_exit ?_ | refine Wo_id ?_)); repeat1' simp only [push_cast, Nat.reduceBEq, Nat.reduceLT, Nat.reduceEqDiff, reduceIte, reduceCtorEq, Nat.reduceMul, Nat.reduceAdd, Nat.reduceSub, Int.reduceEq, Int.reduceLT, Int.reduceLE, Int.reduceNeg, Int.reduceAdd, Int.reduceSub, Int.reduceMul, Nat.reduceLeDiff, Int.reduceToNat, vcells_agg, cell_h, can_h, cellO_cells, canO_cells, setO_cells, heap_set_h, heap_alloc_h, size_set_h, size_alloc_h, vcells_agg, succ_ne, ne_succ, List.setIfInBounds_toArray, List.set_cons_succ, List.set_cons_zero, setCells, drew_h, d1, d2, decide_false]) | ((repeat ((fail_if_success with_reducible refine hK _ _ ?_); clear hK K)); (with_reducible refine hK _ _ ?_); clear hK K)))
      exact ⟨by simp [g1, g2], hx1⟩
end Go.Proofs.YtkafpameheohdaaDoor
end
section
set_option linter.unusedSimpArgs false
set_option linter.unusedVariables false
namespace Go.Vk
open Go
def scm (e : OpS → Bool) (s : List OpS) (k : Nat) : Nat := (scp e s k).length
theorem scp_take (e : OpS → Bool) (s : List OpS) : ∀ k : Nat, k ≤ s.length → scp e s k = (s.take k).reverse.take (scm e s k) ∧ scm e s k ≤ k
  | 0, _ => by simp [scp, scm]
  | k + 1, hk => by
    obtain ⟨h1, h2⟩ := scp_take e s k (by omega)
    have hr : (s.take (k + 1)).reverse = s[k] :: (s.take k).reverse := by
      rw [List.take_succ_eq_append_getElem (by omega), List.reverse_append]; rfl
    rw [hr]
    unfold scm at h1 h2 ⊢
    rw [scp, getD_lt (show k < s.length by omega)]
    by_cases he : e s[k] = true
    · rw [if_pos he]; simp
    · rw [if_neg he]
      refine ⟨?_, by simpa using h2⟩
      rw [List.length_cons, List.take_succ_cons, ← h1]
def hasW (w : Int) (s : List OpS) (p : OpS → Bool) : Bool := (scp (scE w) s s.length).any p
end Go.Vk
end
section
set_option linter.unusedSimpArgs false
set_option linter.unusedVariables false
namespace Go.Vk
open Go
/-- a stack whose blocks are among O: all others that came since w0 are not its own -/
def Ow (w0 w : World) (O : Nat → Prop) (ps : Nat) (L : List Nd) (s : List OpS) : Prop :=
  ∃ pa Q, StAt w0 w Q ps pa L s ∧ (∀ b, w0.heap.size ≤ b → b < w.heap.size → ¬ O b → Q b) ∧ ∀ b, O b → w0.heap.size ≤ b ∧ b < w.heap.size
section
variable {w0 w w' : World} {O : Nat → Prop} {ps : Nat} {L : List Nd} {s : List OpS}
theorem Ow.other {G : Nat → Prop} (h : Ow w0 w O ps L s) (hu : Upd G w w') (hG : ∀ b, G b → w0.heap.size ≤ b ∧ ¬ O b) : Ow w0 w' O ps L s := by
  obtain ⟨pa, Q, h1, h2, h3⟩ := h
  have hs := hu.alike.size
  refine ⟨pa, fun b => Q b ∨ (w.heap.size ≤ b ∧ b < w'.heap.size), h1.app hu (fun b hb hg => ⟨h2 b (hG b hg).1 hb (hG b hg).2, (hG b hg).1⟩) fun b hb => hb, fun b hb hb' ho => ?_, fun b hb => ?_⟩
  · by_cases hl : b < w.heap.size
    · exact .inl (h2 b hb hl ho)
    · exact .inr ⟨by omega, hb'⟩
  · have := h3 b hb; omega
theorem Ow.pass (h : Ow w0 w O ps L s) (hx : Ext w w') : Ow w0 w' O ps L s := h.other hx fun _ h => h.elim
theorem Ow.out (h : Ow w0 w O ps L s) : Ext w0 w := let ⟨_, _, h1, _⟩ := h; h1.out
theorem Ow.op {s' : List OpS} {pa : Nat} {Q : Nat → Prop} (h0 : ∀ b, w0.heap.size ≤ b → b < w.heap.size → ¬ O b → Q b) (h3 : ∀ b, O b → w0.heap.size ≤ b ∧ b < w.heap.size) (h : StAt w0 w' Q ps pa L s') (hu : Upd (AF w0 Q) w w') (h00 : w0.heap.size ≤ w.heap.size) :
    Ow w0 w' (fun b => O b ∨ (w.heap.size ≤ b ∧ b < w'.heap.size)) ps L s' ∧ Upd O w w' := by
  have hs := hu.alike.size
  refine ⟨⟨pa, Q, h, fun b hb hb' ho => ?_, fun b hb => ?_⟩, hu.mono fun b hb hf => ?_⟩
  · by_cases hl : b < w.heap.size
    · exact h0 b hb hl fun h => ho (.inl h)
    · exact absurd (.inr ⟨by omega, hb'⟩) ho
  · rcases hb with hb | hb
    · have := h3 b hb; omega
    · omega
  · exact Classical.byContradiction fun ho => hf.2 (h0 b hf.1 hb ho)
theorem StAt.base {w1 : World} {Q : Nat → Prop} {pa : Nat} (h : StAt w1 w Q ps pa L s) (hx : Ext w0 w1) : StAt w0 w (fun b => Q b ∨ b < w1.heap.size) ps pa L s := by
  obtain ⟨sv, bo, h1, h2, h3, h4, h5⟩ := h
  have hs := hx.alike.size
  refine ⟨sv, bo, h1, h2.base hx fun b hb => ?_, by omega, fun b hb => ⟨by have := (h4 b hb).1; omega, fun hq => ?_⟩, fun hq => ?_⟩
  · rcases hb with (hb | hb) | hb | hb
    · exact .inl (.inl hb)
    · exact .inr hb
    · exact .inl (.inr (.inl hb))
    · exact .inl (.inr (.inr hb))
  · rcases hq with hq | hq
    · exact (h4 b hb).2 hq
    · have := (h4 b hb).1; omega
  · rcases hq with hq | hq
    · exact h5 hq
    · omega
theorem Ow.first {w1 : World} {Q : Nat → Prop} {pa : Nat} (h : StAt w1 w Q ps pa L s) (hx : Ext w0 w1) : Ow w0 w (fun b => w1.heap.size ≤ b ∧ b < w.heap.size ∧ ¬ Q b) ps L s := by
  have hs := hx.alike.size
  refine ⟨pa, _, h.base hx, fun b hb hb' ho => ?_, fun b hb => ⟨by omega, hb.2.1⟩⟩
  by_cases hl : b < w1.heap.size
  · exact .inr hl
  · exact .inl (Classical.byContradiction fun hq => ho ⟨by omega, hb', hq⟩)
end
/- plain laws -/
theorem hasW_all {s : List OpS} {p : OpS → Bool} : hasW (-1) s p = s.any p := by
  have hm : ∀ k : Nat, k ≤ s.length → scm (scE (-1)) s k = k := fun k => by
    induction k with
    | zero => intro _; rfl
    | succ k ih =>
      intro hk
      have := ih (by omega)
      unfold scm at this ⊢
      rw [scp, if_neg (by unfold scE scopeN; simp)]
      simp [this]
  unfold hasW
  rw [(scp_take _ s s.length (Nat.le_refl _)).1, hm _ (Nat.le_refl _), List.take_length, List.take_of_length_le (by simp), List.any_reverse]
theorem untS_take (s : List OpS) (l : List ByteArray) : ∃ m, (untS s l).1 = s.take m ∧ m ≤ s.length ∧ (((untS s l).2 = 0 ∧ m < s.length ∧ s.any (fun o => htmlS o l) = true) ∨ ((untS s l).2 = 4 ∧ m = s.length ∧ s.any (fun o => htmlS o l) = false)) := by
  have hr := lastB_rng (fun k => htmlS (s.getD k zS) l) s.length
  unfold untS
  by_cases h : lastB (fun k => htmlS (s.getD k zS) l) s.length < 0
  · rw [if_pos h]
    refine ⟨s.length, by rw [List.take_length], Nat.le_refl _, .inr ⟨rfl, rfl, ?_⟩⟩
    refine List.any_eq_false.2 fun x hx e => ?_
    obtain ⟨q, hq, rfl⟩ := List.getElem_of_mem hx
    have := lastB_some (p := fun k => htmlS (s.getD k zS) l) hq (by rw [getD_lt hq]; exact e)
    omega
  · rw [if_neg h]
    obtain ⟨q, e, hq, hp⟩ := lastB_sat _ _ (show 0 ≤ lastB (fun k => htmlS (s.getD k zS) l) s.length by omega)
    refine ⟨q, by rw [e]; rfl, by omega, .inl ⟨rfl, hq, ?_⟩⟩
    rw [getD_lt hq] at hp
    exact List.any_eq_true.2 ⟨_, List.getElem_mem hq, hp⟩
theorem dropK_le (p : OpS → Bool) (s : List OpS) : ∀ k : Nat, dropK p s k ≤ k
  | 0 => Nat.le_refl _
  | k + 1 => by
    have := dropK_le p s k
    rw [dropK]; split <;> omega
theorem dropK_mono {p1 p2 : OpS → Bool} {s : List OpS} (h : ∀ o, p1 o = true → p2 o = true) : ∀ k : Nat, dropK p2 s k ≤ dropK p1 s k
  | 0 => Nat.le_refl _
  | k + 1 => by
    have h1 := dropK_mono h (s := s) k
    have h2 := dropK_le p2 s (k + 1)
    rw [dropK, dropK] at *
    by_cases e : p1 (s.getD k zS) = true
    · rw [if_pos e, if_pos (h _ e)]; exact h1
    · rw [if_neg e]; exact h2
theorem dropS_two (s : List OpS) (x : ByteArray) : ∃ m1 m2, dropS (butN x) s = s.take m1 ∧ dropS thoN s = s.take m2 ∧ m1 ≤ s.length ∧ m2 ≤ m1 :=
  ⟨_, _, rfl, rfl, dropK_le _ _ _, dropK_mono (fun o h => by
    unfold goP butN thoN at *
    simp only [Bool.and_eq_true, Bool.or_eq_true] at h ⊢
    exact ⟨h.1, .inl h.2.2⟩) _⟩
theorem top_take {s : List OpS} {k : Nat} (hk : k < s.length) : topS (s.take (k + 1)) = s[k].node := by
  have hl : (s.take (k + 1)).length = k + 1 := by rw [List.length_take]; omega
  unfold topS atS
  rw [hl, if_pos ⟨by omega, by omega⟩, show (((k + 1 : Nat) : Int) - 1).toNat = k by omega, getD_lt (by omega)]
  simp
theorem index_take {s : List OpS} (hs : s.Pairwise fun a b => a.node < b.node) {k : Nat} (hk : k < s.length) : indexS (s.take (k + 1)) s[k].node = k := by
  have hl : (s.take (k + 1)).length = k + 1 := by rw [List.length_take]; omega
  unfold indexS
  rw [hl]
  refine lastB_eq (by omega) ?_ fun j h1 h2 => by omega
  rw [getD_lt (by omega)]; simp
theorem drop_take {s : List OpS} {k : Nat} (hk : k < s.length) : (s.take (k + 1)).dropLast = s.take k := by
  rw [List.dropLast_eq_take, List.length_take, List.take_take]
  congr 1
  omega
end Go.Vk
end
section
set_option linter.unusedSimpArgs false
set_option linter.unusedVariables false
namespace Go.Proofs.YtkafpameheohdaaDoor
open Go Go.Vk
set_option maxHeartbeats 40000000
section
variable {w0 w : World} {Q : Nat → Prop} {ps pa : Nat} {L : List Nd} {s : List OpS}
theorem hasW_c (h : StAt w0 w Q ps pa L s) (hg : GL w0) (hs : s.length < 10000) (hz : ∀ o ∈ s, o.name ∈ nmL) (which : Int) (x : ByteArray) {K : Value → Value → World → Prop}
    (hk : ∀ u w', Ext w w' → K u (.bool (hasW which s fun o => htmlS o [x])) w') :
    RunV Tryd.prog (Instr.buildSlice 66 1 [(0, .string x)].toArray) w fun v w1 => Gives Tryd.prog 17 #[.pointer (some ⟨ps, 0, none⟩), .int .i64 which, v] w1 (K v) := by
  refine bs_one styS (by decide) (by decide) (v := .string x) rfl ?_
  rw [vc_str]
  have n1 := names1 w x
  have hx := Ext.alloc w (.cells #[.string x] 9)
  have h4 := h.pass hx
  generalize w.alloc (.cells #[.string x] 9) = w4 at *
  refine (has_s h4 hg hs (fun o ho => nm_size _ (hz o ho)) which n1 (show 1 < 1000000000 by decide)).mono ?_
  rintro v w5 ⟨rfl, hx5⟩
  exact hk _ w5 (hx.trans hx5)
end
end Go.Proofs.YtkafpameheohdaaDoor
end
section
set_option linter.unusedSimpArgs false
set_option linter.unusedVariables false
namespace Go.Vk
open Go
def gO (O : Nat → Prop) (w w' : World) (b : Nat) : Prop := O b ∨ (w.heap.size ≤ b ∧ b < w'.heap.size)
def BkR (w0 w : World) (pt pu pv : Nat) (Ot Ou Ov : Nat → Prop) (L : List Nd) (s1 s2 s3 : List OpS) (V : Value) (l : List Int) (bo : Option Nat) : Prop :=
  Ow w0 w Ot pt L s1 ∧ Ow w0 w Ou pu L s2 ∧ Ow w0 w Ov pv L s3 ∧ SlAt w 1 V (intCells l) bo
def RB (Ot Ou Ov : Nat → Prop) (bo : Option Nat) (b : Nat) : Prop := Ot b ∨ Ou b ∨ Ov b ∨ bo = some b
theorem BkR.upd {w0 w w' : World} {pt pu pv : Nat} {Ot Ou Ov O : Nat → Prop} {L : List Nd} {s1 s2 s3 : List OpS} {V : Value} {l : List Int} {bo : Option Nat} (h : BkR w0 w pt pu pv Ot Ou Ov L s1 s2 s3 V l bo) (hu : Upd O w w') (hO : ∀ b, O b → w0.heap.size ≤ b ∧ ¬ RB Ot Ou Ov bo b) :
    BkR w0 w' pt pu pv Ot Ou Ov L s1 s2 s3 V l bo :=
  ⟨h.1.other hu fun b hb => ⟨(hO b hb).1, fun h => (hO b hb).2 (.inl h)⟩, h.2.1.other hu fun b hb => ⟨(hO b hb).1, fun h => (hO b hb).2 (.inr (.inl h))⟩,
    h.2.2.1.other hu fun b hb => ⟨(hO b hb).1, fun h => (hO b hb).2 (.inr (.inr (.inl h)))⟩, h.2.2.2.upd hu fun b hb hg => (hO b hg).2 (.inr (.inr (.inr hb)))⟩
theorem SlAt.preS {w : World} {es n c : Nat} {a : Option Addr} {cells : List Value} {bo : Option Nat} (h : SlAt w es (.slice a n c) cells bo) {hi : Nat} (h2 : hi ≤ n) :
    SlAt w es (.slice (if c = 0 then a else Option.map (fun x => x.add 0) a) (hi - 0) (c - 0)) (cells.take (hi * es)) bo := by
  rw [Nat.sub_zero, Nat.sub_zero]
  rcases h with ⟨h1, h3, h4⟩ | ⟨b, o, n', c', cs, t, h1, h3, h4, h5, h6, h7, h8⟩
  · cases h3; cases h4
    obtain rfl : hi = 0 := by omega
    exact .inl ⟨h1, rfl, by simp⟩
  · cases h3
    have hm := Nat.mul_le_mul_right es h2
    refine .inr ⟨b, o, hi, c, cs, t, h1, ?_, by omega, by rw [List.length_take]; omega, h6, h7, fun i hi' => ?_⟩
    · split
      · rfl
      · simp [add_mk]
    · rw [List.length_take] at hi'
      rw [List.getElem?_take, if_pos (by omega)]
      exact h8 i (by omega)
end Go.Vk
namespace Go.Proofs.YtkafpameheohdaaDoor
open Go Go.Vk
set_option maxHeartbeats 40000000
section
variable {w0 w : World} {O : Nat → Prop} {ps : Nat} {L : List Nd} {s : List OpS}
theorem opop (h : Ow w0 w O ps L s) (hs : s.length < 10000) : Gives Tryd.prog 15 #[.pointer (some ⟨ps, 0, none⟩)] w fun v w' => v = .int .i64 (topS s) ∧ Ow w0 w' (gO O w w') ps L s.dropLast ∧ Upd O w w' := by
  obtain ⟨pa, Q, h1, h2, h3⟩ := h
  refine (spop_c h1 hs).mono ?_
  rintro v w' ⟨rfl, g1, g2⟩
  exact ⟨rfl, Ow.op h2 h3 g1 g2 h1.out.alike.size⟩
theorem ountil (h : Ow w0 w O ps L s) (hs : s.length < 10000) {nv : Value} {l : List ByteArray} (hn : RdAt w 1 nv (strCells l)) (hl : l.length < 1000000000) : Gives Tryd.prog 19 #[.pointer (some ⟨ps, 0, none⟩), nv] w fun v w' => v = .int .i64 (untS s l).2 ∧ Ow w0 w' (gO O w w') ps L (untS s l).1 ∧ Upd O w w' := by
  obtain ⟨pa, Q, h1, h2, h3⟩ := h
  refine (suntil_c h1 hs hn hl).mono ?_
  rintro v w' ⟨rfl, g1, g2⟩
  exact ⟨rfl, Ow.op h2 h3 g1 g2 h1.out.alike.size⟩
theorem oimp (h : Ow w0 w O ps L s) (hs : s.length < 10000) (hm : MaxAt w0) (hz : ∀ o ∈ s, o.name ∈ nmL) (but : ByteArray) : Gives Tryd.prog 20 #[.pointer (some ⟨ps, 0, none⟩), .string but] w fun v w' => Ow w0 w' (gO O w w') ps L (dropS (butN but) s) ∧ Upd O w w' := by
  obtain ⟨pa, Q, h1, h2, h3⟩ := h
  refine (simp_c h1 hs hm (fun o ho => nm_size _ (hz o ho)) but).mono ?_
  rintro v w' ⟨g1, g2⟩
  exact Ow.op h2 h3 g1 g2 h1.out.alike.size
theorem othor (h : Ow w0 w O ps L s) (hs : s.length < 10000) (hm : MaxAt w0) (hz : ∀ o ∈ s, o.name ∈ nmL) : Gives Tryd.prog 21 #[.pointer (some ⟨ps, 0, none⟩)] w fun v w' => Ow w0 w' (gO O w w') ps L (dropS thoN s) ∧ Upd O w w' := by
  obtain ⟨pa, Q, h1, h2, h3⟩ := h
  refine (sthor_c h1 hs hm (fun o ho => nm_size _ (hz o ho))).mono ?_
  rintro v w' ⟨g1, g2⟩
  exact Ow.op h2 h3 g1 g2 h1.out.alike.size
theorem olen (h : Ow w0 w O ps L s) : Gives Tryd.prog 16 #[.pointer (some ⟨ps, 0, none⟩)] w fun v w' => v = .int .i64 (s.length : Int) ∧ w' = w := by
  obtain ⟨pa, Q, h1, _⟩ := h
  exact len_s h1
theorem otop (h : Ow w0 w O ps L s) (hs : s.length < 10000) : Gives Tryd.prog 13 #[.pointer (some ⟨ps, 0, none⟩)] w fun v w' => v = .int .i64 (topS s) ∧ w' = w := by
  obtain ⟨pa, Q, h1, _⟩ := h
  exact top_s h1 hs
theorem oindex (h : Ow w0 w O ps L s) (hs : s.length < 10000) (i : Int) : Gives Tryd.prog 14 #[.pointer (some ⟨ps, 0, none⟩), .int .i64 i] w fun v w' => v = .int .i64 (indexS s i) ∧ w' = w := by
  obtain ⟨pa, Q, h1, _⟩ := h
  exact index_s h1 hs i
theorem onodes (h : Ow w0 w O ps L s) (hs : s.length < 10000) : Gives Tryd.prog 12 #[.pointer (some ⟨ps, 0, none⟩)] w fun v w' => ∃ bo, SlAt w' 1 v (intCells (s.map OpS.node)) bo ∧ Ext w w' := by
  obtain ⟨pa, Q, h1, _⟩ := h
  exact nodes_c h1 hs
end
theorem stackBack_c {w : World} (hg : GL w) {v1 v2 : Value} {l1 l2 : List Nat} (h1 : RdAt w 1 v1 (u8Cells l1)) (h2 : RdAt w 1 v2 (u8Cells l2)) (b1 : ∀ c ∈ l1, c < 256) (b2 : ∀ c ∈ l2, c < 256) {by_ : Nat} (hby : by_ < 256) :
    Gives Tryd.prog 3 #[.agg #[v1, v2], .int .u8 (by_ : Int)] w fun v w' => v = .bool true ∧ Ext w w' := by
  obtain ⟨a1, c1, rfl, hc1, hcell1⟩ := u8_len h1
  obtain ⟨a2, c2, rfl, hc2, hcell2⟩ := u8_len h2
  refine Gives.of_W Tryd.call3 Tryd.func3 rfl Tryd.ntmps3 (by simp) ?_; intro Z hZ
  (repeat (first | (with_reducible first | (refine hK _ _ ?_; clear hK K) | refine (show ∀ σ' w', _ → K σ' w' from by assumption) _ _ ?_ | refine W_seq_k fun K hK => ?_ | refine W_block_k fun K hK => ?_ | refine W_skip ?_ | refine W_ret ?_) | ((first | ((with_reducible refine W_id ?_); refine W_reg (by decide) (by rfl) ?_) | (with_reducible first | refine W_cond ?_ | refine hZ _ _ ?_ | refine W_exit ?_ | refine Wo_id ?_)); repeat1' simp only [push_cast, Nat.reduceBEq, Nat.reduceLT, Nat.reduceEqDiff, reduceIte, reduceCtorEq, Nat.reduceMul, Nat.reduceAdd, Nat.reduceSub, Int.reduceEq, Int.reduceLT, Int.reduceLE, Int.reduceNeg, Int.reduceAdd, Int.reduceSub, Int.reduceMul, Nat.reduceLeDiff, Int.reduceToNat, vcells_agg]) | ((repeat ((fail_if_success with_reducible refine hK _ _ ?_); clear hK K)); (with_reducible refine hK _ _ ?_); clear hK K)))
  have hx1 := Ext.alloc w (.cells #[.slice a1 l1.length c1, .slice a2 l2.length c2] 24)
  have z1 : (w.alloc (.cells #[.slice a1 l1.length c1, .slice a2 l2.length c2] 24)).heap[w.heap.size]? = some (.cells #[.slice a1 l1.length c1, .slice a2 l2.length c2] 24 (0, 0)) := by rw [heap_alloc_h, if_pos rfl]
  generalize w.alloc (.cells #[.slice a1 l1.length c1, .slice a2 l2.length c2] 24) = w1 at *
  obtain ⟨p1, hp1⟩ : ∃ p1, p1 = w.heap.size := ⟨_, rfl⟩
  rw [← hp1] at z1 ⊢
  ((repeat simp only [push_cast, Nat.reduceBEq, Nat.reduceLT, Nat.reduceEqDiff, reduceIte, reduceCtorEq, Nat.reduceMul, Nat.reduceAdd, Nat.reduceSub, Int.reduceEq, Int.reduceLT, Int.reduceLE, Int.reduceNeg, Int.reduceAdd, Int.reduceSub, Int.reduceMul, Nat.reduceLeDiff, Int.reduceToNat, cell_h, cellO_cells, z1]); (repeat (first | (with_reducible first | (refine hK _ _ ?_; clear hK K) | refine (show ∀ σ' w', _ → K σ' w' from by assumption) _ _ ?_ | refine W_seq_k fun K hK => ?_ | refine W_block_k fun K hK => ?_ | refine W_skip ?_ | refine W_ret ?_) | ((first | ((with_reducible refine W_id ?_); refine W_reg (by decide) (by rfl) ?_) | (with_reducible first | refine W_cond ?_ | refine hZ _ _ ?_ | refine W_exit ?_ | refine Wo_id ?_)); repeat1' simp only [push_cast, Nat.reduceBEq, Nat.reduceLT, Nat.reduceEqDiff, reduceIte, reduceCtorEq, Nat.reduceMul, Nat.reduceAdd, Nat.reduceSub, Int.reduceEq, Int.reduceLT, Int.reduceLE, Int.reduceNeg, Int.reduceAdd, Int.reduceSub, Int.reduceMul, Nat.reduceLeDiff, Int.reduceToNat, cell_h, cellO_cells, z1]) | ((repeat ((fail_if_success with_reducible refine hK _ _ ?_); clear hK K)); (with_reducible refine hK _ _ ?_); clear hK K))))
  refine (great_c (h1.ext hx1) (h2.ext hx1)).mono ?_
  rintro v w2 ⟨rfl, hx2⟩
  by_cases hgr : 60 < l1.length ∨ 60 < l2.length
  · rw [decide_eq_true hgr]
    ((repeat simp only [push_cast, Nat.reduceBEq, Nat.reduceLT, Nat.reduceEqDiff, reduceIte, reduceCtorEq, Nat.reduceMul, Nat.reduceAdd, Nat.reduceSub, Int.reduceEq, Int.reduceLT, Int.reduceLE, Int.reduceNeg, Int.reduceAdd, Int.reduceSub, Int.reduceMul, Nat.reduceLeDiff, Int.reduceToNat]); (repeat (first | (with_reducible first | (refine hK _ _ ?_; clear hK K) | refine (show ∀ σ' w', _ → K σ' w' from by assumption) _ _ ?_ | refine W_seq_k fun K hK => ?_ | refine W_block_k fun K hK => ?_ | refine W_skip ?_ | refine W_ret ?_) | ((first | ((with_reducible refine W_id ?_); refine W_reg (by decide) (by rfl) ?_) | (with_reducible first | refine W_cond ?_ | refine hZ _ _ ?_ | refine W_exit ?_ | refine Wo_id ?_)); repeat1' simp only [push_cast, Nat.reduceBEq, Nat.reduceLT, Nat.reduceEqDiff, reduceIte, reduceCtorEq, Nat.reduceMul, Nat.reduceAdd, Nat.reduceSub, Int.reduceEq, Int.reduceLT, Int.reduceLE, Int.reduceNeg, Int.reduceAdd, Int.reduceSub, Int.reduceMul, Nat.reduceLeDiff, Int.reduceToNat]) | ((repeat ((fail_if_success with_reducible refine hK _ _ ?_); clear hK K)); (with_reducible refine hK _ _ ?_); clear hK K))))
    refine (pile_c (hg.ext (hx1.trans hx2))).mono ?_
    rintro v w3 ⟨rfl, hx3⟩
    ((repeat simp only [push_cast, Nat.reduceBEq, Nat.reduceLT, Nat.reduceEqDiff, reduceIte, reduceCtorEq, Nat.reduceMul, Nat.reduceAdd, Nat.reduceSub, Int.reduceEq, Int.reduceLT, Int.reduceLE, Int.reduceNeg, Int.reduceAdd, Int.reduceSub, Int.reduceMul, Nat.reduceLeDiff, Int.reduceToNat]); (repeat (first | (with_reducible first | (refine hK _ _ ?_; clear hK K) | refine (show ∀ σ' w', _ → K σ' w' from by assumption) _ _ ?_ | refine W_seq_k fun K hK => ?_ | refine W_block_k fun K hK => ?_ | refine W_skip ?_ | refine W_ret ?_) | ((first | ((with_reducible refine W_id ?_); refine W_reg (by decide) (by rfl) ?_) | (with_reducible first | refine W_cond ?_ | refine hZ _ _ ?_ | refine W_exit ?_ | refine Wo_id ?_)); repeat1' simp only [push_cast, Nat.reduceBEq, Nat.reduceLT, Nat.reduceEqDiff, reduceIte, reduceCtorEq, Nat.reduceMul, Nat.reduceAdd, Nat.reduceSub, Int.reduceEq, Int.reduceLT, Int.reduceLE, Int.reduceNeg, Int.reduceAdd, Int.reduceSub, Int.reduceMul, Nat.reduceLeDiff, Int.reduceToNat]) | ((repeat ((fail_if_success with_reducible refine hK _ _ ?_); clear hK K)); (with_reducible refine hK _ _ ?_); clear hK K))))
    exact (hx1.trans hx2).trans hx3
  · rw [decide_eq_false hgr]
    have z2 := hx2.blk z1
    have hx02 := hx1.trans hx2
    ((repeat simp only [push_cast, Nat.reduceBEq, Nat.reduceLT, Nat.reduceEqDiff, reduceIte, reduceCtorEq, Nat.reduceMul, Nat.reduceAdd, Nat.reduceSub, Int.reduceEq, Int.reduceLT, Int.reduceLE, Int.reduceNeg, Int.reduceAdd, Int.reduceSub, Int.reduceMul, Nat.reduceLeDiff, Int.reduceToNat, cell_h, cellO_cells, z2]); (repeat (first | (with_reducible first | (refine hK _ _ ?_; clear hK K) | refine (show ∀ σ' w', _ → K σ' w' from by assumption) _ _ ?_ | refine W_seq_k fun K hK => ?_ | refine W_block_k fun K hK => ?_ | refine W_skip ?_ | refine W_ret ?_) | ((first | ((with_reducible refine W_id ?_); refine W_reg (by decide) (by rfl) ?_) | (with_reducible first | refine W_cond ?_ | refine hZ _ _ ?_ | refine W_exit ?_ | refine Wo_id ?_)); repeat1' simp only [push_cast, Nat.reduceBEq, Nat.reduceLT, Nat.reduceEqDiff, reduceIte, reduceCtorEq, Nat.reduceMul, Nat.reduceAdd, Nat.reduceSub, Int.reduceEq, Int.reduceLT, Int.reduceLE, Int.reduceNeg, Int.reduceAdd, Int.reduceSub, Int.reduceMul, Nat.reduceLeDiff, Int.reduceToNat, cell_h, cellO_cells, z2]) | ((repeat ((fail_if_success with_reducible refine hK _ _ ?_); clear hK K)); (with_reducible refine hK _ _ ?_); clear hK K))))
    refine (filled_c (h1.ext hx02) (h2.ext hx02) (by omega) b1 b2 (by omega)).mono ?_
    rintro v w3 ⟨ps, pa, vl, Q, bo, rfl, hS, hV, hbo⟩
    have hx3 := hS.out
    have z3 := hx3.blk z2
    have hx03 := hx02.trans hx3
    ((repeat simp only [push_cast, Nat.reduceBEq, Nat.reduceLT, Nat.reduceEqDiff, reduceIte, reduceCtorEq, Nat.reduceMul, Nat.reduceAdd, Nat.reduceSub, Int.reduceEq, Int.reduceLT, Int.reduceLE, Int.reduceNeg, Int.reduceAdd, Int.reduceSub, Int.reduceMul, Nat.reduceLeDiff, Int.reduceToNat, ext0, ext1, cell_h, cellO_cells, z3]); (repeat (first | (with_reducible first | (refine hK _ _ ?_; clear hK K) | refine (show ∀ σ' w', _ → K σ' w' from by assumption) _ _ ?_ | refine W_seq_k fun K hK => ?_ | refine W_block_k fun K hK => ?_ | refine W_skip ?_ | refine W_ret ?_) | ((first | ((with_reducible refine W_id ?_); refine W_reg (by decide) (by rfl) ?_) | (with_reducible first | refine W_cond ?_ | refine hZ _ _ ?_ | refine W_exit ?_ | refine Wo_id ?_)); repeat1' simp only [push_cast, Nat.reduceBEq, Nat.reduceLT, Nat.reduceEqDiff, reduceIte, reduceCtorEq, Nat.reduceMul, Nat.reduceAdd, Nat.reduceSub, Int.reduceEq, Int.reduceLT, Int.reduceLE, Int.reduceNeg, Int.reduceAdd, Int.reduceSub, Int.reduceMul, Nat.reduceLeDiff, Int.reduceToNat, ext0, ext1, cell_h, cellO_cells, z3]) | ((repeat ((fail_if_success with_reducible refine hK _ _ ?_); clear hK K)); (with_reducible refine hK _ _ ?_); clear hK K))))
    refine (filled_c (h1.ext hx03) (h2.ext hx03) (by omega) b1 b2 (by omega)).mono ?_
    rintro v w4 ⟨pt, pa1, vl1, Q1, bo1, rfl, hT, _, _⟩
    have hx4 := hT.out
    have z4 := hx4.blk z3
    have hx04 := hx03.trans hx4
    ((repeat simp only [push_cast, Nat.reduceBEq, Nat.reduceLT, Nat.reduceEqDiff, reduceIte, reduceCtorEq, Nat.reduceMul, Nat.reduceAdd, Nat.reduceSub, Int.reduceEq, Int.reduceLT, Int.reduceLE, Int.reduceNeg, Int.reduceAdd, Int.reduceSub, Int.reduceMul, Nat.reduceLeDiff, Int.reduceToNat, ext0, ext1, cell_h, cellO_cells, z4]); (repeat (first | (with_reducible first | (refine hK _ _ ?_; clear hK K) | refine (show ∀ σ' w', _ → K σ' w' from by assumption) _ _ ?_ | refine W_seq_k fun K hK => ?_ | refine W_block_k fun K hK => ?_ | refine W_skip ?_ | refine W_ret ?_) | ((first | ((with_reducible refine W_id ?_); refine W_reg (by decide) (by rfl) ?_) | (with_reducible first | refine W_cond ?_ | refine hZ _ _ ?_ | refine W_exit ?_ | refine Wo_id ?_)); repeat1' simp only [push_cast, Nat.reduceBEq, Nat.reduceLT, Nat.reduceEqDiff, reduceIte, reduceCtorEq, Nat.reduceMul, Nat.reduceAdd, Nat.reduceSub, Int.reduceEq, Int.reduceLT, Int.reduceLE, Int.reduceNeg, Int.reduceAdd, Int.reduceSub, Int.reduceMul, Nat.reduceLeDiff, Int.reduceToNat, ext0, ext1, cell_h, cellO_cells, z4]) | ((repeat ((fail_if_success with_reducible refine hK _ _ ?_); clear hK K)); (with_reducible refine hK _ _ ?_); clear hK K))))
    refine (filled_c (h1.ext hx04) (h2.ext hx04) (by omega) b1 b2 (by omega)).mono ?_
    rintro v w5 ⟨pu, pa2, vl2, Q2, bo2, rfl, hU, _, _⟩
    have hx5 := hU.out
    have z5 := hx5.blk z4
    have hx05 := hx04.trans hx5
    ((repeat simp only [push_cast, Nat.reduceBEq, Nat.reduceLT, Nat.reduceEqDiff, reduceIte, reduceCtorEq, Nat.reduceMul, Nat.reduceAdd, Nat.reduceSub, Int.reduceEq, Int.reduceLT, Int.reduceLE, Int.reduceNeg, Int.reduceAdd, Int.reduceSub, Int.reduceMul, Nat.reduceLeDiff, Int.reduceToNat, ext0, ext1, cell_h, cellO_cells, z5]); (repeat (first | (with_reducible first | (refine hK _ _ ?_; clear hK K) | refine (show ∀ σ' w', _ → K σ' w' from by assumption) _ _ ?_ | refine W_seq_k fun K hK => ?_ | refine W_block_k fun K hK => ?_ | refine W_skip ?_ | refine W_ret ?_) | ((first | ((with_reducible refine W_id ?_); refine W_reg (by decide) (by rfl) ?_) | (with_reducible first | refine W_cond ?_ | refine hZ _ _ ?_ | refine W_exit ?_ | refine Wo_id ?_)); repeat1' simp only [push_cast, Nat.reduceBEq, Nat.reduceLT, Nat.reduceEqDiff, reduceIte, reduceCtorEq, Nat.reduceMul, Nat.reduceAdd, Nat.reduceSub, Int.reduceEq, Int.reduceLT, Int.reduceLE, Int.reduceNeg, Int.reduceAdd, Int.reduceSub, Int.reduceMul, Nat.reduceLeDiff, Int.reduceToNat, ext0, ext1, cell_h, cellO_cells, z5]) | ((repeat ((fail_if_success with_reducible refine hK _ _ ?_); clear hK K)); (with_reducible refine hK _ _ ?_); clear hK K))))
    refine (filled_c (h1.ext hx05) (h2.ext hx05) (by omega) b1 b2 (by omega)).mono ?_
    rintro v w6 ⟨pv, pa3, vl3, Q3, bo3, rfl, hW, _, _⟩
    have hx6 := hW.out
    have hx06 := hx05.trans hx6
    have hS' := ((Ow.first hS hx02).pass hx4).pass (hx5.trans hx6)
    have hT' := ((Ow.first hT hx03).pass hx5).pass hx6
    have hU' := (Ow.first hU hx04).pass hx6
    have hW' := Ow.first hW hx05
    have hV' := ((hV.ext hx4).ext hx5).ext hx6
    have hz := elS_nm (l1 := l1) (l2 := l2) (n := (kitL l1 l2).length)
    have hinc := elS_inc (kitL l1 l2) (kitL l1 l2).length
    have hsl := elS_len (kitL l1 l2) (kitL l1 l2).length
    have hkl := kitL_len l1 l2
    have hbl : ∀ b, bo = some b → b < w3.heap.size := fun b hb => by subst hb; exact hV.lt
    clear hS hT hU hW hV
    generalize elS (kitL l1 l2) (kitL l1 l2).length = s at *
    generalize kitL l1 l2 = L at *
    obtain ⟨xa, xc, hvl, _⟩ := hV'.ints_len
    rw [List.length_map] at hvl
    subst hvl
    have hn3 := hx3.alike.size
    have hn4 := hx4.alike.size
    have hn5 := hx5.alike.size
    have hn02 := hx02.alike.size
    obtain ⟨Os, hOs⟩ : ∃ Os : Nat → Prop, Os = fun b => w2.heap.size ≤ b ∧ b < w3.heap.size ∧ ¬ Q b := ⟨_, rfl⟩
    obtain ⟨Ot, hOt⟩ : ∃ Os : Nat → Prop, Os = fun b => w3.heap.size ≤ b ∧ b < w4.heap.size ∧ ¬ Q1 b := ⟨_, rfl⟩
    obtain ⟨Ou, hOu⟩ : ∃ Os : Nat → Prop, Os = fun b => w4.heap.size ≤ b ∧ b < w5.heap.size ∧ ¬ Q2 b := ⟨_, rfl⟩
    obtain ⟨Ov, hOv⟩ : ∃ Os : Nat → Prop, Os = fun b => w5.heap.size ≤ b ∧ b < w6.heap.size ∧ ¬ Q3 b := ⟨_, rfl⟩
    rw [← hOs] at hS'
    rw [← hOt] at hT'
    rw [← hOu] at hU'
    rw [← hOv] at hW'
    have kS : ∀ b, Os b → w.heap.size ≤ b ∧ ¬ RB Ot Ou Ov bo b := fun b hb => by
      rw [hOs] at hb
      refine ⟨by omega, fun hr => ?_⟩
      rcases hr with hr | hr | hr | hr
      · rw [hOt] at hr; omega
      · rw [hOu] at hr; omega
      · rw [hOv] at hr; omega
      · exact hb.2.2 (hbo b hr).1
    have kT : ∀ b, Ot b → w.heap.size ≤ b ∧ ¬ Ou b ∧ ¬ Ov b ∧ bo ≠ some b := fun b hb => by
      rw [hOt] at hb
      refine ⟨by omega, fun hr => ?_, fun hr => ?_, fun hr => ?_⟩
      · rw [hOu] at hr; omega
      · rw [hOv] at hr; omega
      · have := hbl b hr; omega
    have kU : ∀ b, Ou b → w.heap.size ≤ b ∧ ¬ Ov b ∧ bo ≠ some b := fun b hb => by
      rw [hOu] at hb
      refine ⟨by omega, fun hr => ?_, fun hr => ?_⟩
      · rw [hOv] at hr; omega
      · have := hbl b hr; omega
    have kV : ∀ b, Ov b → w.heap.size ≤ b ∧ bo ≠ some b := fun b hb => by
      rw [hOv] at hb
      refine ⟨by omega, fun hr => ?_⟩
      have := hbl b hr; omega
    have kbo : ∀ b, bo = some b → w.heap.size ≤ b := fun b hb => by have := (hbo b hb).2; omega
    clear hOs hOt hOu hOv hbo hbl z1 z2 z3 z4 z5
    have hR : BkR w w6 pt pu pv Ot Ou Ov L s s s (.slice xa s.length xc) (s.map OpS.node) bo := ⟨hT', hU', hW', hV'⟩
    have hsb : s.length < 10000 := by omega
    ((repeat simp only [push_cast, Nat.reduceBEq, Nat.reduceLT, Nat.reduceEqDiff, reduceIte, reduceCtorEq, Nat.reduceMul, Nat.reduceAdd, Nat.reduceSub, Int.reduceEq, Int.reduceLT, Int.reduceLE, Int.reduceNeg, Int.reduceAdd, Int.reduceSub, Int.reduceMul, Nat.reduceLeDiff, Int.reduceToNat, ext0, ext1, not_true_eq_false, not_false_eq_true]); (repeat (first | (with_reducible first | (refine hK _ _ ?_; clear hK K) | refine (show ∀ σ' w', _ → K σ' w' from by assumption) _ _ ?_ | refine W_seq_k fun K hK => ?_ | refine W_block_k fun K hK => ?_ | refine W_skip ?_ | refine W_ret ?_) | ((first | ((with_reducible refine W_id ?_); refine W_reg (by decide) (by rfl) ?_) | (with_reducible first | refine W_cond ?_ | refine hZ _ _ ?_ | refine W_exit ?_ | refine Wo_id ?_)); repeat1' simp only [push_cast, Nat.reduceBEq, Nat.reduceLT, Nat.reduceEqDiff, reduceIte, reduceCtorEq, Nat.reduceMul, Nat.reduceAdd, Nat.reduceSub, Int.reduceEq, Int.reduceLT, Int.reduceLE, Int.reduceNeg, Int.reduceAdd, Int.reduceSub, Int.reduceMul, Nat.reduceLeDiff, Int.reduceToNat, ext0, ext1, not_true_eq_false, not_false_eq_true]) | ((repeat ((fail_if_success with_reducible refine hK _ _ ?_); clear hK K)); (with_reducible refine hK _ _ ?_); clear hK K))))
    refine (onodes hS' hsb).mono ?_
    rintro v w7 ⟨bo7, hN7, hx7⟩
    ((repeat simp only [push_cast, Nat.reduceBEq, Nat.reduceLT, Nat.reduceEqDiff, reduceIte, reduceCtorEq, Nat.reduceMul, Nat.reduceAdd, Nat.reduceSub, Int.reduceEq, Int.reduceLT, Int.reduceLE, Int.reduceNeg, Int.reduceAdd, Int.reduceSub, Int.reduceMul, Nat.reduceLeDiff, Int.reduceToNat]); (repeat (first | (with_reducible first | (refine hK _ _ ?_; clear hK K) | refine (show ∀ σ' w', _ → K σ' w' from by assumption) _ _ ?_ | refine W_seq_k fun K hK => ?_ | refine W_block_k fun K hK => ?_ | refine W_skip ?_ | refine W_ret ?_) | ((first | ((with_reducible refine W_id ?_); refine W_reg (by decide) (by rfl) ?_) | (with_reducible first | refine W_cond ?_ | refine hZ _ _ ?_ | refine W_exit ?_ | refine Wo_id ?_)); repeat1' simp only [push_cast, Nat.reduceBEq, Nat.reduceLT, Nat.reduceEqDiff, reduceIte, reduceCtorEq, Nat.reduceMul, Nat.reduceAdd, Nat.reduceSub, Int.reduceEq, Int.reduceLT, Int.reduceLE, Int.reduceNeg, Int.reduceAdd, Int.reduceSub, Int.reduceMul, Nat.reduceLeDiff, Int.reduceToNat]) | ((repeat ((fail_if_success with_reducible refine hK _ _ ?_); clear hK K)); (with_reducible refine hK _ _ ?_); clear hK K))))
    refine (ints_c hN7 (hV'.ext hx7) (by rw [List.length_map]; omega)).mono ?_
    rintro v w8 ⟨rfl, hx8⟩
    have hS8 := (hS'.pass hx7).pass hx8
    have hR8 := (hR.upd (hx7.trans hx8) fun _ h => h.elim)
    have s0 : inI64 ((s.length : Int) - 1) := by unfold inI64; omega
    rw [decide_eq_true rfl]
    clear hS' hT' hU' hW' hV' hN7 hR
    ((repeat simp only [push_cast, Nat.reduceBEq, Nat.reduceLT, Nat.reduceEqDiff, reduceIte, reduceCtorEq, Nat.reduceMul, Nat.reduceAdd, Nat.reduceSub, Int.reduceEq, Int.reduceLT, Int.reduceLE, Int.reduceNeg, Int.reduceAdd, Int.reduceSub, Int.reduceMul, Nat.reduceLeDiff, Int.reduceToNat, not_true_eq_false, not_false_eq_true, s0]); (repeat (first | (with_reducible first | (refine hK _ _ ?_; clear hK K) | refine (show ∀ σ' w', _ → K σ' w' from by assumption) _ _ ?_ | refine W_seq_k fun K hK => ?_ | refine W_block_k fun K hK => ?_ | refine W_skip ?_ | refine W_ret ?_) | ((first | ((with_reducible refine W_id ?_); refine W_reg (by decide) (by rfl) ?_) | (with_reducible first | refine W_cond ?_ | refine hZ _ _ ?_ | refine W_exit ?_ | refine Wo_id ?_)); repeat1' simp only [push_cast, Nat.reduceBEq, Nat.reduceLT, Nat.reduceEqDiff, reduceIte, reduceCtorEq, Nat.reduceMul, Nat.reduceAdd, Nat.reduceSub, Int.reduceEq, Int.reduceLT, Int.reduceLE, Int.reduceNeg, Int.reduceAdd, Int.reduceSub, Int.reduceMul, Nat.reduceLeDiff, Int.reduceToNat, not_true_eq_false, not_false_eq_true, s0]) | ((repeat ((fail_if_success with_reducible refine hK _ _ ?_); clear hK K)); (with_reducible refine hK _ _ ?_); clear hK K))))
    refine W_loop (S := Nat) (fun k => [(1, .int .u8 (by_ : Int)), (5, .pointer (some ⟨ps, 0, none⟩)), (6, .slice xa s.length xc), (7, .pointer (some ⟨pt, 0, none⟩)), (9, .pointer (some ⟨pu, 0, none⟩)), (11, .pointer (some ⟨pv, 0, none⟩)), (13, .int .i64 ((k : Int) - 1))])
      (fun k w9 => k ≤ s.length ∧ ∃ O, Ow w w9 O ps L (s.take k) ∧ (∀ b, O b → w.heap.size ≤ b ∧ ¬ RB Ot Ou Ov bo b) ∧ BkR w w9 pt pu pv Ot Ou Ov L s s s (.slice xa s.length xc) (s.map OpS.node) bo) (fun k => k) s.length ?_ ?_ ?_
    · (repeat simp only [push_cast, Nat.reduceBEq, Nat.reduceLT, Nat.reduceEqDiff, reduceIte, reduceCtorEq, Nat.reduceMul, Nat.reduceAdd, Nat.reduceSub, Int.reduceEq, Int.reduceLT, Int.reduceLE, Int.reduceNeg, Int.reduceAdd, Int.reduceSub, Int.reduceMul, Nat.reduceLeDiff, Int.reduceToNat])
    · exact ⟨Nat.le_refl _, Os, by rw [List.take_length]; exact hS8, kS, hR8⟩
    clear hS8 hR8 kS
    rintro k w9 ⟨hk, O, hS9, kO, hR9⟩
    cases k with
    | succ k =>
      have e0 : (((k + 1 : Nat) : Int) - 1) = k := by omega
      rw [e0]
      have hkl : k < s.length := by omega
      have d0 : (0 : Int) ≤ (k : Int) := by omega
      have d1 : (k : Int) < (s.length : Int) := by omega
      have d2 : inI64 ((k : Int) - 1) := by unfold inI64; omega
      have hsk : (s.take (k + 1)).length < 10000 := by rw [List.length_take]; omega
      have hlk : (s.take k).length = k := by rw [List.length_take]; omega
      have eT := top_take hkl
      have eI := index_take hinc hkl
      have eD := drop_take hkl
      obtain ⟨b, o, n', c', e, hb⟩ := hR9.2.2.2.some_of (fun e => by have := congrArg List.length e; simp [intCells] at this; rw [this] at hkl; simp at hkl)
      cases e
      subst hb
      obtain ⟨nk, hnk⟩ : ∃ x, x = s[k].node := ⟨_, rfl⟩
      rw [← hnk] at eT eI
      have hgk : (s.map OpS.node)[k]? = some nk := by simp [hkl, hnk]
      clear hnk
      have q0 := hR9.2.2.2.ints_cell hgk
      rw [cell_h] at q0
      (repeat (first | (with_reducible first | (refine hK _ _ ?_; clear hK K) | refine (show ∀ σ' w', _ → K σ' w' from by assumption) _ _ ?_ | refine W_seq_k fun K hK => ?_ | refine W_block_k fun K hK => ?_ | refine W_skip ?_ | refine W_ret ?_) | ((first | ((with_reducible refine W_id ?_); refine W_reg (by decide) (by rfl) ?_) | (with_reducible first | refine W_cond ?_ | refine hZ _ _ ?_ | refine W_exit ?_ | refine Wo_id ?_)); repeat1' simp only [push_cast, Nat.reduceBEq, Nat.reduceLT, Nat.reduceEqDiff, reduceIte, reduceCtorEq, Nat.reduceMul, Nat.reduceAdd, Nat.reduceSub, Int.reduceEq, Int.reduceLT, Int.reduceLE, Int.reduceNeg, Int.reduceAdd, Int.reduceSub, Int.reduceMul, Nat.reduceLeDiff, Int.reduceToNat, d0]) | ((repeat ((fail_if_success with_reducible refine hK _ _ ?_); clear hK K)); (with_reducible refine hK _ _ ?_); clear hK K)))
      refine W_draw (.pas 0 (.pas 2 (.pas 3 (.pas 4 (.pas 5 (.act 1 (.pas 6 (.pas 7 (.pas 8 (.pas 9 (.pas 10 (.pas 11 (.pas 12 (.pas 14 (.act 13 (.pas 15 (.pas 16 (.pas 17 (.pas 18 (.pas 20 (.pas 21 (.pas 22 (.pas 23 (.act 19 (.pas 24 (.pas 25 (.pas 26 (.pas 27 (.pas 29 (.act 28 (.pas 30 (.pas 31 .fin)))))))))))))))))))))))))))))))) (fun q => q = b) (by decide) mixed (by kernel_rfl) ?_
      have hxd := Ext.drew w9
      have hSd := hS9.pass hxd
      have hRd := hR9.upd hxd fun _ h => h.elim
      generalize w9.drew = wd at *
      have hbl := hRd.2.2.2.lt
      have qd := hRd.2.2.2.ints_cell hgk
      rw [cell_h] at qd
      (repeat (first | ((first | refine pas_plain rfl ?_ | refine pas_g rfl rfl ?_ | refine act_plain rfl ?_ | refine act_g rfl rfl ?_ | refine last_plain rfl ?_ | refine tail_plain rfl ?_ | refine tail_g rfl rfl ?_); (repeat simp only [push_cast, Nat.reduceBEq, Nat.reduceLT, Nat.reduceEqDiff, reduceIte, reduceCtorEq, Nat.reduceMul, Nat.reduceAdd, Nat.reduceSub, Int.reduceEq, Int.reduceLT, Int.reduceLE, Int.reduceNeg, Int.reduceAdd, Int.reduceSub, Int.reduceMul, Nat.reduceLeDiff, Int.reduceToNat, cell_h, cellO_cells, qd, d0, d1])) | (refine tail_fin ?_) | (refine sch_fin ?_)))
      have ho := otop hSd hsk
      rw [eT] at ho
      refine ho.mono ?_
      intro v w' ⟨hv, hw⟩
      subst hv; subst w'
      refine ⟨kept.refl _ _, ?_⟩
      (repeat (first | ((first | refine pas_plain rfl ?_ | refine pas_g rfl rfl ?_ | refine act_plain rfl ?_ | refine act_g rfl rfl ?_ | refine last_plain rfl ?_ | refine tail_plain rfl ?_ | refine tail_g rfl rfl ?_); (repeat simp only [push_cast, Nat.reduceBEq, Nat.reduceLT, Nat.reduceEqDiff, reduceIte, reduceCtorEq, Nat.reduceMul, Nat.reduceAdd, Nat.reduceSub, Int.reduceEq, Int.reduceLT, Int.reduceLE, Int.reduceNeg, Int.reduceAdd, Int.reduceSub, Int.reduceMul, Nat.reduceLeDiff, Int.reduceToNat, cell_h, cellO_cells, qd, d0, d1, eq_self, not_true_eq_false])) | (refine tail_fin ?_) | (refine sch_fin ?_)))
      have ho := oindex hSd hsk nk
      rw [eI] at ho
      refine ho.mono ?_
      intro v w' ⟨hv, hw⟩
      subst hv; subst w'
      refine ⟨kept.refl _ _, ?_⟩
      (repeat (first | ((first | refine pas_plain rfl ?_ | refine pas_g rfl rfl ?_ | refine act_plain rfl ?_ | refine act_g rfl rfl ?_ | refine last_plain rfl ?_ | refine tail_plain rfl ?_ | refine tail_g rfl rfl ?_); (repeat simp only [push_cast, Nat.reduceBEq, Nat.reduceLT, Nat.reduceEqDiff, reduceIte, reduceCtorEq, Nat.reduceMul, Nat.reduceAdd, Nat.reduceSub, Int.reduceEq, Int.reduceLT, Int.reduceLE, Int.reduceNeg, Int.reduceAdd, Int.reduceSub, Int.reduceMul, Nat.reduceLeDiff, Int.reduceToNat, cell_h, cellO_cells, qd, d0, d1, eq_self, not_true_eq_false])) | (refine tail_fin ?_) | (refine sch_fin ?_)))
      have ho := opop hSd hsk
      rw [eT, eD] at ho
      refine ho.mono ?_
      rintro v w10 ⟨rfl, hS10, hu10⟩
      have hR10 := hRd.upd hu10 kO
      refine ⟨kept_upd hu10 fun q hq => ⟨by have : q = b := hq; omega, fun h => (kO q h).2 (.inr (.inr (.inr (by have : q = b := hq; rw [this]))))⟩, ?_⟩
      have qe := hR10.2.2.2.ints_cell hgk
      rw [cell_h] at qe
      (repeat (first | ((first | refine pas_plain rfl ?_ | refine pas_g rfl rfl ?_ | refine act_plain rfl ?_ | refine act_g rfl rfl ?_ | refine last_plain rfl ?_ | refine tail_plain rfl ?_ | refine tail_g rfl rfl ?_); (repeat simp only [push_cast, Nat.reduceBEq, Nat.reduceLT, Nat.reduceEqDiff, reduceIte, reduceCtorEq, Nat.reduceMul, Nat.reduceAdd, Nat.reduceSub, Int.reduceEq, Int.reduceLT, Int.reduceLE, Int.reduceNeg, Int.reduceAdd, Int.reduceSub, Int.reduceMul, Nat.reduceLeDiff, Int.reduceToNat, cell_h, cellO_cells, qe, d0, d1, eq_self, not_true_eq_false])) | (refine tail_fin ?_) | (refine sch_fin ?_)))
      have ho := olen hS10
      rw [hlk] at ho
      refine ho.mono ?_
      intro v w' ⟨hv, hw⟩
      subst hv; subst w'
      refine ⟨kept.refl _ _, ?_⟩
      (repeat (first | ((first | refine pas_plain rfl ?_ | refine pas_g rfl rfl ?_ | refine act_plain rfl ?_ | refine act_g rfl rfl ?_ | refine last_plain rfl ?_ | refine tail_plain rfl ?_ | refine tail_g rfl rfl ?_); (repeat simp only [push_cast, Nat.reduceBEq, Nat.reduceLT, Nat.reduceEqDiff, reduceIte, reduceCtorEq, Nat.reduceMul, Nat.reduceAdd, Nat.reduceSub, Int.reduceEq, Int.reduceLT, Int.reduceLE, Int.reduceNeg, Int.reduceAdd, Int.reduceSub, Int.reduceMul, Nat.reduceLeDiff, Int.reduceToNat, cell_h, cellO_cells, qe, d0, d1, eq_self, not_true_eq_false])) | (refine tail_fin ?_) | (refine sch_fin ?_)))
      ((repeat simp only [push_cast, Nat.reduceBEq, Nat.reduceLT, Nat.reduceEqDiff, reduceIte, reduceCtorEq, Nat.reduceMul, Nat.reduceAdd, Nat.reduceSub, Int.reduceEq, Int.reduceLT, Int.reduceLE, Int.reduceNeg, Int.reduceAdd, Int.reduceSub, Int.reduceMul, Nat.reduceLeDiff, Int.reduceToNat, d2, eq_self, not_true_eq_false]); (repeat (first | (with_reducible first | (refine hK _ _ ?_; clear hK K) | refine (show ∀ σ' w', _ → K σ' w' from by assumption) _ _ ?_ | refine W_seq_k fun K hK => ?_ | refine W_block_k fun K hK => ?_ | refine W_skip ?_ | refine W_ret ?_) | ((first | ((with_reducible refine W_id ?_); refine W_reg (by decide) (by rfl) ?_) | (with_reducible first | refine W_cond ?_ | refine hZ _ _ ?_ | refine W_exit ?_ | refine Wo_id ?_)); repeat1' simp only [push_cast, Nat.reduceBEq, Nat.reduceLT, Nat.reduceEqDiff, reduceIte, reduceCtorEq, Nat.reduceMul, Nat.reduceAdd, Nat.reduceSub, Int.reduceEq, Int.reduceLT, Int.reduceLE, Int.reduceNeg, Int.reduceAdd, Int.reduceSub, Int.reduceMul, Nat.reduceLeDiff, Int.reduceToNat, d2, eq_self, not_true_eq_false]) | ((repeat ((fail_if_success with_reducible refine hK _ _ ?_); clear hK K)); (with_reducible refine hK _ _ ?_); clear hK K))))
      refine ⟨k, by omega, ?_⟩
      (repeat simp only [push_cast, Nat.reduceBEq, Nat.reduceLT, Nat.reduceEqDiff, reduceIte, reduceCtorEq, Nat.reduceMul, Nat.reduceAdd, Nat.reduceSub, Int.reduceEq, Int.reduceLT, Int.reduceLE, Int.reduceNeg, Int.reduceAdd, Int.reduceSub, Int.reduceMul, Nat.reduceLeDiff, Int.reduceToNat])
      have hszd := hRd.1.out.alike.size
      refine ⟨by omega, _, hS10, fun q hq => ?_, hR10⟩
      rcases hq with hq | hq
      · exact kO q hq
      · refine ⟨by omega, fun hr => ?_⟩
        have h3 : q < wd.heap.size := by
          obtain ⟨⟨_, _, _, _, t3⟩, ⟨_, _, _, _, u3⟩, ⟨_, _, _, _, v3⟩, hv4⟩ := hRd
          rcases hr with hr | hr | hr | hr
          · exact (t3 q hr).2
          · exact (u3 q hr).2
          · exact (v3 q hr).2
          · cases hr; exact hbl
        omega
    | zero =>
      have e0 : (((0 : Nat) : Int) - 1) = -1 := rfl
      rw [e0]
      have b0 : ¬ (0 : Int) ≤ -1 := by omega
      rw [List.take_zero] at hS9
      obtain ⟨hT9, hU9, hV9, hL9⟩ := hR9
      (repeat (first | (with_reducible first | (refine hK _ _ ?_; clear hK K) | refine (show ∀ σ' w', _ → K σ' w' from by assumption) _ _ ?_ | refine W_seq_k fun K hK => ?_ | refine W_block_k fun K hK => ?_ | refine W_skip ?_ | refine W_ret ?_) | ((first | ((with_reducible refine W_id ?_); refine W_reg (by decide) (by rfl) ?_) | (with_reducible first | refine W_cond ?_ | refine hZ _ _ ?_ | refine W_exit ?_ | refine Wo_id ?_)); repeat1' simp only [push_cast, Nat.reduceBEq, Nat.reduceLT, Nat.reduceEqDiff, reduceIte, reduceCtorEq, Nat.reduceMul, Nat.reduceAdd, Nat.reduceSub, Int.reduceEq, Int.reduceLT, Int.reduceLE, Int.reduceNeg, Int.reduceAdd, Int.reduceSub, Int.reduceMul, Nat.reduceLeDiff, Int.reduceToNat, b0]) | ((repeat ((fail_if_success with_reducible refine hK _ _ ?_); clear hK K)); (with_reducible refine hK _ _ ?_); clear hK K)))
      refine (name_c by_ hby).mono ?_
      rintro v w10 ⟨rfl, hx10⟩
      obtain ⟨pa4, Q4, hA4, _⟩ := hT9.pass hx10
      have hany := hasW_all (s := s) (p := fun o => htmlS o [nmT by_])
      ((repeat simp only [push_cast, Nat.reduceBEq, Nat.reduceLT, Nat.reduceEqDiff, reduceIte, reduceCtorEq, Nat.reduceMul, Nat.reduceAdd, Nat.reduceSub, Int.reduceEq, Int.reduceLT, Int.reduceLE, Int.reduceNeg, Int.reduceAdd, Int.reduceSub, Int.reduceMul, Nat.reduceLeDiff, Int.reduceToNat]); (repeat (first | (with_reducible first | (refine hK _ _ ?_; clear hK K) | refine (show ∀ σ' w', _ → K σ' w' from by assumption) _ _ ?_ | refine W_seq_k fun K hK => ?_ | refine W_block_k fun K hK => ?_ | refine W_skip ?_ | refine W_ret ?_) | ((first | ((with_reducible refine W_id ?_); refine W_reg (by decide) (by rfl) ?_) | (with_reducible first | refine W_cond ?_ | refine hZ _ _ ?_ | refine W_exit ?_ | refine Wo_id ?_)); repeat1' simp only [push_cast, Nat.reduceBEq, Nat.reduceLT, Nat.reduceEqDiff, reduceIte, reduceCtorEq, Nat.reduceMul, Nat.reduceAdd, Nat.reduceSub, Int.reduceEq, Int.reduceLT, Int.reduceLE, Int.reduceNeg, Int.reduceAdd, Int.reduceSub, Int.reduceMul, Nat.reduceLeDiff, Int.reduceToNat]) | ((repeat ((fail_if_success with_reducible refine hK _ _ ?_); clear hK K)); (with_reducible refine hK _ _ ?_); clear hK K))))
      refine hasW_c hA4 hg hsb hz _ _ fun u11 w11 hx11 => ?_
      rw [hany]
      obtain ⟨m1, hm1, hm1l, hm1c⟩ := untS_take s [nmT by_]
      obtain ⟨m2, m3, hm2, hm3, hm2l, hm3l⟩ := dropS_two s (nmT by_)
      generalize hbh : (s.any fun o => htmlS o [nmT by_]) = bh at hm1c ⊢
      ((repeat simp only [push_cast, Nat.reduceBEq, Nat.reduceLT, Nat.reduceEqDiff, reduceIte, reduceCtorEq, Nat.reduceMul, Nat.reduceAdd, Nat.reduceSub, Int.reduceEq, Int.reduceLT, Int.reduceLE, Int.reduceNeg, Int.reduceAdd, Int.reduceSub, Int.reduceMul, Nat.reduceLeDiff, Int.reduceToNat]); (repeat (first | (with_reducible first | (refine hK _ _ ?_; clear hK K) | refine (show ∀ σ' w', _ → K σ' w' from by assumption) _ _ ?_ | refine W_seq_k fun K hK => ?_ | refine W_block_k fun K hK => ?_ | refine W_skip ?_ | refine W_ret ?_) | ((first | ((with_reducible refine W_id ?_); refine W_reg (by decide) (by rfl) ?_) | (with_reducible first | refine W_cond ?_ | refine hZ _ _ ?_ | refine W_exit ?_ | refine Wo_id ?_)); repeat1' simp only [push_cast, Nat.reduceBEq, Nat.reduceLT, Nat.reduceEqDiff, reduceIte, reduceCtorEq, Nat.reduceMul, Nat.reduceAdd, Nat.reduceSub, Int.reduceEq, Int.reduceLT, Int.reduceLE, Int.reduceNeg, Int.reduceAdd, Int.reduceSub, Int.reduceMul, Nat.reduceLeDiff, Int.reduceToNat]) | ((repeat ((fail_if_success with_reducible refine hK _ _ ?_); clear hK K)); (with_reducible refine hK _ _ ?_); clear hK K))))
      refine (name_c by_ hby).mono ?_
      rintro v w12 ⟨rfl, hx12⟩
      have hx912 := (hx10.trans hx11).trans hx12
      ((repeat simp only [push_cast, Nat.reduceBEq, Nat.reduceLT, Nat.reduceEqDiff, reduceIte, reduceCtorEq, Nat.reduceMul, Nat.reduceAdd, Nat.reduceSub, Int.reduceEq, Int.reduceLT, Int.reduceLE, Int.reduceNeg, Int.reduceAdd, Int.reduceSub, Int.reduceMul, Nat.reduceLeDiff, Int.reduceToNat]); (repeat (first | (with_reducible first | (refine hK _ _ ?_; clear hK K) | refine (show ∀ σ' w', _ → K σ' w' from by assumption) _ _ ?_ | refine W_seq_k fun K hK => ?_ | refine W_block_k fun K hK => ?_ | refine W_skip ?_ | refine W_ret ?_) | ((first | ((with_reducible refine W_id ?_); refine W_reg (by decide) (by rfl) ?_) | (with_reducible first | refine W_cond ?_ | refine hZ _ _ ?_ | refine W_exit ?_ | refine Wo_id ?_)); repeat1' simp only [push_cast, Nat.reduceBEq, Nat.reduceLT, Nat.reduceEqDiff, reduceIte, reduceCtorEq, Nat.reduceMul, Nat.reduceAdd, Nat.reduceSub, Int.reduceEq, Int.reduceLT, Int.reduceLE, Int.reduceNeg, Int.reduceAdd, Int.reduceSub, Int.reduceMul, Nat.reduceLeDiff, Int.reduceToNat]) | ((repeat ((fail_if_success with_reducible refine hK _ _ ?_); clear hK K)); (with_reducible refine hK _ _ ?_); clear hK K))))
      refine bs_one styS (by decide) (by decide) (v := .string (nmT by_)) rfl ?_
      rw [vc_str]
      have n1 := names1 w12 (nmT by_)
      have hx13 := hx912.trans (Ext.alloc w12 (.cells #[.string (nmT by_)] 9))
      generalize w12.alloc (.cells #[.string (nmT by_)] 9) = w13 at *
      have hS13 := hS9.pass hx13
      have hT13 := hT9.pass hx13
      have hU13 := hU9.pass hx13
      have hV13 := hV9.pass hx13
      have hL13 := hL9.ext hx13
      have lT : ∀ b, Ot b → b < w13.heap.size := by obtain ⟨_, _, _, _, h⟩ := hT13; exact fun b hb => (h b hb).2
      have lU : ∀ b, Ou b → b < w13.heap.size := by obtain ⟨_, _, _, _, h⟩ := hU13; exact fun b hb => (h b hb).2
      have lV : ∀ b, Ov b → b < w13.heap.size := by obtain ⟨_, _, _, _, h⟩ := hV13; exact fun b hb => (h b hb).2
      have lS : ∀ b, O b → b < w13.heap.size := by obtain ⟨_, _, _, _, h⟩ := hS13; exact fun b hb => (h b hb).2
      have lL : ∀ b, bo = some b → b < w13.heap.size := fun b hb => by subst hb; exact hL13.lt
      refine (ountil hT13 hsb n1 (show 1 < 1000000000 by decide)).mono ?_
      rintro v w14 ⟨rfl, hT14, hu14⟩
      rw [hm1] at hT14
      generalize (untS s [nmT by_]).2 = ec at *
      have hS14 := hS13.other hu14 fun b hb => ⟨(kT b hb).1, fun ho => (kO b ho).2 (.inl hb)⟩
      have hU14 := hU13.other hu14 fun b hb => ⟨(kT b hb).1, (kT b hb).2.1⟩
      have hV14 := hV13.other hu14 fun b hb => ⟨(kT b hb).1, (kT b hb).2.2.1⟩
      have hL14 := hL13.upd hu14 fun b hb hg => (kT b hg).2.2.2 hb
      have hs14 := hu14.alike.size
      ((repeat simp only [push_cast, Nat.reduceBEq, Nat.reduceLT, Nat.reduceEqDiff, reduceIte, reduceCtorEq, Nat.reduceMul, Nat.reduceAdd, Nat.reduceSub, Int.reduceEq, Int.reduceLT, Int.reduceLE, Int.reduceNeg, Int.reduceAdd, Int.reduceSub, Int.reduceMul, Nat.reduceLeDiff, Int.reduceToNat]); (repeat (first | (with_reducible first | (refine hK _ _ ?_; clear hK K) | refine (show ∀ σ' w', _ → K σ' w' from by assumption) _ _ ?_ | refine W_seq_k fun K hK => ?_ | refine W_block_k fun K hK => ?_ | refine W_skip ?_ | refine W_ret ?_) | ((first | ((with_reducible refine W_id ?_); refine W_reg (by decide) (by rfl) ?_) | (with_reducible first | refine W_cond ?_ | refine hZ _ _ ?_ | refine W_exit ?_ | refine Wo_id ?_)); repeat1' simp only [push_cast, Nat.reduceBEq, Nat.reduceLT, Nat.reduceEqDiff, reduceIte, reduceCtorEq, Nat.reduceMul, Nat.reduceAdd, Nat.reduceSub, Int.reduceEq, Int.reduceLT, Int.reduceLE, Int.reduceNeg, Int.reduceAdd, Int.reduceSub, Int.reduceMul, Nat.reduceLeDiff, Int.reduceToNat]) | ((repeat ((fail_if_success with_reducible refine hK _ _ ?_); clear hK K)); (with_reducible refine hK _ _ ?_); clear hK K))))
      refine (name_c by_ hby).mono ?_
      rintro v w15 ⟨rfl, hx15⟩
      have hs15 := hx15.alike.size
      ((repeat simp only [push_cast, Nat.reduceBEq, Nat.reduceLT, Nat.reduceEqDiff, reduceIte, reduceCtorEq, Nat.reduceMul, Nat.reduceAdd, Nat.reduceSub, Int.reduceEq, Int.reduceLT, Int.reduceLE, Int.reduceNeg, Int.reduceAdd, Int.reduceSub, Int.reduceMul, Nat.reduceLeDiff, Int.reduceToNat]); (repeat (first | (with_reducible first | (refine hK _ _ ?_; clear hK K) | refine (show ∀ σ' w', _ → K σ' w' from by assumption) _ _ ?_ | refine W_seq_k fun K hK => ?_ | refine W_block_k fun K hK => ?_ | refine W_skip ?_ | refine W_ret ?_) | ((first | ((with_reducible refine W_id ?_); refine W_reg (by decide) (by rfl) ?_) | (with_reducible first | refine W_cond ?_ | refine hZ _ _ ?_ | refine W_exit ?_ | refine Wo_id ?_)); repeat1' simp only [push_cast, Nat.reduceBEq, Nat.reduceLT, Nat.reduceEqDiff, reduceIte, reduceCtorEq, Nat.reduceMul, Nat.reduceAdd, Nat.reduceSub, Int.reduceEq, Int.reduceLT, Int.reduceLE, Int.reduceNeg, Int.reduceAdd, Int.reduceSub, Int.reduceMul, Nat.reduceLeDiff, Int.reduceToNat]) | ((repeat ((fail_if_success with_reducible refine hK _ _ ?_); clear hK K)); (with_reducible refine hK _ _ ?_); clear hK K))))
      refine (oimp (hU14.pass hx15) hsb hg.max hz (nmT by_)).mono ?_
      rintro v w16 ⟨hU16, hu16⟩
      rw [hm2] at hU16
      have hs16 := hu16.alike.size
      have hS16 := (hS14.pass hx15).other hu16 fun b hb => ⟨(kU b hb).1, fun ho => (kO b ho).2 (.inr (.inl hb))⟩
      have hT16 := (hT14.pass hx15).other hu16 fun b hb => ⟨(kU b hb).1, fun hg => by
        rcases hg with hg | hg
        · exact (kT b hg).2.1 hb
        · have := lU b hb; omega⟩
      have hV16 := (hV14.pass hx15).other hu16 fun b hb => ⟨(kU b hb).1, (kU b hb).2.1⟩
      have hL16 := (hL14.ext hx15).upd hu16 fun b hb hg => (kU b hg).2.2 hb
      ((repeat simp only [push_cast, Nat.reduceBEq, Nat.reduceLT, Nat.reduceEqDiff, reduceIte, reduceCtorEq, Nat.reduceMul, Nat.reduceAdd, Nat.reduceSub, Int.reduceEq, Int.reduceLT, Int.reduceLE, Int.reduceNeg, Int.reduceAdd, Int.reduceSub, Int.reduceMul, Nat.reduceLeDiff, Int.reduceToNat]); (repeat (first | (with_reducible first | (refine hK _ _ ?_; clear hK K) | refine (show ∀ σ' w', _ → K σ' w' from by assumption) _ _ ?_ | refine W_seq_k fun K hK => ?_ | refine W_block_k fun K hK => ?_ | refine W_skip ?_ | refine W_ret ?_) | ((first | ((with_reducible refine W_id ?_); refine W_reg (by decide) (by rfl) ?_) | (with_reducible first | refine W_cond ?_ | refine hZ _ _ ?_ | refine W_exit ?_ | refine Wo_id ?_)); repeat1' simp only [push_cast, Nat.reduceBEq, Nat.reduceLT, Nat.reduceEqDiff, reduceIte, reduceCtorEq, Nat.reduceMul, Nat.reduceAdd, Nat.reduceSub, Int.reduceEq, Int.reduceLT, Int.reduceLE, Int.reduceNeg, Int.reduceAdd, Int.reduceSub, Int.reduceMul, Nat.reduceLeDiff, Int.reduceToNat]) | ((repeat ((fail_if_success with_reducible refine hK _ _ ?_); clear hK K)); (with_reducible refine hK _ _ ?_); clear hK K))))
      refine (othor hV16 hsb hg.max hz).mono ?_
      rintro v w17 ⟨hV17, hu17⟩
      rw [hm3] at hV17
      have hs17 := hu17.alike.size
      have hS17 := hS16.other hu17 fun b hb => ⟨(kV b hb).1, fun ho => (kO b ho).2 (.inr (.inr (.inl hb)))⟩
      have hT17 := hT16.other hu17 fun b hb => ⟨(kV b hb).1, fun hg => by
        rcases hg with hg | hg
        · exact (kT b hg).2.2.1 hb
        · have := lV b hb; omega⟩
      have hU17 := hU16.other hu17 fun b hb => ⟨(kV b hb).1, fun hg => by
        rcases hg with hg | hg
        · exact (kU b hg).2.1 hb
        · have := lV b hb; omega⟩
      have hL17 := hL16.upd hu17 fun b hb hg => (kV b hg).2 hb
      clear hS16 hT16 hU16 hV16 hL16 hT14 hS14 hU14 hV14 hL14 hS13 hT13 hU13 hV13 hL13 hA4 hT9 hU9 hV9 hL9 n1
      ((repeat simp only [push_cast, Nat.reduceBEq, Nat.reduceLT, Nat.reduceEqDiff, reduceIte, reduceCtorEq, Nat.reduceMul, Nat.reduceAdd, Nat.reduceSub, Int.reduceEq, Int.reduceLT, Int.reduceLE, Int.reduceNeg, Int.reduceAdd, Int.reduceSub, Int.reduceMul, Nat.reduceLeDiff, Int.reduceToNat]); (repeat (first | (with_reducible first | (refine hK _ _ ?_; clear hK K) | refine (show ∀ σ' w', _ → K σ' w' from by assumption) _ _ ?_ | refine W_seq_k fun K hK => ?_ | refine W_block_k fun K hK => ?_ | refine W_skip ?_ | refine W_ret ?_) | ((first | ((with_reducible refine W_id ?_); refine W_reg (by decide) (by rfl) ?_) | (with_reducible first | refine W_cond ?_ | refine hZ _ _ ?_ | refine W_exit ?_ | refine Wo_id ?_)); repeat1' simp only [push_cast, Nat.reduceBEq, Nat.reduceLT, Nat.reduceEqDiff, reduceIte, reduceCtorEq, Nat.reduceMul, Nat.reduceAdd, Nat.reduceSub, Int.reduceEq, Int.reduceLT, Int.reduceLE, Int.reduceNeg, Int.reduceAdd, Int.reduceSub, Int.reduceMul, Nat.reduceLeDiff, Int.reduceToNat]) | ((repeat ((fail_if_success with_reducible refine hK _ _ ?_); clear hK K)); (with_reducible refine hK _ _ ?_); clear hK K))))
      refine build_arr Tryd.zeroValue39 Tryd.underlying39 Tryd.sizeOf26 (cs := #[.pointer (some ⟨pt, 0, none⟩), .pointer (some ⟨pu, 0, none⟩), .pointer (some ⟨pv, 0, none⟩)]) (by rfl) ?_
      ((repeat simp only [push_cast, Nat.reduceBEq, Nat.reduceLT, Nat.reduceEqDiff, reduceIte, reduceCtorEq, Nat.reduceMul, Nat.reduceAdd, Nat.reduceSub, Int.reduceEq, Int.reduceLT, Int.reduceLE, Int.reduceNeg, Int.reduceAdd, Int.reduceSub, Int.reduceMul, Nat.reduceLeDiff, Int.reduceToNat]); (repeat (first | (with_reducible first | (refine hK _ _ ?_; clear hK K) | refine (show ∀ σ' w', _ → K σ' w' from by assumption) _ _ ?_ | refine W_seq_k fun K hK => ?_ | refine W_block_k fun K hK => ?_ | refine W_skip ?_ | refine W_ret ?_) | ((first | ((with_reducible refine W_id ?_); refine W_reg (by decide) (by rfl) ?_) | (with_reducible first | refine W_cond ?_ | refine hZ _ _ ?_ | refine W_exit ?_ | refine Wo_id ?_)); repeat1' simp only [push_cast, Nat.reduceBEq, Nat.reduceLT, Nat.reduceEqDiff, reduceIte, reduceCtorEq, Nat.reduceMul, Nat.reduceAdd, Nat.reduceSub, Int.reduceEq, Int.reduceLT, Int.reduceLE, Int.reduceNeg, Int.reduceAdd, Int.reduceSub, Int.reduceMul, Nat.reduceLeDiff, Int.reduceToNat]) | ((repeat ((fail_if_success with_reducible refine hK _ _ ?_); clear hK K)); (with_reducible refine hK _ _ ?_); clear hK K))))
      refine W_loop (S := Nat) (fun k => [(5, .pointer (some ⟨ps, 0, none⟩)), (6, .slice xa s.length xc), (7, .pointer (some ⟨pt, 0, none⟩)), (9, .pointer (some ⟨pu, 0, none⟩)), (11, .pointer (some ⟨pv, 0, none⟩)), (14, .bool bh), (15, .int .i64 ec), (120, .agg #[.pointer (some ⟨pt, 0, none⟩), .pointer (some ⟨pu, 0, none⟩), .pointer (some ⟨pv, 0, none⟩)]), (121, .int .i64 (k : Int))])
        (fun k w18 => k ≤ 3 ∧ Ext w17 w18) (fun k => 3 - k) 0 ?_ ?_ ?_
      · (repeat simp only [push_cast, Nat.reduceBEq, Nat.reduceLT, Nat.reduceEqDiff, reduceIte, reduceCtorEq, Nat.reduceMul, Nat.reduceAdd, Nat.reduceSub, Int.reduceEq, Int.reduceLT, Int.reduceLE, Int.reduceNeg, Int.reduceAdd, Int.reduceSub, Int.reduceMul, Nat.reduceLeDiff, Int.reduceToNat])
      · exact ⟨by decide, Ext.refl _⟩
      rintro k w18 ⟨hk3, hx18⟩
      by_cases hk : k < 3
      · have d0 : (k : Int) < 3 := by omega
        have d1 : (0 : Int) ≤ (k : Int) := by omega
        have d2 : inI64 ((k : Int) + 1) := by unfold inI64; omega
        have one : ∃ px m, [Value.pointer (some ⟨pt, 0, none⟩), .pointer (some ⟨pu, 0, none⟩), .pointer (some ⟨pv, 0, none⟩)][(k : Int).toNat]? = some (.pointer (some ⟨px, 0, none⟩)) ∧ m ≤ s.length ∧ ∃ Ox, Ow w w18 Ox px L (s.take m) := by
          rw [Int.toNat_natCast]
          obtain rfl | rfl | rfl : k = 0 ∨ k = 1 ∨ k = 2 := by omega
          · exact ⟨pt, m1, rfl, hm1l, _, hT17.pass hx18⟩
          · exact ⟨pu, m2, rfl, hm2l, _, hU17.pass hx18⟩
          · exact ⟨pv, m3, rfl, by omega, _, hV17.pass hx18⟩
        obtain ⟨px, m, hix, hml, Ox, hX⟩ := one
        have hxl : (s.take m).length = m := by rw [List.length_take]; omega
        have hL18 := hL17.ext hx18
        (repeat (first | (with_reducible first | (refine hK _ _ ?_; clear hK K) | refine (show ∀ σ' w', _ → K σ' w' from by assumption) _ _ ?_ | refine W_seq_k fun K hK => ?_ | refine W_block_k fun K hK => ?_ | refine W_skip ?_ | refine W_ret ?_) | ((first | ((with_reducible refine W_id ?_); refine W_reg (by decide) (by rfl) ?_) | (with_reducible first | refine W_cond ?_ | refine hZ _ _ ?_ | refine W_exit ?_ | refine Wo_id ?_)); repeat1' simp only [push_cast, Nat.reduceBEq, Nat.reduceLT, Nat.reduceEqDiff, reduceIte, reduceCtorEq, Nat.reduceMul, Nat.reduceAdd, Nat.reduceSub, Int.reduceEq, Int.reduceLT, Int.reduceLE, Int.reduceNeg, Int.reduceAdd, Int.reduceSub, Int.reduceMul, Nat.reduceLeDiff, Int.reduceToNat, d0]) | ((repeat ((fail_if_success with_reducible refine hK _ _ ?_); clear hK K)); (with_reducible refine hK _ _ ?_); clear hK K)))
        rw [agg_index (k := .i64) Tryd.underlying39 Tryd.underlying26 rfl Tryd.sizeOf26 d1 (by omega) hix]
        ((repeat simp only [push_cast, Nat.reduceBEq, Nat.reduceLT, Nat.reduceEqDiff, reduceIte, reduceCtorEq, Nat.reduceMul, Nat.reduceAdd, Nat.reduceSub, Int.reduceEq, Int.reduceLT, Int.reduceLE, Int.reduceNeg, Int.reduceAdd, Int.reduceSub, Int.reduceMul, Nat.reduceLeDiff, Int.reduceToNat]); (repeat (first | (with_reducible first | (refine hK _ _ ?_; clear hK K) | refine (show ∀ σ' w', _ → K σ' w' from by assumption) _ _ ?_ | refine W_seq_k fun K hK => ?_ | refine W_block_k fun K hK => ?_ | refine W_skip ?_ | refine W_ret ?_) | ((first | ((with_reducible refine W_id ?_); refine W_reg (by decide) (by rfl) ?_) | (with_reducible first | refine W_cond ?_ | refine hZ _ _ ?_ | refine W_exit ?_ | refine Wo_id ?_)); repeat1' simp only [push_cast, Nat.reduceBEq, Nat.reduceLT, Nat.reduceEqDiff, reduceIte, reduceCtorEq, Nat.reduceMul, Nat.reduceAdd, Nat.reduceSub, Int.reduceEq, Int.reduceLT, Int.reduceLE, Int.reduceNeg, Int.reduceAdd, Int.reduceSub, Int.reduceMul, Nat.reduceLeDiff, Int.reduceToNat]) | ((repeat ((fail_if_success with_reducible refine hK _ _ ?_); clear hK K)); (with_reducible refine hK _ _ ?_); clear hK K))))
        have ho := olen hX
        rw [hxl] at ho
        have d3 : ¬ (s.length : Int) < (m : Int) := by omega
        refine ho.mono ?_
        intro v w' ⟨hv, hw⟩
        subst hv; subst w'
        ((repeat simp only [push_cast, Nat.reduceBEq, Nat.reduceLT, Nat.reduceEqDiff, reduceIte, reduceCtorEq, Nat.reduceMul, Nat.reduceAdd, Nat.reduceSub, Int.reduceEq, Int.reduceLT, Int.reduceLE, Int.reduceNeg, Int.reduceAdd, Int.reduceSub, Int.reduceMul, Nat.reduceLeDiff, Int.reduceToNat, d3, not_true_eq_false, not_false_eq_true]); (repeat (first | (with_reducible first | (refine hK _ _ ?_; clear hK K) | refine (show ∀ σ' w', _ → K σ' w' from by assumption) _ _ ?_ | refine W_seq_k fun K hK => ?_ | refine W_block_k fun K hK => ?_ | refine W_skip ?_ | refine W_ret ?_) | ((first | ((with_reducible refine W_id ?_); refine W_reg (by decide) (by rfl) ?_) | (with_reducible first | refine W_cond ?_ | refine hZ _ _ ?_ | refine W_exit ?_ | refine Wo_id ?_)); repeat1' simp only [push_cast, Nat.reduceBEq, Nat.reduceLT, Nat.reduceEqDiff, reduceIte, reduceCtorEq, Nat.reduceMul, Nat.reduceAdd, Nat.reduceSub, Int.reduceEq, Int.reduceLT, Int.reduceLE, Int.reduceNeg, Int.reduceAdd, Int.reduceSub, Int.reduceMul, Nat.reduceLeDiff, Int.reduceToNat, d3, not_true_eq_false, not_false_eq_true]) | ((repeat ((fail_if_success with_reducible refine hK _ _ ?_); clear hK K)); (with_reducible refine hK _ _ ?_); clear hK K))))
        refine (onodes hX (by omega)).mono ?_
        rintro v w19 ⟨bo19, hN19, hx19⟩
        have ho := olen (hX.pass hx19)
        rw [hxl] at ho
        ((repeat simp only [push_cast, Nat.reduceBEq, Nat.reduceLT, Nat.reduceEqDiff, reduceIte, reduceCtorEq, Nat.reduceMul, Nat.reduceAdd, Nat.reduceSub, Int.reduceEq, Int.reduceLT, Int.reduceLE, Int.reduceNeg, Int.reduceAdd, Int.reduceSub, Int.reduceMul, Nat.reduceLeDiff, Int.reduceToNat]); (repeat (first | (with_reducible first | (refine hK _ _ ?_; clear hK K) | refine (show ∀ σ' w', _ → K σ' w' from by assumption) _ _ ?_ | refine W_seq_k fun K hK => ?_ | refine W_block_k fun K hK => ?_ | refine W_skip ?_ | refine W_ret ?_) | ((first | ((with_reducible refine W_id ?_); refine W_reg (by decide) (by rfl) ?_) | (with_reducible first | refine W_cond ?_ | refine hZ _ _ ?_ | refine W_exit ?_ | refine Wo_id ?_)); repeat1' simp only [push_cast, Nat.reduceBEq, Nat.reduceLT, Nat.reduceEqDiff, reduceIte, reduceCtorEq, Nat.reduceMul, Nat.reduceAdd, Nat.reduceSub, Int.reduceEq, Int.reduceLT, Int.reduceLE, Int.reduceNeg, Int.reduceAdd, Int.reduceSub, Int.reduceMul, Nat.reduceLeDiff, Int.reduceToNat]) | ((repeat ((fail_if_success with_reducible refine hK _ _ ?_); clear hK K)); (with_reducible refine hK _ _ ?_); clear hK K))))
        refine ho.mono ?_
        intro v w' ⟨hv, hw⟩
        subst hv; subst w'
        have d4 : (0 : Int) ≤ (m : Int) := by omega
        obtain ⟨_, _, _, e5, d5', _⟩ := hL18.len
        cases e5
        have d5 : (m : Int) ≤ (xc : Int) := by omega
        have hP := (hL18.ext hx19).preS hml
        have eP : (intCells (s.map OpS.node)).take (m * 1) = intCells ((s.take m).map OpS.node) := by
          unfold intCells
          rw [Nat.mul_one, List.map_take, List.map_take]
        rw [eP] at hP
        simp only [Int.toNat_natCast, d4, d5, true_and]
        refine (ints_c hN19 hP (by rw [List.length_map]; omega)).mono ?_
        rintro v w20 ⟨rfl, hx20⟩
        rw [decide_eq_true rfl]
        ((repeat simp only [push_cast, Nat.reduceBEq, Nat.reduceLT, Nat.reduceEqDiff, reduceIte, reduceCtorEq, Nat.reduceMul, Nat.reduceAdd, Nat.reduceSub, Int.reduceEq, Int.reduceLT, Int.reduceLE, Int.reduceNeg, Int.reduceAdd, Int.reduceSub, Int.reduceMul, Nat.reduceLeDiff, Int.reduceToNat, not_true_eq_false, not_false_eq_true, d2]); (repeat (first | (with_reducible first | (refine hK _ _ ?_; clear hK K) | refine (show ∀ σ' w', _ → K σ' w' from by assumption) _ _ ?_ | refine W_seq_k fun K hK => ?_ | refine W_block_k fun K hK => ?_ | refine W_skip ?_ | refine W_ret ?_) | ((first | ((with_reducible refine W_id ?_); refine W_reg (by decide) (by rfl) ?_) | (with_reducible first | refine W_cond ?_ | refine hZ _ _ ?_ | refine W_exit ?_ | refine Wo_id ?_)); repeat1' simp only [push_cast, Nat.reduceBEq, Nat.reduceLT, Nat.reduceEqDiff, reduceIte, reduceCtorEq, Nat.reduceMul, Nat.reduceAdd, Nat.reduceSub, Int.reduceEq, Int.reduceLT, Int.reduceLE, Int.reduceNeg, Int.reduceAdd, Int.reduceSub, Int.reduceMul, Nat.reduceLeDiff, Int.reduceToNat, not_true_eq_false, not_false_eq_true, d2]) | ((repeat ((fail_if_success with_reducible refine hK _ _ ?_); clear hK K)); (with_reducible refine hK _ _ ?_); clear hK K))))
        refine ⟨k + 1, by omega, ?_⟩
        (repeat simp only [push_cast, Nat.reduceBEq, Nat.reduceLT, Nat.reduceEqDiff, reduceIte, reduceCtorEq, Nat.reduceMul, Nat.reduceAdd, Nat.reduceSub, Int.reduceEq, Int.reduceLT, Int.reduceLE, Int.reduceNeg, Int.reduceAdd, Int.reduceSub, Int.reduceMul, Nat.reduceLeDiff, Int.reduceToNat])
        exact ⟨by omega, (hx18.trans hx19).trans hx20⟩
      · obtain rfl : k = 3 := by omega
        have d0 : ¬ ((3 : Nat) : Int) < 3 := by omega
        have hS18 := hS17.pass hx18
        have hT18 := hT17.pass hx18
        have hU18 := hU17.pass hx18
        have hV18 := hV17.pass hx18
        have lt1 : (s.take m1).length = m1 := by rw [List.length_take]; omega
        have lt2 : (s.take m2).length = m2 := by rw [List.length_take]; omega
        have lt3 : (s.take m3).length = m3 := by rw [List.length_take]; omega
        have hs18 := hx18.alike.size
        (repeat (first | (with_reducible first | (refine hK _ _ ?_; clear hK K) | refine (show ∀ σ' w', _ → K σ' w' from by assumption) _ _ ?_ | refine W_seq_k fun K hK => ?_ | refine W_block_k fun K hK => ?_ | refine W_skip ?_ | refine W_ret ?_) | ((first | ((with_reducible refine W_id ?_); refine W_reg (by decide) (by rfl) ?_) | (with_reducible first | refine W_cond ?_ | refine hZ _ _ ?_ | refine W_exit ?_ | refine Wo_id ?_)); repeat1' simp only [push_cast, Nat.reduceBEq, Nat.reduceLT, Nat.reduceEqDiff, reduceIte, reduceCtorEq, Nat.reduceMul, Nat.reduceAdd, Nat.reduceSub, Int.reduceEq, Int.reduceLT, Int.reduceLE, Int.reduceNeg, Int.reduceAdd, Int.reduceSub, Int.reduceMul, Nat.reduceLeDiff, Int.reduceToNat, d0]) | ((repeat ((fail_if_success with_reducible refine hK _ _ ?_); clear hK K)); (with_reducible refine hK _ _ ?_); clear hK K)))
        refine (opop hS18 (by decide)).mono ?_
        rintro v w19 ⟨rfl, hS19, hu19⟩
        have hT19 := hT18.other hu19 fun b hb => ⟨(kO b hb).1, fun hg => by
          rcases hg with hg | hg
          · exact (kO b hb).2 (.inl hg)
          · have := lS b hb; omega⟩
        have hU19 := hU18.other hu19 fun b hb => ⟨(kO b hb).1, fun hg => by
          rcases hg with hg | hg
          · exact (kO b hb).2 (.inr (.inl hg))
          · have := lS b hb; omega⟩
        have hV19 := hV18.other hu19 fun b hb => ⟨(kO b hb).1, fun hg => by
          rcases hg with hg | hg
          · exact (kO b hb).2 (.inr (.inr (.inl hg)))
          · have := lS b hb; omega⟩
        have hoT := olen hT19
        have hoU := olen hU19
        have hoV := olen hV19
        rw [lt1] at hoT
        rw [lt2] at hoU
        rw [lt3] at hoV
        have e6 : topS [] = -1 := rfl
        have d3 : (m3 : Int) ≤ (m2 : Int) := by omega
        have hx0 := hS19.out
        rcases hm1c with ⟨rfl, hlt, rfl⟩ | ⟨rfl, hlt, rfl⟩
        · have d1 : (m1 : Int) < (s.length : Int) := by omega
          rw [e6]
          ((repeat simp only [push_cast, Nat.reduceBEq, Nat.reduceLT, Nat.reduceEqDiff, reduceIte, reduceCtorEq, Nat.reduceMul, Nat.reduceAdd, Nat.reduceSub, Int.reduceEq, Int.reduceLT, Int.reduceLE, Int.reduceNeg, Int.reduceAdd, Int.reduceSub, Int.reduceMul, Nat.reduceLeDiff, Int.reduceToNat, beq_self_eq_true, eq_self, decide_true, not_true_eq_false, not_false_eq_true]); (repeat (first | (with_reducible first | (refine hK _ _ ?_; clear hK K) | refine (show ∀ σ' w', _ → K σ' w' from by assumption) _ _ ?_ | refine W_seq_k fun K hK => ?_ | refine W_block_k fun K hK => ?_ | refine W_skip ?_ | refine W_ret ?_) | ((first | ((with_reducible refine W_id ?_); refine W_reg (by decide) (by rfl) ?_) | (with_reducible first | refine W_cond ?_ | refine hZ _ _ ?_ | refine W_exit ?_ | refine Wo_id ?_)); repeat1' simp only [push_cast, Nat.reduceBEq, Nat.reduceLT, Nat.reduceEqDiff, reduceIte, reduceCtorEq, Nat.reduceMul, Nat.reduceAdd, Nat.reduceSub, Int.reduceEq, Int.reduceLT, Int.reduceLE, Int.reduceNeg, Int.reduceAdd, Int.reduceSub, Int.reduceMul, Nat.reduceLeDiff, Int.reduceToNat, beq_self_eq_true, eq_self, decide_true, not_true_eq_false, not_false_eq_true]) | ((repeat ((fail_if_success with_reducible refine hK _ _ ?_); clear hK K)); (with_reducible refine hK _ _ ?_); clear hK K))))
          refine hoT.mono ?_
          intro v w' ⟨hv, hw⟩
          subst hv; subst w'
          ((repeat simp only [push_cast, Nat.reduceBEq, Nat.reduceLT, Nat.reduceEqDiff, reduceIte, reduceCtorEq, Nat.reduceMul, Nat.reduceAdd, Nat.reduceSub, Int.reduceEq, Int.reduceLT, Int.reduceLE, Int.reduceNeg, Int.reduceAdd, Int.reduceSub, Int.reduceMul, Nat.reduceLeDiff, Int.reduceToNat, beq_self_eq_true, d1, eq_self, decide_true, not_true_eq_false, not_false_eq_true]); (repeat (first | (with_reducible first | (refine hK _ _ ?_; clear hK K) | refine (show ∀ σ' w', _ → K σ' w' from by assumption) _ _ ?_ | refine W_seq_k fun K hK => ?_ | refine W_block_k fun K hK => ?_ | refine W_skip ?_ | refine W_ret ?_) | ((first | ((with_reducible refine W_id ?_); refine W_reg (by decide) (by rfl) ?_) | (with_reducible first | refine W_cond ?_ | refine hZ _ _ ?_ | refine W_exit ?_ | refine Wo_id ?_)); repeat1' simp only [push_cast, Nat.reduceBEq, Nat.reduceLT, Nat.reduceEqDiff, reduceIte, reduceCtorEq, Nat.reduceMul, Nat.reduceAdd, Nat.reduceSub, Int.reduceEq, Int.reduceLT, Int.reduceLE, Int.reduceNeg, Int.reduceAdd, Int.reduceSub, Int.reduceMul, Nat.reduceLeDiff, Int.reduceToNat, beq_self_eq_true, d1, eq_self, decide_true, not_true_eq_false, not_false_eq_true]) | ((repeat ((fail_if_success with_reducible refine hK _ _ ?_); clear hK K)); (with_reducible refine hK _ _ ?_); clear hK K))))
          refine hoV.mono ?_
          intro v w' ⟨hv, hw⟩
          subst hv; subst w'
          ((repeat simp only [push_cast, Nat.reduceBEq, Nat.reduceLT, Nat.reduceEqDiff, reduceIte, reduceCtorEq, Nat.reduceMul, Nat.reduceAdd, Nat.reduceSub, Int.reduceEq, Int.reduceLT, Int.reduceLE, Int.reduceNeg, Int.reduceAdd, Int.reduceSub, Int.reduceMul, Nat.reduceLeDiff, Int.reduceToNat, beq_self_eq_true, d1, eq_self, decide_true, not_true_eq_false, not_false_eq_true]); (repeat (first | (with_reducible first | (refine hK _ _ ?_; clear hK K) | refine (show ∀ σ' w', _ → K σ' w' from by assumption) _ _ ?_ | refine W_seq_k fun K hK => ?_ | refine W_block_k fun K hK => ?_ | refine W_skip ?_ | refine W_ret ?_) | ((first | ((with_reducible refine W_id ?_); refine W_reg (by decide) (by rfl) ?_) | (with_reducible first | refine W_cond ?_ | refine hZ _ _ ?_ | refine W_exit ?_ | refine Wo_id ?_)); repeat1' simp only [push_cast, Nat.reduceBEq, Nat.reduceLT, Nat.reduceEqDiff, reduceIte, reduceCtorEq, Nat.reduceMul, Nat.reduceAdd, Nat.reduceSub, Int.reduceEq, Int.reduceLT, Int.reduceLE, Int.reduceNeg, Int.reduceAdd, Int.reduceSub, Int.reduceMul, Nat.reduceLeDiff, Int.reduceToNat, beq_self_eq_true, d1, eq_self, decide_true, not_true_eq_false, not_false_eq_true]) | ((repeat ((fail_if_success with_reducible refine hK _ _ ?_); clear hK K)); (with_reducible refine hK _ _ ?_); clear hK K))))
          refine hoU.mono ?_
          intro v w' ⟨hv, hw⟩
          subst hv; subst w'
          ((repeat simp only [push_cast, Nat.reduceBEq, Nat.reduceLT, Nat.reduceEqDiff, reduceIte, reduceCtorEq, Nat.reduceMul, Nat.reduceAdd, Nat.reduceSub, Int.reduceEq, Int.reduceLT, Int.reduceLE, Int.reduceNeg, Int.reduceAdd, Int.reduceSub, Int.reduceMul, Nat.reduceLeDiff, Int.reduceToNat, beq_self_eq_true, d3, eq_self, decide_true, not_true_eq_false, not_false_eq_true]); (repeat (first | (with_reducible first | (refine hK _ _ ?_; clear hK K) | refine (show ∀ σ' w', _ → K σ' w' from by assumption) _ _ ?_ | refine W_seq_k fun K hK => ?_ | refine W_block_k fun K hK => ?_ | refine W_skip ?_ | refine W_ret ?_) | ((first | ((with_reducible refine W_id ?_); refine W_reg (by decide) (by rfl) ?_) | (with_reducible first | refine W_cond ?_ | refine hZ _ _ ?_ | refine W_exit ?_ | refine Wo_id ?_)); repeat1' simp only [push_cast, Nat.reduceBEq, Nat.reduceLT, Nat.reduceEqDiff, reduceIte, reduceCtorEq, Nat.reduceMul, Nat.reduceAdd, Nat.reduceSub, Int.reduceEq, Int.reduceLT, Int.reduceLE, Int.reduceNeg, Int.reduceAdd, Int.reduceSub, Int.reduceMul, Nat.reduceLeDiff, Int.reduceToNat, beq_self_eq_true, d3, eq_self, decide_true, not_true_eq_false, not_false_eq_true]) | ((repeat ((fail_if_success with_reducible refine hK _ _ ?_); clear hK K)); (with_reducible refine hK _ _ ?_); clear hK K))))
          refine (pile_c (hg.ext hx0)).mono ?_
          rintro v w20 ⟨rfl, hx20⟩
          ((repeat simp only [push_cast, Nat.reduceBEq, Nat.reduceLT, Nat.reduceEqDiff, reduceIte, reduceCtorEq, Nat.reduceMul, Nat.reduceAdd, Nat.reduceSub, Int.reduceEq, Int.reduceLT, Int.reduceLE, Int.reduceNeg, Int.reduceAdd, Int.reduceSub, Int.reduceMul, Nat.reduceLeDiff, Int.reduceToNat, beq_self_eq_true, ]); (repeat (first | (with_reducible first | (refine hK _ _ ?_; clear hK K) | refine (show ∀ σ' w', _ → K σ' w' from by assumption) _ _ ?_ | refine W_seq_k fun K hK => ?_ | refine W_block_k fun K hK => ?_ | refine W_skip ?_ | refine W_ret ?_) | ((first | ((with_reducible refine W_id ?_); refine W_reg (by decide) (by rfl) ?_) | (with_reducible first | refine W_cond ?_ | refine hZ _ _ ?_ | refine W_exit ?_ | refine Wo_id ?_)); repeat1' simp only [push_cast, Nat.reduceBEq, Nat.reduceLT, Nat.reduceEqDiff, reduceIte, reduceCtorEq, Nat.reduceMul, Nat.reduceAdd, Nat.reduceSub, Int.reduceEq, Int.reduceLT, Int.reduceLE, Int.reduceNeg, Int.reduceAdd, Int.reduceSub, Int.reduceMul, Nat.reduceLeDiff, Int.reduceToNat, beq_self_eq_true, ]) | ((repeat ((fail_if_success with_reducible refine hK _ _ ?_); clear hK K)); (with_reducible refine hK _ _ ?_); clear hK K))))
          exact hx0.trans hx20
        · have d1 : ¬ (m1 : Int) < (s.length : Int) := by omega
          rw [e6]
          ((repeat simp only [push_cast, Nat.reduceBEq, Nat.reduceLT, Nat.reduceEqDiff, reduceIte, reduceCtorEq, Nat.reduceMul, Nat.reduceAdd, Nat.reduceSub, Int.reduceEq, Int.reduceLT, Int.reduceLE, Int.reduceNeg, Int.reduceAdd, Int.reduceSub, Int.reduceMul, Nat.reduceLeDiff, Int.reduceToNat, beq_self_eq_true, eq_self, decide_true, not_true_eq_false, not_false_eq_true]); (repeat (first | (with_reducible first | (refine hK _ _ ?_; clear hK K) | refine (show ∀ σ' w', _ → K σ' w' from by assumption) _ _ ?_ | refine W_seq_k fun K hK => ?_ | refine W_block_k fun K hK => ?_ | refine W_skip ?_ | refine W_ret ?_) | ((first | ((with_reducible refine W_id ?_); refine W_reg (by decide) (by rfl) ?_) | (with_reducible first | refine W_cond ?_ | refine hZ _ _ ?_ | refine W_exit ?_ | refine Wo_id ?_)); repeat1' simp only [push_cast, Nat.reduceBEq, Nat.reduceLT, Nat.reduceEqDiff, reduceIte, reduceCtorEq, Nat.reduceMul, Nat.reduceAdd, Nat.reduceSub, Int.reduceEq, Int.reduceLT, Int.reduceLE, Int.reduceNeg, Int.reduceAdd, Int.reduceSub, Int.reduceMul, Nat.reduceLeDiff, Int.reduceToNat, beq_self_eq_true, eq_self, decide_true, not_true_eq_false, not_false_eq_true]) | ((repeat ((fail_if_success with_reducible refine hK _ _ ?_); clear hK K)); (with_reducible refine hK _ _ ?_); clear hK K))))
          refine hoT.mono ?_
          intro v w' ⟨hv, hw⟩
          subst hv; subst w'
          ((repeat simp only [push_cast, Nat.reduceBEq, Nat.reduceLT, Nat.reduceEqDiff, reduceIte, reduceCtorEq, Nat.reduceMul, Nat.reduceAdd, Nat.reduceSub, Int.reduceEq, Int.reduceLT, Int.reduceLE, Int.reduceNeg, Int.reduceAdd, Int.reduceSub, Int.reduceMul, Nat.reduceLeDiff, Int.reduceToNat, beq_self_eq_true, d1, eq_self, decide_true, decide_false, not_true_eq_false, not_false_eq_true]); (repeat (first | (with_reducible first | (refine hK _ _ ?_; clear hK K) | refine (show ∀ σ' w', _ → K σ' w' from by assumption) _ _ ?_ | refine W_seq_k fun K hK => ?_ | refine W_block_k fun K hK => ?_ | refine W_skip ?_ | refine W_ret ?_) | ((first | ((with_reducible refine W_id ?_); refine W_reg (by decide) (by rfl) ?_) | (with_reducible first | refine W_cond ?_ | refine hZ _ _ ?_ | refine W_exit ?_ | refine Wo_id ?_)); repeat1' simp only [push_cast, Nat.reduceBEq, Nat.reduceLT, Nat.reduceEqDiff, reduceIte, reduceCtorEq, Nat.reduceMul, Nat.reduceAdd, Nat.reduceSub, Int.reduceEq, Int.reduceLT, Int.reduceLE, Int.reduceNeg, Int.reduceAdd, Int.reduceSub, Int.reduceMul, Nat.reduceLeDiff, Int.reduceToNat, beq_self_eq_true, d1, eq_self, decide_true, decide_false, not_true_eq_false, not_false_eq_true]) | ((repeat ((fail_if_success with_reducible refine hK _ _ ?_); clear hK K)); (with_reducible refine hK _ _ ?_); clear hK K))))
          refine hoV.mono ?_
          intro v w' ⟨hv, hw⟩
          subst hv; subst w'
          ((repeat simp only [push_cast, Nat.reduceBEq, Nat.reduceLT, Nat.reduceEqDiff, reduceIte, reduceCtorEq, Nat.reduceMul, Nat.reduceAdd, Nat.reduceSub, Int.reduceEq, Int.reduceLT, Int.reduceLE, Int.reduceNeg, Int.reduceAdd, Int.reduceSub, Int.reduceMul, Nat.reduceLeDiff, Int.reduceToNat, beq_self_eq_true, d1, eq_self, decide_true, not_true_eq_false, not_false_eq_true]); (repeat (first | (with_reducible first | (refine hK _ _ ?_; clear hK K) | refine (show ∀ σ' w', _ → K σ' w' from by assumption) _ _ ?_ | refine W_seq_k fun K hK => ?_ | refine W_block_k fun K hK => ?_ | refine W_skip ?_ | refine W_ret ?_) | ((first | ((with_reducible refine W_id ?_); refine W_reg (by decide) (by rfl) ?_) | (with_reducible first | refine W_cond ?_ | refine hZ _ _ ?_ | refine W_exit ?_ | refine Wo_id ?_)); repeat1' simp only [push_cast, Nat.reduceBEq, Nat.reduceLT, Nat.reduceEqDiff, reduceIte, reduceCtorEq, Nat.reduceMul, Nat.reduceAdd, Nat.reduceSub, Int.reduceEq, Int.reduceLT, Int.reduceLE, Int.reduceNeg, Int.reduceAdd, Int.reduceSub, Int.reduceMul, Nat.reduceLeDiff, Int.reduceToNat, beq_self_eq_true, d1, eq_self, decide_true, not_true_eq_false, not_false_eq_true]) | ((repeat ((fail_if_success with_reducible refine hK _ _ ?_); clear hK K)); (with_reducible refine hK _ _ ?_); clear hK K))))
          refine hoU.mono ?_
          intro v w' ⟨hv, hw⟩
          subst hv; subst w'
          ((repeat simp only [push_cast, Nat.reduceBEq, Nat.reduceLT, Nat.reduceEqDiff, reduceIte, reduceCtorEq, Nat.reduceMul, Nat.reduceAdd, Nat.reduceSub, Int.reduceEq, Int.reduceLT, Int.reduceLE, Int.reduceNeg, Int.reduceAdd, Int.reduceSub, Int.reduceMul, Nat.reduceLeDiff, Int.reduceToNat, beq_self_eq_true, d3, eq_self, decide_true, not_true_eq_false, not_false_eq_true]); (repeat (first | (with_reducible first | (refine hK _ _ ?_; clear hK K) | refine (show ∀ σ' w', _ → K σ' w' from by assumption) _ _ ?_ | refine W_seq_k fun K hK => ?_ | refine W_block_k fun K hK => ?_ | refine W_skip ?_ | refine W_ret ?_) | ((first | ((with_reducible refine W_id ?_); refine W_reg (by decide) (by rfl) ?_) | (with_reducible first | refine W_cond ?_ | refine hZ _ _ ?_ | refine W_exit ?_ | refine Wo_id ?_)); repeat1' simp only [push_cast, Nat.reduceBEq, Nat.reduceLT, Nat.reduceEqDiff, reduceIte, reduceCtorEq, Nat.reduceMul, Nat.reduceAdd, Nat.reduceSub, Int.reduceEq, Int.reduceLT, Int.reduceLE, Int.reduceNeg, Int.reduceAdd, Int.reduceSub, Int.reduceMul, Nat.reduceLeDiff, Int.reduceToNat, beq_self_eq_true, d3, eq_self, decide_true, not_true_eq_false, not_false_eq_true]) | ((repeat ((fail_if_success with_reducible refine hK _ _ ?_); clear hK K)); (with_reducible refine hK _ _ ?_); clear hK K))))
          refine (pile_c (hg.ext hx0)).mono ?_
          rintro v w20 ⟨rfl, hx20⟩
          ((repeat simp only [push_cast, Nat.reduceBEq, Nat.reduceLT, Nat.reduceEqDiff, reduceIte, reduceCtorEq, Nat.reduceMul, Nat.reduceAdd, Nat.reduceSub, Int.reduceEq, Int.reduceLT, Int.reduceLE, Int.reduceNeg, Int.reduceAdd, Int.reduceSub, Int.reduceMul, Nat.reduceLeDiff, Int.reduceToNat, beq_self_eq_true, ]); (repeat (first | (with_reducible first | (refine hK _ _ ?_; clear hK K) | refine (show ∀ σ' w', _ → K σ' w' from by assumption) _ _ ?_ | refine W_seq_k fun K hK => ?_ | refine W_block_k fun K hK => ?_ | refine W_skip ?_ | refine W_ret ?_) | ((first | ((with_reducible refine W_id ?_); refine W_reg (by decide) (by rfl) ?_) | (with_reducible first | refine W_cond ?_ | refine hZ _ _ ?_ | refine W_exit ?_ | refine Wo_id ?_)); repeat1' simp only [push_cast, Nat.reduceBEq, Nat.reduceLT, Nat.reduceEqDiff, reduceIte, reduceCtorEq, Nat.reduceMul, Nat.reduceAdd, Nat.reduceSub, Int.reduceEq, Int.reduceLT, Int.reduceLE, Int.reduceNeg, Int.reduceAdd, Int.reduceSub, Int.reduceMul, Nat.reduceLeDiff, Int.reduceToNat, beq_self_eq_true, ]) | ((repeat ((fail_if_success with_reducible refine hK _ _ ?_); clear hK K)); (with_reducible refine hK _ _ ?_); clear hK K))))
          exact hx0.trans hx20
end Go.Proofs.YtkafpameheohdaaDoor
end
section
set_option linter.unusedSimpArgs false
set_option linter.unusedVariables false
namespace Go.Vk
open Go Go.RowKit Go.WideShapes Go.ChangeShapes
variable {H : Type} {enc : TypeId × Value → H} {P : Program}
theorem Ext.below {w w' : World} (h : Ext w w') : Below w.heap.size w w' := ⟨h.alike.os, h.alike.tape, h.alike.output, h.alike.size, fun _ hk => h.heap hk⟩
theorem post_ext {f : Func} {s : ChangeSpec} {apart fresh handsOn again : Bool} {W W' : World} {args : Array Value} {v : Value} {ds gs : List (DataW H)} {before pa pv : List MemPlace}
    (hW : DataW.Whole enc P f.params.toList s.vars apart W args.toList ds gs before)
    (hres : ∀ (b : Nat) (sp : Nat → Bool) (hd : Bool), DataW.TrodAll enc P W' b sp hd f.resultTypes.toList (v.resultList f.resultTypes.size) (s.fn H (ds ++ gs)).results [])
    (hargs : ∀ sp : Nat → Bool, (∀ p ∈ before, sp p.block = true) → DataW.TrodAll enc P W' 0 sp true f.params.toList args.toList (s.fn H (ds ++ gs)).args pa)
    (hvars : ∀ sp : Nat → Bool, (∀ p ∈ before, sp p.block = true) → DataW.TrodVars enc P W' sp s.vars (s.fn H (ds ++ gs)).vars pv)
    (hps : before = pa ++ pv) (hx : Ext W W')
    (hok : ∀ (j : Nat) (t : TypeId) (r : Value), f.resultTypes[j]? = some t → (v.resultList f.resultTypes.size)[j]? = some r → Value.okWide P W' .any 0 t r) :
    s.post enc P f apart fresh handsOn again W args v W' := by
  subst hps
  have hb := hx.below
  have lt : ∀ p ∈ pa ++ pv, p.block < W.heap.size := fun p hp => hW.lt p hp
  have old : ∀ p ∈ pa ++ pv, (fun b => decide (b < W.heap.size)) p.block = true := fun p hp => by simpa using lt p hp
  refine ⟨ds, gs, pa ++ pv, [], pa, pv, hW, hres _ _ _, hargs _ old, hvars _ old, World.keptBut_mono (fun p hp => ⟨hp, .inr (List.mem_append.1 hp)⟩) (hb.frame (· ∈ pa ++ pv)), fun _ => ?_⟩
  obtain ⟨_, _, _, _, _, hz, hn⟩ := hW
  refine ⟨hok, _, _, ([] ++ pa) ++ pv, ⟨[] ++ pa, pv, trodAll_append (hargs _ fun _ _ => rfl) (hres _ _ _), hvars _ fun _ _ => rfl, rfl, fun b off hp => ?_, fun ha => by simpa using hn ha⟩, fun p hp _ => by simpa using hp⟩
  have hin : MemPlace.cell b off ∈ pa ++ pv := by simpa using hp
  rw [hb.frozen (lt _ hin)]
  exact hz b off hin
end Go.Vk
end
section
set_option linter.unusedSimpArgs false
set_option linter.unusedVariables false
namespace Go.Vk
open Go Go.RowKit Go.WideShapes Go.ChangeShapes
variable {H : Type} {enc : TypeId × Value → H} {P : Program}
theorem stays_all (hl : laidOutB P = true) {W W' : World} (hx : Ext W W') {sp : Nat → Bool} : ∀ {ts : List TypeId} {vs : List Value} {ds : List (DataW H)} {ps : List MemPlace},
    DataW.TrodAll enc P W 0 (fun _ => true) true ts vs ds ps → (ts.all fun t => P.readableRec t && decide (t < P.types.size)) = true → (∀ p ∈ ps, p.block < W.heap.size) → (∀ p ∈ ps, sp p.block = true) →
    DataW.TrodAll enc P W' 0 sp true ts vs ds ps
  | [], vs, ds, ps, h, _, _, _ => by
    obtain ⟨rfl, rfl, rfl⟩ := trodAll_nil h
    exact trodAll_mk0
  | t :: ts, vs, ds, ps, h, ht, hlt, hs => by
    obtain ⟨v, vs', d, ds', p, q, rfl, rfl, rfl, h0, hr⟩ := trodAll_cons h
    simp only [List.all_cons, Bool.and_eq_true, decide_eq_true_eq] at ht
    exact trodAll_cons_mk (WideElems.Trod_stays hl ht.1.1 ht.1.2 h0 (fun x hx' => hx.below.same (hlt x (by simp [hx']))) (fun x hx' => hs x (by simp [hx'])))
      (stays_all hl hx hr (by simpa using ht.2) (fun x hx' => hlt x (by simp [hx'])) (fun x hx' => hs x (by simp [hx'])))
theorem law_post {f : Func} {s : ChangeSpec} {fresh handsOn again : Bool} {W W' : World} {args : Array Value} {ds gs : List (DataW H)} {before : List MemPlace} {tb : TypeId}
    (hl : laidOutB P = true) (hts : (f.params.toList.all fun t => P.readableRec t && decide (t < P.types.size)) = true) (hb : P.underlying tb = some .bool) (hres : f.resultTypes = #[tb])
    (hvars : s.vars = []) (hfn : s.fn H (ds ++ gs) = { results := [.lit (.bool true)], args := ds })
    (hW : DataW.Whole enc P f.params.toList s.vars false W args.toList ds gs before) (hx : Ext W W') :
    s.post enc P f false fresh handsOn again W args (.bool true) W' := by
  have hlt : ∀ p ∈ before, p.block < W.heap.size := fun p hp => hW.lt p hp
  have hW' := hW
  obtain ⟨p, q, hA, hV, rfl, hfz, hnd⟩ := hW
  rw [hvars] at hV
  obtain ⟨rfl, rfl⟩ := trodVars_none hV
  rw [List.append_nil] at *
  refine post_ext (pa := p) (pv := []) hW' (fun b sp hd => ?_) (fun sp hs => ?_) (fun sp hs => ?_) (by simp) hx (fun j t r hj hv => ?_)
  · rw [hres, List.append_nil, hfn]
    exact trodAll_cons_mk (shut_bool hb _) trodAll_mk0
  · rw [List.append_nil, hfn]
    exact stays_all hl hx hA hts hlt hs
  · rw [List.append_nil, hfn, hvars]; rfl
  · rw [hres] at hj hv
    match j, hj, hv with
    | 0, hj, hv =>
      simp [Value.resultList] at hj hv
      subst hj; subst hv
      exact okWide_bool_mk hb _
/-- a slice that was handed in: what it reads -/
theorem rd_of {W : World} {a : Addr} {n c : Nat} {l : List Value} {es : Nat} (hn : n ≤ c) (hl : l.length = n * es) (hc : ∀ i, i < l.length → W.cell? (a.add i) = l[i]?) : RdAt W es (.slice (some a) n c) l := by
  refine ⟨some a, n, c, rfl, hn, hl, fun i u hu => ?_⟩
  have hi := (List.getElem?_eq_some_iff.1 hu).1
  have h0 := hc 0 (by omega)
  have hs : a.spot = none := by
    rw [List.getElem?_eq_getElem (by omega)] at h0
    simp only [Addr.add, if_pos] at h0
    cases hsp : a.spot with
    | none => rfl
    | some x =>
      exfalso
      unfold World.cell? at h0
      rw [hsp] at h0
      cases hb : W.heap[a.block]? with
      | none => rw [hb] at h0; cases h0
      | some o => rw [hb] at h0; cases o <;> simp at h0
  obtain ⟨b, o, s⟩ := a
  simp only at hs
  subst hs
  refine ⟨b, o, rfl, ?_⟩
  rw [← hu, ← hc i hi, add_mk]
end Go.Vk
end
section
set_option linter.unusedSimpArgs false
set_option linter.unusedVariables false
namespace Go.Vk
open Go Go.RowKit Go.WideShapes Go.ChangeShapes
theorem wf_u8h {n : Int} (h : (Lit.int .u8 n).wf = true) : 0 ≤ n ∧ n ≤ 255 := by
  simp only [Lit.wf, Bool.and_eq_true, decide_eq_true_eq] at h
  have e1 : IntKind.u8.min = 0 := rfl
  have e2 : IntKind.u8.max = 255 := by decide
  rw [e1, e2] at h; omega
structure AcF where
  kd : Int
  i : Int
  j : Int
def AcF.cells (x : AcF) : List Value := [.int .u8 x.kd, .int .i64 x.i, .int .i64 x.j]
end Go.Vk
namespace Go.Proofs.YtkafpameheohdaaDoor
open Go Go.Vk Go.RowKit Go.WideShapes Go.ChangeShapes
theorem h5cells : Tryd.prog.cellsOf 5 = 1 := by kernel_rfl
end Go.Proofs.YtkafpameheohdaaDoor
end
section
set_option linter.unusedSimpArgs false
set_option linter.unusedVariables false
namespace Go.Vk
open Go Go.RowKit Go.WideShapes Go.ChangeShapes
theorem rd_u8f {H : Type} {enc : TypeId × Value → H} {P : Program} {W : World} {base : Nat} {sp : Nat → Bool} {hd : Bool} {t e : TypeId} {fuel : Nat} {v : Value} {x : DataW H × List MemPlace} (ht : P.underlying t = some (.slice e)) (he : P.underlying e = some (.int .u8)) (hc : P.cellsOf e = 1)
    (h : DataW.trod enc P W base sp hd fuel t [v] = some x) : ∃ l : List Nat, RdAt W 1 v (u8Cells l) ∧ ∀ c ∈ l, c < 256 := by
  rcases open_ints ht he hc h with ⟨h1, _⟩ | ⟨a, len, cap, zs, h1, h2, h3, h4, h5, h6, h7, h8⟩
  · cases h1
    exact ⟨[], ⟨none, 0, 0, rfl, Nat.le_refl _, rfl, fun i u hu => by simp [u8Cells] at hu⟩, by simp⟩
  · cases h1
    have hlm : len ≤ zs.length := by rw [h5]; split <;> omega
    have hz : ∀ i, i < len → zs.getD i 0 ∈ zs := fun i hi => by
      have hi2 : i < zs.length := by omega
      have : zs.getD i 0 = zs[i] := by simp [List.getD, hi2]
      rw [this]; exact List.getElem_mem hi2
    refine ⟨(List.range len).map fun i => (zs.getD i 0).toNat, rd_of h3 (by simp [u8Cells]) fun i hi => ?_, fun c hc => ?_⟩
    · simp only [u8Cells, List.length_map, List.length_range] at hi
      have hw := wf_u8h (h8 _ (hz i hi))
      rw [h7 i (by omega)]
      have e : ((zs.getD i 0).toNat : Int) = zs.getD i 0 := by omega
      simp only [u8Cells, List.map_map, List.getElem?_map, List.getElem?_range hi, Option.map_some, Function.comp, e]
    · simp only [List.mem_map, List.mem_range] at hc
      obtain ⟨i, hi, rfl⟩ := hc
      have hw := wf_u8h (h8 _ (hz i hi))
      omega
theorem list2 {cs : List Value} (h : cs.length = 2) : ∃ c0 c1, cs = [c0, c1] := by
  match cs, h with
  | [c0, c1], _ => exact ⟨_, _, rfl⟩
end Go.Vk
namespace Go.Proofs.YtkafpameheohdaaDoor
open Go Go.Vk Go.RowKit Go.WideShapes Go.ChangeShapes
theorem cellsKit : Tryd.prog.cellsOf 24 = 2 := by kernel_rfl
theorem cellsU8s : Tryd.prog.cellsOf 22 = 1 := by kernel_rfl
section
variable {H : Type} {enc : TypeId × Value → H} {W : World} {base : Nat} {sp : Nat → Bool} {hd : Bool}
theorem kit_of {fuel : Nat} {cs : List Value} {x : DataW H × List MemPlace} (h : DataW.trod enc Tryd.prog W base sp hd fuel 24 cs = some x) :
    ∃ v1 v2 l1 l2, cs = [v1, v2] ∧ RdAt W 1 v1 (u8Cells l1) ∧ RdAt W 1 v2 (u8Cells l2) ∧ (∀ c ∈ l1, c < 256) ∧ ∀ c ∈ l2, c < 256 := by
  obtain ⟨xs, n, _, _, hl, hxl, hf⟩ := DataW.trod_struct Tryd.underlying24 h
  rw [cellsKit] at hl
  obtain ⟨c0, c1, rfl⟩ := list2 hl
  have hx : ∀ i, i < 2 → ∃ y, xs[i]? = some y := fun i hi => ⟨_, List.getElem?_eq_getElem (show i < xs.length by rw [hxl]; exact hi)⟩
  obtain ⟨y0, hy0⟩ := hx 0 (by decide)
  have g0 : DataW.trod enc Tryd.prog W base sp hd n 22 (([c0, c1].drop 0).take (Tryd.prog.cellsOf 22)) = xs[0]? := hf 0 _ rfl
  rw [hy0] at g0
  simp only [cellsU8s, List.drop_succ_cons, List.drop_zero, List.take_succ_cons, List.take_zero] at g0
  obtain ⟨y1, hy1⟩ := hx 1 (by decide)
  have g1 : DataW.trod enc Tryd.prog W base sp hd n 22 (([c0, c1].drop 1).take (Tryd.prog.cellsOf 22)) = xs[1]? := hf 1 _ rfl
  rw [hy1] at g1
  simp only [cellsU8s, List.drop_succ_cons, List.drop_zero, List.take_succ_cons, List.take_zero] at g1
  obtain ⟨l1, q1, q2⟩ := rd_u8f Tryd.underlying22 Tryd.underlying5 h5cells g0
  obtain ⟨l2, q3, q4⟩ := rd_u8f Tryd.underlying22 Tryd.underlying5 h5cells g1
  exact ⟨c0, c1, l1, l2, rfl, q1, q3, q2, q4⟩
end
end Go.Proofs.YtkafpameheohdaaDoor
end
section
set_option linter.unusedSimpArgs false
set_option linter.unusedVariables false
namespace Go.Vk
open Go
theorem cells_of_strs {H : Type} {enc : TypeId × Value → H} {P : Program} {w : World} {base : Nat} {sp : Nat → Bool} {held : Bool} {fuel : Nat} {t e : TypeId} {n : Nat} {cs : List Value} {zs : List ByteArray} {p : List MemPlace}
    (ht : P.underlying t = some (.array n e)) (he : P.underlying e = some .string) (hce : P.cellsOf e = 1) (hct : P.cellsOf t = n)
    (h : DataW.trod enc P w base sp held fuel t cs = some (.agg (zs.map fun z => .lit (.string z.data.toList)), p)) : cs = zs.map Value.string := by
  cases fuel with
  | zero => simp [DataW.trod] at h
  | succ fuel =>
    simp only [DataW.trod, ht, hce, hct, Nat.mul_one] at h
    split at h
    · rename_i hl
      obtain ⟨xs, hm, hx⟩ := Option.map_eq_some_iff.1 h
      have hxs : xs.map (·.1) = zs.map fun z => (DataW.lit (.string z.data.toList) : DataW H) := by
        have := congrArg Prod.fst hx
        simpa using this
      have hxl : xs.length = n := by simpa using Lib.mapM_length hm
      have hzl : zs.length = n := by
        have := congrArg List.length hxs
        simp at this
        omega
      apply List.ext_getElem?
      intro i
      by_cases hi : i < n
      · obtain ⟨b, hb, hf⟩ := Lib.mapM_at hm i i (by simp [hi])
        obtain ⟨z, hc, rfl, _⟩ := DataW.trod_string he hf
        have h1 : cs[i]? = some (.string z) := by
          have := congrArg (·[0]?) hc
          simpa [List.getElem?_take, List.getElem?_drop] using this
        have h2 : (xs.map (·.1))[i]? = some (DataW.lit (.string z.data.toList) : DataW H) := by simp [hb]
        rw [hxs] at h2
        simp only [List.getElem?_map, Option.map_eq_some_iff, DataW.lit.injEq, Lit.string.injEq] at h2
        obtain ⟨z', hz', e'⟩ := h2
        have ez : z' = z := by
          cases z; cases z'
          simp only at e'
          congr 1
          exact Array.toList_inj.1 e'
        simp [h1, hz', ez]
      · rw [List.getElem?_eq_none (by omega), List.getElem?_eq_none (by simp; omega)]
    · cases h
end Go.Vk
namespace Go.Proofs.YtkafpameheohdaaDoor
open Go Go.Vk
theorem gSc : Tryd.prog.globalNamed "lazaret/kinds.scopes" = some 0 := by kernel_rfl
theorem gScT : (Tryd.prog.globals[0]?).map (·.type) = some 76 := by kernel_rfl
theorem cellsSc : Tryd.prog.cellsOf 76 = 4 := by kernel_rfl
theorem cellsSt : Tryd.prog.cellsOf 9 = 1 := by kernel_rfl
theorem gl_of {W : World} (h : laidMetH Tryd.prog [("lazaret/kinds.scopes", Rows.laid_lazaret_kinds_scopes)] W) (hs : W.ShapedOpen Tryd.prog) : GL W := by
  refine ⟨maxAt_of hs, ?_⟩
  have h' : laidMet Tryd.prog [("lazaret/kinds.scopes", Rows.laid_lazaret_kinds_scopes)] W := h
  obtain ⟨ps, ⟨g', t', cs, fuel, p, q, hg', ht', hvar, hd, _, _⟩, _⟩ := h'
  obtain rfl := Option.some.inj (gSc.symm.trans hg')
  obtain rfl := Option.some.inj (gScT.symm.trans ht')
  have e := cells_of_strs (zs := [norB, lisB, butB, tabB]) Tryd.underlying76 Tryd.underlying9 cellsSt cellsSc hd
  unfold World.var? at hvar
  rw [gSc] at hvar
  simp only [Option.bind_some] at hvar
  split at hvar
  · rename_i cs' t f hh
    cases hvar
    have e2 : cs = #[.string norB, .string lisB, .string butB, .string tabB] := Array.toList_inj.1 e
    exact ⟨t, f, by rw [hh, e2]⟩
  · cases hvar
end Go.Proofs.YtkafpameheohdaaDoor
end
