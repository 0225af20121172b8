/- Node: what it answers. -/
import Derived.Test.YtkafpameheohdaaHd
import Derived.Test.YtkafpameheohdaaOp3
set_option linter.unusedSimpArgs false
set_option linter.unusedVariables false
namespace Go.Vk
theorem setCells_all {w : World} {b : Nat} {cs : Array Value} {t : TypeId} {f : Nat × Nat} (hb : w.heap[b]? = some (.cells cs t f)) {l : List Value} (hl : cs.size = l.length) : (setCells w ⟨b, 0, none⟩ l 0).heap[b]? = some (.cells l.toArray t f) := by
  rw [setCells_same l w b 0 0 cs t f hb]
  congr 2
  apply Array.ext_getElem?
  intro j
  by_cases hj : j < l.length
  · have := ovw_in l cs 0 j hj (by omega)
    simpa using this
  · rw [ovw_out l cs _ j (by omega), Array.getElem?_eq_none (by omega)]
    simp [hj]
end Go.Vk
namespace Go.Proofs.Ytkafpameheohdaa
open Go.Vk
set_option maxHeartbeats 40000000
theorem node_c {pa : Nat} {L : List Nd} {F : Nat → Prop} {w : World} (h : Ar w pa L F) (hb : ∀ n ∈ L, n.kids.length < 1000000 ∧ n.attrs.length < 1000000) (i : Int) :
    Gives Try.prog 17 #[.pointer (some ⟨pa, 0, none⟩), .int .i64 i] w fun v w' => ∃ m : Laid, v = m.val ∧ m.nd = (nd? L i).getD zN ∧ m.ok w' ∧ Ext w w' ∧ (∀ b ∈ m.blks, w.heap.size ≤ b) ∧ m.blks.Nodup := by
  cases hn : nd? L i with
  | none =>
    refine Gives.of_W Try.call17 Try.func17 rfl Try.ntmps17 (by simp) ?_; intro Z hZ
    (repeat (first | (with_reducible first | (refine hK _ _ ?_; clear hK K) | refine (show ∀ σ' w', _ → K σ' w' from by assumption) _ _ ?_ | refine W_seq_k fun K hK => ?_ | refine W_block_k fun K hK => ?_ | refine W_skip ?_ | refine W_ret ?_) | ((first | ((with_reducible refine W_id ?_); refine W_reg (by decide) (by rfl) ?_) | (with_reducible first | refine W_cond ?_ | refine hZ _ _ ?_ | refine W_exit ?_ | refine Wo_id ?_)); repeat1' simp only [push_cast, Nat.reduceBEq, Nat.reduceLT, Nat.reduceEqDiff, reduceIte, reduceCtorEq, Nat.reduceMul, Nat.reduceAdd, Nat.reduceSub, Int.reduceEq, Int.reduceLT, Int.reduceLE, Int.reduceNeg, Int.reduceAdd, Int.reduceSub, Int.reduceMul, Nat.reduceLeDiff, Int.reduceToNat, cell_h, can_h, cellO_cells, canO_cells, setO_cells, heap_set_h, heap_alloc_h, size_set_h, size_alloc_h, vcells_agg, succ_ne, ne_succ, List.setIfInBounds_toArray, List.set_cons_succ, List.set_cons_zero, setCells, drew_h, RunV_zero Try.zeroValue30]) | ((repeat ((fail_if_success with_reducible refine hK _ _ ?_); clear hK K)); (with_reducible refine hK _ _ ?_); clear hK K)))
    refine (has_n i (h.ext (Ext.alloc _ _))).mono ?_
    rintro v w' ⟨rfl, rfl⟩
    rw [hn]
    ((repeat simp only [push_cast, Nat.reduceBEq, Nat.reduceLT, Nat.reduceEqDiff, reduceIte, reduceCtorEq, Nat.reduceMul, Nat.reduceAdd, Nat.reduceSub, Int.reduceEq, Int.reduceLT, Int.reduceLE, Int.reduceNeg, Int.reduceAdd, Int.reduceSub, Int.reduceMul, Nat.reduceLeDiff, Int.reduceToNat, cell_h, can_h, cellO_cells, canO_cells, setO_cells, heap_set_h, heap_alloc_h, size_set_h, size_alloc_h, vcells_agg, succ_ne, ne_succ, List.setIfInBounds_toArray, List.set_cons_succ, List.set_cons_zero, drew_h]); (repeat (first | (with_reducible first | (refine hK _ _ ?_; clear hK K) | refine (show ∀ σ' w', _ → K σ' w' from by assumption) _ _ ?_ | refine W_seq_k fun K hK => ?_ | refine W_block_k fun K hK => ?_ | refine W_skip ?_ | refine W_ret ?_) | ((first | ((with_reducible refine W_id ?_); refine W_reg (by decide) (by rfl) ?_) | (with_reducible first | refine W_cond ?_ | refine hZ _ _ ?_ | refine W_exit ?_ | refine Wo_id ?_)); repeat1' simp only [push_cast, Nat.reduceBEq, Nat.reduceLT, Nat.reduceEqDiff, reduceIte, reduceCtorEq, Nat.reduceMul, Nat.reduceAdd, Nat.reduceSub, Int.reduceEq, Int.reduceLT, Int.reduceLE, Int.reduceNeg, Int.reduceAdd, Int.reduceSub, Int.reduceMul, Nat.reduceLeDiff, Int.reduceToNat, cell_h, can_h, cellO_cells, canO_cells, setO_cells, heap_set_h, heap_alloc_h, size_set_h, size_alloc_h, vcells_agg, succ_ne, ne_succ, List.setIfInBounds_toArray, List.set_cons_succ, List.set_cons_zero, drew_h]) | ((repeat ((fail_if_success with_reducible refine hK _ _ ?_); clear hK K)); (with_reducible refine hK _ _ ?_); clear hK K))))
    refine build_struct Try.zeroValue30 un30 pl30 (cs := #[.int .i64 0, .string ⟨#[]⟩, .string ⟨#[]⟩, .int .i64 0, .slice none 0 0, .bool false, .int .i64 0, .int .i64 0, .slice none 0 0, .int .i64 0, .int .i64 0]) (by rfl) ?_
    ((repeat simp only [push_cast, Nat.reduceBEq, Nat.reduceLT, Nat.reduceEqDiff, reduceIte, reduceCtorEq, Nat.reduceMul, Nat.reduceAdd, Nat.reduceSub, Int.reduceEq, Int.reduceLT, Int.reduceLE, Int.reduceNeg, Int.reduceAdd, Int.reduceSub, Int.reduceMul, Nat.reduceLeDiff, Int.reduceToNat, cell_h, can_h, cellO_cells, canO_cells, setO_cells, heap_set_h, heap_alloc_h, size_set_h, size_alloc_h, vcells_agg, succ_ne, ne_succ, List.setIfInBounds_toArray, List.set_cons_succ, List.set_cons_zero, drew_h]); (repeat (first | (with_reducible first | (refine hK _ _ ?_; clear hK K) | refine (show ∀ σ' w', _ → K σ' w' from by assumption) _ _ ?_ | refine W_seq_k fun K hK => ?_ | refine W_block_k fun K hK => ?_ | refine W_skip ?_ | refine W_ret ?_) | ((first | ((with_reducible refine W_id ?_); refine W_reg (by decide) (by rfl) ?_) | (with_reducible first | refine W_cond ?_ | refine hZ _ _ ?_ | refine W_exit ?_ | refine Wo_id ?_)); repeat1' simp only [push_cast, Nat.reduceBEq, Nat.reduceLT, Nat.reduceEqDiff, reduceIte, reduceCtorEq, Nat.reduceMul, Nat.reduceAdd, Nat.reduceSub, Int.reduceEq, Int.reduceLT, Int.reduceLE, Int.reduceNeg, Int.reduceAdd, Int.reduceSub, Int.reduceMul, Nat.reduceLeDiff, Int.reduceToNat, cell_h, can_h, cellO_cells, canO_cells, setO_cells, heap_set_h, heap_alloc_h, size_set_h, size_alloc_h, vcells_agg, succ_ne, ne_succ, List.setIfInBounds_toArray, List.set_cons_succ, List.set_cons_zero, drew_h]) | ((repeat ((fail_if_success with_reducible refine hK _ _ ?_); clear hK K)); (with_reducible refine hK _ _ ?_); clear hK K))))
    have hb4 := setCells_all (w := w.alloc (.cells #[.int .i64 0, .string ⟨#[]⟩, .string ⟨#[]⟩, .int .i64 0, .slice none 0 0, .bool false, .int .i64 0, .int .i64 0, .slice none 0 0, .int .i64 0, .int .i64 0] 30)) (b := w.heap.size) (cs := #[.int .i64 0, .string ⟨#[]⟩, .string ⟨#[]⟩, .int .i64 0, .slice none 0 0, .bool false, .int .i64 0, .int .i64 0, .slice none 0 0, .int .i64 0, .int .i64 0]) (t := 30) (f := (0, 0)) (by rw [heap_alloc_h, if_pos rfl]) (l := [.int .i64 0, .string ⟨#[]⟩, .string ⟨#[]⟩, .int .i64 0, .slice none 0 0, .bool false, .int .i64 0, .int .i64 0, .slice none 0 0, .int .i64 0, .int .i64 0]) rfl
    ((repeat simp only [push_cast, Nat.reduceBEq, Nat.reduceLT, Nat.reduceEqDiff, reduceIte, reduceCtorEq, Nat.reduceMul, Nat.reduceAdd, Nat.reduceSub, Int.reduceEq, Int.reduceLT, Int.reduceLE, Int.reduceNeg, Int.reduceAdd, Int.reduceSub, Int.reduceMul, Nat.reduceLeDiff, Int.reduceToNat, cell_h, can_h, cellO_cells, canO_cells, setO_cells, heap_set_h, heap_alloc_h, size_set_h, size_alloc_h, vcells_agg, succ_ne, ne_succ, List.setIfInBounds_toArray, List.set_cons_succ, List.set_cons_zero, drew_h, hb4]); (repeat (first | (with_reducible first | (refine hK _ _ ?_; clear hK K) | refine (show ∀ σ' w', _ → K σ' w' from by assumption) _ _ ?_ | refine W_seq_k fun K hK => ?_ | refine W_block_k fun K hK => ?_ | refine W_skip ?_ | refine W_ret ?_) | ((first | ((with_reducible refine W_id ?_); refine W_reg (by decide) (by rfl) ?_) | (with_reducible first | refine W_cond ?_ | refine hZ _ _ ?_ | refine W_exit ?_ | refine Wo_id ?_)); repeat1' simp only [push_cast, Nat.reduceBEq, Nat.reduceLT, Nat.reduceEqDiff, reduceIte, reduceCtorEq, Nat.reduceMul, Nat.reduceAdd, Nat.reduceSub, Int.reduceEq, Int.reduceLT, Int.reduceLE, Int.reduceNeg, Int.reduceAdd, Int.reduceSub, Int.reduceMul, Nat.reduceLeDiff, Int.reduceToNat, cell_h, can_h, cellO_cells, canO_cells, setO_cells, heap_set_h, heap_alloc_h, size_set_h, size_alloc_h, vcells_agg, succ_ne, ne_succ, List.setIfInBounds_toArray, List.set_cons_succ, List.set_cons_zero, drew_h, hb4]) | ((repeat ((fail_if_success with_reducible refine hK _ _ ?_); clear hK K)); (with_reducible refine hK _ _ ?_); clear hK K))))
    refine ⟨⟨zN, .slice none 0 0, .slice none 0 0, none, none⟩, rfl, rfl, ⟨SlAt.nil _ _, SlAt.nil _ _⟩, ?_, by simp [Laid.blks], by simp [Laid.blks]⟩
    exact Upd.trans (Ext.alloc w _) (Upd.setCells (F := fun b => b = w.heap.size) (a := ⟨w.heap.size, 0, none⟩) _ rfl _ 0) fun i hi e => by omega
  | some n =>
    obtain ⟨k, rfl, hk, hkl⟩ := nd?_some hn
    obtain ⟨hb1, hb2⟩ := hb n (List.mem_of_getElem? hk)
    obtain ⟨bn, cap, M, m, hMA, hML, hF, hm, hmn, hl⟩ := h.at hk
    subst hmn
    refine Gives.of_W Try.call17 Try.func17 rfl Try.ntmps17 (by simp) ?_; intro Z hZ
    (repeat (first | (with_reducible first | (refine hK _ _ ?_; clear hK K) | refine (show ∀ σ' w', _ → K σ' w' from by assumption) _ _ ?_ | refine W_seq_k fun K hK => ?_ | refine W_block_k fun K hK => ?_ | refine W_skip ?_ | refine W_ret ?_) | ((first | ((with_reducible refine W_id ?_); refine W_reg (by decide) (by rfl) ?_) | (with_reducible first | refine W_cond ?_ | refine hZ _ _ ?_ | refine W_exit ?_ | refine Wo_id ?_)); repeat1' simp only [push_cast, Nat.reduceBEq, Nat.reduceLT, Nat.reduceEqDiff, reduceIte, reduceCtorEq, Nat.reduceMul, Nat.reduceAdd, Nat.reduceSub, Int.reduceEq, Int.reduceLT, Int.reduceLE, Int.reduceNeg, Int.reduceAdd, Int.reduceSub, Int.reduceMul, Nat.reduceLeDiff, Int.reduceToNat, cell_h, can_h, cellO_cells, canO_cells, setO_cells, heap_set_h, heap_alloc_h, size_set_h, size_alloc_h, vcells_agg, succ_ne, ne_succ, List.setIfInBounds_toArray, List.set_cons_succ, List.set_cons_zero, setCells, drew_h, RunV_zero Try.zeroValue30]) | ((repeat ((fail_if_success with_reducible refine hK _ _ ?_); clear hK K)); (with_reducible refine hK _ _ ?_); clear hK K)))
    refine (has_n k (h.ext (Ext.alloc _ _))).mono ?_
    rintro v w' ⟨rfl, rfl⟩
    rw [hn]
    have hM := hMA.frame (Ext.alloc w (.cells #[.int .i64 0, .string ⟨#[]⟩, .string ⟨#[]⟩, .int .i64 0, .slice none 0 0, .bool false, .int .i64 0, .int .i64 0, .slice none 0 0, .int .i64 0, .int .i64 0] 30)) fun _ _ h => h.elim
    have hh := hM.head
    have c0 := hM.cell hm (j := 0) (by decide)
    have c1 := hM.cell hm (j := 1) (by decide)
    have c2 := hM.cell hm (j := 2) (by decide)
    have c3 := hM.cell hm (j := 3) (by decide)
    have c4 := hM.cell hm (j := 4) (by decide)
    have c5 := hM.cell hm (j := 5) (by decide)
    have c6 := hM.cell hm (j := 6) (by decide)
    have c7 := hM.cell hm (j := 7) (by decide)
    have c8 := hM.cell hm (j := 8) (by decide)
    have c9 := hM.cell hm (j := 9) (by decide)
    have c10 := hM.cell hm (j := 10) (by decide)
    simp only [Laid.cells, List.getElem?_cons_zero, List.getElem?_cons_succ, Nat.add_zero] at c0 c1 c2 c3 c4 c5 c6 c7 c8 c9 c10
    have hi1 : (0 : Int) ≤ k := by omega
    have hi2 : (k : Int) < M.length := by omega
    have hok := hM.sub m (List.mem_of_getElem? hm)
    generalize hw1 : w.alloc (.cells #[.int .i64 0, .string ⟨#[]⟩, .string ⟨#[]⟩, .int .i64 0, .slice none 0 0, .bool false, .int .i64 0, .int .i64 0, .slice none 0 0, .int .i64 0, .int .i64 0] 30) = w1 at *
    obtain ⟨va, na, ka, eav, _, _⟩ := hok.attrs.len
    obtain ⟨vb, nb, kb, ekv, _, _⟩ := hok.kids.len
    rw [eav] at c4
    rw [ekv] at c8
    ((repeat simp only [push_cast, Nat.reduceBEq, Nat.reduceLT, Nat.reduceEqDiff, reduceIte, reduceCtorEq, Nat.reduceMul, Nat.reduceAdd, Nat.reduceSub, Int.reduceEq, Int.reduceLT, Int.reduceLE, Int.reduceNeg, Int.reduceAdd, Int.reduceSub, Int.reduceMul, Nat.reduceLeDiff, Int.reduceToNat, cell_h, can_h, cellO_cells, canO_cells, setO_cells, heap_set_h, heap_alloc_h, size_set_h, size_alloc_h, vcells_agg, succ_ne, ne_succ, List.setIfInBounds_toArray, List.set_cons_succ, List.set_cons_zero, drew_h, hh, hi1, hi2, c0, c1, c2, c3, c4, c5, c6, c7, c8, c9, c10, RunV_zero Try.zeroValue30]); (repeat (first | (with_reducible first | (refine hK _ _ ?_; clear hK K) | refine (show ∀ σ' w', _ → K σ' w' from by assumption) _ _ ?_ | refine W_seq_k fun K hK => ?_ | refine W_block_k fun K hK => ?_ | refine W_skip ?_ | refine W_ret ?_) | ((first | ((with_reducible refine W_id ?_); refine W_reg (by decide) (by rfl) ?_) | (with_reducible first | refine W_cond ?_ | refine hZ _ _ ?_ | refine W_exit ?_ | refine Wo_id ?_)); repeat1' simp only [push_cast, Nat.reduceBEq, Nat.reduceLT, Nat.reduceEqDiff, reduceIte, reduceCtorEq, Nat.reduceMul, Nat.reduceAdd, Nat.reduceSub, Int.reduceEq, Int.reduceLT, Int.reduceLE, Int.reduceNeg, Int.reduceAdd, Int.reduceSub, Int.reduceMul, Nat.reduceLeDiff, Int.reduceToNat, cell_h, can_h, cellO_cells, canO_cells, setO_cells, heap_set_h, heap_alloc_h, size_set_h, size_alloc_h, vcells_agg, succ_ne, ne_succ, List.setIfInBounds_toArray, List.set_cons_succ, List.set_cons_zero, drew_h, hh, hi1, hi2, c0, c1, c2, c3, c4, c5, c6, c7, c8, c9, c10, RunV_zero Try.zeroValue30]) | ((repeat ((fail_if_success with_reducible refine hK _ _ ?_); clear hK K)); (with_reducible refine hK _ _ ?_); clear hK K))))
    have hb5 := setCells_all (w := w1.alloc (.cells #[.int .i64 0, .string ⟨#[]⟩, .string ⟨#[]⟩, .int .i64 0, .slice none 0 0, .bool false, .int .i64 0, .int .i64 0, .slice none 0 0, .int .i64 0, .int .i64 0] 30)) (b := w1.heap.size) (cs := #[.int .i64 0, .string ⟨#[]⟩, .string ⟨#[]⟩, .int .i64 0, .slice none 0 0, .bool false, .int .i64 0, .int .i64 0, .slice none 0 0, .int .i64 0, .int .i64 0]) (t := 30) (f := (0, 0)) (by rw [heap_alloc_h, if_pos rfl]) (l := [.int .i64 m.nd.kind, .string m.nd.name, .string m.nd.text, .int .i64 m.nd.space, .slice va na ka, .bool m.nd.dup, .int .i64 m.nd.parent, .int .i64 m.nd.content, .slice vb nb kb, .int .i64 m.nd.frm, .int .i64 m.nd.to]) rfl
    have hx5 : Ext w1 (setCells (w1.alloc (.cells #[.int .i64 0, .string ⟨#[]⟩, .string ⟨#[]⟩, .int .i64 0, .slice none 0 0, .bool false, .int .i64 0, .int .i64 0, .slice none 0 0, .int .i64 0, .int .i64 0] 30)) ⟨w1.heap.size, 0, none⟩ [.int .i64 m.nd.kind, .string m.nd.name, .string m.nd.text, .int .i64 m.nd.space, .slice va na ka, .bool m.nd.dup, .int .i64 m.nd.parent, .int .i64 m.nd.content, .slice vb nb kb, .int .i64 m.nd.frm, .int .i64 m.nd.to] 0) := Upd.trans (Ext.alloc w1 _) (Upd.setCells (F := fun b => b = w1.heap.size) (a := ⟨w1.heap.size, 0, none⟩) _ rfl _ 0) fun i hi e => by omega
    generalize setCells (w1.alloc (.cells #[.int .i64 0, .string ⟨#[]⟩, .string ⟨#[]⟩, .int .i64 0, .slice none 0 0, .bool false, .int .i64 0, .int .i64 0, .slice none 0 0, .int .i64 0, .int .i64 0] 30)) ⟨w1.heap.size, 0, none⟩ [.int .i64 m.nd.kind, .string m.nd.name, .string m.nd.text, .int .i64 m.nd.space, .slice va na ka, .bool m.nd.dup, .int .i64 m.nd.parent, .int .i64 m.nd.content, .slice vb nb kb, .int .i64 m.nd.frm, .int .i64 m.nd.to] 0 = w2 at *
    refine W_draw (.pas 0 (.pas 1 (.pas 3 (.pas 4 (.act 2 (.pas 6 (.act 5 (.tail [7, 8, 9])))))))) (fun b => b = w1.heap.size) (by decide) mixed (by kernel_rfl) ?_
    (repeat (first | ((first | refine pas_plain rfl ?_ | refine pas_g rfl rfl ?_ | refine act_plain rfl ?_ | refine act_g rfl rfl ?_ | refine last_plain rfl ?_ | refine tail_plain rfl ?_ | refine tail_g rfl rfl ?_); (repeat simp only [push_cast, Nat.reduceBEq, Nat.reduceLT, Nat.reduceEqDiff, reduceIte, reduceCtorEq, Nat.reduceMul, Nat.reduceAdd, Nat.reduceSub, Int.reduceEq, Int.reduceLT, Int.reduceLE, Int.reduceNeg, Int.reduceAdd, Int.reduceSub, Int.reduceMul, Nat.reduceLeDiff, Int.reduceToNat, cell_h, can_h, cellO_cells, canO_cells, setO_cells, heap_set_h, heap_alloc_h, size_set_h, size_alloc_h, vcells_agg, succ_ne, ne_succ, List.setIfInBounds_toArray, List.set_cons_succ, List.set_cons_zero, drew_h, hb5])) | (refine tail_fin ?_) | (refine sch_fin ?_)))
    have hx5d : Ext w1 w2.drew := hx5.trans (Ext.drew _)
    have hat := hok.attrs
    have hkt := hok.kids
    rw [eav] at hat
    rw [ekv] at hkt
    refine (clone_a (hat.ext hx5d).rd hb2).mono ?_
    rintro v w3 ⟨bo3, g1, g2, g3⟩
    have hlt5 := blk_lt hb5
    have hw5 : ∀ b, b = w1.heap.size → b < w2.drew.heap.size := fun b hb => by rw [hb, drew_size]; exact hlt5
    refine ⟨fun b hb => g2.heap (hw5 b hb), ?_⟩
    have hb6 : w3.heap[w1.heap.size]? = some (.cells (List.toArray [.int .i64 m.nd.kind, .string m.nd.name, .string m.nd.text, .int .i64 m.nd.space, .slice va na ka, .bool m.nd.dup, .int .i64 m.nd.parent, .int .i64 m.nd.content, .slice vb nb kb, .int .i64 m.nd.frm, .int .i64 m.nd.to]) 30 (0, 0)) := (g2.heap (hw5 _ rfl)).trans (by rw [drew_h]; exact hb5)
    obtain ⟨va', na', ka', rfl, _, _⟩ := g1.len
    (repeat (first | ((first | refine pas_plain rfl ?_ | refine pas_g rfl rfl ?_ | refine act_plain rfl ?_ | refine act_g rfl rfl ?_ | refine last_plain rfl ?_ | refine tail_plain rfl ?_ | refine tail_g rfl rfl ?_); (repeat simp only [push_cast, Nat.reduceBEq, Nat.reduceLT, Nat.reduceEqDiff, reduceIte, reduceCtorEq, Nat.reduceMul, Nat.reduceAdd, Nat.reduceSub, Int.reduceEq, Int.reduceLT, Int.reduceLE, Int.reduceNeg, Int.reduceAdd, Int.reduceSub, Int.reduceMul, Nat.reduceLeDiff, Int.reduceToNat, cell_h, can_h, cellO_cells, canO_cells, setO_cells, heap_set_h, heap_alloc_h, size_set_h, size_alloc_h, vcells_agg, succ_ne, ne_succ, List.setIfInBounds_toArray, List.set_cons_succ, List.set_cons_zero, drew_h, hb6])) | (refine tail_fin ?_) | (refine sch_fin ?_)))
    refine (clone_i ((hkt.ext hx5d).ext g2) hb1).mono ?_
    rintro v w4 ⟨bo4, q1, q2, q3⟩
    have hb7 := (q2.heap (blk_lt hb6)).trans hb6
    obtain ⟨vb', nb', kb', rfl, _, _⟩ := q1.len
    first
    | refine ⟨fun b hb => q2.heap (by have hb' : b = w1.heap.size := hb; rw [hb']; exact blk_lt hb6), ?_⟩
    | skip
    (repeat (first | ((first | refine pas_plain rfl ?_ | refine pas_g rfl rfl ?_ | refine act_plain rfl ?_ | refine act_g rfl rfl ?_ | refine last_plain rfl ?_ | refine tail_plain rfl ?_ | refine tail_g rfl rfl ?_); (repeat simp only [push_cast, Nat.reduceBEq, Nat.reduceLT, Nat.reduceEqDiff, reduceIte, reduceCtorEq, Nat.reduceMul, Nat.reduceAdd, Nat.reduceSub, Int.reduceEq, Int.reduceLT, Int.reduceLE, Int.reduceNeg, Int.reduceAdd, Int.reduceSub, Int.reduceMul, Nat.reduceLeDiff, Int.reduceToNat, cell_h, can_h, cellO_cells, canO_cells, setO_cells, heap_set_h, heap_alloc_h, size_set_h, size_alloc_h, vcells_agg, succ_ne, ne_succ, List.setIfInBounds_toArray, List.set_cons_succ, List.set_cons_zero, drew_h, hb7])) | (refine tail_fin ?_) | (refine sch_fin ?_)))
    have z1 : w1.heap[w.heap.size]? = some (.cells #[.int .i64 0, .string ⟨#[]⟩, .string ⟨#[]⟩, .int .i64 0, .slice none 0 0, .bool false, .int .i64 0, .int .i64 0, .slice none 0 0, .int .i64 0, .int .i64 0] 30 (0, 0)) := by rw [← hw1, heap_alloc_h, if_pos rfl]
    have hl1 : w.heap.size < w1.heap.size := blk_lt z1
    have z2 := (hx5.heap hl1).trans z1
    have z3 : w3.heap[w.heap.size]? = some (.cells #[.int .i64 0, .string ⟨#[]⟩, .string ⟨#[]⟩, .int .i64 0, .slice none 0 0, .bool false, .int .i64 0, .int .i64 0, .slice none 0 0, .int .i64 0, .int .i64 0] 30 (0, 0)) := (g2.heap (by rw [drew_size]; exact blk_lt z2)).trans (by rw [drew_h]; exact z2)
    have z4 := (q2.heap (blk_lt z3)).trans z3
    have hne : ¬ w.heap.size = w1.heap.size := by omega
    have hne' : ¬ w1.heap.size = w.heap.size := by omega
    have x4 : Ext w w4 := by
      have hxa : Ext w w1 := by rw [← hw1]; exact Ext.alloc _ _
      exact ((hxa.trans hx5d).trans g2).trans q2
    have u5 : Upd (fun b => b = w1.heap.size) w4 ((w4.setCell ⟨w1.heap.size, 4, none⟩ (.slice va' na' ka')).setCell ⟨w1.heap.size, 8, none⟩ (.slice vb' nb' kb')) := by
      with_reducible refine Upd.put ?_ rfl
      with_reducible refine Upd.put ?_ rfl
      exact Upd.refl _ _
    have z5 : ((w4.setCell ⟨w1.heap.size, 4, none⟩ (.slice va' na' ka')).setCell ⟨w1.heap.size, 8, none⟩ (.slice vb' nb' kb')).heap[w.heap.size]? = some (.cells #[.int .i64 0, .string ⟨#[]⟩, .string ⟨#[]⟩, .int .i64 0, .slice none 0 0, .bool false, .int .i64 0, .int .i64 0, .slice none 0 0, .int .i64 0, .int .i64 0] 30 (0, 0)) := (u5.same _ (blk_lt z4) hne).trans z4
    have b5 : ((w4.setCell ⟨w1.heap.size, 4, none⟩ (.slice va' na' ka')).setCell ⟨w1.heap.size, 8, none⟩ (.slice vb' nb' kb')).heap[w1.heap.size]? = some (.cells (List.toArray [.int .i64 m.nd.kind, .string m.nd.name, .string m.nd.text, .int .i64 m.nd.space, .slice va' na' ka', .bool m.nd.dup, .int .i64 m.nd.parent, .int .i64 m.nd.content, .slice vb' nb' kb', .int .i64 m.nd.frm, .int .i64 m.nd.to]) 30 (0, 0)) := by
      rw [heap_set_same (heap_set_same hb7 _ _)]; rfl
    generalize (w4.setCell ⟨w1.heap.size, 4, none⟩ (.slice va' na' ka')).setCell ⟨w1.heap.size, 8, none⟩ (.slice vb' nb' kb') = w5 at *
    have z6 := setCells_all z5 (l := [.int .i64 m.nd.kind, .string m.nd.name, .string m.nd.text, .int .i64 m.nd.space, .slice va' na' ka', .bool m.nd.dup, .int .i64 m.nd.parent, .int .i64 m.nd.content, .slice vb' nb' kb', .int .i64 m.nd.frm, .int .i64 m.nd.to]) rfl
    have u6 : Upd (fun b => b = w.heap.size) w5 (setCells w5 ⟨w.heap.size, 0, none⟩ [.int .i64 m.nd.kind, .string m.nd.name, .string m.nd.text, .int .i64 m.nd.space, .slice va' na' ka', .bool m.nd.dup, .int .i64 m.nd.parent, .int .i64 m.nd.content, .slice vb' nb' kb', .int .i64 m.nd.frm, .int .i64 m.nd.to] 0) := Upd.setCells (F := fun b => b = w.heap.size) (a := ⟨w.heap.size, 0, none⟩) _ rfl _ 0
    have hwl : w1.heap.size < w2.drew.heap.size := hw5 _ rfl
    have hsz2 := g2.alike.size
    have f3 : ∀ b, bo3 = some b → w1.heap.size < b := fun b hb => by have := g3 b hb; omega
    have f4 : ∀ b, bo4 = some b → w3.heap.size ≤ b := q3
    have k1 : SlAt w5 2 (.slice va' na' ka') (attrCells m.nd.attrs) bo3 := (g1.ext q2).upd u5 fun b hb e => by have := f3 b hb; omega
    have k2 : SlAt w5 1 (.slice vb' nb' kb') (intCells m.nd.kids) bo4 := q1.upd u5 fun b hb e => by have := f4 b hb; omega
    have k1' := k1.upd u6 fun b hb e => by have := f3 b hb; omega
    have k2' := k2.upd u6 fun b hb e => by have := f4 b hb; omega
    have hg1 := g1
    clear z4 z3 z2 z1 hb7 hb6 hb5 hw5 q2 g2 hx5d hx5 hkt hat c0 c1 c2 c3 c4 c5 c6 c7 c8 c9 c10 hh hM hMA h k1 k2 g1 q1
    ((repeat simp only [push_cast, Nat.reduceBEq, Nat.reduceLT, Nat.reduceEqDiff, reduceIte, reduceCtorEq, Nat.reduceMul, Nat.reduceAdd, Nat.reduceSub, Int.reduceEq, Int.reduceLT, Int.reduceLE, Int.reduceNeg, Int.reduceAdd, Int.reduceSub, Int.reduceMul, Nat.reduceLeDiff, Int.reduceToNat, cell_h, can_h, cellO_cells, canO_cells, vcells_agg, hne, hne', z5, b5, z6]); (repeat (first | (with_reducible first | (refine hK _ _ ?_; clear hK K) | refine (show ∀ σ' w', _ → K σ' w' from by assumption) _ _ ?_ | refine W_seq_k fun K hK => ?_ | refine W_block_k fun K hK => ?_ | refine W_skip ?_ | refine W_ret ?_) | ((first | ((with_reducible refine W_id ?_); refine W_reg (by decide) (by rfl) ?_) | (with_reducible first | refine W_cond ?_ | refine hZ _ _ ?_ | refine W_exit ?_ | refine Wo_id ?_)); repeat1' simp only [push_cast, Nat.reduceBEq, Nat.reduceLT, Nat.reduceEqDiff, reduceIte, reduceCtorEq, Nat.reduceMul, Nat.reduceAdd, Nat.reduceSub, Int.reduceEq, Int.reduceLT, Int.reduceLE, Int.reduceNeg, Int.reduceAdd, Int.reduceSub, Int.reduceMul, Nat.reduceLeDiff, Int.reduceToNat, cell_h, can_h, cellO_cells, canO_cells, vcells_agg, hne, hne', z5, b5, z6]) | ((repeat ((fail_if_success with_reducible refine hK _ _ ?_); clear hK K)); (with_reducible refine hK _ _ ?_); clear hK K))))
    refine ⟨⟨m.nd, .slice va' na' ka', .slice vb' nb' kb', bo3, bo4⟩, rfl, rfl, ⟨k1', k2'⟩, ?_, fun b hb => ?_, ?_⟩
    · exact Upd.trans (Upd.trans x4 u5 fun i hi e => by omega) u6 fun i hi e => by omega
    · simp only [Laid.blks, List.mem_append, Option.mem_toList] at hb
      rcases hb with hb | hb
      · have := f3 b hb; omega
      · have := f4 b hb; omega
    · simp only [Laid.blks]
      cases bo3 with
      | none => cases bo4 <;> simp
      | some b3 =>
        cases bo4 with
        | none => simp
        | some b4 =>
          have h3 := hg1.lt
          have h4 := f4 b4 rfl
          simp; omega
end Go.Proofs.Ytkafpameheohdaa
