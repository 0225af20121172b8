/- hang: the walk. -/
import Derived.Test.YtkafpameheohdaaHd
import Derived.Test.YtkafpameheohdaaHang
set_option linter.unusedSimpArgs false
set_option linter.unusedVariables false
namespace Go.Proofs.Ytkafpameheohdaa
open Go.Vk
set_option maxHeartbeats 40000000
theorem hang_c {pa : Nat} {L : List Nd} {F : Nat → Prop} {w : World} (h : Ar w pa L F) (hb : L.length < 1000000) {i p : Nat} {r : Int} {n : Nd} (hn : L[i]? = some n)
    (hp : 0 ≤ n.parent → ∃ q, nd? L n.parent = some q ∧ (i : Int) ∈ q.kids ∧ q.kids.length < 1000000 ∧ n.parent ≠ i)
    {q : Nd} (hq : (freeN L i)[p]? = some q) (hqb : q.kids.length < 1000000) (hr : 0 ≤ r → r ∈ q.kids) (hpi : p ≠ i) (hi : i < (freeN L i).length) (hl : (freeN L i).length = L.length) :
    Gives Try.prog 56 #[.pointer (some ⟨pa, 0, none⟩), .int .i64 p, .int .i64 r, .int .i64 i] w fun v w' => v = .tuple #[] ∧ Ar w' pa (hangN L p r i) (fun b => F b ∨ w.heap.size ≤ b) ∧ Upd F w w' := by
  refine Gives.of_W Try.call56 Try.func56 rfl Try.ntmps56 (by simp) ?_; intro Z hZ
  (repeat (first | (with_reducible first | (refine hK _ _ ?_; clear hK K) | refine (show ∀ σ' w', _ → K σ' w' from by assumption) _ _ ?_ | refine W_seq_k fun K hK => ?_ | refine W_block_k fun K hK => ?_ | refine W_skip ?_ | refine W_ret ?_) | ((first | ((with_reducible refine W_id ?_); refine W_reg (by decide) (by rfl) ?_) | (with_reducible first | refine W_cond ?_ | refine hZ _ _ ?_ | refine W_exit ?_ | refine Wo_id ?_)); repeat1' simp only [push_cast, Nat.reduceBEq, Nat.reduceLT, Nat.reduceEqDiff, reduceIte, reduceCtorEq, Nat.reduceMul, Nat.reduceAdd, Nat.reduceSub, Int.reduceEq, Int.reduceLT, Int.reduceLE, Int.reduceNeg, Int.reduceAdd, Int.reduceSub, Int.reduceMul, Nat.reduceLeDiff, Int.reduceToNat]) | ((repeat ((fail_if_success with_reducible refine hK _ _ ?_); clear hK K)); (with_reducible refine hK _ _ ?_); clear hK K)))
  refine (free_c h hb hn hp).mono ?_
  rintro v w1 ⟨rfl, hA, hu⟩
  unfold hangN at hZ
  generalize freeN L i = L1 at *
  obtain ⟨bn, cap, M, m, hM, rfl, hF, hm, rfl, hlM⟩ := hA.at hq
  obtain ⟨mi, hmi⟩ : ∃ mi, M[i]? = some mi := ⟨M[i]'(by omega), List.getElem?_eq_getElem _⟩
  have hh := hM.head
  have hp1 : (0 : Int) ≤ p := by omega
  have hp2 : (p : Int) < M.length := by have := (List.getElem?_eq_some_iff.1 hm).1; omega
  have hi1 : (0 : Int) ≤ i := by omega
  have hi2 : (i : Int) < M.length := by omega
  have d8 := hM.cell hm (j := 8) (by decide)
  simp only [Laid.cells, List.getElem?_cons_zero, List.getElem?_cons_succ] at d8
  have hkids := (hM.sub m (List.mem_of_getElem? hm)).kids
  obtain ⟨ka, kn, kc, ekv, hkc, hkl⟩ := hkids.len
  rw [ekv] at d8 hkids
  rw [intCells_length, Nat.mul_one] at hkl
  obtain ⟨t, ht⟩ := hM.hdr
  have hpa : pa < w1.heap.size := blk_lt ht
  have hpk : ∀ b, m.kb = some b → b ≠ pa := fun b hb e => by
    subst e; exact (hM.nd_blks (List.mem_of_getElem? hm)).2.1 (by simp [Laid.blks, hb])
  have fin : ∀ (w2 : World) (v : Value) (bo : Option Nat) (ks : List Int) , SlAt w2 1 v (intCells ks) bo → Upd (fun b => m.kb = some b) w1 w2 → (∀ b, bo = some b → m.kb = some b ∨ w1.heap.size ≤ b) → setKids ks m.nd = addKid r i m.nd →
      canO (w2.heap[bn]?) (p * 11 + 8) ∧ (∃ t, (w2.setCell ⟨bn, p * 11 + 8, none⟩ v).heap[pa]? = some (.cells #[.slice (some ⟨bn, 0, none⟩) M.length cap] t (0, 0))) ∧ canO ((w2.setCell ⟨bn, p * 11 + 8, none⟩ v).heap[bn]?) (i * 11 + 6) ∧
      (Ar ((w2.setCell ⟨bn, p * 11 + 8, none⟩ v).setCell ⟨bn, i * 11 + 6, none⟩ (.int .i64 p)) pa (((M.map Laid.nd).modify p (addKid r i)).modify i (setPar p)) (fun b => F b ∨ w.heap.size ≤ b)) ∧ Upd F w ((w2.setCell ⟨bn, p * 11 + 8, none⟩ v).setCell ⟨bn, i * 11 + 6, none⟩ (.int .i64 p)) := by
    intro w2 v bo ks g1 g2 g3 hks
    obtain ⟨c1, hA2⟩ := hM.setKids hm g1 g2 g3
    obtain ⟨t2, ht2⟩ := hA2.hdr
    rw [List.length_set] at ht2
    have hm2 : (M.set p { nd := setKids ks m.nd, av := m.av, kv := v, ab := m.ab, kb := bo })[i]? = some mi := by rw [List.getElem?_set_ne hpi]; exact hmi
    have hA3 := hA2.repl (i := i) (m := mi) hm2 { mi with nd := setPar p mi.nd } 6 (.int .i64 p) rfl (by decide) (Upd.refl none_ _) (fun _ _ h => h.elim)
      ⟨(hA2.sub mi (List.mem_of_getElem? hm2)).attrs, (hA2.sub mi (List.mem_of_getElem? hm2)).kids⟩ (fun b hb => .inl hb) (hM.nd_blks (List.mem_of_getElem? hmi)).1
    have inM : ∀ x ∈ M, ∀ b ∈ x.blks, b ∈ blocks pa bn M := fun x hx b hb => by simp only [blocks, List.mem_cons, List.mem_flatMap]; exact .inr (.inr ⟨x, hx, hb⟩)
    have hsz := hu.alike.size
    refine ⟨c1, ⟨t2, ht2⟩, by rw [← can_h]; exact hA2.can (i := i) (by rw [List.length_set]; omega) (by decide), ⟨bn, cap, _, hA3, ?_, fun b hb => ?_⟩, ?_⟩
    · rw [map_set_modify (setPar p) hm2 rfl, map_set_modify (addKid r i) hm hks]
    · rcases blocks_set hb with hb | hb
      · rcases blocks_set hb with hb | hb
        · exact hF b hb
        · simp only [Laid.blks, List.mem_append, Option.mem_toList] at hb
          rcases hb with hb | hb
          · exact hF b (inM m (List.mem_of_getElem? hm) b (by simp [Laid.blks, hb]))
          · rcases g3 b hb with h | h
            · exact hF b (inM m (List.mem_of_getElem? hm) b (by simp [Laid.blks, h]))
            · exact .inr (by omega)
      · exact hF b (inM mi (List.mem_of_getElem? hmi) b hb)
    · have hFo : ∀ b, b < w.heap.size → b ∈ blocks pa bn M → F b := fun b hl hb => by
        rcases hF b hb with h | h
        · exact h
        · omega
      refine ((Upd.trans hu g2 fun b hl e => hFo b hl (inM m (List.mem_of_getElem? hm) b (by simp [Laid.blks, e]))).put2 ?_).put2 ?_
      · exact fun hl => hFo _ hl (by simp [blocks])
      · exact fun hl => hFo _ hl (by simp [blocks])
  by_cases hr0 : r < 0
  · ((repeat simp only [push_cast, Nat.reduceBEq, Nat.reduceLT, Nat.reduceEqDiff, reduceIte, reduceCtorEq, Nat.reduceMul, Nat.reduceAdd, Nat.reduceSub, Int.reduceEq, Int.reduceLT, Int.reduceLE, Int.reduceNeg, Int.reduceAdd, Int.reduceSub, Int.reduceMul, Nat.reduceLeDiff, Int.reduceToNat, hh, hp1, hp2, d8, hr0]); (repeat (first | (with_reducible first | (refine hK _ _ ?_; clear hK K) | refine (show ∀ σ' w', _ → K σ' w' from by assumption) _ _ ?_ | refine W_seq_k fun K hK => ?_ | refine W_block_k fun K hK => ?_ | refine W_skip ?_ | refine W_ret ?_) | ((first | ((with_reducible refine W_id ?_); refine W_reg (by decide) (by rfl) ?_) | (with_reducible first | refine W_cond ?_ | refine hZ _ _ ?_ | refine W_exit ?_ | refine Wo_id ?_)); repeat1' simp only [push_cast, Nat.reduceBEq, Nat.reduceLT, Nat.reduceEqDiff, reduceIte, reduceCtorEq, Nat.reduceMul, Nat.reduceAdd, Nat.reduceSub, Int.reduceEq, Int.reduceLT, Int.reduceLE, Int.reduceNeg, Int.reduceAdd, Int.reduceSub, Int.reduceMul, Nat.reduceLeDiff, Int.reduceToNat, hh, hp1, hp2, d8, hr0]) | ((repeat ((fail_if_success with_reducible refine hK _ _ ?_); clear hK K)); (with_reducible refine hK _ _ ?_); clear hK K))))
    refine W_draw (.pas 0 (.pas 1 (.pas 2 (.pas 3 (.pas 4 (.pas 5 (.pas 6 (.act 7 (.act 8 (.pas 9 (.pas 10 (.last 11)))))))))))) (fun b => b = pa) (by decide) mixed (by kernel_rfl) ?_
    (repeat (first | ((first | refine pas_plain rfl ?_ | refine pas_g rfl rfl ?_ | refine act_plain rfl ?_ | refine act_g rfl rfl ?_ | refine last_plain rfl ?_ | refine tail_plain rfl ?_ | refine tail_g rfl rfl ?_); (repeat simp only [push_cast, Nat.reduceBEq, Nat.reduceLT, Nat.reduceEqDiff, reduceIte, reduceCtorEq, Nat.reduceMul, Nat.reduceAdd, Nat.reduceSub, Int.reduceEq, Int.reduceLT, Int.reduceLE, Int.reduceNeg, Int.reduceAdd, Int.reduceSub, Int.reduceMul, Nat.reduceLeDiff, Int.reduceToNat, cell_h, can_h, cellO_cells, canO_cells, setO_cells, heap_set_h, heap_alloc_h, size_set_h, size_alloc_h, vcells_agg, succ_ne, ne_succ, List.setIfInBounds_toArray, List.set_cons_succ, List.set_cons_zero, setCells, drew_h, true_or, or_true, ht])) | (refine tail_fin ?_) | (refine sch_fin ?_)))
    refine bs_one sty28 (by decide) (by decide) (v := .int .i64 i) rfl ?_
    refine ⟨kept_upd (Ext.alloc _ _) fun b hb => ⟨by have : b = pa := hb; subst this; rw [drew_size]; exact hpa, id⟩, ?_⟩
    (repeat (first | ((first | refine pas_plain rfl ?_ | refine pas_g rfl rfl ?_ | refine act_plain rfl ?_ | refine act_g rfl rfl ?_ | refine last_plain rfl ?_ | refine tail_plain rfl ?_ | refine tail_g rfl rfl ?_); (repeat simp only [push_cast, Nat.reduceBEq, Nat.reduceLT, Nat.reduceEqDiff, reduceIte, reduceCtorEq, Nat.reduceMul, Nat.reduceAdd, Nat.reduceSub, Int.reduceEq, Int.reduceLT, Int.reduceLE, Int.reduceNeg, Int.reduceAdd, Int.reduceSub, Int.reduceMul, Nat.reduceLeDiff, Int.reduceToNat, cell_h, can_h, cellO_cells, canO_cells, setO_cells, heap_set_h, heap_alloc_h, size_set_h, size_alloc_h, vcells_agg, succ_ne, ne_succ, List.setIfInBounds_toArray, List.set_cons_succ, List.set_cons_zero, setCells, drew_h, true_or, or_true, ht])) | (refine tail_fin ?_) | (refine sch_fin ?_)))
    have hxa : Ext w1 (w1.drew.alloc (.cells (Value.int .i64 i).cells 3)) := (Ext.drew w1).trans (Ext.alloc _ _)
    have hs1 : SlAt (w1.drew.alloc (.cells (Value.int .i64 i).cells 3)) 1 (.slice (some ⟨w1.drew.heap.size, 0, none⟩) 1 1) (intCells [(i : Int)]) (some w1.drew.heap.size) := SlAt.new w1.drew 1 (Value.int .i64 i).cells 3 1 rfl
    refine app_to sty28 sty28.und (by decide) (hkids.ext hxa) hs1 (intCells_one _) (by simp [intCells]; omega) ?_
    intro v w2 bo g1 g2 g3
    rw [← intCells_append] at g1
    have hsa := hxa.alike.size
    refine ⟨kept_upd g2 fun b hb => ⟨by have : b = pa := hb; subst this; omega, fun e => hpk b e hb⟩, ?_⟩
    obtain ⟨c1, ⟨t2, c2⟩, c3, c4, c5⟩ := fin w2 v bo _ g1 (Upd.trans (hxa.upd (F := fun b => m.kb = some b)) g2 fun _ _ h => h) (fun b hb => by
      rcases g3 b hb with h | h
      · exact .inl h
      · exact .inr (by omega)) (by simp [addKid, hr0])
    obtain ⟨va, vn, vc, rfl, _, _⟩ := g1.len
    (repeat (first | ((first | refine pas_plain rfl ?_ | refine pas_g rfl rfl ?_ | refine act_plain rfl ?_ | refine act_g rfl rfl ?_ | refine last_plain rfl ?_ | refine tail_plain rfl ?_ | refine tail_g rfl rfl ?_); (repeat simp only [push_cast, Nat.reduceBEq, Nat.reduceLT, Nat.reduceEqDiff, reduceIte, reduceCtorEq, Nat.reduceMul, Nat.reduceAdd, Nat.reduceSub, Int.reduceEq, Int.reduceLT, Int.reduceLE, Int.reduceNeg, Int.reduceAdd, Int.reduceSub, Int.reduceMul, Nat.reduceLeDiff, Int.reduceToNat, cell_h, can_h, cellO_cells, canO_cells, setO_cells, heap_set_h, heap_alloc_h, size_set_h, size_alloc_h, vcells_agg, succ_ne, ne_succ, List.setIfInBounds_toArray, List.set_cons_succ, List.set_cons_zero, setCells, drew_h, true_or, or_true, ht, hp1, hp2, c1])) | (refine tail_fin ?_) | (refine sch_fin ?_)))
    generalize w2.setCell ⟨bn, p * 11 + 8, none⟩ (.slice va vn vc) = w3 at *
    ((repeat simp only [push_cast, Nat.reduceBEq, Nat.reduceLT, Nat.reduceEqDiff, reduceIte, reduceCtorEq, Nat.reduceMul, Nat.reduceAdd, Nat.reduceSub, Int.reduceEq, Int.reduceLT, Int.reduceLE, Int.reduceNeg, Int.reduceAdd, Int.reduceSub, Int.reduceMul, Nat.reduceLeDiff, Int.reduceToNat, cell_h, can_h, cellO_cells, canO_cells, setO_cells, heap_set_h, heap_alloc_h, size_set_h, size_alloc_h, vcells_agg, succ_ne, ne_succ, List.setIfInBounds_toArray, List.set_cons_succ, List.set_cons_zero, setCells, drew_h, c2, hi1, hi2, c3]); (repeat (first | (with_reducible first | (refine hK _ _ ?_; clear hK K) | refine (show ∀ σ' w', _ → K σ' w' from by assumption) _ _ ?_ | refine W_seq_k fun K hK => ?_ | refine W_block_k fun K hK => ?_ | refine W_skip ?_ | refine W_ret ?_) | ((first | ((with_reducible refine W_id ?_); refine W_reg (by decide) (by rfl) ?_) | (with_reducible first | refine W_cond ?_ | refine hZ _ _ ?_ | refine W_exit ?_ | refine Wo_id ?_)); repeat1' simp only [push_cast, Nat.reduceBEq, Nat.reduceLT, Nat.reduceEqDiff, reduceIte, reduceCtorEq, Nat.reduceMul, Nat.reduceAdd, Nat.reduceSub, Int.reduceEq, Int.reduceLT, Int.reduceLE, Int.reduceNeg, Int.reduceAdd, Int.reduceSub, Int.reduceMul, Nat.reduceLeDiff, Int.reduceToNat, cell_h, can_h, cellO_cells, canO_cells, setO_cells, heap_set_h, heap_alloc_h, size_set_h, size_alloc_h, vcells_agg, succ_ne, ne_succ, List.setIfInBounds_toArray, List.set_cons_succ, List.set_cons_zero, setCells, drew_h, c2, hi1, hi2, c3]) | ((repeat ((fail_if_success with_reducible refine hK _ _ ?_); clear hK K)); (with_reducible refine hK _ _ ?_); clear hK K))))
    exact ⟨c4, c5⟩
  · have hrq : r ∈ m.nd.kids := hr (by omega)
    obtain ⟨j, j1, j2, j3⟩ := insB_mem r i m.nd.kids 0 hrq
    obtain ⟨kb, ko, kn', kc', ekv', hkb⟩ := hkids.some_of (by simp [intCells]; intro e; rw [e] at hrq; simp at hrq)
    cases ekv'
    ((repeat simp only [push_cast, Nat.reduceBEq, Nat.reduceLT, Nat.reduceEqDiff, reduceIte, reduceCtorEq, Nat.reduceMul, Nat.reduceAdd, Nat.reduceSub, Int.reduceEq, Int.reduceLT, Int.reduceLE, Int.reduceNeg, Int.reduceAdd, Int.reduceSub, Int.reduceMul, Nat.reduceLeDiff, Int.reduceToNat, hh, hp1, hp2, d8, hr0]); (repeat (first | (with_reducible first | (refine hK _ _ ?_; clear hK K) | refine (show ∀ σ' w', _ → K σ' w' from by assumption) _ _ ?_ | refine W_seq_k fun K hK => ?_ | refine W_block_k fun K hK => ?_ | refine W_skip ?_ | refine W_ret ?_) | ((first | ((with_reducible refine W_id ?_); refine W_reg (by decide) (by rfl) ?_) | (with_reducible first | refine W_cond ?_ | refine hZ _ _ ?_ | refine W_exit ?_ | refine Wo_id ?_)); repeat1' simp only [push_cast, Nat.reduceBEq, Nat.reduceLT, Nat.reduceEqDiff, reduceIte, reduceCtorEq, Nat.reduceMul, Nat.reduceAdd, Nat.reduceSub, Int.reduceEq, Int.reduceLT, Int.reduceLE, Int.reduceNeg, Int.reduceAdd, Int.reduceSub, Int.reduceMul, Nat.reduceLeDiff, Int.reduceToNat, hh, hp1, hp2, d8, hr0]) | ((repeat ((fail_if_success with_reducible refine hK _ _ ?_); clear hK K)); (with_reducible refine hK _ _ ?_); clear hK K))))
    refine (index_c r hkids hqb).mono ?_
    rintro v w' ⟨rfl, rfl⟩
    rw [j1]
    ((repeat simp only [push_cast, Nat.reduceBEq, Nat.reduceLT, Nat.reduceEqDiff, reduceIte, reduceCtorEq, Nat.reduceMul, Nat.reduceAdd, Nat.reduceSub, Int.reduceEq, Int.reduceLT, Int.reduceLE, Int.reduceNeg, Int.reduceAdd, Int.reduceSub, Int.reduceMul, Nat.reduceLeDiff, Int.reduceToNat]); (repeat (first | (with_reducible first | (refine hK _ _ ?_; clear hK K) | refine (show ∀ σ' w', _ → K σ' w' from by assumption) _ _ ?_ | refine W_seq_k fun K hK => ?_ | refine W_block_k fun K hK => ?_ | refine W_skip ?_ | refine W_ret ?_) | ((first | ((with_reducible refine W_id ?_); refine W_reg (by decide) (by rfl) ?_) | (with_reducible first | refine W_cond ?_ | refine hZ _ _ ?_ | refine W_exit ?_ | refine Wo_id ?_)); repeat1' simp only [push_cast, Nat.reduceBEq, Nat.reduceLT, Nat.reduceEqDiff, reduceIte, reduceCtorEq, Nat.reduceMul, Nat.reduceAdd, Nat.reduceSub, Int.reduceEq, Int.reduceLT, Int.reduceLE, Int.reduceNeg, Int.reduceAdd, Int.reduceSub, Int.reduceMul, Nat.reduceLeDiff, Int.reduceToNat]) | ((repeat ((fail_if_success with_reducible refine hK _ _ ?_); clear hK K)); (with_reducible refine hK _ _ ?_); clear hK K))))
    have s1 : (0 : Int) ≤ j := by omega
    have s2 : (j : Int) ≤ kc := by omega
    have s3 : (j : Int) ≤ kn := by omega
    have s4 : (kn : Int) ≤ kc := by omega
    refine W_draw (.pas 0 (.pas 1 (.pas 2 (.pas 3 (.pas 4 (.pas 5 (.pas 6 (.pas 7 (.pas 8 (.pas 9 (.pas 12 (.pas 13 (.pas 14 (.act 10 (.act 11 (.act 15 (.pas 16 (.pas 17 (.last 18))))))))))))))))))) (fun b => b = pa) (by decide) mixed (by kernel_rfl) ?_
    (repeat (first | ((first | refine pas_plain rfl ?_ | refine pas_g rfl rfl ?_ | refine act_plain rfl ?_ | refine act_g rfl rfl ?_ | refine last_plain rfl ?_ | refine tail_plain rfl ?_ | refine tail_g rfl rfl ?_); (repeat simp only [push_cast, Nat.reduceBEq, Nat.reduceLT, Nat.reduceEqDiff, reduceIte, reduceCtorEq, Nat.reduceMul, Nat.reduceAdd, Nat.reduceSub, Int.reduceEq, Int.reduceLT, Int.reduceLE, Int.reduceNeg, Int.reduceAdd, Int.reduceSub, Int.reduceMul, Nat.reduceLeDiff, Int.reduceToNat, cell_h, can_h, cellO_cells, canO_cells, setO_cells, heap_set_h, heap_alloc_h, size_set_h, size_alloc_h, vcells_agg, succ_ne, ne_succ, List.setIfInBounds_toArray, List.set_cons_succ, List.set_cons_zero, setCells, drew_h, true_or, or_true, ht, s1, s2, s3, s4, Int.le_refl])) | (refine tail_fin ?_) | (refine sch_fin ?_)))
    have hkd := hkids.ext (Ext.drew w')
    have x1 := hkd.part1 (l := 0) (k := j) (m := j) (by omega) (by omega) (by omega) (by omega)
    refine bs_one sty28 (by decide) (by decide) (v := .int .i64 i) rfl ?_
    refine ⟨kept_upd (Ext.alloc _ _) fun b hb => ⟨by have : b = pa := hb; subst this; rw [drew_size]; exact hpa, id⟩, ?_⟩
    (repeat (first | ((first | refine pas_plain rfl ?_ | refine pas_g rfl rfl ?_ | refine act_plain rfl ?_ | refine act_g rfl rfl ?_ | refine last_plain rfl ?_ | refine tail_plain rfl ?_ | refine tail_g rfl rfl ?_); (repeat simp only [push_cast, Nat.reduceBEq, Nat.reduceLT, Nat.reduceEqDiff, reduceIte, reduceCtorEq, Nat.reduceMul, Nat.reduceAdd, Nat.reduceSub, Int.reduceEq, Int.reduceLT, Int.reduceLE, Int.reduceNeg, Int.reduceAdd, Int.reduceSub, Int.reduceMul, Nat.reduceLeDiff, Int.reduceToNat, cell_h, can_h, cellO_cells, canO_cells, setO_cells, heap_set_h, heap_alloc_h, size_set_h, size_alloc_h, vcells_agg, succ_ne, ne_succ, List.setIfInBounds_toArray, List.set_cons_succ, List.set_cons_zero, setCells, drew_h, true_or, or_true, ht, s1, s2, s3, s4, Int.le_refl])) | (refine tail_fin ?_) | (refine sch_fin ?_)))
    have hxa : Ext w' (w'.drew.alloc (.cells (Value.int .i64 i).cells 3)) := (Ext.drew w').trans (Ext.alloc _ _)
    have hs1 : SlAt (w'.drew.alloc (.cells (Value.int .i64 i).cells 3)) 1 (.slice (some ⟨w'.drew.heap.size, 0, none⟩) 1 1) (intCells [(i : Int)]) (some w'.drew.heap.size) := SlAt.new w'.drew 1 (Value.int .i64 i).cells 3 1 rfl
    refine app_spec sty28 sty28.und (by decide) (x1.ext (Ext.alloc _ _)) hs1 (intCells_one _) (by simp [intCells]; omega) ?_ ?_
    · rintro v w2 g1 g2 _ _ ⟨a, n1, c1, m1, e1, rfl, e2, e3⟩
      cases e1
      simp [intCells] at e3
      omega
    intro v w2 g1 g2 _ _ _
    have hsa := hxa.alike.size
    refine ⟨kept_upd g2 fun b hb => ⟨by have : b = pa := hb; subst this; omega, id⟩, ?_⟩
    obtain ⟨va, vn, vc, rfl, _, _⟩ := g1.len
    (repeat (first | ((first | refine pas_plain rfl ?_ | refine pas_g rfl rfl ?_ | refine act_plain rfl ?_ | refine act_g rfl rfl ?_ | refine last_plain rfl ?_ | refine tail_plain rfl ?_ | refine tail_g rfl rfl ?_); (repeat simp only [push_cast, Nat.reduceBEq, Nat.reduceLT, Nat.reduceEqDiff, reduceIte, reduceCtorEq, Nat.reduceMul, Nat.reduceAdd, Nat.reduceSub, Int.reduceEq, Int.reduceLT, Int.reduceLE, Int.reduceNeg, Int.reduceAdd, Int.reduceSub, Int.reduceMul, Nat.reduceLeDiff, Int.reduceToNat, cell_h, can_h, cellO_cells, canO_cells, setO_cells, heap_set_h, heap_alloc_h, size_set_h, size_alloc_h, vcells_agg, succ_ne, ne_succ, List.setIfInBounds_toArray, List.set_cons_succ, List.set_cons_zero, setCells, drew_h, true_or, or_true, ht, s1, s2, s3, s4, Int.le_refl])) | (refine tail_fin ?_) | (refine sch_fin ?_)))
    have x2 := (hkd.part1 (l := j) (k := kn) (m := kc) (by omega) (by omega) (by omega) (by omega)).ext ((Ext.alloc _ _).trans g2)
    have hkk : (((intCells m.nd.kids).drop 0).take (j - 0) ++ intCells [(i : Int)]) ++ ((intCells m.nd.kids).drop j).take (kn - j) = intCells (insB r i m.nd.kids) := by
      rw [← j3, intCells_append, intCells_append]
      simp only [intCells, List.drop_zero, Nat.sub_zero, List.map_take, List.map_drop]
      congr 1
      rw [List.take_of_length_le]; simp; omega
    refine app_to sty28 sty28.und (by decide) g1 x2 (by simp only [List.all_eq_true]; intro x hx; have := intCells_one m.nd.kids; rw [List.all_eq_true] at this; exact this x (List.mem_of_mem_drop (List.mem_of_mem_take hx))) (by simp [intCells]; omega) ?_
    intro v w3 bo q1 q2 q3
    rw [hkk] at q1
    have hsb := g2.alike.size
    refine ⟨kept_upd q2 fun b hb => ⟨by have : b = pa := hb; subst this; omega, fun e => by have : b = pa := hb; subst this; cases e; omega⟩, ?_⟩
    obtain ⟨c1, ⟨t2, c2⟩, c3, c4, c5⟩ := fin w3 v bo _ q1 (Upd.trans ((hxa.trans g2).upd (F := fun b => m.kb = some b)) q2 fun b hb e => by cases e; omega) (fun b hb => by
      rcases q3 b hb with h | h
      · cases h; exact .inr (by omega)
      · exact .inr (by omega)) (by simp [addKid, hr0])
    obtain ⟨va', vn', vc', rfl, _, _⟩ := q1.len
    (repeat (first | ((first | refine pas_plain rfl ?_ | refine pas_g rfl rfl ?_ | refine act_plain rfl ?_ | refine act_g rfl rfl ?_ | refine last_plain rfl ?_ | refine tail_plain rfl ?_ | refine tail_g rfl rfl ?_); (repeat simp only [push_cast, Nat.reduceBEq, Nat.reduceLT, Nat.reduceEqDiff, reduceIte, reduceCtorEq, Nat.reduceMul, Nat.reduceAdd, Nat.reduceSub, Int.reduceEq, Int.reduceLT, Int.reduceLE, Int.reduceNeg, Int.reduceAdd, Int.reduceSub, Int.reduceMul, Nat.reduceLeDiff, Int.reduceToNat, cell_h, can_h, cellO_cells, canO_cells, setO_cells, heap_set_h, heap_alloc_h, size_set_h, size_alloc_h, vcells_agg, succ_ne, ne_succ, List.setIfInBounds_toArray, List.set_cons_succ, List.set_cons_zero, setCells, drew_h, true_or, or_true, ht, hp1, hp2, c1])) | (refine tail_fin ?_) | (refine sch_fin ?_)))
    generalize w3.setCell ⟨bn, p * 11 + 8, none⟩ (.slice va' vn' vc') = w4 at *
    ((repeat simp only [push_cast, Nat.reduceBEq, Nat.reduceLT, Nat.reduceEqDiff, reduceIte, reduceCtorEq, Nat.reduceMul, Nat.reduceAdd, Nat.reduceSub, Int.reduceEq, Int.reduceLT, Int.reduceLE, Int.reduceNeg, Int.reduceAdd, Int.reduceSub, Int.reduceMul, Nat.reduceLeDiff, Int.reduceToNat, cell_h, can_h, cellO_cells, canO_cells, setO_cells, heap_set_h, heap_alloc_h, size_set_h, size_alloc_h, vcells_agg, succ_ne, ne_succ, List.setIfInBounds_toArray, List.set_cons_succ, List.set_cons_zero, setCells, drew_h, c2, hi1, hi2, c3]); (repeat (first | (with_reducible first | (refine hK _ _ ?_; clear hK K) | refine (show ∀ σ' w', _ → K σ' w' from by assumption) _ _ ?_ | refine W_seq_k fun K hK => ?_ | refine W_block_k fun K hK => ?_ | refine W_skip ?_ | refine W_ret ?_) | ((first | ((with_reducible refine W_id ?_); refine W_reg (by decide) (by rfl) ?_) | (with_reducible first | refine W_cond ?_ | refine hZ _ _ ?_ | refine W_exit ?_ | refine Wo_id ?_)); repeat1' simp only [push_cast, Nat.reduceBEq, Nat.reduceLT, Nat.reduceEqDiff, reduceIte, reduceCtorEq, Nat.reduceMul, Nat.reduceAdd, Nat.reduceSub, Int.reduceEq, Int.reduceLT, Int.reduceLE, Int.reduceNeg, Int.reduceAdd, Int.reduceSub, Int.reduceMul, Nat.reduceLeDiff, Int.reduceToNat, cell_h, can_h, cellO_cells, canO_cells, setO_cells, heap_set_h, heap_alloc_h, size_set_h, size_alloc_h, vcells_agg, succ_ne, ne_succ, List.setIfInBounds_toArray, List.set_cons_succ, List.set_cons_zero, setCells, drew_h, c2, hi1, hi2, c3]) | ((repeat ((fail_if_success with_reducible refine hK _ _ ?_); clear hK K)); (with_reducible refine hK _ _ ?_); clear hK K))))
    exact ⟨c4, c5⟩
end Go.Proofs.Ytkafpameheohdaa
