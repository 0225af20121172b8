/- What the proof leans on, part 4 of 7. -/
import Derived.Test.YtkafpameheohdaaDoorQStackBackC
section
set_option linter.unusedSimpArgs false
set_option linter.unusedVariables false
namespace Go.Proofs.YtkafpameheohdaaDoor
open Go.Vk
set_option maxHeartbeats 40000000
theorem rad_c {pa : Nat} {L : List Nd} {F : Nat → Prop} {w : World} (h : Ar w pa L F) (hb : L.length < 1000000) {m : Laid} (hm : RdAt w 2 m.av (attrCells m.nd.attrs)) (hmb : m.nd.attrs.length < 1000000) :
    Gives Tryd.prog 55 #[.pointer (some ⟨pa, 0, none⟩), m.val] w fun v w' => v = .int .i64 (addN L m.nd).2 ∧ Ar w' pa (addN L m.nd).1 (fun b => F b ∨ w.heap.size ≤ b) ∧ Upd F w w' := by
  rw [Laid.val_eq]
  have hpa : pa < w.heap.size := by obtain ⟨bn, cap, M, hM, _, _⟩ := h; exact hM.lt (by simp [blocks])
  have hne : ¬ pa = w.heap.size := by omega
  by_cases hk : kidK m.nd.kind = true
  · refine Gives.of_W Tryd.call55 Tryd.func55 rfl Tryd.ntmps55 (by simp) ?_; intro Z hZ
    (repeat (first | (with_reducible first | (refine hK _ _ ?_; clear hK K) | refine (show ∀ σ' w', _ → K σ' w' from by assumption) _ _ ?_ | refine W_seq_k fun K hK => ?_ | refine W_block_k fun K hK => ?_ | refine W_skip ?_ | refine W_ret ?_) | ((first | ((with_reducible refine W_id ?_); refine W_reg (by decide) (by rfl) ?_) | (with_reducible first | refine W_cond ?_ | refine hZ _ _ ?_ | refine W_exit ?_ | refine Wo_id ?_)); repeat1' simp only [push_cast, Nat.reduceBEq, Nat.reduceLT, Nat.reduceEqDiff, reduceIte, reduceCtorEq, Nat.reduceMul, Nat.reduceAdd, Nat.reduceSub, Int.reduceEq, Int.reduceLT, Int.reduceLE, Int.reduceNeg, Int.reduceAdd, Int.reduceSub, Int.reduceMul, Nat.reduceLeDiff, Int.reduceToNat, cell_h, can_h, cellO_cells, canO_cells, setO_cells, heap_set_h, heap_alloc_h, size_set_h, size_alloc_h, vcells_agg, succ_ne, ne_succ, List.setIfInBounds_toArray, List.set_cons_succ, List.set_cons_zero, setCells, drew_h]) | ((repeat ((fail_if_success with_reducible refine hK _ _ ?_); clear hK K)); (with_reducible refine hK _ _ ?_); clear hK K)))
    refine (rkid_c _).mono ?_
    rintro v w' ⟨rfl, rfl⟩
    have hx := h.ext (Ext.alloc w (.cells #[.int .i64 m.nd.kind, .string m.nd.name, .string m.nd.text, .int .i64 m.nd.space, m.av, .bool m.nd.dup, .int .i64 m.nd.parent, .int .i64 m.nd.content, m.kv, .int .i64 m.nd.frm, .int .i64 m.nd.to] 49))
    obtain ⟨bn, cap, M, hM, hML, hMF⟩ := h
    obtain ⟨t, ht⟩ := hM.hdr
    ((repeat simp only [push_cast, Nat.reduceBEq, Nat.reduceLT, Nat.reduceEqDiff, reduceIte, reduceCtorEq, Nat.reduceMul, Nat.reduceAdd, Nat.reduceSub, Int.reduceEq, Int.reduceLT, Int.reduceLE, Int.reduceNeg, Int.reduceAdd, Int.reduceSub, Int.reduceMul, Nat.reduceLeDiff, Int.reduceToNat, cell_h, can_h, cellO_cells, canO_cells, setO_cells, heap_set_h, heap_alloc_h, size_set_h, size_alloc_h, vcells_agg, succ_ne, ne_succ, List.setIfInBounds_toArray, List.set_cons_succ, List.set_cons_zero, setCells, drew_h, hk, hne, ht]); (repeat (first | (with_reducible first | (refine hK _ _ ?_; clear hK K) | refine (show ∀ σ' w', _ → K σ' w' from by assumption) _ _ ?_ | refine W_seq_k fun K hK => ?_ | refine W_block_k fun K hK => ?_ | refine W_skip ?_ | refine W_ret ?_) | ((first | ((with_reducible refine W_id ?_); refine W_reg (by decide) (by rfl) ?_) | (with_reducible first | refine W_cond ?_ | refine hZ _ _ ?_ | refine W_exit ?_ | refine Wo_id ?_)); repeat1' simp only [push_cast, Nat.reduceBEq, Nat.reduceLT, Nat.reduceEqDiff, reduceIte, reduceCtorEq, Nat.reduceMul, Nat.reduceAdd, Nat.reduceSub, Int.reduceEq, Int.reduceLT, Int.reduceLE, Int.reduceNeg, Int.reduceAdd, Int.reduceSub, Int.reduceMul, Nat.reduceLeDiff, Int.reduceToNat, cell_h, can_h, cellO_cells, canO_cells, setO_cells, heap_set_h, heap_alloc_h, size_set_h, size_alloc_h, vcells_agg, succ_ne, ne_succ, List.setIfInBounds_toArray, List.set_cons_succ, List.set_cons_zero, setCells, drew_h, hk, hne, ht]) | ((repeat ((fail_if_success with_reducible refine hK _ _ ?_); clear hK K)); (with_reducible refine hK _ _ ?_); clear hK K))))
    refine W_draw (.pas 0 (.pas 1 (.pas 2 (.pas 3 (.pas 4 (.pas 5 (.act 6 (.act 7 (.act 8 (.pas 9 (.pas 10 (.last 11)))))))))))) (fun b => b = pa ∨ b = w.heap.size) (by decide) mixed (by kernel_rfl) ?_
    (repeat (first | ((first | refine pas_plain rfl ?_ | refine pas_g rfl rfl ?_ | refine act_plain rfl ?_ | refine act_g rfl rfl ?_ | refine last_plain rfl ?_ | refine tail_plain rfl ?_ | refine tail_g rfl rfl ?_); (repeat simp only [push_cast, Nat.reduceBEq, Nat.reduceLT, Nat.reduceEqDiff, reduceIte, reduceCtorEq, Nat.reduceMul, Nat.reduceAdd, Nat.reduceSub, Int.reduceEq, Int.reduceLT, Int.reduceLE, Int.reduceNeg, Int.reduceAdd, Int.reduceSub, Int.reduceMul, Nat.reduceLeDiff, Int.reduceToNat, cell_h, can_h, cellO_cells, canO_cells, setO_cells, heap_set_h, heap_alloc_h, size_set_h, size_alloc_h, vcells_agg, succ_ne, ne_succ, List.setIfInBounds_toArray, List.set_cons_succ, List.set_cons_zero, setCells, drew_h, true_or, or_true, hne, ht])) | (refine tail_fin ?_) | (refine sch_fin ?_)))
    have hx1 : Ext w (w.alloc (.cells #[.int .i64 m.nd.kind, .string m.nd.name, .string m.nd.text, .int .i64 m.nd.space, m.av, .bool m.nd.dup, .int .i64 m.nd.parent, .int .i64 m.nd.content, m.kv, .int .i64 m.nd.frm, .int .i64 m.nd.to] 49)).drew := (Ext.alloc _ _).trans (Ext.drew _)
    refine (rmade_c (m := m) (hm.ext hx1) hmb).mono ?_
    rintro v w2 ⟨m', rfl, h1, h2, h3, h4, h5, h6⟩
    refine ⟨kept_upd h3 fun b hb => ⟨by simp only [drew_size, size_alloc_h]; omega, id⟩, ?_⟩
    (repeat (first | ((first | refine pas_plain rfl ?_ | refine pas_g rfl rfl ?_ | refine act_plain rfl ?_ | refine act_g rfl rfl ?_ | refine last_plain rfl ?_ | refine tail_plain rfl ?_ | refine tail_g rfl rfl ?_); (repeat simp only [push_cast, Nat.reduceBEq, Nat.reduceLT, Nat.reduceEqDiff, reduceIte, reduceCtorEq, Nat.reduceMul, Nat.reduceAdd, Nat.reduceSub, Int.reduceEq, Int.reduceLT, Int.reduceLE, Int.reduceNeg, Int.reduceAdd, Int.reduceSub, Int.reduceMul, Nat.reduceLeDiff, Int.reduceToNat, cell_h, can_h, cellO_cells, canO_cells, setO_cells, heap_set_h, heap_alloc_h, size_set_h, size_alloc_h, vcells_agg, succ_ne, ne_succ, List.setIfInBounds_toArray, List.set_cons_succ, List.set_cons_zero, setCells, drew_h, true_or, or_true, hne, ht])) | (refine tail_fin ?_) | (refine sch_fin ?_)))
    refine bs_one sty39 (by decide) (by decide) (v := m'.val) rfl ?_
    refine ⟨kept_upd (Ext.alloc _ _) fun b hb => ⟨?_, id⟩, ?_⟩
    · have := h3.alike.size
      simp only [drew_size, size_alloc_h] at this; omega
    (repeat (first | ((first | refine pas_plain rfl ?_ | refine pas_g rfl rfl ?_ | refine act_plain rfl ?_ | refine act_g rfl rfl ?_ | refine last_plain rfl ?_ | refine tail_plain rfl ?_ | refine tail_g rfl rfl ?_); (repeat simp only [push_cast, Nat.reduceBEq, Nat.reduceLT, Nat.reduceEqDiff, reduceIte, reduceCtorEq, Nat.reduceMul, Nat.reduceAdd, Nat.reduceSub, Int.reduceEq, Int.reduceLT, Int.reduceLE, Int.reduceNeg, Int.reduceAdd, Int.reduceSub, Int.reduceMul, Nat.reduceLeDiff, Int.reduceToNat, cell_h, can_h, cellO_cells, canO_cells, setO_cells, heap_set_h, heap_alloc_h, size_set_h, size_alloc_h, vcells_agg, succ_ne, ne_succ, List.setIfInBounds_toArray, List.set_cons_succ, List.set_cons_zero, setCells, drew_h, true_or, or_true, hne, ht])) | (refine tail_fin ?_) | (refine sch_fin ?_)))
    have hx2 : Ext w (w2.alloc (.cells m'.val.cells 49)) := hx1.trans (h3.trans (Ext.alloc _ _))
    have hok2 : m'.ok (w2.alloc (.cells m'.val.cells 49)) := h2.upd (Ext.alloc _ _) fun _ _ h => h.elim
    have hmlen : M.length = L.length := by rw [← hML]; simp
    refine hM.app sty39 hx2 hok2 (SlAt.new w2 11 m'.val.cells 49 1 rfl) (by omega) ?_
    intro bn' cap' w3 g1 g2 g3
    have hne2 : ¬ bn = w.heap.size := by have := hM.lt (b := bn) (by simp [blocks]); omega
    have hnp : ¬ pa = bn := by have := hM.own; simp [blocks] at this; exact this.1.1
    have hsz2 := h3.alike.size
    simp only [drew_size, size_alloc_h] at hsz2
    refine ⟨kept_upd g2 fun b hb => ⟨?_, ?_⟩, ?_⟩
    · simp only [size_alloc_h]; omega
    · rcases hb with rfl | rfl <;> omega
    (repeat (first | ((first | refine pas_plain rfl ?_ | refine pas_g rfl rfl ?_ | refine act_plain rfl ?_ | refine act_g rfl rfl ?_ | refine last_plain rfl ?_ | refine tail_plain rfl ?_ | refine tail_g rfl rfl ?_); (repeat simp only [push_cast, Nat.reduceBEq, Nat.reduceLT, Nat.reduceEqDiff, reduceIte, reduceCtorEq, Nat.reduceMul, Nat.reduceAdd, Nat.reduceSub, Int.reduceEq, Int.reduceLT, Int.reduceLE, Int.reduceNeg, Int.reduceAdd, Int.reduceSub, Int.reduceMul, Nat.reduceLeDiff, Int.reduceToNat, cell_h, can_h, cellO_cells, canO_cells, setO_cells, heap_set_h, heap_alloc_h, size_set_h, size_alloc_h, vcells_agg, succ_ne, ne_succ, List.setIfInBounds_toArray, List.set_cons_succ, List.set_cons_zero, setCells, drew_h, true_or, or_true, hne, ht])) | (refine tail_fin ?_) | (refine sch_fin ?_)))
    have hp3 : w3.heap[pa]? = some (.cells #[.slice (some ⟨bn, 0, none⟩) M.length cap] t (0, 0)) :=
      (g2.same pa (by simp only [size_alloc_h]; omega) hnp).trans ((hx2.heap hpa).trans ht)
    have hb3 : w3.heap[w.heap.size]? = some (.cells #[.int .i64 m.nd.kind, .string m.nd.name, .string m.nd.text, .int .i64 m.nd.space, m.av, .bool m.nd.dup, .int .i64 m.nd.parent, .int .i64 m.nd.content, m.kv, .int .i64 m.nd.frm, .int .i64 m.nd.to] 49 (0, 0)) := by
      refine (g2.same _ (by simp only [size_alloc_h]; omega) (fun e => hne2 e.symm)).trans ?_
      rw [heap_alloc_h, if_neg (by omega), h3.heap (by simp only [drew_size, size_alloc_h]; omega), drew_h, heap_alloc_h, if_pos rfl]
    (repeat simp only [push_cast, Nat.reduceBEq, Nat.reduceLT, Nat.reduceEqDiff, reduceIte, reduceCtorEq, Nat.reduceMul, Nat.reduceAdd, Nat.reduceSub, Int.reduceEq, Int.reduceLT, Int.reduceLE, Int.reduceNeg, Int.reduceAdd, Int.reduceSub, Int.reduceMul, Nat.reduceLeDiff, Int.reduceToNat, cell_h, can_h, cellO_cells, canO_cells, setO_cells, heap_set_h, heap_alloc_h, size_set_h, size_alloc_h, vcells_agg, succ_ne, ne_succ, List.setIfInBounds_toArray, List.set_cons_succ, List.set_cons_zero, setCells, drew_h, hp3])
    have hA := hM.push hx2 m' hok2 (fun b hb => by have := h4 b hb; simp only [drew_size, size_alloc_h] at this; omega) h5 g1 g2 g3
    have hu4 : Upd F w (w3.setCell ⟨pa, 0, none⟩ (.slice (some ⟨bn', 0, none⟩) (M.length + 1) cap')) :=
      (Upd.trans (hx2.upd (F := F)) g2 fun i hi e => by subst e; exact hMF _ (by simp [blocks])).put (hMF _ (by simp [blocks]))
    have hb4 : (w3.setCell ⟨pa, 0, none⟩ (.slice (some ⟨bn', 0, none⟩) (M.length + 1) cap')).heap[w.heap.size]? = some (.cells #[.int .i64 m.nd.kind, .string m.nd.name, .string m.nd.text, .int .i64 m.nd.space, m.av, .bool m.nd.dup, .int .i64 m.nd.parent, .int .i64 m.nd.content, m.kv, .int .i64 m.nd.frm, .int .i64 m.nd.to] 49 (0, 0)) := by
      rw [heap_set_h, if_neg (by omega), hb3]
    have hsz3 := g2.alike.size
    simp only [size_alloc_h] at hsz3
    have hsz4 : w3.heap.size = (w3.setCell ⟨pa, 0, none⟩ (.slice (some ⟨bn', 0, none⟩) (M.length + 1) cap')).heap.size := by simp
    generalize w3.setCell ⟨pa, 0, none⟩ (.slice (some ⟨bn', 0, none⟩) (M.length + 1) cap') = w4 at *
    have hlen4 : (M ++ [m']).length = M.length + 1 := by simp
    have hres : addN L m.nd = (L ++ [bareN m.nd], (L.length : Int)) → Ar w4 pa (addN L m.nd).1 (fun b => F b ∨ w.heap.size ≤ b) ∧ Upd F w w4 := fun e => by
      rw [e]
      refine ⟨⟨bn', cap', M ++ [m'], hA, by simp [hML, h1], fun b hb => ?_⟩, hu4⟩
      simp only [blocks, List.flatMap_append, List.flatMap_cons, List.flatMap_nil, List.append_nil, List.mem_cons, List.mem_append] at hb
      rcases hb with rfl | rfl | hb | hb
      · exact .inl (hMF _ (by simp [blocks]))
      · rcases g3 with rfl | g3
        · exact .inl (hMF _ (by simp [blocks]))
        · simp only [size_alloc_h] at g3; exact .inr (by omega)
      · exact .inl (hMF _ (by simp only [blocks, List.mem_cons]; exact .inr (.inr hb)))
      · have := h4 b hb
        simp only [drew_size, size_alloc_h] at this; exact .inr (by omega)
    by_cases c1 : m.nd.kind = 3
    · by_cases c3 : m.nd.name = ⟨#[116, 101, 109, 112, 108, 97, 116, 101]⟩
      · by_cases c2 : m.nd.space = 0
        · have hi1 : (0 : Int) ≤ M.length := by omega
          have hi2 : (M.length : Int) < (M.length : Int) + 1 := by omega
          have hr : inI64 ((M.length : Int) + 1) := by unfold inI64; omega
          obtain ⟨t', ht'⟩ := hA.hdr
          rw [hlen4] at ht'
          have hc7 : canO (w4.heap[bn']?) (M.length * 11 + 7) := by
            rw [← can_h]; exact hA.can (i := M.length) (by simp) (by decide)
          ((repeat simp only [push_cast, Nat.reduceBEq, Nat.reduceLT, Nat.reduceEqDiff, reduceIte, reduceCtorEq, Nat.reduceMul, Nat.reduceAdd, Nat.reduceSub, Int.reduceEq, Int.reduceLT, Int.reduceLE, Int.reduceNeg, Int.reduceAdd, Int.reduceSub, Int.reduceMul, Nat.reduceLeDiff, Int.reduceToNat, cell_h, can_h, cellO_cells, canO_cells, setO_cells, heap_set_h, heap_alloc_h, size_set_h, size_alloc_h, vcells_agg, succ_ne, ne_succ, List.setIfInBounds_toArray, List.set_cons_succ, List.set_cons_zero, setCells, drew_h, hb4, c1, c2, c3, ht', hi1, hi2, hr, hc7]); (repeat (first | (with_reducible first | (refine hK _ _ ?_; clear hK K) | refine (show ∀ σ' w', _ → K σ' w' from by assumption) _ _ ?_ | refine W_seq_k fun K hK => ?_ | refine W_block_k fun K hK => ?_ | refine W_skip ?_ | refine W_ret ?_) | ((first | ((with_reducible refine W_id ?_); refine W_reg (by decide) (by rfl) ?_) | (with_reducible first | refine W_cond ?_ | refine hZ _ _ ?_ | refine W_exit ?_ | refine Wo_id ?_)); repeat1' simp only [push_cast, Nat.reduceBEq, Nat.reduceLT, Nat.reduceEqDiff, reduceIte, reduceCtorEq, Nat.reduceMul, Nat.reduceAdd, Nat.reduceSub, Int.reduceEq, Int.reduceLT, Int.reduceLE, Int.reduceNeg, Int.reduceAdd, Int.reduceSub, Int.reduceMul, Nat.reduceLeDiff, Int.reduceToNat, cell_h, can_h, cellO_cells, canO_cells, setO_cells, heap_set_h, heap_alloc_h, size_set_h, size_alloc_h, vcells_agg, succ_ne, ne_succ, List.setIfInBounds_toArray, List.set_cons_succ, List.set_cons_zero, setCells, drew_h, hb4, c1, c2, c3, ht', hi1, hi2, hr, hc7]) | ((repeat ((fail_if_success with_reducible refine hK _ _ ?_); clear hK K)); (with_reducible refine hK _ _ ?_); clear hK K))))
          have hA5 := hA.repl (i := M.length) (m := m') (by simp) { m' with nd := { m'.nd with content := (M.length : Int) + 1 } } 7 (.int .i64 ((M.length : Int) + 1)) rfl (by decide) (Upd.refl none_ w4) (fun _ _ h => h.elim)
            ⟨(hA.sub m' (by simp)).attrs, (hA.sub m' (by simp)).kids⟩ (fun b hb => .inl hb) h5
          rw [set_split] at hA5
          have hFn : bn' < w.heap.size → F bn' := fun hl => by
            rcases g3 with rfl | g3
            · exact hMF _ (by simp [blocks])
            · simp only [size_alloc_h] at g3; omega
          have hu5 := hu4.put2 (x := ⟨bn', M.length * 11 + 7, none⟩) (v := .int .i64 ((M.length : Int) + 1)) hFn
          obtain ⟨M5, hM5, hl5, hn5, hb5⟩ : ∃ M5 : List Laid, M5 = M ++ [{ m' with nd := { m'.nd with content := (M.length : Int) + 1 } }] ∧ M5.length = M.length + 1 ∧ M5.map Laid.nd = L ++ [{ bareN m.nd with content := (L.length : Int) + 1 }] ∧ M5.flatMap Laid.blks = M.flatMap Laid.blks ++ m'.blks :=
            ⟨_, rfl, by simp, by simp [hML, h1, hmlen], by simp [Laid.blks]⟩
          rw [← hM5] at hA5
          have hsz5 : w4.heap.size = (w4.setCell ⟨bn', M.length * 11 + 7, none⟩ (.int .i64 ((M.length : Int) + 1))).heap.size := by simp
          generalize w4.setCell ⟨bn', M.length * 11 + 7, none⟩ (.int .i64 ((M.length : Int) + 1)) = w5 at *
          obtain ⟨t5, ht5⟩ := hA5.hdr
          have hpa5 : pa < w5.heap.size := hA5.lt (by simp [blocks])
          refine W_draw (.pas 0 (.pas 1 (.pas 2 (.pas 3 (.pas 4 (.pas 5 (.act 6 (.act 7 (.act 8 (.pas 9 (.pas 10 (.last 11)))))))))))) (fun b => b = pa) (by decide) mixed (by kernel_rfl) ?_
          rw [hl5] at ht5
          (repeat (first | ((first | refine pas_plain rfl ?_ | refine pas_g rfl rfl ?_ | refine act_plain rfl ?_ | refine act_g rfl rfl ?_ | refine last_plain rfl ?_ | refine tail_plain rfl ?_ | refine tail_g rfl rfl ?_); (repeat simp only [push_cast, Nat.reduceBEq, Nat.reduceLT, Nat.reduceEqDiff, reduceIte, reduceCtorEq, Nat.reduceMul, Nat.reduceAdd, Nat.reduceSub, Int.reduceEq, Int.reduceLT, Int.reduceLE, Int.reduceNeg, Int.reduceAdd, Int.reduceSub, Int.reduceMul, Nat.reduceLeDiff, Int.reduceToNat, cell_h, can_h, cellO_cells, canO_cells, setO_cells, heap_set_h, heap_alloc_h, size_set_h, size_alloc_h, vcells_agg, succ_ne, ne_succ, List.setIfInBounds_toArray, List.set_cons_succ, List.set_cons_zero, setCells, drew_h, true_or, or_true, ht5])) | (refine tail_fin ?_) | (refine sch_fin ?_)))
          refine build_struct Tryd.zeroValue49 un30 pl30 (cs := #[.int .i64 6, .string ⟨#[]⟩, .string ⟨#[]⟩, .int .i64 0, .slice none 0 0, .bool false, .int .i64 0, .int .i64 0, .slice none 0 0, .int .i64 (-1), .int .i64 (-1)]) (by rfl) ?_
          (repeat (first | ((first | refine pas_plain rfl ?_ | refine pas_g rfl rfl ?_ | refine act_plain rfl ?_ | refine act_g rfl rfl ?_ | refine last_plain rfl ?_ | refine tail_plain rfl ?_ | refine tail_g rfl rfl ?_); (repeat simp only [push_cast, Nat.reduceBEq, Nat.reduceLT, Nat.reduceEqDiff, reduceIte, reduceCtorEq, Nat.reduceMul, Nat.reduceAdd, Nat.reduceSub, Int.reduceEq, Int.reduceLT, Int.reduceLE, Int.reduceNeg, Int.reduceAdd, Int.reduceSub, Int.reduceMul, Nat.reduceLeDiff, Int.reduceToNat, cell_h, can_h, cellO_cells, canO_cells, setO_cells, heap_set_h, heap_alloc_h, size_set_h, size_alloc_h, vcells_agg, succ_ne, ne_succ, List.setIfInBounds_toArray, List.set_cons_succ, List.set_cons_zero, setCells, drew_h, true_or, or_true, ht5])) | (refine tail_fin ?_) | (refine sch_fin ?_)))
          refine (rmade_c (m := ⟨{ zN with kind := 6, frm := -1, to := -1 }, .slice none 0 0, .slice none 0 0, none, none⟩) (SlAt.nil _ _).rd (by decide)).mono ?_
          rintro v w6 ⟨m6, rfl, k1, k2, k3, k4, k5, k6⟩
          refine ⟨kept_upd k3 fun b hb => ⟨by simp only [drew_size]; omega, id⟩, ?_⟩
          (repeat (first | ((first | refine pas_plain rfl ?_ | refine pas_g rfl rfl ?_ | refine act_plain rfl ?_ | refine act_g rfl rfl ?_ | refine last_plain rfl ?_ | refine tail_plain rfl ?_ | refine tail_g rfl rfl ?_); (repeat simp only [push_cast, Nat.reduceBEq, Nat.reduceLT, Nat.reduceEqDiff, reduceIte, reduceCtorEq, Nat.reduceMul, Nat.reduceAdd, Nat.reduceSub, Int.reduceEq, Int.reduceLT, Int.reduceLE, Int.reduceNeg, Int.reduceAdd, Int.reduceSub, Int.reduceMul, Nat.reduceLeDiff, Int.reduceToNat, cell_h, can_h, cellO_cells, canO_cells, setO_cells, heap_set_h, heap_alloc_h, size_set_h, size_alloc_h, vcells_agg, succ_ne, ne_succ, List.setIfInBounds_toArray, List.set_cons_succ, List.set_cons_zero, setCells, drew_h, true_or, or_true, ht5])) | (refine tail_fin ?_) | (refine sch_fin ?_)))
          refine bs_one sty39 (by decide) (by decide) (v := m6.val) rfl ?_
          have hsz6 := k3.alike.size
          simp only [drew_size] at hsz6
          refine ⟨kept_upd (Ext.alloc _ _) fun b hb => ⟨by have : b = pa := hb; subst this; omega, id⟩, ?_⟩
          (repeat (first | ((first | refine pas_plain rfl ?_ | refine pas_g rfl rfl ?_ | refine act_plain rfl ?_ | refine act_g rfl rfl ?_ | refine last_plain rfl ?_ | refine tail_plain rfl ?_ | refine tail_g rfl rfl ?_); (repeat simp only [push_cast, Nat.reduceBEq, Nat.reduceLT, Nat.reduceEqDiff, reduceIte, reduceCtorEq, Nat.reduceMul, Nat.reduceAdd, Nat.reduceSub, Int.reduceEq, Int.reduceLT, Int.reduceLE, Int.reduceNeg, Int.reduceAdd, Int.reduceSub, Int.reduceMul, Nat.reduceLeDiff, Int.reduceToNat, cell_h, can_h, cellO_cells, canO_cells, setO_cells, heap_set_h, heap_alloc_h, size_set_h, size_alloc_h, vcells_agg, succ_ne, ne_succ, List.setIfInBounds_toArray, List.set_cons_succ, List.set_cons_zero, setCells, drew_h, true_or, or_true, ht5])) | (refine tail_fin ?_) | (refine sch_fin ?_)))
          have hx6 : Ext w5 (w6.alloc (.cells m6.val.cells 49)) := (Ext.drew _).trans (k3.trans (Ext.alloc _ _))
          have hok6 : m6.ok (w6.alloc (.cells m6.val.cells 49)) := k2.upd (Ext.alloc _ _) fun _ _ h => h.elim
          rw [← hl5]
          refine hA5.app sty39 hx6 hok6 (SlAt.new w6 11 m6.val.cells 49 1 rfl) (by omega) ?_
          intro bn7 cap7 w7 q1 q2 q3
          have hnp5 : ¬ pa = bn' := by have := hA5.own; simp [blocks] at this; exact this.1.1
          refine ⟨kept_upd q2 fun b hb => ⟨?_, ?_⟩, ?_⟩
          · simp only [size_alloc_h]; omega
          · omega
          have hp7 : w7.heap[pa]? = some (.cells #[.slice (some ⟨bn', 0, none⟩) (M.length + 1) cap'] t5 (0, 0)) :=
            (q2.same pa (by simp only [size_alloc_h]; omega) hnp5).trans ((hx6.heap hpa5).trans ht5)
          (repeat (first | ((first | refine pas_plain rfl ?_ | refine pas_g rfl rfl ?_ | refine act_plain rfl ?_ | refine act_g rfl rfl ?_ | refine last_plain rfl ?_ | refine tail_plain rfl ?_ | refine tail_g rfl rfl ?_); (repeat simp only [push_cast, Nat.reduceBEq, Nat.reduceLT, Nat.reduceEqDiff, reduceIte, reduceCtorEq, Nat.reduceMul, Nat.reduceAdd, Nat.reduceSub, Int.reduceEq, Int.reduceLT, Int.reduceLE, Int.reduceNeg, Int.reduceAdd, Int.reduceSub, Int.reduceMul, Nat.reduceLeDiff, Int.reduceToNat, cell_h, can_h, cellO_cells, canO_cells, setO_cells, heap_set_h, heap_alloc_h, size_set_h, size_alloc_h, vcells_agg, succ_ne, ne_succ, List.setIfInBounds_toArray, List.set_cons_succ, List.set_cons_zero, setCells, drew_h, true_or, or_true, hp7])) | (refine tail_fin ?_) | (refine sch_fin ?_)))
          have hA8 := hA5.push hx6 m6 hok6 (fun b hb => by have := k4 b hb; simpa only [drew_size] using this) k5 q1 q2 q3
          have hu8 : Upd F w (w7.setCell ⟨pa, 0, none⟩ (.slice (some ⟨bn7, 0, none⟩) (M5.length + 1) cap7)) :=
            (Upd.trans (Upd.trans hu5 hx6 fun _ _ h => h.elim) q2 fun i hi e => by subst e; exact hFn hi).put (hMF _ (by simp [blocks]))
          generalize w7.setCell ⟨pa, 0, none⟩ (.slice (some ⟨bn7, 0, none⟩) (M5.length + 1) cap7) = w8 at *
          have e : addN L m.nd = (L ++ [{ bareN m.nd with content := (L.length : Int) + 1 }, contN], (L.length : Int)) := by simp [addN, kidK, c1, c2, tmpl, c3]
          ((repeat simp only [push_cast, Nat.reduceBEq, Nat.reduceLT, Nat.reduceEqDiff, reduceIte, reduceCtorEq, Nat.reduceMul, Nat.reduceAdd, Nat.reduceSub, Int.reduceEq, Int.reduceLT, Int.reduceLE, Int.reduceNeg, Int.reduceAdd, Int.reduceSub, Int.reduceMul, Nat.reduceLeDiff, Int.reduceToNat]); (repeat (first | (with_reducible first | (refine hK _ _ ?_; clear hK K) | refine (show ∀ σ' w', _ → K σ' w' from by assumption) _ _ ?_ | refine W_seq_k fun K hK => ?_ | refine W_block_k fun K hK => ?_ | refine W_skip ?_ | refine W_ret ?_) | ((first | ((with_reducible refine W_id ?_); refine W_reg (by decide) (by rfl) ?_) | (with_reducible first | refine W_cond ?_ | refine hZ _ _ ?_ | refine W_exit ?_ | refine Wo_id ?_)); repeat1' simp only [push_cast, Nat.reduceBEq, Nat.reduceLT, Nat.reduceEqDiff, reduceIte, reduceCtorEq, Nat.reduceMul, Nat.reduceAdd, Nat.reduceSub, Int.reduceEq, Int.reduceLT, Int.reduceLE, Int.reduceNeg, Int.reduceAdd, Int.reduceSub, Int.reduceMul, Nat.reduceLeDiff, Int.reduceToNat]) | ((repeat ((fail_if_success with_reducible refine hK _ _ ?_); clear hK K)); (with_reducible refine hK _ _ ?_); clear hK K))))
          rw [e]
          refine ⟨by rw [hmlen], ⟨bn7, cap7, M5 ++ [m6], hA8, by simp [hn5, k1, contN, bareN, zN], fun b hb => ?_⟩, hu8⟩
          simp only [blocks, List.flatMap_append, List.flatMap_cons, List.flatMap_nil, List.append_nil, List.mem_cons, List.mem_append, hb5] at hb
          rcases hb with hb | hb | (hb | hb) | hb
          · rw [hb]; exact .inl (hMF _ (by simp [blocks]))
          · rw [hb]
            rcases q3 with q3 | q3
            · rw [q3]
              rcases Nat.lt_or_ge bn' w.heap.size with hl | hl
              · exact .inl (hFn hl)
              · exact .inr hl
            · simp only [size_alloc_h] at q3; exact .inr (by omega)
          · exact .inl (hMF _ (by simp only [blocks, List.mem_cons]; exact .inr (.inr hb)))
          · have := h4 b hb
            simp only [drew_size, size_alloc_h] at this; exact .inr (by omega)
          · have := k4 b hb
            simp only [drew_size] at this; exact .inr (by omega)
        · have e : addN L m.nd = (L ++ [bareN m.nd], (L.length : Int)) := by simp [addN, kidK, c1, c2]
          ((repeat simp only [push_cast, Nat.reduceBEq, Nat.reduceLT, Nat.reduceEqDiff, reduceIte, reduceCtorEq, Nat.reduceMul, Nat.reduceAdd, Nat.reduceSub, Int.reduceEq, Int.reduceLT, Int.reduceLE, Int.reduceNeg, Int.reduceAdd, Int.reduceSub, Int.reduceMul, Nat.reduceLeDiff, Int.reduceToNat, cell_h, can_h, cellO_cells, canO_cells, setO_cells, heap_set_h, heap_alloc_h, size_set_h, size_alloc_h, vcells_agg, succ_ne, ne_succ, List.setIfInBounds_toArray, List.set_cons_succ, List.set_cons_zero, setCells, drew_h, hb4, c1, c2, c3]); (repeat (first | (with_reducible first | (refine hK _ _ ?_; clear hK K) | refine (show ∀ σ' w', _ → K σ' w' from by assumption) _ _ ?_ | refine W_seq_k fun K hK => ?_ | refine W_block_k fun K hK => ?_ | refine W_skip ?_ | refine W_ret ?_) | ((first | ((with_reducible refine W_id ?_); refine W_reg (by decide) (by rfl) ?_) | (with_reducible first | refine W_cond ?_ | refine hZ _ _ ?_ | refine W_exit ?_ | refine Wo_id ?_)); repeat1' simp only [push_cast, Nat.reduceBEq, Nat.reduceLT, Nat.reduceEqDiff, reduceIte, reduceCtorEq, Nat.reduceMul, Nat.reduceAdd, Nat.reduceSub, Int.reduceEq, Int.reduceLT, Int.reduceLE, Int.reduceNeg, Int.reduceAdd, Int.reduceSub, Int.reduceMul, Nat.reduceLeDiff, Int.reduceToNat, cell_h, can_h, cellO_cells, canO_cells, setO_cells, heap_set_h, heap_alloc_h, size_set_h, size_alloc_h, vcells_agg, succ_ne, ne_succ, List.setIfInBounds_toArray, List.set_cons_succ, List.set_cons_zero, setCells, drew_h, hb4, c1, c2, c3]) | ((repeat ((fail_if_success with_reducible refine hK _ _ ?_); clear hK K)); (with_reducible refine hK _ _ ?_); clear hK K))))
          exact ⟨by rw [e, hmlen], hres e⟩
      · have e : addN L m.nd = (L ++ [bareN m.nd], (L.length : Int)) := by simp [addN, kidK, c1, tmpl, c3]
        ((repeat simp only [push_cast, Nat.reduceBEq, Nat.reduceLT, Nat.reduceEqDiff, reduceIte, reduceCtorEq, Nat.reduceMul, Nat.reduceAdd, Nat.reduceSub, Int.reduceEq, Int.reduceLT, Int.reduceLE, Int.reduceNeg, Int.reduceAdd, Int.reduceSub, Int.reduceMul, Nat.reduceLeDiff, Int.reduceToNat, cell_h, can_h, cellO_cells, canO_cells, setO_cells, heap_set_h, heap_alloc_h, size_set_h, size_alloc_h, vcells_agg, succ_ne, ne_succ, List.setIfInBounds_toArray, List.set_cons_succ, List.set_cons_zero, setCells, drew_h, hb4, c1, c3]); (repeat (first | (with_reducible first | (refine hK _ _ ?_; clear hK K) | refine (show ∀ σ' w', _ → K σ' w' from by assumption) _ _ ?_ | refine W_seq_k fun K hK => ?_ | refine W_block_k fun K hK => ?_ | refine W_skip ?_ | refine W_ret ?_) | ((first | ((with_reducible refine W_id ?_); refine W_reg (by decide) (by rfl) ?_) | (with_reducible first | refine W_cond ?_ | refine hZ _ _ ?_ | refine W_exit ?_ | refine Wo_id ?_)); repeat1' simp only [push_cast, Nat.reduceBEq, Nat.reduceLT, Nat.reduceEqDiff, reduceIte, reduceCtorEq, Nat.reduceMul, Nat.reduceAdd, Nat.reduceSub, Int.reduceEq, Int.reduceLT, Int.reduceLE, Int.reduceNeg, Int.reduceAdd, Int.reduceSub, Int.reduceMul, Nat.reduceLeDiff, Int.reduceToNat, cell_h, can_h, cellO_cells, canO_cells, setO_cells, heap_set_h, heap_alloc_h, size_set_h, size_alloc_h, vcells_agg, succ_ne, ne_succ, List.setIfInBounds_toArray, List.set_cons_succ, List.set_cons_zero, setCells, drew_h, hb4, c1, c3]) | ((repeat ((fail_if_success with_reducible refine hK _ _ ?_); clear hK K)); (with_reducible refine hK _ _ ?_); clear hK K))))
        exact ⟨by rw [e, hmlen], hres e⟩
    · have e : addN L m.nd = (L ++ [bareN m.nd], (L.length : Int)) := by simp only [addN, hk, c1]; simp
      ((repeat simp only [push_cast, Nat.reduceBEq, Nat.reduceLT, Nat.reduceEqDiff, reduceIte, reduceCtorEq, Nat.reduceMul, Nat.reduceAdd, Nat.reduceSub, Int.reduceEq, Int.reduceLT, Int.reduceLE, Int.reduceNeg, Int.reduceAdd, Int.reduceSub, Int.reduceMul, Nat.reduceLeDiff, Int.reduceToNat, cell_h, can_h, cellO_cells, canO_cells, setO_cells, heap_set_h, heap_alloc_h, size_set_h, size_alloc_h, vcells_agg, succ_ne, ne_succ, List.setIfInBounds_toArray, List.set_cons_succ, List.set_cons_zero, setCells, drew_h, hb4, c1]); (repeat (first | (with_reducible first | (refine hK _ _ ?_; clear hK K) | refine (show ∀ σ' w', _ → K σ' w' from by assumption) _ _ ?_ | refine W_seq_k fun K hK => ?_ | refine W_block_k fun K hK => ?_ | refine W_skip ?_ | refine W_ret ?_) | ((first | ((with_reducible refine W_id ?_); refine W_reg (by decide) (by rfl) ?_) | (with_reducible first | refine W_cond ?_ | refine hZ _ _ ?_ | refine W_exit ?_ | refine Wo_id ?_)); repeat1' simp only [push_cast, Nat.reduceBEq, Nat.reduceLT, Nat.reduceEqDiff, reduceIte, reduceCtorEq, Nat.reduceMul, Nat.reduceAdd, Nat.reduceSub, Int.reduceEq, Int.reduceLT, Int.reduceLE, Int.reduceNeg, Int.reduceAdd, Int.reduceSub, Int.reduceMul, Nat.reduceLeDiff, Int.reduceToNat, cell_h, can_h, cellO_cells, canO_cells, setO_cells, heap_set_h, heap_alloc_h, size_set_h, size_alloc_h, vcells_agg, succ_ne, ne_succ, List.setIfInBounds_toArray, List.set_cons_succ, List.set_cons_zero, setCells, drew_h, hb4, c1]) | ((repeat ((fail_if_success with_reducible refine hK _ _ ?_); clear hK K)); (with_reducible refine hK _ _ ?_); clear hK K))))
      exact ⟨by rw [e, hmlen], hres e⟩
  · replace hk : kidK m.nd.kind = false := by simpa using hk
    have e : addN L m.nd = (L, -1) := by simp [addN, hk]
    rw [e]
    refine Gives.of_W Tryd.call55 Tryd.func55 rfl Tryd.ntmps55 (by simp) ?_; intro Z hZ
    (repeat (first | (with_reducible first | (refine hK _ _ ?_; clear hK K) | refine (show ∀ σ' w', _ → K σ' w' from by assumption) _ _ ?_ | refine W_seq_k fun K hK => ?_ | refine W_block_k fun K hK => ?_ | refine W_skip ?_ | refine W_ret ?_) | ((first | ((with_reducible refine W_id ?_); refine W_reg (by decide) (by rfl) ?_) | (with_reducible first | refine W_cond ?_ | refine hZ _ _ ?_ | refine W_exit ?_ | refine Wo_id ?_)); repeat1' simp only [push_cast, Nat.reduceBEq, Nat.reduceLT, Nat.reduceEqDiff, reduceIte, reduceCtorEq, Nat.reduceMul, Nat.reduceAdd, Nat.reduceSub, Int.reduceEq, Int.reduceLT, Int.reduceLE, Int.reduceNeg, Int.reduceAdd, Int.reduceSub, Int.reduceMul, Nat.reduceLeDiff, Int.reduceToNat, cell_h, can_h, cellO_cells, canO_cells, setO_cells, heap_set_h, heap_alloc_h, size_set_h, size_alloc_h, vcells_agg, succ_ne, ne_succ, List.setIfInBounds_toArray, List.set_cons_succ, List.set_cons_zero, setCells, drew_h]) | ((repeat ((fail_if_success with_reducible refine hK _ _ ?_); clear hK K)); (with_reducible refine hK _ _ ?_); clear hK K)))
    refine (rkid_c _).mono ?_
    rintro v w' ⟨rfl, rfl⟩
    ((repeat simp only [push_cast, Nat.reduceBEq, Nat.reduceLT, Nat.reduceEqDiff, reduceIte, reduceCtorEq, Nat.reduceMul, Nat.reduceAdd, Nat.reduceSub, Int.reduceEq, Int.reduceLT, Int.reduceLE, Int.reduceNeg, Int.reduceAdd, Int.reduceSub, Int.reduceMul, Nat.reduceLeDiff, Int.reduceToNat, cell_h, can_h, cellO_cells, canO_cells, setO_cells, heap_set_h, heap_alloc_h, size_set_h, size_alloc_h, vcells_agg, succ_ne, ne_succ, List.setIfInBounds_toArray, List.set_cons_succ, List.set_cons_zero, setCells, drew_h, hk]); (repeat (first | (with_reducible first | (refine hK _ _ ?_; clear hK K) | refine (show ∀ σ' w', _ → K σ' w' from by assumption) _ _ ?_ | refine W_seq_k fun K hK => ?_ | refine W_block_k fun K hK => ?_ | refine W_skip ?_ | refine W_ret ?_) | ((first | ((with_reducible refine W_id ?_); refine W_reg (by decide) (by rfl) ?_) | (with_reducible first | refine W_cond ?_ | refine hZ _ _ ?_ | refine W_exit ?_ | refine Wo_id ?_)); repeat1' simp only [push_cast, Nat.reduceBEq, Nat.reduceLT, Nat.reduceEqDiff, reduceIte, reduceCtorEq, Nat.reduceMul, Nat.reduceAdd, Nat.reduceSub, Int.reduceEq, Int.reduceLT, Int.reduceLE, Int.reduceNeg, Int.reduceAdd, Int.reduceSub, Int.reduceMul, Nat.reduceLeDiff, Int.reduceToNat, cell_h, can_h, cellO_cells, canO_cells, setO_cells, heap_set_h, heap_alloc_h, size_set_h, size_alloc_h, vcells_agg, succ_ne, ne_succ, List.setIfInBounds_toArray, List.set_cons_succ, List.set_cons_zero, setCells, drew_h, hk]) | ((repeat ((fail_if_success with_reducible refine hK _ _ ?_); clear hK K)); (with_reducible refine hK _ _ ?_); clear hK K))))
    exact ⟨(h.ext (Ext.alloc _ _)).mono fun b _ hb => .inl hb, (Ext.alloc _ _).upd⟩
end Go.Proofs.YtkafpameheohdaaDoor
end
section
set_option linter.unusedSimpArgs false
set_option linter.unusedVariables false
namespace Go.Vk
open Go
def Half (w0 w : World) (P : Nat → Prop) (pa pb : Nat) (L1 L2 : List Nd) : Prop := ∃ F : Nat → Prop, At w0 w (fun b => F b ∨ P b) pa L1 ∧ Ar w pb L2 F ∧ (∀ b, F b → w0.heap.size ≤ b) ∧ ∀ b, P b → ¬ F b
/-- blocks of ours, but for some -/
def Ours (w0 : World) (P : Nat → Prop) (b : Nat) : Prop := w0.heap.size ≤ b ∧ ¬ P b
theorem Half.pass {w0 w w' : World} {P Q : Nat → Prop} {pa pb : Nat} {L1 L2 : List Nd} (h : Half w0 w P pa pb L1 L2) (hx : Ext w w') (hQ : ∀ b, Q b → P b ∨ (w.heap.size ≤ b ∧ b < w'.heap.size)) : Half w0 w' Q pa pb L1 L2 := by
  obtain ⟨F, h1, h2, h3, h4⟩ := h
  have hlt : ∀ b, F b ∧ b < w.heap.size → F b := fun b hb => hb.1
  refine ⟨fun b => F b ∧ b < w.heap.size, h1.guard hx fun b hb => ?_, (h2.mono fun b hb hf => ⟨hf, hb⟩).ext hx, fun b hb => h3 b hb.1, fun b hb hf => ?_⟩
  · rcases hb with hb | hb
    · exact .inl (.inl hb.1)
    · rcases hQ b hb with h | h
      · exact .inl (.inr h)
      · exact .inr h
  · rcases hQ b hb with h | h
    · exact h4 b h hf.1
    · have := hf.2; omega
end Go.Vk
namespace Go.Proofs.YtkafpameheohdaaDoor
open Go.Vk
set_option maxHeartbeats 40000000
section
variable {w0 w : World} {P : Nat → Prop} {pa pb : Nat} {L : List Nd}
theorem two_a (h : Half w0 w P pa pb L L) (hb : L.length < 100000) {m : Laid} (hm : RdAt w 2 m.av (attrCells m.nd.attrs)) (hmb : m.nd.attrs.length < 1000000) :
    Gives Tryd.prog 25 #[.pointer (some ⟨pa, 0, none⟩), m.val] w fun v w' => v = .int .i64 (addN L m.nd).2 ∧ Half w0 w' P pa pb (addN L m.nd).1 L ∧ Upd (Ours w0 P) w w' := by
  obtain ⟨F, h1, h2, h3, h4⟩ := h
  refine (add_a h1 hb hm hmb).mono ?_
  rintro v w' ⟨g1, g2, g3⟩
  exact ⟨g1, ⟨F, g2, h2.frame g3 fun b hb hf => hf.2 (.inl hb), h3, h4⟩, g3.mono fun b _ hf => ⟨hf.1, fun hp => hf.2 (.inr hp)⟩⟩
theorem two_b {L' : List Nd} (h : Half w0 w P pa pb L' L) (hb : L.length < 100000) {m : Laid} (hL : L' = (addN L m.nd).1) (hP : ∀ b, P b → b < w.heap.size) (hm : RdAt w 2 m.av (attrCells m.nd.attrs)) (hmb : m.nd.attrs.length < 1000000) :
    Gives Tryd.prog 55 #[.pointer (some ⟨pb, 0, none⟩), m.val] w fun v w' => v = .int .i64 (addN L m.nd).2 ∧ Half w0 w' P pa pb L' L' ∧ Upd (Ours w0 P) w w' := by
  obtain ⟨F, h1, h2, h3, h4⟩ := h
  have h0 := h1.ext.alike.size
  refine (rad_c h2 (by omega) hm hmb).mono ?_
  rintro v w' ⟨g1, g2, g3⟩
  refine ⟨g1, ⟨fun b => F b ∨ (w.heap.size ≤ b ∧ b < w'.heap.size), ?_, ?_, ?_, ?_⟩, g3.mono fun b _ hf => ⟨h3 b hf, fun hp => h4 b hp hf⟩⟩
  · refine h1.app g3 (fun b _ hf => ⟨.inl hf, h3 b hf⟩) fun b hb => ?_
    rcases hb with (hb | hb) | hb
    · exact .inl (.inl hb)
    · exact .inr hb
    · exact .inl (.inr hb)
  · rw [hL]
    exact g2.mono fun b hb hf => hf.imp id fun h => ⟨h, hb⟩
  · rintro b (hb | hb)
    · exact h3 b hb
    · omega
  · rintro b hp (hb | hb)
    · exact h4 b hp hb
    · have := hP b hp; omega
end
end Go.Proofs.YtkafpameheohdaaDoor
end
section
set_option linter.unusedSimpArgs false
set_option linter.unusedVariables false
namespace Go.Vk
open Go
theorem zeroCells_all {z : Array Value} {n : Nat} (ho : z.toList.all oneCell = true) : (Builtin.zeroCells z n).toList.all oneCell = true := by
  rw [List.all_eq_true] at ho ⊢
  intro v hv
  unfold Builtin.zeroCells at hv
  simp only [Array.toList_map, List.mem_map, Array.toList_range, List.mem_range] at hv
  obtain ⟨i, hi, rfl⟩ := hv
  have hp : 0 < z.size := by
    apply Classical.byContradiction
    intro h
    have : z.size = 0 := by omega
    rw [this] at hi; omega
  have hlt : i % z.size < z.size := Nat.mod_lt _ hp
  rw [getElem!_pos z (i % z.size) hlt]
  exact ho _ (by simp)
theorem app_zerosW {P : Program} {t e t3 ty : Nat} {k0 : IntKind} {es : Nat} (hes : 0 < es) (hT : STy P t e es) (h3 : P.underlying t3 = some (.int k0)) {z : Value} (hz : ∀ w, (zeroValue e).run P w = .ok z w) (hz1 : z.cells.size = es) (ho : z.cells.toList.all oneCell = true)
    {w : World} {s : Value} {c1 : List Value} {b1 : Option Nat} (h1 : SlAt w es s c1 b1) {n : Nat} {m : Int} (hm : m = n) (hl : c1.length + n * es ≤ 1000000) {K : Value → World → Prop}
    (h : ∀ v w' bo, SlAt w' es v (c1 ++ (Builtin.zeroCells z.cells n).toList) bo → Upd (fun b => b1 = some b) w w' → (∀ b, bo = some b → b1 = some b ∨ w.heap.size ≤ b) → (∀ a n1 c, s = .slice a n1 c → c < n1 + n → Ext w w' ∧ (∀ b, bo = some b → w.heap.size ≤ b) ∧ ∃ b o c', v = .slice (some ⟨b, o, none⟩) (n1 + n) c') → K v w') :
    RunV P (Builtin.append_ #[t, t3] ty #[s, .int .i64 m]) w K := by
  subst hm
  obtain ⟨a1, n1, k1, rfl, hk1, hc1⟩ := h1.len
  have hzl : (Builtin.zeroCells z.cells n).toList.length = n * es := by rw [Array.length_toList, zeroCells_size, hz1]
  have hzo := zeroCells_all (n := n) ho
  have hnn : n ≤ n * es := Nat.le_mul_of_pos_right _ hes
  have hn1 : n1 ≤ n1 * es := Nat.le_mul_of_pos_right _ hes
  have hf1 := firstCells_run (P := P) h1 hc1
  have hw : IntKind.i64.wrap (n : Int) = n := wrap_in (by unfold inI64; omega)
  have hneg : ¬ (n : Int) < 0 := by omega
  obtain ⟨i, hi, hi1, hi2⟩ := hT.bytes w
  have hbig : ¬ ((n : Int) * (i.bytes : Int) > 2 ^ 48) := by
    have : n * i.bytes ≤ 1000000 * 1024 := Nat.mul_le_mul (by omega) hi2
    rw [← Int.natCast_mul]; omega
  have happ : ∀ w : World, (if n * es = 0 then (pure #[] : Sem (Array Value)) else do pure (Builtin.zeroCells (← zeroValue e).cells n)).run P w = .ok (Builtin.zeroCells z.cells n) w := by
    intro w
    by_cases h0 : n = 0
    · subst h0
      have : Builtin.zeroCells z.cells 0 = #[] := Array.eq_empty_of_size_eq_zero (by rw [zeroCells_size]; omega)
      simp [Sem.run, this]
    · rw [if_neg (by intro h; rcases Nat.mul_eq_zero.1 h with h | h <;> omega)]
      simp [hz w]
  by_cases hfits : n1 + n ≤ k1
  · have key : ∃ w', (Builtin.append_ #[t, t3] ty #[.slice a1 n1 k1, .int .i64 (n : Int)]).run P w = .ok (.slice a1 (n1 + n) k1) w' ∧ SlAt w' es (.slice a1 (n1 + n) k1) (c1 ++ (Builtin.zeroCells z.cells n).toList) b1 ∧ Upd (fun b => b1 = some b) w w' := by
      rcases h1 with ⟨rfl, hv, rfl⟩ | ⟨b, o, m, c, cs, tt, rfl, hv, g3, g4, g5, g6, g7⟩
      · cases hv
        have hn2 : n = 0 := by omega
        subst hn2
        have hz0 : (Builtin.zeroCells z.cells 0).toList = [] := List.length_eq_zero_iff.1 (by rw [hzl]; omega)
        refine ⟨w, ?_, .inl ⟨rfl, rfl, by rw [hz0]; rfl⟩, .refl _ _⟩
        have hh := happ w
        simp only [Builtin.append_, List.getElem?_toArray, List.getElem?_cons_zero, List.getElem?_cons_succ, Sem.run_bind, Sem.run_pure, Result.andThen_ok, run_underlying hT.und, run_underlying h3, hT.size, asInt, asIntOf,
          hi, hw, hneg, hbig, if_false, if_true, hfits, Bool.not_true, hh, Bool.false_eq_true, Int.toNat_natCast]
      · cases hv
        have hin : n1 * es + n * es ≤ k1 * es := by rw [← Nat.add_mul]; exact Nat.mul_le_mul_right _ hfits
        have hst := run_storeCells (P := P) (a := ⟨b, o + n1 * es, none⟩) (Builtin.zeroCells z.cells n).toList 0 w hzo (fun j _ hj => by rw [add_mk]; exact g5.can (by omega))
        refine ⟨setCells w ⟨b, o + n1 * es, none⟩ (Builtin.zeroCells z.cells n).toList 0, ?_, .inr ⟨b, o, n1 + n, k1, ovw cs (o + n1 * es) (Builtin.zeroCells z.cells n).toList, tt, rfl, rfl, hfits, by rw [List.length_append, hc1, hzl, Nat.add_mul], g5.sets _ (o + n1 * es) 0, by rw [ovw_size]; exact g6, ?_⟩,
          Upd.setCells (F := fun i => some b = some i) (a := ⟨b, o + n1 * es, none⟩) w rfl _ 0⟩
        · have hh := happ w
          simp only [Builtin.append_, List.getElem?_toArray, List.getElem?_cons_zero, List.getElem?_cons_succ, Sem.run_bind, Sem.run_pure, Result.andThen_ok, run_underlying hT.und, run_underlying h3, hT.size, asInt, asIntOf,
            hi, hw, hneg, hbig, if_false, if_true, hfits, Bool.not_true, hh, Bool.false_eq_true, Int.toNat_natCast, add_mk, hst]
        · intro i hi
          rw [List.length_append] at hi
          by_cases hlt : i < c1.length
          · rw [ovw_out _ _ _ _ (by omega), g7 i hlt, List.getElem?_append_left hlt]
          · rw [List.getElem?_append_right (by omega)]
            have := ovw_in (Builtin.zeroCells z.cells n).toList cs (o + n1 * es) (i - c1.length) (by omega) (by omega)
            rw [show o + n1 * es + (i - c1.length) = o + i by omega] at this
            exact this
    obtain ⟨w', hr, hS, hU⟩ := key
    exact .of hr (h _ _ _ hS hU (fun b hb => .inl hb) fun a n1 c e hlt => by cases e; omega)
  · have hcap := nextcap_le (need := n1 + n) (old := k1) (by omega)
    obtain ⟨i', hi', _, _⟩ := hT.bytes w.drew
    have hii : i' = i := by
      have e1 : (typeInfo e).run P w.drew = (match (typeInfo e).run P w with | .ok x _ => .ok x w.drew | .halt h _ => .halt h w.drew) := by
        simp only [typeInfo, program, Sem.run_bind, Sem.run, Result.andThen_ok]
        cases P.info? e <;> simp [stuck, Sem.run]
      rw [hi] at e1
      rw [hi'] at e1
      cases e1; rfl
    subst hii
    have hbytes : ¬ (Builtin.nextslicecap (n1 + n) k1 * i'.bytes > 2 ^ 48) := by
      have : Builtin.nextslicecap (n1 + n) k1 * i'.bytes ≤ (2 * (n1 + n) + 1000) * 1024 := Nat.mul_le_mul hcap hi2
      omega
    have hmax : ¬ (((n1 + n : Nat) : Int) > IntKind.i64.max) := by
      simp [IntKind.max, IntKind.bits, IntKind.signed]; omega
    have h1' : SlAt w.drew es (.slice a1 n1 k1) c1 b1 := h1.ext (Ext.drew w)
    have hf1' := firstCells_run (P := P) (n := n1) h1' hc1
    have hroom : ∀ (n : Nat) (w : World), (askRoom n).run P w = .ok () w := by
      intro n w; unfold askRoom; split <;> simp [mark, Sem.run]
    let nc := (Question.appendCap (n1 + n) k1 e).cut (w.tape w.drawn (.appendCap (n1 + n) k1 e))
    have hnc : n1 + n ≤ nc := by simp only [nc, Question.cut]; omega
    have hch : (choose (.appendCap (n1 + n) k1 e)).run P w = .ok nc w.drew := rfl
    have hh := happ w.drew
    have hr : (Builtin.append_ #[t, t3] ty #[.slice a1 n1 k1, .int .i64 (n : Int)]).run P w =
        .ok (.slice (some ⟨w.heap.size, 0, none⟩) (n1 + n) nc) (w.drew.alloc (.cells (c1.toArray ++ Builtin.zeroCells z.cells n ++ Builtin.zeroCells z.cells (nc - (n1 + n))) e)) := by
      simp only [Builtin.append_, List.getElem?_toArray, List.getElem?_cons_zero, List.getElem?_cons_succ, Sem.run_bind, Sem.run_pure, Result.andThen_ok, run_underlying hT.und, run_underlying h3, hT.size, asInt, asIntOf,
        hi, hw, hneg, hbig, if_false, if_true, hfits, hmax, false_and, hbytes, hch, hroom, hi', hf1', Bool.not_true, hh, hz, newRow, newObj, Bool.false_eq_true, Int.toNat_natCast]
      simp [Sem.run, World.alloc_eq]
      rfl
    refine .of hr (h _ _ _ ?_ ((Ext.drew w).trans (Ext.alloc _ _)).upd (fun b hb => .inr (Nat.le_of_eq (Option.some.inj hb))) fun a n1 c e _ => ⟨(Ext.drew w).trans (Ext.alloc _ _), fun b hb => Nat.le_of_eq (Option.some.inj hb), by cases e; exact ⟨_, _, _, rfl⟩⟩)
    refine .inr ⟨w.heap.size, 0, n1 + n, nc, _, e, rfl, rfl, hnc, by rw [List.length_append, hc1, hzl, Nat.add_mul], .of (heap_alloc_new' w.drew _), ?_, ?_⟩
    · simp only [Array.size_append, List.size_toArray, zeroCells_size, hz1, hc1]
      rw [← Nat.add_mul, ← Nat.add_mul, Nat.zero_add]
      exact Nat.mul_le_mul_right _ (by omega)
    · intro j hj
      have hj2 : j < (c1.toArray ++ Builtin.zeroCells z.cells n).size := by
        simp only [List.length_append, hzl] at hj
        simp only [Array.size_append, List.size_toArray, zeroCells_size, hz1]; exact hj
      rw [Nat.zero_add, Array.getElem?_append_left hj2]
      have : c1.toArray ++ Builtin.zeroCells z.cells n = (c1 ++ (Builtin.zeroCells z.cells n).toList).toArray := by simp
      rw [this, List.getElem?_toArray]
theorem firstCells_takeW {P : Program} {w : World} {es n m c n' c' : Nat} {a : Option Addr} {cells : List Value} (h : RdAt w es (.slice a n c) cells) (hm : m * es ≤ cells.length) :
    (Builtin.firstCells es m (.slice a n' c')).run P w = .ok (cells.take (m * es)).toArray w := by
  obtain ⟨a', n0, c0, e, _, _, h4⟩ := h
  cases e
  cases a with
  | none =>
    have : cells = [] := by
      cases cells with
      | nil => rfl
      | cons x r => obtain ⟨b, o, e, _⟩ := h4 0 x rfl; cases e
    subst this
    simp [Builtin.firstCells]
  | some a =>
    have hc : cellsAt w a (cells.take (m * es)) := by
      intro i v hv
      have hi : cells[i]? = some v := by
        rw [List.getElem?_take] at hv
        split at hv
        · exact hv
        · cases hv
      obtain ⟨b, o, e, h5⟩ := h4 i v hi
      cases e
      rw [add_mk]; exact h5
    have hr := run_loadCells (P := P) hc
    rw [List.length_take, Nat.min_eq_left hm] at hr
    simpa [Builtin.firstCells] using hr
theorem copy_W {P : Program} {t e es ty t2 : Nat} (hT : P.underlying t = some (.slice e)) (hs : ∀ w, (sizeOf e).run P w = .ok es w) {w : World} {b o n c : Nat} {a2 : Option Addr} {n2 k2 : Nat} {c2 : List Value} {k : Nat}
    (h2 : RdAt w es (.slice a2 n2 k2) c2) (ho : (c2.take (k * es)).all oneCell = true) (hk : k = min n2 n) (hc : ∀ j, j < k * es → canStore w ⟨b, o + j, none⟩) {K : Value → World → Prop}
    (h : K (.int .i64 (k : Int)) (setCells w ⟨b, o, none⟩ (c2.take (k * es)) 0)) : RunV P (Builtin.copy_ #[t, t2] ty #[.slice (some ⟨b, o, none⟩) n c, .slice a2 n2 k2]) w K := by
  have h2' := h2
  obtain ⟨a2', n2', k2', e0, hk2, hc2, _⟩ := h2'
  cases e0
  have hle : k * es ≤ n2 * es := Nat.mul_le_mul_right _ (by omega)
  have hf2 := firstCells_takeW (P := P) (m := k) (n' := n2) (c' := k2) h2 (by omega)
  have hst := run_storeCells (P := P) (a := ⟨b, o, none⟩) (c2.take (k * es)) 0 w ho (fun j _ hj => by rw [add_mk]; exact hc j (by rw [List.length_take] at hj; omega))
  refine .of (w' := setCells w ⟨b, o, none⟩ (c2.take (k * es)) 0) ?_ h
  have hm : Nat.min n2 n = k := hk.symm
  simp [Builtin.copy_, run_underlying hT, hs, Builtin.lenOf, hm, hf2, hst, goInt]
theorem SlAt.canW {w : World} {es b o n c : Nat} {cells : List Value} {bo : Option Nat} (h : SlAt w es (.slice (some ⟨b, o, none⟩) n c) cells bo) {q : Nat} (hq : q < c * es) : canStore w ⟨b, o + q, none⟩ := by
  obtain ⟨g1, g3, g4, cs, t, g5, g6, g7⟩ := h.inv
  exact g5.can (by omega)
theorem SlAt.partW {w : World} {es b o n c : Nat} {cells : List Value} {bo : Option Nat} (h : SlAt w es (.slice (some ⟨b, o, none⟩) n c) cells bo) {l k m : Nat} (h1 : l ≤ k) (h2 : k ≤ n) (h3 : k ≤ m) (h4 : m ≤ c) :
    SlAt w es (.slice (if m = l then some ⟨b, o, none⟩ else Option.map (fun x : Addr => x.add (l * es)) (some ⟨b, o, none⟩)) (k - l) (m - l)) ((cells.drop (l * es)).take ((k - l) * es)) bo := by
  have hp := h.part (l := l) (k := k) (m := m) h1 h2 h3 h4
  by_cases e : m = l
  · rw [if_pos e]
    have e1 : k - l = 0 := by omega
    have e2 : m - l = 0 := by omega
    obtain ⟨g1, g3, g4, cs, t, g5, g6, g7⟩ := h.inv
    rw [e1, e2]
    refine .inr ⟨b, o, 0, 0, cs, t, g1, rfl, Nat.le_refl _, by simp, g5, by omega, fun i hi => by simp at hi⟩
  · rw [if_neg e, Option.map_some, add_mk]; exact hp
theorem SlAt.writeW {w : World} {es b o n c : Nat} {cells : List Value} {bo : Option Nat} (h : SlAt w es (.slice (some ⟨b, o, none⟩) n c) cells bo) {q : Nat} (xs : List Value) (hq : q + xs.length ≤ n * es) :
    SlAt (setCells w ⟨b, o + q, none⟩ xs 0) es (.slice (some ⟨b, o, none⟩) n c) (cells.take q ++ xs ++ cells.drop (q + xs.length)) bo := by
  obtain ⟨g1, g3, g4, cs, t, g5, g6, g7⟩ := h.inv
  have hnc : n * es ≤ c * es := Nat.mul_le_mul_right _ g3
  refine .inr ⟨b, o, n, c, ovw cs (o + q + 0) xs, t, g1, rfl, g3, by simp; omega, g5.sets xs (o + q) 0, by rw [ovw_size]; exact g6, fun i hi => ?_⟩
  have hlen : i < n * es := by simp at hi; omega
  rw [Nat.add_zero]
  have hqt : (cells.take q).length = q := by rw [List.length_take]; omega
  by_cases h1 : i < q
  · rw [ovw_out _ _ _ _ (.inl (by omega)), g7 i (by omega), List.append_assoc, List.getElem?_append_left (by omega), List.getElem?_take, if_pos h1]
  · by_cases h2 : i < q + xs.length
    · have := ovw_in xs cs (o + q) (i - q) (by omega) (by omega)
      rw [show o + q + (i - q) = o + i by omega] at this
      rw [this, List.getElem?_append_left (by rw [List.length_append]; omega), List.getElem?_append_right (by omega), hqt]
    · rw [ovw_out _ _ _ _ (.inr (by omega)), g7 i (by omega), List.getElem?_append_right (by rw [List.length_append]; omega), List.getElem?_drop, List.length_append, hqt, show q + xs.length + (i - (q + xs.length)) = i by omega]
/-- one element more of what a slice has room for -/
theorem SlAt.longerW {w : World} {es b o n c : Nat} {cells : List Value} {bo : Option Nat} (h : SlAt w es (.slice (some ⟨b, o, none⟩) n c) cells bo) (hc : n + 1 ≤ c) : ∃ us : List Value, us.length = es ∧ SlAt w es (.slice (some ⟨b, o, none⟩) (n + 1) c) (cells ++ us) bo := by
  obtain ⟨g1, g3, g4, cs, t, g5, g6, g7⟩ := h.inv
  have hmul : (n + 1) * es ≤ c * es := Nat.mul_le_mul_right _ hc
  rw [Nat.add_mul, Nat.one_mul] at hmul
  have hlen : ((cs.toList.drop (o + n * es)).take es).length = es := by
    simp only [List.length_take, List.length_drop, Array.length_toList]; omega
  refine ⟨(cs.toList.drop (o + n * es)).take es, hlen, .inr ⟨b, o, n + 1, c, cs, t, g1, rfl, hc, by rw [List.length_append, hlen, g4, Nat.add_mul, Nat.one_mul], g5, g6, fun i hi => ?_⟩⟩
  rw [List.length_append, hlen] at hi
  by_cases h1 : i < cells.length
  · rw [g7 i h1, List.getElem?_append_left h1]
  · rw [List.getElem?_append_right (by omega), List.getElem?_take, if_pos (by omega), List.getElem?_drop, Array.getElem?_toList, show o + n * es + (i - cells.length) = o + i by omega]
theorem ins_growW (l X Z : List Value) (K E : Nat) (hk : K ≤ l.length) (hX : X.length = E) (hZ : l.length + E = K + Z.length) :
    ((l.take K ++ Z).take K ++ X ++ (l.take K ++ Z).drop (K + E)).take (K + E) ++ l.drop K ++ ((l.take K ++ Z).take K ++ X ++ (l.take K ++ Z).drop (K + E)).drop (K + E + (l.drop K).length) = l.take K ++ X ++ l.drop K := by
  have hlt : (l.take K).length = K := by rw [List.length_take]; omega
  have e1 : (l.take K ++ Z).take K = l.take K := by
    rw [List.take_append_of_le_length (by omega), List.take_take, Nat.min_self]
  rw [e1]
  have hl1 : (l.take K ++ X).length = K + E := by rw [List.length_append, hlt, hX]
  have e2 : (l.take K ++ X ++ (l.take K ++ Z).drop (K + E)).take (K + E) = l.take K ++ X := by
    rw [List.take_append_of_le_length (by omega), List.take_of_length_le (by omega)]
  have e3 : (l.take K ++ X ++ (l.take K ++ Z).drop (K + E)).drop (K + E + (l.drop K).length) = [] :=
    List.drop_eq_nil_of_le (by simp only [List.length_append, List.length_take, List.length_drop, hX]; omega)
  rw [e2, e3, List.append_nil]
theorem ins_hereW (l X U : List Value) (K E : Nat) (hk : K ≤ l.length) (hX : X.length = E) (hU : U.length = E) (hE : K + E ≤ l.length) :
    (((l ++ U).take (K + E) ++ l.drop K ++ (l ++ U).drop (K + E + (l.drop K).length)).take K ++ X ++ ((l ++ U).take (K + E) ++ l.drop K ++ (l ++ U).drop (K + E + (l.drop K).length)).drop (K + E)) = l.take K ++ X ++ l.drop K := by
  have e0 : (l ++ U).take (K + E) = l.take (K + E) := List.take_append_of_le_length hE
  have hlt : (l.take (K + E)).length = K + E := by rw [List.length_take]; omega
  have e3 : (l ++ U).drop (K + E + (l.drop K).length) = [] := List.drop_eq_nil_of_le (by simp only [List.length_append, List.length_drop]; omega)
  rw [e0, e3, List.append_nil]
  have e1 : (l.take (K + E) ++ l.drop K).take K = l.take K := by
    rw [List.take_append_of_le_length (by omega), List.take_take, Nat.min_eq_left (by omega)]
  have e2 : (l.take (K + E) ++ l.drop K).drop (K + E) = l.drop K := by
    rw [List.drop_append_of_le_length (by omega), List.drop_eq_nil_of_le (by omega), List.nil_append]
  rw [e1, e2]
end Go.Vk
end
section
set_option linter.unusedSimpArgs false
set_option linter.unusedVariables false
namespace Go.Vk
open Go
structure OpS where
  node : Int
  space : Int
  name : ByteArray
def OpS.cells (o : OpS) : List Value := [.int .i64 o.node, .int .i64 o.space, .string o.name]
def OpS.row (o : OpS) : Array Value := #[.int .i64 o.node, .int .i64 o.space, .string o.name]
theorem OpS.len3 (o : OpS) : o.cells.length = 3 := rfl
def opCells (l : List OpS) : List Value := l.flatMap OpS.cells
def zO : Value := .agg #[.int .i64 0, .int .i64 0, .string ⟨#[]⟩]
theorem opCells_length (l : List OpS) : (opCells l).length = l.length * 3 := by
  induction l with
  | nil => rfl
  | cons y l ih => simp only [opCells, List.flatMap_cons, List.length_append, List.length_cons] at ih ⊢; rw [ih]; simp [OpS.cells]; omega
theorem opCells_append (a b : List OpS) : opCells (a ++ b) = opCells a ++ opCells b := by simp [opCells]
theorem opCells_one (l : List OpS) : (opCells l).all oneCell = true := by simp [opCells, OpS.cells, oneCell]
theorem opCells_take : ∀ (l : List OpS) (k : Nat), (opCells l).take (k * 3) = opCells (l.take k)
  | [], k => by simp [opCells]
  | z :: l, 0 => by simp [opCells]
  | z :: l, k + 1 => by
    have e : opCells (z :: l) = [.int .i64 z.node, .int .i64 z.space, .string z.name] ++ opCells l := by simp [opCells, OpS.cells]
    rw [List.take_succ_cons, e, show (k + 1) * 3 = k * 3 + 1 + 1 + 1 by omega]
    simp only [List.cons_append, List.nil_append, List.take_succ_cons]
    rw [opCells_take l k]
    simp [opCells, OpS.cells]
theorem opCells_drop : ∀ (l : List OpS) (k : Nat), (opCells l).drop (k * 3) = opCells (l.drop k)
  | [], k => by simp [opCells]
  | z :: l, 0 => by simp
  | z :: l, k + 1 => by
    have e : opCells (z :: l) = [.int .i64 z.node, .int .i64 z.space, .string z.name] ++ opCells l := by simp [opCells, OpS.cells]
    rw [List.drop_succ_cons, e, show (k + 1) * 3 = k * 3 + 1 + 1 + 1 by omega]
    simp only [List.cons_append, List.nil_append, List.drop_succ_cons]
    exact opCells_drop l k
theorem opCells_ins (l : List OpS) (x : OpS) (k : Nat) : opCells (l.take k ++ x :: l.drop k) = (opCells l).take (k * 3) ++ x.cells ++ (opCells l).drop (k * 3) := by
  rw [opCells_take, opCells_drop]; simp [opCells]
theorem opCells_get : ∀ {l : List OpS} {i : Nat} {y : OpS}, l[i]? = some y → (opCells l)[i * 3]? = some (.int .i64 y.node) ∧ (opCells l)[i * 3 + 1]? = some (.int .i64 y.space) ∧ (opCells l)[i * 3 + 2]? = some (.string y.name)
  | [], i, y, h => by simp at h
  | z :: l, 0, y, h => by
    simp at h; subst h
    exact ⟨rfl, rfl, rfl⟩
  | z :: l, i + 1, y, h => by
    have := opCells_get (l := l) (i := i) (y := y) (by simpa using h)
    have e : opCells (z :: l) = [.int .i64 z.node, .int .i64 z.space, .string z.name] ++ opCells l := by simp [opCells, OpS.cells]
    rw [e, show (i + 1) * 3 = i * 3 + 1 + 1 + 1 by omega]
    exact this
theorem ops_ne {l : List OpS} {k : Nat} (h : k < l.length) : opCells l ≠ [] := fun e => by
  have := opCells_length l
  rw [e] at this; simp at this; omega
theorem ops_len {w : World} {v : Value} {l : List OpS} {bo : Option Nat} (h : SlAt w 3 v (opCells l) bo) : ∃ a c, v = .slice a l.length c ∧ l.length ≤ c := by
  obtain ⟨a, n, c, rfl, h1, h2⟩ := h.len
  rw [opCells_length] at h2
  obtain rfl : n = l.length := by omega
  exact ⟨a, c, rfl, h1⟩
theorem ops_cell {w : World} {v : Value} {l : List OpS} {bo : Option Nat} (h : SlAt w 3 v (opCells l) bo) {i : Nat} {y : OpS} (hy : l[i]? = some y) : ∃ b o c, v = .slice (some ⟨b, o, none⟩) l.length c ∧ bo = some b ∧ cellO (w.heap[b]?) (o + i * 3) = some (.int .i64 y.node) ∧ cellO (w.heap[b]?) (o + i * 3 + 1) = some (.int .i64 y.space) ∧ cellO (w.heap[b]?) (o + i * 3 + 2) = some (.string y.name) := by
  obtain ⟨a, c, rfl, h1⟩ := ops_len h
  obtain ⟨b, o, n', c', e, hb⟩ := h.some_of (ops_ne (List.getElem?_eq_some_iff.1 hy).1)
  cases e
  obtain ⟨g1, g2, g3⟩ := opCells_get hy
  refine ⟨b, o, c, rfl, hb, ?_, ?_, ?_⟩
  · rw [← cell_h]; exact h.get g1
  · rw [← cell_h, Nat.add_assoc]; exact h.get g2
  · rw [← cell_h, Nat.add_assoc]; exact h.get g3
end Go.Vk
namespace Go.Proofs.YtkafpameheohdaaDoor
open Go Go.Vk
theorem styO : STy Tryd.prog 69 79 3 := ⟨Tryd.underlying69, fun w => by simp [Tryd.sizeOf79, Sem.run], fun w => ⟨_, by simp [Tryd.typeInfo79, Sem.run]; rfl, by decide, by decide⟩, fun w => ⟨_, by simp [Tryd.zeroValue79, Sem.run]; rfl, by decide⟩⟩
set_option maxHeartbeats 40000000
theorem overlaps_o {w : World} {va vb : Value} {a b : Addr} {la ca lb cb : Nat} (ea : va = .slice (some a) la ca) (eb : vb = .slice (some b) lb cb) (hne : a.block ≠ b.block) {tA tB : TypeId} {kA kB : Nat}
    (hsa : w.shape? a.block = some (tA, kA)) (hsb : w.shape? b.block = some (tB, kB)) (hkB : kB ≠ 0) (hfa : w.frozen? a = false) (hfe : w.frozen? { block := a.block, off := kA } = false) :
    Gives Tryd.prog 72 #[va, vb] w fun v w' => v = .bool false ∧ w' = w := by
  subst ea; subst eb
  refine Gives.of_ext (v := .bool false) (w' := w) ?_ ⟨rfl, rfl⟩
  rw [run_callFunc_extern Tryd.func72 (by kernel_rfl) (by kernel_rfl) (by kernel_rfl) (e := Extern.SlicesOverlaps.overlaps #[69, 69] #[4]) (by kernel_rfl),
    Lib.run_overlaps_apart w 69 4 79 Tryd.underlying69 3 (fun w => by simp [Tryd.sizeOf79, Sem.run]) a b la ca lb cb hne tA tB kA kB hsa hsb hkB hfa hfe]
  rfl
theorem insert_o {w : World} {v : Value} {l : List OpS} {bo : Option Nat} (h : SlAt w 3 v (opCells l) bo) (hl : l.length < 100000) {bx : Nat} {x : OpS} (hx : w.heap[bx]? = some (.cells x.row 79 (0, 0))) (hne : bo ≠ some bx) (k : Nat) (hk : k ≤ l.length) :
    Gives Tryd.prog 52 #[v, .int .i64 (k : Int), .slice (some ⟨bx, 0, none⟩) 1 1] w fun u w' => ∃ bo', SlAt w' 3 u (opCells (l.take k ++ x :: l.drop k)) bo' ∧ Upd (fun b => bo = some b) w w' ∧ ∀ b, bo' = some b → bo = some b ∨ w.heap.size ≤ b := by
  have hxs : SlAt w 3 (.slice (some ⟨bx, 0, none⟩) 1 1) (opCells [x]) (some bx) := .inr ⟨bx, 0, 1, 1, _, _, rfl, rfl, Nat.le_refl _, rfl, .of hx, by simp [OpS.row], fun i hi => by
    rw [Nat.zero_add]; simp [opCells, OpS.cells, OpS.row]⟩
  obtain ⟨a, c, rfl, hc⟩ := ops_len h
  have s1 : (0 : Int) ≤ k := by omega
  have s2 : (k : Int) ≤ (l.length : Int) := by omega
  have s3 : (l.length : Int) ≤ c := by omega
  have s4 : (k : Int) ≤ c := by omega
  have s5 : ((1 : Int) = 0) = False := by decide
  by_cases hkl : k = l.length
  · subst hkl
    refine Gives.of_W Tryd.call52 Tryd.func52 rfl Tryd.ntmps52 (by simp) ?_; intro Z hZ
    (repeat (first | (with_reducible first | (refine hK _ _ ?_; clear hK K) | refine (show ∀ σ' w', _ → K σ' w' from by assumption) _ _ ?_ | refine W_seq_k fun K hK => ?_ | refine W_block_k fun K hK => ?_ | refine W_skip ?_ | refine W_ret ?_) | ((first | ((with_reducible refine W_id ?_); refine W_reg (by decide) (by rfl) ?_) | (with_reducible first | refine W_cond ?_ | refine hZ _ _ ?_ | refine W_exit ?_ | refine Wo_id ?_)); repeat1' simp only [push_cast, Nat.reduceBEq, Nat.reduceLT, Nat.reduceEqDiff, reduceIte, reduceCtorEq, Nat.reduceMul, Nat.reduceAdd, Nat.reduceSub, Int.reduceEq, Int.reduceLT, Int.reduceLE, Int.reduceNeg, Int.reduceAdd, Int.reduceSub, Int.reduceMul, Nat.reduceLeDiff, Int.reduceToNat, s1, s2, s3, s4, s5, Int.le_refl]) | ((repeat ((fail_if_success with_reducible refine hK _ _ ?_); clear hK K)); (with_reducible refine hK _ _ ?_); clear hK K)))
    refine app_to styO styO.und (by decide) h hxs (opCells_one _) (by rw [opCells_length, opCells_length]; simp; omega) ?_
    intro v' w' bo' g1 g2 g3
    rw [← opCells_append] at g1
    ((repeat simp only [push_cast, Nat.reduceBEq, Nat.reduceLT, Nat.reduceEqDiff, reduceIte, reduceCtorEq, Nat.reduceMul, Nat.reduceAdd, Nat.reduceSub, Int.reduceEq, Int.reduceLT, Int.reduceLE, Int.reduceNeg, Int.reduceAdd, Int.reduceSub, Int.reduceMul, Nat.reduceLeDiff, Int.reduceToNat]); (repeat (first | (with_reducible first | (refine hK _ _ ?_; clear hK K) | refine (show ∀ σ' w', _ → K σ' w' from by assumption) _ _ ?_ | refine W_seq_k fun K hK => ?_ | refine W_block_k fun K hK => ?_ | refine W_skip ?_ | refine W_ret ?_) | ((first | ((with_reducible refine W_id ?_); refine W_reg (by decide) (by rfl) ?_) | (with_reducible first | refine W_cond ?_ | refine hZ _ _ ?_ | refine W_exit ?_ | refine Wo_id ?_)); repeat1' simp only [push_cast, Nat.reduceBEq, Nat.reduceLT, Nat.reduceEqDiff, reduceIte, reduceCtorEq, Nat.reduceMul, Nat.reduceAdd, Nat.reduceSub, Int.reduceEq, Int.reduceLT, Int.reduceLE, Int.reduceNeg, Int.reduceAdd, Int.reduceSub, Int.reduceMul, Nat.reduceLeDiff, Int.reduceToNat]) | ((repeat ((fail_if_success with_reducible refine hK _ _ ?_); clear hK K)); (with_reducible refine hK _ _ ?_); clear hK K))))
    rw [List.take_length, List.drop_length]
    exact ⟨bo', g1, g2, g3⟩
  · have hlt : k < l.length := by omega
    obtain ⟨b, o, n0, c0, e0, hbo⟩ := h.some_of (ops_ne hlt)
    cases e0
    obtain ⟨_, _, _, cs, ct, hHB, hcs, _⟩ := h.inv
    have hbx : b ≠ bx := fun e => hne (by rw [hbo, e])
    generalize hn : l.length = n at *
    have s6 : ((k : Int) = (n : Int)) = False := eq_false (by omega)
    have s7 : inI64 ((n : Int) + 1) := by unfold inI64; omega
    have s8 : inI64 ((n : Int) + 1 - k) := by unfold inI64; omega
    have s9 : inI64 ((k : Int) + 1) := by unfold inI64; omega
    have s10 : (0 : Int) ≤ (k : Int) + 1 := by omega
    have s11 : ((k : Int) + 1).toNat = k + 1 := by omega
    have s12 : (0 : Int) ≤ (n : Int) + 1 := by omega
    have s13 : ((n : Int) + 1).toNat = n + 1 := by omega
    have s14 : (k : Int) ≤ (n : Int) + 1 := by omega
    have s15 : (k : Int) + 1 ≤ (n : Int) + 1 := by omega
    by_cases hroom : n + 1 ≤ c
    · have r1 : ¬ (c : Int) < (n : Int) + 1 := by omega
      have r2 : (n : Int) + 1 ≤ c := by omega
      obtain ⟨u, hul, hu⟩ := h.longerW hroom
      refine Gives.of_W Tryd.call52 Tryd.func52 rfl Tryd.ntmps52 (by simp) ?_; intro Z hZ
      (repeat (first | (with_reducible first | (refine hK _ _ ?_; clear hK K) | refine (show ∀ σ' w', _ → K σ' w' from by assumption) _ _ ?_ | refine W_seq_k fun K hK => ?_ | refine W_block_k fun K hK => ?_ | refine W_skip ?_ | refine W_ret ?_) | ((first | ((with_reducible refine W_id ?_); refine W_reg (by decide) (by rfl) ?_) | (with_reducible first | refine W_cond ?_ | refine hZ _ _ ?_ | refine W_exit ?_ | refine Wo_id ?_)); repeat1' simp only [push_cast, Nat.reduceBEq, Nat.reduceLT, Nat.reduceEqDiff, reduceIte, reduceCtorEq, Nat.reduceMul, Nat.reduceAdd, Nat.reduceSub, Int.reduceEq, Int.reduceLT, Int.reduceLE, Int.reduceNeg, Int.reduceAdd, Int.reduceSub, Int.reduceMul, Nat.reduceLeDiff, Int.reduceToNat, s1, s2, s3, s4, s5, s6, s7, Int.le_refl]) | ((repeat ((fail_if_success with_reducible refine hK _ _ ?_); clear hK K)); (with_reducible refine hK _ _ ?_); clear hK K)))
      refine cap_part styO.und ?_
      have z0 : (c = 0) = False := eq_false (by omega)
      have z1 : (c = k) = False := eq_false (by omega)
      have z2 : (c = k + 1) = False := eq_false (by omega)
      have hHB' := hHB
      obtain ⟨f, hf, hbk⟩ := hHB'
      have hsb : w.shape? b = some (ct, cs.size) := by simp [World.shape?, hbk]
      have hsx : w.shape? bx = some (79, 3) := by simp [World.shape?, hx, OpS.row]
      have hfa : w.frozen? ⟨bx, 0, none⟩ = false := by rw [froz_h, hx]; rfl
      have hfe : w.frozen? ⟨bx, 3, none⟩ = false := by rw [froz_h, hx]; rfl
      ((repeat simp only [push_cast, Nat.reduceBEq, Nat.reduceLT, Nat.reduceEqDiff, reduceIte, reduceCtorEq, Nat.reduceMul, Nat.reduceAdd, Nat.reduceSub, Int.reduceEq, Int.reduceLT, Int.reduceLE, Int.reduceNeg, Int.reduceAdd, Int.reduceSub, Int.reduceMul, Nat.reduceLeDiff, Int.reduceToNat, r1, r2, s7, s9, s10, s11, s12, s13, s14, s15, z0, z1, z2, Nat.sub_zero, Int.sub_zero, Option.map_some]); (repeat (first | (with_reducible first | (refine hK _ _ ?_; clear hK K) | refine (show ∀ σ' w', _ → K σ' w' from by assumption) _ _ ?_ | refine W_seq_k fun K hK => ?_ | refine W_block_k fun K hK => ?_ | refine W_skip ?_ | refine W_ret ?_) | ((first | ((with_reducible refine W_id ?_); refine W_reg (by decide) (by rfl) ?_) | (with_reducible first | refine W_cond ?_ | refine hZ _ _ ?_ | refine W_exit ?_ | refine Wo_id ?_)); repeat1' simp only [push_cast, Nat.reduceBEq, Nat.reduceLT, Nat.reduceEqDiff, reduceIte, reduceCtorEq, Nat.reduceMul, Nat.reduceAdd, Nat.reduceSub, Int.reduceEq, Int.reduceLT, Int.reduceLE, Int.reduceNeg, Int.reduceAdd, Int.reduceSub, Int.reduceMul, Nat.reduceLeDiff, Int.reduceToNat, r1, r2, s7, s9, s10, s11, s12, s13, s14, s15, z0, z1, z2, Nat.sub_zero, Int.sub_zero, Option.map_some]) | ((repeat ((fail_if_success with_reducible refine hK _ _ ?_); clear hK K)); (with_reducible refine hK _ _ ?_); clear hK K))))
      refine (overlaps_o (a := ⟨bx, 0, none⟩) (b := ⟨b, o + (k + 1) * 3, none⟩) rfl rfl (fun e => hbx e.symm) hsx hsb (by omega) hfa hfe).mono ?_
      rintro v' w' ⟨rfl, rfl⟩
      ((repeat simp only [push_cast, Nat.reduceBEq, Nat.reduceLT, Nat.reduceEqDiff, reduceIte, reduceCtorEq, Nat.reduceMul, Nat.reduceAdd, Nat.reduceSub, Int.reduceEq, Int.reduceLT, Int.reduceLE, Int.reduceNeg, Int.reduceAdd, Int.reduceSub, Int.reduceMul, Nat.reduceLeDiff, Int.reduceToNat, s9]); (repeat (first | (with_reducible first | (refine hK _ _ ?_; clear hK K) | refine (show ∀ σ' w', _ → K σ' w' from by assumption) _ _ ?_ | refine W_seq_k fun K hK => ?_ | refine W_block_k fun K hK => ?_ | refine W_skip ?_ | refine W_ret ?_) | ((first | ((with_reducible refine W_id ?_); refine W_reg (by decide) (by rfl) ?_) | (with_reducible first | refine W_cond ?_ | refine hZ _ _ ?_ | refine W_exit ?_ | refine Wo_id ?_)); repeat1' simp only [push_cast, Nat.reduceBEq, Nat.reduceLT, Nat.reduceEqDiff, reduceIte, reduceCtorEq, Nat.reduceMul, Nat.reduceAdd, Nat.reduceSub, Int.reduceEq, Int.reduceLT, Int.reduceLE, Int.reduceNeg, Int.reduceAdd, Int.reduceSub, Int.reduceMul, Nat.reduceLeDiff, Int.reduceToNat, s9]) | ((repeat ((fail_if_success with_reducible refine hK _ _ ?_); clear hK K)); (with_reducible refine hK _ _ ?_); clear hK K))))
      refine W_draw (.pas 0 (.pas 1 (.pas 2 (.pas 3 (.pas 4 (.pas 5 (.pas 6 (.pas 7 (.tail [8]))))))))) (fun _ => False) (by decide) mixed (by kernel_rfl) ?_
      (repeat (first | ((first | refine pas_plain rfl ?_ | refine pas_g rfl rfl ?_ | refine act_plain rfl ?_ | refine act_g rfl rfl ?_ | refine last_plain rfl ?_ | refine tail_plain rfl ?_ | refine tail_g rfl rfl ?_); (repeat simp only [push_cast, Nat.reduceBEq, Nat.reduceLT, Nat.reduceEqDiff, reduceIte, reduceCtorEq, Nat.reduceMul, Nat.reduceAdd, Nat.reduceSub, Int.reduceEq, Int.reduceLT, Int.reduceLE, Int.reduceNeg, Int.reduceAdd, Int.reduceSub, Int.reduceMul, Nat.reduceLeDiff, Int.reduceToNat, s1, s2, s3, s4, r2, s9, s10, s11, s12, s13, s14, s15, z0, z1, z2, Nat.sub_zero, Int.sub_zero, Option.map_some])) | (refine tail_fin ?_) | (refine sch_fin ?_)))
      have hLl : (opCells l).length = n * 3 := by rw [opCells_length, hn]
      have hud := hu.ext (Ext.drew w')
      have p1 := hud.part (l := k) (k := n + 1) (m := c) (by omega) (by omega) (by omega) (by omega)
      have hc2l : (((opCells l ++ u).drop (k * 3)).take ((n + 1 - k) * 3)).length = (n + 1 - k) * 3 := by
        simp only [List.length_take, List.length_drop, List.length_append, hul, hLl]; omega
      have e1 : (((opCells l ++ u).drop (k * 3)).take ((n + 1 - k) * 3)).take ((n - k) * 3) = (opCells l).drop (k * 3) := by
        rw [List.take_take, Nat.min_eq_left (by omega), List.drop_append_of_le_length (by omega), List.take_append_of_le_length (by rw [List.length_drop]; omega), List.take_of_length_le (by rw [List.length_drop]; omega)]
      have p2 : RdAt w'.drew 3 (.slice (some ⟨b, o + k * 3, none⟩) (n + 1 - k) (c - k)) (((opCells l ++ u).drop (k * 3)).take ((n + 1 - k) * 3)) := p1.rd
      refine copy_W styO.und (es := 3) (fun w => by simp [Tryd.sizeOf79, Sem.run]) (k := n - k) p2 (by rw [e1]; have := opCells_one l; rw [List.all_eq_true] at this ⊢; exact fun y hy => this y (List.mem_of_mem_drop hy)) (by omega) (fun q hq => ?_) ?_
      · have := hud.canW (q := (k + 1) * 3 + q) (by omega)
        rw [Nat.add_assoc]; exact this
      rw [e1]
      have hu1 := hud.writeW (q := (k + 1) * 3) ((opCells l).drop (k * 3)) (by rw [List.length_drop]; omega)
      have hbo' : bo = some b := hbo
      have up1 : Upd (fun b => bo = some b) w' (setCells w'.drew ⟨b, o + (k + 1) * 3, none⟩ ((opCells l).drop (k * 3)) 0) :=
        Upd.trans (Ext.drew w').upd (Upd.setCells (F := fun b => bo = some b) (a := ⟨b, o + (k + 1) * 3, none⟩) w'.drew hbo' _ 0) fun _ _ h => h
      have hxs1 := hxs.upd up1 fun q hq e => hne (by rw [e]; exact hq.symm ▸ rfl)
      generalize setCells w'.drew ⟨b, o + (k + 1) * 3, none⟩ ((opCells l).drop (k * 3)) 0 = w1 at *
      (repeat (first | ((first | refine pas_plain rfl ?_ | refine pas_g rfl rfl ?_ | refine act_plain rfl ?_ | refine act_g rfl rfl ?_ | refine last_plain rfl ?_ | refine tail_plain rfl ?_ | refine tail_g rfl rfl ?_); (repeat simp only [push_cast, Nat.reduceBEq, Nat.reduceLT, Nat.reduceEqDiff, reduceIte, reduceCtorEq, Nat.reduceMul, Nat.reduceAdd, Nat.reduceSub, Int.reduceEq, Int.reduceLT, Int.reduceLE, Int.reduceNeg, Int.reduceAdd, Int.reduceSub, Int.reduceMul, Nat.reduceLeDiff, Int.reduceToNat])) | (refine tail_fin ?_) | (refine sch_fin ?_)))
      ((repeat simp only [push_cast, Nat.reduceBEq, Nat.reduceLT, Nat.reduceEqDiff, reduceIte, reduceCtorEq, Nat.reduceMul, Nat.reduceAdd, Nat.reduceSub, Int.reduceEq, Int.reduceLT, Int.reduceLE, Int.reduceNeg, Int.reduceAdd, Int.reduceSub, Int.reduceMul, Nat.reduceLeDiff, Int.reduceToNat, s1, s2, s3, s4, r2, s14, s12, z0, z1, z2, Nat.sub_zero, Int.sub_zero, Option.map_some]); (repeat (first | (with_reducible first | (refine hK _ _ ?_; clear hK K) | refine (show ∀ σ' w', _ → K σ' w' from by assumption) _ _ ?_ | refine W_seq_k fun K hK => ?_ | refine W_block_k fun K hK => ?_ | refine W_skip ?_ | refine W_ret ?_) | ((first | ((with_reducible refine W_id ?_); refine W_reg (by decide) (by rfl) ?_) | (with_reducible first | refine W_cond ?_ | refine hZ _ _ ?_ | refine W_exit ?_ | refine Wo_id ?_)); repeat1' simp only [push_cast, Nat.reduceBEq, Nat.reduceLT, Nat.reduceEqDiff, reduceIte, reduceCtorEq, Nat.reduceMul, Nat.reduceAdd, Nat.reduceSub, Int.reduceEq, Int.reduceLT, Int.reduceLE, Int.reduceNeg, Int.reduceAdd, Int.reduceSub, Int.reduceMul, Nat.reduceLeDiff, Int.reduceToNat, s1, s2, s3, s4, r2, s14, s12, z0, z1, z2, Nat.sub_zero, Int.sub_zero, Option.map_some]) | ((repeat ((fail_if_success with_reducible refine hK _ _ ?_); clear hK K)); (with_reducible refine hK _ _ ?_); clear hK K))))
      refine copy_W styO.und (es := 3) (fun w => by simp [Tryd.sizeOf79, Sem.run]) (k := 1) hxs1.rd (by simp [opCells, OpS.cells, oneCell]) (by omega) (fun q hq => ?_) ?_
      · have := hu1.canW (q := k * 3 + q) (by omega)
        rw [Nat.add_assoc]; exact this
      have e3 : (opCells [x]).take (1 * 3) = x.cells := rfl
      rw [e3]
      have hu2 := hu1.writeW (q := k * 3) x.cells (by rw [x.len3]; omega)
      rw [x.len3, show (k + 1) * 3 = k * 3 + 3 by omega, ins_hereW (opCells l) x.cells u (k * 3) 3 (by omega) x.len3 hul (by omega)] at hu2
      have up2 : Upd (fun b => bo = some b) w' (setCells w1 ⟨b, o + k * 3, none⟩ x.cells 0) :=
        Upd.trans up1 (Upd.setCells (F := fun b => bo = some b) (a := ⟨b, o + k * 3, none⟩) w1 hbo' _ 0) fun _ _ h => h
      ((repeat simp only [push_cast, Nat.reduceBEq, Nat.reduceLT, Nat.reduceEqDiff, reduceIte, reduceCtorEq, Nat.reduceMul, Nat.reduceAdd, Nat.reduceSub, Int.reduceEq, Int.reduceLT, Int.reduceLE, Int.reduceNeg, Int.reduceAdd, Int.reduceSub, Int.reduceMul, Nat.reduceLeDiff, Int.reduceToNat]); (repeat (first | (with_reducible first | (refine hK _ _ ?_; clear hK K) | refine (show ∀ σ' w', _ → K σ' w' from by assumption) _ _ ?_ | refine W_seq_k fun K hK => ?_ | refine W_block_k fun K hK => ?_ | refine W_skip ?_ | refine W_ret ?_) | ((first | ((with_reducible refine W_id ?_); refine W_reg (by decide) (by rfl) ?_) | (with_reducible first | refine W_cond ?_ | refine hZ _ _ ?_ | refine W_exit ?_ | refine Wo_id ?_)); repeat1' simp only [push_cast, Nat.reduceBEq, Nat.reduceLT, Nat.reduceEqDiff, reduceIte, reduceCtorEq, Nat.reduceMul, Nat.reduceAdd, Nat.reduceSub, Int.reduceEq, Int.reduceLT, Int.reduceLE, Int.reduceNeg, Int.reduceAdd, Int.reduceSub, Int.reduceMul, Nat.reduceLeDiff, Int.reduceToNat]) | ((repeat ((fail_if_success with_reducible refine hK _ _ ?_); clear hK K)); (with_reducible refine hK _ _ ?_); clear hK K))))
      exact ⟨bo, by rw [opCells_ins]; exact hu2, up2, fun b hb => .inl hb⟩
    · have r1 : (c : Int) < (n : Int) + 1 := by omega
      refine Gives.of_W Tryd.call52 Tryd.func52 rfl Tryd.ntmps52 (by simp) ?_; intro Z hZ
      (repeat (first | (with_reducible first | (refine hK _ _ ?_; clear hK K) | refine (show ∀ σ' w', _ → K σ' w' from by assumption) _ _ ?_ | refine W_seq_k fun K hK => ?_ | refine W_block_k fun K hK => ?_ | refine W_skip ?_ | refine W_ret ?_) | ((first | ((with_reducible refine W_id ?_); refine W_reg (by decide) (by rfl) ?_) | (with_reducible first | refine W_cond ?_ | refine hZ _ _ ?_ | refine W_exit ?_ | refine Wo_id ?_)); repeat1' simp only [push_cast, Nat.reduceBEq, Nat.reduceLT, Nat.reduceEqDiff, reduceIte, reduceCtorEq, Nat.reduceMul, Nat.reduceAdd, Nat.reduceSub, Int.reduceEq, Int.reduceLT, Int.reduceLE, Int.reduceNeg, Int.reduceAdd, Int.reduceSub, Int.reduceMul, Nat.reduceLeDiff, Int.reduceToNat, s1, s2, s3, s4, s5, s6, s7, Int.le_refl]) | ((repeat ((fail_if_success with_reducible refine hK _ _ ?_); clear hK K)); (with_reducible refine hK _ _ ?_); clear hK K)))
      refine cap_part styO.und ?_
      ((repeat simp only [push_cast, Nat.reduceBEq, Nat.reduceLT, Nat.reduceEqDiff, reduceIte, reduceCtorEq, Nat.reduceMul, Nat.reduceAdd, Nat.reduceSub, Int.reduceEq, Int.reduceLT, Int.reduceLE, Int.reduceNeg, Int.reduceAdd, Int.reduceSub, Int.reduceMul, Nat.reduceLeDiff, Int.reduceToNat, r1, s1, s4, s7, s8]); (repeat (first | (with_reducible first | (refine hK _ _ ?_; clear hK K) | refine (show ∀ σ' w', _ → K σ' w' from by assumption) _ _ ?_ | refine W_seq_k fun K hK => ?_ | refine W_block_k fun K hK => ?_ | refine W_skip ?_ | refine W_ret ?_) | ((first | ((with_reducible refine W_id ?_); refine W_reg (by decide) (by rfl) ?_) | (with_reducible first | refine W_cond ?_ | refine hZ _ _ ?_ | refine W_exit ?_ | refine Wo_id ?_)); repeat1' simp only [push_cast, Nat.reduceBEq, Nat.reduceLT, Nat.reduceEqDiff, reduceIte, reduceCtorEq, Nat.reduceMul, Nat.reduceAdd, Nat.reduceSub, Int.reduceEq, Int.reduceLT, Int.reduceLE, Int.reduceNeg, Int.reduceAdd, Int.reduceSub, Int.reduceMul, Nat.reduceLeDiff, Int.reduceToNat, r1, s1, s4, s7, s8]) | ((repeat ((fail_if_success with_reducible refine hK _ _ ?_); clear hK K)); (with_reducible refine hK _ _ ?_); clear hK K))))
      have hLl : (opCells l).length = n * 3 := by rw [opCells_length, hn]
      have x1 := h.partW (l := 0) (k := k) (m := c) (by omega) (by omega) (by omega) (by omega)
      rw [Nat.zero_mul, List.drop_zero, Nat.sub_zero] at x1
      refine app_zerosW (es := 3) (by decide) styO Tryd.underlying3 (z := zO) (fun w => by simp [zO, Tryd.zeroValue79, Sem.run]) rfl rfl x1 (n := n + 1 - k) (by omega) (by simp [hLl]; omega) ?_
      intro v1 w1 bo1 g1 g2 g3 g4
      obtain ⟨hx1, hf1, b1, o1, c1, rfl⟩ := g4 _ _ _ rfl (by omega)
      have eN : k - 0 + (n + 1 - k) = n + 1 := by omega
      rw [Nat.sub_zero] at eN
      rw [eN] at g1
      rw [Nat.sub_zero, eN]
      have hZl : (Builtin.zeroCells zO.cells (n + 1 - k)).toList.length = (n + 1 - k) * 3 := by rw [Array.length_toList, zeroCells_size]; rfl
      obtain ⟨hb1, hc1, _⟩ := g1.inv
      have t1 : (k : Int) ≤ c1 := by omega
      have t2 : (c1 = k) = False := eq_false (by omega)
      have t3 : (c1 = k + 1) = False := eq_false (by omega)
      have t4 : (n : Int) + 1 ≤ c1 := by omega
      have t5 : (c = k) = False := eq_false (by omega)
      have hxs1 := hxs.ext hx1
      have hh1 := h.ext hx1
      have hfr := hf1 b1 hb1
      ((repeat simp only [push_cast, Nat.reduceBEq, Nat.reduceLT, Nat.reduceEqDiff, reduceIte, reduceCtorEq, Nat.reduceMul, Nat.reduceAdd, Nat.reduceSub, Int.reduceEq, Int.reduceLT, Int.reduceLE, Int.reduceNeg, Int.reduceAdd, Int.reduceSub, Int.reduceMul, Nat.reduceLeDiff, Int.reduceToNat, s1, s2, s3, s4, s9, s10, s11, s12, s13, s14, s15, t1, t2, t4, Option.map_some]); (repeat (first | (with_reducible first | (refine hK _ _ ?_; clear hK K) | refine (show ∀ σ' w', _ → K σ' w' from by assumption) _ _ ?_ | refine W_seq_k fun K hK => ?_ | refine W_block_k fun K hK => ?_ | refine W_skip ?_ | refine W_ret ?_) | ((first | ((with_reducible refine W_id ?_); refine W_reg (by decide) (by rfl) ?_) | (with_reducible first | refine W_cond ?_ | refine hZ _ _ ?_ | refine W_exit ?_ | refine Wo_id ?_)); repeat1' simp only [push_cast, Nat.reduceBEq, Nat.reduceLT, Nat.reduceEqDiff, reduceIte, reduceCtorEq, Nat.reduceMul, Nat.reduceAdd, Nat.reduceSub, Int.reduceEq, Int.reduceLT, Int.reduceLE, Int.reduceNeg, Int.reduceAdd, Int.reduceSub, Int.reduceMul, Nat.reduceLeDiff, Int.reduceToNat, s1, s2, s3, s4, s9, s10, s11, s12, s13, s14, s15, t1, t2, t4, Option.map_some]) | ((repeat ((fail_if_success with_reducible refine hK _ _ ?_); clear hK K)); (with_reducible refine hK _ _ ?_); clear hK K))))
      refine copy_W styO.und (es := 3) (fun w => by simp [Tryd.sizeOf79, Sem.run]) (k := 1) hxs1.rd (by simp [opCells, OpS.cells, oneCell]) (by omega) (fun q hq => ?_) ?_
      · have := g1.canW (q := k * 3 + q) (by omega)
        rw [Nat.add_assoc]; exact this
      have e3 : (opCells [x]).take (1 * 3) = x.cells := rfl
      rw [e3]
      have hu1 := g1.writeW (q := k * 3) x.cells (by rw [x.len3]; omega)
      rw [x.len3] at hu1
      have hbl : ∀ q, bo = some q → q < w.heap.size := fun q hq => by rw [hq] at h; exact h.lt
      have hh2 := hh1.upd (Upd.setCells (F := fun q => q = b1) (a := ⟨b1, o1 + k * 3, none⟩) w1 rfl x.cells 0) fun q hq e => by have := hbl q hq; omega
      have hx2 : Ext w (setCells w1 ⟨b1, o1 + k * 3, none⟩ x.cells 0) := Upd.trans hx1 (Upd.setCells (F := fun q => q = b1) (a := ⟨b1, o1 + k * 3, none⟩) w1 rfl _ 0) fun q hq e => by omega
      generalize setCells w1 ⟨b1, o1 + k * 3, none⟩ x.cells 0 = w2 at *
      ((repeat simp only [push_cast, Nat.reduceBEq, Nat.reduceLT, Nat.reduceEqDiff, reduceIte, reduceCtorEq, Nat.reduceMul, Nat.reduceAdd, Nat.reduceSub, Int.reduceEq, Int.reduceLT, Int.reduceLE, Int.reduceNeg, Int.reduceAdd, Int.reduceSub, Int.reduceMul, Nat.reduceLeDiff, Int.reduceToNat]); (repeat (first | (with_reducible first | (refine hK _ _ ?_; clear hK K) | refine (show ∀ σ' w', _ → K σ' w' from by assumption) _ _ ?_ | refine W_seq_k fun K hK => ?_ | refine W_block_k fun K hK => ?_ | refine W_skip ?_ | refine W_ret ?_) | ((first | ((with_reducible refine W_id ?_); refine W_reg (by decide) (by rfl) ?_) | (with_reducible first | refine W_cond ?_ | refine hZ _ _ ?_ | refine W_exit ?_ | refine Wo_id ?_)); repeat1' simp only [push_cast, Nat.reduceBEq, Nat.reduceLT, Nat.reduceEqDiff, reduceIte, reduceCtorEq, Nat.reduceMul, Nat.reduceAdd, Nat.reduceSub, Int.reduceEq, Int.reduceLT, Int.reduceLE, Int.reduceNeg, Int.reduceAdd, Int.reduceSub, Int.reduceMul, Nat.reduceLeDiff, Int.reduceToNat]) | ((repeat ((fail_if_success with_reducible refine hK _ _ ?_); clear hK K)); (with_reducible refine hK _ _ ?_); clear hK K))))
      refine W_draw (.pas 0 (.pas 1 (.pas 2 (.pas 3 (.pas 4 (.pas 5 (.pas 6 (.pas 7 (.tail [8]))))))))) (fun _ => False) (by decide) mixed (by kernel_rfl) ?_
      (repeat (first | ((first | refine pas_plain rfl ?_ | refine pas_g rfl rfl ?_ | refine act_plain rfl ?_ | refine act_g rfl rfl ?_ | refine last_plain rfl ?_ | refine tail_plain rfl ?_ | refine tail_g rfl rfl ?_); (repeat simp only [push_cast, Nat.reduceBEq, Nat.reduceLT, Nat.reduceEqDiff, reduceIte, reduceCtorEq, Nat.reduceMul, Nat.reduceAdd, Nat.reduceSub, Int.reduceEq, Int.reduceLT, Int.reduceLE, Int.reduceNeg, Int.reduceAdd, Int.reduceSub, Int.reduceMul, Nat.reduceLeDiff, Int.reduceToNat, s1, s2, s3, s4, s9, s10, s11, s12, s13, s14, s15, t1, t2, t3, t4, t5, Option.map_some, Int.le_refl])) | (refine tail_fin ?_) | (refine sch_fin ?_)))
      have q1 := (hh2.ext (Ext.drew w2)).part (l := k) (k := n) (m := c) (by omega) (by omega) (by omega) (by omega)
      have eD : ((opCells l).drop (k * 3)).take ((n - k) * 3) = (opCells l).drop (k * 3) := List.take_of_length_le (by rw [List.length_drop]; omega)
      rw [eD] at q1
      have hdl : ((opCells l).drop (k * 3)).length = (n - k) * 3 := by rw [List.length_drop]; omega
      have hone : ((opCells l).drop (k * 3)).all oneCell = true := by
        have := opCells_one l
        rw [List.all_eq_true] at this ⊢
        exact fun y hy => this y (List.mem_of_mem_drop hy)
      have hud := hu1.ext (Ext.drew w2)
      refine copy_W styO.und (es := 3) (fun w => by simp [Tryd.sizeOf79, Sem.run]) (k := n - k) q1.rd (by rw [eD]; exact hone) (by omega) (fun q hq => ?_) ?_
      · have := hud.canW (q := (k + 1) * 3 + q) (by omega)
        rw [Nat.add_assoc]; exact this
      rw [eD]
      have hu3 := hud.writeW (q := (k + 1) * 3) ((opCells l).drop (k * 3)) (by omega)
      have e13 : (k + 1) * 3 = k * 3 + 3 := by omega
      rw [e13, ins_growW (opCells l) x.cells (Builtin.zeroCells zO.cells (n + 1 - k)).toList (k * 3) 3 (by omega) x.len3 (by omega), ← e13] at hu3
      have hx3 : Ext w (setCells w2.drew ⟨b1, o1 + (k + 1) * 3, none⟩ ((opCells l).drop (k * 3)) 0) := Upd.trans (hx2.trans (Ext.drew w2)) (Upd.setCells (F := fun q => q = b1) (a := ⟨b1, o1 + (k + 1) * 3, none⟩) w2.drew rfl _ 0) fun q hq e => by omega
      (repeat (first | ((first | refine pas_plain rfl ?_ | refine pas_g rfl rfl ?_ | refine act_plain rfl ?_ | refine act_g rfl rfl ?_ | refine last_plain rfl ?_ | refine tail_plain rfl ?_ | refine tail_g rfl rfl ?_); (repeat simp only [push_cast, Nat.reduceBEq, Nat.reduceLT, Nat.reduceEqDiff, reduceIte, reduceCtorEq, Nat.reduceMul, Nat.reduceAdd, Nat.reduceSub, Int.reduceEq, Int.reduceLT, Int.reduceLE, Int.reduceNeg, Int.reduceAdd, Int.reduceSub, Int.reduceMul, Nat.reduceLeDiff, Int.reduceToNat])) | (refine tail_fin ?_) | (refine sch_fin ?_)))
      ((repeat simp only [push_cast, Nat.reduceBEq, Nat.reduceLT, Nat.reduceEqDiff, reduceIte, reduceCtorEq, Nat.reduceMul, Nat.reduceAdd, Nat.reduceSub, Int.reduceEq, Int.reduceLT, Int.reduceLE, Int.reduceNeg, Int.reduceAdd, Int.reduceSub, Int.reduceMul, Nat.reduceLeDiff, Int.reduceToNat]); (repeat (first | (with_reducible first | (refine hK _ _ ?_; clear hK K) | refine (show ∀ σ' w', _ → K σ' w' from by assumption) _ _ ?_ | refine W_seq_k fun K hK => ?_ | refine W_block_k fun K hK => ?_ | refine W_skip ?_ | refine W_ret ?_) | ((first | ((with_reducible refine W_id ?_); refine W_reg (by decide) (by rfl) ?_) | (with_reducible first | refine W_cond ?_ | refine hZ _ _ ?_ | refine W_exit ?_ | refine Wo_id ?_)); repeat1' simp only [push_cast, Nat.reduceBEq, Nat.reduceLT, Nat.reduceEqDiff, reduceIte, reduceCtorEq, Nat.reduceMul, Nat.reduceAdd, Nat.reduceSub, Int.reduceEq, Int.reduceLT, Int.reduceLE, Int.reduceNeg, Int.reduceAdd, Int.reduceSub, Int.reduceMul, Nat.reduceLeDiff, Int.reduceToNat]) | ((repeat ((fail_if_success with_reducible refine hK _ _ ?_); clear hK K)); (with_reducible refine hK _ _ ?_); clear hK K))))
      exact ⟨bo1, by rw [opCells_ins]; exact hu3, hx3.upd, fun b hb => .inr (hf1 b hb)⟩
end Go.Proofs.YtkafpameheohdaaDoor
end
section
set_option linter.unusedSimpArgs false
set_option linter.unusedVariables false
namespace Go.Proofs.YtkafpameheohdaaDoor
open Go Go.Shelf Go.Vk Go.Proofs
def laysContains_ren : Go.Shelf.Ren := ⟨fun | 144 => 82 | 143 => 86 | 219 => 88 | 217 => 89 | 225 => 90 | 224 => 91 | 267 => 92 | 266 => 93 | 314 => 94 | n => n, fun | 9 => 9 | 4 => 4 | 3 => 3 | 5 => 5 | 46 => 115 | 146 => 117 | 51 => 116 | n => n, fun | 1 => 1 | n => n⟩
theorem laysContains : Go.Proofs.Lays.n144 Tryd.prog laysContains_ren := {
  mixed := by kernel_rfl
  f143 := Tryd.func86.trans (congrArg some (by kernel_rfl))
  f144 := Tryd.func82.trans (congrArg some (by kernel_rfl))
  f217 := Tryd.func89.trans (congrArg some (by kernel_rfl))
  f219 := Tryd.func88.trans (congrArg some (by kernel_rfl))
  f224 := Tryd.func91.trans (congrArg some (by kernel_rfl))
  f225 := Tryd.func90.trans (congrArg some (by kernel_rfl))
  f266 := Tryd.func93.trans (congrArg some (by kernel_rfl))
  f267 := Tryd.func92.trans (congrArg some (by kernel_rfl))
  f314 := Tryd.func94.trans (congrArg some (by kernel_rfl))
  t3 := Tryd.underlying3
  a3 := Tryd.isAgg3
  z3 := Tryd.sizeOf3
  v3 := Tryd.zeroValue3
  t4 := Tryd.underlying4
  a4 := Tryd.isAgg4
  z4 := Tryd.sizeOf4
  v4 := Tryd.zeroValue4
  t5 := Tryd.underlying5
  a5 := Tryd.isAgg5
  z5 := Tryd.sizeOf5
  v5 := Tryd.zeroValue5
  t9 := Tryd.underlying9
  a9 := Tryd.isAgg9
  z9 := Tryd.sizeOf9
  v9 := Tryd.zeroValue9
  t46 := Tryd.underlying115
  a46 := Tryd.isAgg115
  z46 := Tryd.sizeOf115
  v46 := Tryd.zeroValue115
  t51 := Tryd.underlying116
  a51 := Tryd.isAgg116
  z51 := Tryd.sizeOf116
  v51 := Tryd.zeroValue116
  t146 := Tryd.underlying117
  a146 := Tryd.isAgg117
  z146 := Tryd.sizeOf117
  v146 := Tryd.zeroValue117
  g1 := by kernel_rfl }
def MaxAt (w : World) : Prop := ∃ m, w.cell? ⟨1, 0, none⟩ = some (.int .i64 m)
theorem MaxAt.ext {w w' : World} (h : MaxAt w) (hx : Ext w w') : MaxAt w' := let ⟨m, h⟩ := h; ⟨m, cell_ext hx h⟩
theorem maxAt_of {w : World} (h : w.ShapedOpen Tryd.prog) : MaxAt w :=
  Go.Proofs.cell_of_shapedOpen_int (zero := #[.int .i64 0]) (t := 3) h (of_decide_eq_true (by kernel_rfl)) (by kernel_rfl) rfl (by kernel_rfl) (by kernel_rfl) Tryd.underlying3
theorem contains_one_c (s : ByteArray) (c : UInt8) (w : World) : Gives Tryd.prog 82 #[.string s, .string ⟨#[c]⟩] w fun v w' => v = .bool (decide (0 ≤ Lib.indexByte s.data.toList c)) ∧ w' = w :=
  .inl ⟨Tryd.call82, (Any.strings_Contains_one laysContains s c w).mono fun _ _ ⟨h1, h2⟩ => ⟨_, h1, rfl, h2⟩⟩
theorem strcont_c (s sub : ByteArray) {w : World} (hs : s.size < 4294967281) (hm : MaxAt w) : Gives Tryd.prog 82 #[.string s, .string sub] w fun v w' => v = .bool (Lib.contains s.data.toList sub.data.toList) ∧ w' = w := by
  obtain ⟨m, hm⟩ := hm
  exact .inl ⟨Tryd.call82, (Any.strings_Contains laysContains s sub m w hs hm).mono fun _ _ ⟨h1, h2⟩ => ⟨_, h1, rfl, h2⟩⟩
end Go.Proofs.YtkafpameheohdaaDoor
end
section
set_option linter.unusedSimpArgs false
set_option linter.unusedVariables false
namespace Go.Vk
open Go
def spB : ByteArray := ⟨((([32, 97, 100, 100, 114, 101, 115, 115, 32, 97, 112, 112, 108, 101, 116, 32, 97, 114, 101, 97, 32, 97, 114, 116, 105, 99, 108, 101, 32, 97, 115, 105, 100, 101, 32, 98, 97, 115, 101, 32, 98, 97, 115, 101, 102, 111, 110, 116, 32, 98, 103, 115, 111, 117, 110, 100, 32, 98, 108, 111, 99].append [107, 113, 117, 111, 116, 101, 32, 98, 111, 100, 121, 32, 98, 114, 32, 98, 117, 116, 116, 111, 110, 32, 99, 97, 112, 116, 105, 111, 110, 32, 99, 101, 110, 116, 101, 114, 32, 99, 111, 108, 32, 99, 111, 108, 103, 114, 111, 117, 112, 32, 100, 100, 32, 100, 101, 116, 97, 105, 108, 115, 32]).append ([100, 105, 114, 32, 100, 105, 118, 32, 100, 108, 32, 100, 116, 32, 101, 109, 98, 101, 100, 32, 102, 105, 101, 108, 100, 115, 101, 116, 32, 102, 105, 103, 99, 97, 112, 116, 105, 111, 110, 32, 102, 105, 103, 117, 114, 101, 32, 102, 111, 111, 116, 101, 114, 32, 102, 111, 114, 109, 32, 102, 114].append [97, 109, 101, 32, 102, 114, 97, 109, 101, 115, 101, 116, 32, 104, 49, 32, 104, 50, 32, 104, 51, 32, 104, 52, 32, 104, 53, 32, 104, 54, 32, 104, 101, 97, 100, 32, 104, 101, 97, 100, 101, 114, 32, 104, 103, 114, 111, 117, 112, 32, 104, 114, 32, 104, 116, 109, 108, 32, 105, 102, 114, 97])).append (([109, 101, 32, 105, 109, 103, 32, 105, 110, 112, 117, 116, 32, 107, 101, 121, 103, 101, 110, 32, 108, 105, 32, 108, 105, 110, 107, 32, 108, 105, 115, 116, 105, 110, 103, 32, 109, 97, 105, 110, 32, 109, 97, 114, 113, 117, 101, 101, 32, 109, 101, 110, 117, 32, 109, 101, 116, 97, 32, 110, 97].append [118, 32, 110, 111, 101, 109, 98, 101, 100, 32, 110, 111, 102, 114, 97, 109, 101, 115, 32, 110, 111, 115, 99, 114, 105, 112, 116, 32, 111, 98, 106, 101, 99, 116, 32, 111, 108, 32, 112, 32, 112, 97, 114, 97, 109, 32, 112, 108, 97, 105, 110, 116, 101, 120, 116, 32, 112, 114, 101, 32, 115]).append ([99, 114, 105, 112, 116, 32, 115, 101, 97, 114, 99, 104, 32, 115, 101, 99, 116, 105, 111, 110, 32, 115, 101, 108, 101, 99, 116, 32, 115, 111, 117, 114, 99, 101, 32, 115, 116, 121, 108, 101, 32, 115, 117, 109, 109, 97, 114, 121, 32, 116, 97, 98, 108, 101, 32, 116, 98, 111, 100, 121, 32].append [116, 100, 32, 116, 101, 109, 112, 108, 97, 116, 101, 32, 116, 101, 120, 116, 97, 114, 101, 97, 32, 116, 102, 111, 111, 116, 32, 116, 104, 32, 116, 104, 101, 97, 100, 32, 116, 105, 116, 108, 101, 32, 116, 114, 32, 116, 114, 97, 99, 107, 32, 117, 108, 32, 119, 98, 114, 32, 120, 109, 112, 32]))).toArray⟩
def mathB : ByteArray := ⟨#[32, 97, 110, 110, 111, 116, 97, 116, 105, 111, 110, 45, 120, 109, 108, 32, 109, 105, 32, 109, 110, 32, 109, 111, 32, 109, 115, 32, 109, 116, 101, 120, 116, 32]⟩
def svgB : ByteArray := ⟨#[32, 100, 101, 115, 99, 32, 102, 111, 114, 101, 105, 103, 110, 111, 98, 106, 101, 99, 116, 32, 116, 105, 116, 108, 101, 32]⟩
def impB : ByteArray := ⟨#[32, 100, 100, 32, 100, 116, 32, 108, 105, 32, 111, 112, 116, 103, 114, 111, 117, 112, 32, 111, 112, 116, 105, 111, 110, 32, 112, 32, 114, 98, 32, 114, 112, 32, 114, 116, 32, 114, 116, 99, 32]⟩
def thoB : ByteArray := ⟨#[32, 99, 97, 112, 116, 105, 111, 110, 32, 99, 111, 108, 103, 114, 111, 117, 112, 32, 116, 98, 111, 100, 121, 32, 116, 100, 32, 116, 102, 111, 111, 116, 32, 116, 104, 32, 116, 104, 101, 97, 100, 32, 116, 114, 32]⟩
def norB : ByteArray := ⟨#[32, 97, 112, 112, 108, 101, 116, 32, 99, 97, 112, 116, 105, 111, 110, 32, 104, 116, 109, 108, 32, 109, 97, 114, 113, 117, 101, 101, 32, 111, 98, 106, 101, 99, 116, 32, 116, 97, 98, 108, 101, 32, 116, 100, 32, 116, 101, 109, 112, 108, 97, 116, 101, 32, 116, 104, 32]⟩
def tabB : ByteArray := ⟨#[32, 104, 116, 109, 108, 32, 116, 97, 98, 108, 101, 32, 116, 101, 109, 112, 108, 97, 116, 101, 32]⟩
def lisB : ByteArray := ⟨#[32, 97, 112, 112, 108, 101, 116, 32, 99, 97, 112, 116, 105, 111, 110, 32, 104, 116, 109, 108, 32, 109, 97, 114, 113, 117, 101, 101, 32, 111, 98, 106, 101, 99, 116, 32, 116, 97, 98, 108, 101, 32, 116, 100, 32, 116, 101, 109, 112, 108, 97, 116, 101, 32, 116, 104, 32, 111, 108, 32, 117, 108, 32]⟩
def butB : ByteArray := ⟨#[32, 97, 112, 112, 108, 101, 116, 32, 99, 97, 112, 116, 105, 111, 110, 32, 104, 116, 109, 108, 32, 109, 97, 114, 113, 117, 101, 101, 32, 111, 98, 106, 101, 99, 116, 32, 116, 97, 98, 108, 101, 32, 116, 100, 32, 116, 101, 109, 112, 108, 97, 116, 101, 32, 116, 104, 32, 98, 117, 116, 116, 111, 110, 32]⟩
def inB (l s : ByteArray) : Bool := decide (s ≠ ⟨#[]⟩) && !decide (0 ≤ Lib.indexByte s.data.toList 32) && Lib.contains l.data.toList ((⟨#[32]⟩ ++ s ++ ⟨#[32]⟩ : ByteArray).data.toList)
def specN (space : Int) (s : ByteArray) : Bool := if space = 0 then inB spB s else if space = 2 then inB mathB s else if space = 1 then inB svgB s else false
def impN (s : ByteArray) : Bool := inB impB s
def thoN (s : ByteArray) : Bool := impN s || inB thoB s
def scB (which : Int) : ByteArray := if which = 0 then norB else if which = 1 then lisB else if which = 2 then butB else tabB
def scopeN (which space : Int) (s : ByteArray) : Bool := if which < 0 ∨ 4 ≤ which then false else if space = 0 then inB (scB which) s else if which = 3 then false else specN space s
end Go.Vk
namespace Go.Proofs.YtkafpameheohdaaDoor
open Go Go.Vk
structure GL (w : World) : Prop where
  max : MaxAt w
  sc : ∃ t f, w.heap[0]? = some (.cells #[.string norB, .string lisB, .string butB, .string tabB] t f)
theorem GL.ext {w w' : World} (h : GL w) (hx : Ext w w') : GL w' := ⟨h.max.ext hx, let ⟨t, f, h⟩ := h.sc; ⟨t, f, hx.blk h⟩⟩
set_option maxHeartbeats 40000000
theorem in_c (l s : ByteArray) {w : World} (hm : MaxAt w) (hl : l.size < 4294967281) (hs : s.size < 4294967281) : Gives Tryd.prog 71 #[.string l, .string s] w fun v w' => v = .bool (inB l s) ∧ w' = w := by
  by_cases h0 : s = ⟨#[]⟩
  · have e : inB l s = false := by unfold inB; rw [h0]; rfl
    refine Gives.of_W Tryd.call71 Tryd.func71 rfl Tryd.ntmps71 (by simp) ?_; intro Z hZ
    (repeat (first | (with_reducible first | (refine hK _ _ ?_; clear hK K) | refine (show ∀ σ' w', _ → K σ' w' from by assumption) _ _ ?_ | refine W_seq_k fun K hK => ?_ | refine W_block_k fun K hK => ?_ | refine W_skip ?_ | refine W_ret ?_) | ((first | ((with_reducible refine W_id ?_); refine W_reg (by decide) (by rfl) ?_) | (with_reducible first | refine W_cond ?_ | refine hZ _ _ ?_ | refine W_exit ?_ | refine Wo_id ?_)); repeat1' simp only [push_cast, Nat.reduceBEq, Nat.reduceLT, Nat.reduceEqDiff, reduceIte, reduceCtorEq, Nat.reduceMul, Nat.reduceAdd, Nat.reduceSub, Int.reduceEq, Int.reduceLT, Int.reduceLE, Int.reduceNeg, Int.reduceAdd, Int.reduceSub, Int.reduceMul, Nat.reduceLeDiff, Int.reduceToNat, h0, not_true_eq_false]) | ((repeat ((fail_if_success with_reducible refine hK _ _ ?_); clear hK K)); (with_reducible refine hK _ _ ?_); clear hK K)))
    rw [← h0, e]
  · refine Gives.of_W Tryd.call71 Tryd.func71 rfl Tryd.ntmps71 (by simp) ?_; intro Z hZ
    (repeat (first | (with_reducible first | (refine hK _ _ ?_; clear hK K) | refine (show ∀ σ' w', _ → K σ' w' from by assumption) _ _ ?_ | refine W_seq_k fun K hK => ?_ | refine W_block_k fun K hK => ?_ | refine W_skip ?_ | refine W_ret ?_) | ((first | ((with_reducible refine W_id ?_); refine W_reg (by decide) (by rfl) ?_) | (with_reducible first | refine W_cond ?_ | refine hZ _ _ ?_ | refine W_exit ?_ | refine Wo_id ?_)); repeat1' simp only [push_cast, Nat.reduceBEq, Nat.reduceLT, Nat.reduceEqDiff, reduceIte, reduceCtorEq, Nat.reduceMul, Nat.reduceAdd, Nat.reduceSub, Int.reduceEq, Int.reduceLT, Int.reduceLE, Int.reduceNeg, Int.reduceAdd, Int.reduceSub, Int.reduceMul, Nat.reduceLeDiff, Int.reduceToNat, h0, not_false_eq_true]) | ((repeat ((fail_if_success with_reducible refine hK _ _ ?_); clear hK K)); (with_reducible refine hK _ _ ?_); clear hK K)))
    refine (contains_one_c s 32 w).mono ?_
    intro v w' ⟨hv, hw⟩
    subst hv; subst w'
    cases hb : decide (0 ≤ Lib.indexByte s.data.toList 32) with
    | true =>
      have e : inB l s = false := by unfold inB; rw [hb]; simp
      ((repeat simp only [push_cast, Nat.reduceBEq, Nat.reduceLT, Nat.reduceEqDiff, reduceIte, reduceCtorEq, Nat.reduceMul, Nat.reduceAdd, Nat.reduceSub, Int.reduceEq, Int.reduceLT, Int.reduceLE, Int.reduceNeg, Int.reduceAdd, Int.reduceSub, Int.reduceMul, Nat.reduceLeDiff, Int.reduceToNat]); (repeat (first | (with_reducible first | (refine hK _ _ ?_; clear hK K) | refine (show ∀ σ' w', _ → K σ' w' from by assumption) _ _ ?_ | refine W_seq_k fun K hK => ?_ | refine W_block_k fun K hK => ?_ | refine W_skip ?_ | refine W_ret ?_) | ((first | ((with_reducible refine W_id ?_); refine W_reg (by decide) (by rfl) ?_) | (with_reducible first | refine W_cond ?_ | refine hZ _ _ ?_ | refine W_exit ?_ | refine Wo_id ?_)); repeat1' simp only [push_cast, Nat.reduceBEq, Nat.reduceLT, Nat.reduceEqDiff, reduceIte, reduceCtorEq, Nat.reduceMul, Nat.reduceAdd, Nat.reduceSub, Int.reduceEq, Int.reduceLT, Int.reduceLE, Int.reduceNeg, Int.reduceAdd, Int.reduceSub, Int.reduceMul, Nat.reduceLeDiff, Int.reduceToNat]) | ((repeat ((fail_if_success with_reducible refine hK _ _ ?_); clear hK K)); (with_reducible refine hK _ _ ?_); clear hK K))))
      rw [e]
    | false =>
      have e : inB l s = Lib.contains l.data.toList ((⟨#[32]⟩ ++ s ++ ⟨#[32]⟩ : ByteArray).data.toList) := by unfold inB; rw [hb]; simp [h0]
      ((repeat simp only [push_cast, Nat.reduceBEq, Nat.reduceLT, Nat.reduceEqDiff, reduceIte, reduceCtorEq, Nat.reduceMul, Nat.reduceAdd, Nat.reduceSub, Int.reduceEq, Int.reduceLT, Int.reduceLE, Int.reduceNeg, Int.reduceAdd, Int.reduceSub, Int.reduceMul, Nat.reduceLeDiff, Int.reduceToNat]); (repeat (first | (with_reducible first | (refine hK _ _ ?_; clear hK K) | refine (show ∀ σ' w', _ → K σ' w' from by assumption) _ _ ?_ | refine W_seq_k fun K hK => ?_ | refine W_block_k fun K hK => ?_ | refine W_skip ?_ | refine W_ret ?_) | ((first | ((with_reducible refine W_id ?_); refine W_reg (by decide) (by rfl) ?_) | (with_reducible first | refine W_cond ?_ | refine hZ _ _ ?_ | refine W_exit ?_ | refine Wo_id ?_)); repeat1' simp only [push_cast, Nat.reduceBEq, Nat.reduceLT, Nat.reduceEqDiff, reduceIte, reduceCtorEq, Nat.reduceMul, Nat.reduceAdd, Nat.reduceSub, Int.reduceEq, Int.reduceLT, Int.reduceLE, Int.reduceNeg, Int.reduceAdd, Int.reduceSub, Int.reduceMul, Nat.reduceLeDiff, Int.reduceToNat]) | ((repeat ((fail_if_success with_reducible refine hK _ _ ?_); clear hK K)); (with_reducible refine hK _ _ ?_); clear hK K))))
      have a1 : (⟨#[32]⟩ : ByteArray).size = 1 := rfl
      refine ⟨by rw [a1]; omega, by rw [ByteArray.size_append, a1]; omega, ?_⟩
      refine (strcont_c l _ hl hm).mono ?_
      intro v w' ⟨hv, hw⟩
      subst hv; subst w'
      rw [← e]
      ((repeat simp only [push_cast, Nat.reduceBEq, Nat.reduceLT, Nat.reduceEqDiff, reduceIte, reduceCtorEq, Nat.reduceMul, Nat.reduceAdd, Nat.reduceSub, Int.reduceEq, Int.reduceLT, Int.reduceLE, Int.reduceNeg, Int.reduceAdd, Int.reduceSub, Int.reduceMul, Nat.reduceLeDiff, Int.reduceToNat]); (repeat (first | (with_reducible first | (refine hK _ _ ?_; clear hK K) | refine (show ∀ σ' w', _ → K σ' w' from by assumption) _ _ ?_ | refine W_seq_k fun K hK => ?_ | refine W_block_k fun K hK => ?_ | refine W_skip ?_ | refine W_ret ?_) | ((first | ((with_reducible refine W_id ?_); refine W_reg (by decide) (by rfl) ?_) | (with_reducible first | refine W_cond ?_ | refine hZ _ _ ?_ | refine W_exit ?_ | refine Wo_id ?_)); repeat1' simp only [push_cast, Nat.reduceBEq, Nat.reduceLT, Nat.reduceEqDiff, reduceIte, reduceCtorEq, Nat.reduceMul, Nat.reduceAdd, Nat.reduceSub, Int.reduceEq, Int.reduceLT, Int.reduceLE, Int.reduceNeg, Int.reduceAdd, Int.reduceSub, Int.reduceMul, Nat.reduceLeDiff, Int.reduceToNat]) | ((repeat ((fail_if_success with_reducible refine hK _ _ ?_); clear hK K)); (with_reducible refine hK _ _ ?_); clear hK K))))
theorem implied_c (s : ByteArray) {w : World} (hm : MaxAt w) (hz : s.size < 4294967281) : Gives Tryd.prog 46 #[.string s] w fun v w' => v = .bool (impN s) ∧ w' = w := by
  refine Gives.of_W Tryd.call46 Tryd.func46 rfl Tryd.ntmps46 (by simp) ?_; intro Z hZ
  (repeat (first | (with_reducible first | (refine hK _ _ ?_; clear hK K) | refine (show ∀ σ' w', _ → K σ' w' from by assumption) _ _ ?_ | refine W_seq_k fun K hK => ?_ | refine W_block_k fun K hK => ?_ | refine W_skip ?_ | refine W_ret ?_) | ((first | ((with_reducible refine W_id ?_); refine W_reg (by decide) (by rfl) ?_) | (with_reducible first | refine W_cond ?_ | refine hZ _ _ ?_ | refine W_exit ?_ | refine Wo_id ?_)); repeat1' simp only [push_cast, Nat.reduceBEq, Nat.reduceLT, Nat.reduceEqDiff, reduceIte, reduceCtorEq, Nat.reduceMul, Nat.reduceAdd, Nat.reduceSub, Int.reduceEq, Int.reduceLT, Int.reduceLE, Int.reduceNeg, Int.reduceAdd, Int.reduceSub, Int.reduceMul, Nat.reduceLeDiff, Int.reduceToNat]) | ((repeat ((fail_if_success with_reducible refine hK _ _ ?_); clear hK K)); (with_reducible refine hK _ _ ?_); clear hK K)))
  refine (in_c impB s hm (by decide) hz).mono ?_
  intro v w' ⟨hv, hw⟩
  subst hv; subst w'
  ((repeat simp only [push_cast, Nat.reduceBEq, Nat.reduceLT, Nat.reduceEqDiff, reduceIte, reduceCtorEq, Nat.reduceMul, Nat.reduceAdd, Nat.reduceSub, Int.reduceEq, Int.reduceLT, Int.reduceLE, Int.reduceNeg, Int.reduceAdd, Int.reduceSub, Int.reduceMul, Nat.reduceLeDiff, Int.reduceToNat]); (repeat (first | (with_reducible first | (refine hK _ _ ?_; clear hK K) | refine (show ∀ σ' w', _ → K σ' w' from by assumption) _ _ ?_ | refine W_seq_k fun K hK => ?_ | refine W_block_k fun K hK => ?_ | refine W_skip ?_ | refine W_ret ?_) | ((first | ((with_reducible refine W_id ?_); refine W_reg (by decide) (by rfl) ?_) | (with_reducible first | refine W_cond ?_ | refine hZ _ _ ?_ | refine W_exit ?_ | refine Wo_id ?_)); repeat1' simp only [push_cast, Nat.reduceBEq, Nat.reduceLT, Nat.reduceEqDiff, reduceIte, reduceCtorEq, Nat.reduceMul, Nat.reduceAdd, Nat.reduceSub, Int.reduceEq, Int.reduceLT, Int.reduceLE, Int.reduceNeg, Int.reduceAdd, Int.reduceSub, Int.reduceMul, Nat.reduceLeDiff, Int.reduceToNat]) | ((repeat ((fail_if_success with_reducible refine hK _ _ ?_); clear hK K)); (with_reducible refine hK _ _ ?_); clear hK K))))
  rfl
theorem thorough_c (s : ByteArray) {w : World} (hm : MaxAt w) (hz : s.size < 4294967281) : Gives Tryd.prog 47 #[.string s] w fun v w' => v = .bool (thoN s) ∧ w' = w := by
  unfold thoN
  cases hb : impN s with
  | true =>
    refine Gives.of_W Tryd.call47 Tryd.func47 rfl Tryd.ntmps47 (by simp) ?_; intro Z hZ
    (repeat (first | (with_reducible first | (refine hK _ _ ?_; clear hK K) | refine (show ∀ σ' w', _ → K σ' w' from by assumption) _ _ ?_ | refine W_seq_k fun K hK => ?_ | refine W_block_k fun K hK => ?_ | refine W_skip ?_ | refine W_ret ?_) | ((first | ((with_reducible refine W_id ?_); refine W_reg (by decide) (by rfl) ?_) | (with_reducible first | refine W_cond ?_ | refine hZ _ _ ?_ | refine W_exit ?_ | refine Wo_id ?_)); repeat1' simp only [push_cast, Nat.reduceBEq, Nat.reduceLT, Nat.reduceEqDiff, reduceIte, reduceCtorEq, Nat.reduceMul, Nat.reduceAdd, Nat.reduceSub, Int.reduceEq, Int.reduceLT, Int.reduceLE, Int.reduceNeg, Int.reduceAdd, Int.reduceSub, Int.reduceMul, Nat.reduceLeDiff, Int.reduceToNat]) | ((repeat ((fail_if_success with_reducible refine hK _ _ ?_); clear hK K)); (with_reducible refine hK _ _ ?_); clear hK K)))
    refine (implied_c s hm hz).mono ?_
    intro v w' ⟨hv, hw⟩
    subst hv; subst w'
    rw [hb]
    ((repeat simp only [push_cast, Nat.reduceBEq, Nat.reduceLT, Nat.reduceEqDiff, reduceIte, reduceCtorEq, Nat.reduceMul, Nat.reduceAdd, Nat.reduceSub, Int.reduceEq, Int.reduceLT, Int.reduceLE, Int.reduceNeg, Int.reduceAdd, Int.reduceSub, Int.reduceMul, Nat.reduceLeDiff, Int.reduceToNat]); (repeat (first | (with_reducible first | (refine hK _ _ ?_; clear hK K) | refine (show ∀ σ' w', _ → K σ' w' from by assumption) _ _ ?_ | refine W_seq_k fun K hK => ?_ | refine W_block_k fun K hK => ?_ | refine W_skip ?_ | refine W_ret ?_) | ((first | ((with_reducible refine W_id ?_); refine W_reg (by decide) (by rfl) ?_) | (with_reducible first | refine W_cond ?_ | refine hZ _ _ ?_ | refine W_exit ?_ | refine Wo_id ?_)); repeat1' simp only [push_cast, Nat.reduceBEq, Nat.reduceLT, Nat.reduceEqDiff, reduceIte, reduceCtorEq, Nat.reduceMul, Nat.reduceAdd, Nat.reduceSub, Int.reduceEq, Int.reduceLT, Int.reduceLE, Int.reduceNeg, Int.reduceAdd, Int.reduceSub, Int.reduceMul, Nat.reduceLeDiff, Int.reduceToNat]) | ((repeat ((fail_if_success with_reducible refine hK _ _ ?_); clear hK K)); (with_reducible refine hK _ _ ?_); clear hK K))))
  | false =>
    refine Gives.of_W Tryd.call47 Tryd.func47 rfl Tryd.ntmps47 (by simp) ?_; intro Z hZ
    (repeat (first | (with_reducible first | (refine hK _ _ ?_; clear hK K) | refine (show ∀ σ' w', _ → K σ' w' from by assumption) _ _ ?_ | refine W_seq_k fun K hK => ?_ | refine W_block_k fun K hK => ?_ | refine W_skip ?_ | refine W_ret ?_) | ((first | ((with_reducible refine W_id ?_); refine W_reg (by decide) (by rfl) ?_) | (with_reducible first | refine W_cond ?_ | refine hZ _ _ ?_ | refine W_exit ?_ | refine Wo_id ?_)); repeat1' simp only [push_cast, Nat.reduceBEq, Nat.reduceLT, Nat.reduceEqDiff, reduceIte, reduceCtorEq, Nat.reduceMul, Nat.reduceAdd, Nat.reduceSub, Int.reduceEq, Int.reduceLT, Int.reduceLE, Int.reduceNeg, Int.reduceAdd, Int.reduceSub, Int.reduceMul, Nat.reduceLeDiff, Int.reduceToNat]) | ((repeat ((fail_if_success with_reducible refine hK _ _ ?_); clear hK K)); (with_reducible refine hK _ _ ?_); clear hK K)))
    refine (implied_c s hm hz).mono ?_
    intro v w' ⟨hv, hw⟩
    subst hv; subst w'
    rw [hb]
    ((repeat simp only [push_cast, Nat.reduceBEq, Nat.reduceLT, Nat.reduceEqDiff, reduceIte, reduceCtorEq, Nat.reduceMul, Nat.reduceAdd, Nat.reduceSub, Int.reduceEq, Int.reduceLT, Int.reduceLE, Int.reduceNeg, Int.reduceAdd, Int.reduceSub, Int.reduceMul, Nat.reduceLeDiff, Int.reduceToNat]); (repeat (first | (with_reducible first | (refine hK _ _ ?_; clear hK K) | refine (show ∀ σ' w', _ → K σ' w' from by assumption) _ _ ?_ | refine W_seq_k fun K hK => ?_ | refine W_block_k fun K hK => ?_ | refine W_skip ?_ | refine W_ret ?_) | ((first | ((with_reducible refine W_id ?_); refine W_reg (by decide) (by rfl) ?_) | (with_reducible first | refine W_cond ?_ | refine hZ _ _ ?_ | refine W_exit ?_ | refine Wo_id ?_)); repeat1' simp only [push_cast, Nat.reduceBEq, Nat.reduceLT, Nat.reduceEqDiff, reduceIte, reduceCtorEq, Nat.reduceMul, Nat.reduceAdd, Nat.reduceSub, Int.reduceEq, Int.reduceLT, Int.reduceLE, Int.reduceNeg, Int.reduceAdd, Int.reduceSub, Int.reduceMul, Nat.reduceLeDiff, Int.reduceToNat]) | ((repeat ((fail_if_success with_reducible refine hK _ _ ?_); clear hK K)); (with_reducible refine hK _ _ ?_); clear hK K))))
    refine (in_c thoB s hm (by decide) hz).mono ?_
    intro v w' ⟨hv, hw⟩
    subst hv; subst w'
    ((repeat simp only [push_cast, Nat.reduceBEq, Nat.reduceLT, Nat.reduceEqDiff, reduceIte, reduceCtorEq, Nat.reduceMul, Nat.reduceAdd, Nat.reduceSub, Int.reduceEq, Int.reduceLT, Int.reduceLE, Int.reduceNeg, Int.reduceAdd, Int.reduceSub, Int.reduceMul, Nat.reduceLeDiff, Int.reduceToNat]); (repeat (first | (with_reducible first | (refine hK _ _ ?_; clear hK K) | refine (show ∀ σ' w', _ → K σ' w' from by assumption) _ _ ?_ | refine W_seq_k fun K hK => ?_ | refine W_block_k fun K hK => ?_ | refine W_skip ?_ | refine W_ret ?_) | ((first | ((with_reducible refine W_id ?_); refine W_reg (by decide) (by rfl) ?_) | (with_reducible first | refine W_cond ?_ | refine hZ _ _ ?_ | refine W_exit ?_ | refine Wo_id ?_)); repeat1' simp only [push_cast, Nat.reduceBEq, Nat.reduceLT, Nat.reduceEqDiff, reduceIte, reduceCtorEq, Nat.reduceMul, Nat.reduceAdd, Nat.reduceSub, Int.reduceEq, Int.reduceLT, Int.reduceLE, Int.reduceNeg, Int.reduceAdd, Int.reduceSub, Int.reduceMul, Nat.reduceLeDiff, Int.reduceToNat]) | ((repeat ((fail_if_success with_reducible refine hK _ _ ?_); clear hK K)); (with_reducible refine hK _ _ ?_); clear hK K))))
theorem spB_len : spB.size < 4294967281 := of_decide_eq_true (by kernel_rfl)
set_option maxRecDepth 100000 in
theorem special_c (space : Int) (s : ByteArray) {w : World} (hm : MaxAt w) (hz : s.size < 4294967281) : Gives Tryd.prog 80 #[.int .i64 space, .string s] w fun v w' => v = .bool (specN space s) ∧ w' = w := by
  unfold specN
  by_cases h0 : space = 0
  · rw [if_pos h0]
    refine Gives.of_W Tryd.call80 Tryd.func80 rfl Tryd.ntmps80 (by simp) ?_; intro Z hZ
    (repeat (first | (with_reducible first | (refine hK _ _ ?_; clear hK K) | refine (show ∀ σ' w', _ → K σ' w' from by assumption) _ _ ?_ | refine W_seq_k fun K hK => ?_ | refine W_block_k fun K hK => ?_ | refine W_skip ?_ | refine W_ret ?_) | ((first | ((with_reducible refine W_id ?_); refine W_reg (by decide) (by rfl) ?_) | (with_reducible first | refine W_cond ?_ | refine hZ _ _ ?_ | refine W_exit ?_ | refine Wo_id ?_)); repeat1' simp only [push_cast, Nat.reduceBEq, Nat.reduceLT, Nat.reduceEqDiff, reduceIte, reduceCtorEq, Nat.reduceMul, Nat.reduceAdd, Nat.reduceSub, Int.reduceEq, Int.reduceLT, Int.reduceLE, Int.reduceNeg, Int.reduceAdd, Int.reduceSub, Int.reduceMul, Nat.reduceLeDiff, Int.reduceToNat, h0]) | ((repeat ((fail_if_success with_reducible refine hK _ _ ?_); clear hK K)); (with_reducible refine hK _ _ ?_); clear hK K)))
    refine (in_c spB s hm spB_len hz).mono ?_
    intro v w' ⟨hv, hw⟩
    subst hv; subst w'
    ((repeat simp only [push_cast, Nat.reduceBEq, Nat.reduceLT, Nat.reduceEqDiff, reduceIte, reduceCtorEq, Nat.reduceMul, Nat.reduceAdd, Nat.reduceSub, Int.reduceEq, Int.reduceLT, Int.reduceLE, Int.reduceNeg, Int.reduceAdd, Int.reduceSub, Int.reduceMul, Nat.reduceLeDiff, Int.reduceToNat]); (repeat (first | (with_reducible first | (refine hK _ _ ?_; clear hK K) | refine (show ∀ σ' w', _ → K σ' w' from by assumption) _ _ ?_ | refine W_seq_k fun K hK => ?_ | refine W_block_k fun K hK => ?_ | refine W_skip ?_ | refine W_ret ?_) | ((first | ((with_reducible refine W_id ?_); refine W_reg (by decide) (by rfl) ?_) | (with_reducible first | refine W_cond ?_ | refine hZ _ _ ?_ | refine W_exit ?_ | refine Wo_id ?_)); repeat1' simp only [push_cast, Nat.reduceBEq, Nat.reduceLT, Nat.reduceEqDiff, reduceIte, reduceCtorEq, Nat.reduceMul, Nat.reduceAdd, Nat.reduceSub, Int.reduceEq, Int.reduceLT, Int.reduceLE, Int.reduceNeg, Int.reduceAdd, Int.reduceSub, Int.reduceMul, Nat.reduceLeDiff, Int.reduceToNat]) | ((repeat ((fail_if_success with_reducible refine hK _ _ ?_); clear hK K)); (with_reducible refine hK _ _ ?_); clear hK K))))
  · rw [if_neg h0]
    by_cases h2 : space = 2
    · rw [if_pos h2]
      have n20 : ((2 : Int) = 0) = False := by decide
      refine Gives.of_W Tryd.call80 Tryd.func80 rfl Tryd.ntmps80 (by simp) ?_; intro Z hZ
      (repeat (first | (with_reducible first | (refine hK _ _ ?_; clear hK K) | refine (show ∀ σ' w', _ → K σ' w' from by assumption) _ _ ?_ | refine W_seq_k fun K hK => ?_ | refine W_block_k fun K hK => ?_ | refine W_skip ?_ | refine W_ret ?_) | ((first | ((with_reducible refine W_id ?_); refine W_reg (by decide) (by rfl) ?_) | (with_reducible first | refine W_cond ?_ | refine hZ _ _ ?_ | refine W_exit ?_ | refine Wo_id ?_)); repeat1' simp only [push_cast, Nat.reduceBEq, Nat.reduceLT, Nat.reduceEqDiff, reduceIte, reduceCtorEq, Nat.reduceMul, Nat.reduceAdd, Nat.reduceSub, Int.reduceEq, Int.reduceLT, Int.reduceLE, Int.reduceNeg, Int.reduceAdd, Int.reduceSub, Int.reduceMul, Nat.reduceLeDiff, Int.reduceToNat, h2, n20]) | ((repeat ((fail_if_success with_reducible refine hK _ _ ?_); clear hK K)); (with_reducible refine hK _ _ ?_); clear hK K)))
      refine (in_c mathB s hm (by decide) hz).mono ?_
      intro v w' ⟨hv, hw⟩
      subst hv; subst w'
      ((repeat simp only [push_cast, Nat.reduceBEq, Nat.reduceLT, Nat.reduceEqDiff, reduceIte, reduceCtorEq, Nat.reduceMul, Nat.reduceAdd, Nat.reduceSub, Int.reduceEq, Int.reduceLT, Int.reduceLE, Int.reduceNeg, Int.reduceAdd, Int.reduceSub, Int.reduceMul, Nat.reduceLeDiff, Int.reduceToNat]); (repeat (first | (with_reducible first | (refine hK _ _ ?_; clear hK K) | refine (show ∀ σ' w', _ → K σ' w' from by assumption) _ _ ?_ | refine W_seq_k fun K hK => ?_ | refine W_block_k fun K hK => ?_ | refine W_skip ?_ | refine W_ret ?_) | ((first | ((with_reducible refine W_id ?_); refine W_reg (by decide) (by rfl) ?_) | (with_reducible first | refine W_cond ?_ | refine hZ _ _ ?_ | refine W_exit ?_ | refine Wo_id ?_)); repeat1' simp only [push_cast, Nat.reduceBEq, Nat.reduceLT, Nat.reduceEqDiff, reduceIte, reduceCtorEq, Nat.reduceMul, Nat.reduceAdd, Nat.reduceSub, Int.reduceEq, Int.reduceLT, Int.reduceLE, Int.reduceNeg, Int.reduceAdd, Int.reduceSub, Int.reduceMul, Nat.reduceLeDiff, Int.reduceToNat]) | ((repeat ((fail_if_success with_reducible refine hK _ _ ?_); clear hK K)); (with_reducible refine hK _ _ ?_); clear hK K))))
    · rw [if_neg h2]
      by_cases h1 : space = 1
      · rw [if_pos h1]
        have n10 : ((1 : Int) = 0) = False := by decide
        have n12 : ((1 : Int) = 2) = False := by decide
        refine Gives.of_W Tryd.call80 Tryd.func80 rfl Tryd.ntmps80 (by simp) ?_; intro Z hZ
        (repeat (first | (with_reducible first | (refine hK _ _ ?_; clear hK K) | refine (show ∀ σ' w', _ → K σ' w' from by assumption) _ _ ?_ | refine W_seq_k fun K hK => ?_ | refine W_block_k fun K hK => ?_ | refine W_skip ?_ | refine W_ret ?_) | ((first | ((with_reducible refine W_id ?_); refine W_reg (by decide) (by rfl) ?_) | (with_reducible first | refine W_cond ?_ | refine hZ _ _ ?_ | refine W_exit ?_ | refine Wo_id ?_)); repeat1' simp only [push_cast, Nat.reduceBEq, Nat.reduceLT, Nat.reduceEqDiff, reduceIte, reduceCtorEq, Nat.reduceMul, Nat.reduceAdd, Nat.reduceSub, Int.reduceEq, Int.reduceLT, Int.reduceLE, Int.reduceNeg, Int.reduceAdd, Int.reduceSub, Int.reduceMul, Nat.reduceLeDiff, Int.reduceToNat, h1, n10, n12]) | ((repeat ((fail_if_success with_reducible refine hK _ _ ?_); clear hK K)); (with_reducible refine hK _ _ ?_); clear hK K)))
        refine (in_c svgB s hm (by decide) hz).mono ?_
        intro v w' ⟨hv, hw⟩
        subst hv; subst w'
        ((repeat simp only [push_cast, Nat.reduceBEq, Nat.reduceLT, Nat.reduceEqDiff, reduceIte, reduceCtorEq, Nat.reduceMul, Nat.reduceAdd, Nat.reduceSub, Int.reduceEq, Int.reduceLT, Int.reduceLE, Int.reduceNeg, Int.reduceAdd, Int.reduceSub, Int.reduceMul, Nat.reduceLeDiff, Int.reduceToNat]); (repeat (first | (with_reducible first | (refine hK _ _ ?_; clear hK K) | refine (show ∀ σ' w', _ → K σ' w' from by assumption) _ _ ?_ | refine W_seq_k fun K hK => ?_ | refine W_block_k fun K hK => ?_ | refine W_skip ?_ | refine W_ret ?_) | ((first | ((with_reducible refine W_id ?_); refine W_reg (by decide) (by rfl) ?_) | (with_reducible first | refine W_cond ?_ | refine hZ _ _ ?_ | refine W_exit ?_ | refine Wo_id ?_)); repeat1' simp only [push_cast, Nat.reduceBEq, Nat.reduceLT, Nat.reduceEqDiff, reduceIte, reduceCtorEq, Nat.reduceMul, Nat.reduceAdd, Nat.reduceSub, Int.reduceEq, Int.reduceLT, Int.reduceLE, Int.reduceNeg, Int.reduceAdd, Int.reduceSub, Int.reduceMul, Nat.reduceLeDiff, Int.reduceToNat]) | ((repeat ((fail_if_success with_reducible refine hK _ _ ?_); clear hK K)); (with_reducible refine hK _ _ ?_); clear hK K))))
      · rw [if_neg h1]
        refine Gives.of_W Tryd.call80 Tryd.func80 rfl Tryd.ntmps80 (by simp) ?_; intro Z hZ
        (repeat (first | (with_reducible first | (refine hK _ _ ?_; clear hK K) | refine (show ∀ σ' w', _ → K σ' w' from by assumption) _ _ ?_ | refine W_seq_k fun K hK => ?_ | refine W_block_k fun K hK => ?_ | refine W_skip ?_ | refine W_ret ?_) | ((first | ((with_reducible refine W_id ?_); refine W_reg (by decide) (by rfl) ?_) | (with_reducible first | refine W_cond ?_ | refine hZ _ _ ?_ | refine W_exit ?_ | refine Wo_id ?_)); repeat1' simp only [push_cast, Nat.reduceBEq, Nat.reduceLT, Nat.reduceEqDiff, reduceIte, reduceCtorEq, Nat.reduceMul, Nat.reduceAdd, Nat.reduceSub, Int.reduceEq, Int.reduceLT, Int.reduceLE, Int.reduceNeg, Int.reduceAdd, Int.reduceSub, Int.reduceMul, Nat.reduceLeDiff, Int.reduceToNat, h0, h1, h2]) | ((repeat ((fail_if_success with_reducible refine hK _ _ ?_); clear hK K)); (with_reducible refine hK _ _ ?_); clear hK K)))
theorem scope_c (which space : Int) (s : ByteArray) {w : World} (hg : GL w) (hz : s.size < 4294967281) : Gives Tryd.prog 69 #[.int .i64 which, .int .i64 space, .string s] w fun v w' => v = .bool (scopeN which space s) ∧ w' = w := by
  obtain ⟨hm, t, f, hsc⟩ := hg
  unfold scopeN
  by_cases hr : which < 0 ∨ 4 ≤ which
  · rw [if_pos hr]
    by_cases h0 : which < 0
    · refine Gives.of_W Tryd.call69 Tryd.func69 rfl Tryd.ntmps69 (by simp) ?_; intro Z hZ
      (repeat (first | (with_reducible first | (refine hK _ _ ?_; clear hK K) | refine (show ∀ σ' w', _ → K σ' w' from by assumption) _ _ ?_ | refine W_seq_k fun K hK => ?_ | refine W_block_k fun K hK => ?_ | refine W_skip ?_ | refine W_ret ?_) | ((first | ((with_reducible refine W_id ?_); refine W_reg (by decide) (by rfl) ?_) | (with_reducible first | refine W_cond ?_ | refine hZ _ _ ?_ | refine W_exit ?_ | refine Wo_id ?_)); repeat1' simp only [push_cast, Nat.reduceBEq, Nat.reduceLT, Nat.reduceEqDiff, reduceIte, reduceCtorEq, Nat.reduceMul, Nat.reduceAdd, Nat.reduceSub, Int.reduceEq, Int.reduceLT, Int.reduceLE, Int.reduceNeg, Int.reduceAdd, Int.reduceSub, Int.reduceMul, Nat.reduceLeDiff, Int.reduceToNat, h0]) | ((repeat ((fail_if_success with_reducible refine hK _ _ ?_); clear hK K)); (with_reducible refine hK _ _ ?_); clear hK K)))
    · have h4 : 4 ≤ which := by omega
      refine Gives.of_W Tryd.call69 Tryd.func69 rfl Tryd.ntmps69 (by simp) ?_; intro Z hZ
      (repeat (first | (with_reducible first | (refine hK _ _ ?_; clear hK K) | refine (show ∀ σ' w', _ → K σ' w' from by assumption) _ _ ?_ | refine W_seq_k fun K hK => ?_ | refine W_block_k fun K hK => ?_ | refine W_skip ?_ | refine W_ret ?_) | ((first | ((with_reducible refine W_id ?_); refine W_reg (by decide) (by rfl) ?_) | (with_reducible first | refine W_cond ?_ | refine hZ _ _ ?_ | refine W_exit ?_ | refine Wo_id ?_)); repeat1' simp only [push_cast, Nat.reduceBEq, Nat.reduceLT, Nat.reduceEqDiff, reduceIte, reduceCtorEq, Nat.reduceMul, Nat.reduceAdd, Nat.reduceSub, Int.reduceEq, Int.reduceLT, Int.reduceLE, Int.reduceNeg, Int.reduceAdd, Int.reduceSub, Int.reduceMul, Nat.reduceLeDiff, Int.reduceToNat, h0, h4]) | ((repeat ((fail_if_success with_reducible refine hK _ _ ?_); clear hK K)); (with_reducible refine hK _ _ ?_); clear hK K)))
  · rw [if_neg hr]
    have h0 : ¬ which < 0 := by omega
    have h4 : ¬ 4 ≤ which := by omega
    by_cases hs : space = 0
    · rw [if_pos hs]
      have hw4 : which = 0 ∨ which = 1 ∨ which = 2 ∨ which = 3 := by omega
      have n0 : ¬ ((0 : Int) < 0) := by decide
      have key : ∀ (k : Nat) (b : ByteArray), k < 4 → which = (k : Int) → (#[Value.string norB, .string lisB, .string butB, .string tabB] : Array Value)[k]? = some (.string b) → b.size < 4294967281 → scB which = b → Gives Tryd.prog 69 #[.int .i64 which, .int .i64 space, .string s] w fun v w' => v = .bool (inB (scB which) s) ∧ w' = w := by
        intro k b hk4 hk hb hbs hsb
        rw [hsb]
        have k0 : (0 : Int) ≤ which := by omega
        have k4 : which < 4 := by omega
        have k5 : which.toNat = k := by omega
        refine Gives.of_W Tryd.call69 Tryd.func69 rfl Tryd.ntmps69 (by simp) ?_; intro Z hZ
        (repeat (first | (with_reducible first | (refine hK _ _ ?_; clear hK K) | refine (show ∀ σ' w', _ → K σ' w' from by assumption) _ _ ?_ | refine W_seq_k fun K hK => ?_ | refine W_block_k fun K hK => ?_ | refine W_skip ?_ | refine W_ret ?_) | ((first | ((with_reducible refine W_id ?_); refine W_reg (by decide) (by rfl) ?_) | (with_reducible first | refine W_cond ?_ | refine hZ _ _ ?_ | refine W_exit ?_ | refine Wo_id ?_)); repeat1' simp only [push_cast, Nat.reduceBEq, Nat.reduceLT, Nat.reduceEqDiff, reduceIte, reduceCtorEq, Nat.reduceMul, Nat.reduceAdd, Nat.reduceSub, Int.reduceEq, Int.reduceLT, Int.reduceLE, Int.reduceNeg, Int.reduceAdd, Int.reduceSub, Int.reduceMul, Nat.reduceLeDiff, Int.reduceToNat, h0, h4, hs, k0, k4, k5, cell_h, cellO_cells, hsc, hb]) | ((repeat ((fail_if_success with_reducible refine hK _ _ ?_); clear hK K)); (with_reducible refine hK _ _ ?_); clear hK K)))
        refine (in_c b s hm hbs hz).mono ?_
        intro v w' ⟨hv, hw⟩
        subst hv; subst w'
        ((repeat simp only [push_cast, Nat.reduceBEq, Nat.reduceLT, Nat.reduceEqDiff, reduceIte, reduceCtorEq, Nat.reduceMul, Nat.reduceAdd, Nat.reduceSub, Int.reduceEq, Int.reduceLT, Int.reduceLE, Int.reduceNeg, Int.reduceAdd, Int.reduceSub, Int.reduceMul, Nat.reduceLeDiff, Int.reduceToNat]); (repeat (first | (with_reducible first | (refine hK _ _ ?_; clear hK K) | refine (show ∀ σ' w', _ → K σ' w' from by assumption) _ _ ?_ | refine W_seq_k fun K hK => ?_ | refine W_block_k fun K hK => ?_ | refine W_skip ?_ | refine W_ret ?_) | ((first | ((with_reducible refine W_id ?_); refine W_reg (by decide) (by rfl) ?_) | (with_reducible first | refine W_cond ?_ | refine hZ _ _ ?_ | refine W_exit ?_ | refine Wo_id ?_)); repeat1' simp only [push_cast, Nat.reduceBEq, Nat.reduceLT, Nat.reduceEqDiff, reduceIte, reduceCtorEq, Nat.reduceMul, Nat.reduceAdd, Nat.reduceSub, Int.reduceEq, Int.reduceLT, Int.reduceLE, Int.reduceNeg, Int.reduceAdd, Int.reduceSub, Int.reduceMul, Nat.reduceLeDiff, Int.reduceToNat]) | ((repeat ((fail_if_success with_reducible refine hK _ _ ?_); clear hK K)); (with_reducible refine hK _ _ ?_); clear hK K))))
      rcases hw4 with h | h | h | h
      · exact key 0 norB (by decide) h rfl (by decide) (by rw [h]; rfl)
      · exact key 1 lisB (by decide) h rfl (by decide) (by rw [h]; rfl)
      · exact key 2 butB (by decide) h rfl (by decide) (by rw [h]; rfl)
      · exact key 3 tabB (by decide) h rfl (by decide) (by rw [h]; rfl)
    · rw [if_neg hs]
      by_cases h3 : which = 3
      · rw [if_pos h3]
        have n30 : ¬ ((3 : Int) < 0) := by decide
        have n34 : ¬ ((4 : Int) ≤ 3) := by decide
        refine Gives.of_W Tryd.call69 Tryd.func69 rfl Tryd.ntmps69 (by simp) ?_; intro Z hZ
        (repeat (first | (with_reducible first | (refine hK _ _ ?_; clear hK K) | refine (show ∀ σ' w', _ → K σ' w' from by assumption) _ _ ?_ | refine W_seq_k fun K hK => ?_ | refine W_block_k fun K hK => ?_ | refine W_skip ?_ | refine W_ret ?_) | ((first | ((with_reducible refine W_id ?_); refine W_reg (by decide) (by rfl) ?_) | (with_reducible first | refine W_cond ?_ | refine hZ _ _ ?_ | refine W_exit ?_ | refine Wo_id ?_)); repeat1' simp only [push_cast, Nat.reduceBEq, Nat.reduceLT, Nat.reduceEqDiff, reduceIte, reduceCtorEq, Nat.reduceMul, Nat.reduceAdd, Nat.reduceSub, Int.reduceEq, Int.reduceLT, Int.reduceLE, Int.reduceNeg, Int.reduceAdd, Int.reduceSub, Int.reduceMul, Nat.reduceLeDiff, Int.reduceToNat, h3, n30, n34, hs, not_true_eq_false]) | ((repeat ((fail_if_success with_reducible refine hK _ _ ?_); clear hK K)); (with_reducible refine hK _ _ ?_); clear hK K)))
      · rw [if_neg h3]
        refine Gives.of_W Tryd.call69 Tryd.func69 rfl Tryd.ntmps69 (by simp) ?_; intro Z hZ
        (repeat (first | (with_reducible first | (refine hK _ _ ?_; clear hK K) | refine (show ∀ σ' w', _ → K σ' w' from by assumption) _ _ ?_ | refine W_seq_k fun K hK => ?_ | refine W_block_k fun K hK => ?_ | refine W_skip ?_ | refine W_ret ?_) | ((first | ((with_reducible refine W_id ?_); refine W_reg (by decide) (by rfl) ?_) | (with_reducible first | refine W_cond ?_ | refine hZ _ _ ?_ | refine W_exit ?_ | refine Wo_id ?_)); repeat1' simp only [push_cast, Nat.reduceBEq, Nat.reduceLT, Nat.reduceEqDiff, reduceIte, reduceCtorEq, Nat.reduceMul, Nat.reduceAdd, Nat.reduceSub, Int.reduceEq, Int.reduceLT, Int.reduceLE, Int.reduceNeg, Int.reduceAdd, Int.reduceSub, Int.reduceMul, Nat.reduceLeDiff, Int.reduceToNat, h0, h4, hs, h3, not_false_eq_true]) | ((repeat ((fail_if_success with_reducible refine hK _ _ ?_); clear hK K)); (with_reducible refine hK _ _ ?_); clear hK K)))
        refine (special_c space s hm hz).mono ?_
        intro v w' ⟨hv, hw⟩
        subst hv; subst w'
        ((repeat simp only [push_cast, Nat.reduceBEq, Nat.reduceLT, Nat.reduceEqDiff, reduceIte, reduceCtorEq, Nat.reduceMul, Nat.reduceAdd, Nat.reduceSub, Int.reduceEq, Int.reduceLT, Int.reduceLE, Int.reduceNeg, Int.reduceAdd, Int.reduceSub, Int.reduceMul, Nat.reduceLeDiff, Int.reduceToNat]); (repeat (first | (with_reducible first | (refine hK _ _ ?_; clear hK K) | refine (show ∀ σ' w', _ → K σ' w' from by assumption) _ _ ?_ | refine W_seq_k fun K hK => ?_ | refine W_block_k fun K hK => ?_ | refine W_skip ?_ | refine W_ret ?_) | ((first | ((with_reducible refine W_id ?_); refine W_reg (by decide) (by rfl) ?_) | (with_reducible first | refine W_cond ?_ | refine hZ _ _ ?_ | refine W_exit ?_ | refine Wo_id ?_)); repeat1' simp only [push_cast, Nat.reduceBEq, Nat.reduceLT, Nat.reduceEqDiff, reduceIte, reduceCtorEq, Nat.reduceMul, Nat.reduceAdd, Nat.reduceSub, Int.reduceEq, Int.reduceLT, Int.reduceLE, Int.reduceNeg, Int.reduceAdd, Int.reduceSub, Int.reduceMul, Nat.reduceLeDiff, Int.reduceToNat]) | ((repeat ((fail_if_success with_reducible refine hK _ _ ?_); clear hK K)); (with_reducible refine hK _ _ ?_); clear hK K))))
end Go.Proofs.YtkafpameheohdaaDoor
end
