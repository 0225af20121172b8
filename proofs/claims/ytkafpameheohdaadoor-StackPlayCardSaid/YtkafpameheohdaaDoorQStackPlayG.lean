/- What the proof leans on, part 7 of 11. -/
import Derived.Test.YtkafpameheohdaaDoorQStackPlayF
section
set_option linter.unusedSimpArgs false
set_option linter.unusedVariables false
namespace Go.Proofs.YtkafpameheohdaaDoor
open Go.Vk
set_option maxHeartbeats 40000000
theorem rad_c {pa : Nat} {L : List Nd} {F : Nat → Prop} {w : World} (h : Ar w pa L F) (hb : L.length < 1000000) {m : Laid} (hm : RdAt w 2 m.av (attrCells m.nd.attrs)) (hmb : m.nd.attrs.length < 1000000) :
    Gives Tryd.prog 55 #[.pointer (some ⟨pa, 0, none⟩), m.val] w fun v w' => v = .int .i64 (addN L m.nd).2 ∧ Ar w' pa (addN L m.nd).1 (fun b => F b ∨ w.heap.size ≤ b) ∧ Upd F w w' := by
  rw [Laid.val_eq]
  have hpa : pa < w.heap.size := by obtain ⟨bn, cap, M, hM, _, _⟩ := h; exact hM.lt (by simp [blocks])
  have hne : ¬ pa = w.heap.size := by omega
  by_cases hk : kidK m.nd.kind = true
  · refine Gives.of_W Tryd.call55 Tryd.func55 rfl Tryd.ntmps55 (by simp) ?_; intro Z hZ
    (repeat (first | (with_reducible first | (refine hK _ _ ?_; clear hK K) | refine (show ∀ σ' w', _ → K σ' w' from by assumption) _ _ ?_ | refine W_seq_k fun K hK => ?_ | refine W_block_k fun K hK => ?_ | refine W_skip ?_ | refine W_ret ?_) | ((first | ((with_reducible refine W_id ?_); refine W_reg (by decide) (by rfl) ?_) | (with_reducible first | refine W_cond ?_ | refine hZ _ _ ?_ | refine W_exit ?_ | refine Wo_id ?_)); repeat1' simp only [push_cast, Nat.reduceBEq, Nat.reduceLT, Nat.reduceEqDiff, reduceIte, reduceCtorEq, Nat.reduceMul, Nat.reduceAdd, Nat.reduceSub, Int.reduceEq, Int.reduceLT, Int.reduceLE, Int.reduceNeg, Int.reduceAdd, Int.reduceSub, Int.reduceMul, Nat.reduceLeDiff, Int.reduceToNat, cell_h, can_h, cellO_cells, canO_cells, setO_cells, heap_set_h, heap_alloc_h, size_set_h, size_alloc_h, vcells_agg, succ_ne, ne_succ, List.setIfInBounds_toArray, List.set_cons_succ, List.set_cons_zero, setCells, drew_h]) | ((repeat ((fail_if_success with_reducible refine hK _ _ ?_); clear hK K)); (with_reducible refine hK _ _ ?_); clear hK K)))
    refine (rkid_c _).mono ?_
    rintro v w' ⟨rfl, rfl⟩
    have hx := h.ext (Ext.alloc w (.cells #[.int .i64 m.nd.kind, .string m.nd.name, .string m.nd.text, .int .i64 m.nd.space, m.av, .bool m.nd.dup, .int .i64 m.nd.parent, .int .i64 m.nd.content, m.kv, .int .i64 m.nd.frm, .int .i64 m.nd.to] 49))
    obtain ⟨bn, cap, M, hM, hML, hMF⟩ := h
    obtain ⟨t, ht⟩ := hM.hdr
    ((repeat simp only [push_cast, Nat.reduceBEq, Nat.reduceLT, Nat.reduceEqDiff, reduceIte, reduceCtorEq, Nat.reduceMul, Nat.reduceAdd, Nat.reduceSub, Int.reduceEq, Int.reduceLT, Int.reduceLE, Int.reduceNeg, Int.reduceAdd, Int.reduceSub, Int.reduceMul, Nat.reduceLeDiff, Int.reduceToNat, cell_h, can_h, cellO_cells, canO_cells, setO_cells, heap_set_h, heap_alloc_h, size_set_h, size_alloc_h, vcells_agg, succ_ne, ne_succ, List.setIfInBounds_toArray, List.set_cons_succ, List.set_cons_zero, setCells, drew_h, hk, hne, ht]); (repeat (first | (with_reducible first | (refine hK _ _ ?_; clear hK K) | refine (show ∀ σ' w', _ → K σ' w' from by assumption) _ _ ?_ | refine W_seq_k fun K hK => ?_ | refine W_block_k fun K hK => ?_ | refine W_skip ?_ | refine W_ret ?_) | ((first | ((with_reducible refine W_id ?_); refine W_reg (by decide) (by rfl) ?_) | (with_reducible first | refine W_cond ?_ | refine hZ _ _ ?_ | refine W_exit ?_ | refine Wo_id ?_)); repeat1' simp only [push_cast, Nat.reduceBEq, Nat.reduceLT, Nat.reduceEqDiff, reduceIte, reduceCtorEq, Nat.reduceMul, Nat.reduceAdd, Nat.reduceSub, Int.reduceEq, Int.reduceLT, Int.reduceLE, Int.reduceNeg, Int.reduceAdd, Int.reduceSub, Int.reduceMul, Nat.reduceLeDiff, Int.reduceToNat, cell_h, can_h, cellO_cells, canO_cells, setO_cells, heap_set_h, heap_alloc_h, size_set_h, size_alloc_h, vcells_agg, succ_ne, ne_succ, List.setIfInBounds_toArray, List.set_cons_succ, List.set_cons_zero, setCells, drew_h, hk, hne, ht]) | ((repeat ((fail_if_success with_reducible refine hK _ _ ?_); clear hK K)); (with_reducible refine hK _ _ ?_); clear hK K))))
    refine W_draw (.pas 0 (.pas 1 (.pas 2 (.pas 3 (.pas 4 (.pas 5 (.act 6 (.act 7 (.act 8 (.pas 9 (.pas 10 (.last 11)))))))))))) (fun b => b = pa ∨ b = w.heap.size) (by decide) mixed (by kernel_rfl) ?_
    (repeat (first | ((first | refine pas_plain rfl ?_ | refine pas_g rfl rfl ?_ | refine act_plain rfl ?_ | refine act_g rfl rfl ?_ | refine last_plain rfl ?_ | refine tail_plain rfl ?_ | refine tail_g rfl rfl ?_); (repeat simp only [push_cast, Nat.reduceBEq, Nat.reduceLT, Nat.reduceEqDiff, reduceIte, reduceCtorEq, Nat.reduceMul, Nat.reduceAdd, Nat.reduceSub, Int.reduceEq, Int.reduceLT, Int.reduceLE, Int.reduceNeg, Int.reduceAdd, Int.reduceSub, Int.reduceMul, Nat.reduceLeDiff, Int.reduceToNat, cell_h, can_h, cellO_cells, canO_cells, setO_cells, heap_set_h, heap_alloc_h, size_set_h, size_alloc_h, vcells_agg, succ_ne, ne_succ, List.setIfInBounds_toArray, List.set_cons_succ, List.set_cons_zero, setCells, drew_h, true_or, or_true, hne, ht])) | (refine tail_fin ?_) | (refine sch_fin ?_)))
    have hx1 : Ext w (w.alloc (.cells #[.int .i64 m.nd.kind, .string m.nd.name, .string m.nd.text, .int .i64 m.nd.space, m.av, .bool m.nd.dup, .int .i64 m.nd.parent, .int .i64 m.nd.content, m.kv, .int .i64 m.nd.frm, .int .i64 m.nd.to] 49)).drew := (Ext.alloc _ _).trans (Ext.drew _)
    refine (rmade_c (m := m) (hm.ext hx1) hmb).mono ?_
    rintro v w2 ⟨m', rfl, h1, h2, h3, h4, h5, h6⟩
    refine ⟨kept_upd h3 fun b hb => ⟨by simp only [drew_size, size_alloc_h]; omega, id⟩, ?_⟩
    (repeat (first | ((first | refine pas_plain rfl ?_ | refine pas_g rfl rfl ?_ | refine act_plain rfl ?_ | refine act_g rfl rfl ?_ | refine last_plain rfl ?_ | refine tail_plain rfl ?_ | refine tail_g rfl rfl ?_); (repeat simp only [push_cast, Nat.reduceBEq, Nat.reduceLT, Nat.reduceEqDiff, reduceIte, reduceCtorEq, Nat.reduceMul, Nat.reduceAdd, Nat.reduceSub, Int.reduceEq, Int.reduceLT, Int.reduceLE, Int.reduceNeg, Int.reduceAdd, Int.reduceSub, Int.reduceMul, Nat.reduceLeDiff, Int.reduceToNat, cell_h, can_h, cellO_cells, canO_cells, setO_cells, heap_set_h, heap_alloc_h, size_set_h, size_alloc_h, vcells_agg, succ_ne, ne_succ, List.setIfInBounds_toArray, List.set_cons_succ, List.set_cons_zero, setCells, drew_h, true_or, or_true, hne, ht])) | (refine tail_fin ?_) | (refine sch_fin ?_)))
    refine bs_one sty39 (by decide) (by decide) (v := m'.val) rfl ?_
    refine ⟨kept_upd (Ext.alloc _ _) fun b hb => ⟨?_, id⟩, ?_⟩
    · have := h3.alike.size
      simp only [drew_size, size_alloc_h] at this; omega
    (repeat (first | ((first | refine pas_plain rfl ?_ | refine pas_g rfl rfl ?_ | refine act_plain rfl ?_ | refine act_g rfl rfl ?_ | refine last_plain rfl ?_ | refine tail_plain rfl ?_ | refine tail_g rfl rfl ?_); (repeat simp only [push_cast, Nat.reduceBEq, Nat.reduceLT, Nat.reduceEqDiff, reduceIte, reduceCtorEq, Nat.reduceMul, Nat.reduceAdd, Nat.reduceSub, Int.reduceEq, Int.reduceLT, Int.reduceLE, Int.reduceNeg, Int.reduceAdd, Int.reduceSub, Int.reduceMul, Nat.reduceLeDiff, Int.reduceToNat, cell_h, can_h, cellO_cells, canO_cells, setO_cells, heap_set_h, heap_alloc_h, size_set_h, size_alloc_h, vcells_agg, succ_ne, ne_succ, List.setIfInBounds_toArray, List.set_cons_succ, List.set_cons_zero, setCells, drew_h, true_or, or_true, hne, ht])) | (refine tail_fin ?_) | (refine sch_fin ?_)))
    have hx2 : Ext w (w2.alloc (.cells m'.val.cells 49)) := hx1.trans (h3.trans (Ext.alloc _ _))
    have hok2 : m'.ok (w2.alloc (.cells m'.val.cells 49)) := h2.upd (Ext.alloc _ _) fun _ _ h => h.elim
    have hmlen : M.length = L.length := by rw [← hML]; simp
    refine hM.app sty39 hx2 hok2 (SlAt.new w2 11 m'.val.cells 49 1 rfl) (by omega) ?_
    intro bn' cap' w3 g1 g2 g3
    have hne2 : ¬ bn = w.heap.size := by have := hM.lt (b := bn) (by simp [blocks]); omega
    have hnp : ¬ pa = bn := by have := hM.own; simp [blocks] at this; exact this.1.1
    have hsz2 := h3.alike.size
    simp only [drew_size, size_alloc_h] at hsz2
    refine ⟨kept_upd g2 fun b hb => ⟨?_, ?_⟩, ?_⟩
    · simp only [size_alloc_h]; omega
    · rcases hb with rfl | rfl <;> omega
    (repeat (first | ((first | refine pas_plain rfl ?_ | refine pas_g rfl rfl ?_ | refine act_plain rfl ?_ | refine act_g rfl rfl ?_ | refine last_plain rfl ?_ | refine tail_plain rfl ?_ | refine tail_g rfl rfl ?_); (repeat simp only [push_cast, Nat.reduceBEq, Nat.reduceLT, Nat.reduceEqDiff, reduceIte, reduceCtorEq, Nat.reduceMul, Nat.reduceAdd, Nat.reduceSub, Int.reduceEq, Int.reduceLT, Int.reduceLE, Int.reduceNeg, Int.reduceAdd, Int.reduceSub, Int.reduceMul, Nat.reduceLeDiff, Int.reduceToNat, cell_h, can_h, cellO_cells, canO_cells, setO_cells, heap_set_h, heap_alloc_h, size_set_h, size_alloc_h, vcells_agg, succ_ne, ne_succ, List.setIfInBounds_toArray, List.set_cons_succ, List.set_cons_zero, setCells, drew_h, true_or, or_true, hne, ht])) | (refine tail_fin ?_) | (refine sch_fin ?_)))
    have hp3 : w3.heap[pa]? = some (.cells #[.slice (some ⟨bn, 0, none⟩) M.length cap] t (0, 0)) :=
      (g2.same pa (by simp only [size_alloc_h]; omega) hnp).trans ((hx2.heap hpa).trans ht)
    have hb3 : w3.heap[w.heap.size]? = some (.cells #[.int .i64 m.nd.kind, .string m.nd.name, .string m.nd.text, .int .i64 m.nd.space, m.av, .bool m.nd.dup, .int .i64 m.nd.parent, .int .i64 m.nd.content, m.kv, .int .i64 m.nd.frm, .int .i64 m.nd.to] 49 (0, 0)) := by
      refine (g2.same _ (by simp only [size_alloc_h]; omega) (fun e => hne2 e.symm)).trans ?_
      rw [heap_alloc_h, if_neg (by omega), h3.heap (by simp only [drew_size, size_alloc_h]; omega), drew_h, heap_alloc_h, if_pos rfl]
    (repeat simp only [push_cast, Nat.reduceBEq, Nat.reduceLT, Nat.reduceEqDiff, reduceIte, reduceCtorEq, Nat.reduceMul, Nat.reduceAdd, Nat.reduceSub, Int.reduceEq, Int.reduceLT, Int.reduceLE, Int.reduceNeg, Int.reduceAdd, Int.reduceSub, Int.reduceMul, Nat.reduceLeDiff, Int.reduceToNat, cell_h, can_h, cellO_cells, canO_cells, setO_cells, heap_set_h, heap_alloc_h, size_set_h, size_alloc_h, vcells_agg, succ_ne, ne_succ, List.setIfInBounds_toArray, List.set_cons_succ, List.set_cons_zero, setCells, drew_h, hp3])
    have hA := hM.push hx2 m' hok2 (fun b hb => by have := h4 b hb; simp only [drew_size, size_alloc_h] at this; omega) h5 g1 g2 g3
    have hu4 : Upd F w (w3.setCell ⟨pa, 0, none⟩ (.slice (some ⟨bn', 0, none⟩) (M.length + 1) cap')) :=
      (Upd.trans (hx2.upd (F := F)) g2 fun i hi e => by subst e; exact hMF _ (by simp [blocks])).put (hMF _ (by simp [blocks]))
    have hb4 : (w3.setCell ⟨pa, 0, none⟩ (.slice (some ⟨bn', 0, none⟩) (M.length + 1) cap')).heap[w.heap.size]? = some (.cells #[.int .i64 m.nd.kind, .string m.nd.name, .string m.nd.text, .int .i64 m.nd.space, m.av, .bool m.nd.dup, .int .i64 m.nd.parent, .int .i64 m.nd.content, m.kv, .int .i64 m.nd.frm, .int .i64 m.nd.to] 49 (0, 0)) := by
      rw [heap_set_h, if_neg (by omega), hb3]
    have hsz3 := g2.alike.size
    simp only [size_alloc_h] at hsz3
    have hsz4 : w3.heap.size = (w3.setCell ⟨pa, 0, none⟩ (.slice (some ⟨bn', 0, none⟩) (M.length + 1) cap')).heap.size := by simp
    generalize w3.setCell ⟨pa, 0, none⟩ (.slice (some ⟨bn', 0, none⟩) (M.length + 1) cap') = w4 at *
    have hlen4 : (M ++ [m']).length = M.length + 1 := by simp
    have hres : addN L m.nd = (L ++ [bareN m.nd], (L.length : Int)) → Ar w4 pa (addN L m.nd).1 (fun b => F b ∨ w.heap.size ≤ b) ∧ Upd F w w4 := fun e => by
      rw [e]
      refine ⟨⟨bn', cap', M ++ [m'], hA, by simp [hML, h1], fun b hb => ?_⟩, hu4⟩
      simp only [blocks, List.flatMap_append, List.flatMap_cons, List.flatMap_nil, List.append_nil, List.mem_cons, List.mem_append] at hb
      rcases hb with rfl | rfl | hb | hb
      · exact .inl (hMF _ (by simp [blocks]))
      · rcases g3 with rfl | g3
        · exact .inl (hMF _ (by simp [blocks]))
        · simp only [size_alloc_h] at g3; exact .inr (by omega)
      · exact .inl (hMF _ (by simp only [blocks, List.mem_cons]; exact .inr (.inr hb)))
      · have := h4 b hb
        simp only [drew_size, size_alloc_h] at this; exact .inr (by omega)
    by_cases c1 : m.nd.kind = 3
    · by_cases c3 : m.nd.name = ⟨#[116, 101, 109, 112, 108, 97, 116, 101]⟩
      · by_cases c2 : m.nd.space = 0
        · have hi1 : (0 : Int) ≤ M.length := by omega
          have hi2 : (M.length : Int) < (M.length : Int) + 1 := by omega
          have hr : inI64 ((M.length : Int) + 1) := by unfold inI64; omega
          obtain ⟨t', ht'⟩ := hA.hdr
          rw [hlen4] at ht'
          have hc7 : canO (w4.heap[bn']?) (M.length * 11 + 7) := by
            rw [← can_h]; exact hA.can (i := M.length) (by simp) (by decide)
          ((repeat simp only [push_cast, Nat.reduceBEq, Nat.reduceLT, Nat.reduceEqDiff, reduceIte, reduceCtorEq, Nat.reduceMul, Nat.reduceAdd, Nat.reduceSub, Int.reduceEq, Int.reduceLT, Int.reduceLE, Int.reduceNeg, Int.reduceAdd, Int.reduceSub, Int.reduceMul, Nat.reduceLeDiff, Int.reduceToNat, cell_h, can_h, cellO_cells, canO_cells, setO_cells, heap_set_h, heap_alloc_h, size_set_h, size_alloc_h, vcells_agg, succ_ne, ne_succ, List.setIfInBounds_toArray, List.set_cons_succ, List.set_cons_zero, setCells, drew_h, hb4, c1, c2, c3, ht', hi1, hi2, hr, hc7]); (repeat (first | (with_reducible first | (refine hK _ _ ?_; clear hK K) | refine (show ∀ σ' w', _ → K σ' w' from by assumption) _ _ ?_ | refine W_seq_k fun K hK => ?_ | refine W_block_k fun K hK => ?_ | refine W_skip ?_ | refine W_ret ?_) | ((first | ((with_reducible refine W_id ?_); refine W_reg (by decide) (by rfl) ?_) | (with_reducible first | refine W_cond ?_ | refine hZ _ _ ?_ | refine W_exit ?_ | refine Wo_id ?_)); repeat1' simp only [push_cast, Nat.reduceBEq, Nat.reduceLT, Nat.reduceEqDiff, reduceIte, reduceCtorEq, Nat.reduceMul, Nat.reduceAdd, Nat.reduceSub, Int.reduceEq, Int.reduceLT, Int.reduceLE, Int.reduceNeg, Int.reduceAdd, Int.reduceSub, Int.reduceMul, Nat.reduceLeDiff, Int.reduceToNat, cell_h, can_h, cellO_cells, canO_cells, setO_cells, heap_set_h, heap_alloc_h, size_set_h, size_alloc_h, vcells_agg, succ_ne, ne_succ, List.setIfInBounds_toArray, List.set_cons_succ, List.set_cons_zero, setCells, drew_h, hb4, c1, c2, c3, ht', hi1, hi2, hr, hc7]) | ((repeat ((fail_if_success with_reducible refine hK _ _ ?_); clear hK K)); (with_reducible refine hK _ _ ?_); clear hK K))))
          have hA5 := hA.repl (i := M.length) (m := m') (by simp) { m' with nd := { m'.nd with content := (M.length : Int) + 1 } } 7 (.int .i64 ((M.length : Int) + 1)) rfl (by decide) (Upd.refl none_ w4) (fun _ _ h => h.elim)
            ⟨(hA.sub m' (by simp)).attrs, (hA.sub m' (by simp)).kids⟩ (fun b hb => .inl hb) h5
          rw [set_split] at hA5
          have hFn : bn' < w.heap.size → F bn' := fun hl => by
            rcases g3 with rfl | g3
            · exact hMF _ (by simp [blocks])
            · simp only [size_alloc_h] at g3; omega
          have hu5 := hu4.put2 (x := ⟨bn', M.length * 11 + 7, none⟩) (v := .int .i64 ((M.length : Int) + 1)) hFn
          obtain ⟨M5, hM5, hl5, hn5, hb5⟩ : ∃ M5 : List Laid, M5 = M ++ [{ m' with nd := { m'.nd with content := (M.length : Int) + 1 } }] ∧ M5.length = M.length + 1 ∧ M5.map Laid.nd = L ++ [{ bareN m.nd with content := (L.length : Int) + 1 }] ∧ M5.flatMap Laid.blks = M.flatMap Laid.blks ++ m'.blks :=
            ⟨_, rfl, by simp, by simp [hML, h1, hmlen], by simp [Laid.blks]⟩
          rw [← hM5] at hA5
          have hsz5 : w4.heap.size = (w4.setCell ⟨bn', M.length * 11 + 7, none⟩ (.int .i64 ((M.length : Int) + 1))).heap.size := by simp
          generalize w4.setCell ⟨bn', M.length * 11 + 7, none⟩ (.int .i64 ((M.length : Int) + 1)) = w5 at *
          obtain ⟨t5, ht5⟩ := hA5.hdr
          have hpa5 : pa < w5.heap.size := hA5.lt (by simp [blocks])
          refine W_draw (.pas 0 (.pas 1 (.pas 2 (.pas 3 (.pas 4 (.pas 5 (.act 6 (.act 7 (.act 8 (.pas 9 (.pas 10 (.last 11)))))))))))) (fun b => b = pa) (by decide) mixed (by kernel_rfl) ?_
          rw [hl5] at ht5
          (repeat (first | ((first | refine pas_plain rfl ?_ | refine pas_g rfl rfl ?_ | refine act_plain rfl ?_ | refine act_g rfl rfl ?_ | refine last_plain rfl ?_ | refine tail_plain rfl ?_ | refine tail_g rfl rfl ?_); (repeat simp only [push_cast, Nat.reduceBEq, Nat.reduceLT, Nat.reduceEqDiff, reduceIte, reduceCtorEq, Nat.reduceMul, Nat.reduceAdd, Nat.reduceSub, Int.reduceEq, Int.reduceLT, Int.reduceLE, Int.reduceNeg, Int.reduceAdd, Int.reduceSub, Int.reduceMul, Nat.reduceLeDiff, Int.reduceToNat, cell_h, can_h, cellO_cells, canO_cells, setO_cells, heap_set_h, heap_alloc_h, size_set_h, size_alloc_h, vcells_agg, succ_ne, ne_succ, List.setIfInBounds_toArray, List.set_cons_succ, List.set_cons_zero, setCells, drew_h, true_or, or_true, ht5])) | (refine tail_fin ?_) | (refine sch_fin ?_)))
          refine build_struct Tryd.zeroValue49 un30 pl30 (cs := #[.int .i64 6, .string ⟨#[]⟩, .string ⟨#[]⟩, .int .i64 0, .slice none 0 0, .bool false, .int .i64 0, .int .i64 0, .slice none 0 0, .int .i64 (-1), .int .i64 (-1)]) (by rfl) ?_
          (repeat (first | ((first | refine pas_plain rfl ?_ | refine pas_g rfl rfl ?_ | refine act_plain rfl ?_ | refine act_g rfl rfl ?_ | refine last_plain rfl ?_ | refine tail_plain rfl ?_ | refine tail_g rfl rfl ?_); (repeat simp only [push_cast, Nat.reduceBEq, Nat.reduceLT, Nat.reduceEqDiff, reduceIte, reduceCtorEq, Nat.reduceMul, Nat.reduceAdd, Nat.reduceSub, Int.reduceEq, Int.reduceLT, Int.reduceLE, Int.reduceNeg, Int.reduceAdd, Int.reduceSub, Int.reduceMul, Nat.reduceLeDiff, Int.reduceToNat, cell_h, can_h, cellO_cells, canO_cells, setO_cells, heap_set_h, heap_alloc_h, size_set_h, size_alloc_h, vcells_agg, succ_ne, ne_succ, List.setIfInBounds_toArray, List.set_cons_succ, List.set_cons_zero, setCells, drew_h, true_or, or_true, ht5])) | (refine tail_fin ?_) | (refine sch_fin ?_)))
          refine (rmade_c (m := ⟨{ zN with kind := 6, frm := -1, to := -1 }, .slice none 0 0, .slice none 0 0, none, none⟩) (SlAt.nil _ _).rd (by decide)).mono ?_
          rintro v w6 ⟨m6, rfl, k1, k2, k3, k4, k5, k6⟩
          refine ⟨kept_upd k3 fun b hb => ⟨by simp only [drew_size]; omega, id⟩, ?_⟩
          (repeat (first | ((first | refine pas_plain rfl ?_ | refine pas_g rfl rfl ?_ | refine act_plain rfl ?_ | refine act_g rfl rfl ?_ | refine last_plain rfl ?_ | refine tail_plain rfl ?_ | refine tail_g rfl rfl ?_); (repeat simp only [push_cast, Nat.reduceBEq, Nat.reduceLT, Nat.reduceEqDiff, reduceIte, reduceCtorEq, Nat.reduceMul, Nat.reduceAdd, Nat.reduceSub, Int.reduceEq, Int.reduceLT, Int.reduceLE, Int.reduceNeg, Int.reduceAdd, Int.reduceSub, Int.reduceMul, Nat.reduceLeDiff, Int.reduceToNat, cell_h, can_h, cellO_cells, canO_cells, setO_cells, heap_set_h, heap_alloc_h, size_set_h, size_alloc_h, vcells_agg, succ_ne, ne_succ, List.setIfInBounds_toArray, List.set_cons_succ, List.set_cons_zero, setCells, drew_h, true_or, or_true, ht5])) | (refine tail_fin ?_) | (refine sch_fin ?_)))
          refine bs_one sty39 (by decide) (by decide) (v := m6.val) rfl ?_
          have hsz6 := k3.alike.size
          simp only [drew_size] at hsz6
          refine ⟨kept_upd (Ext.alloc _ _) fun b hb => ⟨by have : b = pa := hb; subst this; omega, id⟩, ?_⟩
          (repeat (first | ((first | refine pas_plain rfl ?_ | refine pas_g rfl rfl ?_ | refine act_plain rfl ?_ | refine act_g rfl rfl ?_ | refine last_plain rfl ?_ | refine tail_plain rfl ?_ | refine tail_g rfl rfl ?_); (repeat simp only [push_cast, Nat.reduceBEq, Nat.reduceLT, Nat.reduceEqDiff, reduceIte, reduceCtorEq, Nat.reduceMul, Nat.reduceAdd, Nat.reduceSub, Int.reduceEq, Int.reduceLT, Int.reduceLE, Int.reduceNeg, Int.reduceAdd, Int.reduceSub, Int.reduceMul, Nat.reduceLeDiff, Int.reduceToNat, cell_h, can_h, cellO_cells, canO_cells, setO_cells, heap_set_h, heap_alloc_h, size_set_h, size_alloc_h, vcells_agg, succ_ne, ne_succ, List.setIfInBounds_toArray, List.set_cons_succ, List.set_cons_zero, setCells, drew_h, true_or, or_true, ht5])) | (refine tail_fin ?_) | (refine sch_fin ?_)))
          have hx6 : Ext w5 (w6.alloc (.cells m6.val.cells 49)) := (Ext.drew _).trans (k3.trans (Ext.alloc _ _))
          have hok6 : m6.ok (w6.alloc (.cells m6.val.cells 49)) := k2.upd (Ext.alloc _ _) fun _ _ h => h.elim
          rw [← hl5]
          refine hA5.app sty39 hx6 hok6 (SlAt.new w6 11 m6.val.cells 49 1 rfl) (by omega) ?_
          intro bn7 cap7 w7 q1 q2 q3
          have hnp5 : ¬ pa = bn' := by have := hA5.own; simp [blocks] at this; exact this.1.1
          refine ⟨kept_upd q2 fun b hb => ⟨?_, ?_⟩, ?_⟩
          · simp only [size_alloc_h]; omega
          · omega
          have hp7 : w7.heap[pa]? = some (.cells #[.slice (some ⟨bn', 0, none⟩) (M.length + 1) cap'] t5 (0, 0)) :=
            (q2.same pa (by simp only [size_alloc_h]; omega) hnp5).trans ((hx6.heap hpa5).trans ht5)
          (repeat (first | ((first | refine pas_plain rfl ?_ | refine pas_g rfl rfl ?_ | refine act_plain rfl ?_ | refine act_g rfl rfl ?_ | refine last_plain rfl ?_ | refine tail_plain rfl ?_ | refine tail_g rfl rfl ?_); (repeat simp only [push_cast, Nat.reduceBEq, Nat.reduceLT, Nat.reduceEqDiff, reduceIte, reduceCtorEq, Nat.reduceMul, Nat.reduceAdd, Nat.reduceSub, Int.reduceEq, Int.reduceLT, Int.reduceLE, Int.reduceNeg, Int.reduceAdd, Int.reduceSub, Int.reduceMul, Nat.reduceLeDiff, Int.reduceToNat, cell_h, can_h, cellO_cells, canO_cells, setO_cells, heap_set_h, heap_alloc_h, size_set_h, size_alloc_h, vcells_agg, succ_ne, ne_succ, List.setIfInBounds_toArray, List.set_cons_succ, List.set_cons_zero, setCells, drew_h, true_or, or_true, hp7])) | (refine tail_fin ?_) | (refine sch_fin ?_)))
          have hA8 := hA5.push hx6 m6 hok6 (fun b hb => by have := k4 b hb; simpa only [drew_size] using this) k5 q1 q2 q3
          have hu8 : Upd F w (w7.setCell ⟨pa, 0, none⟩ (.slice (some ⟨bn7, 0, none⟩) (M5.length + 1) cap7)) :=
            (Upd.trans (Upd.trans hu5 hx6 fun _ _ h => h.elim) q2 fun i hi e => by subst e; exact hFn hi).put (hMF _ (by simp [blocks]))
          generalize w7.setCell ⟨pa, 0, none⟩ (.slice (some ⟨bn7, 0, none⟩) (M5.length + 1) cap7) = w8 at *
          have e : addN L m.nd = (L ++ [{ bareN m.nd with content := (L.length : Int) + 1 }, contN], (L.length : Int)) := by simp [addN, kidK, c1, c2, tmpl, c3]
          ((repeat simp only [push_cast, Nat.reduceBEq, Nat.reduceLT, Nat.reduceEqDiff, reduceIte, reduceCtorEq, Nat.reduceMul, Nat.reduceAdd, Nat.reduceSub, Int.reduceEq, Int.reduceLT, Int.reduceLE, Int.reduceNeg, Int.reduceAdd, Int.reduceSub, Int.reduceMul, Nat.reduceLeDiff, Int.reduceToNat]); (repeat (first | (with_reducible first | (refine hK _ _ ?_; clear hK K) | refine (show ∀ σ' w', _ → K σ' w' from by assumption) _ _ ?_ | refine W_seq_k fun K hK => ?_ | refine W_block_k fun K hK => ?_ | refine W_skip ?_ | refine W_ret ?_) | ((first | ((with_reducible refine W_id ?_); refine W_reg (by decide) (by rfl) ?_) | (with_reducible first | refine W_cond ?_ | refine hZ _ _ ?_ | refine W_exit ?_ | refine Wo_id ?_)); repeat1' simp only [push_cast, Nat.reduceBEq, Nat.reduceLT, Nat.reduceEqDiff, reduceIte, reduceCtorEq, Nat.reduceMul, Nat.reduceAdd, Nat.reduceSub, Int.reduceEq, Int.reduceLT, Int.reduceLE, Int.reduceNeg, Int.reduceAdd, Int.reduceSub, Int.reduceMul, Nat.reduceLeDiff, Int.reduceToNat]) | ((repeat ((fail_if_success with_reducible refine hK _ _ ?_); clear hK K)); (with_reducible refine hK _ _ ?_); clear hK K))))
          rw [e]
          refine ⟨by rw [hmlen], ⟨bn7, cap7, M5 ++ [m6], hA8, by simp [hn5, k1, contN, bareN, zN], fun b hb => ?_⟩, hu8⟩
          simp only [blocks, List.flatMap_append, List.flatMap_cons, List.flatMap_nil, List.append_nil, List.mem_cons, List.mem_append, hb5] at hb
          rcases hb with hb | hb | (hb | hb) | hb
          · rw [hb]; exact .inl (hMF _ (by simp [blocks]))
          · rw [hb]
            rcases q3 with q3 | q3
            · rw [q3]
              rcases Nat.lt_or_ge bn' w.heap.size with hl | hl
              · exact .inl (hFn hl)
              · exact .inr hl
            · simp only [size_alloc_h] at q3; exact .inr (by omega)
          · exact .inl (hMF _ (by simp only [blocks, List.mem_cons]; exact .inr (.inr hb)))
          · have := h4 b hb
            simp only [drew_size, size_alloc_h] at this; exact .inr (by omega)
          · have := k4 b hb
            simp only [drew_size] at this; exact .inr (by omega)
        · have e : addN L m.nd = (L ++ [bareN m.nd], (L.length : Int)) := by simp [addN, kidK, c1, c2]
          ((repeat simp only [push_cast, Nat.reduceBEq, Nat.reduceLT, Nat.reduceEqDiff, reduceIte, reduceCtorEq, Nat.reduceMul, Nat.reduceAdd, Nat.reduceSub, Int.reduceEq, Int.reduceLT, Int.reduceLE, Int.reduceNeg, Int.reduceAdd, Int.reduceSub, Int.reduceMul, Nat.reduceLeDiff, Int.reduceToNat, cell_h, can_h, cellO_cells, canO_cells, setO_cells, heap_set_h, heap_alloc_h, size_set_h, size_alloc_h, vcells_agg, succ_ne, ne_succ, List.setIfInBounds_toArray, List.set_cons_succ, List.set_cons_zero, setCells, drew_h, hb4, c1, c2, c3]); (repeat (first | (with_reducible first | (refine hK _ _ ?_; clear hK K) | refine (show ∀ σ' w', _ → K σ' w' from by assumption) _ _ ?_ | refine W_seq_k fun K hK => ?_ | refine W_block_k fun K hK => ?_ | refine W_skip ?_ | refine W_ret ?_) | ((first | ((with_reducible refine W_id ?_); refine W_reg (by decide) (by rfl) ?_) | (with_reducible first | refine W_cond ?_ | refine hZ _ _ ?_ | refine W_exit ?_ | refine Wo_id ?_)); repeat1' simp only [push_cast, Nat.reduceBEq, Nat.reduceLT, Nat.reduceEqDiff, reduceIte, reduceCtorEq, Nat.reduceMul, Nat.reduceAdd, Nat.reduceSub, Int.reduceEq, Int.reduceLT, Int.reduceLE, Int.reduceNeg, Int.reduceAdd, Int.reduceSub, Int.reduceMul, Nat.reduceLeDiff, Int.reduceToNat, cell_h, can_h, cellO_cells, canO_cells, setO_cells, heap_set_h, heap_alloc_h, size_set_h, size_alloc_h, vcells_agg, succ_ne, ne_succ, List.setIfInBounds_toArray, List.set_cons_succ, List.set_cons_zero, setCells, drew_h, hb4, c1, c2, c3]) | ((repeat ((fail_if_success with_reducible refine hK _ _ ?_); clear hK K)); (with_reducible refine hK _ _ ?_); clear hK K))))
          exact ⟨by rw [e, hmlen], hres e⟩
      · have e : addN L m.nd = (L ++ [bareN m.nd], (L.length : Int)) := by simp [addN, kidK, c1, tmpl, c3]
        ((repeat simp only [push_cast, Nat.reduceBEq, Nat.reduceLT, Nat.reduceEqDiff, reduceIte, reduceCtorEq, Nat.reduceMul, Nat.reduceAdd, Nat.reduceSub, Int.reduceEq, Int.reduceLT, Int.reduceLE, Int.reduceNeg, Int.reduceAdd, Int.reduceSub, Int.reduceMul, Nat.reduceLeDiff, Int.reduceToNat, cell_h, can_h, cellO_cells, canO_cells, setO_cells, heap_set_h, heap_alloc_h, size_set_h, size_alloc_h, vcells_agg, succ_ne, ne_succ, List.setIfInBounds_toArray, List.set_cons_succ, List.set_cons_zero, setCells, drew_h, hb4, c1, c3]); (repeat (first | (with_reducible first | (refine hK _ _ ?_; clear hK K) | refine (show ∀ σ' w', _ → K σ' w' from by assumption) _ _ ?_ | refine W_seq_k fun K hK => ?_ | refine W_block_k fun K hK => ?_ | refine W_skip ?_ | refine W_ret ?_) | ((first | ((with_reducible refine W_id ?_); refine W_reg (by decide) (by rfl) ?_) | (with_reducible first | refine W_cond ?_ | refine hZ _ _ ?_ | refine W_exit ?_ | refine Wo_id ?_)); repeat1' simp only [push_cast, Nat.reduceBEq, Nat.reduceLT, Nat.reduceEqDiff, reduceIte, reduceCtorEq, Nat.reduceMul, Nat.reduceAdd, Nat.reduceSub, Int.reduceEq, Int.reduceLT, Int.reduceLE, Int.reduceNeg, Int.reduceAdd, Int.reduceSub, Int.reduceMul, Nat.reduceLeDiff, Int.reduceToNat, cell_h, can_h, cellO_cells, canO_cells, setO_cells, heap_set_h, heap_alloc_h, size_set_h, size_alloc_h, vcells_agg, succ_ne, ne_succ, List.setIfInBounds_toArray, List.set_cons_succ, List.set_cons_zero, setCells, drew_h, hb4, c1, c3]) | ((repeat ((fail_if_success with_reducible refine hK _ _ ?_); clear hK K)); (with_reducible refine hK _ _ ?_); clear hK K))))
        exact ⟨by rw [e, hmlen], hres e⟩
    · have e : addN L m.nd = (L ++ [bareN m.nd], (L.length : Int)) := by simp only [addN, hk, c1]; simp
      ((repeat simp only [push_cast, Nat.reduceBEq, Nat.reduceLT, Nat.reduceEqDiff, reduceIte, reduceCtorEq, Nat.reduceMul, Nat.reduceAdd, Nat.reduceSub, Int.reduceEq, Int.reduceLT, Int.reduceLE, Int.reduceNeg, Int.reduceAdd, Int.reduceSub, Int.reduceMul, Nat.reduceLeDiff, Int.reduceToNat, cell_h, can_h, cellO_cells, canO_cells, setO_cells, heap_set_h, heap_alloc_h, size_set_h, size_alloc_h, vcells_agg, succ_ne, ne_succ, List.setIfInBounds_toArray, List.set_cons_succ, List.set_cons_zero, setCells, drew_h, hb4, c1]); (repeat (first | (with_reducible first | (refine hK _ _ ?_; clear hK K) | refine (show ∀ σ' w', _ → K σ' w' from by assumption) _ _ ?_ | refine W_seq_k fun K hK => ?_ | refine W_block_k fun K hK => ?_ | refine W_skip ?_ | refine W_ret ?_) | ((first | ((with_reducible refine W_id ?_); refine W_reg (by decide) (by rfl) ?_) | (with_reducible first | refine W_cond ?_ | refine hZ _ _ ?_ | refine W_exit ?_ | refine Wo_id ?_)); repeat1' simp only [push_cast, Nat.reduceBEq, Nat.reduceLT, Nat.reduceEqDiff, reduceIte, reduceCtorEq, Nat.reduceMul, Nat.reduceAdd, Nat.reduceSub, Int.reduceEq, Int.reduceLT, Int.reduceLE, Int.reduceNeg, Int.reduceAdd, Int.reduceSub, Int.reduceMul, Nat.reduceLeDiff, Int.reduceToNat, cell_h, can_h, cellO_cells, canO_cells, setO_cells, heap_set_h, heap_alloc_h, size_set_h, size_alloc_h, vcells_agg, succ_ne, ne_succ, List.setIfInBounds_toArray, List.set_cons_succ, List.set_cons_zero, setCells, drew_h, hb4, c1]) | ((repeat ((fail_if_success with_reducible refine hK _ _ ?_); clear hK K)); (with_reducible refine hK _ _ ?_); clear hK K))))
      exact ⟨by rw [e, hmlen], hres e⟩
  · replace hk : kidK m.nd.kind = false := by simpa using hk
    have e : addN L m.nd = (L, -1) := by simp [addN, hk]
    rw [e]
    refine Gives.of_W Tryd.call55 Tryd.func55 rfl Tryd.ntmps55 (by simp) ?_; intro Z hZ
    (repeat (first | (with_reducible first | (refine hK _ _ ?_; clear hK K) | refine (show ∀ σ' w', _ → K σ' w' from by assumption) _ _ ?_ | refine W_seq_k fun K hK => ?_ | refine W_block_k fun K hK => ?_ | refine W_skip ?_ | refine W_ret ?_) | ((first | ((with_reducible refine W_id ?_); refine W_reg (by decide) (by rfl) ?_) | (with_reducible first | refine W_cond ?_ | refine hZ _ _ ?_ | refine W_exit ?_ | refine Wo_id ?_)); repeat1' simp only [push_cast, Nat.reduceBEq, Nat.reduceLT, Nat.reduceEqDiff, reduceIte, reduceCtorEq, Nat.reduceMul, Nat.reduceAdd, Nat.reduceSub, Int.reduceEq, Int.reduceLT, Int.reduceLE, Int.reduceNeg, Int.reduceAdd, Int.reduceSub, Int.reduceMul, Nat.reduceLeDiff, Int.reduceToNat, cell_h, can_h, cellO_cells, canO_cells, setO_cells, heap_set_h, heap_alloc_h, size_set_h, size_alloc_h, vcells_agg, succ_ne, ne_succ, List.setIfInBounds_toArray, List.set_cons_succ, List.set_cons_zero, setCells, drew_h]) | ((repeat ((fail_if_success with_reducible refine hK _ _ ?_); clear hK K)); (with_reducible refine hK _ _ ?_); clear hK K)))
    refine (rkid_c _).mono ?_
    rintro v w' ⟨rfl, rfl⟩
    ((repeat simp only [push_cast, Nat.reduceBEq, Nat.reduceLT, Nat.reduceEqDiff, reduceIte, reduceCtorEq, Nat.reduceMul, Nat.reduceAdd, Nat.reduceSub, Int.reduceEq, Int.reduceLT, Int.reduceLE, Int.reduceNeg, Int.reduceAdd, Int.reduceSub, Int.reduceMul, Nat.reduceLeDiff, Int.reduceToNat, cell_h, can_h, cellO_cells, canO_cells, setO_cells, heap_set_h, heap_alloc_h, size_set_h, size_alloc_h, vcells_agg, succ_ne, ne_succ, List.setIfInBounds_toArray, List.set_cons_succ, List.set_cons_zero, setCells, drew_h, hk]); (repeat (first | (with_reducible first | (refine hK _ _ ?_; clear hK K) | refine (show ∀ σ' w', _ → K σ' w' from by assumption) _ _ ?_ | refine W_seq_k fun K hK => ?_ | refine W_block_k fun K hK => ?_ | refine W_skip ?_ | refine W_ret ?_) | ((first | ((with_reducible refine W_id ?_); refine W_reg (by decide) (by rfl) ?_) | (with_reducible first | refine W_cond ?_ | refine hZ _ _ ?_ | refine W_exit ?_ | refine Wo_id ?_)); repeat1' simp only [push_cast, Nat.reduceBEq, Nat.reduceLT, Nat.reduceEqDiff, reduceIte, reduceCtorEq, Nat.reduceMul, Nat.reduceAdd, Nat.reduceSub, Int.reduceEq, Int.reduceLT, Int.reduceLE, Int.reduceNeg, Int.reduceAdd, Int.reduceSub, Int.reduceMul, Nat.reduceLeDiff, Int.reduceToNat, cell_h, can_h, cellO_cells, canO_cells, setO_cells, heap_set_h, heap_alloc_h, size_set_h, size_alloc_h, vcells_agg, succ_ne, ne_succ, List.setIfInBounds_toArray, List.set_cons_succ, List.set_cons_zero, setCells, drew_h, hk]) | ((repeat ((fail_if_success with_reducible refine hK _ _ ?_); clear hK K)); (with_reducible refine hK _ _ ?_); clear hK K))))
    exact ⟨(h.ext (Ext.alloc _ _)).mono fun b _ hb => .inl hb, (Ext.alloc _ _).upd⟩
end Go.Proofs.YtkafpameheohdaaDoor
end
section
set_option linter.unusedSimpArgs false
set_option linter.unusedVariables false
namespace Go.Vk
open Go
def Half (w0 w : World) (P : Nat → Prop) (pa pb : Nat) (L1 L2 : List Nd) : Prop := ∃ F : Nat → Prop, At w0 w (fun b => F b ∨ P b) pa L1 ∧ Ar w pb L2 F ∧ (∀ b, F b → w0.heap.size ≤ b) ∧ ∀ b, P b → ¬ F b
/-- blocks of ours, but for some -/
def Ours (w0 : World) (P : Nat → Prop) (b : Nat) : Prop := w0.heap.size ≤ b ∧ ¬ P b
theorem Half.pass {w0 w w' : World} {P Q : Nat → Prop} {pa pb : Nat} {L1 L2 : List Nd} (h : Half w0 w P pa pb L1 L2) (hx : Ext w w') (hQ : ∀ b, Q b → P b ∨ (w.heap.size ≤ b ∧ b < w'.heap.size)) : Half w0 w' Q pa pb L1 L2 := by
  obtain ⟨F, h1, h2, h3, h4⟩ := h
  have hlt : ∀ b, F b ∧ b < w.heap.size → F b := fun b hb => hb.1
  refine ⟨fun b => F b ∧ b < w.heap.size, h1.guard hx fun b hb => ?_, (h2.mono fun b hb hf => ⟨hf, hb⟩).ext hx, fun b hb => h3 b hb.1, fun b hb hf => ?_⟩
  · rcases hb with hb | hb
    · exact .inl (.inl hb.1)
    · rcases hQ b hb with h | h
      · exact .inl (.inr h)
      · exact .inr h
  · rcases hQ b hb with h | h
    · exact h4 b h hf.1
    · have := hf.2; omega
end Go.Vk
namespace Go.Proofs.YtkafpameheohdaaDoor
open Go.Vk
set_option maxHeartbeats 40000000
section
variable {w0 w : World} {P : Nat → Prop} {pa pb : Nat} {L : List Nd}
theorem two_a (h : Half w0 w P pa pb L L) (hb : L.length < 100000) {m : Laid} (hm : RdAt w 2 m.av (attrCells m.nd.attrs)) (hmb : m.nd.attrs.length < 1000000) :
    Gives Tryd.prog 25 #[.pointer (some ⟨pa, 0, none⟩), m.val] w fun v w' => v = .int .i64 (addN L m.nd).2 ∧ Half w0 w' P pa pb (addN L m.nd).1 L ∧ Upd (Ours w0 P) w w' := by
  obtain ⟨F, h1, h2, h3, h4⟩ := h
  refine (add_a h1 hb hm hmb).mono ?_
  rintro v w' ⟨g1, g2, g3⟩
  exact ⟨g1, ⟨F, g2, h2.frame g3 fun b hb hf => hf.2 (.inl hb), h3, h4⟩, g3.mono fun b _ hf => ⟨hf.1, fun hp => hf.2 (.inr hp)⟩⟩
theorem two_b {L' : List Nd} (h : Half w0 w P pa pb L' L) (hb : L.length < 100000) {m : Laid} (hL : L' = (addN L m.nd).1) (hP : ∀ b, P b → b < w.heap.size) (hm : RdAt w 2 m.av (attrCells m.nd.attrs)) (hmb : m.nd.attrs.length < 1000000) :
    Gives Tryd.prog 55 #[.pointer (some ⟨pb, 0, none⟩), m.val] w fun v w' => v = .int .i64 (addN L m.nd).2 ∧ Half w0 w' P pa pb L' L' ∧ Upd (Ours w0 P) w w' := by
  obtain ⟨F, h1, h2, h3, h4⟩ := h
  have h0 := h1.ext.alike.size
  refine (rad_c h2 (by omega) hm hmb).mono ?_
  rintro v w' ⟨g1, g2, g3⟩
  refine ⟨g1, ⟨fun b => F b ∨ (w.heap.size ≤ b ∧ b < w'.heap.size), ?_, ?_, ?_, ?_⟩, g3.mono fun b _ hf => ⟨h3 b hf, fun hp => h4 b hp hf⟩⟩
  · refine h1.app g3 (fun b _ hf => ⟨.inl hf, h3 b hf⟩) fun b hb => ?_
    rcases hb with (hb | hb) | hb
    · exact .inl (.inl hb)
    · exact .inr hb
    · exact .inl (.inr hb)
  · rw [hL]
    exact g2.mono fun b hb hf => hf.imp id fun h => ⟨h, hb⟩
  · rintro b (hb | hb)
    · exact h3 b hb
    · omega
  · rintro b hp (hb | hb)
    · exact h4 b hp hb
    · have := hP b hp; omega
end
end Go.Proofs.YtkafpameheohdaaDoor
end
section
set_option linter.unusedSimpArgs false
set_option linter.unusedVariables false
namespace Go.Vk
open Go
/-- an element of a kit -/
def kitN (l2 : List Nat) (i c : Nat) : Nd := { zN with kind := 3, name := nmT c, space := if i < l2.length ∧ 1 < l2.getD i 0 % 4 then ((l2.getD i 0 % 4 : Nat) : Int) - 1 else 0 }
def kitLd (l2 : List Nat) (i c : Nat) : Laid := ⟨kitN l2 i c, .slice none 0 0, .slice none 0 0, none, none⟩
def tN : Nd := { zN with kind := 4, text := ⟨#[116]⟩ }
def cN : Nd := { zN with kind := 5, text := ⟨#[99]⟩ }
def kitK (l2 : List Nat) : List Nat → Nat → List Nd → List Nd
  | [], _, L => L
  | c :: r, i, L => kitK l2 r (i + 1) (addN L (kitN l2 i c)).1
def kit0 : List Nd := [docN, bareN tN, bareN cN]
def kitL (l1 l2 : List Nat) : List Nd := kitK l2 l1 0 kit0
theorem kitK_snoc (l2 : List Nat) (x : Nat) : ∀ (r : List Nat) (i : Nat) (L : List Nd), kitK l2 (r ++ [x]) i L = (addN (kitK l2 r i L) (kitN l2 (i + r.length) x)).1
  | [], i, L => rfl
  | c :: r, i, L => by
    rw [List.cons_append, kitK, kitK_snoc l2 x r]
    simp only [kitK, List.length_cons]
    rw [show i + 1 + r.length = i + (r.length + 1) by omega]
theorem kitL_take {l1 l2 : List Nat} {k c : Nat} (h : l1[k]? = some c) : kitL (l1.take (k + 1)) l2 = (addN (kitL (l1.take k) l2) (kitN l2 k c)).1 := by
  have hk := (List.getElem?_eq_some_iff.1 h).1
  unfold kitL
  rw [List.take_add_one, h, Option.toList_some, kitK_snoc, List.length_take, Nat.zero_add, Nat.min_eq_left (by omega)]
theorem addN_len (L : List Nd) (n : Nd) : (addN L n).1.length ≤ L.length + 2 := by
  unfold addN
  split
  · split <;> simp
  · simp
theorem kitK_len (l2 : List Nat) : ∀ (r : List Nat) (i : Nat) (L : List Nd), (kitK l2 r i L).length ≤ L.length + 2 * r.length
  | [], _, L => by simp [kitK]
  | c :: r, i, L => by
    have h1 := kitK_len l2 r (i + 1) (addN L (kitN l2 i c)).1
    have h2 := addN_len L (kitN l2 i c)
    rw [kitK, List.length_cons]; omega
theorem kitL_len (l1 l2 : List Nat) : (kitL l1 l2).length ≤ 3 + 2 * l1.length := kitK_len l2 l1 0 kit0
end Go.Vk
end
section
set_option linter.unusedSimpArgs false
set_option linter.unusedVariables false
namespace Go.Vk
open Go
theorem build_arrW {P : Program} {t e n es : Nat} {z : Value} (hz : ∀ w, (zeroValue t).run P w = .ok z w) (hu : P.underlying t = some (.array n e)) (hs : ∀ w, (sizeOf e).run P w = .ok es w)
    {parts : List (Nat × Value)} {cs : Array Value} (hf : Instr.fill (fun i => some (i * es, es)) z.cells parts = some cs) {w : World} {K : Value → World → Prop} (h : K (.agg cs) w) : Pure1 P (Instr.build t parts.toArray) w K := by
  refine ⟨_, fun w => ?_, h⟩
  simp only [Instr.build, Sem.run_bind, hz w, Result.andThen, run_underlying hu w, hs w, hf]
  rfl
theorem At.base {w0 w1 w : World} {P P' : Nat → Prop} {pa : Nat} {L : List Nd} (h : At w1 w P pa L) (hx : Ext w0 w1) (hP : ∀ b, P' b → P b ∨ b < w1.heap.size) : At w0 w P' pa L :=
  ⟨h.ar.mono fun b _ hf => ⟨Nat.le_trans hx.alike.size hf.1, fun hp => by
    rcases hP b hp with h | h
    · exact hf.2 h
    · have := hf.1; omega⟩, h.gd, hx.trans h.ext, fun b hp => by
    rcases hP b hp with h' | h'
    · exact h.low b h'
    · have := h.ext.alike.size; omega⟩
def kitM (k : Nat) : Laid := ⟨if k = 0 then tN else cN, .slice none 0 0, .slice none 0 0, none, none⟩
theorem kit0_add {k : Nat} (hk : k < 2) : addN (kit0.take (k + 1)) (kitM k).nd = (kit0.take (k + 2), (k : Int) + 1) := by
  obtain rfl | rfl : k = 0 ∨ k = 1 := by omega
  all_goals rfl
end Go.Vk
namespace Go.Proofs.YtkafpameheohdaaDoor
open Go Go.Vk
set_option maxHeartbeats 40000000
theorem made15_c {w : World} {v1 v2 : Value} {l1 l2 : List Nat} (h1 : RdAt w 1 v1 (u8Cells l1)) (h2 : RdAt w 1 v2 (u8Cells l2)) (hl1 : l1.length < 1000) (b1 : ∀ c ∈ l1, c < 256) (b2 : ∀ c ∈ l2, c < 256) (hl2 : l2.length < 1000000) :
    Gives Tryd.prog 30 #[.agg #[v1, v2]] w fun v w' => ∃ pa pb, v = .tuple #[.pointer (some ⟨pa, 0, none⟩), .pointer (some ⟨pb, 0, none⟩)] ∧ Half w w' noP pa pb (kitL l1 l2) (kitL l1 l2) := by
  obtain ⟨a1, c1, rfl, hc1, hcell1⟩ := u8_len h1
  obtain ⟨a2, c2, rfl, hc2, hcell2⟩ := u8_len h2
  refine Gives.of_W Tryd.call30 Tryd.func30 rfl Tryd.ntmps30 (by simp) ?_; intro Z hZ
  (repeat (first | (with_reducible first | (refine hK _ _ ?_; clear hK K) | refine (show ∀ σ' w', _ → K σ' w' from by assumption) _ _ ?_ | refine W_seq_k fun K hK => ?_ | refine W_block_k fun K hK => ?_ | refine W_skip ?_ | refine W_ret ?_) | ((first | ((with_reducible refine W_id ?_); refine W_reg (by decide) (by rfl) ?_) | (with_reducible first | refine W_cond ?_ | refine hZ _ _ ?_ | refine W_exit ?_ | refine Wo_id ?_)); repeat1' simp only [push_cast, Nat.reduceBEq, Nat.reduceLT, Nat.reduceEqDiff, reduceIte, reduceCtorEq, Nat.reduceMul, Nat.reduceAdd, Nat.reduceSub, Int.reduceEq, Int.reduceLT, Int.reduceLE, Int.reduceNeg, Int.reduceAdd, Int.reduceSub, Int.reduceMul, Nat.reduceLeDiff, Int.reduceToNat, vcells_agg]) | ((repeat ((fail_if_success with_reducible refine hK _ _ ?_); clear hK K)); (with_reducible refine hK _ _ ?_); clear hK K)))
  have hx1 := Ext.alloc w (.cells #[.slice a1 l1.length c1, .slice a2 l2.length c2] 24)
  have z1 : (w.alloc (.cells #[.slice a1 l1.length c1, .slice a2 l2.length c2] 24)).heap[w.heap.size]? = some (.cells #[.slice a1 l1.length c1, .slice a2 l2.length c2] 24 (0, 0)) := by rw [heap_alloc_h, if_pos rfl]
  generalize w.alloc (.cells #[.slice a1 l1.length c1, .slice a2 l2.length c2] 24) = w1 at *
  obtain ⟨p1, hp1⟩ : ∃ p1, p1 = w.heap.size := ⟨_, rfl⟩
  rw [← hp1] at z1 ⊢
  refine new_a.mono ?_
  rintro v w2 ⟨pa, rfl, hA2⟩
  refine rnew_c.mono ?_
  rintro v w3 ⟨pb, rfl, hB3, hx3⟩
  ((repeat simp only [push_cast, Nat.reduceBEq, Nat.reduceLT, Nat.reduceEqDiff, reduceIte, reduceCtorEq, Nat.reduceMul, Nat.reduceAdd, Nat.reduceSub, Int.reduceEq, Int.reduceLT, Int.reduceLE, Int.reduceNeg, Int.reduceAdd, Int.reduceSub, Int.reduceMul, Nat.reduceLeDiff, Int.reduceToNat]); (repeat (first | (with_reducible first | (refine hK _ _ ?_; clear hK K) | refine (show ∀ σ' w', _ → K σ' w' from by assumption) _ _ ?_ | refine W_seq_k fun K hK => ?_ | refine W_block_k fun K hK => ?_ | refine W_skip ?_ | refine W_ret ?_) | ((first | ((with_reducible refine W_id ?_); refine W_reg (by decide) (by rfl) ?_) | (with_reducible first | refine W_cond ?_ | refine hZ _ _ ?_ | refine W_exit ?_ | refine Wo_id ?_)); repeat1' simp only [push_cast, Nat.reduceBEq, Nat.reduceLT, Nat.reduceEqDiff, reduceIte, reduceCtorEq, Nat.reduceMul, Nat.reduceAdd, Nat.reduceSub, Int.reduceEq, Int.reduceLT, Int.reduceLE, Int.reduceNeg, Int.reduceAdd, Int.reduceSub, Int.reduceMul, Nat.reduceLeDiff, Int.reduceToNat]) | ((repeat ((fail_if_success with_reducible refine hK _ _ ?_); clear hK K)); (with_reducible refine hK _ _ ?_); clear hK K))))
  refine build_struct Tryd.zeroValue49 un30 pl30 (cs := #[.int .i64 4, .string ⟨#[]⟩, .string ⟨#[116]⟩, .int .i64 0, .slice none 0 0, .bool false, .int .i64 0, .int .i64 0, .slice none 0 0, .int .i64 0, .int .i64 0]) (by rfl) ?_
  refine build_struct Tryd.zeroValue49 un30 pl30 (cs := #[.int .i64 5, .string ⟨#[]⟩, .string ⟨#[99]⟩, .int .i64 0, .slice none 0 0, .bool false, .int .i64 0, .int .i64 0, .slice none 0 0, .int .i64 0, .int .i64 0]) (by rfl) ?_
  refine build_arrW Tryd.zeroValue94 Tryd.underlying94 Tryd.sizeOf49 (cs := #[.int .i64 4, .string ⟨#[]⟩, .string ⟨#[116]⟩, .int .i64 0, .slice none 0 0, .bool false, .int .i64 0, .int .i64 0, .slice none 0 0, .int .i64 0, .int .i64 0, .int .i64 5, .string ⟨#[]⟩, .string ⟨#[99]⟩, .int .i64 0, .slice none 0 0, .bool false, .int .i64 0, .int .i64 0, .slice none 0 0, .int .i64 0, .int .i64 0]) (by rfl) ?_
  (repeat simp only [push_cast, Nat.reduceBEq, Nat.reduceLT, Nat.reduceEqDiff, reduceIte, reduceCtorEq, Nat.reduceMul, Nat.reduceAdd, Nat.reduceSub, Int.reduceEq, Int.reduceLT, Int.reduceLE, Int.reduceNeg, Int.reduceAdd, Int.reduceSub, Int.reduceMul, Nat.reduceLeDiff, Int.reduceToNat, RunV_zero Tryd.zeroValue94])
  simp only [vcells_agg, can_h, heap_alloc_h, if_true, canO_cells, List.size_toArray, List.length_cons, List.length_nil, Nat.zero_add, Nat.reduceAdd, Nat.reduceLT, true_and]
  have z6 : (w3.alloc (.cells #[.int .i64 0, .string ⟨#[]⟩, .string ⟨#[]⟩, .int .i64 0, .slice none 0 0, .bool false, .int .i64 0, .int .i64 0, .slice none 0 0, .int .i64 0, .int .i64 0, .int .i64 0, .string ⟨#[]⟩, .string ⟨#[]⟩, .int .i64 0, .slice none 0 0, .bool false, .int .i64 0, .int .i64 0, .slice none 0 0, .int .i64 0, .int .i64 0] 94)).heap[w3.heap.size]? = some (.cells #[.int .i64 0, .string ⟨#[]⟩, .string ⟨#[]⟩, .int .i64 0, .slice none 0 0, .bool false, .int .i64 0, .int .i64 0, .slice none 0 0, .int .i64 0, .int .i64 0, .int .i64 0, .string ⟨#[]⟩, .string ⟨#[]⟩, .int .i64 0, .slice none 0 0, .bool false, .int .i64 0, .int .i64 0, .slice none 0 0, .int .i64 0, .int .i64 0] 94 (0, 0)) := by rw [heap_alloc_h, if_pos rfl]
  have hp6 := setCells_all z6 (l := [.int .i64 4, .string ⟨#[]⟩, .string ⟨#[116]⟩, .int .i64 0, .slice none 0 0, .bool false, .int .i64 0, .int .i64 0, .slice none 0 0, .int .i64 0, .int .i64 0, .int .i64 5, .string ⟨#[]⟩, .string ⟨#[99]⟩, .int .i64 0, .slice none 0 0, .bool false, .int .i64 0, .int .i64 0, .slice none 0 0, .int .i64 0, .int .i64 0]) rfl
  have hx6 : Ext w3 (setCells (w3.alloc (.cells #[.int .i64 0, .string ⟨#[]⟩, .string ⟨#[]⟩, .int .i64 0, .slice none 0 0, .bool false, .int .i64 0, .int .i64 0, .slice none 0 0, .int .i64 0, .int .i64 0, .int .i64 0, .string ⟨#[]⟩, .string ⟨#[]⟩, .int .i64 0, .slice none 0 0, .bool false, .int .i64 0, .int .i64 0, .slice none 0 0, .int .i64 0, .int .i64 0] 94)) ⟨w3.heap.size, 0, none⟩ [.int .i64 4, .string ⟨#[]⟩, .string ⟨#[116]⟩, .int .i64 0, .slice none 0 0, .bool false, .int .i64 0, .int .i64 0, .slice none 0 0, .int .i64 0, .int .i64 0, .int .i64 5, .string ⟨#[]⟩, .string ⟨#[99]⟩, .int .i64 0, .slice none 0 0, .bool false, .int .i64 0, .int .i64 0, .slice none 0 0, .int .i64 0, .int .i64 0] 0) := Upd.trans (Ext.alloc w3 _) (Upd.setCells (F := fun b => b = w3.heap.size) (a := ⟨w3.heap.size, 0, none⟩) _ rfl _ 0) fun i hi e => by omega
  generalize setCells (w3.alloc (.cells #[.int .i64 0, .string ⟨#[]⟩, .string ⟨#[]⟩, .int .i64 0, .slice none 0 0, .bool false, .int .i64 0, .int .i64 0, .slice none 0 0, .int .i64 0, .int .i64 0, .int .i64 0, .string ⟨#[]⟩, .string ⟨#[]⟩, .int .i64 0, .slice none 0 0, .bool false, .int .i64 0, .int .i64 0, .slice none 0 0, .int .i64 0, .int .i64 0] 94)) ⟨w3.heap.size, 0, none⟩ [.int .i64 4, .string ⟨#[]⟩, .string ⟨#[116]⟩, .int .i64 0, .slice none 0 0, .bool false, .int .i64 0, .int .i64 0, .slice none 0 0, .int .i64 0, .int .i64 0, .int .i64 5, .string ⟨#[]⟩, .string ⟨#[99]⟩, .int .i64 0, .slice none 0 0, .bool false, .int .i64 0, .int .i64 0, .slice none 0 0, .int .i64 0, .int .i64 0] 0 = w6 at *
  have hs1 := blk_lt z1
  have hs2 := hA2.ext.alike.size
  have hs3 := hx3.alike.size
  have hs6 := hx6.alike.size
  have z12 := hA2.ext.blk z1
  obtain ⟨p6, hp6e⟩ : ∃ p6, p6 = w3.heap.size := ⟨_, rfl⟩
  have hlt6 := blk_lt hp6
  rw [← hp6e] at hp6 hlt6 ⊢
  have z16 := hx6.blk (hx3.blk z12)
  have hH : Half w w6 (fun b => b = p1 ∨ b = p6) pa pb (kit0.take 1) (kit0.take 1) := by
    refine ⟨fun b => w2.heap.size ≤ b ∧ b < w3.heap.size, (hA2.base (P' := fun b => b = p1) hx1 fun b hb => .inr (by omega)).guard (hx3.trans hx6) fun b hb => ?_, (hB3.mono fun b hb hw => ⟨hw, hb⟩).ext hx6, fun b hb => ?_, fun b hb hf => ?_⟩
    · rcases hb with hb | hb | hb
      · exact .inr ⟨hb.1, by omega⟩
      · exact .inl hb
      · exact .inr ⟨by omega, by omega⟩
    · have := hx1.alike.size; omega
    · rcases hb with hb | hb <;> omega
  ((repeat simp only [push_cast, Nat.reduceBEq, Nat.reduceLT, Nat.reduceEqDiff, reduceIte, reduceCtorEq, Nat.reduceMul, Nat.reduceAdd, Nat.reduceSub, Int.reduceEq, Int.reduceLT, Int.reduceLE, Int.reduceNeg, Int.reduceAdd, Int.reduceSub, Int.reduceMul, Nat.reduceLeDiff, Int.reduceToNat]); (repeat (first | (with_reducible first | (refine hK _ _ ?_; clear hK K) | refine (show ∀ σ' w', _ → K σ' w' from by assumption) _ _ ?_ | refine W_seq_k fun K hK => ?_ | refine W_block_k fun K hK => ?_ | refine W_skip ?_ | refine W_ret ?_) | ((first | ((with_reducible refine W_id ?_); refine W_reg (by decide) (by rfl) ?_) | (with_reducible first | refine W_cond ?_ | refine hZ _ _ ?_ | refine W_exit ?_ | refine Wo_id ?_)); repeat1' simp only [push_cast, Nat.reduceBEq, Nat.reduceLT, Nat.reduceEqDiff, reduceIte, reduceCtorEq, Nat.reduceMul, Nat.reduceAdd, Nat.reduceSub, Int.reduceEq, Int.reduceLT, Int.reduceLE, Int.reduceNeg, Int.reduceAdd, Int.reduceSub, Int.reduceMul, Nat.reduceLeDiff, Int.reduceToNat]) | ((repeat ((fail_if_success with_reducible refine hK _ _ ?_); clear hK K)); (with_reducible refine hK _ _ ?_); clear hK K))))
  refine W_loop (S := Nat) (fun k => [(1, .pointer (some ⟨p1, 0, none⟩)), (4, .pointer (some ⟨pa, 0, none⟩)), (5, .pointer (some ⟨pb, 0, none⟩)), (6, .pointer (some ⟨p6, 0, none⟩)), (7, .int .i64 (k : Int))])
    (fun k w7 => k ≤ 2 ∧ Half w w7 (fun b => b = p1 ∨ b = p6) pa pb (kit0.take (k + 1)) (kit0.take (k + 1)) ∧ Upd (Ours w (fun b => b = p1 ∨ b = p6)) w6 w7) (fun k => 2 - k) 0 ?_ ?_ ?_
  · (repeat simp only [push_cast, Nat.reduceBEq, Nat.reduceLT, Nat.reduceEqDiff, reduceIte, reduceCtorEq, Nat.reduceMul, Nat.reduceAdd, Nat.reduceSub, Int.reduceEq, Int.reduceLT, Int.reduceLE, Int.reduceNeg, Int.reduceAdd, Int.reduceSub, Int.reduceMul, Nat.reduceLeDiff, Int.reduceToNat])
  · exact ⟨by decide, hH, Upd.refl _ _⟩
  rintro k w7 ⟨hk, hH7, hu7⟩
  have z67 : w7.heap[p6]? = w6.heap[p6]? := hu7.same p6 hlt6 fun hf => hf.2 (.inr rfl)
  rw [hp6] at z67
  by_cases hk2 : k < 2
  · have d0 : (k : Int) < 2 := by omega
    have d2 : inI64 ((k : Int) + 1) := by unfold inI64; omega
    have d3 : (0 : Int) ≤ (k : Int) := by omega
    have hlen : (kit0.take (k + 1)).length < 100000 := by simp [kit0]; omega
    obtain rfl | rfl : k = 0 ∨ k = 1 := by omega
    · (repeat (first | (with_reducible first | (refine hK _ _ ?_; clear hK K) | refine (show ∀ σ' w', _ → K σ' w' from by assumption) _ _ ?_ | refine W_seq_k fun K hK => ?_ | refine W_block_k fun K hK => ?_ | refine W_skip ?_ | refine W_ret ?_) | ((first | ((with_reducible refine W_id ?_); refine W_reg (by decide) (by rfl) ?_) | (with_reducible first | refine W_cond ?_ | refine hZ _ _ ?_ | refine W_exit ?_ | refine Wo_id ?_)); repeat1' simp only [push_cast, Nat.reduceBEq, Nat.reduceLT, Nat.reduceEqDiff, reduceIte, reduceCtorEq, Nat.reduceMul, Nat.reduceAdd, Nat.reduceSub, Int.reduceEq, Int.reduceLT, Int.reduceLE, Int.reduceNeg, Int.reduceAdd, Int.reduceSub, Int.reduceMul, Nat.reduceLeDiff, Int.reduceToNat, d0, cell_h, can_h, cellO_cells, canO_cells, setO_cells, heap_set_h, heap_alloc_h, size_set_h, size_alloc_h, vcells_agg, succ_ne, ne_succ, List.setIfInBounds_toArray, List.set_cons_succ, List.set_cons_zero, setCells, drew_h, z67]) | ((repeat ((fail_if_success with_reducible refine hK _ _ ?_); clear hK K)); (with_reducible refine hK _ _ ?_); clear hK K)))
      refine (two_a hH7 hlen (m := kitM 0) (SlAt.nil _ _).rd (by decide)).mono ?_
      rintro v w8 ⟨rfl, hH8, hu8⟩
      have z68 := (hu8.same p6 (blk_lt z67) fun hf => hf.2 (.inr rfl)).trans z67
      have hu68 := Upd.trans hu7 hu8 fun _ _ h => h
      ((repeat simp only [push_cast, Nat.reduceBEq, Nat.reduceLT, Nat.reduceEqDiff, reduceIte, reduceCtorEq, Nat.reduceMul, Nat.reduceAdd, Nat.reduceSub, Int.reduceEq, Int.reduceLT, Int.reduceLE, Int.reduceNeg, Int.reduceAdd, Int.reduceSub, Int.reduceMul, Nat.reduceLeDiff, Int.reduceToNat, cell_h, can_h, cellO_cells, canO_cells, setO_cells, heap_set_h, heap_alloc_h, size_set_h, size_alloc_h, vcells_agg, succ_ne, ne_succ, List.setIfInBounds_toArray, List.set_cons_succ, List.set_cons_zero, setCells, drew_h, z68]); (repeat (first | (with_reducible first | (refine hK _ _ ?_; clear hK K) | refine (show ∀ σ' w', _ → K σ' w' from by assumption) _ _ ?_ | refine W_seq_k fun K hK => ?_ | refine W_block_k fun K hK => ?_ | refine W_skip ?_ | refine W_ret ?_) | ((first | ((with_reducible refine W_id ?_); refine W_reg (by decide) (by rfl) ?_) | (with_reducible first | refine W_cond ?_ | refine hZ _ _ ?_ | refine W_exit ?_ | refine Wo_id ?_)); repeat1' simp only [push_cast, Nat.reduceBEq, Nat.reduceLT, Nat.reduceEqDiff, reduceIte, reduceCtorEq, Nat.reduceMul, Nat.reduceAdd, Nat.reduceSub, Int.reduceEq, Int.reduceLT, Int.reduceLE, Int.reduceNeg, Int.reduceAdd, Int.reduceSub, Int.reduceMul, Nat.reduceLeDiff, Int.reduceToNat, cell_h, can_h, cellO_cells, canO_cells, setO_cells, heap_set_h, heap_alloc_h, size_set_h, size_alloc_h, vcells_agg, succ_ne, ne_succ, List.setIfInBounds_toArray, List.set_cons_succ, List.set_cons_zero, setCells, drew_h, z68]) | ((repeat ((fail_if_success with_reducible refine hK _ _ ?_); clear hK K)); (with_reducible refine hK _ _ ?_); clear hK K))))
      refine (two_b hH8 hlen (m := kitM 0) rfl (fun b hb => ?_) (SlAt.nil _ _).rd (by decide)).mono ?_
      · have := blk_lt z68
        have h9 := hu68.alike.size
        have h16 := blk_lt z16
        rcases hb with rfl | rfl <;> omega
      rintro v w9 ⟨rfl, hH9, hu9⟩
      rw [kit0_add (by decide)] at hH9
      ((repeat simp only [push_cast, Nat.reduceBEq, Nat.reduceLT, Nat.reduceEqDiff, reduceIte, reduceCtorEq, Nat.reduceMul, Nat.reduceAdd, Nat.reduceSub, Int.reduceEq, Int.reduceLT, Int.reduceLE, Int.reduceNeg, Int.reduceAdd, Int.reduceSub, Int.reduceMul, Nat.reduceLeDiff, Int.reduceToNat, (show inI64 1 by unfold inI64; omega)]); (repeat (first | (with_reducible first | (refine hK _ _ ?_; clear hK K) | refine (show ∀ σ' w', _ → K σ' w' from by assumption) _ _ ?_ | refine W_seq_k fun K hK => ?_ | refine W_block_k fun K hK => ?_ | refine W_skip ?_ | refine W_ret ?_) | ((first | ((with_reducible refine W_id ?_); refine W_reg (by decide) (by rfl) ?_) | (with_reducible first | refine W_cond ?_ | refine hZ _ _ ?_ | refine W_exit ?_ | refine Wo_id ?_)); repeat1' simp only [push_cast, Nat.reduceBEq, Nat.reduceLT, Nat.reduceEqDiff, reduceIte, reduceCtorEq, Nat.reduceMul, Nat.reduceAdd, Nat.reduceSub, Int.reduceEq, Int.reduceLT, Int.reduceLE, Int.reduceNeg, Int.reduceAdd, Int.reduceSub, Int.reduceMul, Nat.reduceLeDiff, Int.reduceToNat, (show inI64 1 by unfold inI64; omega)]) | ((repeat ((fail_if_success with_reducible refine hK _ _ ?_); clear hK K)); (with_reducible refine hK _ _ ?_); clear hK K))))
      refine ⟨1, by omega, ?_⟩
      (repeat simp only [push_cast, Nat.reduceBEq, Nat.reduceLT, Nat.reduceEqDiff, reduceIte, reduceCtorEq, Nat.reduceMul, Nat.reduceAdd, Nat.reduceSub, Int.reduceEq, Int.reduceLT, Int.reduceLE, Int.reduceNeg, Int.reduceAdd, Int.reduceSub, Int.reduceMul, Nat.reduceLeDiff, Int.reduceToNat])
      exact ⟨hH9, Upd.trans hu68 hu9 fun _ _ h => h⟩
    · (repeat (first | (with_reducible first | (refine hK _ _ ?_; clear hK K) | refine (show ∀ σ' w', _ → K σ' w' from by assumption) _ _ ?_ | refine W_seq_k fun K hK => ?_ | refine W_block_k fun K hK => ?_ | refine W_skip ?_ | refine W_ret ?_) | ((first | ((with_reducible refine W_id ?_); refine W_reg (by decide) (by rfl) ?_) | (with_reducible first | refine W_cond ?_ | refine hZ _ _ ?_ | refine W_exit ?_ | refine Wo_id ?_)); repeat1' simp only [push_cast, Nat.reduceBEq, Nat.reduceLT, Nat.reduceEqDiff, reduceIte, reduceCtorEq, Nat.reduceMul, Nat.reduceAdd, Nat.reduceSub, Int.reduceEq, Int.reduceLT, Int.reduceLE, Int.reduceNeg, Int.reduceAdd, Int.reduceSub, Int.reduceMul, Nat.reduceLeDiff, Int.reduceToNat, d0, cell_h, can_h, cellO_cells, canO_cells, setO_cells, heap_set_h, heap_alloc_h, size_set_h, size_alloc_h, vcells_agg, succ_ne, ne_succ, List.setIfInBounds_toArray, List.set_cons_succ, List.set_cons_zero, setCells, drew_h, z67]) | ((repeat ((fail_if_success with_reducible refine hK _ _ ?_); clear hK K)); (with_reducible refine hK _ _ ?_); clear hK K)))
      refine (two_a hH7 hlen (m := kitM 1) (SlAt.nil _ _).rd (by decide)).mono ?_
      rintro v w8 ⟨rfl, hH8, hu8⟩
      have z68 := (hu8.same p6 (blk_lt z67) fun hf => hf.2 (.inr rfl)).trans z67
      have hu68 := Upd.trans hu7 hu8 fun _ _ h => h
      ((repeat simp only [push_cast, Nat.reduceBEq, Nat.reduceLT, Nat.reduceEqDiff, reduceIte, reduceCtorEq, Nat.reduceMul, Nat.reduceAdd, Nat.reduceSub, Int.reduceEq, Int.reduceLT, Int.reduceLE, Int.reduceNeg, Int.reduceAdd, Int.reduceSub, Int.reduceMul, Nat.reduceLeDiff, Int.reduceToNat, cell_h, can_h, cellO_cells, canO_cells, setO_cells, heap_set_h, heap_alloc_h, size_set_h, size_alloc_h, vcells_agg, succ_ne, ne_succ, List.setIfInBounds_toArray, List.set_cons_succ, List.set_cons_zero, setCells, drew_h, z68]); (repeat (first | (with_reducible first | (refine hK _ _ ?_; clear hK K) | refine (show ∀ σ' w', _ → K σ' w' from by assumption) _ _ ?_ | refine W_seq_k fun K hK => ?_ | refine W_block_k fun K hK => ?_ | refine W_skip ?_ | refine W_ret ?_) | ((first | ((with_reducible refine W_id ?_); refine W_reg (by decide) (by rfl) ?_) | (with_reducible first | refine W_cond ?_ | refine hZ _ _ ?_ | refine W_exit ?_ | refine Wo_id ?_)); repeat1' simp only [push_cast, Nat.reduceBEq, Nat.reduceLT, Nat.reduceEqDiff, reduceIte, reduceCtorEq, Nat.reduceMul, Nat.reduceAdd, Nat.reduceSub, Int.reduceEq, Int.reduceLT, Int.reduceLE, Int.reduceNeg, Int.reduceAdd, Int.reduceSub, Int.reduceMul, Nat.reduceLeDiff, Int.reduceToNat, cell_h, can_h, cellO_cells, canO_cells, setO_cells, heap_set_h, heap_alloc_h, size_set_h, size_alloc_h, vcells_agg, succ_ne, ne_succ, List.setIfInBounds_toArray, List.set_cons_succ, List.set_cons_zero, setCells, drew_h, z68]) | ((repeat ((fail_if_success with_reducible refine hK _ _ ?_); clear hK K)); (with_reducible refine hK _ _ ?_); clear hK K))))
      refine (two_b hH8 hlen (m := kitM 1) rfl (fun b hb => ?_) (SlAt.nil _ _).rd (by decide)).mono ?_
      · have := blk_lt z68
        have h9 := hu68.alike.size
        have h16 := blk_lt z16
        rcases hb with rfl | rfl <;> omega
      rintro v w9 ⟨rfl, hH9, hu9⟩
      rw [kit0_add (by decide)] at hH9
      ((repeat simp only [push_cast, Nat.reduceBEq, Nat.reduceLT, Nat.reduceEqDiff, reduceIte, reduceCtorEq, Nat.reduceMul, Nat.reduceAdd, Nat.reduceSub, Int.reduceEq, Int.reduceLT, Int.reduceLE, Int.reduceNeg, Int.reduceAdd, Int.reduceSub, Int.reduceMul, Nat.reduceLeDiff, Int.reduceToNat, (show inI64 2 by unfold inI64; omega)]); (repeat (first | (with_reducible first | (refine hK _ _ ?_; clear hK K) | refine (show ∀ σ' w', _ → K σ' w' from by assumption) _ _ ?_ | refine W_seq_k fun K hK => ?_ | refine W_block_k fun K hK => ?_ | refine W_skip ?_ | refine W_ret ?_) | ((first | ((with_reducible refine W_id ?_); refine W_reg (by decide) (by rfl) ?_) | (with_reducible first | refine W_cond ?_ | refine hZ _ _ ?_ | refine W_exit ?_ | refine Wo_id ?_)); repeat1' simp only [push_cast, Nat.reduceBEq, Nat.reduceLT, Nat.reduceEqDiff, reduceIte, reduceCtorEq, Nat.reduceMul, Nat.reduceAdd, Nat.reduceSub, Int.reduceEq, Int.reduceLT, Int.reduceLE, Int.reduceNeg, Int.reduceAdd, Int.reduceSub, Int.reduceMul, Nat.reduceLeDiff, Int.reduceToNat, (show inI64 2 by unfold inI64; omega)]) | ((repeat ((fail_if_success with_reducible refine hK _ _ ?_); clear hK K)); (with_reducible refine hK _ _ ?_); clear hK K))))
      refine ⟨2, by omega, ?_⟩
      (repeat simp only [push_cast, Nat.reduceBEq, Nat.reduceLT, Nat.reduceEqDiff, reduceIte, reduceCtorEq, Nat.reduceMul, Nat.reduceAdd, Nat.reduceSub, Int.reduceEq, Int.reduceLT, Int.reduceLE, Int.reduceNeg, Int.reduceAdd, Int.reduceSub, Int.reduceMul, Nat.reduceLeDiff, Int.reduceToNat])
      exact ⟨hH9, Upd.trans hu68 hu9 fun _ _ h => h⟩
  · obtain rfl : k = 2 := by omega
    have d0 : ¬ ((2 : Nat) : Int) < 2 := by omega
    (repeat (first | (with_reducible first | (refine hK _ _ ?_; clear hK K) | refine (show ∀ σ' w', _ → K σ' w' from by assumption) _ _ ?_ | refine W_seq_k fun K hK => ?_ | refine W_block_k fun K hK => ?_ | refine W_skip ?_ | refine W_ret ?_) | ((first | ((with_reducible refine W_id ?_); refine W_reg (by decide) (by rfl) ?_) | (with_reducible first | refine W_cond ?_ | refine hZ _ _ ?_ | refine W_exit ?_ | refine Wo_id ?_)); repeat1' simp only [push_cast, Nat.reduceBEq, Nat.reduceLT, Nat.reduceEqDiff, reduceIte, reduceCtorEq, Nat.reduceMul, Nat.reduceAdd, Nat.reduceSub, Int.reduceEq, Int.reduceLT, Int.reduceLE, Int.reduceNeg, Int.reduceAdd, Int.reduceSub, Int.reduceMul, Nat.reduceLeDiff, Int.reduceToNat, d0]) | ((repeat ((fail_if_success with_reducible refine hK _ _ ?_); clear hK K)); (with_reducible refine hK _ _ ?_); clear hK K)))
    have z17 : w7.heap[p1]? = _ := (hu7.same p1 (blk_lt z16) fun hf => hf.2 (.inl rfl)).trans z16
    have hL0 : kit0.take (2 + 1) = kitL (l1.take 0) l2 := by simp [kitL, kitK, kit0]
    rw [hL0] at hH7
    clear hH z67 z6 hp6 hx6
    have hH8 := hH7.pass (Q := fun b => b = p1) (Ext.refl w7) fun b hb => .inl (.inl hb)
    refine W_loop (S := Nat) (fun k => [(1, .pointer (some ⟨p1, 0, none⟩)), (4, .pointer (some ⟨pa, 0, none⟩)), (5, .pointer (some ⟨pb, 0, none⟩)), (8, .int .i64 (k : Int))])
      (fun k w8 => k ≤ l1.length ∧ Half w w8 (fun b => b = p1) pa pb (kitL (l1.take k) l2) (kitL (l1.take k) l2) ∧ w8.heap[p1]? = some (.cells #[.slice a1 l1.length c1, .slice a2 l2.length c2] 24 (0, 0))) (fun k => l1.length - k) 0 ?_ ?_ ?_
    · (repeat simp only [push_cast, Nat.reduceBEq, Nat.reduceLT, Nat.reduceEqDiff, reduceIte, reduceCtorEq, Nat.reduceMul, Nat.reduceAdd, Nat.reduceSub, Int.reduceEq, Int.reduceLT, Int.reduceLE, Int.reduceNeg, Int.reduceAdd, Int.reduceSub, Int.reduceMul, Nat.reduceLeDiff, Int.reduceToNat])
    · exact ⟨by omega, hH8, z17⟩
    rintro k w8 ⟨hk, hH8, z18⟩
    have hxw : Ext w w8 := by obtain ⟨F, hA, _⟩ := id hH8; exact hA.ext
    by_cases hkl : k < l1.length
    · obtain ⟨c, hc⟩ : ∃ c, l1[k]? = some c := ⟨_, List.getElem?_eq_getElem hkl⟩
      have hcb := b1 c (List.mem_of_getElem? hc)
      obtain ⟨b, o, rfl, hcl⟩ := hcell1 k c hc
      have hcl8 := cell_ext hxw hcl
      rw [cell_h] at hcl8
      have d0 : (k : Int) < (l1.length : Int) := by omega
      have d1 : (0 : Int) ≤ (k : Int) := by omega
      have d2 : inI64 ((k : Int) + 1) := by unfold inI64; omega
      (repeat (first | (with_reducible first | (refine hK _ _ ?_; clear hK K) | refine (show ∀ σ' w', _ → K σ' w' from by assumption) _ _ ?_ | refine W_seq_k fun K hK => ?_ | refine W_block_k fun K hK => ?_ | refine W_skip ?_ | refine W_ret ?_) | ((first | ((with_reducible refine W_id ?_); refine W_reg (by decide) (by rfl) ?_) | (with_reducible first | refine W_cond ?_ | refine hZ _ _ ?_ | refine W_exit ?_ | refine Wo_id ?_)); repeat1' simp only [push_cast, Nat.reduceBEq, Nat.reduceLT, Nat.reduceEqDiff, reduceIte, reduceCtorEq, Nat.reduceMul, Nat.reduceAdd, Nat.reduceSub, Int.reduceEq, Int.reduceLT, Int.reduceLE, Int.reduceNeg, Int.reduceAdd, Int.reduceSub, Int.reduceMul, Nat.reduceLeDiff, Int.reduceToNat, d0, d1, cell_h, cellO_cells, z18, hcl8]) | ((repeat ((fail_if_success with_reducible refine hK _ _ ?_); clear hK K)); (with_reducible refine hK _ _ ?_); clear hK K)))
      refine (name_c c hcb).mono ?_
      rintro v w9 ⟨rfl, hx9⟩
      refine build_struct Tryd.zeroValue49 un30 pl30 (cs := #[.int .i64 3, .string (nmT c), .string ⟨#[]⟩, .int .i64 0, .slice none 0 0, .bool false, .int .i64 0, .int .i64 0, .slice none 0 0, .int .i64 0, .int .i64 0]) (by rfl) ?_
      (repeat simp only [push_cast, Nat.reduceBEq, Nat.reduceLT, Nat.reduceEqDiff, reduceIte, reduceCtorEq, Nat.reduceMul, Nat.reduceAdd, Nat.reduceSub, Int.reduceEq, Int.reduceLT, Int.reduceLE, Int.reduceNeg, Int.reduceAdd, Int.reduceSub, Int.reduceMul, Nat.reduceLeDiff, Int.reduceToNat, RunV_zero Tryd.zeroValue49])
      simp only [vcells_agg, can_h, heap_alloc_h, if_true, canO_cells, List.size_toArray, List.length_cons, List.length_nil, Nat.zero_add, Nat.reduceAdd, Nat.reduceLT, true_and]
      have y6 : (w9.alloc (.cells #[.int .i64 0, .string ⟨#[]⟩, .string ⟨#[]⟩, .int .i64 0, .slice none 0 0, .bool false, .int .i64 0, .int .i64 0, .slice none 0 0, .int .i64 0, .int .i64 0] 49)).heap[w9.heap.size]? = some (.cells #[.int .i64 0, .string ⟨#[]⟩, .string ⟨#[]⟩, .int .i64 0, .slice none 0 0, .bool false, .int .i64 0, .int .i64 0, .slice none 0 0, .int .i64 0, .int .i64 0] 49 (0, 0)) := by rw [heap_alloc_h, if_pos rfl]
      have yp := setCells_all y6 (l := [.int .i64 3, .string (nmT c), .string ⟨#[]⟩, .int .i64 0, .slice none 0 0, .bool false, .int .i64 0, .int .i64 0, .slice none 0 0, .int .i64 0, .int .i64 0]) rfl
      have yx : Ext w9 (setCells (w9.alloc (.cells #[.int .i64 0, .string ⟨#[]⟩, .string ⟨#[]⟩, .int .i64 0, .slice none 0 0, .bool false, .int .i64 0, .int .i64 0, .slice none 0 0, .int .i64 0, .int .i64 0] 49)) ⟨w9.heap.size, 0, none⟩ [.int .i64 3, .string (nmT c), .string ⟨#[]⟩, .int .i64 0, .slice none 0 0, .bool false, .int .i64 0, .int .i64 0, .slice none 0 0, .int .i64 0, .int .i64 0] 0) := Upd.trans (Ext.alloc w9 _) (Upd.setCells (F := fun b => b = w9.heap.size) (a := ⟨w9.heap.size, 0, none⟩) _ rfl _ 0) fun i hi e => by omega
      generalize setCells (w9.alloc (.cells #[.int .i64 0, .string ⟨#[]⟩, .string ⟨#[]⟩, .int .i64 0, .slice none 0 0, .bool false, .int .i64 0, .int .i64 0, .slice none 0 0, .int .i64 0, .int .i64 0] 49)) ⟨w9.heap.size, 0, none⟩ [.int .i64 3, .string (nmT c), .string ⟨#[]⟩, .int .i64 0, .slice none 0 0, .bool false, .int .i64 0, .int .i64 0, .slice none 0 0, .int .i64 0, .int .i64 0] 0 = w10 at *
      obtain ⟨p9, hp9⟩ : ∃ p9, p9 = w9.heap.size := ⟨_, rfl⟩
      rw [← hp9] at yp ⊢
      have y18 := hx9.blk z18
      have y1 := yx.blk y18
      have hl18 := blk_lt y18
      have hne : ¬ p9 = p1 := by omega
      have hne' : ¬ p1 = p9 := by omega
      have hl9 := blk_lt yp
      have hs9 := hx9.alike.size
      have hlen : (kitL (l1.take k) l2).length < 100000 := by
        have := kitL_len (l1.take k) l2
        rw [List.length_take] at this; omega
      have eT := kitL_take (l2 := l2) hc
      have hout : ∀ w11, w11.heap[p9]?.isSome → Ext w9 w11 → Half w w11 (fun b => b = p1 ∨ b = p9) pa pb (kitL (l1.take k) l2) (kitL (l1.take k) l2) := fun w11 hy hx11 => hH8.pass (hx9.trans hx11) fun b hb => by
        rcases hb with hb | hb
        · exact .inl hb
        · refine .inr ⟨by omega, ?_⟩
          rw [hb]
          obtain ⟨o, ho⟩ := Option.isSome_iff_exists.1 hy
          exact blk_lt ho
      clear hH8 hH7 hu7
      by_cases hs : k < l2.length
      · obtain ⟨c', hc'⟩ : ∃ c', l2[k]? = some c' := ⟨_, List.getElem?_eq_getElem hs⟩
        have hcb' := b2 c' (List.mem_of_getElem? hc')
        obtain ⟨b', o', e2, hcl2⟩ := hcell2 k c' hc'
        rw [e2] at y1
        have hcl9 := cell_ext ((hxw.trans hx9).trans yx) hcl2
        rw [cell_h] at hcl9
        have d3 : (k : Int) < (l2.length : Int) := by omega
        have ar : ((c' : Int).tmod 4) = ((c' % 4 : Nat) : Int) := by rw [Int.tmod_eq_emod_of_nonneg (by omega)]; omega
        have n4 : ¬ ((4 : Int) = 0) := by omega
        have hgd : l2.getD k 0 = c' := by simp [List.getD, hc']
        have hrl : c' % 4 < 4 := Nat.mod_lt _ (by decide)
        by_cases hg : 1 < c' % 4
        · have hval : (kitLd l2 k c).val = .agg #[.int .i64 3, .string (nmT c), .string ⟨#[]⟩, .int .i64 (((c' % 4 : Nat) : Int) - 1), .slice none 0 0, .bool false, .int .i64 0, .int .i64 0, .slice none 0 0, .int .i64 0, .int .i64 0] := by
            rw [Laid.val_eq]
            simp only [kitLd, kitN, hgd, zN]
            rw [if_pos ⟨hs, hg⟩]
          obtain ⟨r, hr⟩ : ∃ r, r = c' % 4 := ⟨_, rfl⟩
          rw [← hr] at ar hrl hg hval
          have d4 : (1 : Int) < (r : Int) := by omega
          have d5 : IntKind.i64.wrap (r : Int) = r := wrap_in (by unfold inI64; omega)
          have d6 : inI64 ((r : Int) - 1) := by unfold inI64; omega
          ((repeat simp only [push_cast, Nat.reduceBEq, Nat.reduceLT, Nat.reduceEqDiff, reduceIte, reduceCtorEq, Nat.reduceMul, Nat.reduceAdd, Nat.reduceSub, Int.reduceEq, Int.reduceLT, Int.reduceLE, Int.reduceNeg, Int.reduceAdd, Int.reduceSub, Int.reduceMul, Nat.reduceLeDiff, Int.reduceToNat, d0, d1, d3, d4, d5, d6, ar, n4, cell_h, can_h, cellO_cells, canO_cells, setO_cells, heap_set_h, heap_alloc_h, size_set_h, size_alloc_h, vcells_agg, succ_ne, ne_succ, List.setIfInBounds_toArray, List.set_cons_succ, List.set_cons_zero, setCells, drew_h, y1, yp, hcl9, hne, hne']); (repeat (first | (with_reducible first | (refine hK _ _ ?_; clear hK K) | refine (show ∀ σ' w', _ → K σ' w' from by assumption) _ _ ?_ | refine W_seq_k fun K hK => ?_ | refine W_block_k fun K hK => ?_ | refine W_skip ?_ | refine W_ret ?_) | ((first | ((with_reducible refine W_id ?_); refine W_reg (by decide) (by rfl) ?_) | (with_reducible first | refine W_cond ?_ | refine hZ _ _ ?_ | refine W_exit ?_ | refine Wo_id ?_)); repeat1' simp only [push_cast, Nat.reduceBEq, Nat.reduceLT, Nat.reduceEqDiff, reduceIte, reduceCtorEq, Nat.reduceMul, Nat.reduceAdd, Nat.reduceSub, Int.reduceEq, Int.reduceLT, Int.reduceLE, Int.reduceNeg, Int.reduceAdd, Int.reduceSub, Int.reduceMul, Nat.reduceLeDiff, Int.reduceToNat, d0, d1, d3, d4, d5, d6, ar, n4, cell_h, can_h, cellO_cells, canO_cells, setO_cells, heap_set_h, heap_alloc_h, size_set_h, size_alloc_h, vcells_agg, succ_ne, ne_succ, List.setIfInBounds_toArray, List.set_cons_succ, List.set_cons_zero, setCells, drew_h, y1, yp, hcl9, hne, hne']) | ((repeat ((fail_if_success with_reducible refine hK _ _ ?_); clear hK K)); (with_reducible refine hK _ _ ?_); clear hK K))))
          have y11 : (w10.setCell ⟨p9, 3, none⟩ (.int .i64 ((r : Int) - 1))).heap[p9]? = some (.cells #[.int .i64 3, .string (nmT c), .string ⟨#[]⟩, .int .i64 ((r : Int) - 1), .slice none 0 0, .bool false, .int .i64 0, .int .i64 0, .slice none 0 0, .int .i64 0, .int .i64 0] 49 (0, 0)) := by rw [heap_set_h, if_pos rfl, yp]; rfl
          have yx11 : Ext w9 (w10.setCell ⟨p9, 3, none⟩ (.int .i64 ((r : Int) - 1))) := Upd.trans yx (Upd.setCell (F := fun b => b = p9) (a := ⟨p9, 3, none⟩) w10 rfl _) fun i hi e => by omega
          rw [← hval]
          have hH11 := hout _ (by rw [y11]; rfl) yx11
          generalize w10.setCell ⟨p9, 3, none⟩ (.int .i64 ((r : Int) - 1)) = w11 at *
          refine (two_a hH11 hlen (m := kitLd l2 k c) (SlAt.nil _ _).rd (show (0 : Nat) < 1000000 by decide)).mono ?_
          rintro v w12 ⟨rfl, hH12, hu12⟩
          have y12 := (hu12.same p9 (blk_lt y11) fun hf => hf.2 (.inr rfl)).trans y11
          ((repeat simp only [push_cast, Nat.reduceBEq, Nat.reduceLT, Nat.reduceEqDiff, reduceIte, reduceCtorEq, Nat.reduceMul, Nat.reduceAdd, Nat.reduceSub, Int.reduceEq, Int.reduceLT, Int.reduceLE, Int.reduceNeg, Int.reduceAdd, Int.reduceSub, Int.reduceMul, Nat.reduceLeDiff, Int.reduceToNat, cell_h, can_h, cellO_cells, canO_cells, setO_cells, heap_set_h, heap_alloc_h, size_set_h, size_alloc_h, vcells_agg, succ_ne, ne_succ, List.setIfInBounds_toArray, List.set_cons_succ, List.set_cons_zero, setCells, drew_h, y12]); (repeat (first | (with_reducible first | (refine hK _ _ ?_; clear hK K) | refine (show ∀ σ' w', _ → K σ' w' from by assumption) _ _ ?_ | refine W_seq_k fun K hK => ?_ | refine W_block_k fun K hK => ?_ | refine W_skip ?_ | refine W_ret ?_) | ((first | ((with_reducible refine W_id ?_); refine W_reg (by decide) (by rfl) ?_) | (with_reducible first | refine W_cond ?_ | refine hZ _ _ ?_ | refine W_exit ?_ | refine Wo_id ?_)); repeat1' simp only [push_cast, Nat.reduceBEq, Nat.reduceLT, Nat.reduceEqDiff, reduceIte, reduceCtorEq, Nat.reduceMul, Nat.reduceAdd, Nat.reduceSub, Int.reduceEq, Int.reduceLT, Int.reduceLE, Int.reduceNeg, Int.reduceAdd, Int.reduceSub, Int.reduceMul, Nat.reduceLeDiff, Int.reduceToNat, cell_h, can_h, cellO_cells, canO_cells, setO_cells, heap_set_h, heap_alloc_h, size_set_h, size_alloc_h, vcells_agg, succ_ne, ne_succ, List.setIfInBounds_toArray, List.set_cons_succ, List.set_cons_zero, setCells, drew_h, y12]) | ((repeat ((fail_if_success with_reducible refine hK _ _ ?_); clear hK K)); (with_reducible refine hK _ _ ?_); clear hK K))))
          rw [← hval]
          refine (two_b hH12 hlen (m := kitLd l2 k c) rfl (fun b hb => ?_) (SlAt.nil _ _).rd (show (0 : Nat) < 1000000 by decide)).mono ?_
          · have h1 := blk_lt y12
            have h2 := hu12.alike.size
            rcases hb with rfl | rfl <;> omega
          rintro v w13 ⟨rfl, hH13, hu13⟩
          have y13 := (hu13.same p1 (by have := hu12.alike.size; have := yx11.alike.size; omega) fun hf => hf.2 (.inl rfl)).trans ((hu12.same p1 (by have := yx11.alike.size; omega) fun hf => hf.2 (.inl rfl)).trans (yx11.blk y18))
          ((repeat simp only [push_cast, Nat.reduceBEq, Nat.reduceLT, Nat.reduceEqDiff, reduceIte, reduceCtorEq, Nat.reduceMul, Nat.reduceAdd, Nat.reduceSub, Int.reduceEq, Int.reduceLT, Int.reduceLE, Int.reduceNeg, Int.reduceAdd, Int.reduceSub, Int.reduceMul, Nat.reduceLeDiff, Int.reduceToNat, d2]); (repeat (first | (with_reducible first | (refine hK _ _ ?_; clear hK K) | refine (show ∀ σ' w', _ → K σ' w' from by assumption) _ _ ?_ | refine W_seq_k fun K hK => ?_ | refine W_block_k fun K hK => ?_ | refine W_skip ?_ | refine W_ret ?_) | ((first | ((with_reducible refine W_id ?_); refine W_reg (by decide) (by rfl) ?_) | (with_reducible first | refine W_cond ?_ | refine hZ _ _ ?_ | refine W_exit ?_ | refine Wo_id ?_)); repeat1' simp only [push_cast, Nat.reduceBEq, Nat.reduceLT, Nat.reduceEqDiff, reduceIte, reduceCtorEq, Nat.reduceMul, Nat.reduceAdd, Nat.reduceSub, Int.reduceEq, Int.reduceLT, Int.reduceLE, Int.reduceNeg, Int.reduceAdd, Int.reduceSub, Int.reduceMul, Nat.reduceLeDiff, Int.reduceToNat, d2]) | ((repeat ((fail_if_success with_reducible refine hK _ _ ?_); clear hK K)); (with_reducible refine hK _ _ ?_); clear hK K))))
          refine ⟨k + 1, by omega, ?_⟩
          (repeat simp only [push_cast, Nat.reduceBEq, Nat.reduceLT, Nat.reduceEqDiff, reduceIte, reduceCtorEq, Nat.reduceMul, Nat.reduceAdd, Nat.reduceSub, Int.reduceEq, Int.reduceLT, Int.reduceLE, Int.reduceNeg, Int.reduceAdd, Int.reduceSub, Int.reduceMul, Nat.reduceLeDiff, Int.reduceToNat])
          rw [eT]
          exact ⟨by omega, hH13.pass (Ext.refl _) fun b hb => .inl (.inl hb), y13⟩
        · have hval : (kitLd l2 k c).val = .agg #[.int .i64 3, .string (nmT c), .string ⟨#[]⟩, .int .i64 0, .slice none 0 0, .bool false, .int .i64 0, .int .i64 0, .slice none 0 0, .int .i64 0, .int .i64 0] := by
            rw [Laid.val_eq]
            simp only [kitLd, kitN, hgd, zN]
            rw [if_neg (fun h => hg h.2)]
          obtain ⟨r, hr⟩ : ∃ r, r = c' % 4 := ⟨_, rfl⟩
          rw [← hr] at ar hrl hg
          have d4 : ¬ (1 : Int) < (r : Int) := by omega
          ((repeat simp only [push_cast, Nat.reduceBEq, Nat.reduceLT, Nat.reduceEqDiff, reduceIte, reduceCtorEq, Nat.reduceMul, Nat.reduceAdd, Nat.reduceSub, Int.reduceEq, Int.reduceLT, Int.reduceLE, Int.reduceNeg, Int.reduceAdd, Int.reduceSub, Int.reduceMul, Nat.reduceLeDiff, Int.reduceToNat, d0, d1, d3, d4, ar, n4, cell_h, can_h, cellO_cells, canO_cells, setO_cells, heap_set_h, heap_alloc_h, size_set_h, size_alloc_h, vcells_agg, succ_ne, ne_succ, List.setIfInBounds_toArray, List.set_cons_succ, List.set_cons_zero, setCells, drew_h, y1, yp, hcl9, hne, hne']); (repeat (first | (with_reducible first | (refine hK _ _ ?_; clear hK K) | refine (show ∀ σ' w', _ → K σ' w' from by assumption) _ _ ?_ | refine W_seq_k fun K hK => ?_ | refine W_block_k fun K hK => ?_ | refine W_skip ?_ | refine W_ret ?_) | ((first | ((with_reducible refine W_id ?_); refine W_reg (by decide) (by rfl) ?_) | (with_reducible first | refine W_cond ?_ | refine hZ _ _ ?_ | refine W_exit ?_ | refine Wo_id ?_)); repeat1' simp only [push_cast, Nat.reduceBEq, Nat.reduceLT, Nat.reduceEqDiff, reduceIte, reduceCtorEq, Nat.reduceMul, Nat.reduceAdd, Nat.reduceSub, Int.reduceEq, Int.reduceLT, Int.reduceLE, Int.reduceNeg, Int.reduceAdd, Int.reduceSub, Int.reduceMul, Nat.reduceLeDiff, Int.reduceToNat, d0, d1, d3, d4, ar, n4, cell_h, can_h, cellO_cells, canO_cells, setO_cells, heap_set_h, heap_alloc_h, size_set_h, size_alloc_h, vcells_agg, succ_ne, ne_succ, List.setIfInBounds_toArray, List.set_cons_succ, List.set_cons_zero, setCells, drew_h, y1, yp, hcl9, hne, hne']) | ((repeat ((fail_if_success with_reducible refine hK _ _ ?_); clear hK K)); (with_reducible refine hK _ _ ?_); clear hK K))))
          rw [← hval]
          have hH11 := hout _ (by rw [yp]; rfl) yx
          generalize w10 = w11 at *
          refine (two_a hH11 hlen (m := kitLd l2 k c) (SlAt.nil _ _).rd (show (0 : Nat) < 1000000 by decide)).mono ?_
          rintro v w12 ⟨rfl, hH12, hu12⟩
          have y12 := (hu12.same p9 (blk_lt yp) fun hf => hf.2 (.inr rfl)).trans yp
          ((repeat simp only [push_cast, Nat.reduceBEq, Nat.reduceLT, Nat.reduceEqDiff, reduceIte, reduceCtorEq, Nat.reduceMul, Nat.reduceAdd, Nat.reduceSub, Int.reduceEq, Int.reduceLT, Int.reduceLE, Int.reduceNeg, Int.reduceAdd, Int.reduceSub, Int.reduceMul, Nat.reduceLeDiff, Int.reduceToNat, cell_h, can_h, cellO_cells, canO_cells, setO_cells, heap_set_h, heap_alloc_h, size_set_h, size_alloc_h, vcells_agg, succ_ne, ne_succ, List.setIfInBounds_toArray, List.set_cons_succ, List.set_cons_zero, setCells, drew_h, y12]); (repeat (first | (with_reducible first | (refine hK _ _ ?_; clear hK K) | refine (show ∀ σ' w', _ → K σ' w' from by assumption) _ _ ?_ | refine W_seq_k fun K hK => ?_ | refine W_block_k fun K hK => ?_ | refine W_skip ?_ | refine W_ret ?_) | ((first | ((with_reducible refine W_id ?_); refine W_reg (by decide) (by rfl) ?_) | (with_reducible first | refine W_cond ?_ | refine hZ _ _ ?_ | refine W_exit ?_ | refine Wo_id ?_)); repeat1' simp only [push_cast, Nat.reduceBEq, Nat.reduceLT, Nat.reduceEqDiff, reduceIte, reduceCtorEq, Nat.reduceMul, Nat.reduceAdd, Nat.reduceSub, Int.reduceEq, Int.reduceLT, Int.reduceLE, Int.reduceNeg, Int.reduceAdd, Int.reduceSub, Int.reduceMul, Nat.reduceLeDiff, Int.reduceToNat, cell_h, can_h, cellO_cells, canO_cells, setO_cells, heap_set_h, heap_alloc_h, size_set_h, size_alloc_h, vcells_agg, succ_ne, ne_succ, List.setIfInBounds_toArray, List.set_cons_succ, List.set_cons_zero, setCells, drew_h, y12]) | ((repeat ((fail_if_success with_reducible refine hK _ _ ?_); clear hK K)); (with_reducible refine hK _ _ ?_); clear hK K))))
          rw [← hval]
          refine (two_b hH12 hlen (m := kitLd l2 k c) rfl (fun b hb => ?_) (SlAt.nil _ _).rd (show (0 : Nat) < 1000000 by decide)).mono ?_
          · have h1 := blk_lt y12
            have h2 := hu12.alike.size
            rcases hb with rfl | rfl <;> omega
          rintro v w13 ⟨rfl, hH13, hu13⟩
          have y13 := (hu13.same p1 (by have := hu12.alike.size; have := yx.alike.size; omega) fun hf => hf.2 (.inl rfl)).trans ((hu12.same p1 (by have := yx.alike.size; omega) fun hf => hf.2 (.inl rfl)).trans (yx.blk y18))
          ((repeat simp only [push_cast, Nat.reduceBEq, Nat.reduceLT, Nat.reduceEqDiff, reduceIte, reduceCtorEq, Nat.reduceMul, Nat.reduceAdd, Nat.reduceSub, Int.reduceEq, Int.reduceLT, Int.reduceLE, Int.reduceNeg, Int.reduceAdd, Int.reduceSub, Int.reduceMul, Nat.reduceLeDiff, Int.reduceToNat, d2]); (repeat (first | (with_reducible first | (refine hK _ _ ?_; clear hK K) | refine (show ∀ σ' w', _ → K σ' w' from by assumption) _ _ ?_ | refine W_seq_k fun K hK => ?_ | refine W_block_k fun K hK => ?_ | refine W_skip ?_ | refine W_ret ?_) | ((first | ((with_reducible refine W_id ?_); refine W_reg (by decide) (by rfl) ?_) | (with_reducible first | refine W_cond ?_ | refine hZ _ _ ?_ | refine W_exit ?_ | refine Wo_id ?_)); repeat1' simp only [push_cast, Nat.reduceBEq, Nat.reduceLT, Nat.reduceEqDiff, reduceIte, reduceCtorEq, Nat.reduceMul, Nat.reduceAdd, Nat.reduceSub, Int.reduceEq, Int.reduceLT, Int.reduceLE, Int.reduceNeg, Int.reduceAdd, Int.reduceSub, Int.reduceMul, Nat.reduceLeDiff, Int.reduceToNat, d2]) | ((repeat ((fail_if_success with_reducible refine hK _ _ ?_); clear hK K)); (with_reducible refine hK _ _ ?_); clear hK K))))
          refine ⟨k + 1, by omega, ?_⟩
          (repeat simp only [push_cast, Nat.reduceBEq, Nat.reduceLT, Nat.reduceEqDiff, reduceIte, reduceCtorEq, Nat.reduceMul, Nat.reduceAdd, Nat.reduceSub, Int.reduceEq, Int.reduceLT, Int.reduceLE, Int.reduceNeg, Int.reduceAdd, Int.reduceSub, Int.reduceMul, Nat.reduceLeDiff, Int.reduceToNat])
          rw [eT]
          exact ⟨by omega, hH13.pass (Ext.refl _) fun b hb => .inl (.inl hb), y13⟩
      · have hval : (kitLd l2 k c).val = .agg #[.int .i64 3, .string (nmT c), .string ⟨#[]⟩, .int .i64 0, .slice none 0 0, .bool false, .int .i64 0, .int .i64 0, .slice none 0 0, .int .i64 0, .int .i64 0] := by
          rw [Laid.val_eq]
          simp only [kitLd, kitN, zN]
          rw [if_neg (fun h => hs h.1)]
        have d3 : ¬ (k : Int) < (l2.length : Int) := by omega
        ((repeat simp only [push_cast, Nat.reduceBEq, Nat.reduceLT, Nat.reduceEqDiff, reduceIte, reduceCtorEq, Nat.reduceMul, Nat.reduceAdd, Nat.reduceSub, Int.reduceEq, Int.reduceLT, Int.reduceLE, Int.reduceNeg, Int.reduceAdd, Int.reduceSub, Int.reduceMul, Nat.reduceLeDiff, Int.reduceToNat, d0, d1, d3, cell_h, can_h, cellO_cells, canO_cells, setO_cells, heap_set_h, heap_alloc_h, size_set_h, size_alloc_h, vcells_agg, succ_ne, ne_succ, List.setIfInBounds_toArray, List.set_cons_succ, List.set_cons_zero, setCells, drew_h, y1, yp, hne, hne']); (repeat (first | (with_reducible first | (refine hK _ _ ?_; clear hK K) | refine (show ∀ σ' w', _ → K σ' w' from by assumption) _ _ ?_ | refine W_seq_k fun K hK => ?_ | refine W_block_k fun K hK => ?_ | refine W_skip ?_ | refine W_ret ?_) | ((first | ((with_reducible refine W_id ?_); refine W_reg (by decide) (by rfl) ?_) | (with_reducible first | refine W_cond ?_ | refine hZ _ _ ?_ | refine W_exit ?_ | refine Wo_id ?_)); repeat1' simp only [push_cast, Nat.reduceBEq, Nat.reduceLT, Nat.reduceEqDiff, reduceIte, reduceCtorEq, Nat.reduceMul, Nat.reduceAdd, Nat.reduceSub, Int.reduceEq, Int.reduceLT, Int.reduceLE, Int.reduceNeg, Int.reduceAdd, Int.reduceSub, Int.reduceMul, Nat.reduceLeDiff, Int.reduceToNat, d0, d1, d3, cell_h, can_h, cellO_cells, canO_cells, setO_cells, heap_set_h, heap_alloc_h, size_set_h, size_alloc_h, vcells_agg, succ_ne, ne_succ, List.setIfInBounds_toArray, List.set_cons_succ, List.set_cons_zero, setCells, drew_h, y1, yp, hne, hne']) | ((repeat ((fail_if_success with_reducible refine hK _ _ ?_); clear hK K)); (with_reducible refine hK _ _ ?_); clear hK K))))
        rw [← hval]
        have hH11 := hout _ (by rw [yp]; rfl) yx
        generalize w10 = w11 at *
        refine (two_a hH11 hlen (m := kitLd l2 k c) (SlAt.nil _ _).rd (show (0 : Nat) < 1000000 by decide)).mono ?_
        rintro v w12 ⟨rfl, hH12, hu12⟩
        have y12 := (hu12.same p9 (blk_lt yp) fun hf => hf.2 (.inr rfl)).trans yp
        ((repeat simp only [push_cast, Nat.reduceBEq, Nat.reduceLT, Nat.reduceEqDiff, reduceIte, reduceCtorEq, Nat.reduceMul, Nat.reduceAdd, Nat.reduceSub, Int.reduceEq, Int.reduceLT, Int.reduceLE, Int.reduceNeg, Int.reduceAdd, Int.reduceSub, Int.reduceMul, Nat.reduceLeDiff, Int.reduceToNat, cell_h, can_h, cellO_cells, canO_cells, setO_cells, heap_set_h, heap_alloc_h, size_set_h, size_alloc_h, vcells_agg, succ_ne, ne_succ, List.setIfInBounds_toArray, List.set_cons_succ, List.set_cons_zero, setCells, drew_h, y12]); (repeat (first | (with_reducible first | (refine hK _ _ ?_; clear hK K) | refine (show ∀ σ' w', _ → K σ' w' from by assumption) _ _ ?_ | refine W_seq_k fun K hK => ?_ | refine W_block_k fun K hK => ?_ | refine W_skip ?_ | refine W_ret ?_) | ((first | ((with_reducible refine W_id ?_); refine W_reg (by decide) (by rfl) ?_) | (with_reducible first | refine W_cond ?_ | refine hZ _ _ ?_ | refine W_exit ?_ | refine Wo_id ?_)); repeat1' simp only [push_cast, Nat.reduceBEq, Nat.reduceLT, Nat.reduceEqDiff, reduceIte, reduceCtorEq, Nat.reduceMul, Nat.reduceAdd, Nat.reduceSub, Int.reduceEq, Int.reduceLT, Int.reduceLE, Int.reduceNeg, Int.reduceAdd, Int.reduceSub, Int.reduceMul, Nat.reduceLeDiff, Int.reduceToNat, cell_h, can_h, cellO_cells, canO_cells, setO_cells, heap_set_h, heap_alloc_h, size_set_h, size_alloc_h, vcells_agg, succ_ne, ne_succ, List.setIfInBounds_toArray, List.set_cons_succ, List.set_cons_zero, setCells, drew_h, y12]) | ((repeat ((fail_if_success with_reducible refine hK _ _ ?_); clear hK K)); (with_reducible refine hK _ _ ?_); clear hK K))))
        rw [← hval]
        refine (two_b hH12 hlen (m := kitLd l2 k c) rfl (fun b hb => ?_) (SlAt.nil _ _).rd (show (0 : Nat) < 1000000 by decide)).mono ?_
        · have h1 := blk_lt y12
          have h2 := hu12.alike.size
          rcases hb with rfl | rfl <;> omega
        rintro v w13 ⟨rfl, hH13, hu13⟩
        have y13 := (hu13.same p1 (by have := hu12.alike.size; have := yx.alike.size; omega) fun hf => hf.2 (.inl rfl)).trans ((hu12.same p1 (by have := yx.alike.size; omega) fun hf => hf.2 (.inl rfl)).trans (yx.blk y18))
        ((repeat simp only [push_cast, Nat.reduceBEq, Nat.reduceLT, Nat.reduceEqDiff, reduceIte, reduceCtorEq, Nat.reduceMul, Nat.reduceAdd, Nat.reduceSub, Int.reduceEq, Int.reduceLT, Int.reduceLE, Int.reduceNeg, Int.reduceAdd, Int.reduceSub, Int.reduceMul, Nat.reduceLeDiff, Int.reduceToNat, d2]); (repeat (first | (with_reducible first | (refine hK _ _ ?_; clear hK K) | refine (show ∀ σ' w', _ → K σ' w' from by assumption) _ _ ?_ | refine W_seq_k fun K hK => ?_ | refine W_block_k fun K hK => ?_ | refine W_skip ?_ | refine W_ret ?_) | ((first | ((with_reducible refine W_id ?_); refine W_reg (by decide) (by rfl) ?_) | (with_reducible first | refine W_cond ?_ | refine hZ _ _ ?_ | refine W_exit ?_ | refine Wo_id ?_)); repeat1' simp only [push_cast, Nat.reduceBEq, Nat.reduceLT, Nat.reduceEqDiff, reduceIte, reduceCtorEq, Nat.reduceMul, Nat.reduceAdd, Nat.reduceSub, Int.reduceEq, Int.reduceLT, Int.reduceLE, Int.reduceNeg, Int.reduceAdd, Int.reduceSub, Int.reduceMul, Nat.reduceLeDiff, Int.reduceToNat, d2]) | ((repeat ((fail_if_success with_reducible refine hK _ _ ?_); clear hK K)); (with_reducible refine hK _ _ ?_); clear hK K))))
        refine ⟨k + 1, by omega, ?_⟩
        (repeat simp only [push_cast, Nat.reduceBEq, Nat.reduceLT, Nat.reduceEqDiff, reduceIte, reduceCtorEq, Nat.reduceMul, Nat.reduceAdd, Nat.reduceSub, Int.reduceEq, Int.reduceLT, Int.reduceLE, Int.reduceNeg, Int.reduceAdd, Int.reduceSub, Int.reduceMul, Nat.reduceLeDiff, Int.reduceToNat])
        rw [eT]
        exact ⟨by omega, hH13.pass (Ext.refl _) fun b hb => .inl (.inl hb), y13⟩
    · obtain rfl : k = l1.length := by omega
      have d0 : ¬ (l1.length : Int) < (l1.length : Int) := by omega
      rw [List.take_length] at hH8
      (repeat (first | (with_reducible first | (refine hK _ _ ?_; clear hK K) | refine (show ∀ σ' w', _ → K σ' w' from by assumption) _ _ ?_ | refine W_seq_k fun K hK => ?_ | refine W_block_k fun K hK => ?_ | refine W_skip ?_ | refine W_ret ?_) | ((first | ((with_reducible refine W_id ?_); refine W_reg (by decide) (by rfl) ?_) | (with_reducible first | refine W_cond ?_ | refine hZ _ _ ?_ | refine W_exit ?_ | refine Wo_id ?_)); repeat1' simp only [push_cast, Nat.reduceBEq, Nat.reduceLT, Nat.reduceEqDiff, reduceIte, reduceCtorEq, Nat.reduceMul, Nat.reduceAdd, Nat.reduceSub, Int.reduceEq, Int.reduceLT, Int.reduceLE, Int.reduceNeg, Int.reduceAdd, Int.reduceSub, Int.reduceMul, Nat.reduceLeDiff, Int.reduceToNat, d0, cell_h, cellO_cells, z18]) | ((repeat ((fail_if_success with_reducible refine hK _ _ ?_); clear hK K)); (with_reducible refine hK _ _ ?_); clear hK K)))
      exact ⟨pa, pb, rfl, hH8.pass (Ext.refl _) fun b hb => hb.elim⟩
end Go.Proofs.YtkafpameheohdaaDoor
end
section
set_option linter.unusedSimpArgs false
set_option linter.unusedVariables false
namespace Go.Vk
open Go
def isE (L : List Nd) (n : Nat) : Prop := 3 ≤ n ∧ ((nd? L (n : Int)).getD zN).kind = 3
instance (L : List Nd) (n : Nat) : Decidable (isE L n) := inferInstanceAs (Decidable (_ ∧ _))
/-- elements have names of the list, and no attributes -/
def okN (n : Nd) : Prop := (n.kind = 3 → n.name ∈ nmL) ∧ n.attrs.length < 1000000
theorem addN_ok {L : List Nd} {n : Nd} (h : ∀ x ∈ L, okN x) (hn : okN n) : ∀ x ∈ (addN L n).1, okN x := by
  intro x hx
  unfold addN at hx
  have hc : okN contN := ⟨fun h => absurd h (by decide), by decide⟩
  split at hx
  · split at hx
    · simp only [List.mem_append, List.mem_cons, List.not_mem_nil, or_false] at hx
      rcases hx with hx | rfl | rfl
      · exact h x hx
      · exact hn
      · exact hc
    · simp only [List.mem_append, List.mem_cons, List.not_mem_nil, or_false] at hx
      rcases hx with hx | rfl
      · exact h x hx
      · exact hn
  · exact h x hx
theorem kitK_ok (l2 : List Nat) : ∀ (r : List Nat) (i : Nat) (L : List Nd), (∀ x ∈ L, okN x) → ∀ x ∈ kitK l2 r i L, okN x
  | [], _, L, h => h
  | c :: r, i, L, h => kitK_ok l2 r (i + 1) _ (addN_ok h ⟨fun _ => nmT_mem c, show (0 : Nat) < 1000000 by decide⟩)
theorem kitL_ok (l1 l2 : List Nat) : ∀ x ∈ kitL l1 l2, okN x := kitK_ok l2 l1 0 kit0 (by
  intro x hx
  simp only [kit0, List.mem_cons, List.not_mem_nil, or_false] at hx
  rcases hx with rfl | rfl | rfl <;> exact ⟨fun h => absurd h (by decide), by decide⟩)
theorem nm_size : ∀ x ∈ nmL, x.size < 4294967281 := of_decide_eq_true (by kernel_rfl)
theorem kitK_ne (l2 : List Nat) : ∀ (r : List Nat) (i : Nat) (L : List Nd), L.length ≤ (kitK l2 r i L).length
  | [], _, L => Nat.le_refl _
  | c :: r, i, L => Nat.le_trans (by unfold addN; split; split <;> simp; exact Nat.le_refl _) (kitK_ne l2 r (i + 1) _)
theorem kitL_ge (l1 l2 : List Nat) : 3 ≤ (kitL l1 l2).length := kitK_ne l2 l1 0 kit0
end Go.Vk
end
section
set_option linter.unusedSimpArgs false
set_option linter.unusedVariables false
namespace Go.Proofs.YtkafpameheohdaaDoor
open Go Go.Vk
/-- the last place where it is so, in a list that is cut in two -/
theorem lastF_none {p : Int → Bool} {l : List Int} {fr : Int} : ∀ k : Nat, (∀ j, j < k → fr ≤ (j : Int) → p (l.getD j 0) = false) → lastF p l fr k = -1
  | 0, _ => rfl
  | k + 1, h => by
    rw [lastF]
    by_cases h1 : (k : Int) < fr
    · rw [if_pos h1]
    · rw [if_neg h1, if_neg (by rw [h k (by omega) (by omega)]; decide)]
      exact lastF_none k fun j hj => h j (by omega)
theorem lastF_at {p : Int → Bool} {l : List Int} {fr : Int} {q : Nat} (hq : fr ≤ q) (hp : p (l.getD q 0) = true) : ∀ k : Nat, q < k → (∀ j, q < j → j < k → p (l.getD j 0) = false) → lastF p l fr k = q
  | 0, h, _ => by omega
  | k + 1, h, h2 => by
    rw [lastF, if_neg (by omega)]
    by_cases h1 : q = k
    · subst h1; rw [if_pos hp]
    · rw [if_neg (by rw [h2 k (by omega) (by omega)]; decide)]
      exact lastF_at hq hp k (by omega) fun j hj hk => h2 j hj (by omega)
theorem getD_mid (a m : List Int) (j : Nat) : (a ++ m).getD (a.length + j) 0 = m.getD j 0 := by
  simp [List.getD, List.getElem?_append_right]
theorem getD_mem {m : List Int} {j : Nat} (h : j < m.length) : m.getD j 0 ∈ m := by
  have : m.getD j 0 = m[j] := by simp [List.getD, h]
  rw [this]; exact List.getElem_mem h
/-- a: up to the last marker; m: behind it -/
structure Cut (l a m : List Int) : Prop where
  eq : l = a ++ m
  no : ∀ y ∈ m, y ≠ -1
  a : a = [] ∨ ∃ r, a = r ++ [-1]
theorem Cut.open_ {l a m : List Int} (h : Cut l a m) : openN l = a.length := by
  obtain ⟨rfl, hn, ha⟩ := h
  unfold openN
  rcases ha with rfl | ⟨r, rfl⟩
  · rw [lastF_none _ fun j hj _ => by simpa using hn _ (getD_mem (m := m) (j := j) (by simpa using hj))]; rfl
  · rw [lastF_at (q := r.length) (by omega) (by simp [List.getD]) _ (by simp) fun j h1 h2 => ?_]
    · simp
    · have hj : j = (r ++ [-1]).length + (j - (r.length + 1)) := by simp; omega
      rw [hj, getD_mid]
      have := hn _ (getD_mem (m := m) (j := j - (r.length + 1)) (by simp at h2; omega))
      simpa using this
/-- what stands behind the last marker, one pushed -/
def pushM (p : Int → Bool) (m : List Int) (i : Int) : List Int := (if 3 ≤ m.countP p then m.eraseP p else m) ++ [i]
theorem pushM_no {p : Int → Bool} {m : List Int} {i : Int} (h : ∀ y ∈ m, y ≠ -1) (hi : i ≠ -1) : ∀ y ∈ pushM p m i, y ≠ -1 := by
  intro y hy
  unfold pushM at hy
  rw [List.mem_append] at hy
  rcases hy with hy | hy
  · split at hy
    · exact h y (List.mem_of_mem_eraseP hy)
    · exact h y hy
  · simp at hy; subst hy; exact hi
theorem Cut.push {l a m : List Int} (h : Cut l a m) (p : Int → Bool) {i : Int} (hi : i ≠ -1) : Cut (a ++ pushM p m i) a (pushM p m i) := ⟨rfl, pushM_no h.no hi, h.a⟩
theorem Cut.mark {l a m : List Int} (_ : Cut l a m) : Cut (l ++ [-1]) (l ++ [-1]) [] := ⟨by simp, by simp, .inr ⟨l, rfl⟩⟩
theorem Cut.clear {l a m : List Int} (h : Cut l a m) : clearN l (openN l) = a.dropLast := by
  rw [h.open_]
  obtain ⟨rfl, hn, ha⟩ := h
  unfold clearN
  rcases ha with rfl | ⟨r, rfl⟩
  · simp
  · have : (((r ++ [-1]).length : Int) - 1).toNat = r.length := by simp
    rw [this]; simp
end Go.Proofs.YtkafpameheohdaaDoor
end
section
set_option linter.unusedSimpArgs false
set_option linter.unusedVariables false
namespace Go.Proofs.YtkafpameheohdaaDoor
open Go Go.Vk
section
theorem eraseP_count {p : Int → Bool} {l : List Int} (h : 0 < l.countP p) : (l.eraseP p).countP p = l.countP p - 1 := by
  induction l with
  | nil => simp at h
  | cons y l ih =>
    cases hy : p y with
    | true => rw [List.eraseP_cons_of_pos hy, List.countP_cons_of_pos hy]; rfl
    | false =>
      rw [List.eraseP_cons_of_neg (by rw [hy]; decide), List.countP_cons_of_neg (by rw [hy]; decide), List.countP_cons_of_neg (by rw [hy]; decide)]
      rw [List.countP_cons_of_neg (by rw [hy]; decide)] at h
      exact ih h
variable {κ : Type} [DecidableEq κ]
/-- no more than three of one key -/
def Three (key : Int → κ) (m : List Int) : Prop := ∀ k, m.countP (fun y => decide (key y = k)) ≤ 3
theorem Three.push {key : Int → κ} {m : List Int} (h : Three key m) (i : Int) : Three key (pushM (fun y => decide (key y = key i)) m i) := by
  intro k
  unfold pushM
  rw [List.countP_append]
  by_cases hk : key i = k
  · subst hk
    have h1 : List.countP (fun y => decide (key y = key i)) [i] = 1 := by simp
    have h2 := h (key i)
    rw [h1]
    by_cases hc : 3 ≤ m.countP (fun y => decide (key y = key i))
    · rw [if_pos hc, eraseP_count (by omega)]; omega
    · rw [if_neg hc]; omega
  · have h1 : List.countP (fun y => decide (key y = k)) [i] = 0 := by simp [hk]
    have h2 := h k
    rw [h1]
    split
    · exact Nat.le_trans (by simpa using (List.Sublist.countP_le (p := fun y => decide (key y = k)) (List.eraseP_sublist (p := fun y => decide (key y = key i)) (l := m)))) h2
    · exact h2
end
end Go.Proofs.YtkafpameheohdaaDoor
end
section
set_option linter.unusedSimpArgs false
set_option linter.unusedVariables false
namespace Go.Vk
open Go
/-- an arena's nodes, as they are read -/
theorem Ar.nodes {w : World} {pa : Nat} {L : List Nd} {F : Nat → Prop} (h : Ar w pa L F) : ∃ bn cap t, w.heap[pa]? = some (.cells #[.slice (some ⟨bn, 0, none⟩) L.length cap] t (0, 0)) ∧
    ∀ (i : Nat) (n : Nd), L[i]? = some n → ∃ m : Laid, m.nd = n ∧ m.ok w ∧ ∀ j v, m.cells[j]? = some v → cellO (w.heap[bn]?) (i * 11 + j) = some v := by
  obtain ⟨bn, cap, M, hM, rfl, _⟩ := h
  obtain ⟨t, ht⟩ := hM.hdr
  refine ⟨bn, cap, t, by rw [List.length_map]; exact ht, fun i n hn => ?_⟩
  rw [List.getElem?_map] at hn
  cases hm : M[i]? with
  | none => rw [hm] at hn; cases hn
  | some m =>
    rw [hm] at hn
    refine ⟨m, by simpa using hn, hM.sub m (List.mem_of_getElem? hm), fun j v hj => ?_⟩
    have hjl := (List.getElem?_eq_some_iff.1 hj).1
    rw [m.cells_length] at hjl
    rw [← cell_h, hM.cell hm hjl]; exact hj
theorem Laid.read {w : World} {m : Laid} {bn q : Nat} (h : ∀ j v, m.cells[j]? = some v → cellO (w.heap[bn]?) (q + j) = some v) :
    cellO (w.heap[bn]?) q = some (.int .i64 m.nd.kind) ∧ cellO (w.heap[bn]?) (q + 1) = some (.string m.nd.name) ∧ cellO (w.heap[bn]?) (q + 2) = some (.string m.nd.text) ∧ cellO (w.heap[bn]?) (q + 3) = some (.int .i64 m.nd.space) ∧ cellO (w.heap[bn]?) (q + 4) = some m.av ∧ cellO (w.heap[bn]?) (q + 5) = some (.bool m.nd.dup) ∧
    cellO (w.heap[bn]?) (q + 6) = some (.int .i64 m.nd.parent) ∧ cellO (w.heap[bn]?) (q + 7) = some (.int .i64 m.nd.content) ∧ cellO (w.heap[bn]?) (q + 8) = some m.kv ∧ cellO (w.heap[bn]?) (q + 9) = some (.int .i64 m.nd.frm) ∧ cellO (w.heap[bn]?) (q + 10) = some (.int .i64 m.nd.to) :=
  ⟨h 0 _ rfl, h 1 _ rfl, h 2 _ rfl, h 3 _ rfl, h 4 _ rfl, h 5 _ rfl, h 6 _ rfl, h 7 _ rfl, h 8 _ rfl, h 9 _ rfl, h 10 _ rfl⟩
end Go.Vk
end
section
set_option linter.unusedSimpArgs false
set_option linter.unusedVariables false
namespace Go.Proofs.YtkafpameheohdaaDoor
open Go Go.Vk
set_option maxHeartbeats 40000000
section
variable {w : World} {pr pb : Nat} {lv : Value} {L : List Nd} {l : List Int} {bo : Option Nat} {F : Nat → Prop}
theorem rkind_c (h : Ar w pb L F) (hb : L.length < 1000000000) (i : Int) : Gives Tryd.prog 76 #[.pointer (some ⟨pb, 0, none⟩), .int .i64 i] w fun v w' => v = .int .i64 ((nd? L i).getD zN).kind ∧ w' = w := by
  obtain ⟨bn, cap, t, hh, hnode⟩ := h.nodes
  by_cases hi : i < 0
  · have e : nd? L i = none := by unfold nd?; rw [if_neg (by omega)]
    refine Gives.of_W Tryd.call76 Tryd.func76 rfl Tryd.ntmps76 (by simp) ?_; intro Z hZ
    (repeat (first | (with_reducible first | (refine hK _ _ ?_; clear hK K) | refine (show ∀ σ' w', _ → K σ' w' from by assumption) _ _ ?_ | refine W_seq_k fun K hK => ?_ | refine W_block_k fun K hK => ?_ | refine W_skip ?_ | refine W_ret ?_) | ((first | ((with_reducible refine W_id ?_); refine W_reg (by decide) (by rfl) ?_) | (with_reducible first | refine W_cond ?_ | refine hZ _ _ ?_ | refine W_exit ?_ | refine Wo_id ?_)); repeat1' simp only [push_cast, Nat.reduceBEq, Nat.reduceLT, Nat.reduceEqDiff, reduceIte, reduceCtorEq, Nat.reduceMul, Nat.reduceAdd, Nat.reduceSub, Int.reduceEq, Int.reduceLT, Int.reduceLE, Int.reduceNeg, Int.reduceAdd, Int.reduceSub, Int.reduceMul, Nat.reduceLeDiff, Int.reduceToNat, hi]) | ((repeat ((fail_if_success with_reducible refine hK _ _ ?_); clear hK K)); (with_reducible refine hK _ _ ?_); clear hK K)))
    rw [e]; rfl
  · obtain ⟨i, rfl⟩ : ∃ q : Nat, i = (q : Int) := ⟨i.toNat, by omega⟩
    have e : nd? L (i : Int) = L[i]? := by unfold nd?; rw [if_pos (by omega), Int.toNat_natCast]
    rw [e]
    have b0 : (0 : Int) ≤ (i : Int) := by omega
    by_cases hl : i < L.length
    · have b1 : ¬ (L.length : Int) ≤ (i : Int) := by omega
      have b2 : (i : Int) < (L.length : Int) := by omega
      obtain ⟨m, m1, m2, m3⟩ := hnode i _ (List.getElem?_eq_getElem hl)
      obtain ⟨c0, _⟩ := Laid.read m3
      refine Gives.of_W Tryd.call76 Tryd.func76 rfl Tryd.ntmps76 (by simp) ?_; intro Z hZ
      (repeat (first | (with_reducible first | (refine hK _ _ ?_; clear hK K) | refine (show ∀ σ' w', _ → K σ' w' from by assumption) _ _ ?_ | refine W_seq_k fun K hK => ?_ | refine W_block_k fun K hK => ?_ | refine W_skip ?_ | refine W_ret ?_) | ((first | ((with_reducible refine W_id ?_); refine W_reg (by decide) (by rfl) ?_) | (with_reducible first | refine W_cond ?_ | refine hZ _ _ ?_ | refine W_exit ?_ | refine Wo_id ?_)); repeat1' simp only [push_cast, Nat.reduceBEq, Nat.reduceLT, Nat.reduceEqDiff, reduceIte, reduceCtorEq, Nat.reduceMul, Nat.reduceAdd, Nat.reduceSub, Int.reduceEq, Int.reduceLT, Int.reduceLE, Int.reduceNeg, Int.reduceAdd, Int.reduceSub, Int.reduceMul, Nat.reduceLeDiff, Int.reduceToNat, hi, b0, b1, b2, cell_h, cellO_cells, hh, c0]) | ((repeat ((fail_if_success with_reducible refine hK _ _ ?_); clear hK K)); (with_reducible refine hK _ _ ?_); clear hK K)))
      rw [List.getElem?_eq_getElem hl, m1]; rfl
    · have b1 : (L.length : Int) ≤ (i : Int) := by omega
      refine Gives.of_W Tryd.call76 Tryd.func76 rfl Tryd.ntmps76 (by simp) ?_; intro Z hZ
      (repeat (first | (with_reducible first | (refine hK _ _ ?_; clear hK K) | refine (show ∀ σ' w', _ → K σ' w' from by assumption) _ _ ?_ | refine W_seq_k fun K hK => ?_ | refine W_block_k fun K hK => ?_ | refine W_skip ?_ | refine W_ret ?_) | ((first | ((with_reducible refine W_id ?_); refine W_reg (by decide) (by rfl) ?_) | (with_reducible first | refine W_cond ?_ | refine hZ _ _ ?_ | refine W_exit ?_ | refine Wo_id ?_)); repeat1' simp only [push_cast, Nat.reduceBEq, Nat.reduceLT, Nat.reduceEqDiff, reduceIte, reduceCtorEq, Nat.reduceMul, Nat.reduceAdd, Nat.reduceSub, Int.reduceEq, Int.reduceLT, Int.reduceLE, Int.reduceNeg, Int.reduceAdd, Int.reduceSub, Int.reduceMul, Nat.reduceLeDiff, Int.reduceToNat, hi, b0, b1, cell_h, cellO_cells, hh]) | ((repeat ((fail_if_success with_reducible refine hK _ _ ?_); clear hK K)); (with_reducible refine hK _ _ ?_); clear hK K)))
      rw [List.getElem?_eq_none (by omega)]; rfl
end
end Go.Proofs.YtkafpameheohdaaDoor
end
section
set_option linter.unusedSimpArgs false
set_option linter.unusedVariables false
namespace Go.Vk
open Go
def gS (S : Nat → Prop) (w w' : World) (b : Nat) : Prop := S b ∨ (w.heap.size ≤ b ∧ b < w'.heap.size)
/-- a part of a slice, as it is read -/
theorem SlAt.cut {w : World} {es b o n c : Nat} {cells : List Value} {bo : Option Nat} (h : SlAt w es (.slice (some ⟨b, o, none⟩) n c) cells bo) {lo hi : Nat} (h1 : lo ≤ hi) (h2 : hi ≤ n) {a' : Option Addr} (ha : c - lo ≠ 0 → a' = some ⟨b, o + lo * es, none⟩) :
    RdAt w es (.slice a' (hi - lo) (c - lo)) ((cells.drop (lo * es)).take ((hi - lo) * es)) := by
  obtain ⟨_, h3, h4, _⟩ := h.inv
  by_cases hc : c - lo = 0
  · have : hi - lo = 0 := by omega
    rw [this]
    exact ⟨a', 0, _, rfl, by omega, by simp, fun i u hu => by simp at hu⟩
  · have := (h.part h1 h2 (m := c) (by omega) (Nat.le_refl _)).rd
    rwa [ha hc]
theorem SlAt.pre {w : World} {es n c : Nat} {a : Option Addr} {cells : List Value} {bo : Option Nat} (h : SlAt w es (.slice a n c) cells bo) {hi : Nat} (h2 : hi ≤ n) :
    RdAt w es (.slice (if c = 0 then a else Option.map (fun x => x.add 0) a) hi c) (cells.take (hi * es)) := by
  obtain ⟨a', n', c', e, h3, h4, h5⟩ := h.rd
  cases e
  refine ⟨_, hi, c, rfl, by omega, ?_, fun i u hu => ?_⟩
  · rw [List.length_take, h4]
    have := Nat.mul_le_mul_right es h2
    omega
  · rw [List.getElem?_take] at hu
    split at hu
    · obtain ⟨b, o, e, h6⟩ := h5 i u hu
      subst e
      refine ⟨b, o, ?_, h6⟩
      split
      · rfl
      · simp [add_mk]
    · cases hu
theorem SlAt.suf {w : World} {es n c : Nat} {a : Option Addr} {cells : List Value} {bo : Option Nat} (h : SlAt w es (.slice a n c) cells bo) {k : Nat} (hk : k ≤ n) {a' : Option Addr} (ha : c ≠ k → a' = Option.map (fun x => x.add (k * es)) a) :
    RdAt w es (.slice a' (n - k) (c - k)) (cells.drop (k * es)) := by
  obtain ⟨a0, n0, c0, e, h3, h4, h5⟩ := h.rd
  cases e
  refine ⟨a', n - k, c - k, rfl, by omega, by rw [List.length_drop, h4, Nat.sub_mul], fun i u hu => ?_⟩
  rw [List.getElem?_drop] at hu
  obtain ⟨b, o, e, h6⟩ := h5 _ u hu
  have hl := (List.getElem?_eq_some_iff.1 hu).1
  rw [h4] at hl
  have hkn : k < n := by
    apply Classical.byContradiction
    intro hge
    have := Nat.mul_le_mul_right es (show n ≤ k by omega)
    omega
  refine ⟨b, o + k * es, ?_, by rw [Nat.add_assoc]; exact h6⟩
  rw [ha (by omega), e]
  simp [add_mk]
end Go.Vk
end
