/- Add: what it answers. -/
import Derived.Test.YtkafpameheohdaaHd
import Derived.Test.YtkafpameheohdaaNd
set_option linter.unusedSimpArgs false
set_option linter.unusedVariables false
namespace Go.Vk
def tmpl : ByteArray := ⟨#[116, 101, 109, 112, 108, 97, 116, 101]⟩
def contN : Nd := { zN with kind := 6, parent := -1, frm := -1, to := -1 }
def addN (L : List Nd) (n : Nd) : List Nd × Int :=
  if kidK n.kind = true then
    if n.kind = 3 ∧ n.space = 0 ∧ n.name = tmpl then (L ++ [{ bareN n with content := (L.length : Int) + 1 }, contN], L.length)
    else (L ++ [bareN n], L.length)
  else (L, -1)
theorem kept_upd {B G : Nat → Prop} {w w' : World} (h : Upd G w w') (hB : ∀ b, B b → b < w.heap.size ∧ ¬ G b) : kept B w w' := fun b hb => h.same b (hB b hb).1 (hB b hb).2
theorem Laid.ok.one {w : World} {m : Laid} (h : m.ok w) : m.cells.all oneCell = true := by
  obtain ⟨a1, n1, c1, e1, _, _⟩ := h.attrs.len
  obtain ⟨a2, n2, c2, e2, _, _⟩ := h.kids.len
  simp [Laid.cells, e1, e2, oneCell]
/-- a node is put behind the others: what append answers -/
theorem ArM.app {P : Program} {t e ty : Nat} (hT : STy P t e 11) {w w1 : World} {pa bn cap : Nat} {M : List Laid} (hM : ArM w pa bn cap M) (hx : Ext w w1) {m' : Laid} (hok : m'.ok w1) {x : Value} {b2 : Option Nat} (h2 : SlAt w1 11 x m'.cells b2)
    (hlen : M.length < 2000000) {K : Value → World → Prop}
    (h : ∀ bn' cap' w3, SlAt w3 11 (.slice (some ⟨bn', 0, none⟩) (M.length + 1) cap') (flat M ++ m'.cells) (some bn') → Upd (fun b => b = bn) w1 w3 → (bn' = bn ∨ w1.heap.size ≤ bn') → K (.slice (some ⟨bn', 0, none⟩) (M.length + 1) cap') w3) :
    RunV P (Builtin.append_ #[t, t] ty #[.slice (some ⟨bn, 0, none⟩) M.length cap, x]) w1 K := by
  refine app_spec hT hT.und (by decide) (hM.body.ext hx) h2 hok.one (by rw [flat_length, m'.cells_length]; omega) ?_ ?_
  · rintro v w' g1 g2 _ _ ⟨a, n, c, k, e1, rfl, _, hk⟩
    cases e1
    rw [m'.cells_length] at hk
    have : k = 1 := by omega
    subst this
    exact h _ _ _ g1 (g2.mono fun b _ hb => by cases hb; rfl) (.inl rfl)
  · rintro v w' g1 g2 _ ⟨n, c, rfl, hn⟩ _
    rw [flat_length, m'.cells_length] at hn
    have : n = M.length + 1 := by omega
    subst this
    exact h _ _ _ g1 g2.upd (.inr (Nat.le_refl _))
end Go.Vk
namespace Go.Proofs.Ytkafpameheohdaa
open Go.Vk
set_option maxHeartbeats 40000000
theorem kid_k (k : Int) {w : World} : Gives Try.prog 52 #[.int .i64 k] w fun v w' => v = .bool (kidK k) ∧ w' = w := kid_c k
theorem add_c {pa : Nat} {L : List Nd} {F : Nat → Prop} {w : World} (h : Ar w pa L F) (hL : L ≠ []) (hb : L.length < 1000000) {m : Laid} (hm : RdAt w 2 m.av (attrCells m.nd.attrs)) (hmb : m.nd.attrs.length < 1000000) :
    Gives Try.prog 14 #[.pointer (some ⟨pa, 0, none⟩), m.val] w fun v w' => v = .int .i64 (addN L m.nd).2 ∧ Ar w' pa (addN L m.nd).1 (fun b => F b ∨ w.heap.size ≤ b) ∧ Upd F w w' := by
  rw [Laid.val_eq]
  have hpa : pa < w.heap.size := by obtain ⟨bn, cap, M, hM, _, _⟩ := h; exact hM.lt (by simp [blocks])
  have hne : ¬ pa = w.heap.size := by omega
  by_cases hk : kidK m.nd.kind = true
  · refine Gives.of_W Try.call14 Try.func14 rfl Try.ntmps14 (by simp) ?_; intro Z hZ
    (repeat (first | (with_reducible first | (refine hK _ _ ?_; clear hK K) | refine (show ∀ σ' w', _ → K σ' w' from by assumption) _ _ ?_ | refine W_seq_k fun K hK => ?_ | refine W_block_k fun K hK => ?_ | refine W_skip ?_ | refine W_ret ?_) | ((first | ((with_reducible refine W_id ?_); refine W_reg (by decide) (by rfl) ?_) | (with_reducible first | refine W_cond ?_ | refine hZ _ _ ?_ | refine W_exit ?_ | refine Wo_id ?_)); repeat1' simp only [push_cast, Nat.reduceBEq, Nat.reduceLT, Nat.reduceEqDiff, reduceIte, reduceCtorEq, Nat.reduceMul, Nat.reduceAdd, Nat.reduceSub, Int.reduceEq, Int.reduceLT, Int.reduceLE, Int.reduceNeg, Int.reduceAdd, Int.reduceSub, Int.reduceMul, Nat.reduceLeDiff, Int.reduceToNat, cell_h, can_h, cellO_cells, canO_cells, setO_cells, heap_set_h, heap_alloc_h, size_set_h, size_alloc_h, vcells_agg, succ_ne, ne_succ, List.setIfInBounds_toArray, List.set_cons_succ, List.set_cons_zero, setCells, drew_h]) | ((repeat ((fail_if_success with_reducible refine hK _ _ ?_); clear hK K)); (with_reducible refine hK _ _ ?_); clear hK K)))
    refine (none_c (h.ext (Ext.alloc _ _)) hL).mono ?_
    rintro v w' ⟨rfl, rfl⟩
    ((repeat simp only [push_cast, Nat.reduceBEq, Nat.reduceLT, Nat.reduceEqDiff, reduceIte, reduceCtorEq, Nat.reduceMul, Nat.reduceAdd, Nat.reduceSub, Int.reduceEq, Int.reduceLT, Int.reduceLE, Int.reduceNeg, Int.reduceAdd, Int.reduceSub, Int.reduceMul, Nat.reduceLeDiff, Int.reduceToNat, cell_h, can_h, cellO_cells, canO_cells, setO_cells, heap_set_h, heap_alloc_h, size_set_h, size_alloc_h, vcells_agg, succ_ne, ne_succ, List.setIfInBounds_toArray, List.set_cons_succ, List.set_cons_zero, setCells, drew_h]); (repeat (first | (with_reducible first | (refine hK _ _ ?_; clear hK K) | refine (show ∀ σ' w', _ → K σ' w' from by assumption) _ _ ?_ | refine W_seq_k fun K hK => ?_ | refine W_block_k fun K hK => ?_ | refine W_skip ?_ | refine W_ret ?_) | ((first | ((with_reducible refine W_id ?_); refine W_reg (by decide) (by rfl) ?_) | (with_reducible first | refine W_cond ?_ | refine hZ _ _ ?_ | refine W_exit ?_ | refine Wo_id ?_)); repeat1' simp only [push_cast, Nat.reduceBEq, Nat.reduceLT, Nat.reduceEqDiff, reduceIte, reduceCtorEq, Nat.reduceMul, Nat.reduceAdd, Nat.reduceSub, Int.reduceEq, Int.reduceLT, Int.reduceLE, Int.reduceNeg, Int.reduceAdd, Int.reduceSub, Int.reduceMul, Nat.reduceLeDiff, Int.reduceToNat, cell_h, can_h, cellO_cells, canO_cells, setO_cells, heap_set_h, heap_alloc_h, size_set_h, size_alloc_h, vcells_agg, succ_ne, ne_succ, List.setIfInBounds_toArray, List.set_cons_succ, List.set_cons_zero, setCells, drew_h]) | ((repeat ((fail_if_success with_reducible refine hK _ _ ?_); clear hK K)); (with_reducible refine hK _ _ ?_); clear hK K))))
    refine (kid_k _).mono ?_
    rintro v w' ⟨rfl, rfl⟩
    have hx := h.ext (Ext.alloc w (.cells #[.int .i64 m.nd.kind, .string m.nd.name, .string m.nd.text, .int .i64 m.nd.space, m.av, .bool m.nd.dup, .int .i64 m.nd.parent, .int .i64 m.nd.content, m.kv, .int .i64 m.nd.frm, .int .i64 m.nd.to] 30))
    obtain ⟨bn, cap, M, hM, hML, hMF⟩ := h
    obtain ⟨t, ht⟩ := hM.hdr
    ((repeat simp only [push_cast, Nat.reduceBEq, Nat.reduceLT, Nat.reduceEqDiff, reduceIte, reduceCtorEq, Nat.reduceMul, Nat.reduceAdd, Nat.reduceSub, Int.reduceEq, Int.reduceLT, Int.reduceLE, Int.reduceNeg, Int.reduceAdd, Int.reduceSub, Int.reduceMul, Nat.reduceLeDiff, Int.reduceToNat, cell_h, can_h, cellO_cells, canO_cells, setO_cells, heap_set_h, heap_alloc_h, size_set_h, size_alloc_h, vcells_agg, succ_ne, ne_succ, List.setIfInBounds_toArray, List.set_cons_succ, List.set_cons_zero, setCells, drew_h, hk, hne, ht]); (repeat (first | (with_reducible first | (refine hK _ _ ?_; clear hK K) | refine (show ∀ σ' w', _ → K σ' w' from by assumption) _ _ ?_ | refine W_seq_k fun K hK => ?_ | refine W_block_k fun K hK => ?_ | refine W_skip ?_ | refine W_ret ?_) | ((first | ((with_reducible refine W_id ?_); refine W_reg (by decide) (by rfl) ?_) | (with_reducible first | refine W_cond ?_ | refine hZ _ _ ?_ | refine W_exit ?_ | refine Wo_id ?_)); repeat1' simp only [push_cast, Nat.reduceBEq, Nat.reduceLT, Nat.reduceEqDiff, reduceIte, reduceCtorEq, Nat.reduceMul, Nat.reduceAdd, Nat.reduceSub, Int.reduceEq, Int.reduceLT, Int.reduceLE, Int.reduceNeg, Int.reduceAdd, Int.reduceSub, Int.reduceMul, Nat.reduceLeDiff, Int.reduceToNat, cell_h, can_h, cellO_cells, canO_cells, setO_cells, heap_set_h, heap_alloc_h, size_set_h, size_alloc_h, vcells_agg, succ_ne, ne_succ, List.setIfInBounds_toArray, List.set_cons_succ, List.set_cons_zero, setCells, drew_h, hk, hne, ht]) | ((repeat ((fail_if_success with_reducible refine hK _ _ ?_); clear hK K)); (with_reducible refine hK _ _ ?_); clear hK K))))
    refine W_draw (.pas 0 (.pas 1 (.pas 2 (.pas 3 (.pas 4 (.pas 5 (.act 6 (.act 7 (.act 8 (.pas 9 (.pas 10 (.last 11)))))))))))) (fun b => b = pa ∨ b = w.heap.size) (by decide) mixed (by kernel_rfl) ?_
    (repeat (first | ((first | refine pas_plain rfl ?_ | refine pas_g rfl rfl ?_ | refine act_plain rfl ?_ | refine act_g rfl rfl ?_ | refine last_plain rfl ?_ | refine tail_plain rfl ?_ | refine tail_g rfl rfl ?_); (repeat simp only [push_cast, Nat.reduceBEq, Nat.reduceLT, Nat.reduceEqDiff, reduceIte, reduceCtorEq, Nat.reduceMul, Nat.reduceAdd, Nat.reduceSub, Int.reduceEq, Int.reduceLT, Int.reduceLE, Int.reduceNeg, Int.reduceAdd, Int.reduceSub, Int.reduceMul, Nat.reduceLeDiff, Int.reduceToNat, cell_h, can_h, cellO_cells, canO_cells, setO_cells, heap_set_h, heap_alloc_h, size_set_h, size_alloc_h, vcells_agg, succ_ne, ne_succ, List.setIfInBounds_toArray, List.set_cons_succ, List.set_cons_zero, setCells, drew_h, true_or, or_true, hne, ht])) | (refine tail_fin ?_) | (refine sch_fin ?_)))
    have hx1 : Ext w (w.alloc (.cells #[.int .i64 m.nd.kind, .string m.nd.name, .string m.nd.text, .int .i64 m.nd.space, m.av, .bool m.nd.dup, .int .i64 m.nd.parent, .int .i64 m.nd.content, m.kv, .int .i64 m.nd.frm, .int .i64 m.nd.to] 30)).drew := (Ext.alloc _ _).trans (Ext.drew _)
    refine (bare_c (m := m) (hm.ext hx1) hmb).mono ?_
    rintro v w2 ⟨m', rfl, h1, h2, h3, h4, h5, h6⟩
    refine ⟨kept_upd h3 fun b hb => ⟨by simp only [drew_size, size_alloc_h]; omega, id⟩, ?_⟩
    (repeat (first | ((first | refine pas_plain rfl ?_ | refine pas_g rfl rfl ?_ | refine act_plain rfl ?_ | refine act_g rfl rfl ?_ | refine last_plain rfl ?_ | refine tail_plain rfl ?_ | refine tail_g rfl rfl ?_); (repeat simp only [push_cast, Nat.reduceBEq, Nat.reduceLT, Nat.reduceEqDiff, reduceIte, reduceCtorEq, Nat.reduceMul, Nat.reduceAdd, Nat.reduceSub, Int.reduceEq, Int.reduceLT, Int.reduceLE, Int.reduceNeg, Int.reduceAdd, Int.reduceSub, Int.reduceMul, Nat.reduceLeDiff, Int.reduceToNat, cell_h, can_h, cellO_cells, canO_cells, setO_cells, heap_set_h, heap_alloc_h, size_set_h, size_alloc_h, vcells_agg, succ_ne, ne_succ, List.setIfInBounds_toArray, List.set_cons_succ, List.set_cons_zero, setCells, drew_h, true_or, or_true, hne, ht])) | (refine tail_fin ?_) | (refine sch_fin ?_)))
    refine bs_one sty39 (by decide) (by decide) (v := m'.val) rfl ?_
    refine ⟨kept_upd (Ext.alloc _ _) fun b hb => ⟨?_, id⟩, ?_⟩
    · have := h3.alike.size
      simp only [drew_size, size_alloc_h] at this; omega
    (repeat (first | ((first | refine pas_plain rfl ?_ | refine pas_g rfl rfl ?_ | refine act_plain rfl ?_ | refine act_g rfl rfl ?_ | refine last_plain rfl ?_ | refine tail_plain rfl ?_ | refine tail_g rfl rfl ?_); (repeat simp only [push_cast, Nat.reduceBEq, Nat.reduceLT, Nat.reduceEqDiff, reduceIte, reduceCtorEq, Nat.reduceMul, Nat.reduceAdd, Nat.reduceSub, Int.reduceEq, Int.reduceLT, Int.reduceLE, Int.reduceNeg, Int.reduceAdd, Int.reduceSub, Int.reduceMul, Nat.reduceLeDiff, Int.reduceToNat, cell_h, can_h, cellO_cells, canO_cells, setO_cells, heap_set_h, heap_alloc_h, size_set_h, size_alloc_h, vcells_agg, succ_ne, ne_succ, List.setIfInBounds_toArray, List.set_cons_succ, List.set_cons_zero, setCells, drew_h, true_or, or_true, hne, ht])) | (refine tail_fin ?_) | (refine sch_fin ?_)))
    have hx2 : Ext w (w2.alloc (.cells m'.val.cells 30)) := hx1.trans (h3.trans (Ext.alloc _ _))
    have hok2 : m'.ok (w2.alloc (.cells m'.val.cells 30)) := h2.upd (Ext.alloc _ _) fun _ _ h => h.elim
    have hmlen : M.length = L.length := by rw [← hML]; simp
    refine hM.app sty39 hx2 hok2 (SlAt.new w2 11 m'.val.cells 30 1 rfl) (by omega) ?_
    intro bn' cap' w3 g1 g2 g3
    have hne2 : ¬ bn = w.heap.size := by have := hM.lt (b := bn) (by simp [blocks]); omega
    have hnp : ¬ pa = bn := by have := hM.own; simp [blocks] at this; exact this.1.1
    have hsz2 := h3.alike.size
    simp only [drew_size, size_alloc_h] at hsz2
    refine ⟨kept_upd g2 fun b hb => ⟨?_, ?_⟩, ?_⟩
    · simp only [size_alloc_h]; omega
    · rcases hb with rfl | rfl <;> omega
    (repeat (first | ((first | refine pas_plain rfl ?_ | refine pas_g rfl rfl ?_ | refine act_plain rfl ?_ | refine act_g rfl rfl ?_ | refine last_plain rfl ?_ | refine tail_plain rfl ?_ | refine tail_g rfl rfl ?_); (repeat simp only [push_cast, Nat.reduceBEq, Nat.reduceLT, Nat.reduceEqDiff, reduceIte, reduceCtorEq, Nat.reduceMul, Nat.reduceAdd, Nat.reduceSub, Int.reduceEq, Int.reduceLT, Int.reduceLE, Int.reduceNeg, Int.reduceAdd, Int.reduceSub, Int.reduceMul, Nat.reduceLeDiff, Int.reduceToNat, cell_h, can_h, cellO_cells, canO_cells, setO_cells, heap_set_h, heap_alloc_h, size_set_h, size_alloc_h, vcells_agg, succ_ne, ne_succ, List.setIfInBounds_toArray, List.set_cons_succ, List.set_cons_zero, setCells, drew_h, true_or, or_true, hne, ht])) | (refine tail_fin ?_) | (refine sch_fin ?_)))
    have hp3 : w3.heap[pa]? = some (.cells #[.slice (some ⟨bn, 0, none⟩) M.length cap] t (0, 0)) :=
      (g2.same pa (by simp only [size_alloc_h]; omega) hnp).trans ((hx2.heap hpa).trans ht)
    have hb3 : w3.heap[w.heap.size]? = some (.cells #[.int .i64 m.nd.kind, .string m.nd.name, .string m.nd.text, .int .i64 m.nd.space, m.av, .bool m.nd.dup, .int .i64 m.nd.parent, .int .i64 m.nd.content, m.kv, .int .i64 m.nd.frm, .int .i64 m.nd.to] 30 (0, 0)) := by
      refine (g2.same _ (by simp only [size_alloc_h]; omega) (fun e => hne2 e.symm)).trans ?_
      rw [heap_alloc_h, if_neg (by omega), h3.heap (by simp only [drew_size, size_alloc_h]; omega), drew_h, heap_alloc_h, if_pos rfl]
    (repeat simp only [push_cast, Nat.reduceBEq, Nat.reduceLT, Nat.reduceEqDiff, reduceIte, reduceCtorEq, Nat.reduceMul, Nat.reduceAdd, Nat.reduceSub, Int.reduceEq, Int.reduceLT, Int.reduceLE, Int.reduceNeg, Int.reduceAdd, Int.reduceSub, Int.reduceMul, Nat.reduceLeDiff, Int.reduceToNat, cell_h, can_h, cellO_cells, canO_cells, setO_cells, heap_set_h, heap_alloc_h, size_set_h, size_alloc_h, vcells_agg, succ_ne, ne_succ, List.setIfInBounds_toArray, List.set_cons_succ, List.set_cons_zero, setCells, drew_h, hp3])
    have hA := hM.push hx2 m' hok2 (fun b hb => by have := h4 b hb; simp only [drew_size, size_alloc_h] at this; omega) h5 g1 g2 g3
    have hu4 : Upd F w (w3.setCell ⟨pa, 0, none⟩ (.slice (some ⟨bn', 0, none⟩) (M.length + 1) cap')) :=
      (Upd.trans (hx2.upd (F := F)) g2 fun i hi e => by subst e; exact hMF _ (by simp [blocks])).put (hMF _ (by simp [blocks]))
    have hb4 : (w3.setCell ⟨pa, 0, none⟩ (.slice (some ⟨bn', 0, none⟩) (M.length + 1) cap')).heap[w.heap.size]? = some (.cells #[.int .i64 m.nd.kind, .string m.nd.name, .string m.nd.text, .int .i64 m.nd.space, m.av, .bool m.nd.dup, .int .i64 m.nd.parent, .int .i64 m.nd.content, m.kv, .int .i64 m.nd.frm, .int .i64 m.nd.to] 30 (0, 0)) := by
      rw [heap_set_h, if_neg (by omega), hb3]
    have hsz3 := g2.alike.size
    simp only [size_alloc_h] at hsz3
    have hsz4 : w3.heap.size = (w3.setCell ⟨pa, 0, none⟩ (.slice (some ⟨bn', 0, none⟩) (M.length + 1) cap')).heap.size := by simp
    generalize w3.setCell ⟨pa, 0, none⟩ (.slice (some ⟨bn', 0, none⟩) (M.length + 1) cap') = w4 at *
    have hlen4 : (M ++ [m']).length = M.length + 1 := by simp
    have hres : addN L m.nd = (L ++ [bareN m.nd], (L.length : Int)) → Ar w4 pa (addN L m.nd).1 (fun b => F b ∨ w.heap.size ≤ b) ∧ Upd F w w4 := fun e => by
      rw [e]
      refine ⟨⟨bn', cap', M ++ [m'], hA, by simp [hML, h1], fun b hb => ?_⟩, hu4⟩
      simp only [blocks, List.flatMap_append, List.flatMap_cons, List.flatMap_nil, List.append_nil, List.mem_cons, List.mem_append] at hb
      rcases hb with rfl | rfl | hb | hb
      · exact .inl (hMF _ (by simp [blocks]))
      · rcases g3 with rfl | g3
        · exact .inl (hMF _ (by simp [blocks]))
        · simp only [size_alloc_h] at g3; exact .inr (by omega)
      · exact .inl (hMF _ (by simp only [blocks, List.mem_cons]; exact .inr (.inr hb)))
      · have := h4 b hb
        simp only [drew_size, size_alloc_h] at this; exact .inr (by omega)
    by_cases c1 : m.nd.kind = 3
    · by_cases c2 : m.nd.space = 0
      · by_cases c3 : m.nd.name = ⟨#[116, 101, 109, 112, 108, 97, 116, 101]⟩
        · have hi1 : (0 : Int) ≤ M.length := by omega
          have hi2 : (M.length : Int) < (M.length : Int) + 1 := by omega
          have hr : inI64 ((M.length : Int) + 1) := by unfold inI64; omega
          obtain ⟨t', ht'⟩ := hA.hdr
          rw [hlen4] at ht'
          have hc7 : canO (w4.heap[bn']?) (M.length * 11 + 7) := by
            rw [← can_h]; exact hA.can (i := M.length) (by simp) (by decide)
          ((repeat simp only [push_cast, Nat.reduceBEq, Nat.reduceLT, Nat.reduceEqDiff, reduceIte, reduceCtorEq, Nat.reduceMul, Nat.reduceAdd, Nat.reduceSub, Int.reduceEq, Int.reduceLT, Int.reduceLE, Int.reduceNeg, Int.reduceAdd, Int.reduceSub, Int.reduceMul, Nat.reduceLeDiff, Int.reduceToNat, cell_h, can_h, cellO_cells, canO_cells, setO_cells, heap_set_h, heap_alloc_h, size_set_h, size_alloc_h, vcells_agg, succ_ne, ne_succ, List.setIfInBounds_toArray, List.set_cons_succ, List.set_cons_zero, setCells, drew_h, hb4, c1, c2, c3, ht', hi1, hi2, hr, hc7]); (repeat (first | (with_reducible first | (refine hK _ _ ?_; clear hK K) | refine (show ∀ σ' w', _ → K σ' w' from by assumption) _ _ ?_ | refine W_seq_k fun K hK => ?_ | refine W_block_k fun K hK => ?_ | refine W_skip ?_ | refine W_ret ?_) | ((first | ((with_reducible refine W_id ?_); refine W_reg (by decide) (by rfl) ?_) | (with_reducible first | refine W_cond ?_ | refine hZ _ _ ?_ | refine W_exit ?_ | refine Wo_id ?_)); repeat1' simp only [push_cast, Nat.reduceBEq, Nat.reduceLT, Nat.reduceEqDiff, reduceIte, reduceCtorEq, Nat.reduceMul, Nat.reduceAdd, Nat.reduceSub, Int.reduceEq, Int.reduceLT, Int.reduceLE, Int.reduceNeg, Int.reduceAdd, Int.reduceSub, Int.reduceMul, Nat.reduceLeDiff, Int.reduceToNat, cell_h, can_h, cellO_cells, canO_cells, setO_cells, heap_set_h, heap_alloc_h, size_set_h, size_alloc_h, vcells_agg, succ_ne, ne_succ, List.setIfInBounds_toArray, List.set_cons_succ, List.set_cons_zero, setCells, drew_h, hb4, c1, c2, c3, ht', hi1, hi2, hr, hc7]) | ((repeat ((fail_if_success with_reducible refine hK _ _ ?_); clear hK K)); (with_reducible refine hK _ _ ?_); clear hK K))))
          have hA5 := hA.repl (i := M.length) (m := m') (by simp) { m' with nd := { m'.nd with content := (M.length : Int) + 1 } } 7 (.int .i64 ((M.length : Int) + 1)) rfl (by decide) (Upd.refl none_ w4) (fun _ _ h => h.elim)
            ⟨(hA.sub m' (by simp)).attrs, (hA.sub m' (by simp)).kids⟩ (fun b hb => .inl hb) h5
          rw [set_split] at hA5
          have hFn : bn' < w.heap.size → F bn' := fun hl => by
            rcases g3 with rfl | g3
            · exact hMF _ (by simp [blocks])
            · simp only [size_alloc_h] at g3; omega
          have hu5 := hu4.put2 (x := ⟨bn', M.length * 11 + 7, none⟩) (v := .int .i64 ((M.length : Int) + 1)) hFn
          obtain ⟨M5, hM5, hl5, hn5, hb5⟩ : ∃ M5 : List Laid, M5 = M ++ [{ m' with nd := { m'.nd with content := (M.length : Int) + 1 } }] ∧ M5.length = M.length + 1 ∧ M5.map Laid.nd = L ++ [{ bareN m.nd with content := (L.length : Int) + 1 }] ∧ M5.flatMap Laid.blks = M.flatMap Laid.blks ++ m'.blks :=
            ⟨_, rfl, by simp, by simp [hML, h1, hmlen], by simp [Laid.blks]⟩
          rw [← hM5] at hA5
          have hsz5 : w4.heap.size = (w4.setCell ⟨bn', M.length * 11 + 7, none⟩ (.int .i64 ((M.length : Int) + 1))).heap.size := by simp
          generalize w4.setCell ⟨bn', M.length * 11 + 7, none⟩ (.int .i64 ((M.length : Int) + 1)) = w5 at *
          obtain ⟨t5, ht5⟩ := hA5.hdr
          have hpa5 : pa < w5.heap.size := hA5.lt (by simp [blocks])
          refine W_draw (.pas 0 (.pas 1 (.pas 2 (.pas 3 (.pas 4 (.pas 5 (.act 6 (.act 7 (.act 8 (.pas 9 (.pas 10 (.last 11)))))))))))) (fun b => b = pa) (by decide) mixed (by kernel_rfl) ?_
          rw [hl5] at ht5
          (repeat (first | ((first | refine pas_plain rfl ?_ | refine pas_g rfl rfl ?_ | refine act_plain rfl ?_ | refine act_g rfl rfl ?_ | refine last_plain rfl ?_ | refine tail_plain rfl ?_ | refine tail_g rfl rfl ?_); (repeat simp only [push_cast, Nat.reduceBEq, Nat.reduceLT, Nat.reduceEqDiff, reduceIte, reduceCtorEq, Nat.reduceMul, Nat.reduceAdd, Nat.reduceSub, Int.reduceEq, Int.reduceLT, Int.reduceLE, Int.reduceNeg, Int.reduceAdd, Int.reduceSub, Int.reduceMul, Nat.reduceLeDiff, Int.reduceToNat, cell_h, can_h, cellO_cells, canO_cells, setO_cells, heap_set_h, heap_alloc_h, size_set_h, size_alloc_h, vcells_agg, succ_ne, ne_succ, List.setIfInBounds_toArray, List.set_cons_succ, List.set_cons_zero, setCells, drew_h, true_or, or_true, ht5])) | (refine tail_fin ?_) | (refine sch_fin ?_)))
          refine build_struct Try.zeroValue30 un30 pl30 (cs := #[.int .i64 6, .string ⟨#[]⟩, .string ⟨#[]⟩, .int .i64 0, .slice none 0 0, .bool false, .int .i64 0, .int .i64 0, .slice none 0 0, .int .i64 (-1), .int .i64 (-1)]) (by rfl) ?_
          (repeat (first | ((first | refine pas_plain rfl ?_ | refine pas_g rfl rfl ?_ | refine act_plain rfl ?_ | refine act_g rfl rfl ?_ | refine last_plain rfl ?_ | refine tail_plain rfl ?_ | refine tail_g rfl rfl ?_); (repeat simp only [push_cast, Nat.reduceBEq, Nat.reduceLT, Nat.reduceEqDiff, reduceIte, reduceCtorEq, Nat.reduceMul, Nat.reduceAdd, Nat.reduceSub, Int.reduceEq, Int.reduceLT, Int.reduceLE, Int.reduceNeg, Int.reduceAdd, Int.reduceSub, Int.reduceMul, Nat.reduceLeDiff, Int.reduceToNat, cell_h, can_h, cellO_cells, canO_cells, setO_cells, heap_set_h, heap_alloc_h, size_set_h, size_alloc_h, vcells_agg, succ_ne, ne_succ, List.setIfInBounds_toArray, List.set_cons_succ, List.set_cons_zero, setCells, drew_h, true_or, or_true, ht5])) | (refine tail_fin ?_) | (refine sch_fin ?_)))
          refine (bare_c (m := ⟨{ zN with kind := 6, frm := -1, to := -1 }, .slice none 0 0, .slice none 0 0, none, none⟩) (SlAt.nil _ _).rd (by decide)).mono ?_
          rintro v w6 ⟨m6, rfl, k1, k2, k3, k4, k5, k6⟩
          refine ⟨kept_upd k3 fun b hb => ⟨by simp only [drew_size]; omega, id⟩, ?_⟩
          (repeat (first | ((first | refine pas_plain rfl ?_ | refine pas_g rfl rfl ?_ | refine act_plain rfl ?_ | refine act_g rfl rfl ?_ | refine last_plain rfl ?_ | refine tail_plain rfl ?_ | refine tail_g rfl rfl ?_); (repeat simp only [push_cast, Nat.reduceBEq, Nat.reduceLT, Nat.reduceEqDiff, reduceIte, reduceCtorEq, Nat.reduceMul, Nat.reduceAdd, Nat.reduceSub, Int.reduceEq, Int.reduceLT, Int.reduceLE, Int.reduceNeg, Int.reduceAdd, Int.reduceSub, Int.reduceMul, Nat.reduceLeDiff, Int.reduceToNat, cell_h, can_h, cellO_cells, canO_cells, setO_cells, heap_set_h, heap_alloc_h, size_set_h, size_alloc_h, vcells_agg, succ_ne, ne_succ, List.setIfInBounds_toArray, List.set_cons_succ, List.set_cons_zero, setCells, drew_h, true_or, or_true, ht5])) | (refine tail_fin ?_) | (refine sch_fin ?_)))
          refine bs_one sty39 (by decide) (by decide) (v := m6.val) rfl ?_
          have hsz6 := k3.alike.size
          simp only [drew_size] at hsz6
          refine ⟨kept_upd (Ext.alloc _ _) fun b hb => ⟨by have : b = pa := hb; subst this; omega, id⟩, ?_⟩
          (repeat (first | ((first | refine pas_plain rfl ?_ | refine pas_g rfl rfl ?_ | refine act_plain rfl ?_ | refine act_g rfl rfl ?_ | refine last_plain rfl ?_ | refine tail_plain rfl ?_ | refine tail_g rfl rfl ?_); (repeat simp only [push_cast, Nat.reduceBEq, Nat.reduceLT, Nat.reduceEqDiff, reduceIte, reduceCtorEq, Nat.reduceMul, Nat.reduceAdd, Nat.reduceSub, Int.reduceEq, Int.reduceLT, Int.reduceLE, Int.reduceNeg, Int.reduceAdd, Int.reduceSub, Int.reduceMul, Nat.reduceLeDiff, Int.reduceToNat, cell_h, can_h, cellO_cells, canO_cells, setO_cells, heap_set_h, heap_alloc_h, size_set_h, size_alloc_h, vcells_agg, succ_ne, ne_succ, List.setIfInBounds_toArray, List.set_cons_succ, List.set_cons_zero, setCells, drew_h, true_or, or_true, ht5])) | (refine tail_fin ?_) | (refine sch_fin ?_)))
          have hx6 : Ext w5 (w6.alloc (.cells m6.val.cells 30)) := (Ext.drew _).trans (k3.trans (Ext.alloc _ _))
          have hok6 : m6.ok (w6.alloc (.cells m6.val.cells 30)) := k2.upd (Ext.alloc _ _) fun _ _ h => h.elim
          rw [← hl5]
          refine hA5.app sty39 hx6 hok6 (SlAt.new w6 11 m6.val.cells 30 1 rfl) (by omega) ?_
          intro bn7 cap7 w7 q1 q2 q3
          have hnp5 : ¬ pa = bn' := by have := hA5.own; simp [blocks] at this; exact this.1.1
          refine ⟨kept_upd q2 fun b hb => ⟨?_, ?_⟩, ?_⟩
          · simp only [size_alloc_h]; omega
          · omega
          have hp7 : w7.heap[pa]? = some (.cells #[.slice (some ⟨bn', 0, none⟩) (M.length + 1) cap'] t5 (0, 0)) :=
            (q2.same pa (by simp only [size_alloc_h]; omega) hnp5).trans ((hx6.heap hpa5).trans ht5)
          (repeat (first | ((first | refine pas_plain rfl ?_ | refine pas_g rfl rfl ?_ | refine act_plain rfl ?_ | refine act_g rfl rfl ?_ | refine last_plain rfl ?_ | refine tail_plain rfl ?_ | refine tail_g rfl rfl ?_); (repeat simp only [push_cast, Nat.reduceBEq, Nat.reduceLT, Nat.reduceEqDiff, reduceIte, reduceCtorEq, Nat.reduceMul, Nat.reduceAdd, Nat.reduceSub, Int.reduceEq, Int.reduceLT, Int.reduceLE, Int.reduceNeg, Int.reduceAdd, Int.reduceSub, Int.reduceMul, Nat.reduceLeDiff, Int.reduceToNat, cell_h, can_h, cellO_cells, canO_cells, setO_cells, heap_set_h, heap_alloc_h, size_set_h, size_alloc_h, vcells_agg, succ_ne, ne_succ, List.setIfInBounds_toArray, List.set_cons_succ, List.set_cons_zero, setCells, drew_h, true_or, or_true, hp7])) | (refine tail_fin ?_) | (refine sch_fin ?_)))
          have hA8 := hA5.push hx6 m6 hok6 (fun b hb => by have := k4 b hb; simpa only [drew_size] using this) k5 q1 q2 q3
          have hu8 : Upd F w (w7.setCell ⟨pa, 0, none⟩ (.slice (some ⟨bn7, 0, none⟩) (M5.length + 1) cap7)) :=
            (Upd.trans (Upd.trans hu5 hx6 fun _ _ h => h.elim) q2 fun i hi e => by subst e; exact hFn hi).put (hMF _ (by simp [blocks]))
          generalize w7.setCell ⟨pa, 0, none⟩ (.slice (some ⟨bn7, 0, none⟩) (M5.length + 1) cap7) = w8 at *
          have e : addN L m.nd = (L ++ [{ bareN m.nd with content := (L.length : Int) + 1 }, contN], (L.length : Int)) := by simp [addN, kidK, c1, c2, tmpl, c3]
          ((repeat simp only [push_cast, Nat.reduceBEq, Nat.reduceLT, Nat.reduceEqDiff, reduceIte, reduceCtorEq, Nat.reduceMul, Nat.reduceAdd, Nat.reduceSub, Int.reduceEq, Int.reduceLT, Int.reduceLE, Int.reduceNeg, Int.reduceAdd, Int.reduceSub, Int.reduceMul, Nat.reduceLeDiff, Int.reduceToNat]); (repeat (first | (with_reducible first | (refine hK _ _ ?_; clear hK K) | refine (show ∀ σ' w', _ → K σ' w' from by assumption) _ _ ?_ | refine W_seq_k fun K hK => ?_ | refine W_block_k fun K hK => ?_ | refine W_skip ?_ | refine W_ret ?_) | ((first | ((with_reducible refine W_id ?_); refine W_reg (by decide) (by rfl) ?_) | (with_reducible first | refine W_cond ?_ | refine hZ _ _ ?_ | refine W_exit ?_ | refine Wo_id ?_)); repeat1' simp only [push_cast, Nat.reduceBEq, Nat.reduceLT, Nat.reduceEqDiff, reduceIte, reduceCtorEq, Nat.reduceMul, Nat.reduceAdd, Nat.reduceSub, Int.reduceEq, Int.reduceLT, Int.reduceLE, Int.reduceNeg, Int.reduceAdd, Int.reduceSub, Int.reduceMul, Nat.reduceLeDiff, Int.reduceToNat]) | ((repeat ((fail_if_success with_reducible refine hK _ _ ?_); clear hK K)); (with_reducible refine hK _ _ ?_); clear hK K))))
          rw [e]
          refine ⟨by rw [hmlen], ⟨bn7, cap7, M5 ++ [m6], hA8, by simp [hn5, k1, contN, bareN, zN], fun b hb => ?_⟩, hu8⟩
          simp only [blocks, List.flatMap_append, List.flatMap_cons, List.flatMap_nil, List.append_nil, List.mem_cons, List.mem_append, hb5] at hb
          rcases hb with hb | hb | (hb | hb) | hb
          · rw [hb]; exact .inl (hMF _ (by simp [blocks]))
          · rw [hb]
            rcases q3 with q3 | q3
            · rw [q3]
              rcases Nat.lt_or_ge bn' w.heap.size with hl | hl
              · exact .inl (hFn hl)
              · exact .inr hl
            · simp only [size_alloc_h] at q3; exact .inr (by omega)
          · exact .inl (hMF _ (by simp only [blocks, List.mem_cons]; exact .inr (.inr hb)))
          · have := h4 b hb
            simp only [drew_size, size_alloc_h] at this; exact .inr (by omega)
          · have := k4 b hb
            simp only [drew_size] at this; exact .inr (by omega)
        · have e : addN L m.nd = (L ++ [bareN m.nd], (L.length : Int)) := by simp [addN, kidK, c1, c2, tmpl, c3]
          ((repeat simp only [push_cast, Nat.reduceBEq, Nat.reduceLT, Nat.reduceEqDiff, reduceIte, reduceCtorEq, Nat.reduceMul, Nat.reduceAdd, Nat.reduceSub, Int.reduceEq, Int.reduceLT, Int.reduceLE, Int.reduceNeg, Int.reduceAdd, Int.reduceSub, Int.reduceMul, Nat.reduceLeDiff, Int.reduceToNat, cell_h, can_h, cellO_cells, canO_cells, setO_cells, heap_set_h, heap_alloc_h, size_set_h, size_alloc_h, vcells_agg, succ_ne, ne_succ, List.setIfInBounds_toArray, List.set_cons_succ, List.set_cons_zero, setCells, drew_h, hb4, c1, c2, c3]); (repeat (first | (with_reducible first | (refine hK _ _ ?_; clear hK K) | refine (show ∀ σ' w', _ → K σ' w' from by assumption) _ _ ?_ | refine W_seq_k fun K hK => ?_ | refine W_block_k fun K hK => ?_ | refine W_skip ?_ | refine W_ret ?_) | ((first | ((with_reducible refine W_id ?_); refine W_reg (by decide) (by rfl) ?_) | (with_reducible first | refine W_cond ?_ | refine hZ _ _ ?_ | refine W_exit ?_ | refine Wo_id ?_)); repeat1' simp only [push_cast, Nat.reduceBEq, Nat.reduceLT, Nat.reduceEqDiff, reduceIte, reduceCtorEq, Nat.reduceMul, Nat.reduceAdd, Nat.reduceSub, Int.reduceEq, Int.reduceLT, Int.reduceLE, Int.reduceNeg, Int.reduceAdd, Int.reduceSub, Int.reduceMul, Nat.reduceLeDiff, Int.reduceToNat, cell_h, can_h, cellO_cells, canO_cells, setO_cells, heap_set_h, heap_alloc_h, size_set_h, size_alloc_h, vcells_agg, succ_ne, ne_succ, List.setIfInBounds_toArray, List.set_cons_succ, List.set_cons_zero, setCells, drew_h, hb4, c1, c2, c3]) | ((repeat ((fail_if_success with_reducible refine hK _ _ ?_); clear hK K)); (with_reducible refine hK _ _ ?_); clear hK K))))
          exact ⟨by rw [e, hmlen], hres e⟩
      · have e : addN L m.nd = (L ++ [bareN m.nd], (L.length : Int)) := by simp [addN, kidK, c1, c2]
        ((repeat simp only [push_cast, Nat.reduceBEq, Nat.reduceLT, Nat.reduceEqDiff, reduceIte, reduceCtorEq, Nat.reduceMul, Nat.reduceAdd, Nat.reduceSub, Int.reduceEq, Int.reduceLT, Int.reduceLE, Int.reduceNeg, Int.reduceAdd, Int.reduceSub, Int.reduceMul, Nat.reduceLeDiff, Int.reduceToNat, cell_h, can_h, cellO_cells, canO_cells, setO_cells, heap_set_h, heap_alloc_h, size_set_h, size_alloc_h, vcells_agg, succ_ne, ne_succ, List.setIfInBounds_toArray, List.set_cons_succ, List.set_cons_zero, setCells, drew_h, hb4, c1, c2]); (repeat (first | (with_reducible first | (refine hK _ _ ?_; clear hK K) | refine (show ∀ σ' w', _ → K σ' w' from by assumption) _ _ ?_ | refine W_seq_k fun K hK => ?_ | refine W_block_k fun K hK => ?_ | refine W_skip ?_ | refine W_ret ?_) | ((first | ((with_reducible refine W_id ?_); refine W_reg (by decide) (by rfl) ?_) | (with_reducible first | refine W_cond ?_ | refine hZ _ _ ?_ | refine W_exit ?_ | refine Wo_id ?_)); repeat1' simp only [push_cast, Nat.reduceBEq, Nat.reduceLT, Nat.reduceEqDiff, reduceIte, reduceCtorEq, Nat.reduceMul, Nat.reduceAdd, Nat.reduceSub, Int.reduceEq, Int.reduceLT, Int.reduceLE, Int.reduceNeg, Int.reduceAdd, Int.reduceSub, Int.reduceMul, Nat.reduceLeDiff, Int.reduceToNat, cell_h, can_h, cellO_cells, canO_cells, setO_cells, heap_set_h, heap_alloc_h, size_set_h, size_alloc_h, vcells_agg, succ_ne, ne_succ, List.setIfInBounds_toArray, List.set_cons_succ, List.set_cons_zero, setCells, drew_h, hb4, c1, c2]) | ((repeat ((fail_if_success with_reducible refine hK _ _ ?_); clear hK K)); (with_reducible refine hK _ _ ?_); clear hK K))))
        exact ⟨by rw [e, hmlen], hres e⟩
    · have e : addN L m.nd = (L ++ [bareN m.nd], (L.length : Int)) := by simp only [addN, hk, c1]; simp
      ((repeat simp only [push_cast, Nat.reduceBEq, Nat.reduceLT, Nat.reduceEqDiff, reduceIte, reduceCtorEq, Nat.reduceMul, Nat.reduceAdd, Nat.reduceSub, Int.reduceEq, Int.reduceLT, Int.reduceLE, Int.reduceNeg, Int.reduceAdd, Int.reduceSub, Int.reduceMul, Nat.reduceLeDiff, Int.reduceToNat, cell_h, can_h, cellO_cells, canO_cells, setO_cells, heap_set_h, heap_alloc_h, size_set_h, size_alloc_h, vcells_agg, succ_ne, ne_succ, List.setIfInBounds_toArray, List.set_cons_succ, List.set_cons_zero, setCells, drew_h, hb4, c1]); (repeat (first | (with_reducible first | (refine hK _ _ ?_; clear hK K) | refine (show ∀ σ' w', _ → K σ' w' from by assumption) _ _ ?_ | refine W_seq_k fun K hK => ?_ | refine W_block_k fun K hK => ?_ | refine W_skip ?_ | refine W_ret ?_) | ((first | ((with_reducible refine W_id ?_); refine W_reg (by decide) (by rfl) ?_) | (with_reducible first | refine W_cond ?_ | refine hZ _ _ ?_ | refine W_exit ?_ | refine Wo_id ?_)); repeat1' simp only [push_cast, Nat.reduceBEq, Nat.reduceLT, Nat.reduceEqDiff, reduceIte, reduceCtorEq, Nat.reduceMul, Nat.reduceAdd, Nat.reduceSub, Int.reduceEq, Int.reduceLT, Int.reduceLE, Int.reduceNeg, Int.reduceAdd, Int.reduceSub, Int.reduceMul, Nat.reduceLeDiff, Int.reduceToNat, cell_h, can_h, cellO_cells, canO_cells, setO_cells, heap_set_h, heap_alloc_h, size_set_h, size_alloc_h, vcells_agg, succ_ne, ne_succ, List.setIfInBounds_toArray, List.set_cons_succ, List.set_cons_zero, setCells, drew_h, hb4, c1]) | ((repeat ((fail_if_success with_reducible refine hK _ _ ?_); clear hK K)); (with_reducible refine hK _ _ ?_); clear hK K))))
      exact ⟨by rw [e, hmlen], hres e⟩
  · replace hk : kidK m.nd.kind = false := by simpa using hk
    have e : addN L m.nd = (L, -1) := by simp [addN, hk]
    rw [e]
    refine Gives.of_W Try.call14 Try.func14 rfl Try.ntmps14 (by simp) ?_; intro Z hZ
    (repeat (first | (with_reducible first | (refine hK _ _ ?_; clear hK K) | refine (show ∀ σ' w', _ → K σ' w' from by assumption) _ _ ?_ | refine W_seq_k fun K hK => ?_ | refine W_block_k fun K hK => ?_ | refine W_skip ?_ | refine W_ret ?_) | ((first | ((with_reducible refine W_id ?_); refine W_reg (by decide) (by rfl) ?_) | (with_reducible first | refine W_cond ?_ | refine hZ _ _ ?_ | refine W_exit ?_ | refine Wo_id ?_)); repeat1' simp only [push_cast, Nat.reduceBEq, Nat.reduceLT, Nat.reduceEqDiff, reduceIte, reduceCtorEq, Nat.reduceMul, Nat.reduceAdd, Nat.reduceSub, Int.reduceEq, Int.reduceLT, Int.reduceLE, Int.reduceNeg, Int.reduceAdd, Int.reduceSub, Int.reduceMul, Nat.reduceLeDiff, Int.reduceToNat, cell_h, can_h, cellO_cells, canO_cells, setO_cells, heap_set_h, heap_alloc_h, size_set_h, size_alloc_h, vcells_agg, succ_ne, ne_succ, List.setIfInBounds_toArray, List.set_cons_succ, List.set_cons_zero, setCells, drew_h]) | ((repeat ((fail_if_success with_reducible refine hK _ _ ?_); clear hK K)); (with_reducible refine hK _ _ ?_); clear hK K)))
    refine (none_c (h.ext (Ext.alloc _ _)) hL).mono ?_
    rintro v w' ⟨rfl, rfl⟩
    ((repeat simp only [push_cast, Nat.reduceBEq, Nat.reduceLT, Nat.reduceEqDiff, reduceIte, reduceCtorEq, Nat.reduceMul, Nat.reduceAdd, Nat.reduceSub, Int.reduceEq, Int.reduceLT, Int.reduceLE, Int.reduceNeg, Int.reduceAdd, Int.reduceSub, Int.reduceMul, Nat.reduceLeDiff, Int.reduceToNat, cell_h, can_h, cellO_cells, canO_cells, setO_cells, heap_set_h, heap_alloc_h, size_set_h, size_alloc_h, vcells_agg, succ_ne, ne_succ, List.setIfInBounds_toArray, List.set_cons_succ, List.set_cons_zero, setCells, drew_h]); (repeat (first | (with_reducible first | (refine hK _ _ ?_; clear hK K) | refine (show ∀ σ' w', _ → K σ' w' from by assumption) _ _ ?_ | refine W_seq_k fun K hK => ?_ | refine W_block_k fun K hK => ?_ | refine W_skip ?_ | refine W_ret ?_) | ((first | ((with_reducible refine W_id ?_); refine W_reg (by decide) (by rfl) ?_) | (with_reducible first | refine W_cond ?_ | refine hZ _ _ ?_ | refine W_exit ?_ | refine Wo_id ?_)); repeat1' simp only [push_cast, Nat.reduceBEq, Nat.reduceLT, Nat.reduceEqDiff, reduceIte, reduceCtorEq, Nat.reduceMul, Nat.reduceAdd, Nat.reduceSub, Int.reduceEq, Int.reduceLT, Int.reduceLE, Int.reduceNeg, Int.reduceAdd, Int.reduceSub, Int.reduceMul, Nat.reduceLeDiff, Int.reduceToNat, cell_h, can_h, cellO_cells, canO_cells, setO_cells, heap_set_h, heap_alloc_h, size_set_h, size_alloc_h, vcells_agg, succ_ne, ne_succ, List.setIfInBounds_toArray, List.set_cons_succ, List.set_cons_zero, setCells, drew_h]) | ((repeat ((fail_if_success with_reducible refine hK _ _ ?_); clear hK K)); (with_reducible refine hK _ _ ?_); clear hK K))))
    refine (kid_k _).mono ?_
    rintro v w' ⟨rfl, rfl⟩
    ((repeat simp only [push_cast, Nat.reduceBEq, Nat.reduceLT, Nat.reduceEqDiff, reduceIte, reduceCtorEq, Nat.reduceMul, Nat.reduceAdd, Nat.reduceSub, Int.reduceEq, Int.reduceLT, Int.reduceLE, Int.reduceNeg, Int.reduceAdd, Int.reduceSub, Int.reduceMul, Nat.reduceLeDiff, Int.reduceToNat, cell_h, can_h, cellO_cells, canO_cells, setO_cells, heap_set_h, heap_alloc_h, size_set_h, size_alloc_h, vcells_agg, succ_ne, ne_succ, List.setIfInBounds_toArray, List.set_cons_succ, List.set_cons_zero, setCells, drew_h, hk]); (repeat (first | (with_reducible first | (refine hK _ _ ?_; clear hK K) | refine (show ∀ σ' w', _ → K σ' w' from by assumption) _ _ ?_ | refine W_seq_k fun K hK => ?_ | refine W_block_k fun K hK => ?_ | refine W_skip ?_ | refine W_ret ?_) | ((first | ((with_reducible refine W_id ?_); refine W_reg (by decide) (by rfl) ?_) | (with_reducible first | refine W_cond ?_ | refine hZ _ _ ?_ | refine W_exit ?_ | refine Wo_id ?_)); repeat1' simp only [push_cast, Nat.reduceBEq, Nat.reduceLT, Nat.reduceEqDiff, reduceIte, reduceCtorEq, Nat.reduceMul, Nat.reduceAdd, Nat.reduceSub, Int.reduceEq, Int.reduceLT, Int.reduceLE, Int.reduceNeg, Int.reduceAdd, Int.reduceSub, Int.reduceMul, Nat.reduceLeDiff, Int.reduceToNat, cell_h, can_h, cellO_cells, canO_cells, setO_cells, heap_set_h, heap_alloc_h, size_set_h, size_alloc_h, vcells_agg, succ_ne, ne_succ, List.setIfInBounds_toArray, List.set_cons_succ, List.set_cons_zero, setCells, drew_h, hk]) | ((repeat ((fail_if_success with_reducible refine hK _ _ ?_); clear hK K)); (with_reducible refine hK _ _ ?_); clear hK K))))
    exact ⟨(h.ext (Ext.alloc _ _)).mono fun b _ hb => .inl hb, (Ext.alloc _ _).upd⟩
end Go.Proofs.Ytkafpameheohdaa
