/- What the proof leans on, part 9 of 11. -/
import Derived.Test.YtkafpameheohdaaDoorQStackPlayH
section
set_option linter.unusedSimpArgs false
set_option linter.unusedVariables false
namespace Go.Proofs.YtkafpameheohdaaDoor
open Go Go.Vk
set_option maxHeartbeats 40000000
theorem rimpl_false {w : World} {pr pb : Nat} {L : List Nd} {l : List Int} {S : Nat → Prop} (h : RS w S pr pb L l) (hl : l.length < 100000) (hb : L.length < 1000000) (hok : okR L l) (but : ByteArray) : Gives Tryd.prog 61 #[.pointer (some ⟨pr, 0, none⟩), .string but, .bool false] w fun _ w' => RS w' (gS S w w') pr pb L (rdropR L l but false) ∧ Upd S w w' := by
  refine Gives.of_W Tryd.call61 Tryd.func61 rfl Tryd.ntmps61 (by simp) ?_; intro Z hZ
  (repeat (first | (with_reducible first | (refine hK _ _ ?_; clear hK K) | refine (show ∀ σ' w', _ → K σ' w' from by assumption) _ _ ?_ | refine W_seq_k fun K hK => ?_ | refine W_block_k fun K hK => ?_ | refine W_skip ?_ | refine W_ret ?_) | ((first | ((with_reducible refine W_id ?_); refine W_reg (by decide) (by rfl) ?_) | (with_reducible first | refine W_cond ?_ | refine hZ _ _ ?_ | refine W_exit ?_ | refine Wo_id ?_)); repeat1' simp only [push_cast, Nat.reduceBEq, Nat.reduceLT, Nat.reduceEqDiff, reduceIte, reduceCtorEq, Nat.reduceMul, Nat.reduceAdd, Nat.reduceSub, Int.reduceEq, Int.reduceLT, Int.reduceLE, Int.reduceNeg, Int.reduceAdd, Int.reduceSub, Int.reduceMul, Nat.reduceLeDiff, Int.reduceToNat]) | ((repeat ((fail_if_success with_reducible refine hK _ _ ?_); clear hK K)); (with_reducible refine hK _ _ ?_); clear hK K)))
  refine W_loop (S := Nat) (fun k => [(0, .pointer (some ⟨pr, 0, none⟩)), (1, .string but), (2, .bool false)])
    (fun k w2 => k ≤ l.length ∧ rdropK (rgoP L but false) l l.length = rdropK (rgoP L but false) l k ∧ RS w2 (gS S w w2) pr pb L (l.take k) ∧ Upd S w w2) (fun k => k) l.length ?_ ?_ ?_
  · (repeat simp only [push_cast, Nat.reduceBEq, Nat.reduceLT, Nat.reduceEqDiff, reduceIte, reduceCtorEq, Nat.reduceMul, Nat.reduceAdd, Nat.reduceSub, Int.reduceEq, Int.reduceLT, Int.reduceLE, Int.reduceNeg, Int.reduceAdd, Int.reduceSub, Int.reduceMul, Nat.reduceLeDiff, Int.reduceToNat])
  · exact ⟨Nat.le_refl _, rfl, by rw [List.take_length]; exact h.to fun _ => .inl, Upd.refl _ _⟩
  rintro k w2 ⟨hk, he, hR2, hu2⟩
  have hR2' := hR2
  obtain ⟨lv, bo, F, h1, h2, h3, h4, h5⟩ := hR2
  obtain ⟨a, c, rfl, hlc, hcell⟩ := ints_len2 h1.sl
  have hlk : (l.take k).length = k := by rw [List.length_take]; omega
  have hh2 := h1.head
  rw [hlk] at hh2 hlc
  have fin : ∀ k', rdropK (rgoP L but false) l l.length = k' → ∀ w3, Ext w2 w3 → k' = k → RS w3 (gS S w w3) pr pb L (rdropR L l but false) ∧ Upd S w w3 := fun k' e w3 hx ek => by
    unfold rdropR
    rw [e, ek]
    exact ⟨(hR2'.ext hx).to fun b hb => by
      rcases hb with hb | hb
      · exact .inl hb
      · exact .inr ⟨hb.1, by have := hx.alike.size; omega⟩, Upd.trans hu2 hx.upd fun _ _ h => h⟩
  cases k with
  | zero =>
    have b0 : ¬ (0 : Int) < ((0 : Nat) : Int) := by omega
    (repeat (first | (with_reducible first | (refine hK _ _ ?_; clear hK K) | refine (show ∀ σ' w', _ → K σ' w' from by assumption) _ _ ?_ | refine W_seq_k fun K hK => ?_ | refine W_block_k fun K hK => ?_ | refine W_skip ?_ | refine W_ret ?_) | ((first | ((with_reducible refine W_id ?_); refine W_reg (by decide) (by rfl) ?_) | (with_reducible first | refine W_cond ?_ | refine hZ _ _ ?_ | refine W_exit ?_ | refine Wo_id ?_)); repeat1' simp only [push_cast, Nat.reduceBEq, Nat.reduceLT, Nat.reduceEqDiff, reduceIte, reduceCtorEq, Nat.reduceMul, Nat.reduceAdd, Nat.reduceSub, Int.reduceEq, Int.reduceLT, Int.reduceLE, Int.reduceNeg, Int.reduceAdd, Int.reduceSub, Int.reduceMul, Nat.reduceLeDiff, Int.reduceToNat, cell_h, cellO_cells, hh2, b0]) | ((repeat ((fail_if_success with_reducible refine hK _ _ ?_); clear hK K)); (with_reducible refine hK _ _ ?_); clear hK K)))
    exact fin 0 he _ (Ext.refl _) rfl
  | succ k =>
    rw [rdropK] at he
    obtain ⟨y, hy⟩ : ∃ y, l[k]? = some y := ⟨_, List.getElem?_eq_getElem (by omega)⟩
    have hgd : l.getD k 0 = y := by simp [List.getD, hy]
    rw [hgd] at he
    obtain ⟨b, o, rfl, _, cy⟩ := hcell k y (by rw [List.getElem?_take, if_pos (by omega)]; exact hy)
    obtain ⟨q, rfl, hq⟩ := hok y (List.mem_of_getElem? hy)
    have hgo : rgoP L but false (q : Int) = (decide (L[q].space = 0) && rgoN but false L[q].name) := by unfold rgoP; rw [opN_at hq]
    have d0 : (0 : Int) ≤ (q : Int) := by omega
    have d1 : (q : Int) < (L.length : Int) := by omega
    have b0 : (0 : Int) < ((k + 1 : Nat) : Int) := by omega
    have e0 : ((k + 1 : Nat) : Int) - 1 = (k : Int) := by omega
    have e1 : inI64 (k : Int) := by unfold inI64; omega
    have e2 : (0 : Int) ≤ (k : Int) := by omega
    have e3 : (k : Int) ≤ (c : Int) := by omega
    have e4 : (k : Int) < ((k + 1 : Nat) : Int) := by omega
    have eC : (intCells (l.take (k + 1))).take (k * 1) = intCells (l.take k) := by
      unfold intCells; rw [Nat.mul_one, ← List.map_take, List.take_take, Nat.min_eq_left (by omega)]
    have eN : (k : Int).toNat = k := Int.toNat_natCast k
    have e5 : k ≤ k + 1 := by omega
    have e6 : k < k + 1 := by omega
    generalize k + 1 = n1 at *
    have hxd := Ext.drew w2
    obtain ⟨bn, cap, t, xa, xn, xc, ya, yn, yc, hA, c0, c1, c2, c3, c4, c5, c6, c7, c8, c9, c10⟩ := (h2.ext hxd).node11 hq
    have hhd := hxd.blk hh2
    have cy := cellO_ext hxd cy
    generalize L[q] = nd at *
    (repeat (first | (with_reducible first | (refine hK _ _ ?_; clear hK K) | refine (show ∀ σ' w', _ → K σ' w' from by assumption) _ _ ?_ | refine W_seq_k fun K hK => ?_ | refine W_block_k fun K hK => ?_ | refine W_skip ?_ | refine W_ret ?_) | ((first | ((with_reducible refine W_id ?_); refine W_reg (by decide) (by rfl) ?_) | (with_reducible first | refine W_cond ?_ | refine hZ _ _ ?_ | refine W_exit ?_ | refine Wo_id ?_)); repeat1' simp only [push_cast, Nat.reduceBEq, Nat.reduceLT, Nat.reduceEqDiff, reduceIte, reduceCtorEq, Nat.reduceMul, Nat.reduceAdd, Nat.reduceSub, Int.reduceEq, Int.reduceLT, Int.reduceLE, Int.reduceNeg, Int.reduceAdd, Int.reduceSub, Int.reduceMul, Nat.reduceLeDiff, Int.reduceToNat, cell_h, cellO_cells, hh2, b0]) | ((repeat ((fail_if_success with_reducible refine hK _ _ ?_); clear hK K)); (with_reducible refine hK _ _ ?_); clear hK K)))
    refine W_draw (.pas 0 (.pas 1 (.pas 2 (.pas 3 (.pas 4 (.pas 5 (.pas 6 (.pas 7 (.pas 8 (.pas 9 (.pas 10 (.pas 11 (.pas 12 (.pas 13 (.pas 14 (.pas 15 (.pas 16 (.pas 17 (.pas 18 (.pas 19 (.pas 20 (.act 21 (.last 22))))))))))))))))))))))) (fun q => q < w2.heap.size) (by decide) mixed (by kernel_rfl) ?_
    have hszd : w2.heap.size = w2.drew.heap.size := (drew_size w2).symm
    generalize w2.drew = wd at *
    have l1 : pr < w2.heap.size := by rw [hszd]; exact blk_lt hhd
    have l2 : pb < w2.heap.size := by rw [hszd]; exact blk_lt hA
    have l3 : bn < w2.heap.size := by rw [hszd]; exact cellO_lt c0
    have l4 : b < w2.heap.size := by rw [hszd]; exact cellO_lt cy
    (repeat (first | ((first | refine pas_plain rfl ?_ | refine pas_g rfl rfl ?_ | refine act_plain rfl ?_ | refine act_g rfl rfl ?_ | refine last_plain rfl ?_ | refine tail_plain rfl ?_ | refine tail_g rfl rfl ?_); (repeat simp only [push_cast, Nat.reduceBEq, Nat.reduceLT, Nat.reduceEqDiff, reduceIte, reduceCtorEq, Nat.reduceMul, Nat.reduceAdd, Nat.reduceSub, Int.reduceEq, Int.reduceLT, Int.reduceLE, Int.reduceNeg, Int.reduceAdd, Int.reduceSub, Int.reduceMul, Nat.reduceLeDiff, Int.reduceToNat, cell_h, cellO_cells, hhd, hA, c0, c1, c2, c3, c4, c5, c6, c7, c8, c9, c10, cy, b0, e0, e1, e2, e4, d0, d1, l1, l2, l3, l4, RunV_zero Tryd.zeroValue49, vcells_agg])) | (refine tail_fin ?_) | (refine sch_fin ?_)))
    refine ⟨kept_upd (Ext.alloc wd _) fun q hq => ⟨by have : q < w2.heap.size := hq; omega, id⟩, ?_⟩
    (repeat (first | ((first | refine pas_plain rfl ?_ | refine pas_g rfl rfl ?_ | refine act_plain rfl ?_ | refine act_g rfl rfl ?_ | refine last_plain rfl ?_ | refine tail_plain rfl ?_ | refine tail_g rfl rfl ?_); (repeat simp only [push_cast, Nat.reduceBEq, Nat.reduceLT, Nat.reduceEqDiff, reduceIte, reduceCtorEq, Nat.reduceMul, Nat.reduceAdd, Nat.reduceSub, Int.reduceEq, Int.reduceLT, Int.reduceLE, Int.reduceNeg, Int.reduceAdd, Int.reduceSub, Int.reduceMul, Nat.reduceLeDiff, Int.reduceToNat, cell_h, cellO_cells, vcells_agg])) | (refine tail_fin ?_) | (refine sch_fin ?_)))
    simp only [can_h, heap_alloc_h, if_true, canO_cells, List.size_toArray, List.length_cons, List.length_nil, Nat.zero_add, Nat.reduceAdd, Nat.reduceLT, true_and]
    obtain ⟨hx6, hp6⟩ := newL wd #[.int .i64 0, .string ⟨#[]⟩, .string ⟨#[]⟩, .int .i64 0, .slice none 0 0, .bool false, .int .i64 0, .int .i64 0, .slice none 0 0, .int .i64 0, .int .i64 0] [.int .i64 nd.kind, .string nd.name, .string nd.text, .int .i64 nd.space, .slice xa xn xc, .bool nd.dup, .int .i64 nd.parent, .int .i64 nd.content, .slice ya yn yc, .int .i64 nd.frm, .int .i64 nd.to] 49 rfl
    generalize setCells (wd.alloc (.cells #[.int .i64 0, .string ⟨#[]⟩, .string ⟨#[]⟩, .int .i64 0, .slice none 0 0, .bool false, .int .i64 0, .int .i64 0, .slice none 0 0, .int .i64 0, .int .i64 0] 49)) ⟨wd.heap.size, 0, none⟩ [.int .i64 nd.kind, .string nd.name, .string nd.text, .int .i64 nd.space, .slice xa xn xc, .bool nd.dup, .int .i64 nd.parent, .int .i64 nd.content, .slice ya yn yc, .int .i64 nd.frm, .int .i64 nd.to] 0 = w6 at *
    obtain ⟨p8, hp8⟩ : ∃ p8, p8 = wd.heap.size := ⟨_, rfl⟩
    rw [← hp8] at hp6 ⊢
    ((repeat simp only [push_cast, Nat.reduceBEq, Nat.reduceLT, Nat.reduceEqDiff, reduceIte, reduceCtorEq, Nat.reduceMul, Nat.reduceAdd, Nat.reduceSub, Int.reduceEq, Int.reduceLT, Int.reduceLE, Int.reduceNeg, Int.reduceAdd, Int.reduceSub, Int.reduceMul, Nat.reduceLeDiff, Int.reduceToNat, cell_h, cellO_cells, hp6]); (repeat (first | (with_reducible first | (refine hK _ _ ?_; clear hK K) | refine (show ∀ σ' w', _ → K σ' w' from by assumption) _ _ ?_ | refine W_seq_k fun K hK => ?_ | refine W_block_k fun K hK => ?_ | refine W_skip ?_ | refine W_ret ?_) | ((first | ((with_reducible refine W_id ?_); refine W_reg (by decide) (by rfl) ?_) | (with_reducible first | refine W_cond ?_ | refine hZ _ _ ?_ | refine W_exit ?_ | refine Wo_id ?_)); repeat1' simp only [push_cast, Nat.reduceBEq, Nat.reduceLT, Nat.reduceEqDiff, reduceIte, reduceCtorEq, Nat.reduceMul, Nat.reduceAdd, Nat.reduceSub, Int.reduceEq, Int.reduceLT, Int.reduceLE, Int.reduceNeg, Int.reduceAdd, Int.reduceSub, Int.reduceMul, Nat.reduceLeDiff, Int.reduceToNat, cell_h, cellO_cells, hp6]) | ((repeat ((fail_if_success with_reducible refine hK _ _ ?_); clear hK K)); (with_reducible refine hK _ _ ?_); clear hK K))))
    refine (rimp_c nd.name).mono ?_
    rintro v w7 ⟨rfl, hx7⟩
    have hp7 := hx7.blk hp6
    have hx27 := (hxd.trans hx6).trans hx7
    cases hi : amongN im13 nd.name
    · ((repeat simp only [push_cast, Nat.reduceBEq, Nat.reduceLT, Nat.reduceEqDiff, reduceIte, reduceCtorEq, Nat.reduceMul, Nat.reduceAdd, Nat.reduceSub, Int.reduceEq, Int.reduceLT, Int.reduceLE, Int.reduceNeg, Int.reduceAdd, Int.reduceSub, Int.reduceMul, Nat.reduceLeDiff, Int.reduceToNat]); (repeat (first | (with_reducible first | (refine hK _ _ ?_; clear hK K) | refine (show ∀ σ' w', _ → K σ' w' from by assumption) _ _ ?_ | refine W_seq_k fun K hK => ?_ | refine W_block_k fun K hK => ?_ | refine W_skip ?_ | refine W_ret ?_) | ((first | ((with_reducible refine W_id ?_); refine W_reg (by decide) (by rfl) ?_) | (with_reducible first | refine W_cond ?_ | refine hZ _ _ ?_ | refine W_exit ?_ | refine Wo_id ?_)); repeat1' simp only [push_cast, Nat.reduceBEq, Nat.reduceLT, Nat.reduceEqDiff, reduceIte, reduceCtorEq, Nat.reduceMul, Nat.reduceAdd, Nat.reduceSub, Int.reduceEq, Int.reduceLT, Int.reduceLE, Int.reduceNeg, Int.reduceAdd, Int.reduceSub, Int.reduceMul, Nat.reduceLeDiff, Int.reduceToNat]) | ((repeat ((fail_if_success with_reducible refine hK _ _ ?_); clear hK K)); (with_reducible refine hK _ _ ?_); clear hK K))))
      by_cases hs : nd.space = 0
      · have hg : (false : Bool) = false := rfl
        have eP : rgoP L but false (q : Int) = false := by rw [hgo, hs]; simp only [rgoN, if_true, if_false, Bool.false_eq_true]; simp [hi]
        rw [eP, if_neg (by decide)] at he
        ((repeat simp only [push_cast, Nat.reduceBEq, Nat.reduceLT, Nat.reduceEqDiff, reduceIte, reduceCtorEq, Nat.reduceMul, Nat.reduceAdd, Nat.reduceSub, Int.reduceEq, Int.reduceLT, Int.reduceLE, Int.reduceNeg, Int.reduceAdd, Int.reduceSub, Int.reduceMul, Nat.reduceLeDiff, Int.reduceToNat, cell_h, cellO_cells, hs, hg, hp7, not_true_eq_false, not_false_eq_true]); (repeat (first | (with_reducible first | (refine hK _ _ ?_; clear hK K) | refine (show ∀ σ' w', _ → K σ' w' from by assumption) _ _ ?_ | refine W_seq_k fun K hK => ?_ | refine W_block_k fun K hK => ?_ | refine W_skip ?_ | refine W_ret ?_) | ((first | ((with_reducible refine W_id ?_); refine W_reg (by decide) (by rfl) ?_) | (with_reducible first | refine W_cond ?_ | refine hZ _ _ ?_ | refine W_exit ?_ | refine Wo_id ?_)); repeat1' simp only [push_cast, Nat.reduceBEq, Nat.reduceLT, Nat.reduceEqDiff, reduceIte, reduceCtorEq, Nat.reduceMul, Nat.reduceAdd, Nat.reduceSub, Int.reduceEq, Int.reduceLT, Int.reduceLE, Int.reduceNeg, Int.reduceAdd, Int.reduceSub, Int.reduceMul, Nat.reduceLeDiff, Int.reduceToNat, cell_h, cellO_cells, hs, hg, hp7, not_true_eq_false, not_false_eq_true]) | ((repeat ((fail_if_success with_reducible refine hK _ _ ?_); clear hK K)); (with_reducible refine hK _ _ ?_); clear hK K))))
        exact fin n1 he w7 hx27 rfl
      · have eP : rgoP L but false (q : Int) = false := by rw [hgo]; simp [hs]
        rw [eP, if_neg (by decide)] at he
        ((repeat simp only [push_cast, Nat.reduceBEq, Nat.reduceLT, Nat.reduceEqDiff, reduceIte, reduceCtorEq, Nat.reduceMul, Nat.reduceAdd, Nat.reduceSub, Int.reduceEq, Int.reduceLT, Int.reduceLE, Int.reduceNeg, Int.reduceAdd, Int.reduceSub, Int.reduceMul, Nat.reduceLeDiff, Int.reduceToNat, cell_h, cellO_cells, hs, hp7, not_true_eq_false, not_false_eq_true]); (repeat (first | (with_reducible first | (refine hK _ _ ?_; clear hK K) | refine (show ∀ σ' w', _ → K σ' w' from by assumption) _ _ ?_ | refine W_seq_k fun K hK => ?_ | refine W_block_k fun K hK => ?_ | refine W_skip ?_ | refine W_ret ?_) | ((first | ((with_reducible refine W_id ?_); refine W_reg (by decide) (by rfl) ?_) | (with_reducible first | refine W_cond ?_ | refine hZ _ _ ?_ | refine W_exit ?_ | refine Wo_id ?_)); repeat1' simp only [push_cast, Nat.reduceBEq, Nat.reduceLT, Nat.reduceEqDiff, reduceIte, reduceCtorEq, Nat.reduceMul, Nat.reduceAdd, Nat.reduceSub, Int.reduceEq, Int.reduceLT, Int.reduceLE, Int.reduceNeg, Int.reduceAdd, Int.reduceSub, Int.reduceMul, Nat.reduceLeDiff, Int.reduceToNat, cell_h, cellO_cells, hs, hp7, not_true_eq_false, not_false_eq_true]) | ((repeat ((fail_if_success with_reducible refine hK _ _ ?_); clear hK K)); (with_reducible refine hK _ _ ?_); clear hK K))))
        exact fin n1 he w7 hx27 rfl
    · ((repeat simp only [push_cast, Nat.reduceBEq, Nat.reduceLT, Nat.reduceEqDiff, reduceIte, reduceCtorEq, Nat.reduceMul, Nat.reduceAdd, Nat.reduceSub, Int.reduceEq, Int.reduceLT, Int.reduceLE, Int.reduceNeg, Int.reduceAdd, Int.reduceSub, Int.reduceMul, Nat.reduceLeDiff, Int.reduceToNat, cell_h, cellO_cells, hp7]); (repeat (first | (with_reducible first | (refine hK _ _ ?_; clear hK K) | refine (show ∀ σ' w', _ → K σ' w' from by assumption) _ _ ?_ | refine W_seq_k fun K hK => ?_ | refine W_block_k fun K hK => ?_ | refine W_skip ?_ | refine W_ret ?_) | ((first | ((with_reducible refine W_id ?_); refine W_reg (by decide) (by rfl) ?_) | (with_reducible first | refine W_cond ?_ | refine hZ _ _ ?_ | refine W_exit ?_ | refine Wo_id ?_)); repeat1' simp only [push_cast, Nat.reduceBEq, Nat.reduceLT, Nat.reduceEqDiff, reduceIte, reduceCtorEq, Nat.reduceMul, Nat.reduceAdd, Nat.reduceSub, Int.reduceEq, Int.reduceLT, Int.reduceLE, Int.reduceNeg, Int.reduceAdd, Int.reduceSub, Int.reduceMul, Nat.reduceLeDiff, Int.reduceToNat, cell_h, cellO_cells, hp7]) | ((repeat ((fail_if_success with_reducible refine hK _ _ ?_); clear hK K)); (with_reducible refine hK _ _ ?_); clear hK K))))
      by_cases hs : nd.space = 0
      · cases hg : (decide (¬ nd.name = but))
        · have eP : rgoP L but false (q : Int) = false := by rw [hgo, hs]; simp only [rgoN, if_true, if_false, Bool.false_eq_true]; simpa [hi] using hg
          rw [eP, if_neg (by decide)] at he
          ((repeat simp only [push_cast, Nat.reduceBEq, Nat.reduceLT, Nat.reduceEqDiff, reduceIte, reduceCtorEq, Nat.reduceMul, Nat.reduceAdd, Nat.reduceSub, Int.reduceEq, Int.reduceLT, Int.reduceLE, Int.reduceNeg, Int.reduceAdd, Int.reduceSub, Int.reduceMul, Nat.reduceLeDiff, Int.reduceToNat, cell_h, cellO_cells, hs, hg, hp7, not_true_eq_false, not_false_eq_true]); (repeat (first | (with_reducible first | (refine hK _ _ ?_; clear hK K) | refine (show ∀ σ' w', _ → K σ' w' from by assumption) _ _ ?_ | refine W_seq_k fun K hK => ?_ | refine W_block_k fun K hK => ?_ | refine W_skip ?_ | refine W_ret ?_) | ((first | ((with_reducible refine W_id ?_); refine W_reg (by decide) (by rfl) ?_) | (with_reducible first | refine W_cond ?_ | refine hZ _ _ ?_ | refine W_exit ?_ | refine Wo_id ?_)); repeat1' simp only [push_cast, Nat.reduceBEq, Nat.reduceLT, Nat.reduceEqDiff, reduceIte, reduceCtorEq, Nat.reduceMul, Nat.reduceAdd, Nat.reduceSub, Int.reduceEq, Int.reduceLT, Int.reduceLE, Int.reduceNeg, Int.reduceAdd, Int.reduceSub, Int.reduceMul, Nat.reduceLeDiff, Int.reduceToNat, cell_h, cellO_cells, hs, hg, hp7, not_true_eq_false, not_false_eq_true]) | ((repeat ((fail_if_success with_reducible refine hK _ _ ?_); clear hK K)); (with_reducible refine hK _ _ ?_); clear hK K))))
          exact fin n1 he w7 hx27 rfl
        · have eP : rgoP L but false (q : Int) = true := by rw [hgo, hs]; simp only [rgoN, if_true, if_false, Bool.false_eq_true]; simpa [hi] using hg
          rw [eP, if_pos rfl] at he
          ((repeat simp only [push_cast, Nat.reduceBEq, Nat.reduceLT, Nat.reduceEqDiff, reduceIte, reduceCtorEq, Nat.reduceMul, Nat.reduceAdd, Nat.reduceSub, Int.reduceEq, Int.reduceLT, Int.reduceLE, Int.reduceNeg, Int.reduceAdd, Int.reduceSub, Int.reduceMul, Nat.reduceLeDiff, Int.reduceToNat, cell_h, cellO_cells, hs, hg, hp7, not_true_eq_false, not_false_eq_true]); (repeat (first | (with_reducible first | (refine hK _ _ ?_; clear hK K) | refine (show ∀ σ' w', _ → K σ' w' from by assumption) _ _ ?_ | refine W_seq_k fun K hK => ?_ | refine W_block_k fun K hK => ?_ | refine W_skip ?_ | refine W_ret ?_) | ((first | ((with_reducible refine W_id ?_); refine W_reg (by decide) (by rfl) ?_) | (with_reducible first | refine W_cond ?_ | refine hZ _ _ ?_ | refine W_exit ?_ | refine Wo_id ?_)); repeat1' simp only [push_cast, Nat.reduceBEq, Nat.reduceLT, Nat.reduceEqDiff, reduceIte, reduceCtorEq, Nat.reduceMul, Nat.reduceAdd, Nat.reduceSub, Int.reduceEq, Int.reduceLT, Int.reduceLE, Int.reduceNeg, Int.reduceAdd, Int.reduceSub, Int.reduceMul, Nat.reduceLeDiff, Int.reduceToNat, cell_h, cellO_cells, hs, hg, hp7, not_true_eq_false, not_false_eq_true]) | ((repeat ((fail_if_success with_reducible refine hK _ _ ?_); clear hK K)); (with_reducible refine hK _ _ ?_); clear hK K))))
          refine W_draw (.pas 0 (.pas 1 (.pas 2 (.pas 3 (.pas 4 (.pas 5 (.pas 6 (.pas 7 (.pas 8 (.pas 9 (.pas 10 (.pas 11 (.pas 12 (.pas 13 (.last 14))))))))))))))) (fun b' => b' = pr) (by decide) mixed (by kernel_rfl) ?_
          have hxd2 := Ext.trans hx27 (Ext.drew w7)
          generalize w7.drew = wd2 at *
          have hhd2 := hxd2.blk hh2
          (repeat (first | ((first | refine pas_plain rfl ?_ | refine pas_g rfl rfl ?_ | refine act_plain rfl ?_ | refine act_g rfl rfl ?_ | refine last_plain rfl ?_ | refine tail_plain rfl ?_ | refine tail_g rfl rfl ?_); (repeat simp only [push_cast, Nat.reduceBEq, Nat.reduceLT, Nat.reduceEqDiff, reduceIte, reduceCtorEq, Nat.reduceMul, Nat.reduceAdd, Nat.reduceSub, Int.reduceEq, Int.reduceLT, Int.reduceLE, Int.reduceNeg, Int.reduceAdd, Int.reduceSub, Int.reduceMul, Nat.reduceLeDiff, Int.reduceToNat, eq_self, cell_h, cellO_cells, hhd2, e0, e1, e2, e3])) | (refine tail_fin ?_) | (refine sch_fin ?_)))
          have hP := ((h1.sl.ext hxd2).preS (hi := k) (by rw [hlk]; exact e5))
          rw [eC] at hP
          obtain ⟨k1, k2, k3⟩ := rs_put h1 h2 h3 h4 h5 hP hxd2 (fun _ _ h => h.elim) fun b hb => .inl hb
          try rw [eN]
          refine ⟨k1, ?_⟩
          ((repeat simp only [push_cast, Nat.reduceBEq, Nat.reduceLT, Nat.reduceEqDiff, reduceIte, reduceCtorEq, Nat.reduceMul, Nat.reduceAdd, Nat.reduceSub, Int.reduceEq, Int.reduceLT, Int.reduceLE, Int.reduceNeg, Int.reduceAdd, Int.reduceSub, Int.reduceMul, Nat.reduceLeDiff, Int.reduceToNat]); (repeat (first | (with_reducible first | (refine hK _ _ ?_; clear hK K) | refine (show ∀ σ' w', _ → K σ' w' from by assumption) _ _ ?_ | refine W_seq_k fun K hK => ?_ | refine W_block_k fun K hK => ?_ | refine W_skip ?_ | refine W_ret ?_) | ((first | ((with_reducible refine W_id ?_); refine W_reg (by decide) (by rfl) ?_) | (with_reducible first | refine W_cond ?_ | refine hZ _ _ ?_ | refine W_exit ?_ | refine Wo_id ?_)); repeat1' simp only [push_cast, Nat.reduceBEq, Nat.reduceLT, Nat.reduceEqDiff, reduceIte, reduceCtorEq, Nat.reduceMul, Nat.reduceAdd, Nat.reduceSub, Int.reduceEq, Int.reduceLT, Int.reduceLE, Int.reduceNeg, Int.reduceAdd, Int.reduceSub, Int.reduceMul, Nat.reduceLeDiff, Int.reduceToNat]) | ((repeat ((fail_if_success with_reducible refine hK _ _ ?_); clear hK K)); (with_reducible refine hK _ _ ?_); clear hK K))))
          refine ⟨k, e6, ?_⟩
          (repeat simp only [push_cast, Nat.reduceBEq, Nat.reduceLT, Nat.reduceEqDiff, reduceIte, reduceCtorEq, Nat.reduceMul, Nat.reduceAdd, Nat.reduceSub, Int.reduceEq, Int.reduceLT, Int.reduceLE, Int.reduceNeg, Int.reduceAdd, Int.reduceSub, Int.reduceMul, Nat.reduceLeDiff, Int.reduceToNat])
          have hu3 := Upd.trans hu2 k3 fun b hl hg => by
            rcases hg with hg | hg
            · exact hg
            · omega
          refine ⟨by omega, he, k2.to fun b hb => ?_, hu3⟩
          rcases hb with (hb | hb) | hb
          · exact .inl hb
          · exact .inr ⟨hb.1, by have := k3.alike.size; omega⟩
          · exact .inr ⟨by have := hu2.alike.size; omega, hb.2⟩
      · have eP : rgoP L but false (q : Int) = false := by rw [hgo]; simp [hs]
        rw [eP, if_neg (by decide)] at he
        ((repeat simp only [push_cast, Nat.reduceBEq, Nat.reduceLT, Nat.reduceEqDiff, reduceIte, reduceCtorEq, Nat.reduceMul, Nat.reduceAdd, Nat.reduceSub, Int.reduceEq, Int.reduceLT, Int.reduceLE, Int.reduceNeg, Int.reduceAdd, Int.reduceSub, Int.reduceMul, Nat.reduceLeDiff, Int.reduceToNat, cell_h, cellO_cells, hs, hp7, not_true_eq_false, not_false_eq_true]); (repeat (first | (with_reducible first | (refine hK _ _ ?_; clear hK K) | refine (show ∀ σ' w', _ → K σ' w' from by assumption) _ _ ?_ | refine W_seq_k fun K hK => ?_ | refine W_block_k fun K hK => ?_ | refine W_skip ?_ | refine W_ret ?_) | ((first | ((with_reducible refine W_id ?_); refine W_reg (by decide) (by rfl) ?_) | (with_reducible first | refine W_cond ?_ | refine hZ _ _ ?_ | refine W_exit ?_ | refine Wo_id ?_)); repeat1' simp only [push_cast, Nat.reduceBEq, Nat.reduceLT, Nat.reduceEqDiff, reduceIte, reduceCtorEq, Nat.reduceMul, Nat.reduceAdd, Nat.reduceSub, Int.reduceEq, Int.reduceLT, Int.reduceLE, Int.reduceNeg, Int.reduceAdd, Int.reduceSub, Int.reduceMul, Nat.reduceLeDiff, Int.reduceToNat, cell_h, cellO_cells, hs, hp7, not_true_eq_false, not_false_eq_true]) | ((repeat ((fail_if_success with_reducible refine hK _ _ ?_); clear hK K)); (with_reducible refine hK _ _ ?_); clear hK K))))
        exact fin n1 he w7 hx27 rfl
theorem rimpl_true {w : World} {pr pb : Nat} {L : List Nd} {l : List Int} {S : Nat → Prop} (h : RS w S pr pb L l) (hl : l.length < 100000) (hb : L.length < 1000000) (hok : okR L l) (but : ByteArray) : Gives Tryd.prog 61 #[.pointer (some ⟨pr, 0, none⟩), .string but, .bool true] w fun _ w' => RS w' (gS S w w') pr pb L (rdropR L l but true) ∧ Upd S w w' := by
  refine Gives.of_W Tryd.call61 Tryd.func61 rfl Tryd.ntmps61 (by simp) ?_; intro Z hZ
  (repeat (first | (with_reducible first | (refine hK _ _ ?_; clear hK K) | refine (show ∀ σ' w', _ → K σ' w' from by assumption) _ _ ?_ | refine W_seq_k fun K hK => ?_ | refine W_block_k fun K hK => ?_ | refine W_skip ?_ | refine W_ret ?_) | ((first | ((with_reducible refine W_id ?_); refine W_reg (by decide) (by rfl) ?_) | (with_reducible first | refine W_cond ?_ | refine hZ _ _ ?_ | refine W_exit ?_ | refine Wo_id ?_)); repeat1' simp only [push_cast, Nat.reduceBEq, Nat.reduceLT, Nat.reduceEqDiff, reduceIte, reduceCtorEq, Nat.reduceMul, Nat.reduceAdd, Nat.reduceSub, Int.reduceEq, Int.reduceLT, Int.reduceLE, Int.reduceNeg, Int.reduceAdd, Int.reduceSub, Int.reduceMul, Nat.reduceLeDiff, Int.reduceToNat]) | ((repeat ((fail_if_success with_reducible refine hK _ _ ?_); clear hK K)); (with_reducible refine hK _ _ ?_); clear hK K)))
  refine W_loop (S := Nat) (fun k => [(0, .pointer (some ⟨pr, 0, none⟩)), (1, .string but), (2, .bool true)])
    (fun k w2 => k ≤ l.length ∧ rdropK (rgoP L but true) l l.length = rdropK (rgoP L but true) l k ∧ RS w2 (gS S w w2) pr pb L (l.take k) ∧ Upd S w w2) (fun k => k) l.length ?_ ?_ ?_
  · (repeat simp only [push_cast, Nat.reduceBEq, Nat.reduceLT, Nat.reduceEqDiff, reduceIte, reduceCtorEq, Nat.reduceMul, Nat.reduceAdd, Nat.reduceSub, Int.reduceEq, Int.reduceLT, Int.reduceLE, Int.reduceNeg, Int.reduceAdd, Int.reduceSub, Int.reduceMul, Nat.reduceLeDiff, Int.reduceToNat])
  · exact ⟨Nat.le_refl _, rfl, by rw [List.take_length]; exact h.to fun _ => .inl, Upd.refl _ _⟩
  rintro k w2 ⟨hk, he, hR2, hu2⟩
  have hR2' := hR2
  obtain ⟨lv, bo, F, h1, h2, h3, h4, h5⟩ := hR2
  obtain ⟨a, c, rfl, hlc, hcell⟩ := ints_len2 h1.sl
  have hlk : (l.take k).length = k := by rw [List.length_take]; omega
  have hh2 := h1.head
  rw [hlk] at hh2 hlc
  have fin : ∀ k', rdropK (rgoP L but true) l l.length = k' → ∀ w3, Ext w2 w3 → k' = k → RS w3 (gS S w w3) pr pb L (rdropR L l but true) ∧ Upd S w w3 := fun k' e w3 hx ek => by
    unfold rdropR
    rw [e, ek]
    exact ⟨(hR2'.ext hx).to fun b hb => by
      rcases hb with hb | hb
      · exact .inl hb
      · exact .inr ⟨hb.1, by have := hx.alike.size; omega⟩, Upd.trans hu2 hx.upd fun _ _ h => h⟩
  cases k with
  | zero =>
    have b0 : ¬ (0 : Int) < ((0 : Nat) : Int) := by omega
    (repeat (first | (with_reducible first | (refine hK _ _ ?_; clear hK K) | refine (show ∀ σ' w', _ → K σ' w' from by assumption) _ _ ?_ | refine W_seq_k fun K hK => ?_ | refine W_block_k fun K hK => ?_ | refine W_skip ?_ | refine W_ret ?_) | ((first | ((with_reducible refine W_id ?_); refine W_reg (by decide) (by rfl) ?_) | (with_reducible first | refine W_cond ?_ | refine hZ _ _ ?_ | refine W_exit ?_ | refine Wo_id ?_)); repeat1' simp only [push_cast, Nat.reduceBEq, Nat.reduceLT, Nat.reduceEqDiff, reduceIte, reduceCtorEq, Nat.reduceMul, Nat.reduceAdd, Nat.reduceSub, Int.reduceEq, Int.reduceLT, Int.reduceLE, Int.reduceNeg, Int.reduceAdd, Int.reduceSub, Int.reduceMul, Nat.reduceLeDiff, Int.reduceToNat, cell_h, cellO_cells, hh2, b0]) | ((repeat ((fail_if_success with_reducible refine hK _ _ ?_); clear hK K)); (with_reducible refine hK _ _ ?_); clear hK K)))
    exact fin 0 he _ (Ext.refl _) rfl
  | succ k =>
    rw [rdropK] at he
    obtain ⟨y, hy⟩ : ∃ y, l[k]? = some y := ⟨_, List.getElem?_eq_getElem (by omega)⟩
    have hgd : l.getD k 0 = y := by simp [List.getD, hy]
    rw [hgd] at he
    obtain ⟨b, o, rfl, _, cy⟩ := hcell k y (by rw [List.getElem?_take, if_pos (by omega)]; exact hy)
    obtain ⟨q, rfl, hq⟩ := hok y (List.mem_of_getElem? hy)
    have hgo : rgoP L but true (q : Int) = (decide (L[q].space = 0) && rgoN but true L[q].name) := by unfold rgoP; rw [opN_at hq]
    have d0 : (0 : Int) ≤ (q : Int) := by omega
    have d1 : (q : Int) < (L.length : Int) := by omega
    have b0 : (0 : Int) < ((k + 1 : Nat) : Int) := by omega
    have e0 : ((k + 1 : Nat) : Int) - 1 = (k : Int) := by omega
    have e1 : inI64 (k : Int) := by unfold inI64; omega
    have e2 : (0 : Int) ≤ (k : Int) := by omega
    have e3 : (k : Int) ≤ (c : Int) := by omega
    have e4 : (k : Int) < ((k + 1 : Nat) : Int) := by omega
    have eC : (intCells (l.take (k + 1))).take (k * 1) = intCells (l.take k) := by
      unfold intCells; rw [Nat.mul_one, ← List.map_take, List.take_take, Nat.min_eq_left (by omega)]
    have eN : (k : Int).toNat = k := Int.toNat_natCast k
    have e5 : k ≤ k + 1 := by omega
    have e6 : k < k + 1 := by omega
    generalize k + 1 = n1 at *
    have hxd := Ext.drew w2
    obtain ⟨bn, cap, t, xa, xn, xc, ya, yn, yc, hA, c0, c1, c2, c3, c4, c5, c6, c7, c8, c9, c10⟩ := (h2.ext hxd).node11 hq
    have hhd := hxd.blk hh2
    have cy := cellO_ext hxd cy
    generalize L[q] = nd at *
    (repeat (first | (with_reducible first | (refine hK _ _ ?_; clear hK K) | refine (show ∀ σ' w', _ → K σ' w' from by assumption) _ _ ?_ | refine W_seq_k fun K hK => ?_ | refine W_block_k fun K hK => ?_ | refine W_skip ?_ | refine W_ret ?_) | ((first | ((with_reducible refine W_id ?_); refine W_reg (by decide) (by rfl) ?_) | (with_reducible first | refine W_cond ?_ | refine hZ _ _ ?_ | refine W_exit ?_ | refine Wo_id ?_)); repeat1' simp only [push_cast, Nat.reduceBEq, Nat.reduceLT, Nat.reduceEqDiff, reduceIte, reduceCtorEq, Nat.reduceMul, Nat.reduceAdd, Nat.reduceSub, Int.reduceEq, Int.reduceLT, Int.reduceLE, Int.reduceNeg, Int.reduceAdd, Int.reduceSub, Int.reduceMul, Nat.reduceLeDiff, Int.reduceToNat, cell_h, cellO_cells, hh2, b0]) | ((repeat ((fail_if_success with_reducible refine hK _ _ ?_); clear hK K)); (with_reducible refine hK _ _ ?_); clear hK K)))
    refine W_draw (.pas 0 (.pas 1 (.pas 2 (.pas 3 (.pas 4 (.pas 5 (.pas 6 (.pas 7 (.pas 8 (.pas 9 (.pas 10 (.pas 11 (.pas 12 (.pas 13 (.pas 14 (.pas 15 (.pas 16 (.pas 17 (.pas 18 (.pas 19 (.pas 20 (.act 21 (.last 22))))))))))))))))))))))) (fun q => q < w2.heap.size) (by decide) mixed (by kernel_rfl) ?_
    have hszd : w2.heap.size = w2.drew.heap.size := (drew_size w2).symm
    generalize w2.drew = wd at *
    have l1 : pr < w2.heap.size := by rw [hszd]; exact blk_lt hhd
    have l2 : pb < w2.heap.size := by rw [hszd]; exact blk_lt hA
    have l3 : bn < w2.heap.size := by rw [hszd]; exact cellO_lt c0
    have l4 : b < w2.heap.size := by rw [hszd]; exact cellO_lt cy
    (repeat (first | ((first | refine pas_plain rfl ?_ | refine pas_g rfl rfl ?_ | refine act_plain rfl ?_ | refine act_g rfl rfl ?_ | refine last_plain rfl ?_ | refine tail_plain rfl ?_ | refine tail_g rfl rfl ?_); (repeat simp only [push_cast, Nat.reduceBEq, Nat.reduceLT, Nat.reduceEqDiff, reduceIte, reduceCtorEq, Nat.reduceMul, Nat.reduceAdd, Nat.reduceSub, Int.reduceEq, Int.reduceLT, Int.reduceLE, Int.reduceNeg, Int.reduceAdd, Int.reduceSub, Int.reduceMul, Nat.reduceLeDiff, Int.reduceToNat, cell_h, cellO_cells, hhd, hA, c0, c1, c2, c3, c4, c5, c6, c7, c8, c9, c10, cy, b0, e0, e1, e2, e4, d0, d1, l1, l2, l3, l4, RunV_zero Tryd.zeroValue49, vcells_agg])) | (refine tail_fin ?_) | (refine sch_fin ?_)))
    refine ⟨kept_upd (Ext.alloc wd _) fun q hq => ⟨by have : q < w2.heap.size := hq; omega, id⟩, ?_⟩
    (repeat (first | ((first | refine pas_plain rfl ?_ | refine pas_g rfl rfl ?_ | refine act_plain rfl ?_ | refine act_g rfl rfl ?_ | refine last_plain rfl ?_ | refine tail_plain rfl ?_ | refine tail_g rfl rfl ?_); (repeat simp only [push_cast, Nat.reduceBEq, Nat.reduceLT, Nat.reduceEqDiff, reduceIte, reduceCtorEq, Nat.reduceMul, Nat.reduceAdd, Nat.reduceSub, Int.reduceEq, Int.reduceLT, Int.reduceLE, Int.reduceNeg, Int.reduceAdd, Int.reduceSub, Int.reduceMul, Nat.reduceLeDiff, Int.reduceToNat, cell_h, cellO_cells, vcells_agg])) | (refine tail_fin ?_) | (refine sch_fin ?_)))
    simp only [can_h, heap_alloc_h, if_true, canO_cells, List.size_toArray, List.length_cons, List.length_nil, Nat.zero_add, Nat.reduceAdd, Nat.reduceLT, true_and]
    obtain ⟨hx6, hp6⟩ := newL wd #[.int .i64 0, .string ⟨#[]⟩, .string ⟨#[]⟩, .int .i64 0, .slice none 0 0, .bool false, .int .i64 0, .int .i64 0, .slice none 0 0, .int .i64 0, .int .i64 0] [.int .i64 nd.kind, .string nd.name, .string nd.text, .int .i64 nd.space, .slice xa xn xc, .bool nd.dup, .int .i64 nd.parent, .int .i64 nd.content, .slice ya yn yc, .int .i64 nd.frm, .int .i64 nd.to] 49 rfl
    generalize setCells (wd.alloc (.cells #[.int .i64 0, .string ⟨#[]⟩, .string ⟨#[]⟩, .int .i64 0, .slice none 0 0, .bool false, .int .i64 0, .int .i64 0, .slice none 0 0, .int .i64 0, .int .i64 0] 49)) ⟨wd.heap.size, 0, none⟩ [.int .i64 nd.kind, .string nd.name, .string nd.text, .int .i64 nd.space, .slice xa xn xc, .bool nd.dup, .int .i64 nd.parent, .int .i64 nd.content, .slice ya yn yc, .int .i64 nd.frm, .int .i64 nd.to] 0 = w6 at *
    obtain ⟨p8, hp8⟩ : ∃ p8, p8 = wd.heap.size := ⟨_, rfl⟩
    rw [← hp8] at hp6 ⊢
    ((repeat simp only [push_cast, Nat.reduceBEq, Nat.reduceLT, Nat.reduceEqDiff, reduceIte, reduceCtorEq, Nat.reduceMul, Nat.reduceAdd, Nat.reduceSub, Int.reduceEq, Int.reduceLT, Int.reduceLE, Int.reduceNeg, Int.reduceAdd, Int.reduceSub, Int.reduceMul, Nat.reduceLeDiff, Int.reduceToNat, cell_h, cellO_cells, hp6]); (repeat (first | (with_reducible first | (refine hK _ _ ?_; clear hK K) | refine (show ∀ σ' w', _ → K σ' w' from by assumption) _ _ ?_ | refine W_seq_k fun K hK => ?_ | refine W_block_k fun K hK => ?_ | refine W_skip ?_ | refine W_ret ?_) | ((first | ((with_reducible refine W_id ?_); refine W_reg (by decide) (by rfl) ?_) | (with_reducible first | refine W_cond ?_ | refine hZ _ _ ?_ | refine W_exit ?_ | refine Wo_id ?_)); repeat1' simp only [push_cast, Nat.reduceBEq, Nat.reduceLT, Nat.reduceEqDiff, reduceIte, reduceCtorEq, Nat.reduceMul, Nat.reduceAdd, Nat.reduceSub, Int.reduceEq, Int.reduceLT, Int.reduceLE, Int.reduceNeg, Int.reduceAdd, Int.reduceSub, Int.reduceMul, Nat.reduceLeDiff, Int.reduceToNat, cell_h, cellO_cells, hp6]) | ((repeat ((fail_if_success with_reducible refine hK _ _ ?_); clear hK K)); (with_reducible refine hK _ _ ?_); clear hK K))))
    refine (rimp_c nd.name).mono ?_
    rintro v w7 ⟨rfl, hx7⟩
    have hp7 := hx7.blk hp6
    have hx27 := (hxd.trans hx6).trans hx7
    cases hi : amongN im13 nd.name
    · ((repeat simp only [push_cast, Nat.reduceBEq, Nat.reduceLT, Nat.reduceEqDiff, reduceIte, reduceCtorEq, Nat.reduceMul, Nat.reduceAdd, Nat.reduceSub, Int.reduceEq, Int.reduceLT, Int.reduceLE, Int.reduceNeg, Int.reduceAdd, Int.reduceSub, Int.reduceMul, Nat.reduceLeDiff, Int.reduceToNat]); (repeat (first | (with_reducible first | (refine hK _ _ ?_; clear hK K) | refine (show ∀ σ' w', _ → K σ' w' from by assumption) _ _ ?_ | refine W_seq_k fun K hK => ?_ | refine W_block_k fun K hK => ?_ | refine W_skip ?_ | refine W_ret ?_) | ((first | ((with_reducible refine W_id ?_); refine W_reg (by decide) (by rfl) ?_) | (with_reducible first | refine W_cond ?_ | refine hZ _ _ ?_ | refine W_exit ?_ | refine Wo_id ?_)); repeat1' simp only [push_cast, Nat.reduceBEq, Nat.reduceLT, Nat.reduceEqDiff, reduceIte, reduceCtorEq, Nat.reduceMul, Nat.reduceAdd, Nat.reduceSub, Int.reduceEq, Int.reduceLT, Int.reduceLE, Int.reduceNeg, Int.reduceAdd, Int.reduceSub, Int.reduceMul, Nat.reduceLeDiff, Int.reduceToNat]) | ((repeat ((fail_if_success with_reducible refine hK _ _ ?_); clear hK K)); (with_reducible refine hK _ _ ?_); clear hK K))))
      ((repeat simp only [push_cast, Nat.reduceBEq, Nat.reduceLT, Nat.reduceEqDiff, reduceIte, reduceCtorEq, Nat.reduceMul, Nat.reduceAdd, Nat.reduceSub, Int.reduceEq, Int.reduceLT, Int.reduceLE, Int.reduceNeg, Int.reduceAdd, Int.reduceSub, Int.reduceMul, Nat.reduceLeDiff, Int.reduceToNat, cell_h, cellO_cells, hp7]); (repeat (first | (with_reducible first | (refine hK _ _ ?_; clear hK K) | refine (show ∀ σ' w', _ → K σ' w' from by assumption) _ _ ?_ | refine W_seq_k fun K hK => ?_ | refine W_block_k fun K hK => ?_ | refine W_skip ?_ | refine W_ret ?_) | ((first | ((with_reducible refine W_id ?_); refine W_reg (by decide) (by rfl) ?_) | (with_reducible first | refine W_cond ?_ | refine hZ _ _ ?_ | refine W_exit ?_ | refine Wo_id ?_)); repeat1' simp only [push_cast, Nat.reduceBEq, Nat.reduceLT, Nat.reduceEqDiff, reduceIte, reduceCtorEq, Nat.reduceMul, Nat.reduceAdd, Nat.reduceSub, Int.reduceEq, Int.reduceLT, Int.reduceLE, Int.reduceNeg, Int.reduceAdd, Int.reduceSub, Int.reduceMul, Nat.reduceLeDiff, Int.reduceToNat, cell_h, cellO_cells, hp7]) | ((repeat ((fail_if_success with_reducible refine hK _ _ ?_); clear hK K)); (with_reducible refine hK _ _ ?_); clear hK K))))
      refine (rtho_c nd.name).mono ?_
      rintro v w8 ⟨rfl, hx8⟩
      have hp8' := hx8.blk hp7
      have hpw8 := hp8'
      have hx28 := hx27.trans hx8
      ((repeat simp only [push_cast, Nat.reduceBEq, Nat.reduceLT, Nat.reduceEqDiff, reduceIte, reduceCtorEq, Nat.reduceMul, Nat.reduceAdd, Nat.reduceSub, Int.reduceEq, Int.reduceLT, Int.reduceLE, Int.reduceNeg, Int.reduceAdd, Int.reduceSub, Int.reduceMul, Nat.reduceLeDiff, Int.reduceToNat]); (repeat (first | (with_reducible first | (refine hK _ _ ?_; clear hK K) | refine (show ∀ σ' w', _ → K σ' w' from by assumption) _ _ ?_ | refine W_seq_k fun K hK => ?_ | refine W_block_k fun K hK => ?_ | refine W_skip ?_ | refine W_ret ?_) | ((first | ((with_reducible refine W_id ?_); refine W_reg (by decide) (by rfl) ?_) | (with_reducible first | refine W_cond ?_ | refine hZ _ _ ?_ | refine W_exit ?_ | refine Wo_id ?_)); repeat1' simp only [push_cast, Nat.reduceBEq, Nat.reduceLT, Nat.reduceEqDiff, reduceIte, reduceCtorEq, Nat.reduceMul, Nat.reduceAdd, Nat.reduceSub, Int.reduceEq, Int.reduceLT, Int.reduceLE, Int.reduceNeg, Int.reduceAdd, Int.reduceSub, Int.reduceMul, Nat.reduceLeDiff, Int.reduceToNat]) | ((repeat ((fail_if_success with_reducible refine hK _ _ ?_); clear hK K)); (with_reducible refine hK _ _ ?_); clear hK K))))
      by_cases hs : nd.space = 0
      · cases hg : rthoN nd.name
        · have eP : rgoP L but true (q : Int) = false := by rw [hgo, hs]; simp only [rgoN, if_true, if_false, Bool.false_eq_true]; simpa using hg
          rw [eP, if_neg (by decide)] at he
          ((repeat simp only [push_cast, Nat.reduceBEq, Nat.reduceLT, Nat.reduceEqDiff, reduceIte, reduceCtorEq, Nat.reduceMul, Nat.reduceAdd, Nat.reduceSub, Int.reduceEq, Int.reduceLT, Int.reduceLE, Int.reduceNeg, Int.reduceAdd, Int.reduceSub, Int.reduceMul, Nat.reduceLeDiff, Int.reduceToNat, cell_h, cellO_cells, hs, hg, hp8', not_true_eq_false, not_false_eq_true]); (repeat (first | (with_reducible first | (refine hK _ _ ?_; clear hK K) | refine (show ∀ σ' w', _ → K σ' w' from by assumption) _ _ ?_ | refine W_seq_k fun K hK => ?_ | refine W_block_k fun K hK => ?_ | refine W_skip ?_ | refine W_ret ?_) | ((first | ((with_reducible refine W_id ?_); refine W_reg (by decide) (by rfl) ?_) | (with_reducible first | refine W_cond ?_ | refine hZ _ _ ?_ | refine W_exit ?_ | refine Wo_id ?_)); repeat1' simp only [push_cast, Nat.reduceBEq, Nat.reduceLT, Nat.reduceEqDiff, reduceIte, reduceCtorEq, Nat.reduceMul, Nat.reduceAdd, Nat.reduceSub, Int.reduceEq, Int.reduceLT, Int.reduceLE, Int.reduceNeg, Int.reduceAdd, Int.reduceSub, Int.reduceMul, Nat.reduceLeDiff, Int.reduceToNat, cell_h, cellO_cells, hs, hg, hp8', not_true_eq_false, not_false_eq_true]) | ((repeat ((fail_if_success with_reducible refine hK _ _ ?_); clear hK K)); (with_reducible refine hK _ _ ?_); clear hK K))))
          exact fin n1 he w8 hx28 rfl
        · have eP : rgoP L but true (q : Int) = true := by rw [hgo, hs]; simp only [rgoN, if_true, if_false, Bool.false_eq_true]; simpa using hg
          rw [eP, if_pos rfl] at he
          ((repeat simp only [push_cast, Nat.reduceBEq, Nat.reduceLT, Nat.reduceEqDiff, reduceIte, reduceCtorEq, Nat.reduceMul, Nat.reduceAdd, Nat.reduceSub, Int.reduceEq, Int.reduceLT, Int.reduceLE, Int.reduceNeg, Int.reduceAdd, Int.reduceSub, Int.reduceMul, Nat.reduceLeDiff, Int.reduceToNat, cell_h, cellO_cells, hs, hg, hp8', not_true_eq_false, not_false_eq_true]); (repeat (first | (with_reducible first | (refine hK _ _ ?_; clear hK K) | refine (show ∀ σ' w', _ → K σ' w' from by assumption) _ _ ?_ | refine W_seq_k fun K hK => ?_ | refine W_block_k fun K hK => ?_ | refine W_skip ?_ | refine W_ret ?_) | ((first | ((with_reducible refine W_id ?_); refine W_reg (by decide) (by rfl) ?_) | (with_reducible first | refine W_cond ?_ | refine hZ _ _ ?_ | refine W_exit ?_ | refine Wo_id ?_)); repeat1' simp only [push_cast, Nat.reduceBEq, Nat.reduceLT, Nat.reduceEqDiff, reduceIte, reduceCtorEq, Nat.reduceMul, Nat.reduceAdd, Nat.reduceSub, Int.reduceEq, Int.reduceLT, Int.reduceLE, Int.reduceNeg, Int.reduceAdd, Int.reduceSub, Int.reduceMul, Nat.reduceLeDiff, Int.reduceToNat, cell_h, cellO_cells, hs, hg, hp8', not_true_eq_false, not_false_eq_true]) | ((repeat ((fail_if_success with_reducible refine hK _ _ ?_); clear hK K)); (with_reducible refine hK _ _ ?_); clear hK K))))
          refine W_draw (.pas 0 (.pas 1 (.pas 2 (.pas 3 (.pas 4 (.pas 5 (.pas 6 (.pas 7 (.pas 8 (.pas 9 (.pas 10 (.pas 11 (.pas 12 (.pas 13 (.last 14))))))))))))))) (fun b' => b' = pr) (by decide) mixed (by kernel_rfl) ?_
          have hxd2 := Ext.trans hx28 (Ext.drew w8)
          generalize w8.drew = wd2 at *
          have hhd2 := hxd2.blk hh2
          (repeat (first | ((first | refine pas_plain rfl ?_ | refine pas_g rfl rfl ?_ | refine act_plain rfl ?_ | refine act_g rfl rfl ?_ | refine last_plain rfl ?_ | refine tail_plain rfl ?_ | refine tail_g rfl rfl ?_); (repeat simp only [push_cast, Nat.reduceBEq, Nat.reduceLT, Nat.reduceEqDiff, reduceIte, reduceCtorEq, Nat.reduceMul, Nat.reduceAdd, Nat.reduceSub, Int.reduceEq, Int.reduceLT, Int.reduceLE, Int.reduceNeg, Int.reduceAdd, Int.reduceSub, Int.reduceMul, Nat.reduceLeDiff, Int.reduceToNat, eq_self, cell_h, cellO_cells, hhd2, e0, e1, e2, e3])) | (refine tail_fin ?_) | (refine sch_fin ?_)))
          have hP := ((h1.sl.ext hxd2).preS (hi := k) (by rw [hlk]; exact e5))
          rw [eC] at hP
          obtain ⟨k1, k2, k3⟩ := rs_put h1 h2 h3 h4 h5 hP hxd2 (fun _ _ h => h.elim) fun b hb => .inl hb
          try rw [eN]
          refine ⟨k1, ?_⟩
          ((repeat simp only [push_cast, Nat.reduceBEq, Nat.reduceLT, Nat.reduceEqDiff, reduceIte, reduceCtorEq, Nat.reduceMul, Nat.reduceAdd, Nat.reduceSub, Int.reduceEq, Int.reduceLT, Int.reduceLE, Int.reduceNeg, Int.reduceAdd, Int.reduceSub, Int.reduceMul, Nat.reduceLeDiff, Int.reduceToNat]); (repeat (first | (with_reducible first | (refine hK _ _ ?_; clear hK K) | refine (show ∀ σ' w', _ → K σ' w' from by assumption) _ _ ?_ | refine W_seq_k fun K hK => ?_ | refine W_block_k fun K hK => ?_ | refine W_skip ?_ | refine W_ret ?_) | ((first | ((with_reducible refine W_id ?_); refine W_reg (by decide) (by rfl) ?_) | (with_reducible first | refine W_cond ?_ | refine hZ _ _ ?_ | refine W_exit ?_ | refine Wo_id ?_)); repeat1' simp only [push_cast, Nat.reduceBEq, Nat.reduceLT, Nat.reduceEqDiff, reduceIte, reduceCtorEq, Nat.reduceMul, Nat.reduceAdd, Nat.reduceSub, Int.reduceEq, Int.reduceLT, Int.reduceLE, Int.reduceNeg, Int.reduceAdd, Int.reduceSub, Int.reduceMul, Nat.reduceLeDiff, Int.reduceToNat]) | ((repeat ((fail_if_success with_reducible refine hK _ _ ?_); clear hK K)); (with_reducible refine hK _ _ ?_); clear hK K))))
          refine ⟨k, e6, ?_⟩
          (repeat simp only [push_cast, Nat.reduceBEq, Nat.reduceLT, Nat.reduceEqDiff, reduceIte, reduceCtorEq, Nat.reduceMul, Nat.reduceAdd, Nat.reduceSub, Int.reduceEq, Int.reduceLT, Int.reduceLE, Int.reduceNeg, Int.reduceAdd, Int.reduceSub, Int.reduceMul, Nat.reduceLeDiff, Int.reduceToNat])
          have hu3 := Upd.trans hu2 k3 fun b hl hg => by
            rcases hg with hg | hg
            · exact hg
            · omega
          refine ⟨by omega, he, k2.to fun b hb => ?_, hu3⟩
          rcases hb with (hb | hb) | hb
          · exact .inl hb
          · exact .inr ⟨hb.1, by have := k3.alike.size; omega⟩
          · exact .inr ⟨by have := hu2.alike.size; omega, hb.2⟩
      · have eP : rgoP L but true (q : Int) = false := by rw [hgo]; simp [hs]
        rw [eP, if_neg (by decide)] at he
        ((repeat simp only [push_cast, Nat.reduceBEq, Nat.reduceLT, Nat.reduceEqDiff, reduceIte, reduceCtorEq, Nat.reduceMul, Nat.reduceAdd, Nat.reduceSub, Int.reduceEq, Int.reduceLT, Int.reduceLE, Int.reduceNeg, Int.reduceAdd, Int.reduceSub, Int.reduceMul, Nat.reduceLeDiff, Int.reduceToNat, cell_h, cellO_cells, hs, hp8', not_true_eq_false, not_false_eq_true]); (repeat (first | (with_reducible first | (refine hK _ _ ?_; clear hK K) | refine (show ∀ σ' w', _ → K σ' w' from by assumption) _ _ ?_ | refine W_seq_k fun K hK => ?_ | refine W_block_k fun K hK => ?_ | refine W_skip ?_ | refine W_ret ?_) | ((first | ((with_reducible refine W_id ?_); refine W_reg (by decide) (by rfl) ?_) | (with_reducible first | refine W_cond ?_ | refine hZ _ _ ?_ | refine W_exit ?_ | refine Wo_id ?_)); repeat1' simp only [push_cast, Nat.reduceBEq, Nat.reduceLT, Nat.reduceEqDiff, reduceIte, reduceCtorEq, Nat.reduceMul, Nat.reduceAdd, Nat.reduceSub, Int.reduceEq, Int.reduceLT, Int.reduceLE, Int.reduceNeg, Int.reduceAdd, Int.reduceSub, Int.reduceMul, Nat.reduceLeDiff, Int.reduceToNat, cell_h, cellO_cells, hs, hp8', not_true_eq_false, not_false_eq_true]) | ((repeat ((fail_if_success with_reducible refine hK _ _ ?_); clear hK K)); (with_reducible refine hK _ _ ?_); clear hK K))))
        exact fin n1 he w8 hx28 rfl
    · ((repeat simp only [push_cast, Nat.reduceBEq, Nat.reduceLT, Nat.reduceEqDiff, reduceIte, reduceCtorEq, Nat.reduceMul, Nat.reduceAdd, Nat.reduceSub, Int.reduceEq, Int.reduceLT, Int.reduceLE, Int.reduceNeg, Int.reduceAdd, Int.reduceSub, Int.reduceMul, Nat.reduceLeDiff, Int.reduceToNat, cell_h, cellO_cells, hp7]); (repeat (first | (with_reducible first | (refine hK _ _ ?_; clear hK K) | refine (show ∀ σ' w', _ → K σ' w' from by assumption) _ _ ?_ | refine W_seq_k fun K hK => ?_ | refine W_block_k fun K hK => ?_ | refine W_skip ?_ | refine W_ret ?_) | ((first | ((with_reducible refine W_id ?_); refine W_reg (by decide) (by rfl) ?_) | (with_reducible first | refine W_cond ?_ | refine hZ _ _ ?_ | refine W_exit ?_ | refine Wo_id ?_)); repeat1' simp only [push_cast, Nat.reduceBEq, Nat.reduceLT, Nat.reduceEqDiff, reduceIte, reduceCtorEq, Nat.reduceMul, Nat.reduceAdd, Nat.reduceSub, Int.reduceEq, Int.reduceLT, Int.reduceLE, Int.reduceNeg, Int.reduceAdd, Int.reduceSub, Int.reduceMul, Nat.reduceLeDiff, Int.reduceToNat, cell_h, cellO_cells, hp7]) | ((repeat ((fail_if_success with_reducible refine hK _ _ ?_); clear hK K)); (with_reducible refine hK _ _ ?_); clear hK K))))
      ((repeat simp only [push_cast, Nat.reduceBEq, Nat.reduceLT, Nat.reduceEqDiff, reduceIte, reduceCtorEq, Nat.reduceMul, Nat.reduceAdd, Nat.reduceSub, Int.reduceEq, Int.reduceLT, Int.reduceLE, Int.reduceNeg, Int.reduceAdd, Int.reduceSub, Int.reduceMul, Nat.reduceLeDiff, Int.reduceToNat, cell_h, cellO_cells, hp7]); (repeat (first | (with_reducible first | (refine hK _ _ ?_; clear hK K) | refine (show ∀ σ' w', _ → K σ' w' from by assumption) _ _ ?_ | refine W_seq_k fun K hK => ?_ | refine W_block_k fun K hK => ?_ | refine W_skip ?_ | refine W_ret ?_) | ((first | ((with_reducible refine W_id ?_); refine W_reg (by decide) (by rfl) ?_) | (with_reducible first | refine W_cond ?_ | refine hZ _ _ ?_ | refine W_exit ?_ | refine Wo_id ?_)); repeat1' simp only [push_cast, Nat.reduceBEq, Nat.reduceLT, Nat.reduceEqDiff, reduceIte, reduceCtorEq, Nat.reduceMul, Nat.reduceAdd, Nat.reduceSub, Int.reduceEq, Int.reduceLT, Int.reduceLE, Int.reduceNeg, Int.reduceAdd, Int.reduceSub, Int.reduceMul, Nat.reduceLeDiff, Int.reduceToNat, cell_h, cellO_cells, hp7]) | ((repeat ((fail_if_success with_reducible refine hK _ _ ?_); clear hK K)); (with_reducible refine hK _ _ ?_); clear hK K))))
      refine (rtho_c nd.name).mono ?_
      rintro v w8 ⟨rfl, hx8⟩
      have hp8' := hx8.blk hp7
      have hpw8 := hp8'
      have hx28 := hx27.trans hx8
      ((repeat simp only [push_cast, Nat.reduceBEq, Nat.reduceLT, Nat.reduceEqDiff, reduceIte, reduceCtorEq, Nat.reduceMul, Nat.reduceAdd, Nat.reduceSub, Int.reduceEq, Int.reduceLT, Int.reduceLE, Int.reduceNeg, Int.reduceAdd, Int.reduceSub, Int.reduceMul, Nat.reduceLeDiff, Int.reduceToNat]); (repeat (first | (with_reducible first | (refine hK _ _ ?_; clear hK K) | refine (show ∀ σ' w', _ → K σ' w' from by assumption) _ _ ?_ | refine W_seq_k fun K hK => ?_ | refine W_block_k fun K hK => ?_ | refine W_skip ?_ | refine W_ret ?_) | ((first | ((with_reducible refine W_id ?_); refine W_reg (by decide) (by rfl) ?_) | (with_reducible first | refine W_cond ?_ | refine hZ _ _ ?_ | refine W_exit ?_ | refine Wo_id ?_)); repeat1' simp only [push_cast, Nat.reduceBEq, Nat.reduceLT, Nat.reduceEqDiff, reduceIte, reduceCtorEq, Nat.reduceMul, Nat.reduceAdd, Nat.reduceSub, Int.reduceEq, Int.reduceLT, Int.reduceLE, Int.reduceNeg, Int.reduceAdd, Int.reduceSub, Int.reduceMul, Nat.reduceLeDiff, Int.reduceToNat]) | ((repeat ((fail_if_success with_reducible refine hK _ _ ?_); clear hK K)); (with_reducible refine hK _ _ ?_); clear hK K))))
      by_cases hs : nd.space = 0
      · cases hg : rthoN nd.name
        · have eP : rgoP L but true (q : Int) = false := by rw [hgo, hs]; simp only [rgoN, if_true, if_false, Bool.false_eq_true]; simpa using hg
          rw [eP, if_neg (by decide)] at he
          ((repeat simp only [push_cast, Nat.reduceBEq, Nat.reduceLT, Nat.reduceEqDiff, reduceIte, reduceCtorEq, Nat.reduceMul, Nat.reduceAdd, Nat.reduceSub, Int.reduceEq, Int.reduceLT, Int.reduceLE, Int.reduceNeg, Int.reduceAdd, Int.reduceSub, Int.reduceMul, Nat.reduceLeDiff, Int.reduceToNat, cell_h, cellO_cells, hs, hg, hp8', not_true_eq_false, not_false_eq_true]); (repeat (first | (with_reducible first | (refine hK _ _ ?_; clear hK K) | refine (show ∀ σ' w', _ → K σ' w' from by assumption) _ _ ?_ | refine W_seq_k fun K hK => ?_ | refine W_block_k fun K hK => ?_ | refine W_skip ?_ | refine W_ret ?_) | ((first | ((with_reducible refine W_id ?_); refine W_reg (by decide) (by rfl) ?_) | (with_reducible first | refine W_cond ?_ | refine hZ _ _ ?_ | refine W_exit ?_ | refine Wo_id ?_)); repeat1' simp only [push_cast, Nat.reduceBEq, Nat.reduceLT, Nat.reduceEqDiff, reduceIte, reduceCtorEq, Nat.reduceMul, Nat.reduceAdd, Nat.reduceSub, Int.reduceEq, Int.reduceLT, Int.reduceLE, Int.reduceNeg, Int.reduceAdd, Int.reduceSub, Int.reduceMul, Nat.reduceLeDiff, Int.reduceToNat, cell_h, cellO_cells, hs, hg, hp8', not_true_eq_false, not_false_eq_true]) | ((repeat ((fail_if_success with_reducible refine hK _ _ ?_); clear hK K)); (with_reducible refine hK _ _ ?_); clear hK K))))
          exact fin n1 he w8 hx28 rfl
        · have eP : rgoP L but true (q : Int) = true := by rw [hgo, hs]; simp only [rgoN, if_true, if_false, Bool.false_eq_true]; simpa using hg
          rw [eP, if_pos rfl] at he
          ((repeat simp only [push_cast, Nat.reduceBEq, Nat.reduceLT, Nat.reduceEqDiff, reduceIte, reduceCtorEq, Nat.reduceMul, Nat.reduceAdd, Nat.reduceSub, Int.reduceEq, Int.reduceLT, Int.reduceLE, Int.reduceNeg, Int.reduceAdd, Int.reduceSub, Int.reduceMul, Nat.reduceLeDiff, Int.reduceToNat, cell_h, cellO_cells, hs, hg, hp8', not_true_eq_false, not_false_eq_true]); (repeat (first | (with_reducible first | (refine hK _ _ ?_; clear hK K) | refine (show ∀ σ' w', _ → K σ' w' from by assumption) _ _ ?_ | refine W_seq_k fun K hK => ?_ | refine W_block_k fun K hK => ?_ | refine W_skip ?_ | refine W_ret ?_) | ((first | ((with_reducible refine W_id ?_); refine W_reg (by decide) (by rfl) ?_) | (with_reducible first | refine W_cond ?_ | refine hZ _ _ ?_ | refine W_exit ?_ | refine Wo_id ?_)); repeat1' simp only [push_cast, Nat.reduceBEq, Nat.reduceLT, Nat.reduceEqDiff, reduceIte, reduceCtorEq, Nat.reduceMul, Nat.reduceAdd, Nat.reduceSub, Int.reduceEq, Int.reduceLT, Int.reduceLE, Int.reduceNeg, Int.reduceAdd, Int.reduceSub, Int.reduceMul, Nat.reduceLeDiff, Int.reduceToNat, cell_h, cellO_cells, hs, hg, hp8', not_true_eq_false, not_false_eq_true]) | ((repeat ((fail_if_success with_reducible refine hK _ _ ?_); clear hK K)); (with_reducible refine hK _ _ ?_); clear hK K))))
          refine W_draw (.pas 0 (.pas 1 (.pas 2 (.pas 3 (.pas 4 (.pas 5 (.pas 6 (.pas 7 (.pas 8 (.pas 9 (.pas 10 (.pas 11 (.pas 12 (.pas 13 (.last 14))))))))))))))) (fun b' => b' = pr) (by decide) mixed (by kernel_rfl) ?_
          have hxd2 := Ext.trans hx28 (Ext.drew w8)
          generalize w8.drew = wd2 at *
          have hhd2 := hxd2.blk hh2
          (repeat (first | ((first | refine pas_plain rfl ?_ | refine pas_g rfl rfl ?_ | refine act_plain rfl ?_ | refine act_g rfl rfl ?_ | refine last_plain rfl ?_ | refine tail_plain rfl ?_ | refine tail_g rfl rfl ?_); (repeat simp only [push_cast, Nat.reduceBEq, Nat.reduceLT, Nat.reduceEqDiff, reduceIte, reduceCtorEq, Nat.reduceMul, Nat.reduceAdd, Nat.reduceSub, Int.reduceEq, Int.reduceLT, Int.reduceLE, Int.reduceNeg, Int.reduceAdd, Int.reduceSub, Int.reduceMul, Nat.reduceLeDiff, Int.reduceToNat, eq_self, cell_h, cellO_cells, hhd2, e0, e1, e2, e3])) | (refine tail_fin ?_) | (refine sch_fin ?_)))
          have hP := ((h1.sl.ext hxd2).preS (hi := k) (by rw [hlk]; exact e5))
          rw [eC] at hP
          obtain ⟨k1, k2, k3⟩ := rs_put h1 h2 h3 h4 h5 hP hxd2 (fun _ _ h => h.elim) fun b hb => .inl hb
          try rw [eN]
          refine ⟨k1, ?_⟩
          ((repeat simp only [push_cast, Nat.reduceBEq, Nat.reduceLT, Nat.reduceEqDiff, reduceIte, reduceCtorEq, Nat.reduceMul, Nat.reduceAdd, Nat.reduceSub, Int.reduceEq, Int.reduceLT, Int.reduceLE, Int.reduceNeg, Int.reduceAdd, Int.reduceSub, Int.reduceMul, Nat.reduceLeDiff, Int.reduceToNat]); (repeat (first | (with_reducible first | (refine hK _ _ ?_; clear hK K) | refine (show ∀ σ' w', _ → K σ' w' from by assumption) _ _ ?_ | refine W_seq_k fun K hK => ?_ | refine W_block_k fun K hK => ?_ | refine W_skip ?_ | refine W_ret ?_) | ((first | ((with_reducible refine W_id ?_); refine W_reg (by decide) (by rfl) ?_) | (with_reducible first | refine W_cond ?_ | refine hZ _ _ ?_ | refine W_exit ?_ | refine Wo_id ?_)); repeat1' simp only [push_cast, Nat.reduceBEq, Nat.reduceLT, Nat.reduceEqDiff, reduceIte, reduceCtorEq, Nat.reduceMul, Nat.reduceAdd, Nat.reduceSub, Int.reduceEq, Int.reduceLT, Int.reduceLE, Int.reduceNeg, Int.reduceAdd, Int.reduceSub, Int.reduceMul, Nat.reduceLeDiff, Int.reduceToNat]) | ((repeat ((fail_if_success with_reducible refine hK _ _ ?_); clear hK K)); (with_reducible refine hK _ _ ?_); clear hK K))))
          refine ⟨k, e6, ?_⟩
          (repeat simp only [push_cast, Nat.reduceBEq, Nat.reduceLT, Nat.reduceEqDiff, reduceIte, reduceCtorEq, Nat.reduceMul, Nat.reduceAdd, Nat.reduceSub, Int.reduceEq, Int.reduceLT, Int.reduceLE, Int.reduceNeg, Int.reduceAdd, Int.reduceSub, Int.reduceMul, Nat.reduceLeDiff, Int.reduceToNat])
          have hu3 := Upd.trans hu2 k3 fun b hl hg => by
            rcases hg with hg | hg
            · exact hg
            · omega
          refine ⟨by omega, he, k2.to fun b hb => ?_, hu3⟩
          rcases hb with (hb | hb) | hb
          · exact .inl hb
          · exact .inr ⟨hb.1, by have := k3.alike.size; omega⟩
          · exact .inr ⟨by have := hu2.alike.size; omega, hb.2⟩
      · have eP : rgoP L but true (q : Int) = false := by rw [hgo]; simp [hs]
        rw [eP, if_neg (by decide)] at he
        ((repeat simp only [push_cast, Nat.reduceBEq, Nat.reduceLT, Nat.reduceEqDiff, reduceIte, reduceCtorEq, Nat.reduceMul, Nat.reduceAdd, Nat.reduceSub, Int.reduceEq, Int.reduceLT, Int.reduceLE, Int.reduceNeg, Int.reduceAdd, Int.reduceSub, Int.reduceMul, Nat.reduceLeDiff, Int.reduceToNat, cell_h, cellO_cells, hs, hp8', not_true_eq_false, not_false_eq_true]); (repeat (first | (with_reducible first | (refine hK _ _ ?_; clear hK K) | refine (show ∀ σ' w', _ → K σ' w' from by assumption) _ _ ?_ | refine W_seq_k fun K hK => ?_ | refine W_block_k fun K hK => ?_ | refine W_skip ?_ | refine W_ret ?_) | ((first | ((with_reducible refine W_id ?_); refine W_reg (by decide) (by rfl) ?_) | (with_reducible first | refine W_cond ?_ | refine hZ _ _ ?_ | refine W_exit ?_ | refine Wo_id ?_)); repeat1' simp only [push_cast, Nat.reduceBEq, Nat.reduceLT, Nat.reduceEqDiff, reduceIte, reduceCtorEq, Nat.reduceMul, Nat.reduceAdd, Nat.reduceSub, Int.reduceEq, Int.reduceLT, Int.reduceLE, Int.reduceNeg, Int.reduceAdd, Int.reduceSub, Int.reduceMul, Nat.reduceLeDiff, Int.reduceToNat, cell_h, cellO_cells, hs, hp8', not_true_eq_false, not_false_eq_true]) | ((repeat ((fail_if_success with_reducible refine hK _ _ ?_); clear hK K)); (with_reducible refine hK _ _ ?_); clear hK K))))
        exact fin n1 he w8 hx28 rfl
end Go.Proofs.YtkafpameheohdaaDoor
end
section
set_option linter.unusedSimpArgs false
set_option linter.unusedVariables false
namespace Go.Vk
open Go
theorem intCells_take1 (l : List Int) (k : Nat) : (intCells l).take (k * 1) = intCells (l.take k) := by unfold intCells; rw [Nat.mul_one, List.map_take]
theorem intCells_drop1 (l : List Int) (k : Nat) : (intCells l).drop (k * 1) = intCells (l.drop k) := by unfold intCells; rw [Nat.mul_one, List.map_drop]
def insR (L : List Nd) (l : List Int) (k i : Int) : List Int × Int := if ((nd? L i).getD zN).kind = 3 then (if 0 ≤ k ∧ k ≤ l.length then (if 512 ≤ l.length then (l, 150) else (l.take k.toNat ++ i :: l.drop k.toNat, 0)) else (l, 2)) else (l, 2)
def replR (L : List Nd) (l : List Int) (k i : Int) : List Int × Int := if ((nd? L i).getD zN).kind = 3 then (if 0 ≤ k ∧ k < l.length then (l.set k.toNat i, 0) else (l, 2)) else (l, 2)
def indexR (l : List Int) (i : Int) : Int := lastB (fun k => decide (l.getD k 0 = i)) l.length
def remR (l : List Int) (i : Int) : List Int × Int := if indexR l i < 0 then (l, 4) else (l.eraseIdx (indexR l i).toNat, 0)
def topR (l : List Int) : Int := if l.length = 0 then -1 else l.getD (l.length - 1) 0
theorem rs_same {w w2 : World} {S F : Nat → Prop} {pr pb : Nat} {L : List Nd} {l l' : List Int} {lv : Value} {bo : Option Nat} (h1 : RSs w pr pb lv l bo) (h2 : Ar w pb L F) (h3 : ∀ b, F b → S b ∧ b ≠ pr ∧ bo ≠ some b) (h4 : S pr) (h5 : ∀ b, bo = some b → S b)
    (g1 : SlAt w2 1 lv (intCells l') bo) (g2 : Upd (fun b => bo = some b) w w2) : RS w2 (gS S w w2) pr pb L l' ∧ Upd S w w2 :=
  ⟨⟨lv, bo, F, ⟨(g2.same pr (blk_lt h1.head) h1.ne).trans h1.head, g1, h1.ne⟩, h2.frame g2 fun b hf e => (h3 b hf).2.2 e, fun b hf => ⟨.inl (h3 b hf).1, (h3 b hf).2⟩, .inl h4, fun b hb => .inl (h5 b hb)⟩, g2.mono fun b _ e => h5 b e⟩
end Go.Vk
namespace Go.Proofs.YtkafpameheohdaaDoor
open Go Go.Vk
theorem plS15 (w : World) : ((fsOf Tryd.prog 65).mapM plOf).run Tryd.prog w = .ok #[(0,1),(1,1)] w := by
  simp [fsOf, plOf, Tryd.underlying65, Sem.run, Tryd.sizeOf54, Tryd.sizeOf27]
theorem unS15 : Tryd.prog.underlying 65 = some (.struct (fsOf Tryd.prog 65)) := by rw [fsOf, Tryd.underlying65]
set_option maxHeartbeats 40000000
theorem rnew15_c {w : World} {pb : Nat} {L : List Nd} {F : Nat → Prop} (h : Ar w pb L F) : Gives Tryd.prog 31 #[.pointer (some ⟨pb, 0, none⟩)] w fun v w' => ∃ pr, v = .pointer (some ⟨pr, 0, none⟩) ∧ RS w' (gS F w w') pr pb L [] ∧ Ext w w' := by
  refine Gives.of_W Tryd.call31 Tryd.func31 rfl Tryd.ntmps31 (by simp) ?_; intro Z hZ
  (repeat (first | (with_reducible first | (refine hK _ _ ?_; clear hK K) | refine (show ∀ σ' w', _ → K σ' w' from by assumption) _ _ ?_ | refine W_seq_k fun K hK => ?_ | refine W_block_k fun K hK => ?_ | refine W_skip ?_ | refine W_ret ?_) | ((first | ((with_reducible refine W_id ?_); refine W_reg (by decide) (by rfl) ?_) | (with_reducible first | refine W_cond ?_ | refine hZ _ _ ?_ | refine W_exit ?_ | refine Wo_id ?_)); repeat1' simp only [push_cast, Nat.reduceBEq, Nat.reduceLT, Nat.reduceEqDiff, reduceIte, reduceCtorEq, Nat.reduceMul, Nat.reduceAdd, Nat.reduceSub, Int.reduceEq, Int.reduceLT, Int.reduceLE, Int.reduceNeg, Int.reduceAdd, Int.reduceSub, Int.reduceMul, Nat.reduceLeDiff, Int.reduceToNat]) | ((repeat ((fail_if_success with_reducible refine hK _ _ ?_); clear hK K)); (with_reducible refine hK _ _ ?_); clear hK K)))
  refine build_struct Tryd.zeroValue65 unS15 plS15 (cs := #[.pointer (some ⟨pb, 0, none⟩), .slice none 0 0]) (by rfl) ?_
  ((repeat simp only [push_cast, Nat.reduceBEq, Nat.reduceLT, Nat.reduceEqDiff, reduceIte, reduceCtorEq, Nat.reduceMul, Nat.reduceAdd, Nat.reduceSub, Int.reduceEq, Int.reduceLT, Int.reduceLE, Int.reduceNeg, Int.reduceAdd, Int.reduceSub, Int.reduceMul, Nat.reduceLeDiff, Int.reduceToNat, vcells_agg]); (repeat (first | (with_reducible first | (refine hK _ _ ?_; clear hK K) | refine (show ∀ σ' w', _ → K σ' w' from by assumption) _ _ ?_ | refine W_seq_k fun K hK => ?_ | refine W_block_k fun K hK => ?_ | refine W_skip ?_ | refine W_ret ?_) | ((first | ((with_reducible refine W_id ?_); refine W_reg (by decide) (by rfl) ?_) | (with_reducible first | refine W_cond ?_ | refine hZ _ _ ?_ | refine W_exit ?_ | refine Wo_id ?_)); repeat1' simp only [push_cast, Nat.reduceBEq, Nat.reduceLT, Nat.reduceEqDiff, reduceIte, reduceCtorEq, Nat.reduceMul, Nat.reduceAdd, Nat.reduceSub, Int.reduceEq, Int.reduceLT, Int.reduceLE, Int.reduceNeg, Int.reduceAdd, Int.reduceSub, Int.reduceMul, Nat.reduceLeDiff, Int.reduceToNat, vcells_agg]) | ((repeat ((fail_if_success with_reducible refine hK _ _ ?_); clear hK K)); (with_reducible refine hK _ _ ?_); clear hK K))))
  have hx := Ext.alloc w (.cells #[.pointer (some ⟨pb, 0, none⟩), .slice none 0 0] 65)
  refine ⟨w.heap.size, rfl, ⟨_, none, fun b => F b ∧ b < w.heap.size, ⟨by rw [heap_alloc_h, if_pos rfl], SlAt.nil _ _, by simp⟩, (h.mono fun b hb hf => ⟨hf, hb⟩).ext hx, fun b hf => ⟨.inl hf.1, by have := hf.2; omega, by simp⟩, .inr ⟨Nat.le_refl _, by rw [size_alloc_h]; omega⟩, fun b hb => by cases hb⟩, hx⟩
section
variable {w : World} {S : Nat → Prop} {pr pb : Nat} {L : List Nd} {l : List Int}
theorem rins15_c (h : RS w S pr pb L l) (hl : l.length < 10000) (hb : L.length < 100000) (k i : Int) : Gives Tryd.prog 58 #[.pointer (some ⟨pr, 0, none⟩), .int .i64 k, .int .i64 i] w fun v w' => v = .int .i64 (insR L l k i).2 ∧ RS w' (gS S w w') pr pb L (insR L l k i).1 ∧ Upd S w w' := by
  have hR := h
  obtain ⟨lv, bo, F, h1, h2, h3, h4, h5⟩ := h
  have hkd := rkind_c h2 (by omega) i
  have hhr := h1.head
  obtain ⟨a, c, elv, hc, hcell⟩ := ints_len2 h1.sl
  subst elv
  have no : RS w (gS S w w) pr pb L l ∧ Upd S w w := ⟨hR.upd (Upd.refl none_ _) (fun _ _ => id) fun _ => .inl, Upd.refl _ _⟩
  unfold insR
  by_cases hk3 : ((nd? L i).getD zN).kind = 3
  · rw [if_pos hk3]
    rw [hk3] at hkd
    by_cases hk0 : k < 0
    · rw [if_neg (by omega)]
      refine Gives.of_W Tryd.call58 Tryd.func58 rfl Tryd.ntmps58 (by simp) ?_; intro Z hZ
      (repeat (first | (with_reducible first | (refine hK _ _ ?_; clear hK K) | refine (show ∀ σ' w', _ → K σ' w' from by assumption) _ _ ?_ | refine W_seq_k fun K hK => ?_ | refine W_block_k fun K hK => ?_ | refine W_skip ?_ | refine W_ret ?_) | ((first | ((with_reducible refine W_id ?_); refine W_reg (by decide) (by rfl) ?_) | (with_reducible first | refine W_cond ?_ | refine hZ _ _ ?_ | refine W_exit ?_ | refine Wo_id ?_)); repeat1' simp only [push_cast, Nat.reduceBEq, Nat.reduceLT, Nat.reduceEqDiff, reduceIte, reduceCtorEq, Nat.reduceMul, Nat.reduceAdd, Nat.reduceSub, Int.reduceEq, Int.reduceLT, Int.reduceLE, Int.reduceNeg, Int.reduceAdd, Int.reduceSub, Int.reduceMul, Nat.reduceLeDiff, Int.reduceToNat, cell_h, cellO_cells, hhr]) | ((repeat ((fail_if_success with_reducible refine hK _ _ ?_); clear hK K)); (with_reducible refine hK _ _ ?_); clear hK K)))
      refine hkd.mono ?_
      intro v w' ⟨hv, hw⟩
      subst hv; subst w'
      ((repeat simp only [push_cast, Nat.reduceBEq, Nat.reduceLT, Nat.reduceEqDiff, reduceIte, reduceCtorEq, Nat.reduceMul, Nat.reduceAdd, Nat.reduceSub, Int.reduceEq, Int.reduceLT, Int.reduceLE, Int.reduceNeg, Int.reduceAdd, Int.reduceSub, Int.reduceMul, Nat.reduceLeDiff, Int.reduceToNat, cell_h, cellO_cells, hhr, hk0, not_true_eq_false]); (repeat (first | (with_reducible first | (refine hK _ _ ?_; clear hK K) | refine (show ∀ σ' w', _ → K σ' w' from by assumption) _ _ ?_ | refine W_seq_k fun K hK => ?_ | refine W_block_k fun K hK => ?_ | refine W_skip ?_ | refine W_ret ?_) | ((first | ((with_reducible refine W_id ?_); refine W_reg (by decide) (by rfl) ?_) | (with_reducible first | refine W_cond ?_ | refine hZ _ _ ?_ | refine W_exit ?_ | refine Wo_id ?_)); repeat1' simp only [push_cast, Nat.reduceBEq, Nat.reduceLT, Nat.reduceEqDiff, reduceIte, reduceCtorEq, Nat.reduceMul, Nat.reduceAdd, Nat.reduceSub, Int.reduceEq, Int.reduceLT, Int.reduceLE, Int.reduceNeg, Int.reduceAdd, Int.reduceSub, Int.reduceMul, Nat.reduceLeDiff, Int.reduceToNat, cell_h, cellO_cells, hhr, hk0, not_true_eq_false]) | ((repeat ((fail_if_success with_reducible refine hK _ _ ?_); clear hK K)); (with_reducible refine hK _ _ ?_); clear hK K))))
      exact no
    obtain ⟨k, rfl⟩ : ∃ q : Nat, k = (q : Int) := ⟨k.toNat, by omega⟩
    have b0 : (0 : Int) ≤ (k : Int) := by omega
    by_cases hkl : k ≤ l.length
    · have b1 : ¬ (l.length : Int) < (k : Int) := by omega
      have b2 : (k : Int) ≤ (l.length : Int) := by omega
      have b3 : (k : Int) ≤ (c : Int) := by omega
      rw [if_pos ⟨b0, b2⟩, Int.toNat_natCast]
      by_cases h512 : 512 ≤ l.length
      · have b4 : (512 : Int) ≤ (l.length : Int) := by omega
        rw [if_pos h512]
        refine Gives.of_W Tryd.call58 Tryd.func58 rfl Tryd.ntmps58 (by simp) ?_; intro Z hZ
        (repeat (first | (with_reducible first | (refine hK _ _ ?_; clear hK K) | refine (show ∀ σ' w', _ → K σ' w' from by assumption) _ _ ?_ | refine W_seq_k fun K hK => ?_ | refine W_block_k fun K hK => ?_ | refine W_skip ?_ | refine W_ret ?_) | ((first | ((with_reducible refine W_id ?_); refine W_reg (by decide) (by rfl) ?_) | (with_reducible first | refine W_cond ?_ | refine hZ _ _ ?_ | refine W_exit ?_ | refine Wo_id ?_)); repeat1' simp only [push_cast, Nat.reduceBEq, Nat.reduceLT, Nat.reduceEqDiff, reduceIte, reduceCtorEq, Nat.reduceMul, Nat.reduceAdd, Nat.reduceSub, Int.reduceEq, Int.reduceLT, Int.reduceLE, Int.reduceNeg, Int.reduceAdd, Int.reduceSub, Int.reduceMul, Nat.reduceLeDiff, Int.reduceToNat, cell_h, cellO_cells, hhr]) | ((repeat ((fail_if_success with_reducible refine hK _ _ ?_); clear hK K)); (with_reducible refine hK _ _ ?_); clear hK K)))
        refine hkd.mono ?_
        intro v w' ⟨hv, hw⟩
        subst hv; subst w'
        ((repeat simp only [push_cast, Nat.reduceBEq, Nat.reduceLT, Nat.reduceEqDiff, reduceIte, reduceCtorEq, Nat.reduceMul, Nat.reduceAdd, Nat.reduceSub, Int.reduceEq, Int.reduceLT, Int.reduceLE, Int.reduceNeg, Int.reduceAdd, Int.reduceSub, Int.reduceMul, Nat.reduceLeDiff, Int.reduceToNat, cell_h, cellO_cells, hhr, hk0, b0, b1, b2, b4, not_true_eq_false]); (repeat (first | (with_reducible first | (refine hK _ _ ?_; clear hK K) | refine (show ∀ σ' w', _ → K σ' w' from by assumption) _ _ ?_ | refine W_seq_k fun K hK => ?_ | refine W_block_k fun K hK => ?_ | refine W_skip ?_ | refine W_ret ?_) | ((first | ((with_reducible refine W_id ?_); refine W_reg (by decide) (by rfl) ?_) | (with_reducible first | refine W_cond ?_ | refine hZ _ _ ?_ | refine W_exit ?_ | refine Wo_id ?_)); repeat1' simp only [push_cast, Nat.reduceBEq, Nat.reduceLT, Nat.reduceEqDiff, reduceIte, reduceCtorEq, Nat.reduceMul, Nat.reduceAdd, Nat.reduceSub, Int.reduceEq, Int.reduceLT, Int.reduceLE, Int.reduceNeg, Int.reduceAdd, Int.reduceSub, Int.reduceMul, Nat.reduceLeDiff, Int.reduceToNat, cell_h, cellO_cells, hhr, hk0, b0, b1, b2, b4, not_true_eq_false]) | ((repeat ((fail_if_success with_reducible refine hK _ _ ?_); clear hK K)); (with_reducible refine hK _ _ ?_); clear hK K))))
        exact no
      · have b4 : ¬ (512 : Int) ≤ (l.length : Int) := by omega
        rw [if_neg h512]
        have hxd := Ext.drew w
        have hhd := hxd.blk hhr
        have hsd := h1.sl.ext hxd
        have hprl := blk_lt hhr
        have hszd := hxd.alike.size
        refine Gives.of_W Tryd.call58 Tryd.func58 rfl Tryd.ntmps58 (by simp) ?_; intro Z hZ
        (repeat (first | (with_reducible first | (refine hK _ _ ?_; clear hK K) | refine (show ∀ σ' w', _ → K σ' w' from by assumption) _ _ ?_ | refine W_seq_k fun K hK => ?_ | refine W_block_k fun K hK => ?_ | refine W_skip ?_ | refine W_ret ?_) | ((first | ((with_reducible refine W_id ?_); refine W_reg (by decide) (by rfl) ?_) | (with_reducible first | refine W_cond ?_ | refine hZ _ _ ?_ | refine W_exit ?_ | refine Wo_id ?_)); repeat1' simp only [push_cast, Nat.reduceBEq, Nat.reduceLT, Nat.reduceEqDiff, reduceIte, reduceCtorEq, Nat.reduceMul, Nat.reduceAdd, Nat.reduceSub, Int.reduceEq, Int.reduceLT, Int.reduceLE, Int.reduceNeg, Int.reduceAdd, Int.reduceSub, Int.reduceMul, Nat.reduceLeDiff, Int.reduceToNat, cell_h, cellO_cells, hhr]) | ((repeat ((fail_if_success with_reducible refine hK _ _ ?_); clear hK K)); (with_reducible refine hK _ _ ?_); clear hK K)))
        refine hkd.mono ?_
        intro v w' ⟨hv, hw⟩
        subst hv; subst w'
        ((repeat simp only [push_cast, Nat.reduceBEq, Nat.reduceLT, Nat.reduceEqDiff, reduceIte, reduceCtorEq, Nat.reduceMul, Nat.reduceAdd, Nat.reduceSub, Int.reduceEq, Int.reduceLT, Int.reduceLE, Int.reduceNeg, Int.reduceAdd, Int.reduceSub, Int.reduceMul, Nat.reduceLeDiff, Int.reduceToNat, cell_h, cellO_cells, hhr, hk0, b0, b1, b2, b4, not_true_eq_false]); (repeat (first | (with_reducible first | (refine hK _ _ ?_; clear hK K) | refine (show ∀ σ' w', _ → K σ' w' from by assumption) _ _ ?_ | refine W_seq_k fun K hK => ?_ | refine W_block_k fun K hK => ?_ | refine W_skip ?_ | refine W_ret ?_) | ((first | ((with_reducible refine W_id ?_); refine W_reg (by decide) (by rfl) ?_) | (with_reducible first | refine W_cond ?_ | refine hZ _ _ ?_ | refine W_exit ?_ | refine Wo_id ?_)); repeat1' simp only [push_cast, Nat.reduceBEq, Nat.reduceLT, Nat.reduceEqDiff, reduceIte, reduceCtorEq, Nat.reduceMul, Nat.reduceAdd, Nat.reduceSub, Int.reduceEq, Int.reduceLT, Int.reduceLE, Int.reduceNeg, Int.reduceAdd, Int.reduceSub, Int.reduceMul, Nat.reduceLeDiff, Int.reduceToNat, cell_h, cellO_cells, hhr, hk0, b0, b1, b2, b4, not_true_eq_false]) | ((repeat ((fail_if_success with_reducible refine hK _ _ ?_); clear hK K)); (with_reducible refine hK _ _ ?_); clear hK K))))
        refine W_draw (.pas 0 (.pas 1 (.pas 2 (.pas 3 (.pas 4 (.pas 5 (.pas 6 (.pas 8 (.pas 11 (.pas 12 (.pas 13 (.pas 14 (.pas 15 (.pas 16 (.two 7 (.act 9 (.act 10 (.act 17 (.pas 18 (.pas 19 (.last 20)))))) 9 (.act 7 (.act 10 (.act 17 (.pas 18 (.pas 19 (.last 20))))))))))))))))))))) (fun b' => b' = pr) (by decide) mixed (by kernel_rfl) ?_
        generalize w.drew = wd at *
        (repeat (first | ((first | refine pas_plain rfl ?_ | refine pas_g rfl rfl ?_ | refine act_plain rfl ?_ | refine act_g rfl rfl ?_ | refine last_plain rfl ?_ | refine tail_plain rfl ?_ | refine tail_g rfl rfl ?_); (repeat simp only [push_cast, Nat.reduceBEq, Nat.reduceLT, Nat.reduceEqDiff, reduceIte, reduceCtorEq, Nat.reduceMul, Nat.reduceAdd, Nat.reduceSub, Int.reduceEq, Int.reduceLT, Int.reduceLE, Int.reduceNeg, Int.reduceAdd, Int.reduceSub, Int.reduceMul, Nat.reduceLeDiff, Int.reduceToNat, eq_self, cell_h, cellO_cells, hhd, b0, b1, b2, b3])) | (refine tail_fin ?_) | (refine sch_fin ?_)))
        have hent : (Value.int .i64 i).cells.toList = intCells [i] := rfl
        have hone : ((Value.int .i64 i).cells.toList).all oneCell = true := rfl
        have hlist : intCells (l.take k) ++ intCells [i] ++ intCells (l.drop k) = intCells (l.take k ++ i :: l.drop k) := by rw [← intCells_append, ← intCells_append]; simp
        have hlk : (l.take k).length = k := by simp; omega
        have hs1 : ∀ w2, Ext wd w2 → RdAt w2 1 (.slice (if c = 0 then a else Option.map (fun x => x.add 0) a) k c) ((intCells l).take (k * 1)) := fun w2 hx => (hsd.ext hx).pre hkl
        rw [intCells_take1] at hs1
        have fin : ∀ v w5 bo5, SlAt w5 1 v (intCells (l.take k) ++ intCells [i] ++ intCells (l.drop k)) bo5 → Ext w w5 → (∀ b, bo5 = some b → w.heap.size ≤ b) →
            ∃ x y z, v = .slice x y z ∧ canStore w5 ⟨pr, 1, none⟩ ∧ RS (w5.setCell ⟨pr, 1, none⟩ v) (gS S w (w5.setCell ⟨pr, 1, none⟩ v)) pr pb L (l.take k ++ i :: l.drop k) ∧ Upd S w (w5.setCell ⟨pr, 1, none⟩ v) := by
          intro v w5 bo5 g1 g2 g3
          rw [hlist] at g1
          obtain ⟨x, y, z, e, _⟩ := g1.len
          exact ⟨x, y, z, e, rs_put h1 h2 h3 h4 h5 g1 g2 (fun b _ e => e.elim) fun b hb => .inr (g3 b hb)⟩
        refine two_mk ?_ ?_
        · (repeat (first | ((first | refine pas_plain rfl ?_ | refine pas_g rfl rfl ?_ | refine act_plain rfl ?_ | refine act_g rfl rfl ?_ | refine last_plain rfl ?_ | refine tail_plain rfl ?_ | refine tail_g rfl rfl ?_); (repeat simp only [push_cast, Nat.reduceBEq, Nat.reduceLT, Nat.reduceEqDiff, reduceIte, reduceCtorEq, Nat.reduceMul, Nat.reduceAdd, Nat.reduceSub, Int.reduceEq, Int.reduceLT, Int.reduceLE, Int.reduceNeg, Int.reduceAdd, Int.reduceSub, Int.reduceMul, Nat.reduceLeDiff, Int.reduceToNat])) | (refine tail_fin ?_) | (refine sch_fin ?_)))
          simp only [Nat.sub_zero]
          refine app_to_rd sty28 sty28.und (by decide) (SlAt.nil wd 1) (hs1 wd (Ext.refl _)) (intCells_one _) (by simp [intCells_length]; omega) ?_
          intro v1 w2 bo2 g1 g2 g3
          rw [List.nil_append] at g1
          have hx2 : Ext wd w2 := g2.mono fun b _ e => by cases e
          have hz2 := hx2.alike.size
          refine ⟨kept_upd hx2 fun b' hb => ⟨by have : b' = pr := hb; omega, id⟩, ?_⟩
          (repeat (first | ((first | refine pas_plain rfl ?_ | refine pas_g rfl rfl ?_ | refine act_plain rfl ?_ | refine act_g rfl rfl ?_ | refine last_plain rfl ?_ | refine tail_plain rfl ?_ | refine tail_g rfl rfl ?_); (repeat simp only [push_cast, Nat.reduceBEq, Nat.reduceLT, Nat.reduceEqDiff, reduceIte, reduceCtorEq, Nat.reduceMul, Nat.reduceAdd, Nat.reduceSub, Int.reduceEq, Int.reduceLT, Int.reduceLE, Int.reduceNeg, Int.reduceAdd, Int.reduceSub, Int.reduceMul, Nat.reduceLeDiff, Int.reduceToNat])) | (refine tail_fin ?_) | (refine sch_fin ?_)))
          refine bs_one sty28 (by decide) (by decide) (v := .int .i64 i) rfl ?_
          have hx3 := Ext.alloc w2 (.cells (Value.int .i64 i).cells 3)
          have hz3 := hx3.alike.size
          refine ⟨kept_upd hx3 fun b' hb => ⟨by have : b' = pr := hb; omega, id⟩, ?_⟩
          (repeat (first | ((first | refine pas_plain rfl ?_ | refine pas_g rfl rfl ?_ | refine act_plain rfl ?_ | refine act_g rfl rfl ?_ | refine last_plain rfl ?_ | refine tail_plain rfl ?_ | refine tail_g rfl rfl ?_); (repeat simp only [push_cast, Nat.reduceBEq, Nat.reduceLT, Nat.reduceEqDiff, reduceIte, reduceCtorEq, Nat.reduceMul, Nat.reduceAdd, Nat.reduceSub, Int.reduceEq, Int.reduceLT, Int.reduceLE, Int.reduceNeg, Int.reduceAdd, Int.reduceSub, Int.reduceMul, Nat.reduceLeDiff, Int.reduceToNat])) | (refine tail_fin ?_) | (refine sch_fin ?_)))
          refine app_to sty28 sty28.und (by decide) (g1.ext hx3) (SlAt.new w2 1 (Value.int .i64 i).cells 3 1 rfl) hone (by rw [hent]; simp [intCells_length]; omega) ?_
          intro v2 w4 bo4 k1 k2 k3
          rw [hent] at k1
          have hb2 : ∀ b, bo2 = some b → wd.heap.size ≤ b := fun b hb => by
            rcases g3 b hb with h | h
            · cases h
            · exact h
          have hx4 : Ext wd w4 := Upd.trans (hx2.trans hx3) k2 fun b hb e => by have := hb2 b e; omega
          have hz4 := hx4.alike.size
          have hb4 : ∀ b, bo4 = some b → wd.heap.size ≤ b := fun b hb => by
            rcases k3 b hb with h | h
            · exact hb2 b h
            · omega
          refine ⟨kept_upd k2 fun b' hb => ⟨by have : b' = pr := hb; omega, fun e => by have : b' = pr := hb; have := hb2 b' e; omega⟩, ?_⟩
          (repeat (first | ((first | refine pas_plain rfl ?_ | refine pas_g rfl rfl ?_ | refine act_plain rfl ?_ | refine act_g rfl rfl ?_ | refine last_plain rfl ?_ | refine tail_plain rfl ?_ | refine tail_g rfl rfl ?_); (repeat simp only [push_cast, Nat.reduceBEq, Nat.reduceLT, Nat.reduceEqDiff, reduceIte, reduceCtorEq, Nat.reduceMul, Nat.reduceAdd, Nat.reduceSub, Int.reduceEq, Int.reduceLT, Int.reduceLE, Int.reduceNeg, Int.reduceAdd, Int.reduceSub, Int.reduceMul, Nat.reduceLeDiff, Int.reduceToNat])) | (refine tail_fin ?_) | (refine sch_fin ?_)))
          refine app_to_rd sty28 sty28.und (by decide) k1 ((hsd.ext hx4).suf (k := k) hkl fun hne => by rw [if_neg hne, Nat.mul_one]) (by rw [intCells_drop1]; exact intCells_one _) (by rw [intCells_drop1]; simp [intCells_length]; omega) ?_
          intro v3 w5 bo5 q1 q2 q3
          rw [intCells_drop1] at q1
          have hx5 : Ext wd w5 := Upd.trans hx4 q2 fun b hb e => by have := hb4 b e; omega
          obtain ⟨x, y, z, e, p1, p2, p3⟩ := fin v3 w5 bo5 q1 (hxd.trans hx5) fun b hb => by
            rcases q3 b hb with h | h
            · have := hb4 b h; omega
            · omega
          subst e
          refine ⟨kept_upd q2 fun b' hb => ⟨by have : b' = pr := hb; omega, fun e => by have : b' = pr := hb; have := hb4 b' e; omega⟩, ?_⟩
          have hh5 := hx5.blk hhd
          (repeat (first | ((first | refine pas_plain rfl ?_ | refine pas_g rfl rfl ?_ | refine act_plain rfl ?_ | refine act_g rfl rfl ?_ | refine last_plain rfl ?_ | refine tail_plain rfl ?_ | refine tail_g rfl rfl ?_); (repeat simp only [push_cast, Nat.reduceBEq, Nat.reduceLT, Nat.reduceEqDiff, reduceIte, reduceCtorEq, Nat.reduceMul, Nat.reduceAdd, Nat.reduceSub, Int.reduceEq, Int.reduceLT, Int.reduceLE, Int.reduceNeg, Int.reduceAdd, Int.reduceSub, Int.reduceMul, Nat.reduceLeDiff, Int.reduceToNat, cell_h, cellO_cells, hh5, p1])) | (refine tail_fin ?_) | (refine sch_fin ?_)))
          ((repeat simp only [push_cast, Nat.reduceBEq, Nat.reduceLT, Nat.reduceEqDiff, reduceIte, reduceCtorEq, Nat.reduceMul, Nat.reduceAdd, Nat.reduceSub, Int.reduceEq, Int.reduceLT, Int.reduceLE, Int.reduceNeg, Int.reduceAdd, Int.reduceSub, Int.reduceMul, Nat.reduceLeDiff, Int.reduceToNat]); (repeat (first | (with_reducible first | (refine hK _ _ ?_; clear hK K) | refine (show ∀ σ' w', _ → K σ' w' from by assumption) _ _ ?_ | refine W_seq_k fun K hK => ?_ | refine W_block_k fun K hK => ?_ | refine W_skip ?_ | refine W_ret ?_) | ((first | ((with_reducible refine W_id ?_); refine W_reg (by decide) (by rfl) ?_) | (with_reducible first | refine W_cond ?_ | refine hZ _ _ ?_ | refine W_exit ?_ | refine Wo_id ?_)); repeat1' simp only [push_cast, Nat.reduceBEq, Nat.reduceLT, Nat.reduceEqDiff, reduceIte, reduceCtorEq, Nat.reduceMul, Nat.reduceAdd, Nat.reduceSub, Int.reduceEq, Int.reduceLT, Int.reduceLE, Int.reduceNeg, Int.reduceAdd, Int.reduceSub, Int.reduceMul, Nat.reduceLeDiff, Int.reduceToNat]) | ((repeat ((fail_if_success with_reducible refine hK _ _ ?_); clear hK K)); (with_reducible refine hK _ _ ?_); clear hK K))))
          exact ⟨p2, p3⟩
        · (repeat (first | ((first | refine pas_plain rfl ?_ | refine pas_g rfl rfl ?_ | refine act_plain rfl ?_ | refine act_g rfl rfl ?_ | refine last_plain rfl ?_ | refine tail_plain rfl ?_ | refine tail_g rfl rfl ?_); (repeat simp only [push_cast, Nat.reduceBEq, Nat.reduceLT, Nat.reduceEqDiff, reduceIte, reduceCtorEq, Nat.reduceMul, Nat.reduceAdd, Nat.reduceSub, Int.reduceEq, Int.reduceLT, Int.reduceLE, Int.reduceNeg, Int.reduceAdd, Int.reduceSub, Int.reduceMul, Nat.reduceLeDiff, Int.reduceToNat])) | (refine tail_fin ?_) | (refine sch_fin ?_)))
          refine bs_one sty28 (by decide) (by decide) (v := .int .i64 i) rfl ?_
          have hx2 := Ext.alloc wd (.cells (Value.int .i64 i).cells 3)
          have hnew := SlAt.new wd 1 (Value.int .i64 i).cells 3 1 rfl
          have hz2 := hx2.alike.size
          generalize wd.alloc (.cells (Value.int .i64 i).cells 3) = w2 at *
          refine ⟨kept_upd hx2 fun b' hb => ⟨by have : b' = pr := hb; omega, id⟩, ?_⟩
          (repeat (first | ((first | refine pas_plain rfl ?_ | refine pas_g rfl rfl ?_ | refine act_plain rfl ?_ | refine act_g rfl rfl ?_ | refine last_plain rfl ?_ | refine tail_plain rfl ?_ | refine tail_g rfl rfl ?_); (repeat simp only [push_cast, Nat.reduceBEq, Nat.reduceLT, Nat.reduceEqDiff, reduceIte, reduceCtorEq, Nat.reduceMul, Nat.reduceAdd, Nat.reduceSub, Int.reduceEq, Int.reduceLT, Int.reduceLE, Int.reduceNeg, Int.reduceAdd, Int.reduceSub, Int.reduceMul, Nat.reduceLeDiff, Int.reduceToNat])) | (refine tail_fin ?_) | (refine sch_fin ?_)))
          simp only [Nat.sub_zero]
          refine app_to_rd sty28 sty28.und (by decide) (SlAt.nil w2 1) (hs1 w2 hx2) (intCells_one _) (by simp [intCells_length]; omega) ?_
          intro v1 w3 bo3 g1 g2 g3
          rw [List.nil_append] at g1
          have hx3 : Ext w2 w3 := g2.mono fun b _ e => by cases e
          have hz3 := hx3.alike.size
          refine ⟨kept_upd hx3 fun b' hb => ⟨by have : b' = pr := hb; omega, id⟩, ?_⟩
          (repeat (first | ((first | refine pas_plain rfl ?_ | refine pas_g rfl rfl ?_ | refine act_plain rfl ?_ | refine act_g rfl rfl ?_ | refine last_plain rfl ?_ | refine tail_plain rfl ?_ | refine tail_g rfl rfl ?_); (repeat simp only [push_cast, Nat.reduceBEq, Nat.reduceLT, Nat.reduceEqDiff, reduceIte, reduceCtorEq, Nat.reduceMul, Nat.reduceAdd, Nat.reduceSub, Int.reduceEq, Int.reduceLT, Int.reduceLE, Int.reduceNeg, Int.reduceAdd, Int.reduceSub, Int.reduceMul, Nat.reduceLeDiff, Int.reduceToNat])) | (refine tail_fin ?_) | (refine sch_fin ?_)))
          refine app_to sty28 sty28.und (by decide) g1 (hnew.ext hx3) hone (by rw [hent]; simp [intCells_length]; omega) ?_
          intro v2 w4 bo4 k1 k2 k3
          rw [hent] at k1
          have hb2 : ∀ b, bo3 = some b → wd.heap.size ≤ b := fun b hb => by
            rcases g3 b hb with h | h
            · cases h
            · omega
          have hx4 : Ext wd w4 := Upd.trans (hx2.trans hx3) k2 fun b hb e => by have := hb2 b e; omega
          have hz4 := hx4.alike.size
          have hb4 : ∀ b, bo4 = some b → wd.heap.size ≤ b := fun b hb => by
            rcases k3 b hb with h | h
            · exact hb2 b h
            · omega
          refine ⟨kept_upd k2 fun b' hb => ⟨by have : b' = pr := hb; omega, fun e => by have : b' = pr := hb; have := hb2 b' e; omega⟩, ?_⟩
          (repeat (first | ((first | refine pas_plain rfl ?_ | refine pas_g rfl rfl ?_ | refine act_plain rfl ?_ | refine act_g rfl rfl ?_ | refine last_plain rfl ?_ | refine tail_plain rfl ?_ | refine tail_g rfl rfl ?_); (repeat simp only [push_cast, Nat.reduceBEq, Nat.reduceLT, Nat.reduceEqDiff, reduceIte, reduceCtorEq, Nat.reduceMul, Nat.reduceAdd, Nat.reduceSub, Int.reduceEq, Int.reduceLT, Int.reduceLE, Int.reduceNeg, Int.reduceAdd, Int.reduceSub, Int.reduceMul, Nat.reduceLeDiff, Int.reduceToNat])) | (refine tail_fin ?_) | (refine sch_fin ?_)))
          refine app_to_rd sty28 sty28.und (by decide) k1 ((hsd.ext hx4).suf (k := k) hkl fun hne => by rw [if_neg hne, Nat.mul_one]) (by rw [intCells_drop1]; exact intCells_one _) (by rw [intCells_drop1]; simp [intCells_length]; omega) ?_
          intro v3 w5 bo5 q1 q2 q3
          rw [intCells_drop1] at q1
          have hx5 : Ext wd w5 := Upd.trans hx4 q2 fun b hb e => by have := hb4 b e; omega
          obtain ⟨x, y, z, e, p1, p2, p3⟩ := fin v3 w5 bo5 q1 (hxd.trans hx5) fun b hb => by
            rcases q3 b hb with h | h
            · have := hb4 b h; omega
            · omega
          subst e
          refine ⟨kept_upd q2 fun b' hb => ⟨by have : b' = pr := hb; omega, fun e => by have : b' = pr := hb; have := hb4 b' e; omega⟩, ?_⟩
          have hh5 := hx5.blk hhd
          (repeat (first | ((first | refine pas_plain rfl ?_ | refine pas_g rfl rfl ?_ | refine act_plain rfl ?_ | refine act_g rfl rfl ?_ | refine last_plain rfl ?_ | refine tail_plain rfl ?_ | refine tail_g rfl rfl ?_); (repeat simp only [push_cast, Nat.reduceBEq, Nat.reduceLT, Nat.reduceEqDiff, reduceIte, reduceCtorEq, Nat.reduceMul, Nat.reduceAdd, Nat.reduceSub, Int.reduceEq, Int.reduceLT, Int.reduceLE, Int.reduceNeg, Int.reduceAdd, Int.reduceSub, Int.reduceMul, Nat.reduceLeDiff, Int.reduceToNat, cell_h, cellO_cells, hh5, p1])) | (refine tail_fin ?_) | (refine sch_fin ?_)))
          ((repeat simp only [push_cast, Nat.reduceBEq, Nat.reduceLT, Nat.reduceEqDiff, reduceIte, reduceCtorEq, Nat.reduceMul, Nat.reduceAdd, Nat.reduceSub, Int.reduceEq, Int.reduceLT, Int.reduceLE, Int.reduceNeg, Int.reduceAdd, Int.reduceSub, Int.reduceMul, Nat.reduceLeDiff, Int.reduceToNat]); (repeat (first | (with_reducible first | (refine hK _ _ ?_; clear hK K) | refine (show ∀ σ' w', _ → K σ' w' from by assumption) _ _ ?_ | refine W_seq_k fun K hK => ?_ | refine W_block_k fun K hK => ?_ | refine W_skip ?_ | refine W_ret ?_) | ((first | ((with_reducible refine W_id ?_); refine W_reg (by decide) (by rfl) ?_) | (with_reducible first | refine W_cond ?_ | refine hZ _ _ ?_ | refine W_exit ?_ | refine Wo_id ?_)); repeat1' simp only [push_cast, Nat.reduceBEq, Nat.reduceLT, Nat.reduceEqDiff, reduceIte, reduceCtorEq, Nat.reduceMul, Nat.reduceAdd, Nat.reduceSub, Int.reduceEq, Int.reduceLT, Int.reduceLE, Int.reduceNeg, Int.reduceAdd, Int.reduceSub, Int.reduceMul, Nat.reduceLeDiff, Int.reduceToNat]) | ((repeat ((fail_if_success with_reducible refine hK _ _ ?_); clear hK K)); (with_reducible refine hK _ _ ?_); clear hK K))))
          exact ⟨p2, p3⟩
    · have b1 : (l.length : Int) < (k : Int) := by omega
      rw [if_neg (by omega)]
      refine Gives.of_W Tryd.call58 Tryd.func58 rfl Tryd.ntmps58 (by simp) ?_; intro Z hZ
      (repeat (first | (with_reducible first | (refine hK _ _ ?_; clear hK K) | refine (show ∀ σ' w', _ → K σ' w' from by assumption) _ _ ?_ | refine W_seq_k fun K hK => ?_ | refine W_block_k fun K hK => ?_ | refine W_skip ?_ | refine W_ret ?_) | ((first | ((with_reducible refine W_id ?_); refine W_reg (by decide) (by rfl) ?_) | (with_reducible first | refine W_cond ?_ | refine hZ _ _ ?_ | refine W_exit ?_ | refine Wo_id ?_)); repeat1' simp only [push_cast, Nat.reduceBEq, Nat.reduceLT, Nat.reduceEqDiff, reduceIte, reduceCtorEq, Nat.reduceMul, Nat.reduceAdd, Nat.reduceSub, Int.reduceEq, Int.reduceLT, Int.reduceLE, Int.reduceNeg, Int.reduceAdd, Int.reduceSub, Int.reduceMul, Nat.reduceLeDiff, Int.reduceToNat, cell_h, cellO_cells, hhr]) | ((repeat ((fail_if_success with_reducible refine hK _ _ ?_); clear hK K)); (with_reducible refine hK _ _ ?_); clear hK K)))
      refine hkd.mono ?_
      intro v w' ⟨hv, hw⟩
      subst hv; subst w'
      ((repeat simp only [push_cast, Nat.reduceBEq, Nat.reduceLT, Nat.reduceEqDiff, reduceIte, reduceCtorEq, Nat.reduceMul, Nat.reduceAdd, Nat.reduceSub, Int.reduceEq, Int.reduceLT, Int.reduceLE, Int.reduceNeg, Int.reduceAdd, Int.reduceSub, Int.reduceMul, Nat.reduceLeDiff, Int.reduceToNat, cell_h, cellO_cells, hhr, hk0, b0, b1, not_true_eq_false]); (repeat (first | (with_reducible first | (refine hK _ _ ?_; clear hK K) | refine (show ∀ σ' w', _ → K σ' w' from by assumption) _ _ ?_ | refine W_seq_k fun K hK => ?_ | refine W_block_k fun K hK => ?_ | refine W_skip ?_ | refine W_ret ?_) | ((first | ((with_reducible refine W_id ?_); refine W_reg (by decide) (by rfl) ?_) | (with_reducible first | refine W_cond ?_ | refine hZ _ _ ?_ | refine W_exit ?_ | refine Wo_id ?_)); repeat1' simp only [push_cast, Nat.reduceBEq, Nat.reduceLT, Nat.reduceEqDiff, reduceIte, reduceCtorEq, Nat.reduceMul, Nat.reduceAdd, Nat.reduceSub, Int.reduceEq, Int.reduceLT, Int.reduceLE, Int.reduceNeg, Int.reduceAdd, Int.reduceSub, Int.reduceMul, Nat.reduceLeDiff, Int.reduceToNat, cell_h, cellO_cells, hhr, hk0, b0, b1, not_true_eq_false]) | ((repeat ((fail_if_success with_reducible refine hK _ _ ?_); clear hK K)); (with_reducible refine hK _ _ ?_); clear hK K))))
      exact no
  · rw [if_neg hk3]
    refine Gives.of_W Tryd.call58 Tryd.func58 rfl Tryd.ntmps58 (by simp) ?_; intro Z hZ
    (repeat (first | (with_reducible first | (refine hK _ _ ?_; clear hK K) | refine (show ∀ σ' w', _ → K σ' w' from by assumption) _ _ ?_ | refine W_seq_k fun K hK => ?_ | refine W_block_k fun K hK => ?_ | refine W_skip ?_ | refine W_ret ?_) | ((first | ((with_reducible refine W_id ?_); refine W_reg (by decide) (by rfl) ?_) | (with_reducible first | refine W_cond ?_ | refine hZ _ _ ?_ | refine W_exit ?_ | refine Wo_id ?_)); repeat1' simp only [push_cast, Nat.reduceBEq, Nat.reduceLT, Nat.reduceEqDiff, reduceIte, reduceCtorEq, Nat.reduceMul, Nat.reduceAdd, Nat.reduceSub, Int.reduceEq, Int.reduceLT, Int.reduceLE, Int.reduceNeg, Int.reduceAdd, Int.reduceSub, Int.reduceMul, Nat.reduceLeDiff, Int.reduceToNat, cell_h, cellO_cells, hhr]) | ((repeat ((fail_if_success with_reducible refine hK _ _ ?_); clear hK K)); (with_reducible refine hK _ _ ?_); clear hK K)))
    refine hkd.mono ?_
    intro v w' ⟨hv, hw⟩
    subst hv; subst w'
    ((repeat simp only [push_cast, Nat.reduceBEq, Nat.reduceLT, Nat.reduceEqDiff, reduceIte, reduceCtorEq, Nat.reduceMul, Nat.reduceAdd, Nat.reduceSub, Int.reduceEq, Int.reduceLT, Int.reduceLE, Int.reduceNeg, Int.reduceAdd, Int.reduceSub, Int.reduceMul, Nat.reduceLeDiff, Int.reduceToNat, cell_h, cellO_cells, hhr, hk3, not_false_eq_true]); (repeat (first | (with_reducible first | (refine hK _ _ ?_; clear hK K) | refine (show ∀ σ' w', _ → K σ' w' from by assumption) _ _ ?_ | refine W_seq_k fun K hK => ?_ | refine W_block_k fun K hK => ?_ | refine W_skip ?_ | refine W_ret ?_) | ((first | ((with_reducible refine W_id ?_); refine W_reg (by decide) (by rfl) ?_) | (with_reducible first | refine W_cond ?_ | refine hZ _ _ ?_ | refine W_exit ?_ | refine Wo_id ?_)); repeat1' simp only [push_cast, Nat.reduceBEq, Nat.reduceLT, Nat.reduceEqDiff, reduceIte, reduceCtorEq, Nat.reduceMul, Nat.reduceAdd, Nat.reduceSub, Int.reduceEq, Int.reduceLT, Int.reduceLE, Int.reduceNeg, Int.reduceAdd, Int.reduceSub, Int.reduceMul, Nat.reduceLeDiff, Int.reduceToNat, cell_h, cellO_cells, hhr, hk3, not_false_eq_true]) | ((repeat ((fail_if_success with_reducible refine hK _ _ ?_); clear hK K)); (with_reducible refine hK _ _ ?_); clear hK K))))
    exact no
theorem rpush15_c (h : RS w S pr pb L l) (hl : l.length < 10000) (hb : L.length < 100000) (i : Int) : Gives Tryd.prog 62 #[.pointer (some ⟨pr, 0, none⟩), .int .i64 i] w fun v w' => v = .int .i64 (insR L l l.length i).2 ∧ RS w' (gS S w w') pr pb L (insR L l l.length i).1 ∧ Upd S w w' := by
  obtain ⟨lv, bo, F, h1, h2, h3, h4, h5⟩ := id h
  have hhr := h1.head
  obtain ⟨a, c, elv, hc, hcell⟩ := ints_len2 h1.sl
  subst elv
  refine Gives.of_W Tryd.call62 Tryd.func62 rfl Tryd.ntmps62 (by simp) ?_; intro Z hZ
  (repeat (first | (with_reducible first | (refine hK _ _ ?_; clear hK K) | refine (show ∀ σ' w', _ → K σ' w' from by assumption) _ _ ?_ | refine W_seq_k fun K hK => ?_ | refine W_block_k fun K hK => ?_ | refine W_skip ?_ | refine W_ret ?_) | ((first | ((with_reducible refine W_id ?_); refine W_reg (by decide) (by rfl) ?_) | (with_reducible first | refine W_cond ?_ | refine hZ _ _ ?_ | refine W_exit ?_ | refine Wo_id ?_)); repeat1' simp only [push_cast, Nat.reduceBEq, Nat.reduceLT, Nat.reduceEqDiff, reduceIte, reduceCtorEq, Nat.reduceMul, Nat.reduceAdd, Nat.reduceSub, Int.reduceEq, Int.reduceLT, Int.reduceLE, Int.reduceNeg, Int.reduceAdd, Int.reduceSub, Int.reduceMul, Nat.reduceLeDiff, Int.reduceToNat, cell_h, cellO_cells, hhr]) | ((repeat ((fail_if_success with_reducible refine hK _ _ ?_); clear hK K)); (with_reducible refine hK _ _ ?_); clear hK K)))
  refine (rins15_c h hl hb _ i).mono ?_
  rintro v w2 ⟨rfl, p1, p2⟩
  ((repeat simp only [push_cast, Nat.reduceBEq, Nat.reduceLT, Nat.reduceEqDiff, reduceIte, reduceCtorEq, Nat.reduceMul, Nat.reduceAdd, Nat.reduceSub, Int.reduceEq, Int.reduceLT, Int.reduceLE, Int.reduceNeg, Int.reduceAdd, Int.reduceSub, Int.reduceMul, Nat.reduceLeDiff, Int.reduceToNat]); (repeat (first | (with_reducible first | (refine hK _ _ ?_; clear hK K) | refine (show ∀ σ' w', _ → K σ' w' from by assumption) _ _ ?_ | refine W_seq_k fun K hK => ?_ | refine W_block_k fun K hK => ?_ | refine W_skip ?_ | refine W_ret ?_) | ((first | ((with_reducible refine W_id ?_); refine W_reg (by decide) (by rfl) ?_) | (with_reducible first | refine W_cond ?_ | refine hZ _ _ ?_ | refine W_exit ?_ | refine Wo_id ?_)); repeat1' simp only [push_cast, Nat.reduceBEq, Nat.reduceLT, Nat.reduceEqDiff, reduceIte, reduceCtorEq, Nat.reduceMul, Nat.reduceAdd, Nat.reduceSub, Int.reduceEq, Int.reduceLT, Int.reduceLE, Int.reduceNeg, Int.reduceAdd, Int.reduceSub, Int.reduceMul, Nat.reduceLeDiff, Int.reduceToNat]) | ((repeat ((fail_if_success with_reducible refine hK _ _ ?_); clear hK K)); (with_reducible refine hK _ _ ?_); clear hK K))))
  exact ⟨p1, p2⟩
theorem rrepl15_c (h : RS w S pr pb L l) (hl : l.length < 10000) (hb : L.length < 100000) (k i : Int) : Gives Tryd.prog 59 #[.pointer (some ⟨pr, 0, none⟩), .int .i64 k, .int .i64 i] w fun v w' => v = .int .i64 (replR L l k i).2 ∧ RS w' (gS S w w') pr pb L (replR L l k i).1 ∧ Upd S w w' := by
  have hR := h
  obtain ⟨lv, bo, F, h1, h2, h3, h4, h5⟩ := h
  have hkd := rkind_c h2 (by omega) i
  have hhr := h1.head
  obtain ⟨a, c, elv, hc, hcell⟩ := ints_len2 h1.sl
  subst elv
  have no : RS w (gS S w w) pr pb L l ∧ Upd S w w := hR.no (Ext.refl _)
  unfold replR
  by_cases hk3 : ((nd? L i).getD zN).kind = 3
  · rw [if_pos hk3]
    rw [hk3] at hkd
    by_cases hk0 : k < 0
    · rw [if_neg (by omega)]
      refine Gives.of_W Tryd.call59 Tryd.func59 rfl Tryd.ntmps59 (by simp) ?_; intro Z hZ
      (repeat (first | (with_reducible first | (refine hK _ _ ?_; clear hK K) | refine (show ∀ σ' w', _ → K σ' w' from by assumption) _ _ ?_ | refine W_seq_k fun K hK => ?_ | refine W_block_k fun K hK => ?_ | refine W_skip ?_ | refine W_ret ?_) | ((first | ((with_reducible refine W_id ?_); refine W_reg (by decide) (by rfl) ?_) | (with_reducible first | refine W_cond ?_ | refine hZ _ _ ?_ | refine W_exit ?_ | refine Wo_id ?_)); repeat1' simp only [push_cast, Nat.reduceBEq, Nat.reduceLT, Nat.reduceEqDiff, reduceIte, reduceCtorEq, Nat.reduceMul, Nat.reduceAdd, Nat.reduceSub, Int.reduceEq, Int.reduceLT, Int.reduceLE, Int.reduceNeg, Int.reduceAdd, Int.reduceSub, Int.reduceMul, Nat.reduceLeDiff, Int.reduceToNat, cell_h, cellO_cells, hhr]) | ((repeat ((fail_if_success with_reducible refine hK _ _ ?_); clear hK K)); (with_reducible refine hK _ _ ?_); clear hK K)))
      refine hkd.mono ?_
      intro v w' ⟨hv, hw⟩
      subst hv; subst w'
      ((repeat simp only [push_cast, Nat.reduceBEq, Nat.reduceLT, Nat.reduceEqDiff, reduceIte, reduceCtorEq, Nat.reduceMul, Nat.reduceAdd, Nat.reduceSub, Int.reduceEq, Int.reduceLT, Int.reduceLE, Int.reduceNeg, Int.reduceAdd, Int.reduceSub, Int.reduceMul, Nat.reduceLeDiff, Int.reduceToNat, cell_h, cellO_cells, hhr, hk0, not_true_eq_false]); (repeat (first | (with_reducible first | (refine hK _ _ ?_; clear hK K) | refine (show ∀ σ' w', _ → K σ' w' from by assumption) _ _ ?_ | refine W_seq_k fun K hK => ?_ | refine W_block_k fun K hK => ?_ | refine W_skip ?_ | refine W_ret ?_) | ((first | ((with_reducible refine W_id ?_); refine W_reg (by decide) (by rfl) ?_) | (with_reducible first | refine W_cond ?_ | refine hZ _ _ ?_ | refine W_exit ?_ | refine Wo_id ?_)); repeat1' simp only [push_cast, Nat.reduceBEq, Nat.reduceLT, Nat.reduceEqDiff, reduceIte, reduceCtorEq, Nat.reduceMul, Nat.reduceAdd, Nat.reduceSub, Int.reduceEq, Int.reduceLT, Int.reduceLE, Int.reduceNeg, Int.reduceAdd, Int.reduceSub, Int.reduceMul, Nat.reduceLeDiff, Int.reduceToNat, cell_h, cellO_cells, hhr, hk0, not_true_eq_false]) | ((repeat ((fail_if_success with_reducible refine hK _ _ ?_); clear hK K)); (with_reducible refine hK _ _ ?_); clear hK K))))
      exact no
    obtain ⟨k, rfl⟩ : ∃ q : Nat, k = (q : Int) := ⟨k.toNat, by omega⟩
    have b0 : (0 : Int) ≤ (k : Int) := by omega
    by_cases hkl : k < l.length
    · have b1 : ¬ (l.length : Int) ≤ (k : Int) := by omega
      have b2 : (k : Int) < (l.length : Int) := by omega
      rw [if_pos ⟨b0, b2⟩, Int.toNat_natCast]
      obtain ⟨y, hy⟩ : ∃ y, l[k]? = some y := ⟨_, List.getElem?_eq_getElem hkl⟩
      obtain ⟨b, o, e, hbo, _⟩ := hcell k _ hy
      subst e
      have q1 : canStore w ⟨b, o + k, none⟩ := h1.sl.can (by rw [intCells_length]; omega)
      have s1 := h1.sl.set (i := k) (by rw [intCells_length]; omega) (.int .i64 i)
      have eS : (intCells l).set k (.int .i64 i) = intCells (l.set k i) := by unfold intCells; rw [List.map_set]
      rw [eS] at s1
      obtain ⟨p1, p2⟩ := rs_same h1 h2 h3 h4 h5 s1 ((Upd.refl _ w).put (x := ⟨b, o + k, none⟩) hbo)
      refine Gives.of_W Tryd.call59 Tryd.func59 rfl Tryd.ntmps59 (by simp) ?_; intro Z hZ
      (repeat (first | (with_reducible first | (refine hK _ _ ?_; clear hK K) | refine (show ∀ σ' w', _ → K σ' w' from by assumption) _ _ ?_ | refine W_seq_k fun K hK => ?_ | refine W_block_k fun K hK => ?_ | refine W_skip ?_ | refine W_ret ?_) | ((first | ((with_reducible refine W_id ?_); refine W_reg (by decide) (by rfl) ?_) | (with_reducible first | refine W_cond ?_ | refine hZ _ _ ?_ | refine W_exit ?_ | refine Wo_id ?_)); repeat1' simp only [push_cast, Nat.reduceBEq, Nat.reduceLT, Nat.reduceEqDiff, reduceIte, reduceCtorEq, Nat.reduceMul, Nat.reduceAdd, Nat.reduceSub, Int.reduceEq, Int.reduceLT, Int.reduceLE, Int.reduceNeg, Int.reduceAdd, Int.reduceSub, Int.reduceMul, Nat.reduceLeDiff, Int.reduceToNat, cell_h, cellO_cells, hhr]) | ((repeat ((fail_if_success with_reducible refine hK _ _ ?_); clear hK K)); (with_reducible refine hK _ _ ?_); clear hK K)))
      refine hkd.mono ?_
      intro v w' ⟨hv, hw⟩
      subst hv; subst w'
      ((repeat simp only [push_cast, Nat.reduceBEq, Nat.reduceLT, Nat.reduceEqDiff, reduceIte, reduceCtorEq, Nat.reduceMul, Nat.reduceAdd, Nat.reduceSub, Int.reduceEq, Int.reduceLT, Int.reduceLE, Int.reduceNeg, Int.reduceAdd, Int.reduceSub, Int.reduceMul, Nat.reduceLeDiff, Int.reduceToNat, cell_h, cellO_cells, hhr, hk0, b0, b1, b2, q1, not_true_eq_false]); (repeat (first | (with_reducible first | (refine hK _ _ ?_; clear hK K) | refine (show ∀ σ' w', _ → K σ' w' from by assumption) _ _ ?_ | refine W_seq_k fun K hK => ?_ | refine W_block_k fun K hK => ?_ | refine W_skip ?_ | refine W_ret ?_) | ((first | ((with_reducible refine W_id ?_); refine W_reg (by decide) (by rfl) ?_) | (with_reducible first | refine W_cond ?_ | refine hZ _ _ ?_ | refine W_exit ?_ | refine Wo_id ?_)); repeat1' simp only [push_cast, Nat.reduceBEq, Nat.reduceLT, Nat.reduceEqDiff, reduceIte, reduceCtorEq, Nat.reduceMul, Nat.reduceAdd, Nat.reduceSub, Int.reduceEq, Int.reduceLT, Int.reduceLE, Int.reduceNeg, Int.reduceAdd, Int.reduceSub, Int.reduceMul, Nat.reduceLeDiff, Int.reduceToNat, cell_h, cellO_cells, hhr, hk0, b0, b1, b2, q1, not_true_eq_false]) | ((repeat ((fail_if_success with_reducible refine hK _ _ ?_); clear hK K)); (with_reducible refine hK _ _ ?_); clear hK K))))
      exact ⟨p1, p2⟩
    · have b1 : (l.length : Int) ≤ (k : Int) := by omega
      rw [if_neg (by omega)]
      refine Gives.of_W Tryd.call59 Tryd.func59 rfl Tryd.ntmps59 (by simp) ?_; intro Z hZ
      (repeat (first | (with_reducible first | (refine hK _ _ ?_; clear hK K) | refine (show ∀ σ' w', _ → K σ' w' from by assumption) _ _ ?_ | refine W_seq_k fun K hK => ?_ | refine W_block_k fun K hK => ?_ | refine W_skip ?_ | refine W_ret ?_) | ((first | ((with_reducible refine W_id ?_); refine W_reg (by decide) (by rfl) ?_) | (with_reducible first | refine W_cond ?_ | refine hZ _ _ ?_ | refine W_exit ?_ | refine Wo_id ?_)); repeat1' simp only [push_cast, Nat.reduceBEq, Nat.reduceLT, Nat.reduceEqDiff, reduceIte, reduceCtorEq, Nat.reduceMul, Nat.reduceAdd, Nat.reduceSub, Int.reduceEq, Int.reduceLT, Int.reduceLE, Int.reduceNeg, Int.reduceAdd, Int.reduceSub, Int.reduceMul, Nat.reduceLeDiff, Int.reduceToNat, cell_h, cellO_cells, hhr]) | ((repeat ((fail_if_success with_reducible refine hK _ _ ?_); clear hK K)); (with_reducible refine hK _ _ ?_); clear hK K)))
      refine hkd.mono ?_
      intro v w' ⟨hv, hw⟩
      subst hv; subst w'
      ((repeat simp only [push_cast, Nat.reduceBEq, Nat.reduceLT, Nat.reduceEqDiff, reduceIte, reduceCtorEq, Nat.reduceMul, Nat.reduceAdd, Nat.reduceSub, Int.reduceEq, Int.reduceLT, Int.reduceLE, Int.reduceNeg, Int.reduceAdd, Int.reduceSub, Int.reduceMul, Nat.reduceLeDiff, Int.reduceToNat, cell_h, cellO_cells, hhr, hk0, b0, b1, not_true_eq_false]); (repeat (first | (with_reducible first | (refine hK _ _ ?_; clear hK K) | refine (show ∀ σ' w', _ → K σ' w' from by assumption) _ _ ?_ | refine W_seq_k fun K hK => ?_ | refine W_block_k fun K hK => ?_ | refine W_skip ?_ | refine W_ret ?_) | ((first | ((with_reducible refine W_id ?_); refine W_reg (by decide) (by rfl) ?_) | (with_reducible first | refine W_cond ?_ | refine hZ _ _ ?_ | refine W_exit ?_ | refine Wo_id ?_)); repeat1' simp only [push_cast, Nat.reduceBEq, Nat.reduceLT, Nat.reduceEqDiff, reduceIte, reduceCtorEq, Nat.reduceMul, Nat.reduceAdd, Nat.reduceSub, Int.reduceEq, Int.reduceLT, Int.reduceLE, Int.reduceNeg, Int.reduceAdd, Int.reduceSub, Int.reduceMul, Nat.reduceLeDiff, Int.reduceToNat, cell_h, cellO_cells, hhr, hk0, b0, b1, not_true_eq_false]) | ((repeat ((fail_if_success with_reducible refine hK _ _ ?_); clear hK K)); (with_reducible refine hK _ _ ?_); clear hK K))))
      exact no
  · rw [if_neg hk3]
    refine Gives.of_W Tryd.call59 Tryd.func59 rfl Tryd.ntmps59 (by simp) ?_; intro Z hZ
    (repeat (first | (with_reducible first | (refine hK _ _ ?_; clear hK K) | refine (show ∀ σ' w', _ → K σ' w' from by assumption) _ _ ?_ | refine W_seq_k fun K hK => ?_ | refine W_block_k fun K hK => ?_ | refine W_skip ?_ | refine W_ret ?_) | ((first | ((with_reducible refine W_id ?_); refine W_reg (by decide) (by rfl) ?_) | (with_reducible first | refine W_cond ?_ | refine hZ _ _ ?_ | refine W_exit ?_ | refine Wo_id ?_)); repeat1' simp only [push_cast, Nat.reduceBEq, Nat.reduceLT, Nat.reduceEqDiff, reduceIte, reduceCtorEq, Nat.reduceMul, Nat.reduceAdd, Nat.reduceSub, Int.reduceEq, Int.reduceLT, Int.reduceLE, Int.reduceNeg, Int.reduceAdd, Int.reduceSub, Int.reduceMul, Nat.reduceLeDiff, Int.reduceToNat, cell_h, cellO_cells, hhr]) | ((repeat ((fail_if_success with_reducible refine hK _ _ ?_); clear hK K)); (with_reducible refine hK _ _ ?_); clear hK K)))
    refine hkd.mono ?_
    intro v w' ⟨hv, hw⟩
    subst hv; subst w'
    ((repeat simp only [push_cast, Nat.reduceBEq, Nat.reduceLT, Nat.reduceEqDiff, reduceIte, reduceCtorEq, Nat.reduceMul, Nat.reduceAdd, Nat.reduceSub, Int.reduceEq, Int.reduceLT, Int.reduceLE, Int.reduceNeg, Int.reduceAdd, Int.reduceSub, Int.reduceMul, Nat.reduceLeDiff, Int.reduceToNat, cell_h, cellO_cells, hhr, hk3, not_false_eq_true]); (repeat (first | (with_reducible first | (refine hK _ _ ?_; clear hK K) | refine (show ∀ σ' w', _ → K σ' w' from by assumption) _ _ ?_ | refine W_seq_k fun K hK => ?_ | refine W_block_k fun K hK => ?_ | refine W_skip ?_ | refine W_ret ?_) | ((first | ((with_reducible refine W_id ?_); refine W_reg (by decide) (by rfl) ?_) | (with_reducible first | refine W_cond ?_ | refine hZ _ _ ?_ | refine W_exit ?_ | refine Wo_id ?_)); repeat1' simp only [push_cast, Nat.reduceBEq, Nat.reduceLT, Nat.reduceEqDiff, reduceIte, reduceCtorEq, Nat.reduceMul, Nat.reduceAdd, Nat.reduceSub, Int.reduceEq, Int.reduceLT, Int.reduceLE, Int.reduceNeg, Int.reduceAdd, Int.reduceSub, Int.reduceMul, Nat.reduceLeDiff, Int.reduceToNat, cell_h, cellO_cells, hhr, hk3, not_false_eq_true]) | ((repeat ((fail_if_success with_reducible refine hK _ _ ?_); clear hK K)); (with_reducible refine hK _ _ ?_); clear hK K))))
    exact no
theorem rpop15_c (h : RS w S pr pb L l) (hl : l.length < 10000) : Gives Tryd.prog 56 #[.pointer (some ⟨pr, 0, none⟩)] w fun v w' => v = .int .i64 (topR l) ∧ RS w' (gS S w w') pr pb L l.dropLast ∧ Upd S w w' := by
  have hR := h
  obtain ⟨lv, bo, F, h1, h2, h3, h4, h5⟩ := h
  have hhr := h1.head
  obtain ⟨a, c, elv, hc, hcell⟩ := ints_len2 h1.sl
  subst elv
  unfold topR
  by_cases hl0 : l.length = 0
  · have e0 : l = [] := List.length_eq_zero_iff.1 hl0
    have b0 : (l.length : Int) = 0 := by omega
    rw [if_pos hl0]
    refine Gives.of_W Tryd.call56 Tryd.func56 rfl Tryd.ntmps56 (by simp) ?_; intro Z hZ
    (repeat (first | (with_reducible first | (refine hK _ _ ?_; clear hK K) | refine (show ∀ σ' w', _ → K σ' w' from by assumption) _ _ ?_ | refine W_seq_k fun K hK => ?_ | refine W_block_k fun K hK => ?_ | refine W_skip ?_ | refine W_ret ?_) | ((first | ((with_reducible refine W_id ?_); refine W_reg (by decide) (by rfl) ?_) | (with_reducible first | refine W_cond ?_ | refine hZ _ _ ?_ | refine W_exit ?_ | refine Wo_id ?_)); repeat1' simp only [push_cast, Nat.reduceBEq, Nat.reduceLT, Nat.reduceEqDiff, reduceIte, reduceCtorEq, Nat.reduceMul, Nat.reduceAdd, Nat.reduceSub, Int.reduceEq, Int.reduceLT, Int.reduceLE, Int.reduceNeg, Int.reduceAdd, Int.reduceSub, Int.reduceMul, Nat.reduceLeDiff, Int.reduceToNat, cell_h, cellO_cells, hhr, b0]) | ((repeat ((fail_if_success with_reducible refine hK _ _ ?_); clear hK K)); (with_reducible refine hK _ _ ?_); clear hK K)))
    subst e0
    exact hR.no (Ext.refl _)
  · have b0 : ¬ (l.length : Int) = 0 := by omega
    rw [if_neg hl0]
    obtain ⟨k, hk⟩ : ∃ k, l.length = k + 1 := ⟨l.length - 1, by omega⟩
    obtain ⟨y, hy⟩ : ∃ y, l[k]? = some y := ⟨_, List.getElem?_eq_getElem (by omega)⟩
    obtain ⟨b, o, e, hbo, cy⟩ := hcell k _ hy
    subst e
    have hgd : l.getD (l.length - 1) 0 = y := by rw [hk, Nat.add_sub_cancel]; simp [List.getD, hy]
    have eD : l.dropLast = l.take k := by rw [List.dropLast_eq_take]; congr 1; omega
    rw [hgd, eD]
    have e1 : (l.length : Int) - 1 = (k : Int) := by omega
    have e2 : inI64 (k : Int) := by unfold inI64; omega
    have e3 : (0 : Int) ≤ (k : Int) := by omega
    have e4 : (k : Int) < (l.length : Int) := by omega
    have e5 : (k : Int) ≤ (c : Int) := by omega
    have e6 : k ≤ l.length := by omega
    generalize l.length = n at *
    have hxd := Ext.drew w
    have hhd := hxd.blk hhr
    have cyd := cellO_ext hxd cy
    have l1 : pr < w.heap.size := blk_lt hhr
    have l2 : b < w.heap.size := cellO_lt cy
    have hzd := hxd.alike.size
    refine Gives.of_W Tryd.call56 Tryd.func56 rfl Tryd.ntmps56 (by simp) ?_; intro Z hZ
    (repeat (first | (with_reducible first | (refine hK _ _ ?_; clear hK K) | refine (show ∀ σ' w', _ → K σ' w' from by assumption) _ _ ?_ | refine W_seq_k fun K hK => ?_ | refine W_block_k fun K hK => ?_ | refine W_skip ?_ | refine W_ret ?_) | ((first | ((with_reducible refine W_id ?_); refine W_reg (by decide) (by rfl) ?_) | (with_reducible first | refine W_cond ?_ | refine hZ _ _ ?_ | refine W_exit ?_ | refine Wo_id ?_)); repeat1' simp only [push_cast, Nat.reduceBEq, Nat.reduceLT, Nat.reduceEqDiff, reduceIte, reduceCtorEq, Nat.reduceMul, Nat.reduceAdd, Nat.reduceSub, Int.reduceEq, Int.reduceLT, Int.reduceLE, Int.reduceNeg, Int.reduceAdd, Int.reduceSub, Int.reduceMul, Nat.reduceLeDiff, Int.reduceToNat, cell_h, cellO_cells, hhr, b0]) | ((repeat ((fail_if_success with_reducible refine hK _ _ ?_); clear hK K)); (with_reducible refine hK _ _ ?_); clear hK K)))
    refine W_draw (.pas 0 (.pas 1 (.pas 2 (.pas 3 (.pas 4 (.pas 5 (.pas 6 (.pas 7 (.pas 8 (.pas 9 (.pas 10 (.pas 11 (.pas 12 .fin))))))))))))) (fun q => q < w.heap.size) (by decide) mixed (by kernel_rfl) ?_
    generalize w.drew = wd at *
    (repeat (first | ((first | refine pas_plain rfl ?_ | refine pas_g rfl rfl ?_ | refine act_plain rfl ?_ | refine act_g rfl rfl ?_ | refine last_plain rfl ?_ | refine tail_plain rfl ?_ | refine tail_g rfl rfl ?_); (repeat simp only [push_cast, Nat.reduceBEq, Nat.reduceLT, Nat.reduceEqDiff, reduceIte, reduceCtorEq, Nat.reduceMul, Nat.reduceAdd, Nat.reduceSub, Int.reduceEq, Int.reduceLT, Int.reduceLE, Int.reduceNeg, Int.reduceAdd, Int.reduceSub, Int.reduceMul, Nat.reduceLeDiff, Int.reduceToNat, cell_h, cellO_cells, hhd, cyd, e1, e2, e3, e4, l1, l2])) | (refine tail_fin ?_) | (refine sch_fin ?_)))
    have hxd2 := Ext.drew wd
    have hhd2 := hxd2.blk hhd
    (repeat (first | (with_reducible first | (refine hK _ _ ?_; clear hK K) | refine (show ∀ σ' w', _ → K σ' w' from by assumption) _ _ ?_ | refine W_seq_k fun K hK => ?_ | refine W_block_k fun K hK => ?_ | refine W_skip ?_ | refine W_ret ?_) | ((first | ((with_reducible refine W_id ?_); refine W_reg (by decide) (by rfl) ?_) | (with_reducible first | refine W_cond ?_ | refine hZ _ _ ?_ | refine W_exit ?_ | refine Wo_id ?_)); repeat1' simp only [push_cast, Nat.reduceBEq, Nat.reduceLT, Nat.reduceEqDiff, reduceIte, reduceCtorEq, Nat.reduceMul, Nat.reduceAdd, Nat.reduceSub, Int.reduceEq, Int.reduceLT, Int.reduceLE, Int.reduceNeg, Int.reduceAdd, Int.reduceSub, Int.reduceMul, Nat.reduceLeDiff, Int.reduceToNat]) | ((repeat ((fail_if_success with_reducible refine hK _ _ ?_); clear hK K)); (with_reducible refine hK _ _ ?_); clear hK K)))
    refine W_draw (.pas 0 (.pas 1 (.pas 2 (.pas 3 (.pas 4 (.pas 5 (.pas 6 (.pas 7 (.pas 8 (.pas 9 (.pas 10 (.pas 11 (.pas 12 (.pas 13 (.last 14))))))))))))))) (fun b' => b' = pr) (by decide) mixed (by kernel_rfl) ?_
    generalize wd.drew = we at *
    (repeat (first | ((first | refine pas_plain rfl ?_ | refine pas_g rfl rfl ?_ | refine act_plain rfl ?_ | refine act_g rfl rfl ?_ | refine last_plain rfl ?_ | refine tail_plain rfl ?_ | refine tail_g rfl rfl ?_); (repeat simp only [push_cast, Nat.reduceBEq, Nat.reduceLT, Nat.reduceEqDiff, reduceIte, reduceCtorEq, Nat.reduceMul, Nat.reduceAdd, Nat.reduceSub, Int.reduceEq, Int.reduceLT, Int.reduceLE, Int.reduceNeg, Int.reduceAdd, Int.reduceSub, Int.reduceMul, Nat.reduceLeDiff, Int.reduceToNat, eq_self, cell_h, cellO_cells, hhd2, e1, e2, e3, e5])) | (refine tail_fin ?_) | (refine sch_fin ?_)))
    have hxw := hxd.trans hxd2
    have hP := (h1.sl.ext hxw).preS (hi := k) e6
    rw [intCells_take1] at hP
    obtain ⟨k1, k2, k3⟩ := rs_put h1 h2 h3 h4 h5 hP hxw (fun _ _ h => h.elim) fun b hb => .inl hb
    try rw [Int.toNat_natCast]
    refine ⟨k1, ?_⟩
    ((repeat simp only [push_cast, Nat.reduceBEq, Nat.reduceLT, Nat.reduceEqDiff, reduceIte, reduceCtorEq, Nat.reduceMul, Nat.reduceAdd, Nat.reduceSub, Int.reduceEq, Int.reduceLT, Int.reduceLE, Int.reduceNeg, Int.reduceAdd, Int.reduceSub, Int.reduceMul, Nat.reduceLeDiff, Int.reduceToNat]); (repeat (first | (with_reducible first | (refine hK _ _ ?_; clear hK K) | refine (show ∀ σ' w', _ → K σ' w' from by assumption) _ _ ?_ | refine W_seq_k fun K hK => ?_ | refine W_block_k fun K hK => ?_ | refine W_skip ?_ | refine W_ret ?_) | ((first | ((with_reducible refine W_id ?_); refine W_reg (by decide) (by rfl) ?_) | (with_reducible first | refine W_cond ?_ | refine hZ _ _ ?_ | refine W_exit ?_ | refine Wo_id ?_)); repeat1' simp only [push_cast, Nat.reduceBEq, Nat.reduceLT, Nat.reduceEqDiff, reduceIte, reduceCtorEq, Nat.reduceMul, Nat.reduceAdd, Nat.reduceSub, Int.reduceEq, Int.reduceLT, Int.reduceLE, Int.reduceNeg, Int.reduceAdd, Int.reduceSub, Int.reduceMul, Nat.reduceLeDiff, Int.reduceToNat]) | ((repeat ((fail_if_success with_reducible refine hK _ _ ?_); clear hK K)); (with_reducible refine hK _ _ ?_); clear hK K))))
    exact ⟨k2, k3⟩
theorem rrem15_c (h : RS w S pr pb L l) (hl : l.length < 10000) (i : Int) : Gives Tryd.prog 57 #[.pointer (some ⟨pr, 0, none⟩), .int .i64 i] w fun v w' => v = .int .i64 (remR l i).2 ∧ RS w' (gS S w w') pr pb L (remR l i).1 ∧ Upd S w w' := by
  have hR := h
  obtain ⟨lv, bo, F, h1, h2, h3, h4, h5⟩ := h
  have hix := rindex15_c h1 (by omega) i
  have hrng := lastB_rng (fun k => decide (l.getD k 0 = i)) l.length
  have hhr := h1.head
  obtain ⟨a, c, elv, hc, hcell⟩ := ints_len2 h1.sl
  subst elv
  unfold remR indexR
  by_cases hneg : lastB (fun k => decide (l.getD k 0 = i)) l.length < 0
  · rw [if_pos hneg]
    refine Gives.of_W Tryd.call57 Tryd.func57 rfl Tryd.ntmps57 (by simp) ?_; intro Z hZ
    (repeat (first | (with_reducible first | (refine hK _ _ ?_; clear hK K) | refine (show ∀ σ' w', _ → K σ' w' from by assumption) _ _ ?_ | refine W_seq_k fun K hK => ?_ | refine W_block_k fun K hK => ?_ | refine W_skip ?_ | refine W_ret ?_) | ((first | ((with_reducible refine W_id ?_); refine W_reg (by decide) (by rfl) ?_) | (with_reducible first | refine W_cond ?_ | refine hZ _ _ ?_ | refine W_exit ?_ | refine Wo_id ?_)); repeat1' simp only [push_cast, Nat.reduceBEq, Nat.reduceLT, Nat.reduceEqDiff, reduceIte, reduceCtorEq, Nat.reduceMul, Nat.reduceAdd, Nat.reduceSub, Int.reduceEq, Int.reduceLT, Int.reduceLE, Int.reduceNeg, Int.reduceAdd, Int.reduceSub, Int.reduceMul, Nat.reduceLeDiff, Int.reduceToNat]) | ((repeat ((fail_if_success with_reducible refine hK _ _ ?_); clear hK K)); (with_reducible refine hK _ _ ?_); clear hK K)))
    refine hix.mono ?_
    intro v w' ⟨hv, hw⟩
    subst hv; subst w'
    ((repeat simp only [push_cast, Nat.reduceBEq, Nat.reduceLT, Nat.reduceEqDiff, reduceIte, reduceCtorEq, Nat.reduceMul, Nat.reduceAdd, Nat.reduceSub, Int.reduceEq, Int.reduceLT, Int.reduceLE, Int.reduceNeg, Int.reduceAdd, Int.reduceSub, Int.reduceMul, Nat.reduceLeDiff, Int.reduceToNat, hneg]); (repeat (first | (with_reducible first | (refine hK _ _ ?_; clear hK K) | refine (show ∀ σ' w', _ → K σ' w' from by assumption) _ _ ?_ | refine W_seq_k fun K hK => ?_ | refine W_block_k fun K hK => ?_ | refine W_skip ?_ | refine W_ret ?_) | ((first | ((with_reducible refine W_id ?_); refine W_reg (by decide) (by rfl) ?_) | (with_reducible first | refine W_cond ?_ | refine hZ _ _ ?_ | refine W_exit ?_ | refine Wo_id ?_)); repeat1' simp only [push_cast, Nat.reduceBEq, Nat.reduceLT, Nat.reduceEqDiff, reduceIte, reduceCtorEq, Nat.reduceMul, Nat.reduceAdd, Nat.reduceSub, Int.reduceEq, Int.reduceLT, Int.reduceLE, Int.reduceNeg, Int.reduceAdd, Int.reduceSub, Int.reduceMul, Nat.reduceLeDiff, Int.reduceToNat, hneg]) | ((repeat ((fail_if_success with_reducible refine hK _ _ ?_); clear hK K)); (with_reducible refine hK _ _ ?_); clear hK K))))
    exact hR.no (Ext.refl _)
  · rw [if_neg hneg]
    obtain ⟨k, hk⟩ : ∃ m : Nat, lastB (fun k => decide (l.getD k 0 = i)) l.length = (m : Int) := ⟨(lastB (fun k => decide (l.getD k 0 = i)) l.length).toNat, by omega⟩
    rw [hk] at hrng hix ⊢
    have d2 : ¬ (k : Int) < 0 := by omega
    rw [Int.toNat_natCast]
    have hk' : k < l.length := by omega
    obtain ⟨y, hy⟩ : ∃ y, l[k]? = some y := ⟨_, List.getElem?_eq_getElem hk'⟩
    obtain ⟨b, o, e, hbo, _⟩ := hcell k _ hy
    subst e
    have hxd := Ext.drew w
    have hhd := (h1.ext hxd).head
    have hsl := (h1.ext hxd).sl
    have b0 : (0 : Int) ≤ (k : Int) := by omega
    have b1 : (k : Int) ≤ (c : Int) := by omega
    have b2 : inI64 ((k : Int) + 1) := by unfold inI64; omega
    have b3 : (0 : Int) ≤ (k : Int) + 1 := by omega
    have b4 : (k : Int) + 1 ≤ (l.length : Int) := by omega
    refine Gives.of_W Tryd.call57 Tryd.func57 rfl Tryd.ntmps57 (by simp) ?_; intro Z hZ
    (repeat (first | (with_reducible first | (refine hK _ _ ?_; clear hK K) | refine (show ∀ σ' w', _ → K σ' w' from by assumption) _ _ ?_ | refine W_seq_k fun K hK => ?_ | refine W_block_k fun K hK => ?_ | refine W_skip ?_ | refine W_ret ?_) | ((first | ((with_reducible refine W_id ?_); refine W_reg (by decide) (by rfl) ?_) | (with_reducible first | refine W_cond ?_ | refine hZ _ _ ?_ | refine W_exit ?_ | refine Wo_id ?_)); repeat1' simp only [push_cast, Nat.reduceBEq, Nat.reduceLT, Nat.reduceEqDiff, reduceIte, reduceCtorEq, Nat.reduceMul, Nat.reduceAdd, Nat.reduceSub, Int.reduceEq, Int.reduceLT, Int.reduceLE, Int.reduceNeg, Int.reduceAdd, Int.reduceSub, Int.reduceMul, Nat.reduceLeDiff, Int.reduceToNat]) | ((repeat ((fail_if_success with_reducible refine hK _ _ ?_); clear hK K)); (with_reducible refine hK _ _ ?_); clear hK K)))
    refine hix.mono ?_
    intro v w' ⟨hv, hw⟩
    subst hv; subst w'
    ((repeat simp only [push_cast, Nat.reduceBEq, Nat.reduceLT, Nat.reduceEqDiff, reduceIte, reduceCtorEq, Nat.reduceMul, Nat.reduceAdd, Nat.reduceSub, Int.reduceEq, Int.reduceLT, Int.reduceLE, Int.reduceNeg, Int.reduceAdd, Int.reduceSub, Int.reduceMul, Nat.reduceLeDiff, Int.reduceToNat, d2]); (repeat (first | (with_reducible first | (refine hK _ _ ?_; clear hK K) | refine (show ∀ σ' w', _ → K σ' w' from by assumption) _ _ ?_ | refine W_seq_k fun K hK => ?_ | refine W_block_k fun K hK => ?_ | refine W_skip ?_ | refine W_ret ?_) | ((first | ((with_reducible refine W_id ?_); refine W_reg (by decide) (by rfl) ?_) | (with_reducible first | refine W_cond ?_ | refine hZ _ _ ?_ | refine W_exit ?_ | refine Wo_id ?_)); repeat1' simp only [push_cast, Nat.reduceBEq, Nat.reduceLT, Nat.reduceEqDiff, reduceIte, reduceCtorEq, Nat.reduceMul, Nat.reduceAdd, Nat.reduceSub, Int.reduceEq, Int.reduceLT, Int.reduceLE, Int.reduceNeg, Int.reduceAdd, Int.reduceSub, Int.reduceMul, Nat.reduceLeDiff, Int.reduceToNat, d2]) | ((repeat ((fail_if_success with_reducible refine hK _ _ ?_); clear hK K)); (with_reducible refine hK _ _ ?_); clear hK K))))
    refine W_draw (.pas 0 (.pas 1 (.pas 2 (.pas 3 (.pas 4 (.pas 5 (.pas 6 (.pas 8 (.pas 9 (.pas 10 (.pas 11 (.pas 12 (.pas 13 (.pas 14 (.act 7 (.act 15 (.pas 16 (.pas 17 (.last 18))))))))))))))))))) (fun b' => b' = pr) (by decide) mixed (by kernel_rfl) ?_
    generalize w.drew = wd at *
    (repeat (first | ((first | refine pas_plain rfl ?_ | refine pas_g rfl rfl ?_ | refine act_plain rfl ?_ | refine act_g rfl rfl ?_ | refine last_plain rfl ?_ | refine tail_plain rfl ?_ | refine tail_g rfl rfl ?_); (repeat simp only [push_cast, Nat.reduceBEq, Nat.reduceLT, Nat.reduceEqDiff, reduceIte, reduceCtorEq, Nat.reduceMul, Nat.reduceAdd, Nat.reduceSub, Int.reduceEq, Int.reduceLT, Int.reduceLE, Int.reduceNeg, Int.reduceAdd, Int.reduceSub, Int.reduceMul, Nat.reduceLeDiff, Int.reduceToNat, eq_self, cell_h, cellO_cells, hhd, b0, b1, b2, b3, b4])) | (refine tail_fin ?_) | (refine sch_fin ?_)))
    refine app_to_rd sty28 sty28.und (by decide) (SlAt.nil wd 1) (hsl.cut (lo := 0) (hi := k) (by omega) (by omega) fun hne => by rw [if_neg (by omega)]; simp [add_mk]) ?_ ?_ ?_
    · rw [Nat.zero_mul, List.drop_zero, Nat.sub_zero, intCells_take1]; exact intCells_one _
    · simp [intCells_length]; omega
    intro v w2 bo2 g1 g2 g3
    rw [Nat.zero_mul, List.drop_zero, Nat.sub_zero, intCells_take1, List.nil_append] at g1
    have hx2 : Ext wd w2 := g2.mono fun b _ e => by cases e
    have hprl := blk_lt hhd
    refine ⟨kept_upd hx2 fun b' hb => ⟨by have : b' = pr := hb; omega, id⟩, ?_⟩
    have hhr2 := hx2.blk hhd
    (repeat (first | ((first | refine pas_plain rfl ?_ | refine pas_g rfl rfl ?_ | refine act_plain rfl ?_ | refine act_g rfl rfl ?_ | refine last_plain rfl ?_ | refine tail_plain rfl ?_ | refine tail_g rfl rfl ?_); (repeat simp only [push_cast, Nat.reduceBEq, Nat.reduceLT, Nat.reduceEqDiff, reduceIte, reduceCtorEq, Nat.reduceMul, Nat.reduceAdd, Nat.reduceSub, Int.reduceEq, Int.reduceLT, Int.reduceLE, Int.reduceNeg, Int.reduceAdd, Int.reduceSub, Int.reduceMul, Nat.reduceLeDiff, Int.reduceToNat, eq_self, cell_h, cellO_cells, hhr2, b0, b1, b2, b3, b4])) | (refine tail_fin ?_) | (refine sch_fin ?_)))
    have e1 : ((k : Int) + 1).toNat = k + 1 := by omega
    rw [e1]
    have et : List.take ((l.length - (k + 1)) * 1) (intCells (l.drop (k + 1))) = intCells (l.drop (k + 1)) := List.take_of_length_le (by rw [intCells_length]; simp)
    refine app_to_rd sty28 sty28.und (by decide) g1 ((hsl.ext hx2).cut (lo := k + 1) (hi := l.length) (by omega) (by omega) fun hne => by rw [if_neg (by omega)]; simp [add_mk]) ?_ ?_ ?_
    · rw [intCells_drop1, et]; exact intCells_one _
    · simp [intCells_length]; omega
    intro v' w3 bo3 k1 k2 k3
    rw [intCells_drop1, et, ← intCells_append, ← List.eraseIdx_eq_take_drop_succ] at k1
    have hs2 := hxd.alike.size
    have hs3 := hx2.alike.size
    have hx3 : Ext w w3 := Upd.trans (hxd.trans hx2) k2 fun b hb e => by
      rcases g3 b e with h | h
      · cases h
      · omega
    have hprw := blk_lt h1.head
    refine ⟨kept_upd k2 fun b' hb => ⟨by have : b' = pr := hb; omega, fun e => ?_⟩, ?_⟩
    · have hb' : b' = pr := hb
      rcases g3 b' e with h | h
      · cases h
      · omega
    obtain ⟨p1, p2, p3⟩ := rs_put h1 h2 h3 h4 h5 k1 hx3 (fun b _ hf => hf.elim) fun b hb => by
      rcases k3 b hb with h | h
      · rcases g3 b h with h | h
        · cases h
        · exact .inr (by omega)
      · exact .inr (by omega)
    obtain ⟨x, y', z, e, _⟩ := k1.len
    subst e
    (repeat (first | ((first | refine pas_plain rfl ?_ | refine pas_g rfl rfl ?_ | refine act_plain rfl ?_ | refine act_g rfl rfl ?_ | refine last_plain rfl ?_ | refine tail_plain rfl ?_ | refine tail_g rfl rfl ?_); (repeat simp only [push_cast, Nat.reduceBEq, Nat.reduceLT, Nat.reduceEqDiff, reduceIte, reduceCtorEq, Nat.reduceMul, Nat.reduceAdd, Nat.reduceSub, Int.reduceEq, Int.reduceLT, Int.reduceLE, Int.reduceNeg, Int.reduceAdd, Int.reduceSub, Int.reduceMul, Nat.reduceLeDiff, Int.reduceToNat])) | (refine tail_fin ?_) | (refine sch_fin ?_)))
    refine ⟨p1, ?_⟩
    ((repeat simp only [push_cast, Nat.reduceBEq, Nat.reduceLT, Nat.reduceEqDiff, reduceIte, reduceCtorEq, Nat.reduceMul, Nat.reduceAdd, Nat.reduceSub, Int.reduceEq, Int.reduceLT, Int.reduceLE, Int.reduceNeg, Int.reduceAdd, Int.reduceSub, Int.reduceMul, Nat.reduceLeDiff, Int.reduceToNat]); (repeat (first | (with_reducible first | (refine hK _ _ ?_; clear hK K) | refine (show ∀ σ' w', _ → K σ' w' from by assumption) _ _ ?_ | refine W_seq_k fun K hK => ?_ | refine W_block_k fun K hK => ?_ | refine W_skip ?_ | refine W_ret ?_) | ((first | ((with_reducible refine W_id ?_); refine W_reg (by decide) (by rfl) ?_) | (with_reducible first | refine W_cond ?_ | refine hZ _ _ ?_ | refine W_exit ?_ | refine Wo_id ?_)); repeat1' simp only [push_cast, Nat.reduceBEq, Nat.reduceLT, Nat.reduceEqDiff, reduceIte, reduceCtorEq, Nat.reduceMul, Nat.reduceAdd, Nat.reduceSub, Int.reduceEq, Int.reduceLT, Int.reduceLE, Int.reduceNeg, Int.reduceAdd, Int.reduceSub, Int.reduceMul, Nat.reduceLeDiff, Int.reduceToNat]) | ((repeat ((fail_if_success with_reducible refine hK _ _ ?_); clear hK K)); (with_reducible refine hK _ _ ?_); clear hK K))))
    exact ⟨p2, p3⟩
end
end Go.Proofs.YtkafpameheohdaaDoor
end
section
set_option linter.unusedSimpArgs false
set_option linter.unusedVariables false
namespace Go.Vk
open Go
/-- elements of a kit that a stack may hold -/
def okT (L : List Nd) (l : List Int) : Prop := ∀ y ∈ l, ∃ q : Nat, y = (q : Int) ∧ q < L.length ∧ (opN L y).name ∈ nmL ∧ ((opN L y).space = 0 ∨ (opN L y).space = 1 ∨ (opN L y).space = 2)
theorem okT.r {L : List Nd} {l : List Int} (h : okT L l) : okR L l := fun y hy => by
  obtain ⟨q, h1, h2, _⟩ := h y hy
  exact ⟨q, h1, h2⟩
/-- arenas whose elements a stack may hold -/
def okL (L : List Nd) : Prop := ∀ n ∈ L, n.kind = 3 → n.name ∈ nmL ∧ (n.space = 0 ∨ n.space = 1 ∨ n.space = 2)
theorem addN_okL {L : List Nd} {n : Nd} (h : okL L) (hn : n.kind = 3 → n.name ∈ nmL ∧ (n.space = 0 ∨ n.space = 1 ∨ n.space = 2)) : okL (addN L n).1 := by
  intro x hx
  unfold addN at hx
  have hc : contN.kind = 3 → contN.name ∈ nmL ∧ (contN.space = 0 ∨ contN.space = 1 ∨ contN.space = 2) := fun h => absurd h (by decide)
  split at hx
  · split at hx
    · simp only [List.mem_append, List.mem_cons, List.not_mem_nil, or_false] at hx
      rcases hx with hx | rfl | rfl
      · exact h x hx
      · exact hn
      · exact hc
    · simp only [List.mem_append, List.mem_cons, List.not_mem_nil, or_false] at hx
      rcases hx with hx | rfl
      · exact h x hx
      · exact hn
  · exact h x hx
theorem kitN_okL (l2 : List Nat) (i c : Nat) : (kitN l2 i c).kind = 3 → (kitN l2 i c).name ∈ nmL ∧ ((kitN l2 i c).space = 0 ∨ (kitN l2 i c).space = 1 ∨ (kitN l2 i c).space = 2) := fun _ => by
  refine ⟨nmT_mem c, ?_⟩
  have hm : l2.getD i 0 % 4 < 4 := Nat.mod_lt _ (by decide)
  have e : (kitN l2 i c).space = if i < l2.length ∧ 1 < l2.getD i 0 % 4 then ((l2.getD i 0 % 4 : Nat) : Int) - 1 else 0 := rfl
  rw [e]
  generalize l2.getD i 0 % 4 = r at *
  split
  · omega
  · exact .inl rfl
theorem kitK_okL (l2 : List Nat) : ∀ (r : List Nat) (i : Nat) (L : List Nd), okL L → okL (kitK l2 r i L)
  | [], _, L, h => h
  | c :: r, i, L, h => kitK_okL l2 r (i + 1) _ (addN_okL h (kitN_okL l2 i c))
theorem kitL_okL (l1 l2 : List Nat) : okL (kitL l1 l2) := kitK_okL l2 l1 0 kit0 (by
  intro x hx
  simp only [kit0, List.mem_cons, List.not_mem_nil, or_false] at hx
  rcases hx with rfl | rfl | rfl <;> exact fun h => absurd h (by decide))
theorem okT_one {L : List Nd} (h : okL L) {i : Int} (hk : ((nd? L i).getD zN).kind = 3) : ∃ q : Nat, i = (q : Int) ∧ q < L.length ∧ (opN L i).name ∈ nmL ∧ ((opN L i).space = 0 ∨ (opN L i).space = 1 ∨ (opN L i).space = 2) := by
  cases hx : nd? L i with
  | none => rw [hx] at hk; exact absurd hk (by decide)
  | some x =>
    obtain ⟨q, rfl, hq, hl⟩ := nd?_some hx
    rw [hx] at hk
    have := h x (List.mem_of_getElem? hq) hk
    refine ⟨q, rfl, hl, ?_⟩
    unfold opN
    rw [hx]; exact this
theorem okT_sub {L : List Nd} {l l' : List Int} (h : okT L l) (hs : ∀ y ∈ l', y ∈ l) : okT L l' := fun y hy => h y (hs y hy)
section
variable {L : List Nd} {l : List Int}
theorem mapD (k : Nat) (hk : k < l.length) : (l.map (opN L)).getD k zS = opN L (l.getD k 0) := by simp [List.getD, hk]
theorem index_map (i : Int) : indexS (l.map (opN L)) i = indexR l i := by
  unfold indexS indexR
  rw [List.length_map]
  exact lastB_congr fun j hj => by rw [mapD j hj]; rfl
theorem at_map (k : Int) : atS (l.map (opN L)) k = if 0 ≤ k ∧ k < l.length then l.getD k.toNat 0 else -1 := by
  unfold atS
  rw [List.length_map]
  by_cases h : 0 ≤ k ∧ k < l.length
  · rw [if_pos h, if_pos h, mapD _ (by omega)]; rfl
  · rw [if_neg h, if_neg h]
theorem top_map : topS (l.map (opN L)) = topR l := by
  unfold topS topR
  rw [at_map, List.length_map]
  by_cases h : l.length = 0
  · rw [if_pos h, if_neg (by omega)]
  · rw [if_neg h, if_pos ⟨by omega, by omega⟩]
    congr 1
    omega
theorem top_at : topR l = if 0 ≤ (l.length : Int) - 1 ∧ (l.length : Int) - 1 < l.length then l.getD ((l.length : Int) - 1).toNat 0 else -1 := by
  unfold topR
  by_cases h : l.length = 0
  · rw [if_pos h, if_neg (by omega)]
  · rw [if_neg h, if_pos ⟨by omega, by omega⟩]
    congr 1
    omega
theorem ins_map (k i : Int) : insS L (l.map (opN L)) k i = ((insR L l k i).1.map (opN L), (insR L l k i).2) := by
  unfold insS insR
  rw [List.length_map]
  by_cases h1 : ((nd? L i).getD zN).kind = 3
  · rw [if_pos h1, if_pos h1]
    by_cases h2 : 0 ≤ k ∧ k ≤ l.length
    · rw [if_pos h2, if_pos h2]
      by_cases h3 : 512 ≤ l.length
      · rw [if_pos h3, if_pos h3]
      · rw [if_neg h3, if_neg h3]
        simp [List.map_take, List.map_drop]
    · rw [if_neg h2, if_neg h2]
  · rw [if_neg h1, if_neg h1]
theorem repl_map (k i : Int) : replS L (l.map (opN L)) k i = ((replR L l k i).1.map (opN L), (replR L l k i).2) := by
  unfold replS replR
  rw [List.length_map]
  by_cases h1 : ((nd? L i).getD zN).kind = 3
  · rw [if_pos h1, if_pos h1]
    by_cases h2 : 0 ≤ k ∧ k < l.length
    · rw [if_pos h2, if_pos h2, List.map_set]
    · rw [if_neg h2, if_neg h2]
  · rw [if_neg h1, if_neg h1]
theorem rem_map (i : Int) : remS (l.map (opN L)) i = ((remR l i).1.map (opN L), (remR l i).2) := by
  unfold remS remR
  rw [index_map]
  by_cases h : indexR l i < 0
  · rw [if_pos h, if_pos h]
  · rw [if_neg h, if_neg h, List.eraseIdx_eq_take_drop_succ, List.eraseIdx_eq_take_drop_succ, List.map_append, List.map_take, List.map_drop]
theorem unt_map (x : List ByteArray) : untS (l.map (opN L)) x = ((untR L l x).1.map (opN L), (untR L l x).2) := by
  have e : lastB (fun k => htmlS ((l.map (opN L)).getD k zS) x) (l.map (opN L)).length = lastB (fun k => htmlS (opN L (l.getD k 0)) x) l.length := by
    rw [List.length_map]
    exact lastB_congr fun j hj => by rw [mapD j hj]
  unfold untS untR
  rw [e]
  by_cases h : lastB (fun k => htmlS (opN L (l.getD k 0)) x) l.length < 0
  · rw [if_pos h, if_pos h]
  · rw [if_neg h, if_neg h, List.map_take]
theorem drop_map {pn : ByteArray → Bool} {but : ByteArray} {th : Bool} (h : ∀ y ∈ l, goP pn (opN L y) = rgoP L but th y) : dropS pn (l.map (opN L)) = (rdropR L l but th).map (opN L) := by
  have e : ∀ k : Nat, k ≤ l.length → dropK (goP pn) (l.map (opN L)) k = rdropK (rgoP L but th) l k := fun k => by
    induction k with
    | zero => intro _; rfl
    | succ k ih =>
      intro hk
      rw [dropK, rdropK, mapD k (by omega), ih (by omega)]
      have : l.getD k 0 ∈ l := by
        have : l.getD k 0 = l[k] := by simp [List.getD, (show k < l.length by omega)]
        rw [this]; exact List.getElem_mem _
      rw [h _ this]
  unfold dropS rdropR
  rw [List.length_map, e _ (Nat.le_refl _), List.map_take]
theorem scp_any (e : OpS → Bool) (P : OpS → Bool) (s : List OpS) (p : Int → Bool) (hp : ∀ k, k < l.length → p (l.getD k 0) = e (s.getD k zS)) (hs : s.length = l.length) : ∀ k : Nat, k + 1 ≤ s.length → (scp e s (k + 1)).any P = ((s.take (k + 1)).drop (botR p l k)).any P
  | 0, hk => by
    rw [scp, botR, List.drop_zero, scp, List.take_succ_eq_append_getElem (by omega), getD_lt (by omega)]
    simp
  | k + 1, hk => by
    have ih := scp_any e P s p hp hs k (by omega)
    rw [scp, botR, hp _ (by omega), getD_lt (by omega), List.take_succ_eq_append_getElem (by omega)]
    by_cases h : e s[k + 1] = true
    · rw [if_pos h, if_pos h]
      have : (s.take (k + 1)).length = k + 1 := by rw [List.length_take]; omega
      rw [List.drop_append_of_le_length (by omega), List.drop_of_length_le (by omega)]
      simp
    · rw [if_neg h, if_neg h, List.any_cons, ih]
      have h1 := botR_le p l k
      rw [List.drop_append_of_le_length (by rw [List.length_take]; omega), List.any_append]
      simp [Bool.or_comm]
theorem has_map (hok : okT L l) (w : Int) (P : OpS → Bool) : hasW w (l.map (opN L)) P = (l.drop (botN L w l)).any fun y => P (opN L y) := by
  unfold hasW botN
  rw [List.length_map]
  cases hl : l.length with
  | zero =>
    have : l = [] := List.length_eq_zero_iff.1 hl
    subst this
    rfl
  | succ k =>
    rw [scp_any (l := l) (scE w) P (l.map (opN L)) (fun y => rscE w (opN L y)) (fun j hj => ?_) (by simp) k (by simp; omega), Nat.add_sub_cancel]
    · rw [← List.map_take, List.take_of_length_le (by omega), ← List.map_drop, List.any_map]; rfl
    · rw [mapD j hj]
      have hm : l.getD j 0 ∈ l := by
        have : l.getD j 0 = l[j] := by simp [List.getD, hj]
        rw [this]; exact List.getElem_mem _
      obtain ⟨q, _, _, h1, h2⟩ := hok _ hm
      exact nm_scope h1 w h2
theorem hasn_map (hok : okT L l) (w i : Int) : hasW w (l.map (opN L)) (fun o => decide (o.node = i)) = (decide (0 ≤ indexR l i) && decide ((botN L w l : Int) ≤ indexR l i)) := by
  rw [has_map hok]
  have hr := lastB_rng (fun k => decide (l.getD k 0 = i)) l.length
  by_cases h : (l.drop (botN L w l)).any (fun y => decide ((opN L y).node = i)) = true
  · rw [h]
    obtain ⟨x, hx, hxe⟩ := List.any_eq_true.1 h
    obtain ⟨j, hj⟩ := List.mem_iff_getElem?.1 hx
    rw [List.getElem?_drop] at hj
    have hjl := (List.getElem?_eq_some_iff.1 hj).1
    have := lastB_some (p := fun k => decide (l.getD k 0 = i)) hjl (by
      have e : l.getD (botN L w l + j) 0 = x := by simp [List.getD, hj]
      rw [e]; exact hxe)
    unfold indexR
    rw [decide_eq_true (by omega), decide_eq_true (by omega)]; rfl
  · rw [Bool.not_eq_true] at h
    rw [h]
    symm
    rw [Bool.and_eq_false_iff]
    by_cases h0 : 0 ≤ indexR l i
    · right
      refine decide_eq_false fun hb => ?_
      obtain ⟨q, e, hq, hp⟩ := lastB_sat _ _ h0
      unfold indexR at hb
      rw [e] at hb
      have := List.any_eq_false.1 h (l.getD q 0) (by
        have e2 : l.getD q 0 = l[q] := by simp [List.getD, hq]
        rw [e2]
        refine List.mem_iff_getElem?.2 ⟨q - botN L w l, ?_⟩
        rw [List.getElem?_drop, show botN L w l + (q - botN L w l) = q by omega, List.getElem?_eq_getElem hq])
      exact this hp
    · exact .inl (decide_eq_false h0)
end
/- acts -/
def actS (L : List Nd) (s : List OpS) (k : Nat) (i j : Int) (a b : Nat) : List OpS × Int :=
  if k % 10 = 3 then (s.dropLast, topS s) else if k % 10 = 4 then remS s i else if k % 10 = 5 then insS L s j i else if k % 10 = 6 then replS L s j i
  else if k % 10 = 7 then untS s [nmT a, nmT b] else if k % 10 = 8 then (dropS (butN (nmT a)) s, 0) else if k % 10 = 9 then (dropS thoN s, 0) else insS L s s.length i
def actQ (L : List Nd) (l : List Int) (k : Nat) (i j : Int) (a b : Nat) : List Int × Int :=
  if k % 10 = 3 then (l.dropLast, topR l) else if k % 10 = 4 then remR l i else if k % 10 = 5 then insR L l j i else if k % 10 = 6 then replR L l j i
  else if k % 10 = 7 then untR L l [nmT a, nmT b] else if k % 10 = 8 then (rdropR L l (nmT a) false, 0) else if k % 10 = 9 then (rdropR L l ⟨#[]⟩ true, 0) else insR L l l.length i
theorem act_map {L : List Nd} {l : List Int} (hok : okT L l) (k : Nat) (i j : Int) (a b : Nat) : actS L (l.map (opN L)) k i j a b = ((actQ L l k i j a b).1.map (opN L), (actQ L l k i j a b).2) := by
  have h8 : dropS (butN (nmT a)) (l.map (opN L)) = (rdropR L l (nmT a) false).map (opN L) := drop_map fun y hy => by
    obtain ⟨q, _, _, h1, _⟩ := hok y hy
    unfold goP rgoP rgoN butN
    rw [nm_imp _ h1]
    simp [Bool.and_comm]
  have h9 : dropS thoN (l.map (opN L)) = (rdropR L l ⟨#[]⟩ true).map (opN L) := drop_map fun y hy => by
    obtain ⟨q, _, _, h1, _⟩ := hok y hy
    unfold goP rgoP rgoN
    rw [nm_tho _ h1]
    simp
  unfold actS actQ
  rw [List.length_map, h8, h9, top_map, rem_map, ins_map, repl_map, unt_map, ins_map]
  split
  · rw [List.map_dropLast]
  split
  · rfl
  split
  · rfl
  split
  · rfl
  split
  · rfl
  split
  · rfl
  split
  · rfl
  · rfl
theorem actQ_ok {L : List Nd} {l : List Int} (hL : okL L) (hok : okT L l) (hl : l.length ≤ 512) (k : Nat) (i j : Int) (a b : Nat) : okT L (actQ L l k i j a b).1 ∧ (actQ L l k i j a b).1.length ≤ 512 := by
  have tk : ∀ m : Nat, okT L (l.take m) ∧ (l.take m).length ≤ 512 := fun m => ⟨okT_sub hok fun y hy => List.mem_of_mem_take hy, by rw [List.length_take]; omega⟩
  have hi : ∀ kk : Int, okT L (insR L l kk i).1 ∧ (insR L l kk i).1.length ≤ 512 := fun kk => by
    unfold insR
    split
    · rename_i h1
      split
      · split
        · exact ⟨hok, hl⟩
        · refine ⟨fun y hy => ?_, ?_⟩
          · simp only [List.mem_append, List.mem_cons] at hy
            rcases hy with hy | rfl | hy
            · exact hok y (List.mem_of_mem_take hy)
            · exact okT_one hL h1
            · exact hok y (List.mem_of_mem_drop hy)
          · simp; omega
      · exact ⟨hok, hl⟩
    · exact ⟨hok, hl⟩
  unfold actQ
  split
  · exact ⟨okT_sub hok fun y hy => by rw [List.dropLast_eq_take] at hy; exact List.mem_of_mem_take hy, by simp; omega⟩
  split
  · unfold remR
    split
    · exact ⟨hok, hl⟩
    · exact ⟨okT_sub hok fun y hy => List.mem_of_mem_eraseIdx hy, Nat.le_trans (List.length_eraseIdx_le _ _) hl⟩
  split
  · exact hi j
  split
  · unfold replR
    split
    · rename_i h1
      split
      · refine ⟨fun y hy => ?_, by simpa using hl⟩
        rcases List.mem_or_eq_of_mem_set hy with hy | rfl
        · exact hok y hy
        · exact okT_one hL h1
      · exact ⟨hok, hl⟩
    · exact ⟨hok, hl⟩
  split
  · unfold untR
    split
    · exact ⟨hok, hl⟩
    · exact tk _
  split
  · exact tk _
  split
  · exact tk _
  · exact hi _
end Go.Vk
end
