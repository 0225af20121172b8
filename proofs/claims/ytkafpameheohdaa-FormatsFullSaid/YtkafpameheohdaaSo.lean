/- sound: of nodes that are well kept it is true. -/
import Derived.Test.YtkafpameheohdaaHd
import Derived.Test.YtkafpameheohdaaMk
set_option linter.unusedSimpArgs false
set_option linter.unusedVariables false
namespace Go.Vk
/-- is a number the parent's, and is the parent ahead of i? -/
def cnt (L : List Nd) (i : Nat) (j : Nat) : Int := if 0 ≤ (gN L j).parent ∧ (gN L j).parent < i then 1 else 0
def cntK (L : List Nd) (i k : Nat) (j : Nat) : Int := cnt L i j + if (j : Int) ∈ (gN L i).kids.take k then 1 else 0
theorem cntK_zero (L : List Nd) (i j : Nat) : cntK L i 0 j = cnt L i j := by simp [cntK]
theorem cntK_full {L : List Nd} (h : Gd L) (i j : Nat) {k : Nat} (hk : (gN L i).kids.length ≤ k) : cntK L i k j = cnt L (i + 1) j := by
  unfold cntK cnt
  rw [List.take_of_length_le hk]
  have := h.kid i j
  by_cases hm : (j : Int) ∈ (gN L i).kids
  · obtain ⟨h1, h2⟩ := this.1 hm
    rw [if_pos hm, if_neg (by omega), if_pos (by omega)]; rfl
  · rw [if_neg hm]
    have h2 : ¬ (gN L j).parent = i := fun e => hm (this.2 ⟨by omega, e⟩)
    by_cases h3 : 0 ≤ (gN L j).parent ∧ (gN L j).parent < i
    · rw [if_pos h3, if_pos (by omega)]; rfl
    · rw [if_neg h3, if_neg (by omega)]; rfl
theorem cntK_step {L : List Nd} (h : Gd L) {i k : Nat} {t : Nat} (hk : (gN L i).kids[k]? = some (t : Int)) (j : Nat) : cntK L i (k + 1) j = if j = t then cntK L i k j + 1 else cntK L i k j := by
  unfold cntK
  rw [List.take_add_one, hk]
  simp only [Option.toList_some, List.mem_append, List.mem_singleton]
  have hnd := h.nd i
  by_cases e : j = t
  · subst e
    have hnot : ¬ ((j : Int) ∈ (gN L i).kids.take k) := fun hm => by
      obtain ⟨a, ha, he⟩ := List.getElem_of_mem hm
      rw [List.length_take] at ha
      rw [List.getElem_take] at he
      have h2 := (List.getElem?_eq_some_iff.1 hk)
      obtain ⟨hk', h3⟩ := h2
      have : a = k := (List.getElem_inj hnd).1 (by rw [he, h3])
      omega
    rw [if_pos rfl, if_pos (.inr rfl), if_neg hnot]; omega
  · rw [if_neg e]
    have : ((j : Int) ∈ (gN L i).kids.take k ∨ (j : Int) = t) ↔ (j : Int) ∈ (gN L i).kids.take k := ⟨fun h => by rcases h with h | h; exact h; omega, .inl⟩
    simp only [this]
theorem cnt_le (L : List Nd) (i j : Nat) : 0 ≤ cnt L i j ∧ cnt L i j ≤ 1 := by unfold cnt; split <;> omega
theorem cntK_le (L : List Nd) (i k j : Nat) : 0 ≤ cntK L i k j ∧ cntK L i k j ≤ 2 := by
  have := cnt_le L i j
  unfold cntK; split <;> omega
end Go.Vk
namespace Go.Proofs.Ytkafpameheohdaa
open Go.Vk
set_option maxHeartbeats 40000000
set_option maxRecDepth 10000 in
theorem sound_c {w : World} {v : Value} {T : List Laid} {bo : Option Nat} (hT : NdsAt w v T bo) (hG : Gd (T.map Laid.nd)) (hb : T.length < 100000) :
    Gives Try.prog 21 #[v] w fun u w' => u = .bool true ∧ Ext w w' := by
  obtain ⟨a, c, rfl, hc⟩ := hT.len
  generalize hL : T.map Laid.nd = L at hG
  have hN : L.length = T.length := by rw [← hL]; simp
  have hpos : 0 < T.length := by
    have := List.length_pos_iff.2 hG.ne; omega
  obtain ⟨b, o, n', c', e, _⟩ := hT.sl.some_of (by intro e; have := flat_length T; rw [e] at this; simp at this; omega)
  cases e
  have nod : ∀ i, i < T.length → ∃ m, T[i]? = some m ∧ m.nd = gN L i := fun i hi => by
    refine ⟨T[i], List.getElem?_eq_getElem hi, ?_⟩
    have : L[i]? = some T[i].nd := by rw [← hL, List.getElem?_map, List.getElem?_eq_getElem hi]; rfl
    rw [gN_nat this]
  refine Gives.of_W Try.call21 Try.func21 rfl Try.ntmps21 (by simp) ?_; intro Z hZ
  (repeat (first | (with_reducible first | (refine hK _ _ ?_; clear hK K) | refine (show ∀ σ' w', _ → K σ' w' from by assumption) _ _ ?_ | refine W_seq_k fun K hK => ?_ | refine W_block_k fun K hK => ?_ | refine W_skip ?_ | refine W_ret ?_) | ((first | ((with_reducible refine W_id ?_); refine W_reg (by decide) (by rfl) ?_) | (with_reducible first | refine W_cond ?_ | refine hZ _ _ ?_ | refine W_exit ?_ | refine Wo_id ?_)); repeat1' simp only [push_cast, Nat.reduceBEq, Nat.reduceLT, Nat.reduceEqDiff, reduceIte, reduceCtorEq, Nat.reduceMul, Nat.reduceAdd, Nat.reduceSub, Int.reduceEq, Int.reduceLT, Int.reduceLE, Int.reduceNeg, Int.reduceAdd, Int.reduceSub, Int.reduceMul, Nat.reduceLeDiff, Int.reduceToNat]) | ((repeat ((fail_if_success with_reducible refine hK _ _ ?_); clear hK K)); (with_reducible refine hK _ _ ?_); clear hK K)))
  refine make_zero Try.underlying28 ety3 (n := T.length) rfl (by omega) ?_
  rw [rowF_rep]
  have hm1 : (w.alloc (.cells (rowF T.length fun _ => 0) 3)).heap[w.heap.size]? = some (.cells (rowF T.length fun _ => 0) 3 (0, 0)) := by rw [heap_alloc_h, if_pos rfl]
  have hx1 : Ext w (w.alloc (.cells (rowF T.length fun _ => 0) 3)) := Ext.alloc _ _
  generalize w.alloc (.cells (rowF T.length fun _ => 0) 3) = w1 at *
  ((repeat simp only [push_cast, Nat.reduceBEq, Nat.reduceLT, Nat.reduceEqDiff, reduceIte, reduceCtorEq, Nat.reduceMul, Nat.reduceAdd, Nat.reduceSub, Int.reduceEq, Int.reduceLT, Int.reduceLE, Int.reduceNeg, Int.reduceAdd, Int.reduceSub, Int.reduceMul, Nat.reduceLeDiff, Int.reduceToNat]); (repeat (first | (with_reducible first | (refine hK _ _ ?_; clear hK K) | refine (show ∀ σ' w', _ → K σ' w' from by assumption) _ _ ?_ | refine W_seq_k fun K hK => ?_ | refine W_block_k fun K hK => ?_ | refine W_skip ?_ | refine W_ret ?_) | ((first | ((with_reducible refine W_id ?_); refine W_reg (by decide) (by rfl) ?_) | (with_reducible first | refine W_cond ?_ | refine hZ _ _ ?_ | refine W_exit ?_ | refine Wo_id ?_)); repeat1' simp only [push_cast, Nat.reduceBEq, Nat.reduceLT, Nat.reduceEqDiff, reduceIte, reduceCtorEq, Nat.reduceMul, Nat.reduceAdd, Nat.reduceSub, Int.reduceEq, Int.reduceLT, Int.reduceLE, Int.reduceNeg, Int.reduceAdd, Int.reduceSub, Int.reduceMul, Nat.reduceLeDiff, Int.reduceToNat]) | ((repeat ((fail_if_success with_reducible refine hK _ _ ?_); clear hK K)); (with_reducible refine hK _ _ ?_); clear hK K))))
  refine W_loop (S := Nat × (Nat → Int)) (fun s => [(0, .slice (some ⟨b, o, none⟩) T.length c), (3, .slice (some ⟨w.heap.size, 0, none⟩) T.length T.length), (4, .int .i64 (s.1 : Int))])
    (fun s w2 => s.1 ≤ T.length ∧ (∀ j, j < T.length → s.2 j = cnt L s.1 j) ∧ w2.heap[w.heap.size]? = some (.cells (rowF T.length s.2) 3 (0, 0)) ∧ Ext w w2) (fun s => T.length - s.1) (0, fun _ => 0) ?_ ?_ ?_
  · (repeat simp only [push_cast, Nat.reduceBEq, Nat.reduceLT, Nat.reduceEqDiff, reduceIte, reduceCtorEq, Nat.reduceMul, Nat.reduceAdd, Nat.reduceSub, Int.reduceEq, Int.reduceLT, Int.reduceLE, Int.reduceNeg, Int.reduceAdd, Int.reduceSub, Int.reduceMul, Nat.reduceLeDiff, Int.reduceToNat])
  · refine ⟨by simp, fun j _ => ?_, hm1, hx1⟩
    have : ¬ (0 ≤ (gN L j).parent ∧ (gN L j).parent < ((0 : Nat) : Int)) := by omega
    exact (if_neg this).symm
  rintro ⟨i, f⟩ w2 ⟨hi, hf, hm2, hx2⟩
  simp only at hi hf hm2 ⊢
  by_cases hil : i < T.length
  · have b0 : (i : Int) < (T.length : Int) := by omega
    have b1 : (0 : Int) ≤ (i : Int) := by omega
    have b2 : inI64 ((i : Int) + 1) := by unfold inI64; omega
    obtain ⟨mi, hmi, hmin⟩ := nod i hil
    have hfew := hG.few i
    (repeat (first | (with_reducible first | (refine hK _ _ ?_; clear hK K) | refine (show ∀ σ' w', _ → K σ' w' from by assumption) _ _ ?_ | refine W_seq_k fun K hK => ?_ | refine W_block_k fun K hK => ?_ | refine W_skip ?_ | refine W_ret ?_) | ((first | ((with_reducible refine W_id ?_); refine W_reg (by decide) (by rfl) ?_) | (with_reducible first | refine W_cond ?_ | refine hZ _ _ ?_ | refine W_exit ?_ | refine Wo_id ?_)); repeat1' simp only [push_cast, Nat.reduceBEq, Nat.reduceLT, Nat.reduceEqDiff, reduceIte, reduceCtorEq, Nat.reduceMul, Nat.reduceAdd, Nat.reduceSub, Int.reduceEq, Int.reduceLT, Int.reduceLE, Int.reduceNeg, Int.reduceAdd, Int.reduceSub, Int.reduceMul, Nat.reduceLeDiff, Int.reduceToNat, b0]) | ((repeat ((fail_if_success with_reducible refine hK _ _ ?_); clear hK K)); (with_reducible refine hK _ _ ?_); clear hK K)))
    refine W_loop (S := Nat × (Nat → Int)) (fun s => [(0, .slice (some ⟨b, o, none⟩) T.length c), (3, .slice (some ⟨w.heap.size, 0, none⟩) T.length T.length), (4, .int .i64 (i : Int)), (5, .int .i64 (s.1 : Int))])
      (fun s w3 => s.1 ≤ (gN L i).kids.length ∧ (∀ j, j < T.length → s.2 j = cntK L i s.1 j) ∧ w3.heap[w.heap.size]? = some (.cells (rowF T.length s.2) 3 (0, 0)) ∧ Ext w w3) (fun s => (gN L i).kids.length - s.1) (0, f) ?_ ?_ ?_
    · (repeat simp only [push_cast, Nat.reduceBEq, Nat.reduceLT, Nat.reduceEqDiff, reduceIte, reduceCtorEq, Nat.reduceMul, Nat.reduceAdd, Nat.reduceSub, Int.reduceEq, Int.reduceLT, Int.reduceLE, Int.reduceNeg, Int.reduceAdd, Int.reduceSub, Int.reduceMul, Nat.reduceLeDiff, Int.reduceToNat])
    · exact ⟨by simp, fun j hj => by rw [cntK_zero]; exact hf j hj, hm2, hx2⟩
    clear hf hm2 hx2 hm1 hx1
    rintro ⟨k, g⟩ w3 ⟨hk, hg, hm3, hx3⟩
    simp only at hk hg hm3 ⊢
    have hT3 := hT.ext hx3
    have c8 := hT3.get hmi (j := 8) (by decide)
    simp only [Laid.cells, List.getElem?_cons_zero, List.getElem?_cons_succ] at c8
    have hkk := (hT3.ok mi (List.mem_of_getElem? hmi)).kids
    rw [hmin] at hkk
    obtain ⟨ka, kc, ekv, _⟩ := hkk.ints_len
    rw [ekv] at c8 hkk
    by_cases hkl : k < (gN L i).kids.length
    · obtain ⟨t, ht, htl, htp⟩ := ahead hG (p := i) hkl
      have d0 : (k : Int) < ((gN L i).kids.length : Int) := by omega
      have d1 : (0 : Int) ≤ (k : Int) := by omega
      have d2 : inI64 ((k : Int) + 1) := by unfold inI64; omega
      obtain ⟨kb, ko, kn, kc', e, _⟩ := hkk.some_of (kids_ne hkl)
      cases e
      have d3 := hkk.ints_cell ht
      have ht0 : ¬ t = 0 := fun e => by
        subst e
        have h1 := hG.knd 0 (by have := htp; simp at this; omega)
        have h2 := hG.doc
        rw [h2] at h1; simp [kidK] at h1
      have d4 : ¬ (t : Int) < 1 := by omega
      have d5 : ¬ (T.length : Int) ≤ (t : Int) := by omega
      have d6 : (0 : Int) ≤ (t : Int) := by omega
      have d7 : (t : Int) < (T.length : Int) := by omega
      obtain ⟨mt, hmt, hmtn⟩ := nod t (by omega)
      have c6 := hT3.get hmt (j := 6) (by decide)
      simp only [Laid.cells, List.getElem?_cons_zero, List.getElem?_cons_succ, hmtn, htp] at c6
      have e1 := rowF_get g (n := T.length) (j := t) (by omega)
      have hgt := hg t (by omega)
      have hle := cntK_le L i k t
      have d8 : inI64 (g t + 1) := by unfold inI64; omega
      have d9 : canStore w3 ⟨w.heap.size, t, none⟩ := by
        rw [can_h, hm3, canO_cells, rowF_size]; omega
      have e2 : w3.cell? ⟨w.heap.size, t, none⟩ = some (.int .i64 (g t)) := by rw [cell_h, hm3, cellO_cells, e1]
      (repeat (first | (with_reducible first | (refine hK _ _ ?_; clear hK K) | refine (show ∀ σ' w', _ → K σ' w' from by assumption) _ _ ?_ | refine W_seq_k fun K hK => ?_ | refine W_block_k fun K hK => ?_ | refine W_skip ?_ | refine W_ret ?_) | ((first | ((with_reducible refine W_id ?_); refine W_reg (by decide) (by rfl) ?_) | (with_reducible first | refine W_cond ?_ | refine hZ _ _ ?_ | refine W_exit ?_ | refine Wo_id ?_)); repeat1' simp only [push_cast, Nat.reduceBEq, Nat.reduceLT, Nat.reduceEqDiff, reduceIte, reduceCtorEq, Nat.reduceMul, Nat.reduceAdd, Nat.reduceSub, Int.reduceEq, Int.reduceLT, Int.reduceLE, Int.reduceNeg, Int.reduceAdd, Int.reduceSub, Int.reduceMul, Nat.reduceLeDiff, Int.reduceToNat, b0, b1, c8, d0, d1, d3, d4, d5, d6, d7, c6, not_true_eq_false, e2, d8, d9, d2]) | ((repeat ((fail_if_success with_reducible refine hK _ _ ?_); clear hK K)); (with_reducible refine hK _ _ ?_); clear hK K)))
      refine ⟨(k + 1, fun j => if j = t then g t + 1 else g j), by simp only; omega, ?_⟩
      (repeat simp only [push_cast, Nat.reduceBEq, Nat.reduceLT, Nat.reduceEqDiff, reduceIte, reduceCtorEq, Nat.reduceMul, Nat.reduceAdd, Nat.reduceSub, Int.reduceEq, Int.reduceLT, Int.reduceLE, Int.reduceNeg, Int.reduceAdd, Int.reduceSub, Int.reduceMul, Nat.reduceLeDiff, Int.reduceToNat])
      refine ⟨by omega, fun j hj => ?_, ?_, Upd.trans hx3 (Upd.setCell (F := fun b => b = w.heap.size) w3 rfl _) fun i hi e => by omega⟩
      · rw [cntK_step hG ht j]
        by_cases e : j = t
        · rw [if_pos e, if_pos e, e, hgt]
        · rw [if_neg e, if_neg e]; exact hg j hj
      · rw [heap_set_h, if_pos rfl, hm3, setO_cells, rowF_set g (by omega)]
    · have hke : k = (gN L i).kids.length := by omega
      subst hke
      have d0 : ¬ ((gN L i).kids.length : Int) < ((gN L i).kids.length : Int) := by omega
      (repeat (first | (with_reducible first | (refine hK _ _ ?_; clear hK K) | refine (show ∀ σ' w', _ → K σ' w' from by assumption) _ _ ?_ | refine W_seq_k fun K hK => ?_ | refine W_block_k fun K hK => ?_ | refine W_skip ?_ | refine W_ret ?_) | ((first | ((with_reducible refine W_id ?_); refine W_reg (by decide) (by rfl) ?_) | (with_reducible first | refine W_cond ?_ | refine hZ _ _ ?_ | refine W_exit ?_ | refine Wo_id ?_)); repeat1' simp only [push_cast, Nat.reduceBEq, Nat.reduceLT, Nat.reduceEqDiff, reduceIte, reduceCtorEq, Nat.reduceMul, Nat.reduceAdd, Nat.reduceSub, Int.reduceEq, Int.reduceLT, Int.reduceLE, Int.reduceNeg, Int.reduceAdd, Int.reduceSub, Int.reduceMul, Nat.reduceLeDiff, Int.reduceToNat, b0, b1, c8, d0, b2]) | ((repeat ((fail_if_success with_reducible refine hK _ _ ?_); clear hK K)); (with_reducible refine hK _ _ ?_); clear hK K)))
      refine ⟨(i + 1, g), by simp only; omega, ?_⟩
      (repeat simp only [push_cast, Nat.reduceBEq, Nat.reduceLT, Nat.reduceEqDiff, reduceIte, reduceCtorEq, Nat.reduceMul, Nat.reduceAdd, Nat.reduceSub, Int.reduceEq, Int.reduceLT, Int.reduceLE, Int.reduceNeg, Int.reduceAdd, Int.reduceSub, Int.reduceMul, Nat.reduceLeDiff, Int.reduceToNat])
      exact ⟨by omega, fun j hj => by rw [hg j hj]; exact cntK_full hG i j (Nat.le_refl _), hm3, hx3⟩
  · have hie : i = T.length := by omega
    subst hie
    have b0 : ¬ (T.length : Int) < (T.length : Int) := by omega
    (repeat (first | (with_reducible first | (refine hK _ _ ?_; clear hK K) | refine (show ∀ σ' w', _ → K σ' w' from by assumption) _ _ ?_ | refine W_seq_k fun K hK => ?_ | refine W_block_k fun K hK => ?_ | refine W_skip ?_ | refine W_ret ?_) | ((first | ((with_reducible refine W_id ?_); refine W_reg (by decide) (by rfl) ?_) | (with_reducible first | refine W_cond ?_ | refine hZ _ _ ?_ | refine W_exit ?_ | refine Wo_id ?_)); repeat1' simp only [push_cast, Nat.reduceBEq, Nat.reduceLT, Nat.reduceEqDiff, reduceIte, reduceCtorEq, Nat.reduceMul, Nat.reduceAdd, Nat.reduceSub, Int.reduceEq, Int.reduceLT, Int.reduceLE, Int.reduceNeg, Int.reduceAdd, Int.reduceSub, Int.reduceMul, Nat.reduceLeDiff, Int.reduceToNat, b0]) | ((repeat ((fail_if_success with_reducible refine hK _ _ ?_); clear hK K)); (with_reducible refine hK _ _ ?_); clear hK K)))
    have hT2 := hT.ext hx2
    refine W_loop (S := Nat) (fun s => [(0, .slice (some ⟨b, o, none⟩) T.length c), (3, .slice (some ⟨w.heap.size, 0, none⟩) T.length T.length), (7, .int .i64 (s : Int))])
      (fun s w3 => s ≤ T.length ∧ w3 = w2) (fun s => T.length - s) 0 ?_ ?_ ?_
    · (repeat simp only [push_cast, Nat.reduceBEq, Nat.reduceLT, Nat.reduceEqDiff, reduceIte, reduceCtorEq, Nat.reduceMul, Nat.reduceAdd, Nat.reduceSub, Int.reduceEq, Int.reduceLT, Int.reduceLE, Int.reduceNeg, Int.reduceAdd, Int.reduceSub, Int.reduceMul, Nat.reduceLeDiff, Int.reduceToNat])
    · exact ⟨by omega, rfl⟩
    rintro i w3 ⟨hi, hw⟩
    subst w3
    by_cases hil : i < T.length
    · have b1 : (i : Int) < (T.length : Int) := by omega
      have b2 : (0 : Int) ≤ (i : Int) := by omega
      have b3 : inI64 ((i : Int) + 1) := by unfold inI64; omega
      obtain ⟨mi, hmi, hmin⟩ := nod i hil
      have c0 := hT2.get hmi (j := 0) (by decide)
      have c6 := hT2.get hmi (j := 6) (by decide)
      simp only [Laid.cells, List.getElem?_cons_zero, List.getElem?_cons_succ, hmin, Nat.add_zero] at c0 c6
      have hfi := hf i hil
      have e2 : w2.cell? ⟨w.heap.size, i, none⟩ = some (.int .i64 (f i)) := by rw [cell_h, hm2, cellO_cells, rowF_get f hil]
      have hlow := hG.low i
      have hrange := hG.range (j := (i : Int))
      have hknd := hG.knd i
      have hone := hG.one i
      have hdoc := hG.doc
      have hdown := hG.down (j := (i : Int)) (by omega)
      by_cases hp : (gN L i).parent < 0
      · have hp1 : (gN L i).parent = -1 := by omega
        have hf0 : f i = 0 := by rw [hfi]; exact if_neg (by omega)
        rw [hf0] at e2
        rw [hp1] at c6
        have b4 : ¬ (T.length : Int) ≤ -1 := by omega
        by_cases h1 : (gN L i).kind = 1
        · have hi0 : i = 0 := by have := hone h1; omega
          have hi0e : ((i : Int) = 0) = True := eq_true (by omega)
          rw [h1] at c0
          (repeat (first | (with_reducible first | (refine hK _ _ ?_; clear hK K) | refine (show ∀ σ' w', _ → K σ' w' from by assumption) _ _ ?_ | refine W_seq_k fun K hK => ?_ | refine W_block_k fun K hK => ?_ | refine W_skip ?_ | refine W_ret ?_) | ((first | ((with_reducible refine W_id ?_); refine W_reg (by decide) (by rfl) ?_) | (with_reducible first | refine W_cond ?_ | refine hZ _ _ ?_ | refine W_exit ?_ | refine Wo_id ?_)); repeat1' simp only [push_cast, Nat.reduceBEq, Nat.reduceLT, Nat.reduceEqDiff, reduceIte, reduceCtorEq, Nat.reduceMul, Nat.reduceAdd, Nat.reduceSub, Int.reduceEq, Int.reduceLT, Int.reduceLE, Int.reduceNeg, Int.reduceAdd, Int.reduceSub, Int.reduceMul, Nat.reduceLeDiff, Int.reduceToNat, b1, b2, c0, c6, e2, b4, hi0e, not_true_eq_false, not_false_eq_true, beq_self_eq_true]) | ((repeat ((fail_if_success with_reducible refine hK _ _ ?_); clear hK K)); (with_reducible refine hK _ _ ?_); clear hK K)))
          refine W_loop (S := Int × Nat) (fun s => [(0, .slice (some ⟨b, o, none⟩) T.length c), (3, .slice (some ⟨w.heap.size, 0, none⟩) T.length T.length), (7, .int .i64 (i : Int)), (9, .int .i64 s.1), (10, .int .i64 (s.2 : Int))])
            (fun s w4 => ∃ k, s.2 + k = T.length ∧ dn L.length (upN L) k s.1 = true ∧ w4 = w2) (fun s => T.length - s.2) ((i : Int), 0) ?_ ?_ ?_
          · (repeat simp only [push_cast, Nat.reduceBEq, Nat.reduceLT, Nat.reduceEqDiff, reduceIte, reduceCtorEq, Nat.reduceMul, Nat.reduceAdd, Nat.reduceSub, Int.reduceEq, Int.reduceLT, Int.reduceLE, Int.reduceNeg, Int.reduceAdd, Int.reduceSub, Int.reduceMul, Nat.reduceLeDiff, Int.reduceToNat])
          · exact ⟨L.length, by omega, hdown, rfl⟩
          rintro ⟨t, st⟩ w4 ⟨k, hks, hdn, hw⟩
          subst w4
          simp only at hks hdn ⊢
          by_cases ht0 : 0 ≤ t
          · obtain ⟨t, rfl⟩ : ∃ x : Nat, t = x := ⟨t.toNat, by omega⟩
            cases k with
            | zero => simp [dn] at hdn; omega
            | succ k =>
              obtain ⟨q1, q2⟩ := dn_step hdn ht0
              rw [upN_g] at q2
              obtain ⟨mt, hmt, hmtn⟩ := nod t (by omega)
              have g0 := hT2.get hmt (j := 0) (by decide)
              have g6 := hT2.get hmt (j := 6) (by decide)
              simp only [Laid.cells, List.getElem?_cons_zero, List.getElem?_cons_succ, hmtn, Nat.add_zero] at g0 g6
              have r0 : inI64 (2 * (T.length : Int)) := by unfold inI64; omega
              have r1 : ¬ 2 * (T.length : Int) < (st : Int) := by omega
              have r2 : inI64 ((st : Int) + 1) := by unfold inI64; omega
              have r3 : (t : Int) < (T.length : Int) := by omega
              have r4 : inI64 ((t : Int) - 1) := by unfold inI64; omega
              by_cases h6' : (gN L t).kind = 6
              · rw [if_pos h6'] at q2
                rw [h6'] at g0
                (repeat (first | (with_reducible first | (refine hK _ _ ?_; clear hK K) | refine (show ∀ σ' w', _ → K σ' w' from by assumption) _ _ ?_ | refine W_seq_k fun K hK => ?_ | refine W_block_k fun K hK => ?_ | refine W_skip ?_ | refine W_ret ?_) | ((first | ((with_reducible refine W_id ?_); refine W_reg (by decide) (by rfl) ?_) | (with_reducible first | refine W_cond ?_ | refine hZ _ _ ?_ | refine W_exit ?_ | refine Wo_id ?_)); repeat1' simp only [push_cast, Nat.reduceBEq, Nat.reduceLT, Nat.reduceEqDiff, reduceIte, reduceCtorEq, Nat.reduceMul, Nat.reduceAdd, Nat.reduceSub, Int.reduceEq, Int.reduceLT, Int.reduceLE, Int.reduceNeg, Int.reduceAdd, Int.reduceSub, Int.reduceMul, Nat.reduceLeDiff, Int.reduceToNat, ht0, r0, r1, r3, g0, r4, r2]) | ((repeat ((fail_if_success with_reducible refine hK _ _ ?_); clear hK K)); (with_reducible refine hK _ _ ?_); clear hK K)))
                refine ⟨((t : Int) - 1, st + 1), by simp only; omega, ?_⟩
                (repeat simp only [push_cast, Nat.reduceBEq, Nat.reduceLT, Nat.reduceEqDiff, reduceIte, reduceCtorEq, Nat.reduceMul, Nat.reduceAdd, Nat.reduceSub, Int.reduceEq, Int.reduceLT, Int.reduceLE, Int.reduceNeg, Int.reduceAdd, Int.reduceSub, Int.reduceMul, Nat.reduceLeDiff, Int.reduceToNat])
                exact ⟨k, by omega, q2⟩
              · rw [if_neg h6'] at q2
                (repeat (first | (with_reducible first | (refine hK _ _ ?_; clear hK K) | refine (show ∀ σ' w', _ → K σ' w' from by assumption) _ _ ?_ | refine W_seq_k fun K hK => ?_ | refine W_block_k fun K hK => ?_ | refine W_skip ?_ | refine W_ret ?_) | ((first | ((with_reducible refine W_id ?_); refine W_reg (by decide) (by rfl) ?_) | (with_reducible first | refine W_cond ?_ | refine hZ _ _ ?_ | refine W_exit ?_ | refine Wo_id ?_)); repeat1' simp only [push_cast, Nat.reduceBEq, Nat.reduceLT, Nat.reduceEqDiff, reduceIte, reduceCtorEq, Nat.reduceMul, Nat.reduceAdd, Nat.reduceSub, Int.reduceEq, Int.reduceLT, Int.reduceLE, Int.reduceNeg, Int.reduceAdd, Int.reduceSub, Int.reduceMul, Nat.reduceLeDiff, Int.reduceToNat, ht0, r0, r1, r3, g0, h6', g6, r2]) | ((repeat ((fail_if_success with_reducible refine hK _ _ ?_); clear hK K)); (with_reducible refine hK _ _ ?_); clear hK K)))
                refine ⟨((gN L t).parent, st + 1), by simp only; omega, ?_⟩
                (repeat simp only [push_cast, Nat.reduceBEq, Nat.reduceLT, Nat.reduceEqDiff, reduceIte, reduceCtorEq, Nat.reduceMul, Nat.reduceAdd, Nat.reduceSub, Int.reduceEq, Int.reduceLT, Int.reduceLE, Int.reduceNeg, Int.reduceAdd, Int.reduceSub, Int.reduceMul, Nat.reduceLeDiff, Int.reduceToNat])
                exact ⟨k, by omega, q2⟩
          · (repeat (first | (with_reducible first | (refine hK _ _ ?_; clear hK K) | refine (show ∀ σ' w', _ → K σ' w' from by assumption) _ _ ?_ | refine W_seq_k fun K hK => ?_ | refine W_block_k fun K hK => ?_ | refine W_skip ?_ | refine W_ret ?_) | ((first | ((with_reducible refine W_id ?_); refine W_reg (by decide) (by rfl) ?_) | (with_reducible first | refine W_cond ?_ | refine hZ _ _ ?_ | refine W_exit ?_ | refine Wo_id ?_)); repeat1' simp only [push_cast, Nat.reduceBEq, Nat.reduceLT, Nat.reduceEqDiff, reduceIte, reduceCtorEq, Nat.reduceMul, Nat.reduceAdd, Nat.reduceSub, Int.reduceEq, Int.reduceLT, Int.reduceLE, Int.reduceNeg, Int.reduceAdd, Int.reduceSub, Int.reduceMul, Nat.reduceLeDiff, Int.reduceToNat, ht0, b3]) | ((repeat ((fail_if_success with_reducible refine hK _ _ ?_); clear hK K)); (with_reducible refine hK _ _ ?_); clear hK K)))
            refine ⟨i + 1, by omega, ?_⟩
            (repeat simp only [push_cast, Nat.reduceBEq, Nat.reduceLT, Nat.reduceEqDiff, reduceIte, reduceCtorEq, Nat.reduceMul, Nat.reduceAdd, Nat.reduceSub, Int.reduceEq, Int.reduceLT, Int.reduceLE, Int.reduceNeg, Int.reduceAdd, Int.reduceSub, Int.reduceMul, Nat.reduceLeDiff, Int.reduceToNat])
            omega
        · have hi0 : ¬ (i : Int) = 0 := fun e => h1 (by rw [e]; exact hdoc)
          by_cases h6 : (gN L i).kind = 6
          · rw [h6] at c0
            (repeat (first | (with_reducible first | (refine hK _ _ ?_; clear hK K) | refine (show ∀ σ' w', _ → K σ' w' from by assumption) _ _ ?_ | refine W_seq_k fun K hK => ?_ | refine W_block_k fun K hK => ?_ | refine W_skip ?_ | refine W_ret ?_) | ((first | ((with_reducible refine W_id ?_); refine W_reg (by decide) (by rfl) ?_) | (with_reducible first | refine W_cond ?_ | refine hZ _ _ ?_ | refine W_exit ?_ | refine Wo_id ?_)); repeat1' simp only [push_cast, Nat.reduceBEq, Nat.reduceLT, Nat.reduceEqDiff, reduceIte, reduceCtorEq, Nat.reduceMul, Nat.reduceAdd, Nat.reduceSub, Int.reduceEq, Int.reduceLT, Int.reduceLE, Int.reduceNeg, Int.reduceAdd, Int.reduceSub, Int.reduceMul, Nat.reduceLeDiff, Int.reduceToNat, b1, b2, c0, c6, e2, b4, hi0, not_true_eq_false, not_false_eq_true, beq_self_eq_true]) | ((repeat ((fail_if_success with_reducible refine hK _ _ ?_); clear hK K)); (with_reducible refine hK _ _ ?_); clear hK K)))
            refine W_loop (S := Int × Nat) (fun s => [(0, .slice (some ⟨b, o, none⟩) T.length c), (3, .slice (some ⟨w.heap.size, 0, none⟩) T.length T.length), (7, .int .i64 (i : Int)), (9, .int .i64 s.1), (10, .int .i64 (s.2 : Int))])
              (fun s w4 => ∃ k, s.2 + k = T.length ∧ dn L.length (upN L) k s.1 = true ∧ w4 = w2) (fun s => T.length - s.2) ((i : Int), 0) ?_ ?_ ?_
            · (repeat simp only [push_cast, Nat.reduceBEq, Nat.reduceLT, Nat.reduceEqDiff, reduceIte, reduceCtorEq, Nat.reduceMul, Nat.reduceAdd, Nat.reduceSub, Int.reduceEq, Int.reduceLT, Int.reduceLE, Int.reduceNeg, Int.reduceAdd, Int.reduceSub, Int.reduceMul, Nat.reduceLeDiff, Int.reduceToNat])
            · exact ⟨L.length, by omega, hdown, rfl⟩
            rintro ⟨t, st⟩ w4 ⟨k, hks, hdn, hw⟩
            subst w4
            simp only at hks hdn ⊢
            by_cases ht0 : 0 ≤ t
            · obtain ⟨t, rfl⟩ : ∃ x : Nat, t = x := ⟨t.toNat, by omega⟩
              cases k with
              | zero => simp [dn] at hdn; omega
              | succ k =>
                obtain ⟨q1, q2⟩ := dn_step hdn ht0
                rw [upN_g] at q2
                obtain ⟨mt, hmt, hmtn⟩ := nod t (by omega)
                have g0 := hT2.get hmt (j := 0) (by decide)
                have g6 := hT2.get hmt (j := 6) (by decide)
                simp only [Laid.cells, List.getElem?_cons_zero, List.getElem?_cons_succ, hmtn, Nat.add_zero] at g0 g6
                have r0 : inI64 (2 * (T.length : Int)) := by unfold inI64; omega
                have r1 : ¬ 2 * (T.length : Int) < (st : Int) := by omega
                have r2 : inI64 ((st : Int) + 1) := by unfold inI64; omega
                have r3 : (t : Int) < (T.length : Int) := by omega
                have r4 : inI64 ((t : Int) - 1) := by unfold inI64; omega
                by_cases h6' : (gN L t).kind = 6
                · rw [if_pos h6'] at q2
                  rw [h6'] at g0
                  (repeat (first | (with_reducible first | (refine hK _ _ ?_; clear hK K) | refine (show ∀ σ' w', _ → K σ' w' from by assumption) _ _ ?_ | refine W_seq_k fun K hK => ?_ | refine W_block_k fun K hK => ?_ | refine W_skip ?_ | refine W_ret ?_) | ((first | ((with_reducible refine W_id ?_); refine W_reg (by decide) (by rfl) ?_) | (with_reducible first | refine W_cond ?_ | refine hZ _ _ ?_ | refine W_exit ?_ | refine Wo_id ?_)); repeat1' simp only [push_cast, Nat.reduceBEq, Nat.reduceLT, Nat.reduceEqDiff, reduceIte, reduceCtorEq, Nat.reduceMul, Nat.reduceAdd, Nat.reduceSub, Int.reduceEq, Int.reduceLT, Int.reduceLE, Int.reduceNeg, Int.reduceAdd, Int.reduceSub, Int.reduceMul, Nat.reduceLeDiff, Int.reduceToNat, ht0, r0, r1, r3, g0, r4, r2]) | ((repeat ((fail_if_success with_reducible refine hK _ _ ?_); clear hK K)); (with_reducible refine hK _ _ ?_); clear hK K)))
                  refine ⟨((t : Int) - 1, st + 1), by simp only; omega, ?_⟩
                  (repeat simp only [push_cast, Nat.reduceBEq, Nat.reduceLT, Nat.reduceEqDiff, reduceIte, reduceCtorEq, Nat.reduceMul, Nat.reduceAdd, Nat.reduceSub, Int.reduceEq, Int.reduceLT, Int.reduceLE, Int.reduceNeg, Int.reduceAdd, Int.reduceSub, Int.reduceMul, Nat.reduceLeDiff, Int.reduceToNat])
                  exact ⟨k, by omega, q2⟩
                · rw [if_neg h6'] at q2
                  (repeat (first | (with_reducible first | (refine hK _ _ ?_; clear hK K) | refine (show ∀ σ' w', _ → K σ' w' from by assumption) _ _ ?_ | refine W_seq_k fun K hK => ?_ | refine W_block_k fun K hK => ?_ | refine W_skip ?_ | refine W_ret ?_) | ((first | ((with_reducible refine W_id ?_); refine W_reg (by decide) (by rfl) ?_) | (with_reducible first | refine W_cond ?_ | refine hZ _ _ ?_ | refine W_exit ?_ | refine Wo_id ?_)); repeat1' simp only [push_cast, Nat.reduceBEq, Nat.reduceLT, Nat.reduceEqDiff, reduceIte, reduceCtorEq, Nat.reduceMul, Nat.reduceAdd, Nat.reduceSub, Int.reduceEq, Int.reduceLT, Int.reduceLE, Int.reduceNeg, Int.reduceAdd, Int.reduceSub, Int.reduceMul, Nat.reduceLeDiff, Int.reduceToNat, ht0, r0, r1, r3, g0, h6', g6, r2]) | ((repeat ((fail_if_success with_reducible refine hK _ _ ?_); clear hK K)); (with_reducible refine hK _ _ ?_); clear hK K)))
                  refine ⟨((gN L t).parent, st + 1), by simp only; omega, ?_⟩
                  (repeat simp only [push_cast, Nat.reduceBEq, Nat.reduceLT, Nat.reduceEqDiff, reduceIte, reduceCtorEq, Nat.reduceMul, Nat.reduceAdd, Nat.reduceSub, Int.reduceEq, Int.reduceLT, Int.reduceLE, Int.reduceNeg, Int.reduceAdd, Int.reduceSub, Int.reduceMul, Nat.reduceLeDiff, Int.reduceToNat])
                  exact ⟨k, by omega, q2⟩
            · (repeat (first | (with_reducible first | (refine hK _ _ ?_; clear hK K) | refine (show ∀ σ' w', _ → K σ' w' from by assumption) _ _ ?_ | refine W_seq_k fun K hK => ?_ | refine W_block_k fun K hK => ?_ | refine W_skip ?_ | refine W_ret ?_) | ((first | ((with_reducible refine W_id ?_); refine W_reg (by decide) (by rfl) ?_) | (with_reducible first | refine W_cond ?_ | refine hZ _ _ ?_ | refine W_exit ?_ | refine Wo_id ?_)); repeat1' simp only [push_cast, Nat.reduceBEq, Nat.reduceLT, Nat.reduceEqDiff, reduceIte, reduceCtorEq, Nat.reduceMul, Nat.reduceAdd, Nat.reduceSub, Int.reduceEq, Int.reduceLT, Int.reduceLE, Int.reduceNeg, Int.reduceAdd, Int.reduceSub, Int.reduceMul, Nat.reduceLeDiff, Int.reduceToNat, ht0, b3]) | ((repeat ((fail_if_success with_reducible refine hK _ _ ?_); clear hK K)); (with_reducible refine hK _ _ ?_); clear hK K)))
              refine ⟨i + 1, by omega, ?_⟩
              (repeat simp only [push_cast, Nat.reduceBEq, Nat.reduceLT, Nat.reduceEqDiff, reduceIte, reduceCtorEq, Nat.reduceMul, Nat.reduceAdd, Nat.reduceSub, Int.reduceEq, Int.reduceLT, Int.reduceLE, Int.reduceNeg, Int.reduceAdd, Int.reduceSub, Int.reduceMul, Nat.reduceLeDiff, Int.reduceToNat])
              omega
          · (repeat (first | (with_reducible first | (refine hK _ _ ?_; clear hK K) | refine (show ∀ σ' w', _ → K σ' w' from by assumption) _ _ ?_ | refine W_seq_k fun K hK => ?_ | refine W_block_k fun K hK => ?_ | refine W_skip ?_ | refine W_ret ?_) | ((first | ((with_reducible refine W_id ?_); refine W_reg (by decide) (by rfl) ?_) | (with_reducible first | refine W_cond ?_ | refine hZ _ _ ?_ | refine W_exit ?_ | refine Wo_id ?_)); repeat1' simp only [push_cast, Nat.reduceBEq, Nat.reduceLT, Nat.reduceEqDiff, reduceIte, reduceCtorEq, Nat.reduceMul, Nat.reduceAdd, Nat.reduceSub, Int.reduceEq, Int.reduceLT, Int.reduceLE, Int.reduceNeg, Int.reduceAdd, Int.reduceSub, Int.reduceMul, Nat.reduceLeDiff, Int.reduceToNat, b1, b2, c0, c6, e2, b4, hi0, h1, h6, not_true_eq_false, not_false_eq_true, beq_self_eq_true]) | ((repeat ((fail_if_success with_reducible refine hK _ _ ?_); clear hK K)); (with_reducible refine hK _ _ ?_); clear hK K)))
            refine W_loop (S := Int × Nat) (fun s => [(0, .slice (some ⟨b, o, none⟩) T.length c), (3, .slice (some ⟨w.heap.size, 0, none⟩) T.length T.length), (7, .int .i64 (i : Int)), (9, .int .i64 s.1), (10, .int .i64 (s.2 : Int))])
              (fun s w4 => ∃ k, s.2 + k = T.length ∧ dn L.length (upN L) k s.1 = true ∧ w4 = w2) (fun s => T.length - s.2) ((i : Int), 0) ?_ ?_ ?_
            · (repeat simp only [push_cast, Nat.reduceBEq, Nat.reduceLT, Nat.reduceEqDiff, reduceIte, reduceCtorEq, Nat.reduceMul, Nat.reduceAdd, Nat.reduceSub, Int.reduceEq, Int.reduceLT, Int.reduceLE, Int.reduceNeg, Int.reduceAdd, Int.reduceSub, Int.reduceMul, Nat.reduceLeDiff, Int.reduceToNat])
            · exact ⟨L.length, by omega, hdown, rfl⟩
            rintro ⟨t, st⟩ w4 ⟨k, hks, hdn, hw⟩
            subst w4
            simp only at hks hdn ⊢
            by_cases ht0 : 0 ≤ t
            · obtain ⟨t, rfl⟩ : ∃ x : Nat, t = x := ⟨t.toNat, by omega⟩
              cases k with
              | zero => simp [dn] at hdn; omega
              | succ k =>
                obtain ⟨q1, q2⟩ := dn_step hdn ht0
                rw [upN_g] at q2
                obtain ⟨mt, hmt, hmtn⟩ := nod t (by omega)
                have g0 := hT2.get hmt (j := 0) (by decide)
                have g6 := hT2.get hmt (j := 6) (by decide)
                simp only [Laid.cells, List.getElem?_cons_zero, List.getElem?_cons_succ, hmtn, Nat.add_zero] at g0 g6
                have r0 : inI64 (2 * (T.length : Int)) := by unfold inI64; omega
                have r1 : ¬ 2 * (T.length : Int) < (st : Int) := by omega
                have r2 : inI64 ((st : Int) + 1) := by unfold inI64; omega
                have r3 : (t : Int) < (T.length : Int) := by omega
                have r4 : inI64 ((t : Int) - 1) := by unfold inI64; omega
                by_cases h6' : (gN L t).kind = 6
                · rw [if_pos h6'] at q2
                  rw [h6'] at g0
                  (repeat (first | (with_reducible first | (refine hK _ _ ?_; clear hK K) | refine (show ∀ σ' w', _ → K σ' w' from by assumption) _ _ ?_ | refine W_seq_k fun K hK => ?_ | refine W_block_k fun K hK => ?_ | refine W_skip ?_ | refine W_ret ?_) | ((first | ((with_reducible refine W_id ?_); refine W_reg (by decide) (by rfl) ?_) | (with_reducible first | refine W_cond ?_ | refine hZ _ _ ?_ | refine W_exit ?_ | refine Wo_id ?_)); repeat1' simp only [push_cast, Nat.reduceBEq, Nat.reduceLT, Nat.reduceEqDiff, reduceIte, reduceCtorEq, Nat.reduceMul, Nat.reduceAdd, Nat.reduceSub, Int.reduceEq, Int.reduceLT, Int.reduceLE, Int.reduceNeg, Int.reduceAdd, Int.reduceSub, Int.reduceMul, Nat.reduceLeDiff, Int.reduceToNat, ht0, r0, r1, r3, g0, r4, r2]) | ((repeat ((fail_if_success with_reducible refine hK _ _ ?_); clear hK K)); (with_reducible refine hK _ _ ?_); clear hK K)))
                  refine ⟨((t : Int) - 1, st + 1), by simp only; omega, ?_⟩
                  (repeat simp only [push_cast, Nat.reduceBEq, Nat.reduceLT, Nat.reduceEqDiff, reduceIte, reduceCtorEq, Nat.reduceMul, Nat.reduceAdd, Nat.reduceSub, Int.reduceEq, Int.reduceLT, Int.reduceLE, Int.reduceNeg, Int.reduceAdd, Int.reduceSub, Int.reduceMul, Nat.reduceLeDiff, Int.reduceToNat])
                  exact ⟨k, by omega, q2⟩
                · rw [if_neg h6'] at q2
                  (repeat (first | (with_reducible first | (refine hK _ _ ?_; clear hK K) | refine (show ∀ σ' w', _ → K σ' w' from by assumption) _ _ ?_ | refine W_seq_k fun K hK => ?_ | refine W_block_k fun K hK => ?_ | refine W_skip ?_ | refine W_ret ?_) | ((first | ((with_reducible refine W_id ?_); refine W_reg (by decide) (by rfl) ?_) | (with_reducible first | refine W_cond ?_ | refine hZ _ _ ?_ | refine W_exit ?_ | refine Wo_id ?_)); repeat1' simp only [push_cast, Nat.reduceBEq, Nat.reduceLT, Nat.reduceEqDiff, reduceIte, reduceCtorEq, Nat.reduceMul, Nat.reduceAdd, Nat.reduceSub, Int.reduceEq, Int.reduceLT, Int.reduceLE, Int.reduceNeg, Int.reduceAdd, Int.reduceSub, Int.reduceMul, Nat.reduceLeDiff, Int.reduceToNat, ht0, r0, r1, r3, g0, h6', g6, r2]) | ((repeat ((fail_if_success with_reducible refine hK _ _ ?_); clear hK K)); (with_reducible refine hK _ _ ?_); clear hK K)))
                  refine ⟨((gN L t).parent, st + 1), by simp only; omega, ?_⟩
                  (repeat simp only [push_cast, Nat.reduceBEq, Nat.reduceLT, Nat.reduceEqDiff, reduceIte, reduceCtorEq, Nat.reduceMul, Nat.reduceAdd, Nat.reduceSub, Int.reduceEq, Int.reduceLT, Int.reduceLE, Int.reduceNeg, Int.reduceAdd, Int.reduceSub, Int.reduceMul, Nat.reduceLeDiff, Int.reduceToNat])
                  exact ⟨k, by omega, q2⟩
            · (repeat (first | (with_reducible first | (refine hK _ _ ?_; clear hK K) | refine (show ∀ σ' w', _ → K σ' w' from by assumption) _ _ ?_ | refine W_seq_k fun K hK => ?_ | refine W_block_k fun K hK => ?_ | refine W_skip ?_ | refine W_ret ?_) | ((first | ((with_reducible refine W_id ?_); refine W_reg (by decide) (by rfl) ?_) | (with_reducible first | refine W_cond ?_ | refine hZ _ _ ?_ | refine W_exit ?_ | refine Wo_id ?_)); repeat1' simp only [push_cast, Nat.reduceBEq, Nat.reduceLT, Nat.reduceEqDiff, reduceIte, reduceCtorEq, Nat.reduceMul, Nat.reduceAdd, Nat.reduceSub, Int.reduceEq, Int.reduceLT, Int.reduceLE, Int.reduceNeg, Int.reduceAdd, Int.reduceSub, Int.reduceMul, Nat.reduceLeDiff, Int.reduceToNat, ht0, b3]) | ((repeat ((fail_if_success with_reducible refine hK _ _ ?_); clear hK K)); (with_reducible refine hK _ _ ?_); clear hK K)))
              refine ⟨i + 1, by omega, ?_⟩
              (repeat simp only [push_cast, Nat.reduceBEq, Nat.reduceLT, Nat.reduceEqDiff, reduceIte, reduceCtorEq, Nat.reduceMul, Nat.reduceAdd, Nat.reduceSub, Int.reduceEq, Int.reduceLT, Int.reduceLE, Int.reduceNeg, Int.reduceAdd, Int.reduceSub, Int.reduceMul, Nat.reduceLeDiff, Int.reduceToNat])
              omega
      · have hf0 : f i = 1 := by rw [hfi]; exact if_pos (by omega)
        rw [hf0] at e2
        have b4 : ¬ (T.length : Int) ≤ (gN L i).parent := by omega
        have hk := hknd (by omega)
        have h1 : ¬ (gN L i).kind = 1 := fun e => by rw [e] at hk; simp [kidK] at hk
        have h6 : ¬ (gN L i).kind = 6 := fun e => by rw [e] at hk; simp [kidK] at hk
        have hi0 : ¬ (i : Int) = 0 := fun e => h1 (by rw [e]; exact hdoc)
        (repeat (first | (with_reducible first | (refine hK _ _ ?_; clear hK K) | refine (show ∀ σ' w', _ → K σ' w' from by assumption) _ _ ?_ | refine W_seq_k fun K hK => ?_ | refine W_block_k fun K hK => ?_ | refine W_skip ?_ | refine W_ret ?_) | ((first | ((with_reducible refine W_id ?_); refine W_reg (by decide) (by rfl) ?_) | (with_reducible first | refine W_cond ?_ | refine hZ _ _ ?_ | refine W_exit ?_ | refine Wo_id ?_)); repeat1' simp only [push_cast, Nat.reduceBEq, Nat.reduceLT, Nat.reduceEqDiff, reduceIte, reduceCtorEq, Nat.reduceMul, Nat.reduceAdd, Nat.reduceSub, Int.reduceEq, Int.reduceLT, Int.reduceLE, Int.reduceNeg, Int.reduceAdd, Int.reduceSub, Int.reduceMul, Nat.reduceLeDiff, Int.reduceToNat, b1, b2, c0, c6, e2, b4, hp, hi0, h1, h6, not_true_eq_false, not_false_eq_true, beq_self_eq_true]) | ((repeat ((fail_if_success with_reducible refine hK _ _ ?_); clear hK K)); (with_reducible refine hK _ _ ?_); clear hK K)))
        refine W_loop (S := Int × Nat) (fun s => [(0, .slice (some ⟨b, o, none⟩) T.length c), (3, .slice (some ⟨w.heap.size, 0, none⟩) T.length T.length), (7, .int .i64 (i : Int)), (9, .int .i64 s.1), (10, .int .i64 (s.2 : Int))])
          (fun s w4 => ∃ k, s.2 + k = T.length ∧ dn L.length (upN L) k s.1 = true ∧ w4 = w2) (fun s => T.length - s.2) ((i : Int), 0) ?_ ?_ ?_
        · (repeat simp only [push_cast, Nat.reduceBEq, Nat.reduceLT, Nat.reduceEqDiff, reduceIte, reduceCtorEq, Nat.reduceMul, Nat.reduceAdd, Nat.reduceSub, Int.reduceEq, Int.reduceLT, Int.reduceLE, Int.reduceNeg, Int.reduceAdd, Int.reduceSub, Int.reduceMul, Nat.reduceLeDiff, Int.reduceToNat])
        · exact ⟨L.length, by omega, hdown, rfl⟩
        rintro ⟨t, st⟩ w4 ⟨k, hks, hdn, hw⟩
        subst w4
        simp only at hks hdn ⊢
        by_cases ht0 : 0 ≤ t
        · obtain ⟨t, rfl⟩ : ∃ x : Nat, t = x := ⟨t.toNat, by omega⟩
          cases k with
          | zero => simp [dn] at hdn; omega
          | succ k =>
            obtain ⟨q1, q2⟩ := dn_step hdn ht0
            rw [upN_g] at q2
            obtain ⟨mt, hmt, hmtn⟩ := nod t (by omega)
            have g0 := hT2.get hmt (j := 0) (by decide)
            have g6 := hT2.get hmt (j := 6) (by decide)
            simp only [Laid.cells, List.getElem?_cons_zero, List.getElem?_cons_succ, hmtn, Nat.add_zero] at g0 g6
            have r0 : inI64 (2 * (T.length : Int)) := by unfold inI64; omega
            have r1 : ¬ 2 * (T.length : Int) < (st : Int) := by omega
            have r2 : inI64 ((st : Int) + 1) := by unfold inI64; omega
            have r3 : (t : Int) < (T.length : Int) := by omega
            have r4 : inI64 ((t : Int) - 1) := by unfold inI64; omega
            by_cases h6' : (gN L t).kind = 6
            · rw [if_pos h6'] at q2
              rw [h6'] at g0
              (repeat (first | (with_reducible first | (refine hK _ _ ?_; clear hK K) | refine (show ∀ σ' w', _ → K σ' w' from by assumption) _ _ ?_ | refine W_seq_k fun K hK => ?_ | refine W_block_k fun K hK => ?_ | refine W_skip ?_ | refine W_ret ?_) | ((first | ((with_reducible refine W_id ?_); refine W_reg (by decide) (by rfl) ?_) | (with_reducible first | refine W_cond ?_ | refine hZ _ _ ?_ | refine W_exit ?_ | refine Wo_id ?_)); repeat1' simp only [push_cast, Nat.reduceBEq, Nat.reduceLT, Nat.reduceEqDiff, reduceIte, reduceCtorEq, Nat.reduceMul, Nat.reduceAdd, Nat.reduceSub, Int.reduceEq, Int.reduceLT, Int.reduceLE, Int.reduceNeg, Int.reduceAdd, Int.reduceSub, Int.reduceMul, Nat.reduceLeDiff, Int.reduceToNat, ht0, r0, r1, r3, g0, r4, r2]) | ((repeat ((fail_if_success with_reducible refine hK _ _ ?_); clear hK K)); (with_reducible refine hK _ _ ?_); clear hK K)))
              refine ⟨((t : Int) - 1, st + 1), by simp only; omega, ?_⟩
              (repeat simp only [push_cast, Nat.reduceBEq, Nat.reduceLT, Nat.reduceEqDiff, reduceIte, reduceCtorEq, Nat.reduceMul, Nat.reduceAdd, Nat.reduceSub, Int.reduceEq, Int.reduceLT, Int.reduceLE, Int.reduceNeg, Int.reduceAdd, Int.reduceSub, Int.reduceMul, Nat.reduceLeDiff, Int.reduceToNat])
              exact ⟨k, by omega, q2⟩
            · rw [if_neg h6'] at q2
              (repeat (first | (with_reducible first | (refine hK _ _ ?_; clear hK K) | refine (show ∀ σ' w', _ → K σ' w' from by assumption) _ _ ?_ | refine W_seq_k fun K hK => ?_ | refine W_block_k fun K hK => ?_ | refine W_skip ?_ | refine W_ret ?_) | ((first | ((with_reducible refine W_id ?_); refine W_reg (by decide) (by rfl) ?_) | (with_reducible first | refine W_cond ?_ | refine hZ _ _ ?_ | refine W_exit ?_ | refine Wo_id ?_)); repeat1' simp only [push_cast, Nat.reduceBEq, Nat.reduceLT, Nat.reduceEqDiff, reduceIte, reduceCtorEq, Nat.reduceMul, Nat.reduceAdd, Nat.reduceSub, Int.reduceEq, Int.reduceLT, Int.reduceLE, Int.reduceNeg, Int.reduceAdd, Int.reduceSub, Int.reduceMul, Nat.reduceLeDiff, Int.reduceToNat, ht0, r0, r1, r3, g0, h6', g6, r2]) | ((repeat ((fail_if_success with_reducible refine hK _ _ ?_); clear hK K)); (with_reducible refine hK _ _ ?_); clear hK K)))
              refine ⟨((gN L t).parent, st + 1), by simp only; omega, ?_⟩
              (repeat simp only [push_cast, Nat.reduceBEq, Nat.reduceLT, Nat.reduceEqDiff, reduceIte, reduceCtorEq, Nat.reduceMul, Nat.reduceAdd, Nat.reduceSub, Int.reduceEq, Int.reduceLT, Int.reduceLE, Int.reduceNeg, Int.reduceAdd, Int.reduceSub, Int.reduceMul, Nat.reduceLeDiff, Int.reduceToNat])
              exact ⟨k, by omega, q2⟩
        · (repeat (first | (with_reducible first | (refine hK _ _ ?_; clear hK K) | refine (show ∀ σ' w', _ → K σ' w' from by assumption) _ _ ?_ | refine W_seq_k fun K hK => ?_ | refine W_block_k fun K hK => ?_ | refine W_skip ?_ | refine W_ret ?_) | ((first | ((with_reducible refine W_id ?_); refine W_reg (by decide) (by rfl) ?_) | (with_reducible first | refine W_cond ?_ | refine hZ _ _ ?_ | refine W_exit ?_ | refine Wo_id ?_)); repeat1' simp only [push_cast, Nat.reduceBEq, Nat.reduceLT, Nat.reduceEqDiff, reduceIte, reduceCtorEq, Nat.reduceMul, Nat.reduceAdd, Nat.reduceSub, Int.reduceEq, Int.reduceLT, Int.reduceLE, Int.reduceNeg, Int.reduceAdd, Int.reduceSub, Int.reduceMul, Nat.reduceLeDiff, Int.reduceToNat, ht0, b3]) | ((repeat ((fail_if_success with_reducible refine hK _ _ ?_); clear hK K)); (with_reducible refine hK _ _ ?_); clear hK K)))
          refine ⟨i + 1, by omega, ?_⟩
          (repeat simp only [push_cast, Nat.reduceBEq, Nat.reduceLT, Nat.reduceEqDiff, reduceIte, reduceCtorEq, Nat.reduceMul, Nat.reduceAdd, Nat.reduceSub, Int.reduceEq, Int.reduceLT, Int.reduceLE, Int.reduceNeg, Int.reduceAdd, Int.reduceSub, Int.reduceMul, Nat.reduceLeDiff, Int.reduceToNat])
          omega
    · have hie : i = T.length := by omega
      subst hie
      (repeat (first | (with_reducible first | (refine hK _ _ ?_; clear hK K) | refine (show ∀ σ' w', _ → K σ' w' from by assumption) _ _ ?_ | refine W_seq_k fun K hK => ?_ | refine W_block_k fun K hK => ?_ | refine W_skip ?_ | refine W_ret ?_) | ((first | ((with_reducible refine W_id ?_); refine W_reg (by decide) (by rfl) ?_) | (with_reducible first | refine W_cond ?_ | refine hZ _ _ ?_ | refine W_exit ?_ | refine Wo_id ?_)); repeat1' simp only [push_cast, Nat.reduceBEq, Nat.reduceLT, Nat.reduceEqDiff, reduceIte, reduceCtorEq, Nat.reduceMul, Nat.reduceAdd, Nat.reduceSub, Int.reduceEq, Int.reduceLT, Int.reduceLE, Int.reduceNeg, Int.reduceAdd, Int.reduceSub, Int.reduceMul, Nat.reduceLeDiff, Int.reduceToNat, b0]) | ((repeat ((fail_if_success with_reducible refine hK _ _ ?_); clear hK K)); (with_reducible refine hK _ _ ?_); clear hK K)))
      exact hx2
end Go.Proofs.Ytkafpameheohdaa
