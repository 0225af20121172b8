/- slices.Insert, of one number. -/
import Derived.Test.YtkafpameheohdaaHd
import Derived.Test.YtkafpameheohdaaDl
set_option linter.unusedSimpArgs false
set_option linter.unusedVariables false
namespace Go.Vk
open Go
theorem SlAt.write {w : World} {b o n c : Nat} {cells : List Value} {bo : Option Nat} (h : SlAt w 1 (.slice (some ⟨b, o, none⟩) n c) cells bo) {q : Nat} (xs : List Value) (hq : q + xs.length ≤ n) :
    SlAt (setCells w ⟨b, o + q, none⟩ xs 0) 1 (.slice (some ⟨b, o, none⟩) n c) (cells.take q ++ xs ++ cells.drop (q + xs.length)) bo := by
  obtain ⟨g1, g3, g4, cs, t, g5, g6, g7⟩ := h.inv
  refine .inr ⟨b, o, n, c, ovw cs (o + q + 0) xs, t, g1, rfl, g3, by simp; omega, g5.sets xs (o + q) 0, by rw [ovw_size]; exact g6, fun i hi => ?_⟩
  have hlen : i < n := by simp at hi; omega
  rw [Nat.add_zero]
  have hqt : (cells.take q).length = q := by rw [List.length_take]; omega
  by_cases h1 : i < q
  · rw [ovw_out _ _ _ _ (.inl (by omega)), g7 i (by omega), List.append_assoc, List.getElem?_append_left (by omega), List.getElem?_take, if_pos h1]
  · by_cases h2 : i < q + xs.length
    · have := ovw_in xs cs (o + q) (i - q) (by omega) (by omega)
      rw [show o + q + (i - q) = o + i by omega] at this
      rw [this, List.getElem?_append_left (by rw [List.length_append]; omega), List.getElem?_append_right (by omega), hqt]
    · rw [ovw_out _ _ _ _ (.inr (by omega)), g7 i (by omega), List.getElem?_append_right (by rw [List.length_append]; omega), List.getElem?_drop, List.length_append, hqt, show q + xs.length + (i - (q + xs.length)) = i by omega]
/-- one place more of what a slice has room for -/
theorem SlAt.longer {w : World} {b o n c : Nat} {cells : List Value} {bo : Option Nat} (h : SlAt w 1 (.slice (some ⟨b, o, none⟩) n c) cells bo) (hc : n + 1 ≤ c) : ∃ u, SlAt w 1 (.slice (some ⟨b, o, none⟩) (n + 1) c) (cells ++ [u]) bo := by
  obtain ⟨g1, g3, g4, cs, t, g5, g6, g7⟩ := h.inv
  have hlt : o + n < cs.size := by omega
  refine ⟨cs[o + n], .inr ⟨b, o, n + 1, c, cs, t, g1, rfl, hc, by simp; omega, g5, g6, fun i hi => ?_⟩⟩
  simp only [List.length_append, List.length_singleton] at hi
  by_cases h1 : i < cells.length
  · rw [g7 i h1, List.getElem?_append_left h1]
  · have : i = n := by omega
    subst this
    rw [List.getElem?_append_right (by omega), Array.getElem?_eq_getElem hlt, show i - cells.length = 0 by omega]
    rfl
theorem copy_cut {P : Program} {t e ty t2 : Nat} (hT : P.underlying t = some (.slice e)) (hs : ∀ w, (sizeOf e).run P w = .ok 1 w) {w : World} {b o n c : Nat} {x : Value} {c2 : List Value} {k : Nat}
    (h2 : RdAt w 1 x c2) (ho : (c2.take k).all oneCell = true) (hk : k = min c2.length n) (hc : ∀ j, j < k → canStore w ⟨b, o + j, none⟩) {K : Value → World → Prop}
    (h : K (.int .i64 (k : Int)) (setCells w ⟨b, o, none⟩ (c2.take k) 0)) : RunV P (Builtin.copy_ #[t, t2] ty #[.slice (some ⟨b, o, none⟩) n c, x]) w K := by
  have h2' := h2
  obtain ⟨a2, n2, k2, rfl, hk2, hc2, _⟩ := h2'
  rw [Nat.mul_one] at hc2
  have hf2 := firstCells_take (P := P) (m := k) (n' := n2) (c' := k2) h2 (by omega)
  have hst := run_storeCells (P := P) (a := ⟨b, o, none⟩) (c2.take k) 0 w ho (fun j _ hj => by rw [add_mk]; exact hc j (by rw [List.length_take] at hj; omega))
  refine .of (w' := setCells w ⟨b, o, none⟩ (c2.take k) 0) ?_ h
  have hm : Nat.min n2 n = k := by rw [hk, hc2]
  simp [Builtin.copy_, run_underlying hT, hs, Builtin.lenOf, hm, hf2, hst, goInt]
theorem ins_grow (l : List Value) (x z : Value) (k n : Nat) (hk : k < n) (hl : l.length = n) :
    ((l.take k ++ List.replicate (n + 1 - k) z).take k ++ [x] ++ (l.take k ++ List.replicate (n + 1 - k) z).drop (k + 1)).take (k + 1) ++ l.drop k ++ ((l.take k ++ List.replicate (n + 1 - k) z).take k ++ [x] ++ (l.take k ++ List.replicate (n + 1 - k) z).drop (k + 1)).drop (k + 1 + (l.drop k).length) = l.take k ++ x :: l.drop k := by
  have hlt : (l.take k).length = k := by rw [List.length_take]; omega
  have e1 : (l.take k ++ List.replicate (n + 1 - k) z).take k = l.take k := by
    rw [List.take_append_of_le_length (by omega), List.take_take, Nat.min_self]
  rw [e1]
  have hl1 : (l.take k ++ [x]).length = k + 1 := by rw [List.length_append, hlt]; rfl
  have e2 : (l.take k ++ [x] ++ (l.take k ++ List.replicate (n + 1 - k) z).drop (k + 1)).take (k + 1) = l.take k ++ [x] := by
    rw [List.take_append_of_le_length (by omega), List.take_of_length_le (by omega)]
  have e3 : (l.take k ++ [x] ++ (l.take k ++ List.replicate (n + 1 - k) z).drop (k + 1)).drop (k + 1 + (l.drop k).length) = [] :=
    List.drop_eq_nil_of_le (by simp only [List.length_append, List.length_take, List.length_drop, List.length_replicate, List.length_singleton, hl]; omega)
  rw [e2, e3]
  simp
theorem ins_here (l : List Value) (x u : Value) (k n : Nat) (hk : k < n) (hl : l.length = n) :
    (((l ++ [u]).take (k + 1) ++ l.drop k ++ (l ++ [u]).drop (k + 1 + (l.drop k).length)).take k ++ [x] ++ ((l ++ [u]).take (k + 1) ++ l.drop k ++ (l ++ [u]).drop (k + 1 + (l.drop k).length)).drop (k + 1)) = l.take k ++ x :: l.drop k := by
  have hd : (l.drop k).length = n - k := by rw [List.length_drop]; omega
  have e0 : (l ++ [u]).take (k + 1) = l.take (k + 1) := List.take_append_of_le_length (by omega)
  have hlt : (l.take (k + 1)).length = k + 1 := by rw [List.length_take]; omega
  have e3 : (l ++ [u]).drop (k + 1 + (l.drop k).length) = [] := List.drop_eq_nil_of_le (by simp only [List.length_append, List.length_take, List.length_drop, List.length_replicate, List.length_singleton, hl]; omega)
  rw [e0, e3, List.append_nil]
  have e1 : (l.take (k + 1) ++ l.drop k).take k = l.take k := by
    rw [List.take_append_of_le_length (by omega), List.take_take, Nat.min_eq_left (by omega)]
  have e2 : (l.take (k + 1) ++ l.drop k).drop (k + 1) = l.drop k := by
    rw [List.drop_append_of_le_length (by omega), List.drop_eq_nil_of_le (by omega), List.nil_append]
  rw [e1, e2]; simp
end Go.Vk
namespace Go.Proofs.Ytkafpameheohdaa
open Go Go.Vk
set_option maxHeartbeats 40000000
theorem insert_c {w : World} {v : Value} {l : List Int} {bo : Option Nat} (h : SlAt w 1 v (intCells l) bo) (hl : l.length < 100000) {bx : Nat} {x : Int} (hx : w.heap[bx]? = some (.cells #[.int .i64 x] 3 (0, 0))) (hne : bo ≠ some bx) (k : Nat) (hk : k ≤ l.length) :
    Gives Try.prog 88 #[v, .int .i64 (k : Int), .slice (some ⟨bx, 0, none⟩) 1 1] w fun u w' => ∃ bo', SlAt w' 1 u (intCells (l.take k ++ x :: l.drop k)) bo' ∧ Upd (fun b => bo = some b) w w' ∧ ∀ b, bo' = some b → bo = some b ∨ w.heap.size ≤ b := by
  have hxs : SlAt w 1 (.slice (some ⟨bx, 0, none⟩) 1 1) (intCells [x]) (some bx) := .inr ⟨bx, 0, 1, 1, _, 3, rfl, rfl, Nat.le_refl _, rfl, .of hx, by simp, fun i hi => by
    have : i = 0 := by simp [intCells] at hi; omega
    subst this; rfl⟩
  obtain ⟨a, c, rfl, hc⟩ := h.ints_len
  have s1 : (0 : Int) ≤ k := by omega
  have s2 : (k : Int) ≤ (l.length : Int) := by omega
  have s3 : (l.length : Int) ≤ c := by omega
  have s4 : (k : Int) ≤ c := by omega
  have s5 : ((1 : Int) = 0) = False := by decide
  by_cases hkl : k = l.length
  · subst hkl
    refine Gives.of_W Try.call88 Try.func88 rfl Try.ntmps88 (by simp) ?_; intro Z hZ
    (repeat (first | (with_reducible first | (refine hK _ _ ?_; clear hK K) | refine (show ∀ σ' w', _ → K σ' w' from by assumption) _ _ ?_ | refine W_seq_k fun K hK => ?_ | refine W_block_k fun K hK => ?_ | refine W_skip ?_ | refine W_ret ?_) | ((first | ((with_reducible refine W_id ?_); refine W_reg (by decide) (by rfl) ?_) | (with_reducible first | refine W_cond ?_ | refine hZ _ _ ?_ | refine W_exit ?_ | refine Wo_id ?_)); repeat1' simp only [push_cast, Nat.reduceBEq, Nat.reduceLT, Nat.reduceEqDiff, reduceIte, reduceCtorEq, Nat.reduceMul, Nat.reduceAdd, Nat.reduceSub, Int.reduceEq, Int.reduceLT, Int.reduceLE, Int.reduceNeg, Int.reduceAdd, Int.reduceSub, Int.reduceMul, Nat.reduceLeDiff, Int.reduceToNat, s1, s2, s3, s4, s5, Int.le_refl]) | ((repeat ((fail_if_success with_reducible refine hK _ _ ?_); clear hK K)); (with_reducible refine hK _ _ ?_); clear hK K)))
    refine app_to sty28 sty28.und (by decide) h hxs (intCells_one _) (by rw [intCells_length]; simp [intCells]; omega) ?_
    intro v' w' bo' g1 g2 g3
    rw [← intCells_append] at g1
    ((repeat simp only [push_cast, Nat.reduceBEq, Nat.reduceLT, Nat.reduceEqDiff, reduceIte, reduceCtorEq, Nat.reduceMul, Nat.reduceAdd, Nat.reduceSub, Int.reduceEq, Int.reduceLT, Int.reduceLE, Int.reduceNeg, Int.reduceAdd, Int.reduceSub, Int.reduceMul, Nat.reduceLeDiff, Int.reduceToNat]); (repeat (first | (with_reducible first | (refine hK _ _ ?_; clear hK K) | refine (show ∀ σ' w', _ → K σ' w' from by assumption) _ _ ?_ | refine W_seq_k fun K hK => ?_ | refine W_block_k fun K hK => ?_ | refine W_skip ?_ | refine W_ret ?_) | ((first | ((with_reducible refine W_id ?_); refine W_reg (by decide) (by rfl) ?_) | (with_reducible first | refine W_cond ?_ | refine hZ _ _ ?_ | refine W_exit ?_ | refine Wo_id ?_)); repeat1' simp only [push_cast, Nat.reduceBEq, Nat.reduceLT, Nat.reduceEqDiff, reduceIte, reduceCtorEq, Nat.reduceMul, Nat.reduceAdd, Nat.reduceSub, Int.reduceEq, Int.reduceLT, Int.reduceLE, Int.reduceNeg, Int.reduceAdd, Int.reduceSub, Int.reduceMul, Nat.reduceLeDiff, Int.reduceToNat]) | ((repeat ((fail_if_success with_reducible refine hK _ _ ?_); clear hK K)); (with_reducible refine hK _ _ ?_); clear hK K))))
    rw [List.take_length, List.drop_length]
    exact ⟨bo', g1, g2, g3⟩
  · have hlt : k < l.length := by omega
    obtain ⟨b, o, n0, c0, e0, hbo⟩ := h.some_of (kids_ne hlt)
    cases e0
    obtain ⟨_, _, _, cs, ct, hHB, hcs, _⟩ := h.inv
    have hbx : b ≠ bx := fun e => hne (by rw [hbo, e])
    generalize hn : l.length = n at *
    have s6 : ((k : Int) = (n : Int)) = False := eq_false (by omega)
    have s7 : inI64 ((n : Int) + 1) := by unfold inI64; omega
    have s8 : inI64 ((n : Int) + 1 - k) := by unfold inI64; omega
    have s9 : inI64 ((k : Int) + 1) := by unfold inI64; omega
    have s10 : (0 : Int) ≤ (k : Int) + 1 := by omega
    have s11 : ((k : Int) + 1).toNat = k + 1 := by omega
    have s12 : (0 : Int) ≤ (n : Int) + 1 := by omega
    have s13 : ((n : Int) + 1).toNat = n + 1 := by omega
    have s14 : (k : Int) ≤ (n : Int) + 1 := by omega
    have s15 : (k : Int) + 1 ≤ (n : Int) + 1 := by omega
    by_cases hroom : n + 1 ≤ c
    · have r1 : ¬ (c : Int) < (n : Int) + 1 := by omega
      have r2 : (n : Int) + 1 ≤ c := by omega
      obtain ⟨u, hu⟩ := h.longer hroom
      refine Gives.of_W Try.call88 Try.func88 rfl Try.ntmps88 (by simp) ?_; intro Z hZ
      (repeat (first | (with_reducible first | (refine hK _ _ ?_; clear hK K) | refine (show ∀ σ' w', _ → K σ' w' from by assumption) _ _ ?_ | refine W_seq_k fun K hK => ?_ | refine W_block_k fun K hK => ?_ | refine W_skip ?_ | refine W_ret ?_) | ((first | ((with_reducible refine W_id ?_); refine W_reg (by decide) (by rfl) ?_) | (with_reducible first | refine W_cond ?_ | refine hZ _ _ ?_ | refine W_exit ?_ | refine Wo_id ?_)); repeat1' simp only [push_cast, Nat.reduceBEq, Nat.reduceLT, Nat.reduceEqDiff, reduceIte, reduceCtorEq, Nat.reduceMul, Nat.reduceAdd, Nat.reduceSub, Int.reduceEq, Int.reduceLT, Int.reduceLE, Int.reduceNeg, Int.reduceAdd, Int.reduceSub, Int.reduceMul, Nat.reduceLeDiff, Int.reduceToNat, s1, s2, s3, s4, s5, s6, s7, Int.le_refl]) | ((repeat ((fail_if_success with_reducible refine hK _ _ ?_); clear hK K)); (with_reducible refine hK _ _ ?_); clear hK K)))
      refine cap_part sty28.und ?_
      have z0 : (c = 0) = False := eq_false (by omega)
      have z1 : (c = k) = False := eq_false (by omega)
      have z2 : (c = k + 1) = False := eq_false (by omega)
      have hHB' := hHB
      obtain ⟨f, hf, hbk⟩ := hHB'
      have hsb : w.shape? b = some (ct, cs.size) := by simp [World.shape?, hbk]
      have hsx : w.shape? bx = some (3, 1) := by simp [World.shape?, hx]
      have hfa : w.frozen? ⟨bx, 0, none⟩ = false := by rw [froz_h, hx]; rfl
      have hfe : w.frozen? ⟨bx, 1, none⟩ = false := by rw [froz_h, hx]; rfl
      ((repeat simp only [push_cast, Nat.reduceBEq, Nat.reduceLT, Nat.reduceEqDiff, reduceIte, reduceCtorEq, Nat.reduceMul, Nat.reduceAdd, Nat.reduceSub, Int.reduceEq, Int.reduceLT, Int.reduceLE, Int.reduceNeg, Int.reduceAdd, Int.reduceSub, Int.reduceMul, Nat.reduceLeDiff, Int.reduceToNat, r1, r2, s7, s9, s10, s11, s12, s13, s14, s15, z0, z1, z2, Nat.sub_zero, Int.sub_zero, Option.map_some]); (repeat (first | (with_reducible first | (refine hK _ _ ?_; clear hK K) | refine (show ∀ σ' w', _ → K σ' w' from by assumption) _ _ ?_ | refine W_seq_k fun K hK => ?_ | refine W_block_k fun K hK => ?_ | refine W_skip ?_ | refine W_ret ?_) | ((first | ((with_reducible refine W_id ?_); refine W_reg (by decide) (by rfl) ?_) | (with_reducible first | refine W_cond ?_ | refine hZ _ _ ?_ | refine W_exit ?_ | refine Wo_id ?_)); repeat1' simp only [push_cast, Nat.reduceBEq, Nat.reduceLT, Nat.reduceEqDiff, reduceIte, reduceCtorEq, Nat.reduceMul, Nat.reduceAdd, Nat.reduceSub, Int.reduceEq, Int.reduceLT, Int.reduceLE, Int.reduceNeg, Int.reduceAdd, Int.reduceSub, Int.reduceMul, Nat.reduceLeDiff, Int.reduceToNat, r1, r2, s7, s9, s10, s11, s12, s13, s14, s15, z0, z1, z2, Nat.sub_zero, Int.sub_zero, Option.map_some]) | ((repeat ((fail_if_success with_reducible refine hK _ _ ?_); clear hK K)); (with_reducible refine hK _ _ ?_); clear hK K))))
      refine (overlaps_c (a := ⟨bx, 0, none⟩) (b := ⟨b, o + (k + 1), none⟩) rfl rfl (fun e => hbx e.symm) hsx hsb (by omega) hfa hfe).mono ?_
      rintro v' w' ⟨rfl, rfl⟩
      ((repeat simp only [push_cast, Nat.reduceBEq, Nat.reduceLT, Nat.reduceEqDiff, reduceIte, reduceCtorEq, Nat.reduceMul, Nat.reduceAdd, Nat.reduceSub, Int.reduceEq, Int.reduceLT, Int.reduceLE, Int.reduceNeg, Int.reduceAdd, Int.reduceSub, Int.reduceMul, Nat.reduceLeDiff, Int.reduceToNat, s9]); (repeat (first | (with_reducible first | (refine hK _ _ ?_; clear hK K) | refine (show ∀ σ' w', _ → K σ' w' from by assumption) _ _ ?_ | refine W_seq_k fun K hK => ?_ | refine W_block_k fun K hK => ?_ | refine W_skip ?_ | refine W_ret ?_) | ((first | ((with_reducible refine W_id ?_); refine W_reg (by decide) (by rfl) ?_) | (with_reducible first | refine W_cond ?_ | refine hZ _ _ ?_ | refine W_exit ?_ | refine Wo_id ?_)); repeat1' simp only [push_cast, Nat.reduceBEq, Nat.reduceLT, Nat.reduceEqDiff, reduceIte, reduceCtorEq, Nat.reduceMul, Nat.reduceAdd, Nat.reduceSub, Int.reduceEq, Int.reduceLT, Int.reduceLE, Int.reduceNeg, Int.reduceAdd, Int.reduceSub, Int.reduceMul, Nat.reduceLeDiff, Int.reduceToNat, s9]) | ((repeat ((fail_if_success with_reducible refine hK _ _ ?_); clear hK K)); (with_reducible refine hK _ _ ?_); clear hK K))))
      refine W_draw (.pas 0 (.pas 1 (.pas 2 (.pas 3 (.pas 4 (.pas 5 (.pas 6 (.pas 7 (.tail [8]))))))))) (fun _ => False) (by decide) mixed (by kernel_rfl) ?_
      (repeat (first | ((first | refine pas_plain rfl ?_ | refine pas_g rfl rfl ?_ | refine act_plain rfl ?_ | refine act_g rfl rfl ?_ | refine last_plain rfl ?_ | refine tail_plain rfl ?_ | refine tail_g rfl rfl ?_); (repeat simp only [push_cast, Nat.reduceBEq, Nat.reduceLT, Nat.reduceEqDiff, reduceIte, reduceCtorEq, Nat.reduceMul, Nat.reduceAdd, Nat.reduceSub, Int.reduceEq, Int.reduceLT, Int.reduceLE, Int.reduceNeg, Int.reduceAdd, Int.reduceSub, Int.reduceMul, Nat.reduceLeDiff, Int.reduceToNat, s1, s2, s3, s4, r2, s9, s10, s11, s12, s13, s14, s15, z0, z1, z2, Nat.sub_zero, Int.sub_zero, Option.map_some])) | (refine tail_fin ?_) | (refine sch_fin ?_)))
      have hLl : (intCells l).length = n := by rw [intCells_length]; exact hn
      have hud := hu.ext (Ext.drew w')
      have p1 := hud.part (l := k) (k := n + 1) (m := c) (by omega) (by omega) (by omega) (by omega)
      simp only [Nat.mul_one] at p1
      have hc2l : (((intCells l ++ [u]).drop k).take (n + 1 - k)).length = n + 1 - k := by
        simp only [List.length_take, List.length_drop, List.length_append, List.length_singleton, hLl]; omega
      have e1 : (((intCells l ++ [u]).drop k).take (n + 1 - k)).take (n - k) = (intCells l).drop k := by
        rw [List.take_take, Nat.min_eq_left (by omega), List.drop_append_of_le_length (by omega), List.take_append_of_le_length (by rw [List.length_drop]; omega), List.take_of_length_le (by rw [List.length_drop]; omega)]
      have hone : (((intCells l ++ [u]).drop k).take (n - k)).all oneCell = true := by
        have e2 : ((intCells l ++ [u]).drop k).take (n - k) = (intCells l).drop k := by rw [← e1, List.take_take, Nat.min_eq_left (by omega)]
        rw [e2]
        have := intCells_one l
        rw [List.all_eq_true] at this ⊢
        exact fun y hy => this y (List.mem_of_mem_drop hy)
      have p2 : RdAt w'.drew 1 (.slice (some ⟨b, o + k, none⟩) (n + 1 - k) (c - k)) (((intCells l ++ [u]).drop k).take (n + 1 - k)) := p1.rd
      refine copy_cut sty28.und (fun w => by simp [Try.sizeOf3, Sem.run]) (k := n - k) p2 (by rw [e1]; have := intCells_one l; rw [List.all_eq_true] at this ⊢; exact fun y hy => this y (List.mem_of_mem_drop hy)) (by rw [hc2l]; omega) (fun q hq => ?_) ?_
      · have := hud.canAt (q := k + 1 + q) (by omega)
        rw [Nat.add_assoc]; exact this
      rw [e1]
      have hu1 := hud.write (q := k + 1) ((intCells l).drop k) (by rw [List.length_drop]; omega)
      have hbo' : bo = some b := hbo
      have up1 : Upd (fun b => bo = some b) w' (setCells w'.drew ⟨b, o + (k + 1), none⟩ ((intCells l).drop k) 0) :=
        Upd.trans (Ext.drew w').upd (Upd.setCells (F := fun b => bo = some b) (a := ⟨b, o + (k + 1), none⟩) w'.drew hbo' _ 0) fun _ _ h => h
      have hxs1 := hxs.upd up1 fun q hq e => hne (by rw [e]; exact hq.symm ▸ rfl)
      generalize setCells w'.drew ⟨b, o + (k + 1), none⟩ ((intCells l).drop k) 0 = w1 at *
      (repeat (first | ((first | refine pas_plain rfl ?_ | refine pas_g rfl rfl ?_ | refine act_plain rfl ?_ | refine act_g rfl rfl ?_ | refine last_plain rfl ?_ | refine tail_plain rfl ?_ | refine tail_g rfl rfl ?_); (repeat simp only [push_cast, Nat.reduceBEq, Nat.reduceLT, Nat.reduceEqDiff, reduceIte, reduceCtorEq, Nat.reduceMul, Nat.reduceAdd, Nat.reduceSub, Int.reduceEq, Int.reduceLT, Int.reduceLE, Int.reduceNeg, Int.reduceAdd, Int.reduceSub, Int.reduceMul, Nat.reduceLeDiff, Int.reduceToNat])) | (refine tail_fin ?_) | (refine sch_fin ?_)))
      ((repeat simp only [push_cast, Nat.reduceBEq, Nat.reduceLT, Nat.reduceEqDiff, reduceIte, reduceCtorEq, Nat.reduceMul, Nat.reduceAdd, Nat.reduceSub, Int.reduceEq, Int.reduceLT, Int.reduceLE, Int.reduceNeg, Int.reduceAdd, Int.reduceSub, Int.reduceMul, Nat.reduceLeDiff, Int.reduceToNat, s1, s2, s3, s4, r2, s14, s12, z0, z1, z2, Nat.sub_zero, Int.sub_zero, Option.map_some]); (repeat (first | (with_reducible first | (refine hK _ _ ?_; clear hK K) | refine (show ∀ σ' w', _ → K σ' w' from by assumption) _ _ ?_ | refine W_seq_k fun K hK => ?_ | refine W_block_k fun K hK => ?_ | refine W_skip ?_ | refine W_ret ?_) | ((first | ((with_reducible refine W_id ?_); refine W_reg (by decide) (by rfl) ?_) | (with_reducible first | refine W_cond ?_ | refine hZ _ _ ?_ | refine W_exit ?_ | refine Wo_id ?_)); repeat1' simp only [push_cast, Nat.reduceBEq, Nat.reduceLT, Nat.reduceEqDiff, reduceIte, reduceCtorEq, Nat.reduceMul, Nat.reduceAdd, Nat.reduceSub, Int.reduceEq, Int.reduceLT, Int.reduceLE, Int.reduceNeg, Int.reduceAdd, Int.reduceSub, Int.reduceMul, Nat.reduceLeDiff, Int.reduceToNat, s1, s2, s3, s4, r2, s14, s12, z0, z1, z2, Nat.sub_zero, Int.sub_zero, Option.map_some]) | ((repeat ((fail_if_success with_reducible refine hK _ _ ?_); clear hK K)); (with_reducible refine hK _ _ ?_); clear hK K))))
      refine copy_part sty28.und (fun w => by simp [Try.sizeOf3, Sem.run]) (k := 1) hxs1.rd (intCells_one _) (by simp [intCells]; omega) (fun q hq => ?_) ?_
      · have := hu1.canAt (q := k + q) (by omega)
        rw [Nat.add_assoc]; exact this
      have e3 : (intCells [x]).take 1 = [Value.int .i64 x] := rfl
      rw [e3]
      have hu2 := hu1.write (q := k) [Value.int .i64 x] (by simp; omega)
      rw [show ([Value.int .i64 x] : List Value).length = 1 from rfl, ins_here (intCells l) (.int .i64 x) u k n hlt hLl] at hu2
      have up2 : Upd (fun b => bo = some b) w' (setCells w1 ⟨b, o + k, none⟩ [.int .i64 x] 0) :=
        Upd.trans up1 (Upd.setCells (F := fun b => bo = some b) (a := ⟨b, o + k, none⟩) w1 hbo' _ 0) fun _ _ h => h
      ((repeat simp only [push_cast, Nat.reduceBEq, Nat.reduceLT, Nat.reduceEqDiff, reduceIte, reduceCtorEq, Nat.reduceMul, Nat.reduceAdd, Nat.reduceSub, Int.reduceEq, Int.reduceLT, Int.reduceLE, Int.reduceNeg, Int.reduceAdd, Int.reduceSub, Int.reduceMul, Nat.reduceLeDiff, Int.reduceToNat]); (repeat (first | (with_reducible first | (refine hK _ _ ?_; clear hK K) | refine (show ∀ σ' w', _ → K σ' w' from by assumption) _ _ ?_ | refine W_seq_k fun K hK => ?_ | refine W_block_k fun K hK => ?_ | refine W_skip ?_ | refine W_ret ?_) | ((first | ((with_reducible refine W_id ?_); refine W_reg (by decide) (by rfl) ?_) | (with_reducible first | refine W_cond ?_ | refine hZ _ _ ?_ | refine W_exit ?_ | refine Wo_id ?_)); repeat1' simp only [push_cast, Nat.reduceBEq, Nat.reduceLT, Nat.reduceEqDiff, reduceIte, reduceCtorEq, Nat.reduceMul, Nat.reduceAdd, Nat.reduceSub, Int.reduceEq, Int.reduceLT, Int.reduceLE, Int.reduceNeg, Int.reduceAdd, Int.reduceSub, Int.reduceMul, Nat.reduceLeDiff, Int.reduceToNat]) | ((repeat ((fail_if_success with_reducible refine hK _ _ ?_); clear hK K)); (with_reducible refine hK _ _ ?_); clear hK K))))
      exact ⟨bo, by have e4 : intCells (l.take k ++ x :: l.drop k) = (intCells l).take k ++ Value.int .i64 x :: (intCells l).drop k := by simp [intCells, List.map_take, List.map_drop]
                    rw [e4]; exact hu2, up2, fun b hb => .inl hb⟩
    · have r1 : (c : Int) < (n : Int) + 1 := by omega
      refine Gives.of_W Try.call88 Try.func88 rfl Try.ntmps88 (by simp) ?_; intro Z hZ
      (repeat (first | (with_reducible first | (refine hK _ _ ?_; clear hK K) | refine (show ∀ σ' w', _ → K σ' w' from by assumption) _ _ ?_ | refine W_seq_k fun K hK => ?_ | refine W_block_k fun K hK => ?_ | refine W_skip ?_ | refine W_ret ?_) | ((first | ((with_reducible refine W_id ?_); refine W_reg (by decide) (by rfl) ?_) | (with_reducible first | refine W_cond ?_ | refine hZ _ _ ?_ | refine W_exit ?_ | refine Wo_id ?_)); repeat1' simp only [push_cast, Nat.reduceBEq, Nat.reduceLT, Nat.reduceEqDiff, reduceIte, reduceCtorEq, Nat.reduceMul, Nat.reduceAdd, Nat.reduceSub, Int.reduceEq, Int.reduceLT, Int.reduceLE, Int.reduceNeg, Int.reduceAdd, Int.reduceSub, Int.reduceMul, Nat.reduceLeDiff, Int.reduceToNat, s1, s2, s3, s4, s5, s6, s7, Int.le_refl]) | ((repeat ((fail_if_success with_reducible refine hK _ _ ?_); clear hK K)); (with_reducible refine hK _ _ ?_); clear hK K)))
      refine cap_part sty28.und ?_
      ((repeat simp only [push_cast, Nat.reduceBEq, Nat.reduceLT, Nat.reduceEqDiff, reduceIte, reduceCtorEq, Nat.reduceMul, Nat.reduceAdd, Nat.reduceSub, Int.reduceEq, Int.reduceLT, Int.reduceLE, Int.reduceNeg, Int.reduceAdd, Int.reduceSub, Int.reduceMul, Nat.reduceLeDiff, Int.reduceToNat, r1, s1, s4, s7, s8]); (repeat (first | (with_reducible first | (refine hK _ _ ?_; clear hK K) | refine (show ∀ σ' w', _ → K σ' w' from by assumption) _ _ ?_ | refine W_seq_k fun K hK => ?_ | refine W_block_k fun K hK => ?_ | refine W_skip ?_ | refine W_ret ?_) | ((first | ((with_reducible refine W_id ?_); refine W_reg (by decide) (by rfl) ?_) | (with_reducible first | refine W_cond ?_ | refine hZ _ _ ?_ | refine W_exit ?_ | refine Wo_id ?_)); repeat1' simp only [push_cast, Nat.reduceBEq, Nat.reduceLT, Nat.reduceEqDiff, reduceIte, reduceCtorEq, Nat.reduceMul, Nat.reduceAdd, Nat.reduceSub, Int.reduceEq, Int.reduceLT, Int.reduceLE, Int.reduceNeg, Int.reduceAdd, Int.reduceSub, Int.reduceMul, Nat.reduceLeDiff, Int.reduceToNat, r1, s1, s4, s7, s8]) | ((repeat ((fail_if_success with_reducible refine hK _ _ ?_); clear hK K)); (with_reducible refine hK _ _ ?_); clear hK K))))
      have hLl : (intCells l).length = n := by rw [intCells_length]; exact hn
      have x1 := h.part1 (l := 0) (k := k) (m := c) (by omega) (by omega) (by omega) (by omega)
      rw [List.drop_zero] at x1
      refine app_zeros sty28 Try.underlying3 (z := .int .i64 0) (fun w => by simp [Try.zeroValue3, Sem.run]) rfl rfl x1 (n := n + 1 - k) (by omega) (by simp [hLl]; omega) ?_
      intro v1 w1 bo1 g1 g2 g3 g4
      obtain ⟨hx1, hf1, b1, o1, c1, rfl⟩ := g4 _ _ _ rfl (by omega)
      have eN : k - 0 + (n + 1 - k) = n + 1 := by omega
      rw [eN, show k - 0 = k by omega] at g1
      rw [eN]
      obtain ⟨hb1, hc1, _⟩ := g1.inv
      have t1 : (k : Int) ≤ c1 := by omega
      have t2 : (c1 = k) = False := eq_false (by omega)
      have t3 : (c1 = k + 1) = False := eq_false (by omega)
      have t4 : (n : Int) + 1 ≤ c1 := by omega
      have t5 : (c = k) = False := eq_false (by omega)
      have hxs1 := hxs.ext hx1
      have hh1 := h.ext hx1
      have hfr := hf1 b1 hb1
      ((repeat simp only [push_cast, Nat.reduceBEq, Nat.reduceLT, Nat.reduceEqDiff, reduceIte, reduceCtorEq, Nat.reduceMul, Nat.reduceAdd, Nat.reduceSub, Int.reduceEq, Int.reduceLT, Int.reduceLE, Int.reduceNeg, Int.reduceAdd, Int.reduceSub, Int.reduceMul, Nat.reduceLeDiff, Int.reduceToNat, s1, s2, s3, s4, s9, s10, s11, s12, s13, s14, s15, t1, t2, t4, Option.map_some]); (repeat (first | (with_reducible first | (refine hK _ _ ?_; clear hK K) | refine (show ∀ σ' w', _ → K σ' w' from by assumption) _ _ ?_ | refine W_seq_k fun K hK => ?_ | refine W_block_k fun K hK => ?_ | refine W_skip ?_ | refine W_ret ?_) | ((first | ((with_reducible refine W_id ?_); refine W_reg (by decide) (by rfl) ?_) | (with_reducible first | refine W_cond ?_ | refine hZ _ _ ?_ | refine W_exit ?_ | refine Wo_id ?_)); repeat1' simp only [push_cast, Nat.reduceBEq, Nat.reduceLT, Nat.reduceEqDiff, reduceIte, reduceCtorEq, Nat.reduceMul, Nat.reduceAdd, Nat.reduceSub, Int.reduceEq, Int.reduceLT, Int.reduceLE, Int.reduceNeg, Int.reduceAdd, Int.reduceSub, Int.reduceMul, Nat.reduceLeDiff, Int.reduceToNat, s1, s2, s3, s4, s9, s10, s11, s12, s13, s14, s15, t1, t2, t4, Option.map_some]) | ((repeat ((fail_if_success with_reducible refine hK _ _ ?_); clear hK K)); (with_reducible refine hK _ _ ?_); clear hK K))))
      refine copy_part sty28.und (fun w => by simp [Try.sizeOf3, Sem.run]) (k := 1) hxs1.rd (intCells_one _) (by simp [intCells]; omega) (fun q hq => ?_) ?_
      · have := g1.canAt (q := k + q) (by omega)
        rw [Nat.add_assoc]; exact this
      have e3 : (intCells [x]).take 1 = [Value.int .i64 x] := rfl
      rw [e3]
      have hu1 := g1.write (q := k) [Value.int .i64 x] (by simp; omega)
      rw [show ([Value.int .i64 x] : List Value).length = 1 from rfl] at hu1
      have hbl : ∀ q, bo = some q → q < w.heap.size := fun q hq => by rw [hq] at h; exact h.lt
      have hh2 := hh1.upd (Upd.setCells (F := fun q => q = b1) (a := ⟨b1, o1 + k, none⟩) w1 rfl [Value.int .i64 x] 0) fun q hq e => by have := hbl q hq; omega
      have hx2 : Ext w (setCells w1 ⟨b1, o1 + k, none⟩ [Value.int .i64 x] 0) := Upd.trans hx1 (Upd.setCells (F := fun q => q = b1) (a := ⟨b1, o1 + k, none⟩) w1 rfl _ 0) fun q hq e => by omega
      generalize setCells w1 ⟨b1, o1 + k, none⟩ [Value.int .i64 x] 0 = w2 at *
      ((repeat simp only [push_cast, Nat.reduceBEq, Nat.reduceLT, Nat.reduceEqDiff, reduceIte, reduceCtorEq, Nat.reduceMul, Nat.reduceAdd, Nat.reduceSub, Int.reduceEq, Int.reduceLT, Int.reduceLE, Int.reduceNeg, Int.reduceAdd, Int.reduceSub, Int.reduceMul, Nat.reduceLeDiff, Int.reduceToNat]); (repeat (first | (with_reducible first | (refine hK _ _ ?_; clear hK K) | refine (show ∀ σ' w', _ → K σ' w' from by assumption) _ _ ?_ | refine W_seq_k fun K hK => ?_ | refine W_block_k fun K hK => ?_ | refine W_skip ?_ | refine W_ret ?_) | ((first | ((with_reducible refine W_id ?_); refine W_reg (by decide) (by rfl) ?_) | (with_reducible first | refine W_cond ?_ | refine hZ _ _ ?_ | refine W_exit ?_ | refine Wo_id ?_)); repeat1' simp only [push_cast, Nat.reduceBEq, Nat.reduceLT, Nat.reduceEqDiff, reduceIte, reduceCtorEq, Nat.reduceMul, Nat.reduceAdd, Nat.reduceSub, Int.reduceEq, Int.reduceLT, Int.reduceLE, Int.reduceNeg, Int.reduceAdd, Int.reduceSub, Int.reduceMul, Nat.reduceLeDiff, Int.reduceToNat]) | ((repeat ((fail_if_success with_reducible refine hK _ _ ?_); clear hK K)); (with_reducible refine hK _ _ ?_); clear hK K))))
      refine W_draw (.pas 0 (.pas 1 (.pas 2 (.pas 3 (.pas 4 (.pas 5 (.pas 6 (.pas 7 (.tail [8]))))))))) (fun _ => False) (by decide) mixed (by kernel_rfl) ?_
      (repeat (first | ((first | refine pas_plain rfl ?_ | refine pas_g rfl rfl ?_ | refine act_plain rfl ?_ | refine act_g rfl rfl ?_ | refine last_plain rfl ?_ | refine tail_plain rfl ?_ | refine tail_g rfl rfl ?_); (repeat simp only [push_cast, Nat.reduceBEq, Nat.reduceLT, Nat.reduceEqDiff, reduceIte, reduceCtorEq, Nat.reduceMul, Nat.reduceAdd, Nat.reduceSub, Int.reduceEq, Int.reduceLT, Int.reduceLE, Int.reduceNeg, Int.reduceAdd, Int.reduceSub, Int.reduceMul, Nat.reduceLeDiff, Int.reduceToNat, s1, s2, s3, s4, s9, s10, s11, s12, s13, s14, s15, t1, t2, t3, t4, t5, Option.map_some, Int.le_refl])) | (refine tail_fin ?_) | (refine sch_fin ?_)))
      have q1 := (hh2.ext (Ext.drew w2)).part (l := k) (k := n) (m := c) (by omega) (by omega) (by omega) (by omega)
      simp only [Nat.mul_one] at q1
      have eD : ((intCells l).drop k).take (n - k) = (intCells l).drop k := List.take_of_length_le (by rw [List.length_drop]; omega)
      rw [eD] at q1
      have hdl : ((intCells l).drop k).length = n - k := by rw [List.length_drop]; omega
      have hone : ((intCells l).drop k).all oneCell = true := by
        have := intCells_one l
        rw [List.all_eq_true] at this ⊢
        exact fun y hy => this y (List.mem_of_mem_drop hy)
      have hud := hu1.ext (Ext.drew w2)
      refine copy_part sty28.und (fun w => by simp [Try.sizeOf3, Sem.run]) (k := n - k) q1.rd hone (by rw [hdl]; omega) (fun q hq => ?_) ?_
      · have := hud.canAt (q := k + 1 + q) (by omega)
        rw [Nat.add_assoc]; exact this
      rw [List.take_of_length_le (by omega)]
      have hu3 := hud.write (q := k + 1) ((intCells l).drop k) (by omega)
      rw [ins_grow (intCells l) (.int .i64 x) (.int .i64 0) k n hlt hLl] at hu3
      have hx3 : Ext w (setCells w2.drew ⟨b1, o1 + (k + 1), none⟩ ((intCells l).drop k) 0) := Upd.trans (hx2.trans (Ext.drew w2)) (Upd.setCells (F := fun q => q = b1) (a := ⟨b1, o1 + (k + 1), none⟩) w2.drew rfl _ 0) fun q hq e => by omega
      (repeat (first | ((first | refine pas_plain rfl ?_ | refine pas_g rfl rfl ?_ | refine act_plain rfl ?_ | refine act_g rfl rfl ?_ | refine last_plain rfl ?_ | refine tail_plain rfl ?_ | refine tail_g rfl rfl ?_); (repeat simp only [push_cast, Nat.reduceBEq, Nat.reduceLT, Nat.reduceEqDiff, reduceIte, reduceCtorEq, Nat.reduceMul, Nat.reduceAdd, Nat.reduceSub, Int.reduceEq, Int.reduceLT, Int.reduceLE, Int.reduceNeg, Int.reduceAdd, Int.reduceSub, Int.reduceMul, Nat.reduceLeDiff, Int.reduceToNat])) | (refine tail_fin ?_) | (refine sch_fin ?_)))
      ((repeat simp only [push_cast, Nat.reduceBEq, Nat.reduceLT, Nat.reduceEqDiff, reduceIte, reduceCtorEq, Nat.reduceMul, Nat.reduceAdd, Nat.reduceSub, Int.reduceEq, Int.reduceLT, Int.reduceLE, Int.reduceNeg, Int.reduceAdd, Int.reduceSub, Int.reduceMul, Nat.reduceLeDiff, Int.reduceToNat]); (repeat (first | (with_reducible first | (refine hK _ _ ?_; clear hK K) | refine (show ∀ σ' w', _ → K σ' w' from by assumption) _ _ ?_ | refine W_seq_k fun K hK => ?_ | refine W_block_k fun K hK => ?_ | refine W_skip ?_ | refine W_ret ?_) | ((first | ((with_reducible refine W_id ?_); refine W_reg (by decide) (by rfl) ?_) | (with_reducible first | refine W_cond ?_ | refine hZ _ _ ?_ | refine W_exit ?_ | refine Wo_id ?_)); repeat1' simp only [push_cast, Nat.reduceBEq, Nat.reduceLT, Nat.reduceEqDiff, reduceIte, reduceCtorEq, Nat.reduceMul, Nat.reduceAdd, Nat.reduceSub, Int.reduceEq, Int.reduceLT, Int.reduceLE, Int.reduceNeg, Int.reduceAdd, Int.reduceSub, Int.reduceMul, Nat.reduceLeDiff, Int.reduceToNat]) | ((repeat ((fail_if_success with_reducible refine hK _ _ ?_); clear hK K)); (with_reducible refine hK _ _ ?_); clear hK K))))
      exact ⟨bo1, by have e4 : intCells (l.take k ++ x :: l.drop k) = (intCells l).take k ++ Value.int .i64 x :: (intCells l).drop k := by simp [intCells, List.map_take, List.map_drop]
                     rw [e4]; exact hu3, hx3.upd, fun b hb => .inr (hf1 b hb)⟩
end Go.Proofs.Ytkafpameheohdaa
