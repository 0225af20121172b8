/- What the proof leans on, part 5 of 11. -/
import Derived.Test.YtgnnlaeikcnhcaaGreatDoorQAdoptPlainD
section
set_option linter.unusedSimpArgs false
set_option linter.unusedVariables false
namespace Go.Vk
open Go
theorem SlAt.write {w : World} {b o n c : Nat} {cells : List Value} {bo : Option Nat} (h : SlAt w 1 (.slice (some ⟨b, o, none⟩) n c) cells bo) {q : Nat} (xs : List Value) (hq : q + xs.length ≤ n) :
    SlAt (setCells w ⟨b, o + q, none⟩ xs 0) 1 (.slice (some ⟨b, o, none⟩) n c) (cells.take q ++ xs ++ cells.drop (q + xs.length)) bo := by
  obtain ⟨g1, g3, g4, cs, t, g5, g6, g7⟩ := h.inv
  refine .inr ⟨b, o, n, c, ovw cs (o + q + 0) xs, t, g1, rfl, g3, by simp; omega, g5.sets xs (o + q) 0, by rw [ovw_size]; exact g6, fun i hi => ?_⟩
  have hlen : i < n := by simp at hi; omega
  rw [Nat.add_zero]
  have hqt : (cells.take q).length = q := by rw [List.length_take]; omega
  by_cases h1 : i < q
  · rw [ovw_out _ _ _ _ (.inl (by omega)), g7 i (by omega), List.append_assoc, List.getElem?_append_left (by omega), List.getElem?_take, if_pos h1]
  · by_cases h2 : i < q + xs.length
    · have := ovw_in xs cs (o + q) (i - q) (by omega) (by omega)
      rw [show o + q + (i - q) = o + i by omega] at this
      rw [this, List.getElem?_append_left (by rw [List.length_append]; omega), List.getElem?_append_right (by omega), hqt]
    · rw [ovw_out _ _ _ _ (.inr (by omega)), g7 i (by omega), List.getElem?_append_right (by rw [List.length_append]; omega), List.getElem?_drop, List.length_append, hqt, show q + xs.length + (i - (q + xs.length)) = i by omega]
/-- one place more of what a slice has room for -/
theorem SlAt.longer {w : World} {b o n c : Nat} {cells : List Value} {bo : Option Nat} (h : SlAt w 1 (.slice (some ⟨b, o, none⟩) n c) cells bo) (hc : n + 1 ≤ c) : ∃ u, SlAt w 1 (.slice (some ⟨b, o, none⟩) (n + 1) c) (cells ++ [u]) bo := by
  obtain ⟨g1, g3, g4, cs, t, g5, g6, g7⟩ := h.inv
  have hlt : o + n < cs.size := by omega
  refine ⟨cs[o + n], .inr ⟨b, o, n + 1, c, cs, t, g1, rfl, hc, by simp; omega, g5, g6, fun i hi => ?_⟩⟩
  simp only [List.length_append, List.length_singleton] at hi
  by_cases h1 : i < cells.length
  · rw [g7 i h1, List.getElem?_append_left h1]
  · have : i = n := by omega
    subst this
    rw [List.getElem?_append_right (by omega), Array.getElem?_eq_getElem hlt, show i - cells.length = 0 by omega]
    rfl
theorem copy_cut {P : Program} {t e ty t2 : Nat} (hT : P.underlying t = some (.slice e)) (hs : ∀ w, (sizeOf e).run P w = .ok 1 w) {w : World} {b o n c : Nat} {x : Value} {c2 : List Value} {k : Nat}
    (h2 : RdAt w 1 x c2) (ho : (c2.take k).all oneCell = true) (hk : k = min c2.length n) (hc : ∀ j, j < k → canStore w ⟨b, o + j, none⟩) {K : Value → World → Prop}
    (h : K (.int .i64 (k : Int)) (setCells w ⟨b, o, none⟩ (c2.take k) 0)) : RunV P (Builtin.copy_ #[t, t2] ty #[.slice (some ⟨b, o, none⟩) n c, x]) w K := by
  have h2' := h2
  obtain ⟨a2, n2, k2, rfl, hk2, hc2, _⟩ := h2'
  rw [Nat.mul_one] at hc2
  have hf2 := firstCells_take (P := P) (m := k) (n' := n2) (c' := k2) h2 (by omega)
  have hst := run_storeCells (P := P) (a := ⟨b, o, none⟩) (c2.take k) 0 w ho (fun j _ hj => by rw [add_mk]; exact hc j (by rw [List.length_take] at hj; omega))
  refine .of (w' := setCells w ⟨b, o, none⟩ (c2.take k) 0) ?_ h
  have hm : Nat.min n2 n = k := by rw [hk, hc2]
  simp [Builtin.copy_, run_underlying hT, hs, Builtin.lenOf, hm, hf2, hst, goInt]
theorem ins_grow (l : List Value) (x z : Value) (k n : Nat) (hk : k < n) (hl : l.length = n) :
    ((l.take k ++ List.replicate (n + 1 - k) z).take k ++ [x] ++ (l.take k ++ List.replicate (n + 1 - k) z).drop (k + 1)).take (k + 1) ++ l.drop k ++ ((l.take k ++ List.replicate (n + 1 - k) z).take k ++ [x] ++ (l.take k ++ List.replicate (n + 1 - k) z).drop (k + 1)).drop (k + 1 + (l.drop k).length) = l.take k ++ x :: l.drop k := by
  have hlt : (l.take k).length = k := by rw [List.length_take]; omega
  have e1 : (l.take k ++ List.replicate (n + 1 - k) z).take k = l.take k := by
    rw [List.take_append_of_le_length (by omega), List.take_take, Nat.min_self]
  rw [e1]
  have hl1 : (l.take k ++ [x]).length = k + 1 := by rw [List.length_append, hlt]; rfl
  have e2 : (l.take k ++ [x] ++ (l.take k ++ List.replicate (n + 1 - k) z).drop (k + 1)).take (k + 1) = l.take k ++ [x] := by
    rw [List.take_append_of_le_length (by omega), List.take_of_length_le (by omega)]
  have e3 : (l.take k ++ [x] ++ (l.take k ++ List.replicate (n + 1 - k) z).drop (k + 1)).drop (k + 1 + (l.drop k).length) = [] :=
    List.drop_eq_nil_of_le (by simp only [List.length_append, List.length_take, List.length_drop, List.length_replicate, List.length_singleton, hl]; omega)
  rw [e2, e3]
  simp
theorem ins_here (l : List Value) (x u : Value) (k n : Nat) (hk : k < n) (hl : l.length = n) :
    (((l ++ [u]).take (k + 1) ++ l.drop k ++ (l ++ [u]).drop (k + 1 + (l.drop k).length)).take k ++ [x] ++ ((l ++ [u]).take (k + 1) ++ l.drop k ++ (l ++ [u]).drop (k + 1 + (l.drop k).length)).drop (k + 1)) = l.take k ++ x :: l.drop k := by
  have hd : (l.drop k).length = n - k := by rw [List.length_drop]; omega
  have e0 : (l ++ [u]).take (k + 1) = l.take (k + 1) := List.take_append_of_le_length (by omega)
  have hlt : (l.take (k + 1)).length = k + 1 := by rw [List.length_take]; omega
  have e3 : (l ++ [u]).drop (k + 1 + (l.drop k).length) = [] := List.drop_eq_nil_of_le (by simp only [List.length_append, List.length_take, List.length_drop, List.length_replicate, List.length_singleton, hl]; omega)
  rw [e0, e3, List.append_nil]
  have e1 : (l.take (k + 1) ++ l.drop k).take k = l.take k := by
    rw [List.take_append_of_le_length (by omega), List.take_take, Nat.min_eq_left (by omega)]
  have e2 : (l.take (k + 1) ++ l.drop k).drop (k + 1) = l.drop k := by
    rw [List.drop_append_of_le_length (by omega), List.drop_eq_nil_of_le (by omega), List.nil_append]
  rw [e1, e2]; simp
end Go.Vk
namespace Go.Proofs.YtgnnlaeikcnhcaaGreatDoor
open Go Go.Vk
set_option maxHeartbeats 40000000
theorem insert_c {w : World} {v : Value} {l : List Int} {bo : Option Nat} (h : SlAt w 1 v (intCells l) bo) (hl : l.length < 100000) {bx : Nat} {x : Int} (hx : w.heap[bx]? = some (.cells #[.int .i64 x] 3 (0, 0))) (hne : bo ≠ some bx) (k : Nat) (hk : k ≤ l.length) :
    Gives Tryz.prog 146 #[v, .int .i64 (k : Int), .slice (some ⟨bx, 0, none⟩) 1 1] w fun u w' => ∃ bo', SlAt w' 1 u (intCells (l.take k ++ x :: l.drop k)) bo' ∧ Upd (fun b => bo = some b) w w' ∧ ∀ b, bo' = some b → bo = some b ∨ w.heap.size ≤ b := by
  have hxs : SlAt w 1 (.slice (some ⟨bx, 0, none⟩) 1 1) (intCells [x]) (some bx) := .inr ⟨bx, 0, 1, 1, _, 3, rfl, rfl, Nat.le_refl _, rfl, .of hx, by simp, fun i hi => by
    have : i = 0 := by simp [intCells] at hi; omega
    subst this; rfl⟩
  obtain ⟨a, c, rfl, hc⟩ := h.ints_len
  have s1 : (0 : Int) ≤ k := by omega
  have s2 : (k : Int) ≤ (l.length : Int) := by omega
  have s3 : (l.length : Int) ≤ c := by omega
  have s4 : (k : Int) ≤ c := by omega
  have s5 : ((1 : Int) = 0) = False := by decide
  by_cases hkl : k = l.length
  · subst hkl
    refine Gives.of_W Tryz.call146 Tryz.func146 rfl Tryz.ntmps146 (by simp) ?_; intro Z hZ
    (repeat (first | (with_reducible first | (refine hK _ _ ?_; clear hK K) | refine (show ∀ σ' w', _ → K σ' w' from by assumption) _ _ ?_ | refine W_seq_k fun K hK => ?_ | refine W_block_k fun K hK => ?_ | refine W_skip ?_ | refine W_ret ?_) | ((first | ((with_reducible refine W_id ?_); refine W_reg (by decide) (by rfl) ?_) | (with_reducible first | refine W_cond ?_ | refine hZ _ _ ?_ | refine W_exit ?_ | refine Wo_id ?_) | skip); repeat1' simp only [push_cast, seval, -Nat.reduceSubDiff, s1, s2, s3, s4, s5, Int.le_refl]) | ((repeat ((fail_if_success with_reducible refine hK _ _ ?_); clear hK K)); (with_reducible refine hK _ _ ?_); clear hK K)))
    refine app_to sty28 sty28.und (by decide) h hxs (intCells_one _) (by rw [intCells_length]; simp [intCells]; omega) ?_
    intro v' w' bo' g1 g2 g3
    rw [← intCells_append] at g1
    (repeat (first | (with_reducible first | (refine hK _ _ ?_; clear hK K) | refine (show ∀ σ' w', _ → K σ' w' from by assumption) _ _ ?_ | refine W_seq_k fun K hK => ?_ | refine W_block_k fun K hK => ?_ | refine W_skip ?_ | refine W_ret ?_) | ((first | ((with_reducible refine W_id ?_); refine W_reg (by decide) (by rfl) ?_) | (with_reducible first | refine W_cond ?_ | refine hZ _ _ ?_ | refine W_exit ?_ | refine Wo_id ?_) | skip); repeat1' simp only [push_cast, seval, -Nat.reduceSubDiff]) | ((repeat ((fail_if_success with_reducible refine hK _ _ ?_); clear hK K)); (with_reducible refine hK _ _ ?_); clear hK K)))
    rw [List.take_length, List.drop_length]
    exact ⟨bo', g1, g2, g3⟩
  · have hlt : k < l.length := by omega
    obtain ⟨b, o, n0, c0, e0, hbo⟩ := h.some_of (kids_ne hlt)
    cases e0
    obtain ⟨_, _, _, cs, ct, hHB, hcs, _⟩ := h.inv
    have hbx : b ≠ bx := fun e => hne (by rw [hbo, e])
    generalize hn : l.length = n at *
    have s6 : ((k : Int) = (n : Int)) = False := eq_false (by omega)
    have s7 : inI64 ((n : Int) + 1) := by unfold inI64; omega
    have s8 : inI64 ((n : Int) + 1 - k) := by unfold inI64; omega
    have s9 : inI64 ((k : Int) + 1) := by unfold inI64; omega
    have s10 : (0 : Int) ≤ (k : Int) + 1 := by omega
    have s11 : ((k : Int) + 1).toNat = k + 1 := by omega
    have s12 : (0 : Int) ≤ (n : Int) + 1 := by omega
    have s13 : ((n : Int) + 1).toNat = n + 1 := by omega
    have s14 : (k : Int) ≤ (n : Int) + 1 := by omega
    have s15 : (k : Int) + 1 ≤ (n : Int) + 1 := by omega
    by_cases hroom : n + 1 ≤ c
    · have r1 : ¬ (c : Int) < (n : Int) + 1 := by omega
      have r2 : (n : Int) + 1 ≤ c := by omega
      obtain ⟨u, hu⟩ := h.longer hroom
      refine Gives.of_W Tryz.call146 Tryz.func146 rfl Tryz.ntmps146 (by simp) ?_; intro Z hZ
      (repeat (first | (with_reducible first | (refine hK _ _ ?_; clear hK K) | refine (show ∀ σ' w', _ → K σ' w' from by assumption) _ _ ?_ | refine W_seq_k fun K hK => ?_ | refine W_block_k fun K hK => ?_ | refine W_skip ?_ | refine W_ret ?_) | ((first | ((with_reducible refine W_id ?_); refine W_reg (by decide) (by rfl) ?_) | (with_reducible first | refine W_cond ?_ | refine hZ _ _ ?_ | refine W_exit ?_ | refine Wo_id ?_) | skip); repeat1' simp only [push_cast, seval, -Nat.reduceSubDiff, s1, s2, s3, s4, s5, s6, s7, Int.le_refl]) | ((repeat ((fail_if_success with_reducible refine hK _ _ ?_); clear hK K)); (with_reducible refine hK _ _ ?_); clear hK K)))
      refine cap_part sty28.und ?_
      have z0 : (c = 0) = False := eq_false (by omega)
      have z1 : (c = k) = False := eq_false (by omega)
      have z2 : (c = k + 1) = False := eq_false (by omega)
      have hHB' := hHB
      obtain ⟨f, hf, hbk⟩ := hHB'
      have hsb : w.shape? b = some (ct, cs.size) := by simp [World.shape?, hbk]
      have hsx : w.shape? bx = some (3, 1) := by simp [World.shape?, hx]
      have hfa : w.frozen? ⟨bx, 0, none⟩ = false := by rw [froz_h, hx]; rfl
      have hfe : w.frozen? ⟨bx, 1, none⟩ = false := by rw [froz_h, hx]; rfl
      (repeat (first | (with_reducible first | (refine hK _ _ ?_; clear hK K) | refine (show ∀ σ' w', _ → K σ' w' from by assumption) _ _ ?_ | refine W_seq_k fun K hK => ?_ | refine W_block_k fun K hK => ?_ | refine W_skip ?_ | refine W_ret ?_) | ((first | ((with_reducible refine W_id ?_); refine W_reg (by decide) (by rfl) ?_) | (with_reducible first | refine W_cond ?_ | refine hZ _ _ ?_ | refine W_exit ?_ | refine Wo_id ?_) | skip); repeat1' simp only [push_cast, seval, -Nat.reduceSubDiff, r1, r2, s7, s9, s10, s11, s12, s13, s14, s15, z0, z1, z2, Nat.sub_zero, Int.sub_zero, Option.map_some]) | ((repeat ((fail_if_success with_reducible refine hK _ _ ?_); clear hK K)); (with_reducible refine hK _ _ ?_); clear hK K)))
      refine (overlaps_c (a := ⟨bx, 0, none⟩) (b := ⟨b, o + (k + 1), none⟩) rfl rfl (fun e => hbx e.symm) hsx hsb (by omega) hfa hfe).mono ?_
      rintro v' w' ⟨rfl, rfl⟩
      (repeat (first | (with_reducible first | (refine hK _ _ ?_; clear hK K) | refine (show ∀ σ' w', _ → K σ' w' from by assumption) _ _ ?_ | refine W_seq_k fun K hK => ?_ | refine W_block_k fun K hK => ?_ | refine W_skip ?_ | refine W_ret ?_) | ((first | ((with_reducible refine W_id ?_); refine W_reg (by decide) (by rfl) ?_) | (with_reducible first | refine W_cond ?_ | refine hZ _ _ ?_ | refine W_exit ?_ | refine Wo_id ?_) | skip); repeat1' simp only [push_cast, seval, -Nat.reduceSubDiff, s9]) | ((repeat ((fail_if_success with_reducible refine hK _ _ ?_); clear hK K)); (with_reducible refine hK _ _ ?_); clear hK K)))
      refine W_draw (.pas 0 (.pas 1 (.pas 2 (.pas 3 (.pas 4 (.pas 5 (.pas 6 (.pas 7 (.tail [8]))))))))) (fun _ => False) (by decide) mixed (by kernel_rfl) ?_
      (repeat (first | ((first | refine pas_plain rfl ?_ | refine pas_g rfl rfl ?_ | refine act_plain rfl ?_ | refine act_g rfl rfl ?_ | refine last_plain rfl ?_ | refine tail_plain rfl ?_ | refine tail_g rfl rfl ?_); (repeat simp only [push_cast, seval, -Nat.reduceSubDiff, s1, s2, s3, s4, r2, s9, s10, s11, s12, s13, s14, s15, z0, z1, z2, Nat.sub_zero, Int.sub_zero, Option.map_some])) | (refine tail_fin ?_) | (refine sch_fin ?_)))
      have hLl : (intCells l).length = n := by rw [intCells_length]; exact hn
      have hud := hu.ext (Ext.drew w')
      have p1 := hud.part (l := k) (k := n + 1) (m := c) (by omega) (by omega) (by omega) (by omega)
      simp only [Nat.mul_one] at p1
      have hc2l : (((intCells l ++ [u]).drop k).take (n + 1 - k)).length = n + 1 - k := by
        simp only [List.length_take, List.length_drop, List.length_append, List.length_singleton, hLl]; omega
      have e1 : (((intCells l ++ [u]).drop k).take (n + 1 - k)).take (n - k) = (intCells l).drop k := by
        rw [List.take_take, Nat.min_eq_left (by omega), List.drop_append_of_le_length (by omega), List.take_append_of_le_length (by rw [List.length_drop]; omega), List.take_of_length_le (by rw [List.length_drop]; omega)]
      have hone : (((intCells l ++ [u]).drop k).take (n - k)).all oneCell = true := by
        have e2 : ((intCells l ++ [u]).drop k).take (n - k) = (intCells l).drop k := by rw [← e1, List.take_take, Nat.min_eq_left (by omega)]
        rw [e2]
        have := intCells_one l
        rw [List.all_eq_true] at this ⊢
        exact fun y hy => this y (List.mem_of_mem_drop hy)
      have p2 : RdAt w'.drew 1 (.slice (some ⟨b, o + k, none⟩) (n + 1 - k) (c - k)) (((intCells l ++ [u]).drop k).take (n + 1 - k)) := p1.rd
      refine copy_cut sty28.und (fun w => by simp [Tryz.sizeOf3, Sem.run]) (k := n - k) p2 (by rw [e1]; have := intCells_one l; rw [List.all_eq_true] at this ⊢; exact fun y hy => this y (List.mem_of_mem_drop hy)) (by rw [hc2l]; omega) (fun q hq => ?_) ?_
      · have := hud.canAt (q := k + 1 + q) (by omega)
        rw [Nat.add_assoc]; exact this
      rw [e1]
      have hu1 := hud.write (q := k + 1) ((intCells l).drop k) (by rw [List.length_drop]; omega)
      have hbo' : bo = some b := hbo
      have up1 : Upd (fun b => bo = some b) w' (setCells w'.drew ⟨b, o + (k + 1), none⟩ ((intCells l).drop k) 0) :=
        Upd.trans (Ext.drew w').upd (Upd.setCells (F := fun b => bo = some b) (a := ⟨b, o + (k + 1), none⟩) w'.drew hbo' _ 0) fun _ _ h => h
      have hxs1 := hxs.upd up1 fun q hq e => hne (by rw [e]; exact hq.symm ▸ rfl)
      generalize setCells w'.drew ⟨b, o + (k + 1), none⟩ ((intCells l).drop k) 0 = w1 at *
      (repeat (first | ((first | refine pas_plain rfl ?_ | refine pas_g rfl rfl ?_ | refine act_plain rfl ?_ | refine act_g rfl rfl ?_ | refine last_plain rfl ?_ | refine tail_plain rfl ?_ | refine tail_g rfl rfl ?_); (repeat simp only [push_cast, seval, -Nat.reduceSubDiff])) | (refine tail_fin ?_) | (refine sch_fin ?_)))
      (repeat (first | (with_reducible first | (refine hK _ _ ?_; clear hK K) | refine (show ∀ σ' w', _ → K σ' w' from by assumption) _ _ ?_ | refine W_seq_k fun K hK => ?_ | refine W_block_k fun K hK => ?_ | refine W_skip ?_ | refine W_ret ?_) | ((first | ((with_reducible refine W_id ?_); refine W_reg (by decide) (by rfl) ?_) | (with_reducible first | refine W_cond ?_ | refine hZ _ _ ?_ | refine W_exit ?_ | refine Wo_id ?_) | skip); repeat1' simp only [push_cast, seval, -Nat.reduceSubDiff, s1, s2, s3, s4, r2, s14, s12, z0, z1, z2, Nat.sub_zero, Int.sub_zero, Option.map_some]) | ((repeat ((fail_if_success with_reducible refine hK _ _ ?_); clear hK K)); (with_reducible refine hK _ _ ?_); clear hK K)))
      refine copy_part sty28.und (fun w => by simp [Tryz.sizeOf3, Sem.run]) (k := 1) hxs1.rd (intCells_one _) (by simp [intCells]; omega) (fun q hq => ?_) ?_
      · have := hu1.canAt (q := k + q) (by omega)
        rw [Nat.add_assoc]; exact this
      have e3 : (intCells [x]).take 1 = [Value.int .i64 x] := rfl
      rw [e3]
      have hu2 := hu1.write (q := k) [Value.int .i64 x] (by simp; omega)
      rw [show ([Value.int .i64 x] : List Value).length = 1 from rfl, ins_here (intCells l) (.int .i64 x) u k n hlt hLl] at hu2
      have up2 : Upd (fun b => bo = some b) w' (setCells w1 ⟨b, o + k, none⟩ [.int .i64 x] 0) :=
        Upd.trans up1 (Upd.setCells (F := fun b => bo = some b) (a := ⟨b, o + k, none⟩) w1 hbo' _ 0) fun _ _ h => h
      (repeat (first | (with_reducible first | (refine hK _ _ ?_; clear hK K) | refine (show ∀ σ' w', _ → K σ' w' from by assumption) _ _ ?_ | refine W_seq_k fun K hK => ?_ | refine W_block_k fun K hK => ?_ | refine W_skip ?_ | refine W_ret ?_) | ((first | ((with_reducible refine W_id ?_); refine W_reg (by decide) (by rfl) ?_) | (with_reducible first | refine W_cond ?_ | refine hZ _ _ ?_ | refine W_exit ?_ | refine Wo_id ?_) | skip); repeat1' simp only [push_cast, seval, -Nat.reduceSubDiff]) | ((repeat ((fail_if_success with_reducible refine hK _ _ ?_); clear hK K)); (with_reducible refine hK _ _ ?_); clear hK K)))
      exact ⟨bo, by have e4 : intCells (l.take k ++ x :: l.drop k) = (intCells l).take k ++ Value.int .i64 x :: (intCells l).drop k := by simp [intCells, List.map_take, List.map_drop]
                    rw [e4]; exact hu2, up2, fun b hb => .inl hb⟩
    · have r1 : (c : Int) < (n : Int) + 1 := by omega
      refine Gives.of_W Tryz.call146 Tryz.func146 rfl Tryz.ntmps146 (by simp) ?_; intro Z hZ
      (repeat (first | (with_reducible first | (refine hK _ _ ?_; clear hK K) | refine (show ∀ σ' w', _ → K σ' w' from by assumption) _ _ ?_ | refine W_seq_k fun K hK => ?_ | refine W_block_k fun K hK => ?_ | refine W_skip ?_ | refine W_ret ?_) | ((first | ((with_reducible refine W_id ?_); refine W_reg (by decide) (by rfl) ?_) | (with_reducible first | refine W_cond ?_ | refine hZ _ _ ?_ | refine W_exit ?_ | refine Wo_id ?_) | skip); repeat1' simp only [push_cast, seval, -Nat.reduceSubDiff, s1, s2, s3, s4, s5, s6, s7, Int.le_refl]) | ((repeat ((fail_if_success with_reducible refine hK _ _ ?_); clear hK K)); (with_reducible refine hK _ _ ?_); clear hK K)))
      refine cap_part sty28.und ?_
      (repeat (first | (with_reducible first | (refine hK _ _ ?_; clear hK K) | refine (show ∀ σ' w', _ → K σ' w' from by assumption) _ _ ?_ | refine W_seq_k fun K hK => ?_ | refine W_block_k fun K hK => ?_ | refine W_skip ?_ | refine W_ret ?_) | ((first | ((with_reducible refine W_id ?_); refine W_reg (by decide) (by rfl) ?_) | (with_reducible first | refine W_cond ?_ | refine hZ _ _ ?_ | refine W_exit ?_ | refine Wo_id ?_) | skip); repeat1' simp only [push_cast, seval, -Nat.reduceSubDiff, r1, s1, s4, s7, s8]) | ((repeat ((fail_if_success with_reducible refine hK _ _ ?_); clear hK K)); (with_reducible refine hK _ _ ?_); clear hK K)))
      have hLl : (intCells l).length = n := by rw [intCells_length]; exact hn
      have x1 := h.part1 (l := 0) (k := k) (m := c) (by omega) (by omega) (by omega) (by omega)
      rw [List.drop_zero] at x1
      refine app_zeros sty28 Tryz.underlying3 (z := .int .i64 0) (fun w => by simp [Tryz.zeroValue3, Sem.run]) rfl rfl x1 (n := n + 1 - k) (by omega) (by simp [hLl]; omega) ?_
      intro v1 w1 bo1 g1 g2 g3 g4
      obtain ⟨hx1, hf1, b1, o1, c1, rfl⟩ := g4 _ _ _ rfl (by omega)
      have eN : k - 0 + (n + 1 - k) = n + 1 := by omega
      rw [eN, show k - 0 = k by omega] at g1
      rw [eN]
      obtain ⟨hb1, hc1, _⟩ := g1.inv
      have t1 : (k : Int) ≤ c1 := by omega
      have t2 : (c1 = k) = False := eq_false (by omega)
      have t3 : (c1 = k + 1) = False := eq_false (by omega)
      have t4 : (n : Int) + 1 ≤ c1 := by omega
      have t5 : (c = k) = False := eq_false (by omega)
      have hxs1 := hxs.ext hx1
      have hh1 := h.ext hx1
      have hfr := hf1 b1 hb1
      (repeat (first | (with_reducible first | (refine hK _ _ ?_; clear hK K) | refine (show ∀ σ' w', _ → K σ' w' from by assumption) _ _ ?_ | refine W_seq_k fun K hK => ?_ | refine W_block_k fun K hK => ?_ | refine W_skip ?_ | refine W_ret ?_) | ((first | ((with_reducible refine W_id ?_); refine W_reg (by decide) (by rfl) ?_) | (with_reducible first | refine W_cond ?_ | refine hZ _ _ ?_ | refine W_exit ?_ | refine Wo_id ?_) | skip); repeat1' simp only [push_cast, seval, -Nat.reduceSubDiff, s1, s2, s3, s4, s9, s10, s11, s12, s13, s14, s15, t1, t2, t4, Option.map_some]) | ((repeat ((fail_if_success with_reducible refine hK _ _ ?_); clear hK K)); (with_reducible refine hK _ _ ?_); clear hK K)))
      refine copy_part sty28.und (fun w => by simp [Tryz.sizeOf3, Sem.run]) (k := 1) hxs1.rd (intCells_one _) (by simp [intCells]; omega) (fun q hq => ?_) ?_
      · have := g1.canAt (q := k + q) (by omega)
        rw [Nat.add_assoc]; exact this
      have e3 : (intCells [x]).take 1 = [Value.int .i64 x] := rfl
      rw [e3]
      have hu1 := g1.write (q := k) [Value.int .i64 x] (by simp; omega)
      rw [show ([Value.int .i64 x] : List Value).length = 1 from rfl] at hu1
      have hbl : ∀ q, bo = some q → q < w.heap.size := fun q hq => by rw [hq] at h; exact h.lt
      have hh2 := hh1.upd (Upd.setCells (F := fun q => q = b1) (a := ⟨b1, o1 + k, none⟩) w1 rfl [Value.int .i64 x] 0) fun q hq e => by have := hbl q hq; omega
      have hx2 : Ext w (setCells w1 ⟨b1, o1 + k, none⟩ [Value.int .i64 x] 0) := Upd.trans hx1 (Upd.setCells (F := fun q => q = b1) (a := ⟨b1, o1 + k, none⟩) w1 rfl _ 0) fun q hq e => by omega
      generalize setCells w1 ⟨b1, o1 + k, none⟩ [Value.int .i64 x] 0 = w2 at *
      (repeat (first | (with_reducible first | (refine hK _ _ ?_; clear hK K) | refine (show ∀ σ' w', _ → K σ' w' from by assumption) _ _ ?_ | refine W_seq_k fun K hK => ?_ | refine W_block_k fun K hK => ?_ | refine W_skip ?_ | refine W_ret ?_) | ((first | ((with_reducible refine W_id ?_); refine W_reg (by decide) (by rfl) ?_) | (with_reducible first | refine W_cond ?_ | refine hZ _ _ ?_ | refine W_exit ?_ | refine Wo_id ?_) | skip); repeat1' simp only [push_cast, seval, -Nat.reduceSubDiff]) | ((repeat ((fail_if_success with_reducible refine hK _ _ ?_); clear hK K)); (with_reducible refine hK _ _ ?_); clear hK K)))
      refine W_draw (.pas 0 (.pas 1 (.pas 2 (.pas 3 (.pas 4 (.pas 5 (.pas 6 (.pas 7 (.tail [8]))))))))) (fun _ => False) (by decide) mixed (by kernel_rfl) ?_
      (repeat (first | ((first | refine pas_plain rfl ?_ | refine pas_g rfl rfl ?_ | refine act_plain rfl ?_ | refine act_g rfl rfl ?_ | refine last_plain rfl ?_ | refine tail_plain rfl ?_ | refine tail_g rfl rfl ?_); (repeat simp only [push_cast, seval, -Nat.reduceSubDiff, s1, s2, s3, s4, s9, s10, s11, s12, s13, s14, s15, t1, t2, t3, t4, t5, Option.map_some, Int.le_refl])) | (refine tail_fin ?_) | (refine sch_fin ?_)))
      have q1 := (hh2.ext (Ext.drew w2)).part (l := k) (k := n) (m := c) (by omega) (by omega) (by omega) (by omega)
      simp only [Nat.mul_one] at q1
      have eD : ((intCells l).drop k).take (n - k) = (intCells l).drop k := List.take_of_length_le (by rw [List.length_drop]; omega)
      rw [eD] at q1
      have hdl : ((intCells l).drop k).length = n - k := by rw [List.length_drop]; omega
      have hone : ((intCells l).drop k).all oneCell = true := by
        have := intCells_one l
        rw [List.all_eq_true] at this ⊢
        exact fun y hy => this y (List.mem_of_mem_drop hy)
      have hud := hu1.ext (Ext.drew w2)
      refine copy_part sty28.und (fun w => by simp [Tryz.sizeOf3, Sem.run]) (k := n - k) q1.rd hone (by rw [hdl]; omega) (fun q hq => ?_) ?_
      · have := hud.canAt (q := k + 1 + q) (by omega)
        rw [Nat.add_assoc]; exact this
      rw [List.take_of_length_le (by omega)]
      have hu3 := hud.write (q := k + 1) ((intCells l).drop k) (by omega)
      rw [ins_grow (intCells l) (.int .i64 x) (.int .i64 0) k n hlt hLl] at hu3
      have hx3 : Ext w (setCells w2.drew ⟨b1, o1 + (k + 1), none⟩ ((intCells l).drop k) 0) := Upd.trans (hx2.trans (Ext.drew w2)) (Upd.setCells (F := fun q => q = b1) (a := ⟨b1, o1 + (k + 1), none⟩) w2.drew rfl _ 0) fun q hq e => by omega
      (repeat (first | ((first | refine pas_plain rfl ?_ | refine pas_g rfl rfl ?_ | refine act_plain rfl ?_ | refine act_g rfl rfl ?_ | refine last_plain rfl ?_ | refine tail_plain rfl ?_ | refine tail_g rfl rfl ?_); (repeat simp only [push_cast, seval, -Nat.reduceSubDiff])) | (refine tail_fin ?_) | (refine sch_fin ?_)))
      (repeat (first | (with_reducible first | (refine hK _ _ ?_; clear hK K) | refine (show ∀ σ' w', _ → K σ' w' from by assumption) _ _ ?_ | refine W_seq_k fun K hK => ?_ | refine W_block_k fun K hK => ?_ | refine W_skip ?_ | refine W_ret ?_) | ((first | ((with_reducible refine W_id ?_); refine W_reg (by decide) (by rfl) ?_) | (with_reducible first | refine W_cond ?_ | refine hZ _ _ ?_ | refine W_exit ?_ | refine Wo_id ?_) | skip); repeat1' simp only [push_cast, seval, -Nat.reduceSubDiff]) | ((repeat ((fail_if_success with_reducible refine hK _ _ ?_); clear hK K)); (with_reducible refine hK _ _ ?_); clear hK K)))
      exact ⟨bo1, by have e4 : intCells (l.take k ++ x :: l.drop k) = (intCells l).take k ++ Value.int .i64 x :: (intCells l).drop k := by simp [intCells, List.map_take, List.map_drop]
                     rw [e4]; exact hu3, hx3.upd, fun b hb => .inr (hf1 b hb)⟩
end Go.Proofs.YtgnnlaeikcnhcaaGreatDoor
end
section
set_option linter.unusedSimpArgs false
set_option linter.unusedVariables false
namespace Go.Vk
open Go
structure FL (w : World) (pl : Nat) (ap lv : Value) (l : List Int) (bo : Option Nat) : Prop where
  head : w.heap[pl]? = some (.cells #[ap, lv] 112 (0, 0))
  sl : SlAt w 1 lv (intCells l) bo
  ne : bo ≠ some pl
theorem FL.upd {G : Nat → Prop} {w w' : World} {pl : Nat} {ap lv : Value} {l : List Int} {bo : Option Nat} (h : FL w pl ap lv l bo) (hu : Upd G w w') (h1 : ¬ G pl) (h2 : ∀ b, bo = some b → ¬ G b) : FL w' pl ap lv l bo :=
  ⟨(hu.same pl (blk_lt h.head) h1).trans h.head, h.sl.upd hu h2, h.ne⟩
theorem FL.ext {w w' : World} {pl : Nat} {ap lv : Value} {l : List Int} {bo : Option Nat} (h : FL w pl ap lv l bo) (hu : Ext w w') : FL w' pl ap lv l bo := h.upd hu id fun _ _ => id
theorem FL.c0 {w : World} {pl : Nat} {ap lv : Value} {l : List Int} {bo : Option Nat} (h : FL w pl ap lv l bo) : w.cell? ⟨pl, 0, none⟩ = some ap := by rw [cell_h, h.head]; rfl
theorem FL.c1 {w : World} {pl : Nat} {ap lv : Value} {l : List Int} {bo : Option Nat} (h : FL w pl ap lv l bo) : w.cell? ⟨pl, 1, none⟩ = some lv := by rw [cell_h, h.head]; rfl
theorem vcells_int (k : IntKind) (n : Int) : (Value.int k n).cells = #[.int k n] := rfl
theorem vcells_ptr (a : Option Addr) : (Value.pointer a).cells = #[.pointer a] := rfl
theorem vcells_str (s : ByteArray) : (Value.string s).cells = #[.string s] := rfl
def lastF (p : Int → Bool) (l : List Int) (fr : Int) : Nat → Int
  | 0 => -1
  | k + 1 => if (k : Int) < fr then -1 else if p (l.getD k 0) = true then k else lastF p l fr k
end Go.Vk
namespace Go.Proofs.YtgnnlaeikcnhcaaGreatDoor
open Go Go.Vk
set_option maxHeartbeats 40000000
section
variable {w : World} {pl pa : Nat} {lv : Value} {l : List Int} {bo : Option Nat}
theorem flen_c (h : FL w pl (.pointer (some ⟨pa, 0, none⟩)) lv l bo) : Gives Tryz.prog 27 #[.pointer (some ⟨pl, 0, none⟩)] w fun v w' => v = .int .i64 (l.length : Int) ∧ w' = w := by
  obtain ⟨a, c, rfl, hc⟩ := h.sl.ints_len
  have h1 := h.c1
  refine Gives.of_W Tryz.call27 Tryz.func27 rfl Tryz.ntmps27 (by simp) ?_; intro Z hZ
  (repeat (first | (with_reducible first | (refine hK _ _ ?_; clear hK K) | refine (show ∀ σ' w', _ → K σ' w' from by assumption) _ _ ?_ | refine W_seq_k fun K hK => ?_ | refine W_block_k fun K hK => ?_ | refine W_skip ?_ | refine W_ret ?_) | ((first | ((with_reducible refine W_id ?_); refine W_reg (by decide) (by rfl) ?_) | (with_reducible first | refine W_cond ?_ | refine hZ _ _ ?_ | refine W_exit ?_ | refine Wo_id ?_) | skip); repeat1' simp only [push_cast, seval, -Nat.reduceSubDiff, h1]) | ((repeat ((fail_if_success with_reducible refine hK _ _ ?_); clear hK K)); (with_reducible refine hK _ _ ?_); clear hK K)))
theorem fnone_c (h : FL w pl (.pointer (some ⟨pa, 0, none⟩)) lv l bo) : Gives Tryz.prog 96 #[.pointer (some ⟨pl, 0, none⟩)] w fun v w' => v = .bool false ∧ w' = w := by
  have h0 := h.c0
  refine Gives.of_W Tryz.call96 Tryz.func96 rfl Tryz.ntmps96 (by simp) ?_; intro Z hZ
  (repeat (first | (with_reducible first | (refine hK _ _ ?_; clear hK K) | refine (show ∀ σ' w', _ → K σ' w' from by assumption) _ _ ?_ | refine W_seq_k fun K hK => ?_ | refine W_block_k fun K hK => ?_ | refine W_skip ?_ | refine W_ret ?_) | ((first | ((with_reducible refine W_id ?_); refine W_reg (by decide) (by rfl) ?_) | (with_reducible first | refine W_cond ?_ | refine hZ _ _ ?_ | refine W_exit ?_ | refine Wo_id ?_) | skip); repeat1' simp only [push_cast, seval, -Nat.reduceSubDiff, h0]) | ((repeat ((fail_if_success with_reducible refine hK _ _ ?_); clear hK K)); (with_reducible refine hK _ _ ?_); clear hK K)))
theorem last_c (h : FL w pl (.pointer (some ⟨pa, 0, none⟩)) lv l bo) (hl : l.length < 100000) {f : FuncId} {first captured : Array Value} {p : Int → Bool} (fr : Int) (hfr : 0 ≤ fr)
    (hso : ∀ i ∈ l, ∀ w1, Ext w w1 → Gives Tryz.prog f (first.toList ++ [Value.int .i64 i] ++ captured.toList).toArray w1 fun v w' => v = .bool (p i) ∧ Ext w1 w') :
    Gives Tryz.prog 119 #[.pointer (some ⟨pl, 0, none⟩), .int .i64 fr, .func (.func f) first captured] w fun v w' => v = .int .i64 (lastF p l fr l.length) ∧ Ext w w' := by
  obtain ⟨a, c, rfl, hc⟩ := h.sl.ints_len
  have s0 : inI64 ((l.length : Int) - 1) := by unfold inI64; omega
  refine Gives.of_W Tryz.call119 Tryz.func119 rfl Tryz.ntmps119 (by simp) ?_; intro Z hZ
  (repeat (first | (with_reducible first | (refine hK _ _ ?_; clear hK K) | refine (show ∀ σ' w', _ → K σ' w' from by assumption) _ _ ?_ | refine W_seq_k fun K hK => ?_ | refine W_block_k fun K hK => ?_ | refine W_skip ?_ | refine W_ret ?_) | ((first | ((with_reducible refine W_id ?_); refine W_reg (by decide) (by rfl) ?_) | (with_reducible first | refine W_cond ?_ | refine hZ _ _ ?_ | refine W_exit ?_ | refine Wo_id ?_) | skip); repeat1' simp only [push_cast, seval, -Nat.reduceSubDiff]) | ((repeat ((fail_if_success with_reducible refine hK _ _ ?_); clear hK K)); (with_reducible refine hK _ _ ?_); clear hK K)))
  refine (flen_c h).mono ?_
  rintro v w' ⟨rfl, rfl⟩
  (repeat (first | (with_reducible first | (refine hK _ _ ?_; clear hK K) | refine (show ∀ σ' w', _ → K σ' w' from by assumption) _ _ ?_ | refine W_seq_k fun K hK => ?_ | refine W_block_k fun K hK => ?_ | refine W_skip ?_ | refine W_ret ?_) | ((first | ((with_reducible refine W_id ?_); refine W_reg (by decide) (by rfl) ?_) | (with_reducible first | refine W_cond ?_ | refine hZ _ _ ?_ | refine W_exit ?_ | refine Wo_id ?_) | skip); repeat1' simp only [push_cast, seval, -Nat.reduceSubDiff, s0]) | ((repeat ((fail_if_success with_reducible refine hK _ _ ?_); clear hK K)); (with_reducible refine hK _ _ ?_); clear hK K)))
  refine W_loop (S := Nat) (fun k => [(0, .pointer (some ⟨pl, 0, none⟩)), (1, .int .i64 fr), (2, .func (.func f) first captured), (7, .int .i64 ((k : Int) - 1))])
    (fun k w2 => k ≤ l.length ∧ lastF p l fr l.length = lastF p l fr k ∧ Ext w' w2) (fun k => k) l.length ?_ ?_ ?_
  · (repeat simp only [push_cast, seval, -Nat.reduceSubDiff])
  · exact ⟨Nat.le_refl _, rfl, Ext.refl _⟩
  rintro k w2 ⟨hk, he, hx⟩
  cases k with
  | zero =>
    have e0 : (((0 : Nat) : Int) - 1) = -1 := rfl
    rw [e0]
    have b0 : ¬ fr ≤ -1 := by omega
    (repeat (first | (with_reducible first | (refine hK _ _ ?_; clear hK K) | refine (show ∀ σ' w', _ → K σ' w' from by assumption) _ _ ?_ | refine W_seq_k fun K hK => ?_ | refine W_block_k fun K hK => ?_ | refine W_skip ?_ | refine W_ret ?_) | ((first | ((with_reducible refine W_id ?_); refine W_reg (by decide) (by rfl) ?_) | (with_reducible first | refine W_cond ?_ | refine hZ _ _ ?_ | refine W_exit ?_ | refine Wo_id ?_) | skip); repeat1' simp only [push_cast, seval, -Nat.reduceSubDiff, b0]) | ((repeat ((fail_if_success with_reducible refine hK _ _ ?_); clear hK K)); (with_reducible refine hK _ _ ?_); clear hK K)))
    rw [he]
    exact ⟨rfl, hx⟩
  | succ k =>
    have e0 : (((k + 1 : Nat) : Int) - 1) = k := by omega
    rw [e0]
    rw [lastF] at he
    have b2 : inI64 ((k : Int) - 1) := by unfold inI64; omega
    by_cases hkf : (k : Int) < fr
    · have b0 : ¬ fr ≤ (k : Int) := by omega
      rw [if_pos hkf] at he
      (repeat (first | (with_reducible first | (refine hK _ _ ?_; clear hK K) | refine (show ∀ σ' w', _ → K σ' w' from by assumption) _ _ ?_ | refine W_seq_k fun K hK => ?_ | refine W_block_k fun K hK => ?_ | refine W_skip ?_ | refine W_ret ?_) | ((first | ((with_reducible refine W_id ?_); refine W_reg (by decide) (by rfl) ?_) | (with_reducible first | refine W_cond ?_ | refine hZ _ _ ?_ | refine W_exit ?_ | refine Wo_id ?_) | skip); repeat1' simp only [push_cast, seval, -Nat.reduceSubDiff, b0]) | ((repeat ((fail_if_success with_reducible refine hK _ _ ?_); clear hK K)); (with_reducible refine hK _ _ ?_); clear hK K)))
      exact ⟨he.symm, hx⟩
    · have b0 : fr ≤ (k : Int) := by omega
      rw [if_neg hkf] at he
      have hkl : k < l.length := by omega
      have hxk : l[k]? = some l[k] := List.getElem?_eq_getElem hkl
      have hgd : l.getD k 0 = l[k] := by simp [List.getD, hxk]
      rw [hgd] at he
      have hmem : l[k] ∈ l := List.getElem_mem hkl
      generalize l[k] = y at *
      obtain ⟨b, o, _, _, e1, _⟩ := h.sl.some_of (kids_ne hkl)
      cases e1
      have h1 := (h.ext hx).c1
      have hcell := (h.sl.ext hx).ints_cell hxk
      have b1 : (0 : Int) ≤ (k : Int) := by omega
      have b3 : (k : Int) < (l.length : Int) := by omega
      (repeat (first | (with_reducible first | (refine hK _ _ ?_; clear hK K) | refine (show ∀ σ' w', _ → K σ' w' from by assumption) _ _ ?_ | refine W_seq_k fun K hK => ?_ | refine W_block_k fun K hK => ?_ | refine W_skip ?_ | refine W_ret ?_) | ((first | ((with_reducible refine W_id ?_); refine W_reg (by decide) (by rfl) ?_) | (with_reducible first | refine W_cond ?_ | refine hZ _ _ ?_ | refine W_exit ?_ | refine Wo_id ?_) | skip); repeat1' simp only [push_cast, seval, -Nat.reduceSubDiff, b0, b1, b3, h1, hcell]) | ((repeat ((fail_if_success with_reducible refine hK _ _ ?_); clear hK K)); (with_reducible refine hK _ _ ?_); clear hK K)))
      refine (hso y hmem w2 hx).mono ?_
      rintro v w3 ⟨rfl, hx3⟩
      cases hpy : p y with
      | true =>
        rw [if_pos hpy] at he
        (repeat (first | (with_reducible first | (refine hK _ _ ?_; clear hK K) | refine (show ∀ σ' w', _ → K σ' w' from by assumption) _ _ ?_ | refine W_seq_k fun K hK => ?_ | refine W_block_k fun K hK => ?_ | refine W_skip ?_ | refine W_ret ?_) | ((first | ((with_reducible refine W_id ?_); refine W_reg (by decide) (by rfl) ?_) | (with_reducible first | refine W_cond ?_ | refine hZ _ _ ?_ | refine W_exit ?_ | refine Wo_id ?_) | skip); repeat1' simp only [push_cast, seval, -Nat.reduceSubDiff]) | ((repeat ((fail_if_success with_reducible refine hK _ _ ?_); clear hK K)); (with_reducible refine hK _ _ ?_); clear hK K)))
        rw [he]
        exact ⟨rfl, hx.trans hx3⟩
      | false =>
        rw [if_neg (by rw [hpy]; decide)] at he
        (repeat (first | (with_reducible first | (refine hK _ _ ?_; clear hK K) | refine (show ∀ σ' w', _ → K σ' w' from by assumption) _ _ ?_ | refine W_seq_k fun K hK => ?_ | refine W_block_k fun K hK => ?_ | refine W_skip ?_ | refine W_ret ?_) | ((first | ((with_reducible refine W_id ?_); refine W_reg (by decide) (by rfl) ?_) | (with_reducible first | refine W_cond ?_ | refine hZ _ _ ?_ | refine W_exit ?_ | refine Wo_id ?_) | skip); repeat1' simp only [push_cast, seval, -Nat.reduceSubDiff, b2]) | ((repeat ((fail_if_success with_reducible refine hK _ _ ?_); clear hK K)); (with_reducible refine hK _ _ ?_); clear hK K)))
        refine ⟨k, by omega, ?_⟩
        (repeat simp only [push_cast, seval, -Nat.reduceSubDiff])
        exact ⟨by omega, he, hx.trans hx3⟩
def openN (l : List Int) : Int := lastF (fun i => decide (i = -1)) l 0 l.length + 1
def indexN (l : List Int) (i : Int) : Int := if i < 0 then -1 else lastF (fun y => decide (y = i)) l 0 l.length
theorem lastF_rng (p : Int → Bool) (l : List Int) (fr : Int) : ∀ k : Nat, -1 ≤ lastF p l fr k ∧ lastF p l fr k < k
  | 0 => by simp [lastF]
  | k + 1 => by
    have := lastF_rng p l fr k
    rw [lastF]
    split
    · omega
    · split <;> omega
theorem open1_c (i : Int) {w : World} : Gives Tryz.prog 151 #[.int .i64 i] w fun v w' => v = .bool (decide (i = -1)) ∧ Ext w w' := by
  refine Gives.of_W Tryz.call151 Tryz.func151 rfl Tryz.ntmps151 (by simp) ?_; intro Z hZ
  (repeat (first | (with_reducible first | (refine hK _ _ ?_; clear hK K) | refine (show ∀ σ' w', _ → K σ' w' from by assumption) _ _ ?_ | refine W_seq_k fun K hK => ?_ | refine W_block_k fun K hK => ?_ | refine W_skip ?_ | refine W_ret ?_) | ((first | ((with_reducible refine W_id ?_); refine W_reg (by decide) (by rfl) ?_) | (with_reducible first | refine W_cond ?_ | refine hZ _ _ ?_ | refine W_exit ?_ | refine Wo_id ?_) | skip); repeat1' simp only [push_cast, seval, -Nat.reduceSubDiff]) | ((repeat ((fail_if_success with_reducible refine hK _ _ ?_); clear hK K)); (with_reducible refine hK _ _ ?_); clear hK K)))
  exact Ext.refl _
theorem open_c (h : FL w pl (.pointer (some ⟨pa, 0, none⟩)) lv l bo) (hl : l.length < 100000) : Gives Tryz.prog 104 #[.pointer (some ⟨pl, 0, none⟩)] w fun v w' => v = .int .i64 (openN l) ∧ Ext w w' := by
  have hr := lastF_rng (fun i => decide (i = -1)) l 0 l.length
  have s0 : inI64 (lastF (fun i => decide (i = -1)) l 0 l.length + 1) := by unfold inI64; omega
  refine Gives.of_W Tryz.call104 Tryz.func104 rfl Tryz.ntmps104 (by simp) ?_; intro Z hZ
  (repeat (first | (with_reducible first | (refine hK _ _ ?_; clear hK K) | refine (show ∀ σ' w', _ → K σ' w' from by assumption) _ _ ?_ | refine W_seq_k fun K hK => ?_ | refine W_block_k fun K hK => ?_ | refine W_skip ?_ | refine W_ret ?_) | ((first | ((with_reducible refine W_id ?_); refine W_reg (by decide) (by rfl) ?_) | (with_reducible first | refine W_cond ?_ | refine hZ _ _ ?_ | refine W_exit ?_ | refine Wo_id ?_) | skip); repeat1' simp only [push_cast, seval, -Nat.reduceSubDiff]) | ((repeat ((fail_if_success with_reducible refine hK _ _ ?_); clear hK K)); (with_reducible refine hK _ _ ?_); clear hK K)))
  refine (last_c h hl (first := #[]) (captured := #[]) (p := fun i => decide (i = -1)) 0 (by omega) fun i _ w1 _ => open1_c i).mono ?_
  rintro v w' ⟨rfl, hx⟩
  (repeat (first | (with_reducible first | (refine hK _ _ ?_; clear hK K) | refine (show ∀ σ' w', _ → K σ' w' from by assumption) _ _ ?_ | refine W_seq_k fun K hK => ?_ | refine W_block_k fun K hK => ?_ | refine W_skip ?_ | refine W_ret ?_) | ((first | ((with_reducible refine W_id ?_); refine W_reg (by decide) (by rfl) ?_) | (with_reducible first | refine W_cond ?_ | refine hZ _ _ ?_ | refine W_exit ?_ | refine Wo_id ?_) | skip); repeat1' simp only [push_cast, seval, -Nat.reduceSubDiff, s0]) | ((repeat ((fail_if_success with_reducible refine hK _ _ ?_); clear hK K)); (with_reducible refine hK _ _ ?_); clear hK K)))
  exact ⟨rfl, hx⟩
theorem index1_c (i x : Int) {w : World} {px : Nat} (hp : w.heap[px]? = some (.cells #[.int .i64 x] 3 (0, 0))) : Gives Tryz.prog 120 #[.int .i64 i, .pointer (some ⟨px, 0, none⟩)] w fun v w' => v = .bool (decide (i = x)) ∧ Ext w w' := by
  refine Gives.of_W Tryz.call120 Tryz.func120 rfl Tryz.ntmps120 (by simp) ?_; intro Z hZ
  (repeat (first | (with_reducible first | (refine hK _ _ ?_; clear hK K) | refine (show ∀ σ' w', _ → K σ' w' from by assumption) _ _ ?_ | refine W_seq_k fun K hK => ?_ | refine W_block_k fun K hK => ?_ | refine W_skip ?_ | refine W_ret ?_) | ((first | ((with_reducible refine W_id ?_); refine W_reg (by decide) (by rfl) ?_) | (with_reducible first | refine W_cond ?_ | refine hZ _ _ ?_ | refine W_exit ?_ | refine Wo_id ?_) | skip); repeat1' simp only [push_cast, seval, -Nat.reduceSubDiff, cell_h, hp, cellO_cells]) | ((repeat ((fail_if_success with_reducible refine hK _ _ ?_); clear hK K)); (with_reducible refine hK _ _ ?_); clear hK K)))
  exact Ext.refl _
theorem findex_c (h : FL w pl (.pointer (some ⟨pa, 0, none⟩)) lv l bo) (hl : l.length < 100000) (i : Int) : Gives Tryz.prog 54 #[.pointer (some ⟨pl, 0, none⟩), .int .i64 i] w fun v w' => v = .int .i64 (indexN l i) ∧ Ext w w' := by
  have hx1 := Ext.alloc w (.cells #[.int .i64 i] 3)
  have hp1 : (w.alloc (.cells #[.int .i64 i] 3)).heap[w.heap.size]? = some (.cells #[.int .i64 i] 3 (0, 0)) := by rw [heap_alloc_h, if_pos rfl]
  by_cases hi : i < 0
  · refine Gives.of_W Tryz.call54 Tryz.func54 rfl Tryz.ntmps54 (by simp) ?_; intro Z hZ
    (repeat (first | (with_reducible first | (refine hK _ _ ?_; clear hK K) | refine (show ∀ σ' w', _ → K σ' w' from by assumption) _ _ ?_ | refine W_seq_k fun K hK => ?_ | refine W_block_k fun K hK => ?_ | refine W_skip ?_ | refine W_ret ?_) | ((first | ((with_reducible refine W_id ?_); refine W_reg (by decide) (by rfl) ?_) | (with_reducible first | refine W_cond ?_ | refine hZ _ _ ?_ | refine W_exit ?_ | refine Wo_id ?_) | skip); repeat1' simp only [push_cast, seval, -Nat.reduceSubDiff, cell_h, heap_alloc_h, cellO_cells, vcells_int, hi]) | ((repeat ((fail_if_success with_reducible refine hK _ _ ?_); clear hK K)); (with_reducible refine hK _ _ ?_); clear hK K)))
    exact ⟨by rw [indexN, if_pos hi], hx1⟩
  · refine Gives.of_W Tryz.call54 Tryz.func54 rfl Tryz.ntmps54 (by simp) ?_; intro Z hZ
    (repeat (first | (with_reducible first | (refine hK _ _ ?_; clear hK K) | refine (show ∀ σ' w', _ → K σ' w' from by assumption) _ _ ?_ | refine W_seq_k fun K hK => ?_ | refine W_block_k fun K hK => ?_ | refine W_skip ?_ | refine W_ret ?_) | ((first | ((with_reducible refine W_id ?_); refine W_reg (by decide) (by rfl) ?_) | (with_reducible first | refine W_cond ?_ | refine hZ _ _ ?_ | refine W_exit ?_ | refine Wo_id ?_) | skip); repeat1' simp only [push_cast, seval, -Nat.reduceSubDiff, cell_h, heap_alloc_h, cellO_cells, vcells_int, hi]) | ((repeat ((fail_if_success with_reducible refine hK _ _ ?_); clear hK K)); (with_reducible refine hK _ _ ?_); clear hK K)))
    refine (last_c (h.ext hx1) hl (first := #[]) (captured := #[.pointer (some ⟨w.heap.size, 0, none⟩)]) (p := fun y => decide (y = i)) 0 (by omega) fun y _ w1 hx => index1_c y i (hx.blk hp1)).mono ?_
    rintro v w' ⟨rfl, hx⟩
    (repeat (first | (with_reducible first | (refine hK _ _ ?_; clear hK K) | refine (show ∀ σ' w', _ → K σ' w' from by assumption) _ _ ?_ | refine W_seq_k fun K hK => ?_ | refine W_block_k fun K hK => ?_ | refine W_skip ?_ | refine W_ret ?_) | ((first | ((with_reducible refine W_id ?_); refine W_reg (by decide) (by rfl) ?_) | (with_reducible first | refine W_cond ?_ | refine hZ _ _ ?_ | refine W_exit ?_ | refine Wo_id ?_) | skip); repeat1' simp only [push_cast, seval, -Nat.reduceSubDiff]) | ((repeat ((fail_if_success with_reducible refine hK _ _ ?_); clear hK K)); (with_reducible refine hK _ _ ?_); clear hK K)))
    exact ⟨by rw [indexN, if_neg hi], hx1.trans hx⟩
end
end Go.Proofs.YtgnnlaeikcnhcaaGreatDoor
end
section
set_option linter.unusedSimpArgs false
set_option linter.unusedVariables false
namespace Go.Vk
theorem attrCells_get0 {l : List (ByteArray × ByteArray)} {i : Nat} {x : ByteArray × ByteArray} (h : l[i]? = some x) : (attrCells l)[i * 2]? = some (.string x.1) ∧ (attrCells l)[i * 2 + 1]? = some (.string x.2) := by
  induction l generalizing i with
  | nil => simp at h
  | cons y r ih =>
    cases i with
    | zero => simp only [List.getElem?_cons_zero, Option.some.injEq] at h; subst h; exact ⟨rfl, rfl⟩
    | succ i =>
      rw [List.getElem?_cons_succ] at h
      obtain ⟨h1, h2⟩ := ih h
      rw [show (i + 1) * 2 = i * 2 + 1 + 1 by omega]
      exact ⟨h1, h2⟩
theorem attrs_len {w : World} {v : Value} {l : List (ByteArray × ByteArray)} (h : RdAt w 2 v (attrCells l)) : ∃ a c, v = .slice a l.length c ∧ l.length ≤ c ∧ ∀ i x, l[i]? = some x → ∃ b o, a = some ⟨b, o, none⟩ ∧ w.cell? ⟨b, o + i * 2, none⟩ = some (.string x.1) ∧ w.cell? ⟨b, o + i * 2 + 1, none⟩ = some (.string x.2) := by
  obtain ⟨a, n, c, rfl, h2, h3, h4⟩ := h
  rw [attrCells_length] at h3
  obtain rfl : n = l.length := by omega
  refine ⟨a, c, rfl, h2, fun i x hx => ?_⟩
  obtain ⟨g1, g2⟩ := attrCells_get0 hx
  obtain ⟨b, o, rfl, k1⟩ := h4 _ _ g1
  obtain ⟨b', o', e, k2⟩ := h4 _ _ g2
  cases e
  exact ⟨b, o, rfl, k1, by rw [Nat.add_assoc]; exact k2⟩
def idxA (p : ByteArray × ByteArray → Bool) : List (ByteArray × ByteArray) → Nat → Int
  | [], _ => -1
  | y :: r, k => if p y = true then k else idxA p r (k + 1)
theorem idxA_any (p : ByteArray × ByteArray → Bool) : ∀ (l : List (ByteArray × ByteArray)) (k : Nat), decide (0 ≤ idxA p l k) = l.any p
  | [], k => by simp [idxA]
  | y :: r, k => by
    rw [idxA, List.any_cons]
    by_cases h : p y = true
    · rw [if_pos h, h]; simp
    · rw [if_neg h, idxA_any p r]; simp [h]
theorem idxA_skip (p : ByteArray × ByteArray → Bool) : ∀ (l : List (ByteArray × ByteArray)) (j k : Nat), (∀ y ∈ l.take j, p y = false) → j ≤ l.length → idxA p l k = idxA p (l.drop j) (k + j)
  | l, 0, k, _, _ => by simp
  | [], j + 1, k, _, h => by simp at h
  | y :: r, j + 1, k, h, hl => by
    rw [idxA, if_neg (by simp [h y (by simp)]), List.drop_succ_cons, idxA_skip p r j (k + 1) (fun z hz => h z (by simp [hz])) (by simpa using hl)]
    congr 1; omega
end Go.Vk
end
section
set_option linter.unusedSimpArgs false
set_option linter.unusedVariables false
namespace Go.Vk
def hasA (x : ByteArray × ByteArray) (y : ByteArray × ByteArray) : Bool := decide (x.1 = y.1 ∧ x.2 = y.2)
def likeN (s n : Nd) : Bool := decide (n.kind = 3 ∧ n.space = s.space ∧ n.name = s.name ∧ n.attrs.length = s.attrs.length) && s.attrs.all fun x => n.attrs.any (hasA x)
end Go.Vk
namespace Go.Proofs.YtgnnlaeikcnhcaaGreatDoor
open Go Go.Vk
theorem eq94g (s t s' t' : ByteArray) (w : World) : (Op.equalIn 10000 34 (.agg #[.string s, .string t]) (.agg #[.string s', .string t'])).run Tryz.prog w = .ok (decide (s = s' ∧ t = t')) w := by
  have hS : Tryz.prog.underlying 34 = some (.struct (Tryz.prog.fieldsOf 34)) := by kernel_rfl
  have hp : Tryz.prog.stoodInHeld 34 = false := by kernel_rfl
  rw [show (10000 : Nat) = 9998 + 1 + 1 from rfl, run_equalIn_agg w (9998 + 1) 34 _ _ hS hp]
  simp only [Program.fieldsOf, Tryz.underlying34]
  have e : ∀ (a b : ByteArray) (w : World), (Op.equalIn (9998 + 1) 9 (.string a) (.string b)).run Tryz.prog w = .ok (decide (a = b)) w := fun a b w => by
    rw [run_equalIn_string _ 9998 9 _ _ Tryz.underlying9, Vk.toList_beq]
  by_cases h1 : s = s' <;> by_cases h2 : t = t' <;> simp [Op.eqFields, part, Tryz.sizeOf9, e, Sem.run, h1, h2]
theorem eql94 {o1 o2 : Operand} (s t s' t' : ByteArray) (w : World) (K : Value → World → Prop) : Pure1 Tryz.prog (do eqGuard .eql 34 o1 o2 (.agg #[.string s, .string t]) (.agg #[.string s', .string t']); binOp .eql 34 (.agg #[.string s, .string t]) (.agg #[.string s', .string t'])) w K = K (.bool (decide (s = s' ∧ t = t'))) w :=
  Pure1_eq (fun w => by
    rw [Sem.run_bind, run_eqGuard_agg w .eql 34 o1 o2 _ _ (by kernel_rfl), Result.andThen_ok, run_eql_struct, eq94g]; rfl) w K
set_option maxHeartbeats 40000000
theorem sidx_c {w : World} {v : Value} {l : List (ByteArray × ByteArray)} (ha : RdAt w 2 v (attrCells l)) (hb : l.length < 1000000000) (x : ByteArray × ByteArray) :
    Gives Tryz.prog 199 #[v, .agg #[.string x.1, .string x.2]] w fun u w' => u = .int .i64 (idxA (hasA x) l 0) ∧ Ext w w' := by
  have hx1 := Ext.alloc w (.cells #[.string x.1, .string x.2] 34)
  have hp1 : (w.alloc (.cells #[.string x.1, .string x.2] 34)).heap[w.heap.size]? = some (.cells #[.string x.1, .string x.2] 34 (0, 0)) := by rw [heap_alloc_h, if_pos rfl]
  obtain ⟨a, c, rfl, hc, _⟩ := attrs_len ha
  refine Gives.of_W Tryz.call199 Tryz.func199 rfl Tryz.ntmps199 (by simp) ?_; intro Z hZ
  (repeat (first | (with_reducible first | (refine hK _ _ ?_; clear hK K) | refine (show ∀ σ' w', _ → K σ' w' from by assumption) _ _ ?_ | refine W_seq_k fun K hK => ?_ | refine W_block_k fun K hK => ?_ | refine W_skip ?_ | refine W_ret ?_) | ((first | ((with_reducible refine W_id ?_); refine W_reg (by decide) (by rfl) ?_) | (with_reducible first | refine W_cond ?_ | refine hZ _ _ ?_ | refine W_exit ?_ | refine Wo_id ?_) | skip); repeat1' simp only [push_cast, seval, -Nat.reduceSubDiff, vcells_agg]) | ((repeat ((fail_if_success with_reducible refine hK _ _ ?_); clear hK K)); (with_reducible refine hK _ _ ?_); clear hK K)))
  generalize w.alloc (.cells #[.string x.1, .string x.2] 34) = w1 at *
  refine W_loop (S := Nat) (fun k => [(0, .slice a l.length c), (3, .pointer (some ⟨w.heap.size, 0, none⟩)), (7, .int .i64 (l.length : Int)), (8, .int .i64 (k : Int))])
    (fun k w2 => k ≤ l.length ∧ (∀ y ∈ l.take k, hasA x y = false) ∧ Ext w1 w2) (fun k => l.length - k) 0 ?_ ?_ ?_
  · (repeat simp only [push_cast, seval, -Nat.reduceSubDiff])
  · exact ⟨by omega, by simp, Ext.refl _⟩
  rintro k w2 ⟨hk, hn, hx⟩
  have hsk := idxA_skip (hasA x) l k 0 hn hk
  rw [Nat.zero_add] at hsk
  by_cases hkl : k < l.length
  · obtain ⟨y, hy⟩ : ∃ y, l[k]? = some y := ⟨_, List.getElem?_eq_getElem hkl⟩
    have hd : l.drop k = y :: l.drop (k + 1) := by
      rw [List.drop_eq_getElem_cons hkl]; congr 1
      rw [List.getElem?_eq_getElem hkl] at hy; exact Option.some.inj hy
    obtain ⟨_, _, e, _, hcell2⟩ := attrs_len ((ha.ext hx1).ext (hx.trans (Ext.drew _)))
    cases e
    obtain ⟨b, o, rfl, q1, q2⟩ := hcell2 k y hy
    have b0 : (k : Int) < (l.length : Int) := by omega
    have b1 : (0 : Int) ≤ (k : Int) := by omega
    have b2 : inI64 ((k : Int) + 1) := by unfold inI64; omega
    have hp2 := (hx.trans (Ext.drew _)).blk hp1
    have hc1 : w2.drew.cell? ⟨w.heap.size, 0, none⟩ = some (.string x.1) := by rw [cell_h, hp2]; rfl
    have hc2 : w2.drew.cell? ⟨w.heap.size, 1, none⟩ = some (.string x.2) := by rw [cell_h, hp2]; rfl
    rw [hd, idxA] at hsk
    clear hcell2
    (repeat (first | (with_reducible first | (refine hK _ _ ?_; clear hK K) | refine (show ∀ σ' w', _ → K σ' w' from by assumption) _ _ ?_ | refine W_seq_k fun K hK => ?_ | refine W_block_k fun K hK => ?_ | refine W_skip ?_ | refine W_ret ?_) | ((first | ((with_reducible refine W_id ?_); refine W_reg (by decide) (by rfl) ?_) | (with_reducible first | refine W_cond ?_ | refine hZ _ _ ?_ | refine W_exit ?_ | refine Wo_id ?_) | skip); repeat1' simp only [push_cast, seval, -Nat.reduceSubDiff, b0, b1]) | ((repeat ((fail_if_success with_reducible refine hK _ _ ?_); clear hK K)); (with_reducible refine hK _ _ ?_); clear hK K)))
    refine W_draw (.pas 0 (.pas 1 (.pas 2 (.pas 3 (.pas 4 (.pas 5 .fin)))))) (fun _ => True) (by decide) mixed (by kernel_rfl) ?_
    (repeat (first | ((first | refine pas_plain rfl ?_ | refine pas_g rfl rfl ?_ | refine act_plain rfl ?_ | refine act_g rfl rfl ?_ | refine last_plain rfl ?_ | refine tail_plain rfl ?_ | refine tail_g rfl rfl ?_); (repeat simp only [push_cast, seval, -Nat.reduceSubDiff, b0, b1, q1, q2, hc1, hc2, eql94])) | (refine tail_fin ?_) | (refine sch_fin ?_)))
    by_cases hyx : hasA x y = true
    · have hyx' : (x.1 = y.1 ∧ x.2 = y.2) = True := eq_true (by simpa [hasA] using hyx)
      (repeat (first | (with_reducible first | (refine hK _ _ ?_; clear hK K) | refine (show ∀ σ' w', _ → K σ' w' from by assumption) _ _ ?_ | refine W_seq_k fun K hK => ?_ | refine W_block_k fun K hK => ?_ | refine W_skip ?_ | refine W_ret ?_) | ((first | ((with_reducible refine W_id ?_); refine W_reg (by decide) (by rfl) ?_) | (with_reducible first | refine W_cond ?_ | refine hZ _ _ ?_ | refine W_exit ?_ | refine Wo_id ?_) | skip); repeat1' simp only [push_cast, seval, -Nat.reduceSubDiff, hyx', decide_true]) | ((repeat ((fail_if_success with_reducible refine hK _ _ ?_); clear hK K)); (with_reducible refine hK _ _ ?_); clear hK K)))
      exact ⟨by rw [hsk, if_pos hyx], hx1.trans (hx.trans (Ext.drew _))⟩
    · have hyx' : (x.1 = y.1 ∧ x.2 = y.2) = False := eq_false (by simpa [hasA] using hyx)
      (repeat (first | (with_reducible first | (refine hK _ _ ?_; clear hK K) | refine (show ∀ σ' w', _ → K σ' w' from by assumption) _ _ ?_ | refine W_seq_k fun K hK => ?_ | refine W_block_k fun K hK => ?_ | refine W_skip ?_ | refine W_ret ?_) | ((first | ((with_reducible refine W_id ?_); refine W_reg (by decide) (by rfl) ?_) | (with_reducible first | refine W_cond ?_ | refine hZ _ _ ?_ | refine W_exit ?_ | refine Wo_id ?_) | skip); repeat1' simp only [push_cast, seval, -Nat.reduceSubDiff, hyx', decide_false, b2]) | ((repeat ((fail_if_success with_reducible refine hK _ _ ?_); clear hK K)); (with_reducible refine hK _ _ ?_); clear hK K)))
      refine ⟨k + 1, by omega, ?_⟩
      (repeat simp only [push_cast, seval, -Nat.reduceSubDiff])
      refine ⟨by omega, fun z hz => ?_, hx.trans (Ext.drew _)⟩
      rw [List.take_add_one, hy] at hz
      simp only [Option.toList_some, List.mem_append, List.mem_singleton] at hz
      rcases hz with hz | rfl
      · exact hn z hz
      · simpa using hyx
  · have hke : k = l.length := by omega
    subst hke
    have b0 : ¬ (l.length : Int) < (l.length : Int) := by omega
    rw [List.drop_length, idxA] at hsk
    (repeat (first | (with_reducible first | (refine hK _ _ ?_; clear hK K) | refine (show ∀ σ' w', _ → K σ' w' from by assumption) _ _ ?_ | refine W_seq_k fun K hK => ?_ | refine W_block_k fun K hK => ?_ | refine W_skip ?_ | refine W_ret ?_) | ((first | ((with_reducible refine W_id ?_); refine W_reg (by decide) (by rfl) ?_) | (with_reducible first | refine W_cond ?_ | refine hZ _ _ ?_ | refine W_exit ?_ | refine Wo_id ?_) | skip); repeat1' simp only [push_cast, seval, -Nat.reduceSubDiff, b0]) | ((repeat ((fail_if_success with_reducible refine hK _ _ ?_); clear hK K)); (with_reducible refine hK _ _ ?_); clear hK K)))
    exact ⟨by rw [hsk], hx1.trans hx⟩
theorem scont_c {w : World} {v : Value} {l : List (ByteArray × ByteArray)} (ha : RdAt w 2 v (attrCells l)) (hb : l.length < 1000000000) (x : ByteArray × ByteArray) :
    Gives Tryz.prog 150 #[v, .agg #[.string x.1, .string x.2]] w fun u w' => u = .bool (l.any (hasA x)) ∧ Ext w w' := by
  have hx1 := Ext.alloc w (.cells #[.string x.1, .string x.2] 34)
  have hp1 : (w.alloc (.cells #[.string x.1, .string x.2] 34)).heap[w.heap.size]? = some (.cells #[.string x.1, .string x.2] 34 (0, 0)) := by rw [heap_alloc_h, if_pos rfl]
  refine Gives.of_W Tryz.call150 Tryz.func150 rfl Tryz.ntmps150 (by simp) ?_; intro Z hZ
  (repeat (first | (with_reducible first | (refine hK _ _ ?_; clear hK K) | refine (show ∀ σ' w', _ → K σ' w' from by assumption) _ _ ?_ | refine W_seq_k fun K hK => ?_ | refine W_block_k fun K hK => ?_ | refine W_skip ?_ | refine W_ret ?_) | ((first | ((with_reducible refine W_id ?_); refine W_reg (by decide) (by rfl) ?_) | (with_reducible first | refine W_cond ?_ | refine hZ _ _ ?_ | refine W_exit ?_ | refine Wo_id ?_) | skip); repeat1' simp only [push_cast, seval, -Nat.reduceSubDiff, vcells_agg]) | ((repeat ((fail_if_success with_reducible refine hK _ _ ?_); clear hK K)); (with_reducible refine hK _ _ ?_); clear hK K)))
  generalize w.alloc (.cells #[.string x.1, .string x.2] 34) = w1 at *
  (repeat (first | (with_reducible first | (refine hK _ _ ?_; clear hK K) | refine (show ∀ σ' w', _ → K σ' w' from by assumption) _ _ ?_ | refine W_seq_k fun K hK => ?_ | refine W_block_k fun K hK => ?_ | refine W_skip ?_ | refine W_ret ?_) | ((first | ((with_reducible refine W_id ?_); refine W_reg (by decide) (by rfl) ?_) | (with_reducible first | refine W_cond ?_ | refine hZ _ _ ?_ | refine W_exit ?_ | refine Wo_id ?_) | skip); repeat1' simp only [push_cast, seval, -Nat.reduceSubDiff, cell_h, hp1, cellO_cells]) | ((repeat ((fail_if_success with_reducible refine hK _ _ ?_); clear hK K)); (with_reducible refine hK _ _ ?_); clear hK K)))
  refine (sidx_c (ha.ext hx1) hb x).mono ?_
  rintro v w' ⟨rfl, hx⟩
  have e := idxA_any (hasA x) l 0
  (repeat (first | (with_reducible first | (refine hK _ _ ?_; clear hK K) | refine (show ∀ σ' w', _ → K σ' w' from by assumption) _ _ ?_ | refine W_seq_k fun K hK => ?_ | refine W_block_k fun K hK => ?_ | refine W_skip ?_ | refine W_ret ?_) | ((first | ((with_reducible refine W_id ?_); refine W_reg (by decide) (by rfl) ?_) | (with_reducible first | refine W_cond ?_ | refine hZ _ _ ?_ | refine W_exit ?_ | refine Wo_id ?_) | skip); repeat1' simp only [push_cast, seval, -Nat.reduceSubDiff]) | ((repeat ((fail_if_success with_reducible refine hK _ _ ?_); clear hK K)); (with_reducible refine hK _ _ ?_); clear hK K)))
  exact ⟨by rw [← e], hx1.trans hx⟩
set_option maxRecDepth 10000 in
theorem like_c {s m : Laid} {w : World} (hs : RdAt w 2 s.av (attrCells s.nd.attrs)) (hm : RdAt w 2 m.av (attrCells m.nd.attrs)) (hl : s.nd.attrs.length < 1000000) (hl2 : m.nd.attrs.length < 1000000) :
    Gives Tryz.prog 103 #[s.val, m.val] w fun v w' => v = .bool (likeN s.nd m.nd) ∧ Ext w w' := by
  obtain ⟨sa, sc, esv, _, hsc⟩ := attrs_len hs
  obtain ⟨ma, mc, emv, _, _⟩ := attrs_len hm
  rw [Laid.val_eq, Laid.val_eq]
  have hx : Ext w ((w.alloc (.cells #[.int .i64 s.nd.kind, .string s.nd.name, .string s.nd.text, .int .i64 s.nd.space, s.av, .bool s.nd.dup, .int .i64 s.nd.parent, .int .i64 s.nd.content, s.kv, .int .i64 s.nd.frm, .int .i64 s.nd.to] 116)).alloc (.cells #[.int .i64 m.nd.kind, .string m.nd.name, .string m.nd.text, .int .i64 m.nd.space, m.av, .bool m.nd.dup, .int .i64 m.nd.parent, .int .i64 m.nd.content, m.kv, .int .i64 m.nd.frm, .int .i64 m.nd.to] 46)) := (Ext.alloc _ _).trans (Ext.alloc _ _)
  have c1 : ((w.alloc (.cells #[.int .i64 s.nd.kind, .string s.nd.name, .string s.nd.text, .int .i64 s.nd.space, s.av, .bool s.nd.dup, .int .i64 s.nd.parent, .int .i64 s.nd.content, s.kv, .int .i64 s.nd.frm, .int .i64 s.nd.to] 116)).alloc (.cells #[.int .i64 m.nd.kind, .string m.nd.name, .string m.nd.text, .int .i64 m.nd.space, m.av, .bool m.nd.dup, .int .i64 m.nd.parent, .int .i64 m.nd.content, m.kv, .int .i64 m.nd.frm, .int .i64 m.nd.to] 46)).heap[w.heap.size]? = some (.cells #[.int .i64 s.nd.kind, .string s.nd.name, .string s.nd.text, .int .i64 s.nd.space, s.av, .bool s.nd.dup, .int .i64 s.nd.parent, .int .i64 s.nd.content, s.kv, .int .i64 s.nd.frm, .int .i64 s.nd.to] 116 (0, 0)) := by
    rw [heap_alloc_h, size_alloc_h, if_neg (by omega), heap_alloc_h, if_pos rfl]
  have c2 : ((w.alloc (.cells #[.int .i64 s.nd.kind, .string s.nd.name, .string s.nd.text, .int .i64 s.nd.space, s.av, .bool s.nd.dup, .int .i64 s.nd.parent, .int .i64 s.nd.content, s.kv, .int .i64 s.nd.frm, .int .i64 s.nd.to] 116)).alloc (.cells #[.int .i64 m.nd.kind, .string m.nd.name, .string m.nd.text, .int .i64 m.nd.space, m.av, .bool m.nd.dup, .int .i64 m.nd.parent, .int .i64 m.nd.content, m.kv, .int .i64 m.nd.frm, .int .i64 m.nd.to] 46)).heap[w.heap.size + 1]? = some (.cells #[.int .i64 m.nd.kind, .string m.nd.name, .string m.nd.text, .int .i64 m.nd.space, m.av, .bool m.nd.dup, .int .i64 m.nd.parent, .int .i64 m.nd.content, m.kv, .int .i64 m.nd.frm, .int .i64 m.nd.to] 46 (0, 0)) := by
    rw [heap_alloc_h, size_alloc_h, if_pos rfl]
  rw [esv, emv] at c1 c2 hx ⊢
  have hm' : RdAt w 2 (.slice ma m.nd.attrs.length mc) (attrCells m.nd.attrs) := by rw [← emv]; exact hm
  refine Gives.of_W Tryz.call103 Tryz.func103 rfl Tryz.ntmps103 (by simp) ?_; intro Z hZ
  (repeat (first | (with_reducible first | (refine hK _ _ ?_; clear hK K) | refine (show ∀ σ' w', _ → K σ' w' from by assumption) _ _ ?_ | refine W_seq_k fun K hK => ?_ | refine W_block_k fun K hK => ?_ | refine W_skip ?_ | refine W_ret ?_) | ((first | ((with_reducible refine W_id ?_); refine W_reg (by decide) (by rfl) ?_) | (with_reducible first | refine W_cond ?_ | refine hZ _ _ ?_ | refine W_exit ?_ | refine Wo_id ?_) | skip); repeat1' simp only [push_cast, seval, -Nat.reduceSubDiff, vcells_agg, size_alloc_h]) | ((repeat ((fail_if_success with_reducible refine hK _ _ ?_); clear hK K)); (with_reducible refine hK _ _ ?_); clear hK K)))
  have no : likeN s.nd m.nd = false → ∀ w2, Ext w w2 → (false = likeN s.nd m.nd ∧ Ext w w2) := fun e w2 h => ⟨by rw [e], h⟩
  generalize (w.alloc (.cells #[.int .i64 s.nd.kind, .string s.nd.name, .string s.nd.text, .int .i64 s.nd.space, .slice sa s.nd.attrs.length sc, .bool s.nd.dup, .int .i64 s.nd.parent, .int .i64 s.nd.content, s.kv, .int .i64 s.nd.frm, .int .i64 s.nd.to] 116)).alloc (.cells #[.int .i64 m.nd.kind, .string m.nd.name, .string m.nd.text, .int .i64 m.nd.space, .slice ma m.nd.attrs.length mc, .bool m.nd.dup, .int .i64 m.nd.parent, .int .i64 m.nd.content, m.kv, .int .i64 m.nd.frm, .int .i64 m.nd.to] 46) = w1 at *
  have f1 : w1.heap[w.heap.size + 1]? = some (.cells #[.int .i64 m.nd.kind, .string m.nd.name, .string m.nd.text, .int .i64 m.nd.space, .slice ma m.nd.attrs.length mc, .bool m.nd.dup, .int .i64 m.nd.parent, .int .i64 m.nd.content, m.kv, .int .i64 m.nd.frm, .int .i64 m.nd.to] 46 (0, 0)) := c2
  by_cases h1 : m.nd.kind = 3
  · by_cases h2 : m.nd.space = s.nd.space
    · by_cases h3 : m.nd.name = s.nd.name
      · by_cases h4 : m.nd.attrs.length = s.nd.attrs.length
        · have h4' : (m.nd.attrs.length : Int) = s.nd.attrs.length := by omega
          have hlike : likeN s.nd m.nd = s.nd.attrs.all fun x => m.nd.attrs.any (hasA x) := by simp [likeN, h1, h2, h3, h4]
          (repeat (first | (with_reducible first | (refine hK _ _ ?_; clear hK K) | refine (show ∀ σ' w', _ → K σ' w' from by assumption) _ _ ?_ | refine W_seq_k fun K hK => ?_ | refine W_block_k fun K hK => ?_ | refine W_skip ?_ | refine W_ret ?_) | ((first | ((with_reducible refine W_id ?_); refine W_reg (by decide) (by rfl) ?_) | (with_reducible first | refine W_cond ?_ | refine hZ _ _ ?_ | refine W_exit ?_ | refine Wo_id ?_) | skip); repeat1' simp only [push_cast, seval, -Nat.reduceSubDiff, cell_h, c1, c2, cellO_cells, h1, h2, h3, h4', not_true_eq_false]) | ((repeat ((fail_if_success with_reducible refine hK _ _ ?_); clear hK K)); (with_reducible refine hK _ _ ?_); clear hK K)))
          refine W_loop (S := Nat) (fun k => [(3, .pointer (some ⟨w.heap.size + 1, 0, none⟩)), (34, .slice sa s.nd.attrs.length sc), (35, .int .i64 (s.nd.attrs.length : Int)), (36, .int .i64 (k : Int))])
            (fun k w2 => k ≤ s.nd.attrs.length ∧ (∀ x ∈ s.nd.attrs.take k, m.nd.attrs.any (hasA x) = true) ∧ Ext w1 w2) (fun k => s.nd.attrs.length - k) 0 ?_ ?_ ?_
          · (repeat simp only [push_cast, seval, -Nat.reduceSubDiff])
          · exact ⟨by omega, by simp, Ext.refl _⟩
          rintro k w2 ⟨hk, hall, hx2⟩
          by_cases hkl : k < s.nd.attrs.length
          · obtain ⟨x, hxk⟩ : ∃ x, s.nd.attrs[k]? = some x := ⟨_, List.getElem?_eq_getElem hkl⟩
            obtain ⟨_, _, e, _, hcell2⟩ := attrs_len ((hs.ext hx).ext hx2)
            rw [esv] at e
            cases e
            obtain ⟨b, o, rfl, q1, q2⟩ := hcell2 k x hxk
            rw [cell_h] at q1 q2
            have b0 : (k : Int) < (s.nd.attrs.length : Int) := by omega
            have b1 : (0 : Int) ≤ (k : Int) := by omega
            have b2 : inI64 ((k : Int) + 1) := by unfold inI64; omega
            clear hcell2 hsc
            (repeat (first | (with_reducible first | (refine hK _ _ ?_; clear hK K) | refine (show ∀ σ' w', _ → K σ' w' from by assumption) _ _ ?_ | refine W_seq_k fun K hK => ?_ | refine W_block_k fun K hK => ?_ | refine W_skip ?_ | refine W_ret ?_) | ((first | ((with_reducible refine W_id ?_); refine W_reg (by decide) (by rfl) ?_) | (with_reducible first | refine W_cond ?_ | refine hZ _ _ ?_ | refine W_exit ?_ | refine Wo_id ?_) | skip); repeat1' simp only [push_cast, seval, -Nat.reduceSubDiff, cell_h, can_h, cellO_cells, canO_cells, setO_cells, heap_set_h, heap_alloc_h, size_set_h, size_alloc_h, vcells_agg, succ_ne, ne_succ, List.setIfInBounds_toArray, List.set_cons_succ, List.set_cons_zero, drew_h, b0, b1, q1, q2, RunV_zero Tryz.zeroValue34]) | ((repeat ((fail_if_success with_reducible refine hK _ _ ?_); clear hK K)); (with_reducible refine hK _ _ ?_); clear hK K)))
            have z1 : (w2.alloc (.cells #[.string ⟨#[]⟩, .string ⟨#[]⟩] 34)).heap[w2.heap.size]? = some (.cells #[.string ⟨#[]⟩, .string ⟨#[]⟩] 34 (0, 0)) := by rw [heap_alloc_h, if_pos rfl]
            have hp3 := setCells_all z1 (l := [.string x.1, .string x.2]) rfl
            have hx3 : Ext w2 (setCells (w2.alloc (.cells #[.string ⟨#[]⟩, .string ⟨#[]⟩] 34)) ⟨w2.heap.size, 0, none⟩ [.string x.1, .string x.2] 0) := Upd.trans (Ext.alloc w2 _) (Upd.setCells (F := fun b => b = w2.heap.size) (a := ⟨w2.heap.size, 0, none⟩) _ rfl _ 0) fun i hi e => by omega
            generalize setCells (w2.alloc (.cells #[.string ⟨#[]⟩, .string ⟨#[]⟩] 34)) ⟨w2.heap.size, 0, none⟩ [.string x.1, .string x.2] 0 = w3 at *
            have d2 := (hx2.trans hx3).blk c2
            (repeat (first | (with_reducible first | (refine hK _ _ ?_; clear hK K) | refine (show ∀ σ' w', _ → K σ' w' from by assumption) _ _ ?_ | refine W_seq_k fun K hK => ?_ | refine W_block_k fun K hK => ?_ | refine W_skip ?_ | refine W_ret ?_) | ((first | ((with_reducible refine W_id ?_); refine W_reg (by decide) (by rfl) ?_) | (with_reducible first | refine W_cond ?_ | refine hZ _ _ ?_ | refine W_exit ?_ | refine Wo_id ?_) | skip); repeat1' simp only [push_cast, seval, -Nat.reduceSubDiff, cell_h, d2, hp3, cellO_cells]) | ((repeat ((fail_if_success with_reducible refine hK _ _ ?_); clear hK K)); (with_reducible refine hK _ _ ?_); clear hK K)))
            refine (scont_c (((hm'.ext hx).ext hx2).ext hx3) (by omega) x).mono ?_
            rintro v w4 ⟨rfl, hx4⟩
            cases hany : m.nd.attrs.any (hasA x) with
            | true =>
              (repeat (first | (with_reducible first | (refine hK _ _ ?_; clear hK K) | refine (show ∀ σ' w', _ → K σ' w' from by assumption) _ _ ?_ | refine W_seq_k fun K hK => ?_ | refine W_block_k fun K hK => ?_ | refine W_skip ?_ | refine W_ret ?_) | ((first | ((with_reducible refine W_id ?_); refine W_reg (by decide) (by rfl) ?_) | (with_reducible first | refine W_cond ?_ | refine hZ _ _ ?_ | refine W_exit ?_ | refine Wo_id ?_) | skip); repeat1' simp only [push_cast, seval, -Nat.reduceSubDiff, b2]) | ((repeat ((fail_if_success with_reducible refine hK _ _ ?_); clear hK K)); (with_reducible refine hK _ _ ?_); clear hK K)))
              refine ⟨k + 1, by omega, ?_⟩
              (repeat simp only [push_cast, seval, -Nat.reduceSubDiff])
              refine ⟨by omega, fun y hy => ?_, hx2.trans (hx3.trans hx4)⟩
              rw [List.take_add_one, hxk] at hy
              simp only [Option.toList_some, List.mem_append, List.mem_singleton] at hy
              rcases hy with hy | rfl
              · exact hall y hy
              · exact hany
            | false =>
              (repeat (first | (with_reducible first | (refine hK _ _ ?_; clear hK K) | refine (show ∀ σ' w', _ → K σ' w' from by assumption) _ _ ?_ | refine W_seq_k fun K hK => ?_ | refine W_block_k fun K hK => ?_ | refine W_skip ?_ | refine W_ret ?_) | ((first | ((with_reducible refine W_id ?_); refine W_reg (by decide) (by rfl) ?_) | (with_reducible first | refine W_cond ?_ | refine hZ _ _ ?_ | refine W_exit ?_ | refine Wo_id ?_) | skip); repeat1' simp only [push_cast, seval, -Nat.reduceSubDiff]) | ((repeat ((fail_if_success with_reducible refine hK _ _ ?_); clear hK K)); (with_reducible refine hK _ _ ?_); clear hK K)))
              refine no ?_ _ (hx.trans (hx2.trans (hx3.trans hx4)))
              rw [hlike, List.all_eq_false]
              exact ⟨x, List.mem_of_getElem? hxk, by rw [hany]; decide⟩
          · have hke : k = s.nd.attrs.length := by omega
            subst hke
            rw [List.take_length] at hall
            have b0 : ¬ (s.nd.attrs.length : Int) < (s.nd.attrs.length : Int) := by omega
            (repeat (first | (with_reducible first | (refine hK _ _ ?_; clear hK K) | refine (show ∀ σ' w', _ → K σ' w' from by assumption) _ _ ?_ | refine W_seq_k fun K hK => ?_ | refine W_block_k fun K hK => ?_ | refine W_skip ?_ | refine W_ret ?_) | ((first | ((with_reducible refine W_id ?_); refine W_reg (by decide) (by rfl) ?_) | (with_reducible first | refine W_cond ?_ | refine hZ _ _ ?_ | refine W_exit ?_ | refine Wo_id ?_) | skip); repeat1' simp only [push_cast, seval, -Nat.reduceSubDiff, b0]) | ((repeat ((fail_if_success with_reducible refine hK _ _ ?_); clear hK K)); (with_reducible refine hK _ _ ?_); clear hK K)))
            refine ⟨?_, hx.trans hx2⟩
            rw [hlike]
            exact (List.all_eq_true.2 hall).symm
        · have h4' : ¬ (m.nd.attrs.length : Int) = s.nd.attrs.length := by omega
          (repeat (first | (with_reducible first | (refine hK _ _ ?_; clear hK K) | refine (show ∀ σ' w', _ → K σ' w' from by assumption) _ _ ?_ | refine W_seq_k fun K hK => ?_ | refine W_block_k fun K hK => ?_ | refine W_skip ?_ | refine W_ret ?_) | ((first | ((with_reducible refine W_id ?_); refine W_reg (by decide) (by rfl) ?_) | (with_reducible first | refine W_cond ?_ | refine hZ _ _ ?_ | refine W_exit ?_ | refine Wo_id ?_) | skip); repeat1' simp only [push_cast, seval, -Nat.reduceSubDiff, cell_h, c1, c2, cellO_cells, h1, h2, h3, h4', not_true_eq_false, not_false_eq_true]) | ((repeat ((fail_if_success with_reducible refine hK _ _ ?_); clear hK K)); (with_reducible refine hK _ _ ?_); clear hK K)))
          exact no (by simp [likeN, h4]) _ hx
      · (repeat (first | (with_reducible first | (refine hK _ _ ?_; clear hK K) | refine (show ∀ σ' w', _ → K σ' w' from by assumption) _ _ ?_ | refine W_seq_k fun K hK => ?_ | refine W_block_k fun K hK => ?_ | refine W_skip ?_ | refine W_ret ?_) | ((first | ((with_reducible refine W_id ?_); refine W_reg (by decide) (by rfl) ?_) | (with_reducible first | refine W_cond ?_ | refine hZ _ _ ?_ | refine W_exit ?_ | refine Wo_id ?_) | skip); repeat1' simp only [push_cast, seval, -Nat.reduceSubDiff, cell_h, c1, c2, cellO_cells, h1, h2, h3, not_true_eq_false, not_false_eq_true]) | ((repeat ((fail_if_success with_reducible refine hK _ _ ?_); clear hK K)); (with_reducible refine hK _ _ ?_); clear hK K)))
        exact no (by simp [likeN, h3]) _ hx
    · (repeat (first | (with_reducible first | (refine hK _ _ ?_; clear hK K) | refine (show ∀ σ' w', _ → K σ' w' from by assumption) _ _ ?_ | refine W_seq_k fun K hK => ?_ | refine W_block_k fun K hK => ?_ | refine W_skip ?_ | refine W_ret ?_) | ((first | ((with_reducible refine W_id ?_); refine W_reg (by decide) (by rfl) ?_) | (with_reducible first | refine W_cond ?_ | refine hZ _ _ ?_ | refine W_exit ?_ | refine Wo_id ?_) | skip); repeat1' simp only [push_cast, seval, -Nat.reduceSubDiff, cell_h, c1, c2, cellO_cells, h1, h2, not_true_eq_false, not_false_eq_true]) | ((repeat ((fail_if_success with_reducible refine hK _ _ ?_); clear hK K)); (with_reducible refine hK _ _ ?_); clear hK K)))
      exact no (by simp [likeN, h2]) _ hx
  · (repeat (first | (with_reducible first | (refine hK _ _ ?_; clear hK K) | refine (show ∀ σ' w', _ → K σ' w' from by assumption) _ _ ?_ | refine W_seq_k fun K hK => ?_ | refine W_block_k fun K hK => ?_ | refine W_skip ?_ | refine W_ret ?_) | ((first | ((with_reducible refine W_id ?_); refine W_reg (by decide) (by rfl) ?_) | (with_reducible first | refine W_cond ?_ | refine hZ _ _ ?_ | refine W_exit ?_ | refine Wo_id ?_) | skip); repeat1' simp only [push_cast, seval, -Nat.reduceSubDiff, cell_h, c1, c2, cellO_cells, h1, not_false_eq_true]) | ((repeat ((fail_if_success with_reducible refine hK _ _ ?_); clear hK K)); (with_reducible refine hK _ _ ?_); clear hK K)))
    exact no (by simp [likeN, h1]) _ hx
end Go.Proofs.YtgnnlaeikcnhcaaGreatDoor
end
section
set_option linter.unusedSimpArgs false
set_option linter.unusedVariables false
namespace Go.Vk
structure MvS (L : List Nd) (N : Nat) (pk ck : List Int) : Prop where
  gd : Gd L
  len : L.length = N
  big : 4 ≤ N
  k1 : (gN L 1).kids = pk
  k3 : (gN L 3).kids = ck
  n1 : (gN L 1).kind = 3
  n2 : (gN L 2).kind = 3
  n3 : (gN L 3).kind = 6
  p1 : (gN L 1).parent = -1
  p2 : (gN L 2).parent = -1
  c2 : (gN L 2).content = 3
  at_ : ∀ n ∈ L, n.attrs = []
theorem MvS.p3 {L : List Nd} {N : Nat} {pk ck : List Int} (h : MvS L N pk ck) : (gN L 3).parent = -1 := by
  have h1 := h.gd.low 3
  have h2 := h.gd.knd 3
  rw [h.n3] at h2
  by_cases hp : 0 ≤ (gN L 3).parent
  · have := h2 hp; simp [kidK] at this
  · omega
theorem MvS.up1 {L : List Nd} {N : Nat} {pk ck : List Int} (h : MvS L N pk ck) : upN L 1 = -1 := by rw [upN_g, h.n1, h.p1]; decide
theorem MvS.up2 {L : List Nd} {N : Nat} {pk ck : List Int} (h : MvS L N pk ck) : upN L 2 = -1 := by rw [upN_g, h.n2, h.p2]; decide
theorem MvS.up3 {L : List Nd} {N : Nat} {pk ck : List Int} (h : MvS L N pk ck) : upN L 3 = 2 := by rw [upN_g, h.n3, if_pos rfl]; rfl
/-- who stands above the two -/
theorem MvS.above1 {L : List Nd} {N : Nat} {pk ck : List Int} (h : MvS L N pk ck) (i : Int) : aboveN L i 1 = decide (1 = i) := by
  obtain ⟨n, hn⟩ : ∃ n, L.length = n + 4 := ⟨L.length - 4, by have := h.len; have := h.big; omega⟩
  rw [aboveN, aboveF_ab, hn]
  simp [ab, h.up1]
theorem MvS.above3 {L : List Nd} {N : Nat} {pk ck : List Int} (h : MvS L N pk ck) (i : Int) : aboveN L i 3 = (decide (3 = i) || decide (2 = i)) := by
  obtain ⟨n, hn⟩ : ∃ n, L.length = n + 4 := ⟨L.length - 4, by have := h.len; have := h.big; omega⟩
  rw [aboveN, aboveF_ab, hn]
  simp [ab, h.up3, h.up2]
theorem addK_neg (i : Int) (l : List Int) : addK (-1) i l = l ++ [i] := by simp [addK]
/-- a node is hung that was nobody's kid, or another one's -/
theorem MvS.hang {L : List Nd} {N : Nat} {pk ck : List Int} (h : MvS L N pk ck) {i p : Nat} (hi : 4 ≤ i) (hil : i < N) (hp : p = 1 ∨ p = 3) (hg : Gd (hangN L p (-1) i)) :
    MvS (hangN L p (-1) i) N (if p = 1 then pk.erase i ++ [(i : Int)] else pk.erase i) (if p = 3 then ck.erase i ++ [(i : Int)] else ck.erase i) := by
  have hl := h.len
  have hb := h.big
  have hgn := gN_hang h.gd (i := i) (p := p) (by omega) (by omega) (-1)
  have ne : ∀ t : Int, t < 4 → ¬ t = (i : Int) := fun t ht => by omega
  refine ⟨hg, by rw [hangN_len]; exact hl, hb, ?_, ?_, ?_, ?_, ?_, ?_, ?_, ?_, fun n hn => ?_⟩
  · rw [hgn]
    show (if (1 : Int) = (p : Nat) then addK (-1) i ((gN L 1).kids.erase i) else (gN L 1).kids.erase i) = _
    rw [h.k1, addK_neg]
    rcases hp with rfl | rfl
    · rw [if_pos rfl]; exact if_pos rfl
    · rw [if_neg (by decide), if_neg (by decide)]
  · rw [hgn]
    show (if (3 : Int) = (p : Nat) then addK (-1) i ((gN L 3).kids.erase i) else (gN L 3).kids.erase i) = _
    rw [h.k3, addK_neg]
    rcases hp with rfl | rfl
    · rw [if_neg (by decide), if_neg (by decide)]
    · rw [if_pos rfl]; exact if_pos rfl
  · rw [hgn]; exact h.n1
  · rw [hgn]; exact h.n2
  · rw [hgn]; exact h.n3
  · rw [hgn]; simp only [if_neg (ne 1 (by decide))]; exact h.p1
  · rw [hgn]; simp only [if_neg (ne 2 (by decide))]; exact h.p2
  · rw [hgn]; exact h.c2
  · obtain ⟨k, hk⟩ := List.getElem?_of_mem hn
    have e := gN_nat hk
    rw [hgn] at e
    have e2 : n.attrs = (gN L k).attrs := by rw [← e]
    rw [e2]
    by_cases hkl : k < L.length
    · exact h.at_ _ (List.mem_of_getElem? (gN_some hkl))
    · rw [gN_none (by omega)]; rfl
theorem MvS.push {L : List Nd} {N : Nat} {pk ck : List Int} (h : MvS L N pk ck) {n : Nd} (hp : n.parent = -1) (hk : n.kids = []) (ha : n.attrs = []) (h1 : n.kind ≠ 1) : MvS (L ++ [n]) (N + 1) pk ck := by
  have hl := h.len
  have hb := h.big
  have ne : ∀ t : Int, t < 4 → gN (L ++ [n]) t = gN L t := fun t ht => by rw [gN_push, if_neg (by omega)]
  refine ⟨h.gd.push hp hk h1, by simp [hl], by omega, ?_, ?_, ?_, ?_, ?_, ?_, ?_, ?_, fun m hm => ?_⟩
  · rw [ne 1 (by decide)]; exact h.k1
  · rw [ne 3 (by decide)]; exact h.k3
  · rw [ne 1 (by decide)]; exact h.n1
  · rw [ne 2 (by decide)]; exact h.n2
  · rw [ne 3 (by decide)]; exact h.n3
  · rw [ne 1 (by decide)]; exact h.p1
  · rw [ne 2 (by decide)]; exact h.p2
  · rw [ne 2 (by decide)]; exact h.c2
  · simp only [List.mem_append, List.mem_singleton] at hm
    rcases hm with hm | rfl
    · exact h.at_ m hm
    · exact ha
/-- a new node behind the kids of one of the two -/
theorem MvS.add {L : List Nd} {N : Nat} {pk ck : List Int} (h : MvS L N pk ck) {n : Nd} (hk : kidK n.kind = true) (hp : n.parent = -1) (hks : n.kids = []) (ha : n.attrs = []) {p : Nat} (hp2 : p = 1 ∨ p = 3) :
    ∃ L', appendN (L ++ [n]) p N = (L', 0) ∧ MvS L' (N + 1) (if p = 1 then pk ++ [(N : Int)] else pk) (if p = 3 then ck ++ [(N : Int)] else ck) := by
  have hl := h.len
  have hb := h.big
  have h' := h.push hp hks ha (kidK_one hk)
  have hh : holdsN (L ++ [n]) p = true := by
    rw [holdsN_g]
    rcases hp2 with rfl | rfl
    · show holdK (gN (L ++ [n]) 1).kind = true; rw [h'.n1]; decide
    · show holdK (gN (L ++ [n]) 3).kind = true; rw [h'.n3]; decide
  have hn : hangsN (L ++ [n]) N = true := by rw [hangsN_g, gN_push, if_pos (by omega)]; exact hk
  have hab : aboveN (L ++ [n]) N p = false := by
    rcases hp2 with rfl | rfl
    · show aboveN (L ++ [n]) N 1 = false
      rw [h'.above1]; simp; omega
    · show aboveN (L ++ [n]) N 3 = false
      rw [h'.above3]; simp; omega
  have e : appendN (L ++ [n]) p N = (hangN (L ++ [n]) p (-1) N, 0) := by
    unfold appendN
    rw [if_pos ⟨hh, hn, hab⟩]
    simp
  refine ⟨_, e, ?_⟩
  have hg : Gd (hangN (L ++ [n]) p (-1) N) := by have := Go.Proofs.YtgnnlaeikcnhcaaGreatDoor.append_gd h'.gd p N; rw [e] at this; exact this
  have := h'.hang (i := N) (p := p) hb (by omega) hp2 hg
  have e1 : pk.erase (N : Int) = pk := List.erase_of_not_mem fun hm => by
    rw [← h.k1] at hm
    have := (h.gd.range (j := (N : Int)) (by have := (h.gd.kid 1 N).1 hm; omega)).1; omega
  have e2 : ck.erase (N : Int) = ck := List.erase_of_not_mem fun hm => by
    rw [← h.k3] at hm
    have := (h.gd.range (j := (N : Int)) (by have := (h.gd.kid 3 N).1 hm; omega)).1; omega
  rw [e1, e2] at this
  exact this
theorem MvS.holds {L : List Nd} {N : Nat} {pk ck : List Int} (h : MvS L N pk ck) : holdsN L 1 = true ∧ holdsN L 3 = true := by
  refine ⟨?_, ?_⟩
  · rw [holdsN_g, h.n1]; decide
  · rw [holdsN_g, h.n3]; decide
/-- the template among the kids: then its content stands below them -/
theorem MvS.last {L : List Nd} {N : Nat} {pk ck : List Int} (h : MvS L N pk ck) : ∃ L', appendN L 1 2 = (L', 0) ∧ moveN L' 1 3 = (L', 2) ∧ Gd L' ∧ L'.length = N ∧ ∀ n ∈ L', n.attrs = [] := by
  have hb := h.big
  have hl := h.len
  have hh : hangsN L 2 = true := by rw [hangsN_g, h.n2]; decide
  have hab : aboveN L 2 1 = false := by rw [h.above1]; decide
  have e : appendN L 1 2 = (hangN L 1 (-1) 2, 0) := if_pos ⟨h.holds.1, hh, hab⟩
  have hg : Gd (hangN L 1 (-1) 2) := by have := Go.Proofs.YtgnnlaeikcnhcaaGreatDoor.append_gd h.gd 1 2; rw [e] at this; exact this
  have hgn := gN_hang h.gd (i := 2) (p := 1) (by omega) (by omega) (-1)
  have hlen : (hangN L 1 (-1) 2).length = N := by rw [hangN_len]; exact hl
  refine ⟨_, e, if_neg fun hx => ?_, hg, hlen, fun n hn => ?_⟩
  · have hx := hx.2.2
    obtain ⟨n, hn⟩ : ∃ n, (hangN L 1 (-1) 2).length = n + 4 := ⟨N - 4, by omega⟩
    have u3 : upN (hangN L 1 (-1) 2) 3 = 2 := by rw [upN_g, hgn]; simp [h.n3]
    have u2 : upN (hangN L 1 (-1) 2) 2 = 1 := by rw [upN_g, hgn]; simp [h.n2]
    rw [aboveN, aboveF_ab, hn] at hx
    simp [ab, u3, u2] at hx
  · obtain ⟨k, hk⟩ := List.getElem?_of_mem hn
    have e := gN_nat hk
    rw [hgn] at e
    have e2 : n.attrs = (gN L k).attrs := by rw [← e]
    rw [e2]
    by_cases hkl : k < L.length
    · exact h.at_ _ (List.mem_of_getElem? (gN_some hkl))
    · rw [gN_none (by omega)]; rfl
end Go.Vk
end
section
set_option linter.unusedSimpArgs false
set_option linter.unusedVariables false
namespace Go.Vk
/-- other memory of our own changes -/
theorem At.app {G Q : Nat → Prop} {w0 w w' : World} {P : Nat → Prop} {pa : Nat} {L : List Nd} (h : At w0 w P pa L) (hu : Upd G w w') (hG : ∀ b, b < w.heap.size → G b → P b ∧ w0.heap.size ≤ b) (hQ : ∀ b, Q b → P b ∨ (w.heap.size ≤ b ∧ b < w'.heap.size)) : At w0 w' Q pa L := by
  have hs := hu.alike.size
  have h1 := h.ar.mono (G := fun b => AF w0 P b ∧ b < w.heap.size) fun b hl hf => ⟨hf, hl⟩
  have h2 := h1.frame hu fun b hf hg => hf.1.2 (hG b hf.2 hg).1
  refine ⟨h2.mono fun b _ hf => ⟨hf.1.1, fun hq => ?_⟩, h.gd, Upd.trans h.ext hu fun i hi hg => ?_, fun b hb => ?_⟩
  · rcases hQ b hq with hp | hp
    · exact hf.1.2 hp
    · have := hf.2; omega
  · have h0 := h.ext.alike.size
    have := (hG i (by omega) hg).2; omega
  · rcases hQ b hb with hp | hp
    · have := h.low b hp; omega
    · exact hp.2
end Go.Vk
end
section
set_option linter.unusedSimpArgs false
set_option linter.unusedVariables false
namespace Go.Vk
open Go
def LsAt (w0 w : World) (Q : Nat → Prop) (pl pa : Nat) (L : List Nd) (l : List Int) : Prop :=
  ∃ lv bo, FL w pl (.pointer (some ⟨pa, 0, none⟩)) lv l bo ∧ At w0 w (fun b => Q b ∨ b = pl ∨ bo = some b) pa L ∧ w0.heap.size ≤ pl ∧ (∀ b, bo = some b → w0.heap.size ≤ b ∧ ¬ Q b) ∧ ¬ Q pl
theorem LsAt.pass {w0 w w' : World} {Q : Nat → Prop} {pl pa : Nat} {L : List Nd} {l : List Int} (h : LsAt w0 w Q pl pa L l) (hx : Ext w w') : LsAt w0 w' Q pl pa L l := by
  obtain ⟨lv, bo, h1, h2, h3, h4, h5⟩ := h
  exact ⟨lv, bo, h1.ext hx, h2.pass hx, h3, h4, h5⟩
theorem ls_put {w0 w w2 : World} {Q : Nat → Prop} {pl pa : Nat} {L : List Nd} {l l' : List Int} {lv u : Value} {bo bo' : Option Nat} (hF : FL w pl (.pointer (some ⟨pa, 0, none⟩)) lv l bo) (hA : At w0 w (fun b => Q b ∨ b = pl ∨ bo = some b) pa L)
    (hpl : w0.heap.size ≤ pl) (hbo : ∀ b, bo = some b → w0.heap.size ≤ b ∧ ¬ Q b) (hQ : ¬ Q pl) (hQl : ∀ b, Q b → b < w.heap.size) (g1 : SlAt w2 1 u (intCells l') bo') (g2 : Upd (fun b => bo = some b) w w2) (g3 : ∀ b, bo' = some b → bo = some b ∨ w.heap.size ≤ b) :
    canStore w2 ⟨pl, 1, none⟩ ∧ LsAt w0 (w2.setCell ⟨pl, 1, none⟩ u) Q pl pa L l' ∧ Upd (AF w0 Q) w (w2.setCell ⟨pl, 1, none⟩ u) := by
  have hlt := blk_lt hF.head
  have hnb : ¬ bo = some pl := hF.ne
  have hp2 := (g2.same pl hlt hnb).trans hF.head
  have h0 := hA.ext.alike.size
  have hne' : bo' ≠ some pl := fun e => by
    rcases g3 pl e with h | h
    · exact hnb h
    · omega
  have hs2 := g2.alike.size
  have up : Upd (fun b => b = pl) w2 (w2.setCell ⟨pl, 1, none⟩ u) := Upd.setCell (F := fun b => b = pl) (a := ⟨pl, 1, none⟩) w2 rfl u
  refine ⟨by rw [can_h, hp2, canO_cells]; exact Nat.lt_succ_self 1, ⟨u, bo', ⟨?_, g1.upd up fun b hb e => hne' (by rw [hb, e]), hne'⟩, ?_, hpl, fun b hb => ?_, hQ⟩, ?_⟩
  · rw [heap_set_h, if_pos rfl, hp2]; rfl
  · have hA2 : At w0 w2 (fun b => Q b ∨ b = pl ∨ bo' = some b) pa L := hA.app g2 (fun b hb e => ⟨.inr (.inr e), (hbo b e).1⟩) fun b hb => by
      rcases hb with hb | hb | hb
      · exact .inl (.inl hb)
      · exact .inl (.inr (.inl hb))
      · rcases g3 b hb with h | h
        · exact .inl (.inr (.inr h))
        · exact .inr ⟨h, by rw [hb] at g1; exact g1.lt⟩
    exact hA2.frame up fun b e => ⟨.inr (.inl e), e ▸ hpl⟩
  · rcases g3 b hb with h | h
    · exact hbo b h
    · exact ⟨by omega, fun hq => by have := hQl b hq; omega⟩
  · refine Upd.trans (g2.mono fun b _ e => ⟨(hbo b e).1, (hbo b e).2⟩) up fun b _ e => ⟨e ▸ hpl, e ▸ hQ⟩
def layN (l : List Int) (k : Nat) (i : Int) : List Int × Int := if 64 ≤ l.length then (l, 3) else (l.take k ++ i :: l.drop k, 0)
end Go.Vk
namespace Go.Proofs.YtgnnlaeikcnhcaaGreatDoor
open Go Go.Vk
set_option maxHeartbeats 40000000
section
variable {w0 w : World} {Q : Nat → Prop} {pl pa : Nat} {L : List Nd} {l : List Int}
theorem lay_c (h : LsAt w0 w Q pl pa L l) (hl : l.length < 10000) (k : Nat) (hk : k ≤ l.length) (i : Int) : Gives Tryz.prog 97 #[.pointer (some ⟨pl, 0, none⟩), .int .i64 (k : Int), .int .i64 i] w fun v w' => v = .int .i64 (layN l k i).2 ∧ LsAt w0 w' Q pl pa L (layN l k i).1 ∧ Upd (AF w0 Q) w w' := by
  have h' := h
  obtain ⟨lv, bo, hF, hA, hpl, hbo, hQ⟩ := h
  have hQl : ∀ b, Q b → b < w.heap.size := fun b hb => hA.low b (.inl hb)
  have h1 := hF.c1
  obtain ⟨a, c, rfl, hc⟩ := hF.sl.ints_len
  by_cases hb : 64 ≤ l.length
  · have b0 : (64 : Int) ≤ (l.length : Int) := by omega
    have e : layN l k i = (l, 3) := if_pos hb
    rw [e]
    refine Gives.of_W Tryz.call97 Tryz.func97 rfl Tryz.ntmps97 (by simp) ?_; intro Z hZ
    (repeat (first | (with_reducible first | (refine hK _ _ ?_; clear hK K) | refine (show ∀ σ' w', _ → K σ' w' from by assumption) _ _ ?_ | refine W_seq_k fun K hK => ?_ | refine W_block_k fun K hK => ?_ | refine W_skip ?_ | refine W_ret ?_) | ((first | ((with_reducible refine W_id ?_); refine W_reg (by decide) (by rfl) ?_) | (with_reducible first | refine W_cond ?_ | refine hZ _ _ ?_ | refine W_exit ?_ | refine Wo_id ?_) | skip); repeat1' simp only [push_cast, seval, -Nat.reduceSubDiff, h1, b0]) | ((repeat ((fail_if_success with_reducible refine hK _ _ ?_); clear hK K)); (with_reducible refine hK _ _ ?_); clear hK K)))
    exact ⟨h', Upd.refl _ _⟩
  · have b0 : ¬ (64 : Int) ≤ (l.length : Int) := by omega
    have e : layN l k i = (l.take k ++ i :: l.drop k, 0) := if_neg hb
    rw [e]
    refine Gives.of_W Tryz.call97 Tryz.func97 rfl Tryz.ntmps97 (by simp) ?_; intro Z hZ
    (repeat (first | (with_reducible first | (refine hK _ _ ?_; clear hK K) | refine (show ∀ σ' w', _ → K σ' w' from by assumption) _ _ ?_ | refine W_seq_k fun K hK => ?_ | refine W_block_k fun K hK => ?_ | refine W_skip ?_ | refine W_ret ?_) | ((first | ((with_reducible refine W_id ?_); refine W_reg (by decide) (by rfl) ?_) | (with_reducible first | refine W_cond ?_ | refine hZ _ _ ?_ | refine W_exit ?_ | refine Wo_id ?_) | skip); repeat1' simp only [push_cast, seval, -Nat.reduceSubDiff, h1, b0]) | ((repeat ((fail_if_success with_reducible refine hK _ _ ?_); clear hK K)); (with_reducible refine hK _ _ ?_); clear hK K)))
    refine bs_one sty28 (by decide) (by decide) (v := .int .i64 i) rfl ?_
    have hx := Ext.alloc w (.cells (Value.int .i64 i).cells 3)
    have hb1 : (w.alloc (.cells (Value.int .i64 i).cells 3)).heap[w.heap.size]? = some (.cells #[.int .i64 i] 3 (0, 0)) := by rw [heap_alloc_h, if_pos rfl]; rfl
    have hF1 := hF.ext hx
    have hA1 := hA.pass hx
    have hne : bo ≠ some w.heap.size := fun e => by
      have := hF.sl; rw [e] at this; have := this.lt; omega
    refine (insert_c hF1.sl (by omega) hb1 hne k hk).mono ?_
    rintro v w2 ⟨bo', g1, g2, g3⟩
    have hsz : (w.alloc (.cells (Value.int .i64 i).cells 3)).heap.size = w.heap.size + 1 := size_alloc_h _ _
    obtain ⟨k1, k2, k3⟩ := ls_put hF1 hA1 hpl hbo hQ (fun b hb => by have := hQl b hb; omega) g1 g2 g3
    obtain ⟨va, vn, vc, rfl, _, _⟩ := g1.len
    (repeat (first | (with_reducible first | (refine hK _ _ ?_; clear hK K) | refine (show ∀ σ' w', _ → K σ' w' from by assumption) _ _ ?_ | refine W_seq_k fun K hK => ?_ | refine W_block_k fun K hK => ?_ | refine W_skip ?_ | refine W_ret ?_) | ((first | ((with_reducible refine W_id ?_); refine W_reg (by decide) (by rfl) ?_) | (with_reducible first | refine W_cond ?_ | refine hZ _ _ ?_ | refine W_exit ?_ | refine Wo_id ?_) | skip); repeat1' simp only [push_cast, seval, -Nat.reduceSubDiff, k1]) | ((repeat ((fail_if_success with_reducible refine hK _ _ ?_); clear hK K)); (with_reducible refine hK _ _ ?_); clear hK K)))
    exact ⟨k2, Upd.trans hx.upd k3 fun _ _ h => h⟩
theorem may_c (h : LsAt w0 w Q pl pa L l) (hb : L.length < 100000) (ha : ∀ n ∈ L, n.attrs.length < 1000000) (i : Int) : Gives Tryz.prog 102 #[.pointer (some ⟨pl, 0, none⟩), .int .i64 i] w fun v w' => v = .int .i64 (if ((nd? L i).getD zN).kind = 3 then 0 else 2) ∧ Ext w w' := by
  obtain ⟨lv, bo, hF, hA, hpl, hbo, hQ⟩ := h
  have h0 := hF.c0
  have hn := fnone_c hF
  by_cases hk : ((nd? L i).getD zN).kind = 3
  · rw [if_pos hk]
    refine Gives.of_W Tryz.call102 Tryz.func102 rfl Tryz.ntmps102 (by simp) ?_; intro Z hZ
    (repeat (first | (with_reducible first | (refine hK _ _ ?_; clear hK K) | refine (show ∀ σ' w', _ → K σ' w' from by assumption) _ _ ?_ | refine W_seq_k fun K hK => ?_ | refine W_block_k fun K hK => ?_ | refine W_skip ?_ | refine W_ret ?_) | ((first | ((with_reducible refine W_id ?_); refine W_reg (by decide) (by rfl) ?_) | (with_reducible first | refine W_cond ?_ | refine hZ _ _ ?_ | refine W_exit ?_ | refine Wo_id ?_) | skip); repeat1' simp only [push_cast, seval, -Nat.reduceSubDiff]) | ((repeat ((fail_if_success with_reducible refine hK _ _ ?_); clear hK K)); (with_reducible refine hK _ _ ?_); clear hK K)))
    refine hn.mono ?_
    rintro v w' ⟨rfl, rfl⟩
    (repeat (first | (with_reducible first | (refine hK _ _ ?_; clear hK K) | refine (show ∀ σ' w', _ → K σ' w' from by assumption) _ _ ?_ | refine W_seq_k fun K hK => ?_ | refine W_block_k fun K hK => ?_ | refine W_skip ?_ | refine W_ret ?_) | ((first | ((with_reducible refine W_id ?_); refine W_reg (by decide) (by rfl) ?_) | (with_reducible first | refine W_cond ?_ | refine hZ _ _ ?_ | refine W_exit ?_ | refine Wo_id ?_) | skip); repeat1' simp only [push_cast, seval, -Nat.reduceSubDiff, h0]) | ((repeat ((fail_if_success with_reducible refine hK _ _ ?_); clear hK K)); (with_reducible refine hK _ _ ?_); clear hK K)))
    refine (node_a hA hb ha i).mono ?_
    rintro v w2 ⟨m, rfl, em, _, _, hx, _, _⟩
    have ek : m.nd.kind = 3 := by rw [em]; exact hk
    (repeat (first | (with_reducible first | (refine hK _ _ ?_; clear hK K) | refine (show ∀ σ' w', _ → K σ' w' from by assumption) _ _ ?_ | refine W_seq_k fun K hK => ?_ | refine W_block_k fun K hK => ?_ | refine W_skip ?_ | refine W_ret ?_) | ((first | ((with_reducible refine W_id ?_); refine W_reg (by decide) (by rfl) ?_) | (with_reducible first | refine W_cond ?_ | refine hZ _ _ ?_ | refine W_exit ?_ | refine Wo_id ?_) | skip); repeat1' simp only [push_cast, seval, -Nat.reduceSubDiff, fld0, ek, not_true_eq_false]) | ((repeat ((fail_if_success with_reducible refine hK _ _ ?_); clear hK K)); (with_reducible refine hK _ _ ?_); clear hK K)))
    exact hx
  · rw [if_neg hk]
    refine Gives.of_W Tryz.call102 Tryz.func102 rfl Tryz.ntmps102 (by simp) ?_; intro Z hZ
    (repeat (first | (with_reducible first | (refine hK _ _ ?_; clear hK K) | refine (show ∀ σ' w', _ → K σ' w' from by assumption) _ _ ?_ | refine W_seq_k fun K hK => ?_ | refine W_block_k fun K hK => ?_ | refine W_skip ?_ | refine W_ret ?_) | ((first | ((with_reducible refine W_id ?_); refine W_reg (by decide) (by rfl) ?_) | (with_reducible first | refine W_cond ?_ | refine hZ _ _ ?_ | refine W_exit ?_ | refine Wo_id ?_) | skip); repeat1' simp only [push_cast, seval, -Nat.reduceSubDiff]) | ((repeat ((fail_if_success with_reducible refine hK _ _ ?_); clear hK K)); (with_reducible refine hK _ _ ?_); clear hK K)))
    refine hn.mono ?_
    rintro v w' ⟨rfl, rfl⟩
    (repeat (first | (with_reducible first | (refine hK _ _ ?_; clear hK K) | refine (show ∀ σ' w', _ → K σ' w' from by assumption) _ _ ?_ | refine W_seq_k fun K hK => ?_ | refine W_block_k fun K hK => ?_ | refine W_skip ?_ | refine W_ret ?_) | ((first | ((with_reducible refine W_id ?_); refine W_reg (by decide) (by rfl) ?_) | (with_reducible first | refine W_cond ?_ | refine hZ _ _ ?_ | refine W_exit ?_ | refine Wo_id ?_) | skip); repeat1' simp only [push_cast, seval, -Nat.reduceSubDiff, h0]) | ((repeat ((fail_if_success with_reducible refine hK _ _ ?_); clear hK K)); (with_reducible refine hK _ _ ?_); clear hK K)))
    refine (node_a hA hb ha i).mono ?_
    rintro v w2 ⟨m, rfl, em, _, _, hx, _, _⟩
    have ek : ¬ m.nd.kind = 3 := by rw [em]; exact hk
    (repeat (first | (with_reducible first | (refine hK _ _ ?_; clear hK K) | refine (show ∀ σ' w', _ → K σ' w' from by assumption) _ _ ?_ | refine W_seq_k fun K hK => ?_ | refine W_block_k fun K hK => ?_ | refine W_skip ?_ | refine W_ret ?_) | ((first | ((with_reducible refine W_id ?_); refine W_reg (by decide) (by rfl) ?_) | (with_reducible first | refine W_cond ?_ | refine hZ _ _ ?_ | refine W_exit ?_ | refine Wo_id ?_) | skip); repeat1' simp only [push_cast, seval, -Nat.reduceSubDiff, fld0, ek, not_false_eq_true]) | ((repeat ((fail_if_success with_reducible refine hK _ _ ?_); clear hK K)); (with_reducible refine hK _ _ ?_); clear hK K)))
    exact hx
theorem lastF_sat (p : Int → Bool) (l : List Int) (fr : Int) : ∀ k : Nat, 0 ≤ lastF p l fr k → ∃ q : Nat, lastF p l fr k = q ∧ q < k ∧ fr ≤ q ∧ p (l.getD q 0) = true
  | 0, h => by simp [lastF] at h
  | k + 1, h => by
    rw [lastF] at h ⊢
    by_cases h1 : (k : Int) < fr
    · rw [if_pos h1] at h; omega
    · rw [if_neg h1] at h ⊢
      by_cases h2 : p (l.getD k 0) = true
      · rw [if_pos h2]; exact ⟨k, rfl, by omega, by omega, h2⟩
      · rw [if_neg h2] at h ⊢
        obtain ⟨q, e1, e2, e3, e4⟩ := lastF_sat p l fr k h
        exact ⟨q, e1, by omega, e3, e4⟩
theorem indexN_rng (l : List Int) (i : Int) : indexN l i < 0 ∨ ∃ q : Nat, indexN l i = q ∧ q < l.length := by
  unfold indexN
  split
  · exact .inl (by decide)
  · by_cases h : 0 ≤ lastF (fun y => decide (y = i)) l 0 l.length
    · obtain ⟨q, e, h1, _⟩ := lastF_sat _ _ _ _ h
      exact .inr ⟨q, e, h1⟩
    · exact .inl (by omega)
def removeN (l : List Int) (i : Int) : List Int × Int := if indexN l i < 0 then (l, 4) else (l.eraseIdx (indexN l i).toNat, 0)
theorem remove_c (h : LsAt w0 w Q pl pa L l) (hl : l.length < 10000) (i : Int) : Gives Tryz.prog 163 #[.pointer (some ⟨pl, 0, none⟩), .int .i64 i] w fun v w' => v = .int .i64 (removeN l i).2 ∧ LsAt w0 w' Q pl pa L (removeN l i).1 ∧ Upd (AF w0 Q) w w' := by
  have h' := h
  obtain ⟨lv, bo, hF, hA, hpl, hbo, hQ⟩ := h
  have hQl : ∀ b, Q b → b < w.heap.size := fun b hb => hA.low b (.inl hb)
  have hn := fnone_c hF
  rcases indexN_rng l i with hi | ⟨q, hi, hq⟩
  · have e : removeN l i = (l, 4) := if_pos hi
    rw [e]
    refine Gives.of_W Tryz.call163 Tryz.func163 rfl Tryz.ntmps163 (by simp) ?_; intro Z hZ
    (repeat (first | (with_reducible first | (refine hK _ _ ?_; clear hK K) | refine (show ∀ σ' w', _ → K σ' w' from by assumption) _ _ ?_ | refine W_seq_k fun K hK => ?_ | refine W_block_k fun K hK => ?_ | refine W_skip ?_ | refine W_ret ?_) | ((first | ((with_reducible refine W_id ?_); refine W_reg (by decide) (by rfl) ?_) | (with_reducible first | refine W_cond ?_ | refine hZ _ _ ?_ | refine W_exit ?_ | refine Wo_id ?_) | skip); repeat1' simp only [push_cast, seval, -Nat.reduceSubDiff]) | ((repeat ((fail_if_success with_reducible refine hK _ _ ?_); clear hK K)); (with_reducible refine hK _ _ ?_); clear hK K)))
    refine hn.mono ?_
    rintro v w' ⟨rfl, rfl⟩
    (repeat (first | (with_reducible first | (refine hK _ _ ?_; clear hK K) | refine (show ∀ σ' w', _ → K σ' w' from by assumption) _ _ ?_ | refine W_seq_k fun K hK => ?_ | refine W_block_k fun K hK => ?_ | refine W_skip ?_ | refine W_ret ?_) | ((first | ((with_reducible refine W_id ?_); refine W_reg (by decide) (by rfl) ?_) | (with_reducible first | refine W_cond ?_ | refine hZ _ _ ?_ | refine W_exit ?_ | refine Wo_id ?_) | skip); repeat1' simp only [push_cast, seval, -Nat.reduceSubDiff]) | ((repeat ((fail_if_success with_reducible refine hK _ _ ?_); clear hK K)); (with_reducible refine hK _ _ ?_); clear hK K)))
    refine (findex_c hF (by omega) i).mono ?_
    rintro v w2 ⟨rfl, hx⟩
    (repeat (first | (with_reducible first | (refine hK _ _ ?_; clear hK K) | refine (show ∀ σ' w', _ → K σ' w' from by assumption) _ _ ?_ | refine W_seq_k fun K hK => ?_ | refine W_block_k fun K hK => ?_ | refine W_skip ?_ | refine W_ret ?_) | ((first | ((with_reducible refine W_id ?_); refine W_reg (by decide) (by rfl) ?_) | (with_reducible first | refine W_cond ?_ | refine hZ _ _ ?_ | refine W_exit ?_ | refine Wo_id ?_) | skip); repeat1' simp only [push_cast, seval, -Nat.reduceSubDiff, hi]) | ((repeat ((fail_if_success with_reducible refine hK _ _ ?_); clear hK K)); (with_reducible refine hK _ _ ?_); clear hK K)))
    exact ⟨h'.pass hx, hx.upd⟩
  · have e : removeN l i = (l.eraseIdx q, 0) := by
      unfold removeN; rw [hi, if_neg (by omega)]; simp
    rw [e]
    have b0 : ¬ (q : Int) < 0 := by omega
    have b1 : inI64 ((q : Int) + 1) := by unfold inI64; omega
    refine Gives.of_W Tryz.call163 Tryz.func163 rfl Tryz.ntmps163 (by simp) ?_; intro Z hZ
    (repeat (first | (with_reducible first | (refine hK _ _ ?_; clear hK K) | refine (show ∀ σ' w', _ → K σ' w' from by assumption) _ _ ?_ | refine W_seq_k fun K hK => ?_ | refine W_block_k fun K hK => ?_ | refine W_skip ?_ | refine W_ret ?_) | ((first | ((with_reducible refine W_id ?_); refine W_reg (by decide) (by rfl) ?_) | (with_reducible first | refine W_cond ?_ | refine hZ _ _ ?_ | refine W_exit ?_ | refine Wo_id ?_) | skip); repeat1' simp only [push_cast, seval, -Nat.reduceSubDiff]) | ((repeat ((fail_if_success with_reducible refine hK _ _ ?_); clear hK K)); (with_reducible refine hK _ _ ?_); clear hK K)))
    refine hn.mono ?_
    rintro v w' ⟨rfl, rfl⟩
    (repeat (first | (with_reducible first | (refine hK _ _ ?_; clear hK K) | refine (show ∀ σ' w', _ → K σ' w' from by assumption) _ _ ?_ | refine W_seq_k fun K hK => ?_ | refine W_block_k fun K hK => ?_ | refine W_skip ?_ | refine W_ret ?_) | ((first | ((with_reducible refine W_id ?_); refine W_reg (by decide) (by rfl) ?_) | (with_reducible first | refine W_cond ?_ | refine hZ _ _ ?_ | refine W_exit ?_ | refine Wo_id ?_) | skip); repeat1' simp only [push_cast, seval, -Nat.reduceSubDiff]) | ((repeat ((fail_if_success with_reducible refine hK _ _ ?_); clear hK K)); (with_reducible refine hK _ _ ?_); clear hK K)))
    refine (findex_c hF (by omega) i).mono ?_
    rintro v w2 ⟨rfl, hx⟩
    rw [hi]
    have hF2 := hF.ext hx
    have hA2 := hA.pass hx
    have hs := hx.alike.size
    have h1 := hF2.c1
    (repeat (first | (with_reducible first | (refine hK _ _ ?_; clear hK K) | refine (show ∀ σ' w', _ → K σ' w' from by assumption) _ _ ?_ | refine W_seq_k fun K hK => ?_ | refine W_block_k fun K hK => ?_ | refine W_skip ?_ | refine W_ret ?_) | ((first | ((with_reducible refine W_id ?_); refine W_reg (by decide) (by rfl) ?_) | (with_reducible first | refine W_cond ?_ | refine hZ _ _ ?_ | refine W_exit ?_ | refine Wo_id ?_) | skip); repeat1' simp only [push_cast, seval, -Nat.reduceSubDiff, b0, b1, h1]) | ((repeat ((fail_if_success with_reducible refine hK _ _ ?_); clear hK K)); (with_reducible refine hK _ _ ?_); clear hK K)))
    refine (delete_c hF2.sl (by omega) q hq).mono ?_
    rintro v w3 ⟨g1, g2⟩
    obtain ⟨k1, k2, k3⟩ := ls_put hF2 hA2 hpl hbo hQ (fun b hb => by have := hQl b hb; omega) g1 g2 (fun b hb => .inl hb)
    obtain ⟨va, vn, vc, rfl, _, _⟩ := g1.len
    (repeat (first | (with_reducible first | (refine hK _ _ ?_; clear hK K) | refine (show ∀ σ' w', _ → K σ' w' from by assumption) _ _ ?_ | refine W_seq_k fun K hK => ?_ | refine W_block_k fun K hK => ?_ | refine W_skip ?_ | refine W_ret ?_) | ((first | ((with_reducible refine W_id ?_); refine W_reg (by decide) (by rfl) ?_) | (with_reducible first | refine W_cond ?_ | refine hZ _ _ ?_ | refine W_exit ?_ | refine Wo_id ?_) | skip); repeat1' simp only [push_cast, seval, -Nat.reduceSubDiff, k1]) | ((repeat ((fail_if_success with_reducible refine hK _ _ ?_); clear hK K)); (with_reducible refine hK _ _ ?_); clear hK K)))
    exact ⟨k2, Upd.trans hx.upd k3 fun _ _ h => h⟩
def insertL (L : List Nd) (l : List Int) (k i : Int) : List Int × Int := if ((nd? L i).getD zN).kind = 3 then (if 0 ≤ k ∧ k ≤ l.length then layN l k.toNat i else (l, 2)) else (l, 2)
theorem insertl_c (h : LsAt w0 w Q pl pa L l) (hb : L.length < 100000) (ha : ∀ n ∈ L, n.attrs.length < 1000000) (hl : l.length < 10000) (k i : Int) : Gives Tryz.prog 210 #[.pointer (some ⟨pl, 0, none⟩), .int .i64 k, .int .i64 i] w fun v w' => v = .int .i64 (insertL L l k i).2 ∧ LsAt w0 w' Q pl pa L (insertL L l k i).1 ∧ Upd (AF w0 Q) w w' := by
  have hm := may_c h hb ha i
  unfold insertL
  by_cases hk : ((nd? L i).getD zN).kind = 3
  · rw [if_pos hk]
    rw [if_pos hk] at hm
    by_cases hkk : 0 ≤ k ∧ k ≤ l.length
    · rw [if_pos hkk]
      obtain ⟨k, rfl⟩ : ∃ q : Nat, k = q := ⟨k.toNat, by omega⟩
      have b0 : ¬ (k : Int) < 0 := by omega
      have b1 : ¬ (l.length : Int) < (k : Int) := by omega
      refine Gives.of_W Tryz.call210 Tryz.func210 rfl Tryz.ntmps210 (by simp) ?_; intro Z hZ
      (repeat (first | (with_reducible first | (refine hK _ _ ?_; clear hK K) | refine (show ∀ σ' w', _ → K σ' w' from by assumption) _ _ ?_ | refine W_seq_k fun K hK => ?_ | refine W_block_k fun K hK => ?_ | refine W_skip ?_ | refine W_ret ?_) | ((first | ((with_reducible refine W_id ?_); refine W_reg (by decide) (by rfl) ?_) | (with_reducible first | refine W_cond ?_ | refine hZ _ _ ?_ | refine W_exit ?_ | refine Wo_id ?_) | skip); repeat1' simp only [push_cast, seval, -Nat.reduceSubDiff]) | ((repeat ((fail_if_success with_reducible refine hK _ _ ?_); clear hK K)); (with_reducible refine hK _ _ ?_); clear hK K)))
      refine hm.mono ?_
      rintro v w2 ⟨rfl, hx⟩
      have h2 := h.pass hx
      have h2' := h2
      obtain ⟨lv, bo, hF, _⟩ := h2'
      have h1 := hF.c1
      obtain ⟨a, c, rfl, _⟩ := hF.sl.ints_len
      (repeat (first | (with_reducible first | (refine hK _ _ ?_; clear hK K) | refine (show ∀ σ' w', _ → K σ' w' from by assumption) _ _ ?_ | refine W_seq_k fun K hK => ?_ | refine W_block_k fun K hK => ?_ | refine W_skip ?_ | refine W_ret ?_) | ((first | ((with_reducible refine W_id ?_); refine W_reg (by decide) (by rfl) ?_) | (with_reducible first | refine W_cond ?_ | refine hZ _ _ ?_ | refine W_exit ?_ | refine Wo_id ?_) | skip); repeat1' simp only [push_cast, seval, -Nat.reduceSubDiff, not_true_eq_false, h1, b0, b1]) | ((repeat ((fail_if_success with_reducible refine hK _ _ ?_); clear hK K)); (with_reducible refine hK _ _ ?_); clear hK K)))
      refine (lay_c h2 hl k (by omega) i).mono ?_
      rintro v w3 ⟨rfl, k2, k3⟩
      (repeat (first | (with_reducible first | (refine hK _ _ ?_; clear hK K) | refine (show ∀ σ' w', _ → K σ' w' from by assumption) _ _ ?_ | refine W_seq_k fun K hK => ?_ | refine W_block_k fun K hK => ?_ | refine W_skip ?_ | refine W_ret ?_) | ((first | ((with_reducible refine W_id ?_); refine W_reg (by decide) (by rfl) ?_) | (with_reducible first | refine W_cond ?_ | refine hZ _ _ ?_ | refine W_exit ?_ | refine Wo_id ?_) | skip); repeat1' simp only [push_cast, seval, -Nat.reduceSubDiff]) | ((repeat ((fail_if_success with_reducible refine hK _ _ ?_); clear hK K)); (with_reducible refine hK _ _ ?_); clear hK K)))
      exact ⟨k2, Upd.trans hx.upd k3 fun _ _ h => h⟩
    · rw [if_neg hkk]
      by_cases hk0 : k < 0
      · refine Gives.of_W Tryz.call210 Tryz.func210 rfl Tryz.ntmps210 (by simp) ?_; intro Z hZ
        (repeat (first | (with_reducible first | (refine hK _ _ ?_; clear hK K) | refine (show ∀ σ' w', _ → K σ' w' from by assumption) _ _ ?_ | refine W_seq_k fun K hK => ?_ | refine W_block_k fun K hK => ?_ | refine W_skip ?_ | refine W_ret ?_) | ((first | ((with_reducible refine W_id ?_); refine W_reg (by decide) (by rfl) ?_) | (with_reducible first | refine W_cond ?_ | refine hZ _ _ ?_ | refine W_exit ?_ | refine Wo_id ?_) | skip); repeat1' simp only [push_cast, seval, -Nat.reduceSubDiff]) | ((repeat ((fail_if_success with_reducible refine hK _ _ ?_); clear hK K)); (with_reducible refine hK _ _ ?_); clear hK K)))
        refine hm.mono ?_
        rintro v w2 ⟨rfl, hx⟩
        (repeat (first | (with_reducible first | (refine hK _ _ ?_; clear hK K) | refine (show ∀ σ' w', _ → K σ' w' from by assumption) _ _ ?_ | refine W_seq_k fun K hK => ?_ | refine W_block_k fun K hK => ?_ | refine W_skip ?_ | refine W_ret ?_) | ((first | ((with_reducible refine W_id ?_); refine W_reg (by decide) (by rfl) ?_) | (with_reducible first | refine W_cond ?_ | refine hZ _ _ ?_ | refine W_exit ?_ | refine Wo_id ?_) | skip); repeat1' simp only [push_cast, seval, -Nat.reduceSubDiff, not_true_eq_false, hk0]) | ((repeat ((fail_if_success with_reducible refine hK _ _ ?_); clear hK K)); (with_reducible refine hK _ _ ?_); clear hK K)))
        exact ⟨h.pass hx, hx.upd⟩
      · have b1 : (l.length : Int) < k := by omega
        refine Gives.of_W Tryz.call210 Tryz.func210 rfl Tryz.ntmps210 (by simp) ?_; intro Z hZ
        (repeat (first | (with_reducible first | (refine hK _ _ ?_; clear hK K) | refine (show ∀ σ' w', _ → K σ' w' from by assumption) _ _ ?_ | refine W_seq_k fun K hK => ?_ | refine W_block_k fun K hK => ?_ | refine W_skip ?_ | refine W_ret ?_) | ((first | ((with_reducible refine W_id ?_); refine W_reg (by decide) (by rfl) ?_) | (with_reducible first | refine W_cond ?_ | refine hZ _ _ ?_ | refine W_exit ?_ | refine Wo_id ?_) | skip); repeat1' simp only [push_cast, seval, -Nat.reduceSubDiff]) | ((repeat ((fail_if_success with_reducible refine hK _ _ ?_); clear hK K)); (with_reducible refine hK _ _ ?_); clear hK K)))
        refine hm.mono ?_
        rintro v w2 ⟨rfl, hx⟩
        have h2 := h.pass hx
        have h2' := h2
        obtain ⟨lv, bo, hF, _⟩ := h2'
        have h1 := hF.c1
        obtain ⟨a, c, rfl, _⟩ := hF.sl.ints_len
        (repeat (first | (with_reducible first | (refine hK _ _ ?_; clear hK K) | refine (show ∀ σ' w', _ → K σ' w' from by assumption) _ _ ?_ | refine W_seq_k fun K hK => ?_ | refine W_block_k fun K hK => ?_ | refine W_skip ?_ | refine W_ret ?_) | ((first | ((with_reducible refine W_id ?_); refine W_reg (by decide) (by rfl) ?_) | (with_reducible first | refine W_cond ?_ | refine hZ _ _ ?_ | refine W_exit ?_ | refine Wo_id ?_) | skip); repeat1' simp only [push_cast, seval, -Nat.reduceSubDiff, not_true_eq_false, hk0, h1, b1]) | ((repeat ((fail_if_success with_reducible refine hK _ _ ?_); clear hK K)); (with_reducible refine hK _ _ ?_); clear hK K)))
        exact ⟨h2, hx.upd⟩
  · rw [if_neg hk]
    rw [if_neg hk] at hm
    refine Gives.of_W Tryz.call210 Tryz.func210 rfl Tryz.ntmps210 (by simp) ?_; intro Z hZ
    (repeat (first | (with_reducible first | (refine hK _ _ ?_; clear hK K) | refine (show ∀ σ' w', _ → K σ' w' from by assumption) _ _ ?_ | refine W_seq_k fun K hK => ?_ | refine W_block_k fun K hK => ?_ | refine W_skip ?_ | refine W_ret ?_) | ((first | ((with_reducible refine W_id ?_); refine W_reg (by decide) (by rfl) ?_) | (with_reducible first | refine W_cond ?_ | refine hZ _ _ ?_ | refine W_exit ?_ | refine Wo_id ?_) | skip); repeat1' simp only [push_cast, seval, -Nat.reduceSubDiff]) | ((repeat ((fail_if_success with_reducible refine hK _ _ ?_); clear hK K)); (with_reducible refine hK _ _ ?_); clear hK K)))
    refine hm.mono ?_
    rintro v w2 ⟨rfl, hx⟩
    (repeat (first | (with_reducible first | (refine hK _ _ ?_; clear hK K) | refine (show ∀ σ' w', _ → K σ' w' from by assumption) _ _ ?_ | refine W_seq_k fun K hK => ?_ | refine W_block_k fun K hK => ?_ | refine W_skip ?_ | refine W_ret ?_) | ((first | ((with_reducible refine W_id ?_); refine W_reg (by decide) (by rfl) ?_) | (with_reducible first | refine W_cond ?_ | refine hZ _ _ ?_ | refine W_exit ?_ | refine Wo_id ?_) | skip); repeat1' simp only [push_cast, seval, -Nat.reduceSubDiff, not_false_eq_true]) | ((repeat ((fail_if_success with_reducible refine hK _ _ ?_); clear hK K)); (with_reducible refine hK _ _ ?_); clear hK K)))
    exact ⟨h.pass hx, hx.upd⟩
end
end Go.Proofs.YtgnnlaeikcnhcaaGreatDoor
end
section
set_option linter.unusedSimpArgs false
set_option linter.unusedVariables false
namespace Go.Proofs.YtgnnlaeikcnhcaaGreatDoor
open Go Go.Vk
set_option maxHeartbeats 40000000
section
variable {w0 w : World} {Q : Nat → Prop} {pl pa : Nat} {L : List Nd} {l : List Int}
def replN (L : List Nd) (l : List Int) (k i : Int) : List Int × Int := if ((nd? L i).getD zN).kind = 3 then (if 0 ≤ k ∧ k < l.length then (l.set k.toNat i, 0) else (l, 2)) else (l, 2)
theorem replace_c (h : LsAt w0 w Q pl pa L l) (hb : L.length < 100000) (ha : ∀ n ∈ L, n.attrs.length < 1000000) (hl : l.length < 10000) (k i : Int) : Gives Tryz.prog 109 #[.pointer (some ⟨pl, 0, none⟩), .int .i64 k, .int .i64 i] w fun v w' => v = .int .i64 (replN L l k i).2 ∧ LsAt w0 w' Q pl pa L (replN L l k i).1 ∧ Upd (AF w0 Q) w w' := by
  have hm := may_c h hb ha i
  unfold replN
  by_cases hk : ((nd? L i).getD zN).kind = 3
  · rw [if_pos hk]
    rw [if_pos hk] at hm
    by_cases hkk : 0 ≤ k ∧ k < l.length
    · rw [if_pos hkk]
      obtain ⟨k, rfl⟩ : ∃ q : Nat, k = q := ⟨k.toNat, by omega⟩
      have b0 : ¬ (k : Int) < 0 := by omega
      have b1 : ¬ (l.length : Int) ≤ (k : Int) := by omega
      have b2 : (0 : Int) ≤ (k : Int) := by omega
      have b3 : (k : Int) < (l.length : Int) := by omega
      refine Gives.of_W Tryz.call109 Tryz.func109 rfl Tryz.ntmps109 (by simp) ?_; intro Z hZ
      (repeat (first | (with_reducible first | (refine hK _ _ ?_; clear hK K) | refine (show ∀ σ' w', _ → K σ' w' from by assumption) _ _ ?_ | refine W_seq_k fun K hK => ?_ | refine W_block_k fun K hK => ?_ | refine W_skip ?_ | refine W_ret ?_) | ((first | ((with_reducible refine W_id ?_); refine W_reg (by decide) (by rfl) ?_) | (with_reducible first | refine W_cond ?_ | refine hZ _ _ ?_ | refine W_exit ?_ | refine Wo_id ?_) | skip); repeat1' simp only [push_cast, seval, -Nat.reduceSubDiff]) | ((repeat ((fail_if_success with_reducible refine hK _ _ ?_); clear hK K)); (with_reducible refine hK _ _ ?_); clear hK K)))
      refine hm.mono ?_
      rintro v w2 ⟨rfl, hx⟩
      obtain ⟨lv, bo, hF, hA, hpl, hbo, hQ⟩ := h.pass hx
      have h1 := hF.c1
      obtain ⟨b, o, n, c, rfl, hbo1⟩ := hF.sl.some_of (kids_ne (k := k) (by omega))
      have hsl := hF.sl
      have hlen : (intCells l).length = l.length := intCells_length l
      obtain ⟨_, _, e3, _⟩ := hsl.inv
      have hn : n = l.length := by omega
      subst hn
      have hcan := hsl.can (i := k) (by omega)
      have hset := hsl.set (i := k) (by omega) (.int .i64 i)
      have eset : (intCells l).set k (.int .i64 i) = intCells (l.set k i) := by simp [intCells, List.map_set]
      rw [eset] at hset
      have hbb := hbo b hbo1
      have hnp : ¬ b = pl := fun e => hF.ne (by rw [hbo1, e])
      have up : Upd (fun q => q = b) w2 (w2.setCell ⟨b, o + k, none⟩ (.int .i64 i)) := Upd.setCell (F := fun q => q = b) (a := ⟨b, o + k, none⟩) w2 rfl _
      (repeat (first | (with_reducible first | (refine hK _ _ ?_; clear hK K) | refine (show ∀ σ' w', _ → K σ' w' from by assumption) _ _ ?_ | refine W_seq_k fun K hK => ?_ | refine W_block_k fun K hK => ?_ | refine W_skip ?_ | refine W_ret ?_) | ((first | ((with_reducible refine W_id ?_); refine W_reg (by decide) (by rfl) ?_) | (with_reducible first | refine W_cond ?_ | refine hZ _ _ ?_ | refine W_exit ?_ | refine Wo_id ?_) | skip); repeat1' simp only [push_cast, seval, -Nat.reduceSubDiff, not_true_eq_false, h1, b0, b1, b2, b3, hcan]) | ((repeat ((fail_if_success with_reducible refine hK _ _ ?_); clear hK K)); (with_reducible refine hK _ _ ?_); clear hK K)))
      refine ⟨⟨_, bo, ⟨(up.same pl (blk_lt hF.head) (fun e => hnp e.symm)).trans hF.head, hset, hF.ne⟩, hA.frame up fun q e => ⟨.inr (.inr (by rw [e]; exact hbo1)), e ▸ hbb.1⟩, hpl, hbo, hQ⟩, Upd.trans hx.upd up fun q _ e => e ▸ hbb⟩
    · rw [if_neg hkk]
      by_cases hk0 : k < 0
      · refine Gives.of_W Tryz.call109 Tryz.func109 rfl Tryz.ntmps109 (by simp) ?_; intro Z hZ
        (repeat (first | (with_reducible first | (refine hK _ _ ?_; clear hK K) | refine (show ∀ σ' w', _ → K σ' w' from by assumption) _ _ ?_ | refine W_seq_k fun K hK => ?_ | refine W_block_k fun K hK => ?_ | refine W_skip ?_ | refine W_ret ?_) | ((first | ((with_reducible refine W_id ?_); refine W_reg (by decide) (by rfl) ?_) | (with_reducible first | refine W_cond ?_ | refine hZ _ _ ?_ | refine W_exit ?_ | refine Wo_id ?_) | skip); repeat1' simp only [push_cast, seval, -Nat.reduceSubDiff]) | ((repeat ((fail_if_success with_reducible refine hK _ _ ?_); clear hK K)); (with_reducible refine hK _ _ ?_); clear hK K)))
        refine hm.mono ?_
        rintro v w2 ⟨rfl, hx⟩
        (repeat (first | (with_reducible first | (refine hK _ _ ?_; clear hK K) | refine (show ∀ σ' w', _ → K σ' w' from by assumption) _ _ ?_ | refine W_seq_k fun K hK => ?_ | refine W_block_k fun K hK => ?_ | refine W_skip ?_ | refine W_ret ?_) | ((first | ((with_reducible refine W_id ?_); refine W_reg (by decide) (by rfl) ?_) | (with_reducible first | refine W_cond ?_ | refine hZ _ _ ?_ | refine W_exit ?_ | refine Wo_id ?_) | skip); repeat1' simp only [push_cast, seval, -Nat.reduceSubDiff, not_true_eq_false, hk0]) | ((repeat ((fail_if_success with_reducible refine hK _ _ ?_); clear hK K)); (with_reducible refine hK _ _ ?_); clear hK K)))
        exact ⟨h.pass hx, hx.upd⟩
      · have b1 : (l.length : Int) ≤ k := by omega
        refine Gives.of_W Tryz.call109 Tryz.func109 rfl Tryz.ntmps109 (by simp) ?_; intro Z hZ
        (repeat (first | (with_reducible first | (refine hK _ _ ?_; clear hK K) | refine (show ∀ σ' w', _ → K σ' w' from by assumption) _ _ ?_ | refine W_seq_k fun K hK => ?_ | refine W_block_k fun K hK => ?_ | refine W_skip ?_ | refine W_ret ?_) | ((first | ((with_reducible refine W_id ?_); refine W_reg (by decide) (by rfl) ?_) | (with_reducible first | refine W_cond ?_ | refine hZ _ _ ?_ | refine W_exit ?_ | refine Wo_id ?_) | skip); repeat1' simp only [push_cast, seval, -Nat.reduceSubDiff]) | ((repeat ((fail_if_success with_reducible refine hK _ _ ?_); clear hK K)); (with_reducible refine hK _ _ ?_); clear hK K)))
        refine hm.mono ?_
        rintro v w2 ⟨rfl, hx⟩
        have h2 := h.pass hx
        have h2' := h2
        obtain ⟨lv, bo, hF, _⟩ := h2'
        have h1 := hF.c1
        obtain ⟨a, c, rfl, _⟩ := hF.sl.ints_len
        (repeat (first | (with_reducible first | (refine hK _ _ ?_; clear hK K) | refine (show ∀ σ' w', _ → K σ' w' from by assumption) _ _ ?_ | refine W_seq_k fun K hK => ?_ | refine W_block_k fun K hK => ?_ | refine W_skip ?_ | refine W_ret ?_) | ((first | ((with_reducible refine W_id ?_); refine W_reg (by decide) (by rfl) ?_) | (with_reducible first | refine W_cond ?_ | refine hZ _ _ ?_ | refine W_exit ?_ | refine Wo_id ?_) | skip); repeat1' simp only [push_cast, seval, -Nat.reduceSubDiff, not_true_eq_false, hk0, h1, b1]) | ((repeat ((fail_if_success with_reducible refine hK _ _ ?_); clear hK K)); (with_reducible refine hK _ _ ?_); clear hK K)))
        exact ⟨h2, hx.upd⟩
  · rw [if_neg hk]
    rw [if_neg hk] at hm
    refine Gives.of_W Tryz.call109 Tryz.func109 rfl Tryz.ntmps109 (by simp) ?_; intro Z hZ
    (repeat (first | (with_reducible first | (refine hK _ _ ?_; clear hK K) | refine (show ∀ σ' w', _ → K σ' w' from by assumption) _ _ ?_ | refine W_seq_k fun K hK => ?_ | refine W_block_k fun K hK => ?_ | refine W_skip ?_ | refine W_ret ?_) | ((first | ((with_reducible refine W_id ?_); refine W_reg (by decide) (by rfl) ?_) | (with_reducible first | refine W_cond ?_ | refine hZ _ _ ?_ | refine W_exit ?_ | refine Wo_id ?_) | skip); repeat1' simp only [push_cast, seval, -Nat.reduceSubDiff]) | ((repeat ((fail_if_success with_reducible refine hK _ _ ?_); clear hK K)); (with_reducible refine hK _ _ ?_); clear hK K)))
    refine hm.mono ?_
    rintro v w2 ⟨rfl, hx⟩
    (repeat (first | (with_reducible first | (refine hK _ _ ?_; clear hK K) | refine (show ∀ σ' w', _ → K σ' w' from by assumption) _ _ ?_ | refine W_seq_k fun K hK => ?_ | refine W_block_k fun K hK => ?_ | refine W_skip ?_ | refine W_ret ?_) | ((first | ((with_reducible refine W_id ?_); refine W_reg (by decide) (by rfl) ?_) | (with_reducible first | refine W_cond ?_ | refine hZ _ _ ?_ | refine W_exit ?_ | refine Wo_id ?_) | skip); repeat1' simp only [push_cast, seval, -Nat.reduceSubDiff, not_false_eq_true]) | ((repeat ((fail_if_success with_reducible refine hK _ _ ?_); clear hK K)); (with_reducible refine hK _ _ ?_); clear hK K)))
    exact ⟨h.pass hx, hx.upd⟩
theorem pl84 (w : World) : ((fsOf Tryz.prog 112).mapM plOf).run Tryz.prog w = .ok #[(0,1),(1,1)] w := by
  simp [fsOf, plOf, Tryz.underlying112, Sem.run, Tryz.sizeOf42, Tryz.sizeOf44]
theorem un84 : Tryz.prog.underlying 112 = some (.struct (fsOf Tryz.prog 112)) := by rw [fsOf, Tryz.underlying112]
theorem fnew_c (h : At w0 w Q pa L) (hL : L ≠ []) : Gives Tryz.prog 94 #[.pointer (some ⟨pa, 0, none⟩)] w fun v w' => ∃ pl, v = .pointer (some ⟨pl, 0, none⟩) ∧ LsAt w0 w' Q pl pa L [] ∧ Ext w w' := by
  have b0 : ((L.length : Int) = 0) = False := eq_false (by have := List.length_pos_iff.2 hL; omega)
  refine Gives.of_W Tryz.call94 Tryz.func94 rfl Tryz.ntmps94 (by simp) ?_; intro Z hZ
  (repeat (first | (with_reducible first | (refine hK _ _ ?_; clear hK K) | refine (show ∀ σ' w', _ → K σ' w' from by assumption) _ _ ?_ | refine W_seq_k fun K hK => ?_ | refine W_block_k fun K hK => ?_ | refine W_skip ?_ | refine W_ret ?_) | ((first | ((with_reducible refine W_id ?_); refine W_reg (by decide) (by rfl) ?_) | (with_reducible first | refine W_cond ?_ | refine hZ _ _ ?_ | refine W_exit ?_ | refine Wo_id ?_) | skip); repeat1' simp only [push_cast, seval, -Nat.reduceSubDiff]) | ((repeat ((fail_if_success with_reducible refine hK _ _ ?_); clear hK K)); (with_reducible refine hK _ _ ?_); clear hK K)))
  refine (len_a h).mono ?_
  rintro v w' ⟨rfl, rfl⟩
  (repeat (first | (with_reducible first | (refine hK _ _ ?_; clear hK K) | refine (show ∀ σ' w', _ → K σ' w' from by assumption) _ _ ?_ | refine W_seq_k fun K hK => ?_ | refine W_block_k fun K hK => ?_ | refine W_skip ?_ | refine W_ret ?_) | ((first | ((with_reducible refine W_id ?_); refine W_reg (by decide) (by rfl) ?_) | (with_reducible first | refine W_cond ?_ | refine hZ _ _ ?_ | refine W_exit ?_ | refine Wo_id ?_) | skip); repeat1' simp only [push_cast, seval, -Nat.reduceSubDiff, b0]) | ((repeat ((fail_if_success with_reducible refine hK _ _ ?_); clear hK K)); (with_reducible refine hK _ _ ?_); clear hK K)))
  refine build_struct Tryz.zeroValue112 un84 pl84 (cs := #[.pointer (some ⟨pa, 0, none⟩), .slice none 0 0]) (by rfl) ?_
  (repeat (first | (with_reducible first | (refine hK _ _ ?_; clear hK K) | refine (show ∀ σ' w', _ → K σ' w' from by assumption) _ _ ?_ | refine W_seq_k fun K hK => ?_ | refine W_block_k fun K hK => ?_ | refine W_skip ?_ | refine W_ret ?_) | ((first | ((with_reducible refine W_id ?_); refine W_reg (by decide) (by rfl) ?_) | (with_reducible first | refine W_cond ?_ | refine hZ _ _ ?_ | refine W_exit ?_ | refine Wo_id ?_) | skip); repeat1' simp only [push_cast, seval, -Nat.reduceSubDiff, vcells_agg]) | ((repeat ((fail_if_success with_reducible refine hK _ _ ?_); clear hK K)); (with_reducible refine hK _ _ ?_); clear hK K)))
  have hx := Ext.alloc w' (.cells #[.pointer (some ⟨pa, 0, none⟩), .slice none 0 0] 112)
  have h0 := h.ext.alike.size
  have hA : At w0 (w'.alloc (.cells #[.pointer (some ⟨pa, 0, none⟩), .slice none 0 0] 112)) (fun b => Q b ∨ b = w'.heap.size ∨ (none : Option Nat) = some b) pa L := h.guard hx fun b hb => by
    rcases hb with hb | rfl | hb
    · exact .inl hb
    · exact .inr ⟨Nat.le_refl _, by rw [size_alloc_h]; omega⟩
    · cases hb
  exact ⟨w'.heap.size, rfl, ⟨_, none, ⟨by rw [heap_alloc_h, if_pos rfl], SlAt.nil _ _, by simp⟩, hA, h0, (fun b hb => by cases hb), fun hq => by have := h.low _ hq; omega⟩, hx⟩
def nameN (L : List Nd) (s : ByteArray) (i : Int) : Bool := decide (((nd? L i).getD zN).space = 0 ∧ ((nd? L i).getD zN).name = s)
def lastName (L : List Nd) (l : List Int) (s : ByteArray) : Int := if lastF (nameN L s) l (openN l) l.length < 0 then -1 else l.getD (lastF (nameN L s) l (openN l) l.length).toNat 0
theorem openN_rng (l : List Int) : 0 ≤ openN l ∧ openN l ≤ l.length := by
  have := lastF_rng (fun i => decide (i = -1)) l 0 l.length
  unfold openN; omega
theorem last1_c {w2 : World} {p2 p3 : Nat} {s : ByteArray} (h : LsAt w0 w Q pl pa L l) (hx : Ext w w2) (hb : L.length < 100000) (ha : ∀ n ∈ L, n.attrs.length < 1000000) (h2 : w2.heap[p2]? = some (.cells #[.pointer (some ⟨pl, 0, none⟩)] 29 (0, 0))) (h3 : w2.heap[p3]? = some (.cells #[.string s] 9 (0, 0))) (i : Int) :
    Gives Tryz.prog 205 #[.int .i64 i, .pointer (some ⟨p2, 0, none⟩), .pointer (some ⟨p3, 0, none⟩)] w2 fun v w' => v = .bool (nameN L s i) ∧ Ext w2 w' := by
  obtain ⟨lv, bo, hF, hA, hpl, hbo, hQ⟩ := h.pass hx
  have h0 := hF.c0
  have e2 : w2.cell? ⟨p2, 0, none⟩ = some (.pointer (some ⟨pl, 0, none⟩)) := by rw [cell_h, h2]; rfl
  refine Gives.of_W Tryz.call205 Tryz.func205 rfl Tryz.ntmps205 (by simp) ?_; intro Z hZ
  (repeat (first | (with_reducible first | (refine hK _ _ ?_; clear hK K) | refine (show ∀ σ' w', _ → K σ' w' from by assumption) _ _ ?_ | refine W_seq_k fun K hK => ?_ | refine W_block_k fun K hK => ?_ | refine W_skip ?_ | refine W_ret ?_) | ((first | ((with_reducible refine W_id ?_); refine W_reg (by decide) (by rfl) ?_) | (with_reducible first | refine W_cond ?_ | refine hZ _ _ ?_ | refine W_exit ?_ | refine Wo_id ?_) | skip); repeat1' simp only [push_cast, seval, -Nat.reduceSubDiff, e2, h0]) | ((repeat ((fail_if_success with_reducible refine hK _ _ ?_); clear hK K)); (with_reducible refine hK _ _ ?_); clear hK K)))
  refine (node_a hA hb ha i).mono ?_
  rintro v w3 ⟨m, rfl, em, hok, _, hx3, _, _⟩
  rw [Laid.val_eq]
  obtain ⟨ea, en, ec, eav, _, _⟩ := hok.attrs.len
  obtain ⟨ka, kn, kc, ekv, _, _⟩ := hok.kids.len
  have en1 : nameN L s i = decide (m.nd.space = 0 ∧ m.nd.name = s) := by rw [nameN, ← em]
  rw [eav, ekv]
  (repeat (first | (with_reducible first | (refine hK _ _ ?_; clear hK K) | refine (show ∀ σ' w', _ → K σ' w' from by assumption) _ _ ?_ | refine W_seq_k fun K hK => ?_ | refine W_block_k fun K hK => ?_ | refine W_skip ?_ | refine W_ret ?_) | ((first | ((with_reducible refine W_id ?_); refine W_reg (by decide) (by rfl) ?_) | (with_reducible first | refine W_cond ?_ | refine hZ _ _ ?_ | refine W_exit ?_ | refine Wo_id ?_) | skip); repeat1' simp only [push_cast, seval, -Nat.reduceSubDiff, RunV_zero Tryz.zeroValue46]) | ((repeat ((fail_if_success with_reducible refine hK _ _ ?_); clear hK K)); (with_reducible refine hK _ _ ?_); clear hK K)))
  simp only [vcells_agg, can_h, heap_alloc_h, if_true, canO_cells, List.size_toArray, List.length_cons, List.length_nil, Nat.zero_add, Nat.reduceAdd, Nat.reduceLT, true_and]
  have z1 : (w3.alloc (.cells #[.int .i64 0, .string ⟨#[]⟩, .string ⟨#[]⟩, .int .i64 0, .slice none 0 0, .bool false, .int .i64 0, .int .i64 0, .slice none 0 0, .int .i64 0, .int .i64 0] 46)).heap[w3.heap.size]? = some (.cells #[.int .i64 0, .string ⟨#[]⟩, .string ⟨#[]⟩, .int .i64 0, .slice none 0 0, .bool false, .int .i64 0, .int .i64 0, .slice none 0 0, .int .i64 0, .int .i64 0] 46 (0, 0)) := by rw [heap_alloc_h, if_pos rfl]
  have hp3 := setCells_all z1 (l := [.int .i64 m.nd.kind, .string m.nd.name, .string m.nd.text, .int .i64 m.nd.space, .slice ea en ec, .bool m.nd.dup, .int .i64 m.nd.parent, .int .i64 m.nd.content, .slice ka kn kc, .int .i64 m.nd.frm, .int .i64 m.nd.to]) rfl
  have hx4 : Ext w3 (setCells (w3.alloc (.cells #[.int .i64 0, .string ⟨#[]⟩, .string ⟨#[]⟩, .int .i64 0, .slice none 0 0, .bool false, .int .i64 0, .int .i64 0, .slice none 0 0, .int .i64 0, .int .i64 0] 46)) ⟨w3.heap.size, 0, none⟩ [.int .i64 m.nd.kind, .string m.nd.name, .string m.nd.text, .int .i64 m.nd.space, .slice ea en ec, .bool m.nd.dup, .int .i64 m.nd.parent, .int .i64 m.nd.content, .slice ka kn kc, .int .i64 m.nd.frm, .int .i64 m.nd.to] 0) := Upd.trans (Ext.alloc w3 _) (Upd.setCells (F := fun b => b = w3.heap.size) (a := ⟨w3.heap.size, 0, none⟩) _ rfl _ 0) fun i hi e => by omega
  generalize setCells (w3.alloc (.cells #[.int .i64 0, .string ⟨#[]⟩, .string ⟨#[]⟩, .int .i64 0, .slice none 0 0, .bool false, .int .i64 0, .int .i64 0, .slice none 0 0, .int .i64 0, .int .i64 0] 46)) ⟨w3.heap.size, 0, none⟩ [.int .i64 m.nd.kind, .string m.nd.name, .string m.nd.text, .int .i64 m.nd.space, .slice ea en ec, .bool m.nd.dup, .int .i64 m.nd.parent, .int .i64 m.nd.content, .slice ka kn kc, .int .i64 m.nd.frm, .int .i64 m.nd.to] 0 = w4 at *
  have h5 := (hx3.trans hx4).blk h3
  by_cases q1 : m.nd.space = 0
  · (repeat (first | (with_reducible first | (refine hK _ _ ?_; clear hK K) | refine (show ∀ σ' w', _ → K σ' w' from by assumption) _ _ ?_ | refine W_seq_k fun K hK => ?_ | refine W_block_k fun K hK => ?_ | refine W_skip ?_ | refine W_ret ?_) | ((first | ((with_reducible refine W_id ?_); refine W_reg (by decide) (by rfl) ?_) | (with_reducible first | refine W_cond ?_ | refine hZ _ _ ?_ | refine W_exit ?_ | refine Wo_id ?_) | skip); repeat1' simp only [push_cast, seval, -Nat.reduceSubDiff, cell_h, hp3, h5, cellO_cells, q1]) | ((repeat ((fail_if_success with_reducible refine hK _ _ ?_); clear hK K)); (with_reducible refine hK _ _ ?_); clear hK K)))
    exact ⟨by rw [en1]; simp [q1], hx3.trans hx4⟩
  · (repeat (first | (with_reducible first | (refine hK _ _ ?_; clear hK K) | refine (show ∀ σ' w', _ → K σ' w' from by assumption) _ _ ?_ | refine W_seq_k fun K hK => ?_ | refine W_block_k fun K hK => ?_ | refine W_skip ?_ | refine W_ret ?_) | ((first | ((with_reducible refine W_id ?_); refine W_reg (by decide) (by rfl) ?_) | (with_reducible first | refine W_cond ?_ | refine hZ _ _ ?_ | refine W_exit ?_ | refine Wo_id ?_) | skip); repeat1' simp only [push_cast, seval, -Nat.reduceSubDiff, cell_h, hp3, h5, cellO_cells, q1]) | ((repeat ((fail_if_success with_reducible refine hK _ _ ?_); clear hK K)); (with_reducible refine hK _ _ ?_); clear hK K)))
    exact ⟨by rw [en1]; simp [q1], hx3.trans hx4⟩
theorem flast_c (h : LsAt w0 w Q pl pa L l) (hb : L.length < 100000) (ha : ∀ n ∈ L, n.attrs.length < 1000000) (hl : l.length < 10000) (s : ByteArray) : Gives Tryz.prog 162 #[.pointer (some ⟨pl, 0, none⟩), .string s] w fun v w' => v = .int .i64 (lastName L l s) ∧ Ext w w' := by
  have h' := h
  obtain ⟨lv, bo, hF, hA, hpl, hbo, hQ⟩ := h
  have hx1 : Ext w ((w.alloc (.cells #[.pointer (some ⟨pl, 0, none⟩)] 29)).alloc (.cells #[.string s] 9)) := (Ext.alloc _ _).trans (Ext.alloc _ _)
  have c2 : ((w.alloc (.cells #[.pointer (some ⟨pl, 0, none⟩)] 29)).alloc (.cells #[.string s] 9)).heap[w.heap.size]? = some (.cells #[.pointer (some ⟨pl, 0, none⟩)] 29 (0, 0)) := by
    rw [heap_alloc_h, if_neg (by rw [size_alloc_h]; omega), heap_alloc_h, if_pos rfl]
  have c3 : ((w.alloc (.cells #[.pointer (some ⟨pl, 0, none⟩)] 29)).alloc (.cells #[.string s] 9)).heap[w.heap.size + 1]? = some (.cells #[.string s] 9 (0, 0)) := by
    rw [heap_alloc_h, if_pos (by rw [size_alloc_h])]
  refine Gives.of_W Tryz.call162 Tryz.func162 rfl Tryz.ntmps162 (by simp) ?_; intro Z hZ
  (repeat (first | (with_reducible first | (refine hK _ _ ?_; clear hK K) | refine (show ∀ σ' w', _ → K σ' w' from by assumption) _ _ ?_ | refine W_seq_k fun K hK => ?_ | refine W_block_k fun K hK => ?_ | refine W_skip ?_ | refine W_ret ?_) | ((first | ((with_reducible refine W_id ?_); refine W_reg (by decide) (by rfl) ?_) | (with_reducible first | refine W_cond ?_ | refine hZ _ _ ?_ | refine W_exit ?_ | refine Wo_id ?_) | skip); repeat1' simp only [push_cast, seval, -Nat.reduceSubDiff, vcells_ptr, vcells_str, size_alloc_h]) | ((repeat ((fail_if_success with_reducible refine hK _ _ ?_); clear hK K)); (with_reducible refine hK _ _ ?_); clear hK K)))
  generalize (w.alloc (.cells #[.pointer (some ⟨pl, 0, none⟩)] 29)).alloc (.cells #[.string s] 9) = w1 at *
  have hx2 := hx1.trans (Ext.drew w1)
  have d2 := (Ext.drew w1).blk c2
  have d3 := (Ext.drew w1).blk c3
  have hsz := hx1.alike.size
  have hbs := blk_lt c2
  refine W_draw (.pas 0 (.pas 1 (.pas 3 (.act 2 (.act 4 (.pas 5 .fin)))))) (fun b => b = w.heap.size) (by decide) mixed (by kernel_rfl) ?_
  generalize w1.drew = w2 at *
  have hbs2 := blk_lt d2
  (repeat (first | ((first | refine pas_plain rfl ?_ | refine pas_g rfl rfl ?_ | refine act_plain rfl ?_ | refine act_g rfl rfl ?_ | refine last_plain rfl ?_ | refine tail_plain rfl ?_ | refine tail_g rfl rfl ?_); (repeat simp only [push_cast, seval, -Nat.reduceSubDiff, cell_h, d2, cellO_cells, eq_self])) | (refine tail_fin ?_) | (refine sch_fin ?_)))
  refine (open_c (hF.ext hx2) (by omega)).mono ?_
  rintro v w3 ⟨rfl, hx3⟩
  refine ⟨kept_upd hx3 fun b hb => ⟨by have : b = w.heap.size := hb; omega, id⟩, ?_⟩
  (repeat (first | ((first | refine pas_plain rfl ?_ | refine pas_g rfl rfl ?_ | refine act_plain rfl ?_ | refine act_g rfl rfl ?_ | refine last_plain rfl ?_ | refine tail_plain rfl ?_ | refine tail_g rfl rfl ?_); (repeat simp only [push_cast, seval, -Nat.reduceSubDiff, cell_h, d2, cellO_cells, eq_self])) | (refine tail_fin ?_) | (refine sch_fin ?_)))
  have hor := openN_rng l
  refine (last_c (hF.ext (hx2.trans hx3)) (by omega) (first := #[]) (captured := #[.pointer (some ⟨w.heap.size, 0, none⟩), .pointer (some ⟨w.heap.size + 1, 0, none⟩)]) (p := nameN L s) (openN l) hor.1 fun i _ w4 hx4 => last1_c h' (hx2.trans (hx3.trans hx4)) hb ha ((hx3.trans hx4).blk d2) ((hx3.trans hx4).blk d3) i).mono ?_
  rintro v w4 ⟨rfl, hx4⟩
  refine ⟨kept_upd hx4 fun b hb => ⟨by have : b = w.heap.size := hb; have := hx3.alike.size; omega, id⟩, ?_⟩
  (repeat (first | ((first | refine pas_plain rfl ?_ | refine pas_g rfl rfl ?_ | refine act_plain rfl ?_ | refine act_g rfl rfl ?_ | refine last_plain rfl ?_ | refine tail_plain rfl ?_ | refine tail_g rfl rfl ?_); (repeat simp only [push_cast, seval, -Nat.reduceSubDiff, cell_h, d2, cellO_cells, eq_self])) | (refine tail_fin ?_) | (refine sch_fin ?_)))
  have hx5 := hx2.trans (hx3.trans hx4)
  have d5 := (hx3.trans hx4).blk d2
  have hF5 := hF.ext hx5
  have h1 := hF5.c1
  rw [cell_h] at h1
  by_cases hn : lastF (nameN L s) l (openN l) l.length < 0
  · have en : lastName L l s = -1 := by rw [lastName, if_pos hn]
    (repeat (first | (with_reducible first | (refine hK _ _ ?_; clear hK K) | refine (show ∀ σ' w', _ → K σ' w' from by assumption) _ _ ?_ | refine W_seq_k fun K hK => ?_ | refine W_block_k fun K hK => ?_ | refine W_skip ?_ | refine W_ret ?_) | ((first | ((with_reducible refine W_id ?_); refine W_reg (by decide) (by rfl) ?_) | (with_reducible first | refine W_cond ?_ | refine hZ _ _ ?_ | refine W_exit ?_ | refine Wo_id ?_) | skip); repeat1' simp only [push_cast, seval, -Nat.reduceSubDiff, hn]) | ((repeat ((fail_if_success with_reducible refine hK _ _ ?_); clear hK K)); (with_reducible refine hK _ _ ?_); clear hK K)))
    exact ⟨en.symm, hx5⟩
  · have en : lastName L l s = l.getD (lastF (nameN L s) l (openN l) l.length).toNat 0 := by rw [lastName, if_neg hn]
    obtain ⟨q, e, q1, q2, q3⟩ := lastF_sat _ _ _ _ (by omega : 0 ≤ lastF (nameN L s) l (openN l) l.length)
    rw [e]
    have hxk : l[q]? = some l[q] := List.getElem?_eq_getElem q1
    have hgd : l.getD ((q : Int).toNat) 0 = l[q] := by simp [List.getD, hxk]
    rw [e, hgd] at en
    obtain ⟨_, o, _, _, e1, _⟩ := hF.sl.some_of (kids_ne q1)
    obtain ⟨_, _, e2, _⟩ := hF.sl.ints_len
    rw [e1] at e2
    cases e2
    rw [e1] at h1
    have hs5 := hF5.sl
    rw [e1] at hs5
    have hcell := hs5.ints_cell hxk
    rw [cell_h] at hcell
    generalize l[q] = y at *
    have b0 : ¬ (q : Int) < 0 := by omega
    have b1 : (0 : Int) ≤ (q : Int) := by omega
    have b3 : (q : Int) < (l.length : Int) := by omega
    (repeat (first | (with_reducible first | (refine hK _ _ ?_; clear hK K) | refine (show ∀ σ' w', _ → K σ' w' from by assumption) _ _ ?_ | refine W_seq_k fun K hK => ?_ | refine W_block_k fun K hK => ?_ | refine W_skip ?_ | refine W_ret ?_) | ((first | ((with_reducible refine W_id ?_); refine W_reg (by decide) (by rfl) ?_) | (with_reducible first | refine W_cond ?_ | refine hZ _ _ ?_ | refine W_exit ?_ | refine Wo_id ?_) | skip); repeat1' simp only [push_cast, seval, -Nat.reduceSubDiff, cell_h, d5, h1, cellO_cells, b0, b1, b3, hcell]) | ((repeat ((fail_if_success with_reducible refine hK _ _ ?_); clear hK K)); (with_reducible refine hK _ _ ?_); clear hK K)))
    exact ⟨en.symm, hx5⟩
end
end Go.Proofs.YtgnnlaeikcnhcaaGreatDoor
end
