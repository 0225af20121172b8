/- What the proof leans on, part 11 of 11. -/
import Derived.Test.YtgnnlaeikcnhcaaGreatDoorQAdoptPlainJ
section
set_option linter.unusedSimpArgs false
set_option linter.unusedVariables false
namespace Go.Vk
open Go Go.Proofs.YtgnnlaeikcnhcaaGreatDoor
theorem Rbs.ok {xs : List Nat} {mk : Nat} {b : BSt} (h : Rbs xs mk b) (hn : xs.length ≤ 20) : okB b ∧ b.L.length = xs.length + 2 ∧ b.s.length = xs.length + 1 ∧ b.l.length ≤ 21 := by
  have hlen := h.reg.len
  rw [rbNs_len] at hlen
  have hsl : b.s.length = xs.length + 1 := by
    have := congrArg List.length h.s
    simpa using this
  have hbl : b.l.length ≤ 21 := by
    rw [h.l, rbL_len]; split <;> omega
  exact ⟨⟨by omega, h.at_, by omega, by omega⟩, hlen, hsl, hbl⟩
end Go.Vk
end
section
set_option linter.unusedSimpArgs false
set_option linter.unusedVariables false
namespace Go.Proofs.YtgnnlaeikcnhcaaGreatDoor
open Go Go.Vk
set_option maxHeartbeats 40000000
theorem plAt (w : World) : ((fsOf Tryz.prog 34).mapM plOf).run Tryz.prog w = .ok #[(0,1),(1,1)] w := by
  simp [fsOf, plOf, Tryz.underlying34, Sem.run, Tryz.sizeOf9]
theorem unAt : Tryz.prog.underlying 34 = some (.struct (fsOf Tryz.prog 34)) := by rw [fsOf, Tryz.underlying34]
end Go.Proofs.YtgnnlaeikcnhcaaGreatDoor
end
section
set_option linter.unusedSimpArgs false
set_option linter.unusedVariables false
namespace Go.Vk
open Go Go.Proofs.YtgnnlaeikcnhcaaGreatDoor
theorem W_after {P : Program} {n : Nat} {K K0 : Regs → World → Prop} {X X' : Outs} {x y : Code} {σ : Regs} {w : World} (hK : ∀ σ' w', W P n σ' w' y K0 X' → K σ' w') (τ : Regs) (I : World → Prop) (h2 : ∀ w', I w' → W P n τ w' y K0 X')
    (h : W P n σ w x (fun σ'' w'' => Sub τ σ'' ∧ I w'') X) : W P n σ w x K X := h.mono fun σ'' w'' ⟨hs, hi⟩ => hK σ'' w'' ((h2 w'' hi).sub hs)
def lastK (xs : List Nat) (c : Nat) : Nat → Int
  | 0 => -1
  | k + 1 => if xs.getD k 0 % 6 = c then (k : Int) else lastK xs c k
theorem lastK_is {xs : List Nat} {c : Nat} : ∀ k : Nat, k ≤ xs.length → (lastK xs c k = -1 ∧ ∀ j y, j < k → xs[j]? = some y → y % 6 ≠ c) ∨ ∃ q : Nat, lastK xs c k = q ∧ q < k ∧ (∃ x, xs[q]? = some x ∧ x % 6 = c) ∧ ∀ j y, q < j → j < k → xs[j]? = some y → y % 6 ≠ c
  | 0, _ => .inl ⟨rfl, fun j y h => by omega⟩
  | k + 1, hk => by
    obtain ⟨x, hx⟩ : ∃ x, xs[k]? = some x := ⟨_, List.getElem?_eq_getElem (by omega)⟩
    have hg : xs.getD k 0 = x := by rw [List.getD_eq_getElem?_getD, hx]; rfl
    rw [lastK, hg]
    by_cases hc : x % 6 = c
    · rw [if_pos hc]
      exact .inr ⟨k, rfl, by omega, ⟨x, hx, hc⟩, fun j y h1 h2 => by omega⟩
    · rw [if_neg hc]
      rcases lastK_is (xs := xs) (c := c) k (by omega) with ⟨h1, h2⟩ | ⟨q, h1, h2, h3, h4⟩
      · refine .inl ⟨h1, fun j y hj hy => ?_⟩
        by_cases e : j = k
        · subst e; rw [hx] at hy; cases hy; exact hc
        · exact h2 j y (by omega) hy
      · refine .inr ⟨q, h1, by omega, h3, fun j y h5 hj hy => ?_⟩
        by_cases e : j = k
        · subst e; rw [hx] at hy; cases hy; exact hc
        · exact h4 j y h5 (by omega) hy
end Go.Vk
namespace Go.Proofs.YtgnnlaeikcnhcaaGreatDoor
open Go Go.Vk
set_option maxHeartbeats 40000000
set_option maxHeartbeats 1000000 in
theorem adoptPlain_c {w0 : World} (hg : GL w0) {v0 : Value} {xs : List Nat} (hv : RdAt w0 1 v0 (u8Cells xs)) (hxb : ∀ c ∈ xs, c < 256) (x1 : Nat) (hx1 : x1 < 256) :
    Gives Tryz.prog 7 #[v0, .int .u8 (x1 : Int)] w0 fun v w' => v = .bool true ∧ Ext w0 w' := by
  obtain ⟨va, vc, rfl, hvc, hcell⟩ := u8_len hv
  by_cases h3 : 20 < xs.length
  · have d1 : (20 : Int) < (xs.length : Int) := by omega
    refine Gives.of_W Tryz.call7 Tryz.func7 rfl Tryz.ntmps7 (by simp) ?_; intro Z hZ
    (repeat (first | (with_reducible first | (refine hK _ _ ?_; clear hK K) | refine (show ∀ σ' w', _ → K σ' w' from by assumption) _ _ ?_ | refine W_seq_k fun K hK => ?_ | refine W_block_k fun K hK => ?_ | refine W_skip ?_ | refine W_ret ?_) | ((first | ((with_reducible refine W_id ?_); refine W_reg (by decide) (by rfl) ?_) | (with_reducible first | refine W_cond ?_ | refine hZ _ _ ?_ | refine W_exit ?_ | refine Wo_id ?_) | skip); repeat1' simp only [push_cast, seval, -Nat.reduceSubDiff, d1]) | ((repeat ((fail_if_success with_reducible refine hK _ _ ?_); clear hK K)); (with_reducible refine hK _ _ ?_); clear hK K)))
    refine (nested_c hg).mono ?_
    rintro v w' ⟨rfl, hy⟩
    (repeat (first | (with_reducible first | (refine hK _ _ ?_; clear hK K) | refine (show ∀ σ' w', _ → K σ' w' from by assumption) _ _ ?_ | refine W_seq_k fun K hK => ?_ | refine W_block_k fun K hK => ?_ | refine W_skip ?_ | refine W_ret ?_) | ((first | ((with_reducible refine W_id ?_); refine W_reg (by decide) (by rfl) ?_) | (with_reducible first | refine W_cond ?_ | refine hZ _ _ ?_ | refine W_exit ?_ | refine Wo_id ?_) | skip); repeat1' simp only [push_cast, seval, -Nat.reduceSubDiff]) | ((repeat ((fail_if_success with_reducible refine hK _ _ ?_); clear hK K)); (with_reducible refine hK _ _ ?_); clear hK K)))
    exact hy
  have d1 : ¬ (20 : Int) < (xs.length : Int) := by omega
  by_cases h0 : xs.length = 0
  · have d2 : (xs.length : Int) = 0 := by omega
    refine Gives.of_W Tryz.call7 Tryz.func7 rfl Tryz.ntmps7 (by simp) ?_; intro Z hZ
    (repeat (first | (with_reducible first | (refine hK _ _ ?_; clear hK K) | refine (show ∀ σ' w', _ → K σ' w' from by assumption) _ _ ?_ | refine W_seq_k fun K hK => ?_ | refine W_block_k fun K hK => ?_ | refine W_skip ?_ | refine W_ret ?_) | ((first | ((with_reducible refine W_id ?_); refine W_reg (by decide) (by rfl) ?_) | (with_reducible first | refine W_cond ?_ | refine hZ _ _ ?_ | refine W_exit ?_ | refine Wo_id ?_) | skip); repeat1' simp only [push_cast, seval, -Nat.reduceSubDiff, d1, d2]) | ((repeat ((fail_if_success with_reducible refine hK _ _ ?_); clear hK K)); (with_reducible refine hK _ _ ?_); clear hK K)))
    refine (nested_c hg).mono ?_
    rintro v w' ⟨rfl, hy⟩
    (repeat (first | (with_reducible first | (refine hK _ _ ?_; clear hK K) | refine (show ∀ σ' w', _ → K σ' w' from by assumption) _ _ ?_ | refine W_seq_k fun K hK => ?_ | refine W_block_k fun K hK => ?_ | refine W_skip ?_ | refine W_ret ?_) | ((first | ((with_reducible refine W_id ?_); refine W_reg (by decide) (by rfl) ?_) | (with_reducible first | refine W_cond ?_ | refine hZ _ _ ?_ | refine W_exit ?_ | refine Wo_id ?_) | skip); repeat1' simp only [push_cast, seval, -Nat.reduceSubDiff]) | ((repeat ((fail_if_success with_reducible refine hK _ _ ?_); clear hK K)); (with_reducible refine hK _ _ ?_); clear hK K)))
    exact hy
  have d2 : ¬ (xs.length : Int) = 0 := by omega
  obtain ⟨k0, j0, _⟩ := okb_ok okg0
  obtain ⟨k1, j1, _⟩ := okb_ok okg1
  -- which one
  obtain ⟨wh, hwh⟩ : ∃ k, k = x1 % xs.length := ⟨_, rfl⟩
  have hwl : wh < xs.length := by rw [hwh]; exact Nat.mod_lt _ (by omega)
  have hwt : Int.tmod (x1 : Int) (xs.length : Int) = (wh : Int) := by
    rw [hwh, Int.tmod_eq_emod_of_nonneg (by omega)]; rfl
  have hw1 : IntKind.i64.wrap (x1 : Int) = x1 := wrap_in (by unfold inI64; omega)
  obtain ⟨xw, hxw⟩ : ∃ x, xs[wh]? = some x := ⟨_, List.getElem?_eq_getElem hwl⟩
  have hxw256 := hxb xw (List.mem_of_getElem? hxw)
  have hww : IntKind.i64.wrap (xw : Int) = xw := wrap_in (by unfold inI64; omega)
  obtain ⟨c, hc⟩ : ∃ c, c = xw % 6 := ⟨_, rfl⟩
  have hc6 : c < 6 := by rw [hc]; exact Nat.mod_lt _ (by decide)
  have hct : Int.tmod (xw : Int) 6 = (c : Int) := by
    rw [hc, Int.tmod_eq_emod_of_nonneg (by omega)]; omega
  have n6 : ((6 : Int) = 0) = False := by decide
  obtain ⟨bx, ox, rfl, hcw⟩ := hcell wh xw hxw
  have q0 : (0 : Int) ≤ (wh : Int) := by omega
  have q1 : (wh : Int) < (xs.length : Int) := by omega
  have q2 : (0 : Int) ≤ (c : Int) := by omega
  have q3 : (c : Int) < 10 := by omega
  have hnc : adNames[c]? = some (adName c) := by
    have : ∀ c, c < 6 → adNames[c]? = some (adName c) := by decide +kernel
    exact this c hc6
  refine Gives.of_W Tryz.call7 Tryz.func7 rfl Tryz.ntmps7 (by simp) ?_; intro Z hZ
  (repeat (first | (with_reducible first | (refine hK _ _ ?_; clear hK K) | refine (show ∀ σ' w', _ → K σ' w' from by assumption) _ _ ?_ | refine W_seq_k fun K hK => ?_ | refine W_block_k fun K hK => ?_ | refine W_skip ?_ | refine W_ret ?_) | ((first | ((with_reducible refine W_id ?_); refine W_reg (by decide) (by rfl) ?_) | (with_reducible first | refine W_cond ?_ | refine hZ _ _ ?_ | refine W_exit ?_ | refine Wo_id ?_) | skip); repeat1' simp only [push_cast, seval, -Nat.reduceSubDiff, d1, d2]) | ((repeat ((fail_if_success with_reducible refine hK _ _ ?_); clear hK K)); (with_reducible refine hK _ _ ?_); clear hK K)))
  refine bnew_c.mono ?_
  rintro v w1 ⟨pb, ps, pl, pa, rfl, hb0⟩
  (repeat (first | (with_reducible first | (refine hK _ _ ?_; clear hK K) | refine (show ∀ σ' w', _ → K σ' w' from by assumption) _ _ ?_ | refine W_seq_k fun K hK => ?_ | refine W_block_k fun K hK => ?_ | refine W_skip ?_ | refine W_ret ?_) | ((first | ((with_reducible refine W_id ?_); refine W_reg (by decide) (by rfl) ?_) | (with_reducible first | refine W_cond ?_ | refine hZ _ _ ?_ | refine W_exit ?_ | refine Wo_id ?_) | skip); repeat1' simp only [push_cast, seval, -Nat.reduceSubDiff]) | ((repeat ((fail_if_success with_reducible refine hK _ _ ?_); clear hK K)); (with_reducible refine hK _ _ ?_); clear hK K)))
  refine (bimply_c hb0 k0 j0 nP _).mono ?_
  rintro v w2 ⟨rfl, hb1, -⟩
  replace hb1 : BuAt w0 w2 noP pb ps pl pa gb1 := hb1
  (repeat (first | (with_reducible first | (refine hK _ _ ?_; clear hK K) | refine (show ∀ σ' w', _ → K σ' w' from by assumption) _ _ ?_ | refine W_seq_k fun K hK => ?_ | refine W_block_k fun K hK => ?_ | refine W_skip ?_ | refine W_ret ?_) | ((first | ((with_reducible refine W_id ?_); refine W_reg (by decide) (by rfl) ?_) | (with_reducible first | refine W_cond ?_ | refine hZ _ _ ?_ | refine W_exit ?_ | refine Wo_id ?_) | skip); repeat1' simp only [push_cast, seval, -Nat.reduceSubDiff]) | ((repeat ((fail_if_success with_reducible refine hK _ _ ?_); clear hK K)); (with_reducible refine hK _ _ ?_); clear hK K)))
  refine (bimply_c hb1 k1 j1 nP _).mono ?_
  rintro v w3 ⟨rfl, hb2, -⟩
  replace hb2 : BuAt w0 w3 noP pb ps pl pa gb2 := hb2
  (repeat (first | (with_reducible first | (refine hK _ _ ?_; clear hK K) | refine (show ∀ σ' w', _ → K σ' w' from by assumption) _ _ ?_ | refine W_seq_k fun K hK => ?_ | refine W_block_k fun K hK => ?_ | refine W_skip ?_ | refine W_ret ?_) | ((first | ((with_reducible refine W_id ?_); refine W_reg (by decide) (by rfl) ?_) | (with_reducible first | refine W_cond ?_ | refine hZ _ _ ?_ | refine W_exit ?_ | refine Wo_id ?_) | skip); repeat1' simp only [push_cast, seval, -Nat.reduceSubDiff]) | ((repeat ((fail_if_success with_reducible refine hK _ _ ?_); clear hK K)); (with_reducible refine hK _ _ ?_); clear hK K)))
  clear hb0 hb1
  have hcw3 := cell_ext hb2.out hcw
  have lbx3 := cell_lt hcw3
  refine W_draw (.pas 1 (.pas 2 (.pas 3 (.pas 4 (.pas 5 (.pas 6 (.pas 7 (.pas 8 (.pas 9 (.pas 10 (.act 0 (.pas 11 (.act 12 (.pas 13 .fin)))))))))))))) (fun q => q = bx) (by decide) mixed (by kernel_rfl) ?_
  have hxd := Ext.drew w3
  generalize w3.drew = wd at *
  have hcd := cell_ext hxd hcw3
  have hsd := hxd.sz
  (repeat (first | ((first | refine pas_plain rfl ?_ | refine pas_g rfl rfl ?_ | refine act_plain rfl ?_ | refine act_g rfl rfl ?_ | refine last_plain rfl ?_ | refine tail_plain rfl ?_ | refine tail_g rfl rfl ?_); (repeat simp only [push_cast, seval, -Nat.reduceSubDiff, eq_self, hw1, hwt, d2, q0, q1, hcd, hww, hct, n6])) | (refine tail_fin ?_) | (refine sch_fin ?_)))
  refine names_c.mono ?_
  rintro v w4 ⟨hx4, hr4, bn4, rfl, hbn4⟩
  have nn4 := rd_str hr4 (Ext.refl _) hnc
  refine ⟨kept_upd hx4 fun q hq => ⟨by have : q = bx := hq; omega, id⟩, ?_⟩
  (repeat (first | ((first | refine pas_plain rfl ?_ | refine pas_g rfl rfl ?_ | refine act_plain rfl ?_ | refine act_g rfl rfl ?_ | refine last_plain rfl ?_ | refine tail_plain rfl ?_ | refine tail_g rfl rfl ?_); (repeat simp only [push_cast, seval, -Nat.reduceSubDiff, eq_self, q2, q3, nn4])) | (refine tail_fin ?_) | (refine sch_fin ?_)))
  refine ⟨kept.refl _ _, ?_⟩
  (repeat (first | ((first | refine pas_plain rfl ?_ | refine pas_g rfl rfl ?_ | refine act_plain rfl ?_ | refine act_g rfl rfl ?_ | refine last_plain rfl ?_ | refine tail_plain rfl ?_ | refine tail_g rfl rfl ?_); (repeat simp only [push_cast, seval, -Nat.reduceSubDiff, eq_self])) | (refine tail_fin ?_) | (refine sch_fin ?_)))
  (repeat (first | (with_reducible first | (refine hK _ _ ?_; clear hK K) | refine (show ∀ σ' w', _ → K σ' w' from by assumption) _ _ ?_ | refine W_seq_k fun K hK => ?_ | refine W_block_k fun K hK => ?_ | refine W_skip ?_ | refine W_ret ?_) | ((first | ((with_reducible refine W_id ?_); refine W_reg (by decide) (by rfl) ?_) | (with_reducible first | refine W_cond ?_ | refine hZ _ _ ?_ | refine W_exit ?_ | refine Wo_id ?_) | skip); repeat1' simp only [push_cast, seval, -Nat.reduceSubDiff]) | ((repeat ((fail_if_success with_reducible refine hK _ _ ?_); clear hK K)); (with_reducible refine hK _ _ ?_); clear hK K)))
  have hb4 := (hb2.pass hxd).pass hx4
  refine W_loop (S := Nat) (fun k => [(0, .slice (some ⟨bx, ox, none⟩) xs.length vc), (5, .pointer (some ⟨pb, 0, none⟩)), (6, .int .i64 (lastK xs c k)), (7, .string (adName c)), (8, .int .i64 (k : Int))])
    (fun k w5 => k ≤ xs.length ∧ ∃ b, Pps (xs.take k) b ∧ BuAt w0 w5 noP pb ps pl pa b) (fun k => xs.length - k) 0 ?_ ?_ ?_
  · (repeat simp only [push_cast, seval, -Nat.reduceSubDiff])
    rfl
  · exact ⟨by omega, _, pps0, hb4⟩
  clear hb2 hb4 hcd hcw3 nn4 hr4
  rintro k w5 ⟨hk, b, hR, hA⟩
  have htl : (xs.take k).length = k := by rw [List.length_take]; omega
  obtain ⟨hLl, hsl, hll⟩ := hR.lens
  rw [htl] at hLl hsl hll
  have hok : okB b := ⟨by omega, hR.at_, by omega, by omega⟩
  by_cases hkx : k < xs.length
  · obtain ⟨x, hx⟩ : ∃ x, xs[k]? = some x := ⟨_, List.getElem?_eq_getElem hkx⟩
    have hx256 := hxb x (List.mem_of_getElem? hx)
    obtain ⟨y, hy⟩ : ∃ y, y = x % 6 := ⟨_, rfl⟩
    have hy6 : y < 6 := by rw [hy]; exact Nat.mod_lt _ (by decide)
    have hyt : Int.tmod (x : Int) 6 = (y : Int) := by
      rw [hy, Int.tmod_eq_emod_of_nonneg (by omega)]; omega
    have hw : IntKind.i64.wrap (x : Int) = x := wrap_in (by unfold inI64; omega)
    obtain ⟨bx', ox', e, hcx⟩ := hcell k x hx
    cases e
    have b0 : (k : Int) < (xs.length : Int) := by omega
    have b1 : (0 : Int) ≤ (k : Int) := by omega
    have b2 : inI64 ((k : Int) + 1) := by unfold inI64; omega
    have b3 : (0 : Int) ≤ (y : Int) := by omega
    have b4 : (y : Int) < 10 := by omega
    have hny : adNames[y]? = some (adName y) := by
      have : ∀ c, c < 6 → adNames[c]? = some (adName c) := by decide +kernel
      exact this y hy6
    have c97 : inI64 (97 + (k : Int)) := by unfold inI64; omega
    have ha97 : IntKind.u8.wrap (97 + (k : Int)) = ((UInt8.ofNat (97 + k)).toNat : Int) := by
      have : ∀ k, k < 20 → IntKind.u8.wrap (97 + ((k : Nat) : Int)) = ((UInt8.ofNat (97 + k)).toNat : Int) := by decide +kernel
      exact this k (by omega)
    have hins := hR.ins x (by omega)
    rw [htl] at hins
    obtain ⟨i1, i2, i3⟩ := hins
    have hcx5 := cell_ext hA.out hcx
    have lbx0 := cell_lt hcx
    have lbx5 := cell_lt hcx5
    have ins : ∀ {wz : World} {ba : Nat}, Ext w5 wz → RdAt wz 2 (.slice (some ⟨ba, 0, none⟩) 1 1) (attrCells (rbAt k)) → Gives Tryz.prog 21 #[.pointer (some ⟨pb, 0, none⟩), .agg #[.int .i64 2, .string (adName y), .string ⟨#[]⟩, .slice (some ⟨ba, 0, none⟩) 1 1, .bool false, .bool false, .bool false, .int .i64 0, .int .i64 0], .int .i64 0] wz fun v w' => v = .int .i64 ((k : Int) + 3) ∧ BuAt w0 w' noP pb ps pl pa (insR b (elTok (ppTok x k) 0)) ∧ Upd (AF w0 noP) wz w' := fun hxz hat => by
      have := binsert_c (hA.pass hxz) hok (by omega) nP (t := ⟨2, adName y, ⟨#[]⟩, rbAt k, false, false, false, 0, 0⟩) (av := .slice (some ⟨_, 0, none⟩) 1 1) hat (show (1 : Nat) < 1000000 by decide) 0
      have hnd : elTok ⟨2, adName y, ⟨#[]⟩, rbAt k, false, false, false, 0, 0⟩ 0 = elTok (ppTok x k) 0 := by
        unfold ppTok
        rw [← hy]
      rw [hnd, i1] at this
      exact this
    (repeat (first | (with_reducible first | (refine hK _ _ ?_; clear hK K) | refine (show ∀ σ' w', _ → K σ' w' from by assumption) _ _ ?_ | refine W_seq_k fun K hK => ?_ | refine W_block_k fun K hK => ?_ | refine W_skip ?_ | refine W_ret ?_) | ((first | ((with_reducible refine W_id ?_); refine W_reg (by decide) (by rfl) ?_) | (with_reducible first | refine W_cond ?_ | refine hZ _ _ ?_ | refine W_exit ?_ | refine Wo_id ?_) | skip); repeat1' simp only [push_cast, seval, -Nat.reduceSubDiff, b0, b1]) | ((repeat ((fail_if_success with_reducible refine hK _ _ ?_); clear hK K)); (with_reducible refine hK _ _ ?_); clear hK K)))
    refine W_after hK [(0, .slice (some ⟨bx, ox, none⟩) xs.length vc), (5, .pointer (some ⟨pb, 0, none⟩)), (6, .int .i64 (lastK xs c k)), (7, .string (adName c)), (8, .int .i64 (k : Int)), (9, .int .i64 ((k : Int) + 3))] (fun w9 => BuAt w0 w9 noP pb ps pl pa (insR b (elTok (ppTok x k) 0))) ?rest ?_
    case rest =>
      clear hK
      intro w9 h9
      have hok9 := hok.ins (by omega) (n := elTok (ppTok x k) 0) (show (1 : Nat) < 1000000 by decide)
      rw [i1] at hok9
      (repeat (first | (with_reducible first | (refine hK _ _ ?_; clear hK K) | refine (show ∀ σ' w', _ → K σ' w' from by assumption) _ _ ?_ | refine W_seq_k fun K hK => ?_ | refine W_block_k fun K hK => ?_ | refine W_skip ?_ | refine W_ret ?_) | ((first | ((with_reducible refine W_id ?_); refine W_reg (by decide) (by rfl) ?_) | (with_reducible first | refine W_cond ?_ | refine hZ _ _ ?_ | refine W_exit ?_ | refine Wo_id ?_) | skip); repeat1' simp only [push_cast, seval, -Nat.reduceSubDiff]) | ((repeat ((fail_if_success with_reducible refine hK _ _ ?_); clear hK K)); (with_reducible refine hK _ _ ?_); clear hK K)))
      refine (bforms_c h9).mono ?_
      intro v w' ⟨hv, hw⟩
      subst hv; subst w'
      (repeat (first | (with_reducible first | (refine hK _ _ ?_; clear hK K) | refine (show ∀ σ' w', _ → K σ' w' from by assumption) _ _ ?_ | refine W_seq_k fun K hK => ?_ | refine W_block_k fun K hK => ?_ | refine W_skip ?_ | refine W_ret ?_) | ((first | ((with_reducible refine W_id ?_); refine W_reg (by decide) (by rfl) ?_) | (with_reducible first | refine W_cond ?_ | refine hZ _ _ ?_ | refine W_exit ?_ | refine Wo_id ?_) | skip); repeat1' simp only [push_cast, seval, -Nat.reduceSubDiff]) | ((repeat ((fail_if_success with_reducible refine hK _ _ ?_); clear hK K)); (with_reducible refine hK _ _ ?_); clear hK K)))
      refine (bfpush_c h9 hok9 _).mono ?_
      rintro v w11 ⟨rfl, h11, -⟩
      have hlb : (insR b (elTok (ppTok x k) 0)).l = b.l := rfl
      rw [hlb, i2] at h11 ⊢
      have hcx11 := cell_ext h11.out hcx
      have lbx11 := cell_lt hcx11
      have hlk : lastK xs c (k + 1) = if y = c then (k : Int) else lastK xs c k := by
        rw [lastK, List.getD_eq_getElem?_getD, hx, Option.getD_some, ← hy]
      have htk : xs.take (k + 1) = xs.take k ++ [x] := by rw [List.take_add_one, hx, Option.toList_some]
      (repeat (first | (with_reducible first | (refine hK _ _ ?_; clear hK K) | refine (show ∀ σ' w', _ → K σ' w' from by assumption) _ _ ?_ | refine W_seq_k fun K hK => ?_ | refine W_block_k fun K hK => ?_ | refine W_skip ?_ | refine W_ret ?_) | ((first | ((with_reducible refine W_id ?_); refine W_reg (by decide) (by rfl) ?_) | (with_reducible first | refine W_cond ?_ | refine hZ _ _ ?_ | refine W_exit ?_ | refine Wo_id ?_) | skip); repeat1' simp only [push_cast, seval, -Nat.reduceSubDiff, eq_self, not_true_eq_false, b1]) | ((repeat ((fail_if_success with_reducible refine hK _ _ ?_); clear hK K)); (with_reducible refine hK _ _ ?_); clear hK K)))
      refine W_draw (.pas 1 (.pas 2 (.pas 3 (.pas 4 (.pas 5 (.pas 6 (.pas 9 (.act 0 (.pas 7 (.act 8 (.pas 10 .fin))))))))))) (fun q => q = bx) (by decide) mixed (by kernel_rfl) ?_
      have hxd := Ext.drew w11
      generalize w11.drew = wd at *
      have hcd := cell_ext hxd hcx11
      (repeat (first | ((first | refine pas_plain rfl ?_ | refine pas_g rfl rfl ?_ | refine act_plain rfl ?_ | refine act_g rfl rfl ?_ | refine last_plain rfl ?_ | refine tail_plain rfl ?_ | refine tail_g rfl rfl ?_); (repeat simp only [push_cast, seval, -Nat.reduceSubDiff, eq_self, b0, b1, hcd, hw, hyt, n6])) | (refine tail_fin ?_) | (refine sch_fin ?_)))
      refine names_c.mono ?_
      rintro v w12 ⟨hx12, hr12, bn12, rfl, hbn12⟩
      have nn12 := rd_str hr12 (Ext.refl _) hny
      refine ⟨kept_upd hx12 fun q hq => ⟨by have := hxd.sz; have : q = bx := hq; omega, id⟩, ?_⟩
      (repeat (first | ((first | refine pas_plain rfl ?_ | refine pas_g rfl rfl ?_ | refine act_plain rfl ?_ | refine act_g rfl rfl ?_ | refine last_plain rfl ?_ | refine tail_plain rfl ?_ | refine tail_g rfl rfl ?_); (repeat simp only [push_cast, seval, -Nat.reduceSubDiff, eq_self, b3, b4, nn12])) | (refine tail_fin ?_) | (refine sch_fin ?_)))
      refine ⟨kept.refl _ _, ?_⟩
      have h12 := (h11.pass hxd).pass hx12
      by_cases hyc : y = c
      · rw [if_pos hyc] at hlk
        rw [hyc]
        (repeat (first | ((first | refine pas_plain rfl ?_ | refine pas_g rfl rfl ?_ | refine act_plain rfl ?_ | refine act_g rfl rfl ?_ | refine last_plain rfl ?_ | refine tail_plain rfl ?_ | refine tail_g rfl rfl ?_); (repeat simp only [push_cast, seval, -Nat.reduceSubDiff, eq_self])) | (refine tail_fin ?_) | (refine sch_fin ?_)))
        (repeat (first | (with_reducible first | (refine hK _ _ ?_; clear hK K) | refine (show ∀ σ' w', _ → K σ' w' from by assumption) _ _ ?_ | refine W_seq_k fun K hK => ?_ | refine W_block_k fun K hK => ?_ | refine W_skip ?_ | refine W_ret ?_) | ((first | ((with_reducible refine W_id ?_); refine W_reg (by decide) (by rfl) ?_) | (with_reducible first | refine W_cond ?_ | refine hZ _ _ ?_ | refine W_exit ?_ | refine Wo_id ?_) | skip); repeat1' simp only [push_cast, seval, -Nat.reduceSubDiff, b2]) | ((repeat ((fail_if_success with_reducible refine hK _ _ ?_); clear hK K)); (with_reducible refine hK _ _ ?_); clear hK K)))
        refine ⟨k + 1, by omega, ?_⟩
        (repeat simp only [push_cast, seval, -Nat.reduceSubDiff])
        exact ⟨by rw [hlk], by omega, _, by rw [htk]; exact i3, h12⟩
      · rw [if_neg hyc] at hlk
        have hne : ¬ adName y = adName c := fun e => hyc (ad_inj y hy6 c hc6 e)
        (repeat (first | ((first | refine pas_plain rfl ?_ | refine pas_g rfl rfl ?_ | refine act_plain rfl ?_ | refine act_g rfl rfl ?_ | refine last_plain rfl ?_ | refine tail_plain rfl ?_ | refine tail_g rfl rfl ?_); (repeat simp only [push_cast, seval, -Nat.reduceSubDiff, eq_self, hne])) | (refine tail_fin ?_) | (refine sch_fin ?_)))
        (repeat (first | (with_reducible first | (refine hK _ _ ?_; clear hK K) | refine (show ∀ σ' w', _ → K σ' w' from by assumption) _ _ ?_ | refine W_seq_k fun K hK => ?_ | refine W_block_k fun K hK => ?_ | refine W_skip ?_ | refine W_ret ?_) | ((first | ((with_reducible refine W_id ?_); refine W_reg (by decide) (by rfl) ?_) | (with_reducible first | refine W_cond ?_ | refine hZ _ _ ?_ | refine W_exit ?_ | refine Wo_id ?_) | skip); repeat1' simp only [push_cast, seval, -Nat.reduceSubDiff, b2]) | ((repeat ((fail_if_success with_reducible refine hK _ _ ?_); clear hK K)); (with_reducible refine hK _ _ ?_); clear hK K)))
        refine ⟨k + 1, by omega, ?_⟩
        (repeat simp only [push_cast, seval, -Nat.reduceSubDiff])
        exact ⟨by rw [hlk], by omega, _, by rw [htk]; exact i3, h12⟩
    refine W_draw (.pas 0 (.pas 2 (.pas 3 (.pas 4 (.pas 5 (.pas 6 (.pas 7 (.pas 10 (.pas 11 (.pas 12 (.two 1 (.pas 8 (.two 9 (.act 13 (.act 14 (.pas 15 (.act 16 (.pas 17 (.act 18 (.pas 19 .fin))))))) 13 (.two 9 (.act 14 (.pas 15 (.act 16 (.pas 17 (.act 18 (.pas 19 .fin)))))) 14 (.pas 15 (.two 9 (.act 16 (.pas 17 (.act 18 (.pas 19 .fin)))) 16 (.act 9 (.pas 17 (.act 18 (.pas 19 .fin))))))))) 13 (.two 1 (.pas 8 (.two 9 (.act 14 (.pas 15 (.act 16 (.pas 17 (.act 18 (.pas 19 .fin)))))) 14 (.pas 15 (.two 9 (.act 16 (.pas 17 (.act 18 (.pas 19 .fin)))) 16 (.act 9 (.pas 17 (.act 18 (.pas 19 .fin)))))))) 14 (.pas 15 (.two 1 (.pas 8 (.two 9 (.act 16 (.pas 17 (.act 18 (.pas 19 .fin)))) 16 (.act 9 (.pas 17 (.act 18 (.pas 19 .fin)))))) 16 (.act 1 (.pas 8 (.act 9 (.pas 17 (.act 18 (.pas 19 .fin)))))))))))))))))))) (fun q => q = bx) (by decide) mixed (by kernel_rfl) ?_
    have hE0 := Ext.drew w5
    generalize w5.drew = wd at *
    have hcd := cell_ext hE0 hcx5
    (repeat (first | ((first | refine pas_plain rfl ?_ | refine pas_g rfl rfl ?_ | refine act_plain rfl ?_ | refine act_g rfl rfl ?_ | refine last_plain rfl ?_ | refine tail_plain rfl ?_ | refine tail_g rfl rfl ?_); (repeat simp only [push_cast, seval, -Nat.reduceSubDiff, eq_self, b0, b1, hcd, hw, hyt, n6, c97, ha97])) | (refine tail_fin ?_) | (refine sch_fin ?_)))
    refine two_mk ?_ ?_
    · (repeat (first | ((first | refine pas_plain rfl ?_ | refine pas_g rfl rfl ?_ | refine act_plain rfl ?_ | refine act_g rfl rfl ?_ | refine last_plain rfl ?_ | refine tail_plain rfl ?_ | refine tail_g rfl rfl ?_); (repeat simp only [push_cast, seval, -Nat.reduceSubDiff, eq_self, b3, b4])) | (refine tail_fin ?_) | (refine sch_fin ?_)))
      refine names_c.mono ?_
      rintro v wn1 ⟨hx1, hr1, bn1, rfl, hbn1⟩
      refine ⟨kept_upd hx1 fun q hq => ⟨by have := hE0.sz; have : q = bx := hq; omega, id⟩, ?_⟩
      have hE2 := hE0.trans hx1
      have nn1 := rd_str hr1 (Ext.refl _) hny
      (repeat (first | ((first | refine pas_plain rfl ?_ | refine pas_g rfl rfl ?_ | refine act_plain rfl ?_ | refine act_g rfl rfl ?_ | refine last_plain rfl ?_ | refine tail_plain rfl ?_ | refine tail_g rfl rfl ?_); (repeat simp only [push_cast, seval, -Nat.reduceSubDiff, eq_self, b3, b4, nn1])) | (refine tail_fin ?_) | (refine sch_fin ?_)))
      refine two_mk ?_ ?_
      · (repeat (first | ((first | refine pas_plain rfl ?_ | refine pas_g rfl rfl ?_ | refine act_plain rfl ?_ | refine act_g rfl rfl ?_ | refine last_plain rfl ?_ | refine tail_plain rfl ?_ | refine tail_g rfl rfl ?_); (repeat simp only [push_cast, seval, -Nat.reduceSubDiff, eq_self, b3, b4, nn1])) | (refine tail_fin ?_) | (refine sch_fin ?_)))
        refine ⟨kept.refl _ _, ?_⟩
        (repeat (first | ((first | refine pas_plain rfl ?_ | refine pas_g rfl rfl ?_ | refine act_plain rfl ?_ | refine act_g rfl rfl ?_ | refine last_plain rfl ?_ | refine tail_plain rfl ?_ | refine tail_g rfl rfl ?_); (repeat simp only [push_cast, seval, -Nat.reduceSubDiff, eq_self, b3, b4, nn1])) | (refine tail_fin ?_) | (refine sch_fin ?_)))
        (repeat (first | ((first | refine pas_plain rfl ?_ | refine pas_g rfl rfl ?_ | refine act_plain rfl ?_ | refine act_g rfl rfl ?_ | refine last_plain rfl ?_ | refine tail_plain rfl ?_ | refine tail_g rfl rfl ?_); (repeat simp only [push_cast, seval, -Nat.reduceSubDiff, eq_self, b3, b4, nn1])) | (refine tail_fin ?_) | (refine sch_fin ?_)))
        refine one_byte _ fun bb4 wn4 hx4 hb4 => ?_
        refine ⟨kept_upd hx4 fun q hq => ⟨by have := hE2.sz; have : q = bx := hq; omega, id⟩, ?_⟩
        have hE5 := hE2.trans hx4
        have nn5 := cell_ext hx4 nn1
        (repeat (first | ((first | refine pas_plain rfl ?_ | refine pas_g rfl rfl ?_ | refine act_plain rfl ?_ | refine act_g rfl rfl ?_ | refine last_plain rfl ?_ | refine tail_plain rfl ?_ | refine tail_g rfl rfl ?_); (repeat simp only [push_cast, seval, -Nat.reduceSubDiff, eq_self, b3, b4, nn5])) | (refine tail_fin ?_) | (refine sch_fin ?_)))
        (repeat (first | ((first | refine pas_plain rfl ?_ | refine pas_g rfl rfl ?_ | refine act_plain rfl ?_ | refine act_g rfl rfl ?_ | refine last_plain rfl ?_ | refine tail_plain rfl ?_ | refine tail_g rfl rfl ?_); (repeat simp only [push_cast, seval, -Nat.reduceSubDiff, eq_self, b3, b4, nn5])) | (refine tail_fin ?_) | (refine sch_fin ?_)))
        refine one_text hb4 ?_
        refine ⟨kept.refl _ _, ?_⟩
        (repeat (first | ((first | refine pas_plain rfl ?_ | refine pas_g rfl rfl ?_ | refine act_plain rfl ?_ | refine act_g rfl rfl ?_ | refine last_plain rfl ?_ | refine tail_plain rfl ?_ | refine tail_g rfl rfl ?_); (repeat simp only [push_cast, seval, -Nat.reduceSubDiff, eq_self, b3, b4, nn5])) | (refine tail_fin ?_) | (refine sch_fin ?_)))
        refine build_struct Tryz.zeroValue34 unAt plAt (cs := #[.string ⟨#[110]⟩, .string ⟨#[UInt8.ofNat (97 + k)]⟩]) (by rfl) ?_
        (repeat (first | ((first | refine pas_plain rfl ?_ | refine pas_g rfl rfl ?_ | refine act_plain rfl ?_ | refine act_g rfl rfl ?_ | refine last_plain rfl ?_ | refine tail_plain rfl ?_ | refine tail_g rfl rfl ?_); (repeat simp only [push_cast, seval, -Nat.reduceSubDiff, eq_self, b3, b4, nn5])) | (refine tail_fin ?_) | (refine sch_fin ?_)))
        (repeat (first | ((first | refine pas_plain rfl ?_ | refine pas_g rfl rfl ?_ | refine act_plain rfl ?_ | refine act_g rfl rfl ?_ | refine last_plain rfl ?_ | refine tail_plain rfl ?_ | refine tail_g rfl rfl ?_); (repeat simp only [push_cast, seval, -Nat.reduceSubDiff, eq_self, b3, b4, nn5])) | (refine tail_fin ?_) | (refine sch_fin ?_)))
        refine one_attr _ _ fun ba7 wn7 hx7 hat7 => ?_
        refine ⟨kept_upd hx7 fun q hq => ⟨by have := hE5.sz; have : q = bx := hq; omega, id⟩, ?_⟩
        have hE8 := hE5.trans hx7
        have nn8 := cell_ext hx7 nn5
        (repeat (first | ((first | refine pas_plain rfl ?_ | refine pas_g rfl rfl ?_ | refine act_plain rfl ?_ | refine act_g rfl rfl ?_ | refine last_plain rfl ?_ | refine tail_plain rfl ?_ | refine tail_g rfl rfl ?_); (repeat simp only [push_cast, seval, -Nat.reduceSubDiff, eq_self, b3, b4, nn8])) | (refine tail_fin ?_) | (refine sch_fin ?_)))
        refine build_struct Tryz.zeroValue37 unTo plTo (cs := #[.int .i64 2, .string (adName y), .string ⟨#[]⟩, .slice (some ⟨ba7, 0, none⟩) 1 1, .bool false, .bool false, .bool false, .int .i64 0, .int .i64 0]) (by rfl) ?_
        (repeat (first | ((first | refine pas_plain rfl ?_ | refine pas_g rfl rfl ?_ | refine act_plain rfl ?_ | refine act_g rfl rfl ?_ | refine last_plain rfl ?_ | refine tail_plain rfl ?_ | refine tail_g rfl rfl ?_); (repeat simp only [push_cast, seval, -Nat.reduceSubDiff, eq_self, b3, b4, nn8])) | (refine tail_fin ?_) | (refine sch_fin ?_)))
        refine (ins hE8 hat7).mono ?_
        rintro v w9 ⟨rfl, h9, hu9⟩
        refine ⟨kept_upd hu9 fun q hq => ⟨by have := hE8.sz; have : q = bx := hq; omega, fun hf => by have := hf.1; have : q = bx := hq; omega⟩, ?_⟩
        (repeat (first | ((first | refine pas_plain rfl ?_ | refine pas_g rfl rfl ?_ | refine act_plain rfl ?_ | refine act_g rfl rfl ?_ | refine last_plain rfl ?_ | refine tail_plain rfl ?_ | refine tail_g rfl rfl ?_); (repeat simp only [push_cast, seval, -Nat.reduceSubDiff, eq_self, b3, b4, nn8])) | (refine tail_fin ?_) | (refine sch_fin ?_)))
        (repeat simp only [push_cast, seval, -Nat.reduceSubDiff])
        exact h9
      · (repeat (first | ((first | refine pas_plain rfl ?_ | refine pas_g rfl rfl ?_ | refine act_plain rfl ?_ | refine act_g rfl rfl ?_ | refine last_plain rfl ?_ | refine tail_plain rfl ?_ | refine tail_g rfl rfl ?_); (repeat simp only [push_cast, seval, -Nat.reduceSubDiff, eq_self, b3, b4, nn1])) | (refine tail_fin ?_) | (refine sch_fin ?_)))
        refine one_byte _ fun bb9 wn9 hx9 hb9 => ?_
        refine ⟨kept_upd hx9 fun q hq => ⟨by have := hE2.sz; have : q = bx := hq; omega, id⟩, ?_⟩
        have hE10 := hE2.trans hx9
        have nn10 := cell_ext hx9 nn1
        (repeat (first | ((first | refine pas_plain rfl ?_ | refine pas_g rfl rfl ?_ | refine act_plain rfl ?_ | refine act_g rfl rfl ?_ | refine last_plain rfl ?_ | refine tail_plain rfl ?_ | refine tail_g rfl rfl ?_); (repeat simp only [push_cast, seval, -Nat.reduceSubDiff, eq_self, b3, b4, nn10])) | (refine tail_fin ?_) | (refine sch_fin ?_)))
        refine two_mk ?_ ?_
        · (repeat (first | ((first | refine pas_plain rfl ?_ | refine pas_g rfl rfl ?_ | refine act_plain rfl ?_ | refine act_g rfl rfl ?_ | refine last_plain rfl ?_ | refine tail_plain rfl ?_ | refine tail_g rfl rfl ?_); (repeat simp only [push_cast, seval, -Nat.reduceSubDiff, eq_self, b3, b4, nn10])) | (refine tail_fin ?_) | (refine sch_fin ?_)))
          refine ⟨kept.refl _ _, ?_⟩
          (repeat (first | ((first | refine pas_plain rfl ?_ | refine pas_g rfl rfl ?_ | refine act_plain rfl ?_ | refine act_g rfl rfl ?_ | refine last_plain rfl ?_ | refine tail_plain rfl ?_ | refine tail_g rfl rfl ?_); (repeat simp only [push_cast, seval, -Nat.reduceSubDiff, eq_self, b3, b4, nn10])) | (refine tail_fin ?_) | (refine sch_fin ?_)))
          (repeat (first | ((first | refine pas_plain rfl ?_ | refine pas_g rfl rfl ?_ | refine act_plain rfl ?_ | refine act_g rfl rfl ?_ | refine last_plain rfl ?_ | refine tail_plain rfl ?_ | refine tail_g rfl rfl ?_); (repeat simp only [push_cast, seval, -Nat.reduceSubDiff, eq_self, b3, b4, nn10])) | (refine tail_fin ?_) | (refine sch_fin ?_)))
          refine one_text hb9 ?_
          refine ⟨kept.refl _ _, ?_⟩
          (repeat (first | ((first | refine pas_plain rfl ?_ | refine pas_g rfl rfl ?_ | refine act_plain rfl ?_ | refine act_g rfl rfl ?_ | refine last_plain rfl ?_ | refine tail_plain rfl ?_ | refine tail_g rfl rfl ?_); (repeat simp only [push_cast, seval, -Nat.reduceSubDiff, eq_self, b3, b4, nn10])) | (refine tail_fin ?_) | (refine sch_fin ?_)))
          refine build_struct Tryz.zeroValue34 unAt plAt (cs := #[.string ⟨#[110]⟩, .string ⟨#[UInt8.ofNat (97 + k)]⟩]) (by rfl) ?_
          (repeat (first | ((first | refine pas_plain rfl ?_ | refine pas_g rfl rfl ?_ | refine act_plain rfl ?_ | refine act_g rfl rfl ?_ | refine last_plain rfl ?_ | refine tail_plain rfl ?_ | refine tail_g rfl rfl ?_); (repeat simp only [push_cast, seval, -Nat.reduceSubDiff, eq_self, b3, b4, nn10])) | (refine tail_fin ?_) | (refine sch_fin ?_)))
          (repeat (first | ((first | refine pas_plain rfl ?_ | refine pas_g rfl rfl ?_ | refine act_plain rfl ?_ | refine act_g rfl rfl ?_ | refine last_plain rfl ?_ | refine tail_plain rfl ?_ | refine tail_g rfl rfl ?_); (repeat simp only [push_cast, seval, -Nat.reduceSubDiff, eq_self, b3, b4, nn10])) | (refine tail_fin ?_) | (refine sch_fin ?_)))
          refine one_attr _ _ fun ba13 wn13 hx13 hat13 => ?_
          refine ⟨kept_upd hx13 fun q hq => ⟨by have := hE10.sz; have : q = bx := hq; omega, id⟩, ?_⟩
          have hE14 := hE10.trans hx13
          have nn14 := cell_ext hx13 nn10
          (repeat (first | ((first | refine pas_plain rfl ?_ | refine pas_g rfl rfl ?_ | refine act_plain rfl ?_ | refine act_g rfl rfl ?_ | refine last_plain rfl ?_ | refine tail_plain rfl ?_ | refine tail_g rfl rfl ?_); (repeat simp only [push_cast, seval, -Nat.reduceSubDiff, eq_self, b3, b4, nn14])) | (refine tail_fin ?_) | (refine sch_fin ?_)))
          refine build_struct Tryz.zeroValue37 unTo plTo (cs := #[.int .i64 2, .string (adName y), .string ⟨#[]⟩, .slice (some ⟨ba13, 0, none⟩) 1 1, .bool false, .bool false, .bool false, .int .i64 0, .int .i64 0]) (by rfl) ?_
          (repeat (first | ((first | refine pas_plain rfl ?_ | refine pas_g rfl rfl ?_ | refine act_plain rfl ?_ | refine act_g rfl rfl ?_ | refine last_plain rfl ?_ | refine tail_plain rfl ?_ | refine tail_g rfl rfl ?_); (repeat simp only [push_cast, seval, -Nat.reduceSubDiff, eq_self, b3, b4, nn14])) | (refine tail_fin ?_) | (refine sch_fin ?_)))
          refine (ins hE14 hat13).mono ?_
          rintro v w9 ⟨rfl, h9, hu9⟩
          refine ⟨kept_upd hu9 fun q hq => ⟨by have := hE14.sz; have : q = bx := hq; omega, fun hf => by have := hf.1; have : q = bx := hq; omega⟩, ?_⟩
          (repeat (first | ((first | refine pas_plain rfl ?_ | refine pas_g rfl rfl ?_ | refine act_plain rfl ?_ | refine act_g rfl rfl ?_ | refine last_plain rfl ?_ | refine tail_plain rfl ?_ | refine tail_g rfl rfl ?_); (repeat simp only [push_cast, seval, -Nat.reduceSubDiff, eq_self, b3, b4, nn14])) | (refine tail_fin ?_) | (refine sch_fin ?_)))
          (repeat simp only [push_cast, seval, -Nat.reduceSubDiff])
          exact h9
        · (repeat (first | ((first | refine pas_plain rfl ?_ | refine pas_g rfl rfl ?_ | refine act_plain rfl ?_ | refine act_g rfl rfl ?_ | refine last_plain rfl ?_ | refine tail_plain rfl ?_ | refine tail_g rfl rfl ?_); (repeat simp only [push_cast, seval, -Nat.reduceSubDiff, eq_self, b3, b4, nn10])) | (refine tail_fin ?_) | (refine sch_fin ?_)))
          refine one_text hb9 ?_
          refine ⟨kept.refl _ _, ?_⟩
          (repeat (first | ((first | refine pas_plain rfl ?_ | refine pas_g rfl rfl ?_ | refine act_plain rfl ?_ | refine act_g rfl rfl ?_ | refine last_plain rfl ?_ | refine tail_plain rfl ?_ | refine tail_g rfl rfl ?_); (repeat simp only [push_cast, seval, -Nat.reduceSubDiff, eq_self, b3, b4, nn10])) | (refine tail_fin ?_) | (refine sch_fin ?_)))
          refine build_struct Tryz.zeroValue34 unAt plAt (cs := #[.string ⟨#[110]⟩, .string ⟨#[UInt8.ofNat (97 + k)]⟩]) (by rfl) ?_
          (repeat (first | ((first | refine pas_plain rfl ?_ | refine pas_g rfl rfl ?_ | refine act_plain rfl ?_ | refine act_g rfl rfl ?_ | refine last_plain rfl ?_ | refine tail_plain rfl ?_ | refine tail_g rfl rfl ?_); (repeat simp only [push_cast, seval, -Nat.reduceSubDiff, eq_self, b3, b4, nn10])) | (refine tail_fin ?_) | (refine sch_fin ?_)))
          refine two_mk ?_ ?_
          · (repeat (first | ((first | refine pas_plain rfl ?_ | refine pas_g rfl rfl ?_ | refine act_plain rfl ?_ | refine act_g rfl rfl ?_ | refine last_plain rfl ?_ | refine tail_plain rfl ?_ | refine tail_g rfl rfl ?_); (repeat simp only [push_cast, seval, -Nat.reduceSubDiff, eq_self, b3, b4, nn10])) | (refine tail_fin ?_) | (refine sch_fin ?_)))
            refine ⟨kept.refl _ _, ?_⟩
            (repeat (first | ((first | refine pas_plain rfl ?_ | refine pas_g rfl rfl ?_ | refine act_plain rfl ?_ | refine act_g rfl rfl ?_ | refine last_plain rfl ?_ | refine tail_plain rfl ?_ | refine tail_g rfl rfl ?_); (repeat simp only [push_cast, seval, -Nat.reduceSubDiff, eq_self, b3, b4, nn10])) | (refine tail_fin ?_) | (refine sch_fin ?_)))
            (repeat (first | ((first | refine pas_plain rfl ?_ | refine pas_g rfl rfl ?_ | refine act_plain rfl ?_ | refine act_g rfl rfl ?_ | refine last_plain rfl ?_ | refine tail_plain rfl ?_ | refine tail_g rfl rfl ?_); (repeat simp only [push_cast, seval, -Nat.reduceSubDiff, eq_self, b3, b4, nn10])) | (refine tail_fin ?_) | (refine sch_fin ?_)))
            refine one_attr _ _ fun ba17 wn17 hx17 hat17 => ?_
            refine ⟨kept_upd hx17 fun q hq => ⟨by have := hE10.sz; have : q = bx := hq; omega, id⟩, ?_⟩
            have hE18 := hE10.trans hx17
            have nn18 := cell_ext hx17 nn10
            (repeat (first | ((first | refine pas_plain rfl ?_ | refine pas_g rfl rfl ?_ | refine act_plain rfl ?_ | refine act_g rfl rfl ?_ | refine last_plain rfl ?_ | refine tail_plain rfl ?_ | refine tail_g rfl rfl ?_); (repeat simp only [push_cast, seval, -Nat.reduceSubDiff, eq_self, b3, b4, nn18])) | (refine tail_fin ?_) | (refine sch_fin ?_)))
            refine build_struct Tryz.zeroValue37 unTo plTo (cs := #[.int .i64 2, .string (adName y), .string ⟨#[]⟩, .slice (some ⟨ba17, 0, none⟩) 1 1, .bool false, .bool false, .bool false, .int .i64 0, .int .i64 0]) (by rfl) ?_
            (repeat (first | ((first | refine pas_plain rfl ?_ | refine pas_g rfl rfl ?_ | refine act_plain rfl ?_ | refine act_g rfl rfl ?_ | refine last_plain rfl ?_ | refine tail_plain rfl ?_ | refine tail_g rfl rfl ?_); (repeat simp only [push_cast, seval, -Nat.reduceSubDiff, eq_self, b3, b4, nn18])) | (refine tail_fin ?_) | (refine sch_fin ?_)))
            refine (ins hE18 hat17).mono ?_
            rintro v w9 ⟨rfl, h9, hu9⟩
            refine ⟨kept_upd hu9 fun q hq => ⟨by have := hE18.sz; have : q = bx := hq; omega, fun hf => by have := hf.1; have : q = bx := hq; omega⟩, ?_⟩
            (repeat (first | ((first | refine pas_plain rfl ?_ | refine pas_g rfl rfl ?_ | refine act_plain rfl ?_ | refine act_g rfl rfl ?_ | refine last_plain rfl ?_ | refine tail_plain rfl ?_ | refine tail_g rfl rfl ?_); (repeat simp only [push_cast, seval, -Nat.reduceSubDiff, eq_self, b3, b4, nn18])) | (refine tail_fin ?_) | (refine sch_fin ?_)))
            (repeat simp only [push_cast, seval, -Nat.reduceSubDiff])
            exact h9
          · (repeat (first | ((first | refine pas_plain rfl ?_ | refine pas_g rfl rfl ?_ | refine act_plain rfl ?_ | refine act_g rfl rfl ?_ | refine last_plain rfl ?_ | refine tail_plain rfl ?_ | refine tail_g rfl rfl ?_); (repeat simp only [push_cast, seval, -Nat.reduceSubDiff, eq_self, b3, b4, nn10])) | (refine tail_fin ?_) | (refine sch_fin ?_)))
            refine one_attr _ _ fun ba19 wn19 hx19 hat19 => ?_
            refine ⟨kept_upd hx19 fun q hq => ⟨by have := hE10.sz; have : q = bx := hq; omega, id⟩, ?_⟩
            have hE20 := hE10.trans hx19
            have nn20 := cell_ext hx19 nn10
            (repeat (first | ((first | refine pas_plain rfl ?_ | refine pas_g rfl rfl ?_ | refine act_plain rfl ?_ | refine act_g rfl rfl ?_ | refine last_plain rfl ?_ | refine tail_plain rfl ?_ | refine tail_g rfl rfl ?_); (repeat simp only [push_cast, seval, -Nat.reduceSubDiff, eq_self, b3, b4, nn20])) | (refine tail_fin ?_) | (refine sch_fin ?_)))
            (repeat (first | ((first | refine pas_plain rfl ?_ | refine pas_g rfl rfl ?_ | refine act_plain rfl ?_ | refine act_g rfl rfl ?_ | refine last_plain rfl ?_ | refine tail_plain rfl ?_ | refine tail_g rfl rfl ?_); (repeat simp only [push_cast, seval, -Nat.reduceSubDiff, eq_self, b3, b4, nn20])) | (refine tail_fin ?_) | (refine sch_fin ?_)))
            refine ⟨kept.refl _ _, ?_⟩
            (repeat (first | ((first | refine pas_plain rfl ?_ | refine pas_g rfl rfl ?_ | refine act_plain rfl ?_ | refine act_g rfl rfl ?_ | refine last_plain rfl ?_ | refine tail_plain rfl ?_ | refine tail_g rfl rfl ?_); (repeat simp only [push_cast, seval, -Nat.reduceSubDiff, eq_self, b3, b4, nn20])) | (refine tail_fin ?_) | (refine sch_fin ?_)))
            refine build_struct Tryz.zeroValue37 unTo plTo (cs := #[.int .i64 2, .string (adName y), .string ⟨#[]⟩, .slice (some ⟨ba19, 0, none⟩) 1 1, .bool false, .bool false, .bool false, .int .i64 0, .int .i64 0]) (by rfl) ?_
            (repeat (first | ((first | refine pas_plain rfl ?_ | refine pas_g rfl rfl ?_ | refine act_plain rfl ?_ | refine act_g rfl rfl ?_ | refine last_plain rfl ?_ | refine tail_plain rfl ?_ | refine tail_g rfl rfl ?_); (repeat simp only [push_cast, seval, -Nat.reduceSubDiff, eq_self, b3, b4, nn20])) | (refine tail_fin ?_) | (refine sch_fin ?_)))
            refine (ins hE20 hat19).mono ?_
            rintro v w9 ⟨rfl, h9, hu9⟩
            refine ⟨kept_upd hu9 fun q hq => ⟨by have := hE20.sz; have : q = bx := hq; omega, fun hf => by have := hf.1; have : q = bx := hq; omega⟩, ?_⟩
            (repeat (first | ((first | refine pas_plain rfl ?_ | refine pas_g rfl rfl ?_ | refine act_plain rfl ?_ | refine act_g rfl rfl ?_ | refine last_plain rfl ?_ | refine tail_plain rfl ?_ | refine tail_g rfl rfl ?_); (repeat simp only [push_cast, seval, -Nat.reduceSubDiff, eq_self, b3, b4, nn20])) | (refine tail_fin ?_) | (refine sch_fin ?_)))
            (repeat simp only [push_cast, seval, -Nat.reduceSubDiff])
            exact h9
    · (repeat (first | ((first | refine pas_plain rfl ?_ | refine pas_g rfl rfl ?_ | refine act_plain rfl ?_ | refine act_g rfl rfl ?_ | refine last_plain rfl ?_ | refine tail_plain rfl ?_ | refine tail_g rfl rfl ?_); (repeat simp only [push_cast, seval, -Nat.reduceSubDiff, eq_self, b3, b4])) | (refine tail_fin ?_) | (refine sch_fin ?_)))
      refine one_byte _ fun bb22 wn22 hx22 hb22 => ?_
      refine ⟨kept_upd hx22 fun q hq => ⟨by have := hE0.sz; have : q = bx := hq; omega, id⟩, ?_⟩
      have hE23 := hE0.trans hx22
      (repeat (first | ((first | refine pas_plain rfl ?_ | refine pas_g rfl rfl ?_ | refine act_plain rfl ?_ | refine act_g rfl rfl ?_ | refine last_plain rfl ?_ | refine tail_plain rfl ?_ | refine tail_g rfl rfl ?_); (repeat simp only [push_cast, seval, -Nat.reduceSubDiff, eq_self, b3, b4])) | (refine tail_fin ?_) | (refine sch_fin ?_)))
      refine two_mk ?_ ?_
      · (repeat (first | ((first | refine pas_plain rfl ?_ | refine pas_g rfl rfl ?_ | refine act_plain rfl ?_ | refine act_g rfl rfl ?_ | refine last_plain rfl ?_ | refine tail_plain rfl ?_ | refine tail_g rfl rfl ?_); (repeat simp only [push_cast, seval, -Nat.reduceSubDiff, eq_self, b3, b4])) | (refine tail_fin ?_) | (refine sch_fin ?_)))
        refine names_c.mono ?_
        rintro v wn24 ⟨hx24, hr24, bn24, rfl, hbn24⟩
        refine ⟨kept_upd hx24 fun q hq => ⟨by have := hE23.sz; have : q = bx := hq; omega, id⟩, ?_⟩
        have hE25 := hE23.trans hx24
        have hb25 := cell_ext hx24 hb22
        have nn24 := rd_str hr24 (Ext.refl _) hny
        (repeat (first | ((first | refine pas_plain rfl ?_ | refine pas_g rfl rfl ?_ | refine act_plain rfl ?_ | refine act_g rfl rfl ?_ | refine last_plain rfl ?_ | refine tail_plain rfl ?_ | refine tail_g rfl rfl ?_); (repeat simp only [push_cast, seval, -Nat.reduceSubDiff, eq_self, b3, b4, nn24])) | (refine tail_fin ?_) | (refine sch_fin ?_)))
        refine two_mk ?_ ?_
        · (repeat (first | ((first | refine pas_plain rfl ?_ | refine pas_g rfl rfl ?_ | refine act_plain rfl ?_ | refine act_g rfl rfl ?_ | refine last_plain rfl ?_ | refine tail_plain rfl ?_ | refine tail_g rfl rfl ?_); (repeat simp only [push_cast, seval, -Nat.reduceSubDiff, eq_self, b3, b4, nn24])) | (refine tail_fin ?_) | (refine sch_fin ?_)))
          refine ⟨kept.refl _ _, ?_⟩
          (repeat (first | ((first | refine pas_plain rfl ?_ | refine pas_g rfl rfl ?_ | refine act_plain rfl ?_ | refine act_g rfl rfl ?_ | refine last_plain rfl ?_ | refine tail_plain rfl ?_ | refine tail_g rfl rfl ?_); (repeat simp only [push_cast, seval, -Nat.reduceSubDiff, eq_self, b3, b4, nn24])) | (refine tail_fin ?_) | (refine sch_fin ?_)))
          (repeat (first | ((first | refine pas_plain rfl ?_ | refine pas_g rfl rfl ?_ | refine act_plain rfl ?_ | refine act_g rfl rfl ?_ | refine last_plain rfl ?_ | refine tail_plain rfl ?_ | refine tail_g rfl rfl ?_); (repeat simp only [push_cast, seval, -Nat.reduceSubDiff, eq_self, b3, b4, nn24])) | (refine tail_fin ?_) | (refine sch_fin ?_)))
          refine one_text hb25 ?_
          refine ⟨kept.refl _ _, ?_⟩
          (repeat (first | ((first | refine pas_plain rfl ?_ | refine pas_g rfl rfl ?_ | refine act_plain rfl ?_ | refine act_g rfl rfl ?_ | refine last_plain rfl ?_ | refine tail_plain rfl ?_ | refine tail_g rfl rfl ?_); (repeat simp only [push_cast, seval, -Nat.reduceSubDiff, eq_self, b3, b4, nn24])) | (refine tail_fin ?_) | (refine sch_fin ?_)))
          refine build_struct Tryz.zeroValue34 unAt plAt (cs := #[.string ⟨#[110]⟩, .string ⟨#[UInt8.ofNat (97 + k)]⟩]) (by rfl) ?_
          (repeat (first | ((first | refine pas_plain rfl ?_ | refine pas_g rfl rfl ?_ | refine act_plain rfl ?_ | refine act_g rfl rfl ?_ | refine last_plain rfl ?_ | refine tail_plain rfl ?_ | refine tail_g rfl rfl ?_); (repeat simp only [push_cast, seval, -Nat.reduceSubDiff, eq_self, b3, b4, nn24])) | (refine tail_fin ?_) | (refine sch_fin ?_)))
          (repeat (first | ((first | refine pas_plain rfl ?_ | refine pas_g rfl rfl ?_ | refine act_plain rfl ?_ | refine act_g rfl rfl ?_ | refine last_plain rfl ?_ | refine tail_plain rfl ?_ | refine tail_g rfl rfl ?_); (repeat simp only [push_cast, seval, -Nat.reduceSubDiff, eq_self, b3, b4, nn24])) | (refine tail_fin ?_) | (refine sch_fin ?_)))
          refine one_attr _ _ fun ba28 wn28 hx28 hat28 => ?_
          refine ⟨kept_upd hx28 fun q hq => ⟨by have := hE25.sz; have : q = bx := hq; omega, id⟩, ?_⟩
          have hE29 := hE25.trans hx28
          have nn29 := cell_ext hx28 nn24
          (repeat (first | ((first | refine pas_plain rfl ?_ | refine pas_g rfl rfl ?_ | refine act_plain rfl ?_ | refine act_g rfl rfl ?_ | refine last_plain rfl ?_ | refine tail_plain rfl ?_ | refine tail_g rfl rfl ?_); (repeat simp only [push_cast, seval, -Nat.reduceSubDiff, eq_self, b3, b4, nn29])) | (refine tail_fin ?_) | (refine sch_fin ?_)))
          refine build_struct Tryz.zeroValue37 unTo plTo (cs := #[.int .i64 2, .string (adName y), .string ⟨#[]⟩, .slice (some ⟨ba28, 0, none⟩) 1 1, .bool false, .bool false, .bool false, .int .i64 0, .int .i64 0]) (by rfl) ?_
          (repeat (first | ((first | refine pas_plain rfl ?_ | refine pas_g rfl rfl ?_ | refine act_plain rfl ?_ | refine act_g rfl rfl ?_ | refine last_plain rfl ?_ | refine tail_plain rfl ?_ | refine tail_g rfl rfl ?_); (repeat simp only [push_cast, seval, -Nat.reduceSubDiff, eq_self, b3, b4, nn29])) | (refine tail_fin ?_) | (refine sch_fin ?_)))
          refine (ins hE29 hat28).mono ?_
          rintro v w9 ⟨rfl, h9, hu9⟩
          refine ⟨kept_upd hu9 fun q hq => ⟨by have := hE29.sz; have : q = bx := hq; omega, fun hf => by have := hf.1; have : q = bx := hq; omega⟩, ?_⟩
          (repeat (first | ((first | refine pas_plain rfl ?_ | refine pas_g rfl rfl ?_ | refine act_plain rfl ?_ | refine act_g rfl rfl ?_ | refine last_plain rfl ?_ | refine tail_plain rfl ?_ | refine tail_g rfl rfl ?_); (repeat simp only [push_cast, seval, -Nat.reduceSubDiff, eq_self, b3, b4, nn29])) | (refine tail_fin ?_) | (refine sch_fin ?_)))
          (repeat simp only [push_cast, seval, -Nat.reduceSubDiff])
          exact h9
        · (repeat (first | ((first | refine pas_plain rfl ?_ | refine pas_g rfl rfl ?_ | refine act_plain rfl ?_ | refine act_g rfl rfl ?_ | refine last_plain rfl ?_ | refine tail_plain rfl ?_ | refine tail_g rfl rfl ?_); (repeat simp only [push_cast, seval, -Nat.reduceSubDiff, eq_self, b3, b4, nn24])) | (refine tail_fin ?_) | (refine sch_fin ?_)))
          refine one_text hb25 ?_
          refine ⟨kept.refl _ _, ?_⟩
          (repeat (first | ((first | refine pas_plain rfl ?_ | refine pas_g rfl rfl ?_ | refine act_plain rfl ?_ | refine act_g rfl rfl ?_ | refine last_plain rfl ?_ | refine tail_plain rfl ?_ | refine tail_g rfl rfl ?_); (repeat simp only [push_cast, seval, -Nat.reduceSubDiff, eq_self, b3, b4, nn24])) | (refine tail_fin ?_) | (refine sch_fin ?_)))
          refine build_struct Tryz.zeroValue34 unAt plAt (cs := #[.string ⟨#[110]⟩, .string ⟨#[UInt8.ofNat (97 + k)]⟩]) (by rfl) ?_
          (repeat (first | ((first | refine pas_plain rfl ?_ | refine pas_g rfl rfl ?_ | refine act_plain rfl ?_ | refine act_g rfl rfl ?_ | refine last_plain rfl ?_ | refine tail_plain rfl ?_ | refine tail_g rfl rfl ?_); (repeat simp only [push_cast, seval, -Nat.reduceSubDiff, eq_self, b3, b4, nn24])) | (refine tail_fin ?_) | (refine sch_fin ?_)))
          refine two_mk ?_ ?_
          · (repeat (first | ((first | refine pas_plain rfl ?_ | refine pas_g rfl rfl ?_ | refine act_plain rfl ?_ | refine act_g rfl rfl ?_ | refine last_plain rfl ?_ | refine tail_plain rfl ?_ | refine tail_g rfl rfl ?_); (repeat simp only [push_cast, seval, -Nat.reduceSubDiff, eq_self, b3, b4, nn24])) | (refine tail_fin ?_) | (refine sch_fin ?_)))
            refine ⟨kept.refl _ _, ?_⟩
            (repeat (first | ((first | refine pas_plain rfl ?_ | refine pas_g rfl rfl ?_ | refine act_plain rfl ?_ | refine act_g rfl rfl ?_ | refine last_plain rfl ?_ | refine tail_plain rfl ?_ | refine tail_g rfl rfl ?_); (repeat simp only [push_cast, seval, -Nat.reduceSubDiff, eq_self, b3, b4, nn24])) | (refine tail_fin ?_) | (refine sch_fin ?_)))
            (repeat (first | ((first | refine pas_plain rfl ?_ | refine pas_g rfl rfl ?_ | refine act_plain rfl ?_ | refine act_g rfl rfl ?_ | refine last_plain rfl ?_ | refine tail_plain rfl ?_ | refine tail_g rfl rfl ?_); (repeat simp only [push_cast, seval, -Nat.reduceSubDiff, eq_self, b3, b4, nn24])) | (refine tail_fin ?_) | (refine sch_fin ?_)))
            refine one_attr _ _ fun ba32 wn32 hx32 hat32 => ?_
            refine ⟨kept_upd hx32 fun q hq => ⟨by have := hE25.sz; have : q = bx := hq; omega, id⟩, ?_⟩
            have hE33 := hE25.trans hx32
            have nn33 := cell_ext hx32 nn24
            (repeat (first | ((first | refine pas_plain rfl ?_ | refine pas_g rfl rfl ?_ | refine act_plain rfl ?_ | refine act_g rfl rfl ?_ | refine last_plain rfl ?_ | refine tail_plain rfl ?_ | refine tail_g rfl rfl ?_); (repeat simp only [push_cast, seval, -Nat.reduceSubDiff, eq_self, b3, b4, nn33])) | (refine tail_fin ?_) | (refine sch_fin ?_)))
            refine build_struct Tryz.zeroValue37 unTo plTo (cs := #[.int .i64 2, .string (adName y), .string ⟨#[]⟩, .slice (some ⟨ba32, 0, none⟩) 1 1, .bool false, .bool false, .bool false, .int .i64 0, .int .i64 0]) (by rfl) ?_
            (repeat (first | ((first | refine pas_plain rfl ?_ | refine pas_g rfl rfl ?_ | refine act_plain rfl ?_ | refine act_g rfl rfl ?_ | refine last_plain rfl ?_ | refine tail_plain rfl ?_ | refine tail_g rfl rfl ?_); (repeat simp only [push_cast, seval, -Nat.reduceSubDiff, eq_self, b3, b4, nn33])) | (refine tail_fin ?_) | (refine sch_fin ?_)))
            refine (ins hE33 hat32).mono ?_
            rintro v w9 ⟨rfl, h9, hu9⟩
            refine ⟨kept_upd hu9 fun q hq => ⟨by have := hE33.sz; have : q = bx := hq; omega, fun hf => by have := hf.1; have : q = bx := hq; omega⟩, ?_⟩
            (repeat (first | ((first | refine pas_plain rfl ?_ | refine pas_g rfl rfl ?_ | refine act_plain rfl ?_ | refine act_g rfl rfl ?_ | refine last_plain rfl ?_ | refine tail_plain rfl ?_ | refine tail_g rfl rfl ?_); (repeat simp only [push_cast, seval, -Nat.reduceSubDiff, eq_self, b3, b4, nn33])) | (refine tail_fin ?_) | (refine sch_fin ?_)))
            (repeat simp only [push_cast, seval, -Nat.reduceSubDiff])
            exact h9
          · (repeat (first | ((first | refine pas_plain rfl ?_ | refine pas_g rfl rfl ?_ | refine act_plain rfl ?_ | refine act_g rfl rfl ?_ | refine last_plain rfl ?_ | refine tail_plain rfl ?_ | refine tail_g rfl rfl ?_); (repeat simp only [push_cast, seval, -Nat.reduceSubDiff, eq_self, b3, b4, nn24])) | (refine tail_fin ?_) | (refine sch_fin ?_)))
            refine one_attr _ _ fun ba34 wn34 hx34 hat34 => ?_
            refine ⟨kept_upd hx34 fun q hq => ⟨by have := hE25.sz; have : q = bx := hq; omega, id⟩, ?_⟩
            have hE35 := hE25.trans hx34
            have nn35 := cell_ext hx34 nn24
            (repeat (first | ((first | refine pas_plain rfl ?_ | refine pas_g rfl rfl ?_ | refine act_plain rfl ?_ | refine act_g rfl rfl ?_ | refine last_plain rfl ?_ | refine tail_plain rfl ?_ | refine tail_g rfl rfl ?_); (repeat simp only [push_cast, seval, -Nat.reduceSubDiff, eq_self, b3, b4, nn35])) | (refine tail_fin ?_) | (refine sch_fin ?_)))
            (repeat (first | ((first | refine pas_plain rfl ?_ | refine pas_g rfl rfl ?_ | refine act_plain rfl ?_ | refine act_g rfl rfl ?_ | refine last_plain rfl ?_ | refine tail_plain rfl ?_ | refine tail_g rfl rfl ?_); (repeat simp only [push_cast, seval, -Nat.reduceSubDiff, eq_self, b3, b4, nn35])) | (refine tail_fin ?_) | (refine sch_fin ?_)))
            refine ⟨kept.refl _ _, ?_⟩
            (repeat (first | ((first | refine pas_plain rfl ?_ | refine pas_g rfl rfl ?_ | refine act_plain rfl ?_ | refine act_g rfl rfl ?_ | refine last_plain rfl ?_ | refine tail_plain rfl ?_ | refine tail_g rfl rfl ?_); (repeat simp only [push_cast, seval, -Nat.reduceSubDiff, eq_self, b3, b4, nn35])) | (refine tail_fin ?_) | (refine sch_fin ?_)))
            refine build_struct Tryz.zeroValue37 unTo plTo (cs := #[.int .i64 2, .string (adName y), .string ⟨#[]⟩, .slice (some ⟨ba34, 0, none⟩) 1 1, .bool false, .bool false, .bool false, .int .i64 0, .int .i64 0]) (by rfl) ?_
            (repeat (first | ((first | refine pas_plain rfl ?_ | refine pas_g rfl rfl ?_ | refine act_plain rfl ?_ | refine act_g rfl rfl ?_ | refine last_plain rfl ?_ | refine tail_plain rfl ?_ | refine tail_g rfl rfl ?_); (repeat simp only [push_cast, seval, -Nat.reduceSubDiff, eq_self, b3, b4, nn35])) | (refine tail_fin ?_) | (refine sch_fin ?_)))
            refine (ins hE35 hat34).mono ?_
            rintro v w9 ⟨rfl, h9, hu9⟩
            refine ⟨kept_upd hu9 fun q hq => ⟨by have := hE35.sz; have : q = bx := hq; omega, fun hf => by have := hf.1; have : q = bx := hq; omega⟩, ?_⟩
            (repeat (first | ((first | refine pas_plain rfl ?_ | refine pas_g rfl rfl ?_ | refine act_plain rfl ?_ | refine act_g rfl rfl ?_ | refine last_plain rfl ?_ | refine tail_plain rfl ?_ | refine tail_g rfl rfl ?_); (repeat simp only [push_cast, seval, -Nat.reduceSubDiff, eq_self, b3, b4, nn35])) | (refine tail_fin ?_) | (refine sch_fin ?_)))
            (repeat simp only [push_cast, seval, -Nat.reduceSubDiff])
            exact h9
      · (repeat (first | ((first | refine pas_plain rfl ?_ | refine pas_g rfl rfl ?_ | refine act_plain rfl ?_ | refine act_g rfl rfl ?_ | refine last_plain rfl ?_ | refine tail_plain rfl ?_ | refine tail_g rfl rfl ?_); (repeat simp only [push_cast, seval, -Nat.reduceSubDiff, eq_self, b3, b4])) | (refine tail_fin ?_) | (refine sch_fin ?_)))
        refine one_text hb22 ?_
        refine ⟨kept.refl _ _, ?_⟩
        (repeat (first | ((first | refine pas_plain rfl ?_ | refine pas_g rfl rfl ?_ | refine act_plain rfl ?_ | refine act_g rfl rfl ?_ | refine last_plain rfl ?_ | refine tail_plain rfl ?_ | refine tail_g rfl rfl ?_); (repeat simp only [push_cast, seval, -Nat.reduceSubDiff, eq_self, b3, b4])) | (refine tail_fin ?_) | (refine sch_fin ?_)))
        refine build_struct Tryz.zeroValue34 unAt plAt (cs := #[.string ⟨#[110]⟩, .string ⟨#[UInt8.ofNat (97 + k)]⟩]) (by rfl) ?_
        (repeat (first | ((first | refine pas_plain rfl ?_ | refine pas_g rfl rfl ?_ | refine act_plain rfl ?_ | refine act_g rfl rfl ?_ | refine last_plain rfl ?_ | refine tail_plain rfl ?_ | refine tail_g rfl rfl ?_); (repeat simp only [push_cast, seval, -Nat.reduceSubDiff, eq_self, b3, b4])) | (refine tail_fin ?_) | (refine sch_fin ?_)))
        refine two_mk ?_ ?_
        · (repeat (first | ((first | refine pas_plain rfl ?_ | refine pas_g rfl rfl ?_ | refine act_plain rfl ?_ | refine act_g rfl rfl ?_ | refine last_plain rfl ?_ | refine tail_plain rfl ?_ | refine tail_g rfl rfl ?_); (repeat simp only [push_cast, seval, -Nat.reduceSubDiff, eq_self, b3, b4])) | (refine tail_fin ?_) | (refine sch_fin ?_)))
          refine names_c.mono ?_
          rintro v wn38 ⟨hx38, hr38, bn38, rfl, hbn38⟩
          refine ⟨kept_upd hx38 fun q hq => ⟨by have := hE23.sz; have : q = bx := hq; omega, id⟩, ?_⟩
          have hE39 := hE23.trans hx38
          have nn38 := rd_str hr38 (Ext.refl _) hny
          (repeat (first | ((first | refine pas_plain rfl ?_ | refine pas_g rfl rfl ?_ | refine act_plain rfl ?_ | refine act_g rfl rfl ?_ | refine last_plain rfl ?_ | refine tail_plain rfl ?_ | refine tail_g rfl rfl ?_); (repeat simp only [push_cast, seval, -Nat.reduceSubDiff, eq_self, b3, b4, nn38])) | (refine tail_fin ?_) | (refine sch_fin ?_)))
          refine two_mk ?_ ?_
          · (repeat (first | ((first | refine pas_plain rfl ?_ | refine pas_g rfl rfl ?_ | refine act_plain rfl ?_ | refine act_g rfl rfl ?_ | refine last_plain rfl ?_ | refine tail_plain rfl ?_ | refine tail_g rfl rfl ?_); (repeat simp only [push_cast, seval, -Nat.reduceSubDiff, eq_self, b3, b4, nn38])) | (refine tail_fin ?_) | (refine sch_fin ?_)))
            refine ⟨kept.refl _ _, ?_⟩
            (repeat (first | ((first | refine pas_plain rfl ?_ | refine pas_g rfl rfl ?_ | refine act_plain rfl ?_ | refine act_g rfl rfl ?_ | refine last_plain rfl ?_ | refine tail_plain rfl ?_ | refine tail_g rfl rfl ?_); (repeat simp only [push_cast, seval, -Nat.reduceSubDiff, eq_self, b3, b4, nn38])) | (refine tail_fin ?_) | (refine sch_fin ?_)))
            (repeat (first | ((first | refine pas_plain rfl ?_ | refine pas_g rfl rfl ?_ | refine act_plain rfl ?_ | refine act_g rfl rfl ?_ | refine last_plain rfl ?_ | refine tail_plain rfl ?_ | refine tail_g rfl rfl ?_); (repeat simp only [push_cast, seval, -Nat.reduceSubDiff, eq_self, b3, b4, nn38])) | (refine tail_fin ?_) | (refine sch_fin ?_)))
            refine one_attr _ _ fun ba41 wn41 hx41 hat41 => ?_
            refine ⟨kept_upd hx41 fun q hq => ⟨by have := hE39.sz; have : q = bx := hq; omega, id⟩, ?_⟩
            have hE42 := hE39.trans hx41
            have nn42 := cell_ext hx41 nn38
            (repeat (first | ((first | refine pas_plain rfl ?_ | refine pas_g rfl rfl ?_ | refine act_plain rfl ?_ | refine act_g rfl rfl ?_ | refine last_plain rfl ?_ | refine tail_plain rfl ?_ | refine tail_g rfl rfl ?_); (repeat simp only [push_cast, seval, -Nat.reduceSubDiff, eq_self, b3, b4, nn42])) | (refine tail_fin ?_) | (refine sch_fin ?_)))
            refine build_struct Tryz.zeroValue37 unTo plTo (cs := #[.int .i64 2, .string (adName y), .string ⟨#[]⟩, .slice (some ⟨ba41, 0, none⟩) 1 1, .bool false, .bool false, .bool false, .int .i64 0, .int .i64 0]) (by rfl) ?_
            (repeat (first | ((first | refine pas_plain rfl ?_ | refine pas_g rfl rfl ?_ | refine act_plain rfl ?_ | refine act_g rfl rfl ?_ | refine last_plain rfl ?_ | refine tail_plain rfl ?_ | refine tail_g rfl rfl ?_); (repeat simp only [push_cast, seval, -Nat.reduceSubDiff, eq_self, b3, b4, nn42])) | (refine tail_fin ?_) | (refine sch_fin ?_)))
            refine (ins hE42 hat41).mono ?_
            rintro v w9 ⟨rfl, h9, hu9⟩
            refine ⟨kept_upd hu9 fun q hq => ⟨by have := hE42.sz; have : q = bx := hq; omega, fun hf => by have := hf.1; have : q = bx := hq; omega⟩, ?_⟩
            (repeat (first | ((first | refine pas_plain rfl ?_ | refine pas_g rfl rfl ?_ | refine act_plain rfl ?_ | refine act_g rfl rfl ?_ | refine last_plain rfl ?_ | refine tail_plain rfl ?_ | refine tail_g rfl rfl ?_); (repeat simp only [push_cast, seval, -Nat.reduceSubDiff, eq_self, b3, b4, nn42])) | (refine tail_fin ?_) | (refine sch_fin ?_)))
            (repeat simp only [push_cast, seval, -Nat.reduceSubDiff])
            exact h9
          · (repeat (first | ((first | refine pas_plain rfl ?_ | refine pas_g rfl rfl ?_ | refine act_plain rfl ?_ | refine act_g rfl rfl ?_ | refine last_plain rfl ?_ | refine tail_plain rfl ?_ | refine tail_g rfl rfl ?_); (repeat simp only [push_cast, seval, -Nat.reduceSubDiff, eq_self, b3, b4, nn38])) | (refine tail_fin ?_) | (refine sch_fin ?_)))
            refine one_attr _ _ fun ba43 wn43 hx43 hat43 => ?_
            refine ⟨kept_upd hx43 fun q hq => ⟨by have := hE39.sz; have : q = bx := hq; omega, id⟩, ?_⟩
            have hE44 := hE39.trans hx43
            have nn44 := cell_ext hx43 nn38
            (repeat (first | ((first | refine pas_plain rfl ?_ | refine pas_g rfl rfl ?_ | refine act_plain rfl ?_ | refine act_g rfl rfl ?_ | refine last_plain rfl ?_ | refine tail_plain rfl ?_ | refine tail_g rfl rfl ?_); (repeat simp only [push_cast, seval, -Nat.reduceSubDiff, eq_self, b3, b4, nn44])) | (refine tail_fin ?_) | (refine sch_fin ?_)))
            (repeat (first | ((first | refine pas_plain rfl ?_ | refine pas_g rfl rfl ?_ | refine act_plain rfl ?_ | refine act_g rfl rfl ?_ | refine last_plain rfl ?_ | refine tail_plain rfl ?_ | refine tail_g rfl rfl ?_); (repeat simp only [push_cast, seval, -Nat.reduceSubDiff, eq_self, b3, b4, nn44])) | (refine tail_fin ?_) | (refine sch_fin ?_)))
            refine ⟨kept.refl _ _, ?_⟩
            (repeat (first | ((first | refine pas_plain rfl ?_ | refine pas_g rfl rfl ?_ | refine act_plain rfl ?_ | refine act_g rfl rfl ?_ | refine last_plain rfl ?_ | refine tail_plain rfl ?_ | refine tail_g rfl rfl ?_); (repeat simp only [push_cast, seval, -Nat.reduceSubDiff, eq_self, b3, b4, nn44])) | (refine tail_fin ?_) | (refine sch_fin ?_)))
            refine build_struct Tryz.zeroValue37 unTo plTo (cs := #[.int .i64 2, .string (adName y), .string ⟨#[]⟩, .slice (some ⟨ba43, 0, none⟩) 1 1, .bool false, .bool false, .bool false, .int .i64 0, .int .i64 0]) (by rfl) ?_
            (repeat (first | ((first | refine pas_plain rfl ?_ | refine pas_g rfl rfl ?_ | refine act_plain rfl ?_ | refine act_g rfl rfl ?_ | refine last_plain rfl ?_ | refine tail_plain rfl ?_ | refine tail_g rfl rfl ?_); (repeat simp only [push_cast, seval, -Nat.reduceSubDiff, eq_self, b3, b4, nn44])) | (refine tail_fin ?_) | (refine sch_fin ?_)))
            refine (ins hE44 hat43).mono ?_
            rintro v w9 ⟨rfl, h9, hu9⟩
            refine ⟨kept_upd hu9 fun q hq => ⟨by have := hE44.sz; have : q = bx := hq; omega, fun hf => by have := hf.1; have : q = bx := hq; omega⟩, ?_⟩
            (repeat (first | ((first | refine pas_plain rfl ?_ | refine pas_g rfl rfl ?_ | refine act_plain rfl ?_ | refine act_g rfl rfl ?_ | refine last_plain rfl ?_ | refine tail_plain rfl ?_ | refine tail_g rfl rfl ?_); (repeat simp only [push_cast, seval, -Nat.reduceSubDiff, eq_self, b3, b4, nn44])) | (refine tail_fin ?_) | (refine sch_fin ?_)))
            (repeat simp only [push_cast, seval, -Nat.reduceSubDiff])
            exact h9
        · (repeat (first | ((first | refine pas_plain rfl ?_ | refine pas_g rfl rfl ?_ | refine act_plain rfl ?_ | refine act_g rfl rfl ?_ | refine last_plain rfl ?_ | refine tail_plain rfl ?_ | refine tail_g rfl rfl ?_); (repeat simp only [push_cast, seval, -Nat.reduceSubDiff, eq_self, b3, b4])) | (refine tail_fin ?_) | (refine sch_fin ?_)))
          refine one_attr _ _ fun ba46 wn46 hx46 hat46 => ?_
          refine ⟨kept_upd hx46 fun q hq => ⟨by have := hE23.sz; have : q = bx := hq; omega, id⟩, ?_⟩
          have hE47 := hE23.trans hx46
          (repeat (first | ((first | refine pas_plain rfl ?_ | refine pas_g rfl rfl ?_ | refine act_plain rfl ?_ | refine act_g rfl rfl ?_ | refine last_plain rfl ?_ | refine tail_plain rfl ?_ | refine tail_g rfl rfl ?_); (repeat simp only [push_cast, seval, -Nat.reduceSubDiff, eq_self, b3, b4])) | (refine tail_fin ?_) | (refine sch_fin ?_)))
          (repeat (first | ((first | refine pas_plain rfl ?_ | refine pas_g rfl rfl ?_ | refine act_plain rfl ?_ | refine act_g rfl rfl ?_ | refine last_plain rfl ?_ | refine tail_plain rfl ?_ | refine tail_g rfl rfl ?_); (repeat simp only [push_cast, seval, -Nat.reduceSubDiff, eq_self, b3, b4])) | (refine tail_fin ?_) | (refine sch_fin ?_)))
          refine names_c.mono ?_
          rintro v wn48 ⟨hx48, hr48, bn48, rfl, hbn48⟩
          refine ⟨kept_upd hx48 fun q hq => ⟨by have := hE47.sz; have : q = bx := hq; omega, id⟩, ?_⟩
          have hE49 := hE47.trans hx48
          have hat49 := hat46.ext hx48
          have nn48 := rd_str hr48 (Ext.refl _) hny
          (repeat (first | ((first | refine pas_plain rfl ?_ | refine pas_g rfl rfl ?_ | refine act_plain rfl ?_ | refine act_g rfl rfl ?_ | refine last_plain rfl ?_ | refine tail_plain rfl ?_ | refine tail_g rfl rfl ?_); (repeat simp only [push_cast, seval, -Nat.reduceSubDiff, eq_self, b3, b4, nn48])) | (refine tail_fin ?_) | (refine sch_fin ?_)))
          (repeat (first | ((first | refine pas_plain rfl ?_ | refine pas_g rfl rfl ?_ | refine act_plain rfl ?_ | refine act_g rfl rfl ?_ | refine last_plain rfl ?_ | refine tail_plain rfl ?_ | refine tail_g rfl rfl ?_); (repeat simp only [push_cast, seval, -Nat.reduceSubDiff, eq_self, b3, b4, nn48])) | (refine tail_fin ?_) | (refine sch_fin ?_)))
          refine ⟨kept.refl _ _, ?_⟩
          (repeat (first | ((first | refine pas_plain rfl ?_ | refine pas_g rfl rfl ?_ | refine act_plain rfl ?_ | refine act_g rfl rfl ?_ | refine last_plain rfl ?_ | refine tail_plain rfl ?_ | refine tail_g rfl rfl ?_); (repeat simp only [push_cast, seval, -Nat.reduceSubDiff, eq_self, b3, b4, nn48])) | (refine tail_fin ?_) | (refine sch_fin ?_)))
          refine build_struct Tryz.zeroValue37 unTo plTo (cs := #[.int .i64 2, .string (adName y), .string ⟨#[]⟩, .slice (some ⟨ba46, 0, none⟩) 1 1, .bool false, .bool false, .bool false, .int .i64 0, .int .i64 0]) (by rfl) ?_
          (repeat (first | ((first | refine pas_plain rfl ?_ | refine pas_g rfl rfl ?_ | refine act_plain rfl ?_ | refine act_g rfl rfl ?_ | refine last_plain rfl ?_ | refine tail_plain rfl ?_ | refine tail_g rfl rfl ?_); (repeat simp only [push_cast, seval, -Nat.reduceSubDiff, eq_self, b3, b4, nn48])) | (refine tail_fin ?_) | (refine sch_fin ?_)))
          refine (ins hE49 hat49).mono ?_
          rintro v w9 ⟨rfl, h9, hu9⟩
          refine ⟨kept_upd hu9 fun q hq => ⟨by have := hE49.sz; have : q = bx := hq; omega, fun hf => by have := hf.1; have : q = bx := hq; omega⟩, ?_⟩
          (repeat (first | ((first | refine pas_plain rfl ?_ | refine pas_g rfl rfl ?_ | refine act_plain rfl ?_ | refine act_g rfl rfl ?_ | refine last_plain rfl ?_ | refine tail_plain rfl ?_ | refine tail_g rfl rfl ?_); (repeat simp only [push_cast, seval, -Nat.reduceSubDiff, eq_self, b3, b4, nn48])) | (refine tail_fin ?_) | (refine sch_fin ?_)))
          (repeat simp only [push_cast, seval, -Nat.reduceSubDiff])
          exact h9
  · have hke : k = xs.length := by omega
    rw [List.take_of_length_le (by omega)] at hR
    clear htl
    subst hke
    have b0 : ¬ (xs.length : Int) < (xs.length : Int) := by omega
    rcases lastK_is (xs := xs) (c := c) xs.length (Nat.le_refl _) with ⟨_, h2⟩ | ⟨last, h1, h2, h3', h4⟩
    · exact absurd hc.symm (h2 wh xw hwl hxw)
    have hLI : LastI xs c last := ⟨h3', fun j y hj hy => h4 j y hj (List.getElem?_eq_some_iff.1 hy).1 hy⟩
    obtain ⟨r1, hAd, hro⟩ := hR.run (by omega) hc6 hLI
    have hgone := hR.gone (last := last) h2
    have p0 : inI64 (2 + (last : Int)) := by unfold inI64; omega
    have p1 : inI64 ((xs.length : Int) - 1) := by unfold inI64; omega
    have hat : atS b.s (2 + (last : Int)) = (last : Int) + 3 := by
      unfold atS
      have e : (2 + (last : Int)).toNat = last + 2 := by omega
      rw [if_pos ⟨by omega, by omega⟩, e, hR.sget (by omega)]
      show ((last + 2 : Nat) : Int) + 1 = _
      omega
    have hLi : (b.L.length : Int) = (xs.length : Int) + 3 := by omega
    rw [h1]
    (repeat (first | (with_reducible first | (refine hK _ _ ?_; clear hK K) | refine (show ∀ σ' w', _ → K σ' w' from by assumption) _ _ ?_ | refine W_seq_k fun K hK => ?_ | refine W_block_k fun K hK => ?_ | refine W_skip ?_ | refine W_ret ?_) | ((first | ((with_reducible refine W_id ?_); refine W_reg (by decide) (by rfl) ?_) | (with_reducible first | refine W_cond ?_ | refine hZ _ _ ?_ | refine W_exit ?_ | refine Wo_id ?_) | skip); repeat1' simp only [push_cast, seval, -Nat.reduceSubDiff, b0]) | ((repeat ((fail_if_success with_reducible refine hK _ _ ?_); clear hK K)); (with_reducible refine hK _ _ ?_); clear hK K)))
    refine (bstack_c hA).mono ?_
    intro v w' ⟨hv, hw⟩
    subst hv; subst w'
    (repeat (first | (with_reducible first | (refine hK _ _ ?_; clear hK K) | refine (show ∀ σ' w', _ → K σ' w' from by assumption) _ _ ?_ | refine W_seq_k fun K hK => ?_ | refine W_block_k fun K hK => ?_ | refine W_skip ?_ | refine W_ret ?_) | ((first | ((with_reducible refine W_id ?_); refine W_reg (by decide) (by rfl) ?_) | (with_reducible first | refine W_cond ?_ | refine hZ _ _ ?_ | refine W_exit ?_ | refine Wo_id ?_) | skip); repeat1' simp only [push_cast, seval, -Nat.reduceSubDiff, p0]) | ((repeat ((fail_if_success with_reducible refine hK _ _ ?_); clear hK K)); (with_reducible refine hK _ _ ?_); clear hK K)))
    refine (bsat_c hA _).mono ?_
    intro v w' ⟨hv, hw⟩
    subst hv; subst w'
    rw [hat]
    (repeat (first | (with_reducible first | (refine hK _ _ ?_; clear hK K) | refine (show ∀ σ' w', _ → K σ' w' from by assumption) _ _ ?_ | refine W_seq_k fun K hK => ?_ | refine W_block_k fun K hK => ?_ | refine W_skip ?_ | refine W_ret ?_) | ((first | ((with_reducible refine W_id ?_); refine W_reg (by decide) (by rfl) ?_) | (with_reducible first | refine W_cond ?_ | refine hZ _ _ ?_ | refine W_exit ?_ | refine Wo_id ?_) | skip); repeat1' simp only [push_cast, seval, -Nat.reduceSubDiff]) | ((repeat ((fail_if_success with_reducible refine hK _ _ ?_); clear hK K)); (with_reducible refine hK _ _ ?_); clear hK K)))
    refine (barena_c hA).mono ?_
    intro v w' ⟨hv, hw⟩
    subst hv; subst w'
    (repeat (first | (with_reducible first | (refine hK _ _ ?_; clear hK K) | refine (show ∀ σ' w', _ → K σ' w' from by assumption) _ _ ?_ | refine W_seq_k fun K hK => ?_ | refine W_block_k fun K hK => ?_ | refine W_skip ?_ | refine W_ret ?_) | ((first | ((with_reducible refine W_id ?_); refine W_reg (by decide) (by rfl) ?_) | (with_reducible first | refine W_cond ?_ | refine hZ _ _ ?_ | refine W_exit ?_ | refine Wo_id ?_) | skip); repeat1' simp only [push_cast, seval, -Nat.reduceSubDiff]) | ((repeat ((fail_if_success with_reducible refine hK _ _ ?_); clear hK K)); (with_reducible refine hK _ _ ?_); clear hK K)))
    obtain ⟨PA, hAr, _⟩ := hA.ar
    refine (len_a hAr).mono ?_
    intro v w' ⟨hv, hw⟩
    subst hv; subst w'
    rw [hLi]
    (repeat (first | (with_reducible first | (refine hK _ _ ?_; clear hK K) | refine (show ∀ σ' w', _ → K σ' w' from by assumption) _ _ ?_ | refine W_seq_k fun K hK => ?_ | refine W_block_k fun K hK => ?_ | refine W_skip ?_ | refine W_ret ?_) | ((first | ((with_reducible refine W_id ?_); refine W_reg (by decide) (by rfl) ?_) | (with_reducible first | refine W_cond ?_ | refine hZ _ _ ?_ | refine W_exit ?_ | refine Wo_id ?_) | skip); repeat1' simp only [push_cast, seval, -Nat.reduceSubDiff]) | ((repeat ((fail_if_success with_reducible refine hK _ _ ?_); clear hK K)); (with_reducible refine hK _ _ ?_); clear hK K)))
    refine (run_c hA hAd hg nP (adName c) hro).mono ?_
    rintro v w7 ⟨rfl, h7, -⟩
    rw [r1] at h7 ⊢
    dsimp only at h7 ⊢
    obtain ⟨b7, hb7⟩ : ∃ b7 : BSt, b7 = { b with s := b.s.take (last + 2), l := b.l.eraseIdx last } := ⟨_, rfl⟩
    rw [← hb7] at h7
    have s7 : (b7.s.length : Int) = 2 + (last : Int) := by rw [hb7]; show ((b.s.take (last + 2)).length : Int) = _; rw [List.length_take]; omega
    have l7 : (b7.l.length : Int) = (xs.length : Int) - 1 := by rw [hb7]; show ((b.l.eraseIdx last).length : Int) = _; rw [List.length_eraseIdx, if_pos (by omega)]; omega
    have L7 : (b7.L.length : Int) = (xs.length : Int) + 3 := by rw [hb7]; exact hLi
    have g7 : indexN b7.l ((last : Int) + 3) < 0 := by rw [hb7]; exact hgone
    have ok7 : okB b7 := ⟨by omega, by rw [hb7]; exact hR.at_, by omega, by omega⟩
    clear hb7
    (repeat (first | (with_reducible first | (refine hK _ _ ?_; clear hK K) | refine (show ∀ σ' w', _ → K σ' w' from by assumption) _ _ ?_ | refine W_seq_k fun K hK => ?_ | refine W_block_k fun K hK => ?_ | refine W_skip ?_ | refine W_ret ?_) | ((first | ((with_reducible refine W_id ?_); refine W_reg (by decide) (by rfl) ?_) | (with_reducible first | refine W_cond ?_ | refine hZ _ _ ?_ | refine W_exit ?_ | refine Wo_id ?_) | skip); repeat1' simp only [push_cast, seval, -Nat.reduceSubDiff]) | ((repeat ((fail_if_success with_reducible refine hK _ _ ?_); clear hK K)); (with_reducible refine hK _ _ ?_); clear hK K)))
    refine (bstack_c h7).mono ?_
    intro v w' ⟨hv, hw⟩
    subst hv; subst w'
    (repeat (first | (with_reducible first | (refine hK _ _ ?_; clear hK K) | refine (show ∀ σ' w', _ → K σ' w' from by assumption) _ _ ?_ | refine W_seq_k fun K hK => ?_ | refine W_block_k fun K hK => ?_ | refine W_skip ?_ | refine W_ret ?_) | ((first | ((with_reducible refine W_id ?_); refine W_reg (by decide) (by rfl) ?_) | (with_reducible first | refine W_cond ?_ | refine hZ _ _ ?_ | refine W_exit ?_ | refine Wo_id ?_) | skip); repeat1' simp only [push_cast, seval, -Nat.reduceSubDiff]) | ((repeat ((fail_if_success with_reducible refine hK _ _ ?_); clear hK K)); (with_reducible refine hK _ _ ?_); clear hK K)))
    refine (bslen_c h7).mono ?_
    intro v w' ⟨hv, hw⟩
    subst hv; subst w'
    rw [s7]
    (repeat (first | (with_reducible first | (refine hK _ _ ?_; clear hK K) | refine (show ∀ σ' w', _ → K σ' w' from by assumption) _ _ ?_ | refine W_seq_k fun K hK => ?_ | refine W_block_k fun K hK => ?_ | refine W_skip ?_ | refine W_ret ?_) | ((first | ((with_reducible refine W_id ?_); refine W_reg (by decide) (by rfl) ?_) | (with_reducible first | refine W_cond ?_ | refine hZ _ _ ?_ | refine W_exit ?_ | refine Wo_id ?_) | skip); repeat1' simp only [push_cast, seval, -Nat.reduceSubDiff, p0, p1, eq_self]) | ((repeat ((fail_if_success with_reducible refine hK _ _ ?_); clear hK K)); (with_reducible refine hK _ _ ?_); clear hK K)))
    refine (bforms_c h7).mono ?_
    intro v w' ⟨hv, hw⟩
    subst hv; subst w'
    (repeat (first | (with_reducible first | (refine hK _ _ ?_; clear hK K) | refine (show ∀ σ' w', _ → K σ' w' from by assumption) _ _ ?_ | refine W_seq_k fun K hK => ?_ | refine W_block_k fun K hK => ?_ | refine W_skip ?_ | refine W_ret ?_) | ((first | ((with_reducible refine W_id ?_); refine W_reg (by decide) (by rfl) ?_) | (with_reducible first | refine W_cond ?_ | refine hZ _ _ ?_ | refine W_exit ?_ | refine Wo_id ?_) | skip); repeat1' simp only [push_cast, seval, -Nat.reduceSubDiff]) | ((repeat ((fail_if_success with_reducible refine hK _ _ ?_); clear hK K)); (with_reducible refine hK _ _ ?_); clear hK K)))
    refine (bflen_c h7).mono ?_
    intro v w' ⟨hv, hw⟩
    subst hv; subst w'
    rw [l7]
    (repeat (first | (with_reducible first | (refine hK _ _ ?_; clear hK K) | refine (show ∀ σ' w', _ → K σ' w' from by assumption) _ _ ?_ | refine W_seq_k fun K hK => ?_ | refine W_block_k fun K hK => ?_ | refine W_skip ?_ | refine W_ret ?_) | ((first | ((with_reducible refine W_id ?_); refine W_reg (by decide) (by rfl) ?_) | (with_reducible first | refine W_cond ?_ | refine hZ _ _ ?_ | refine W_exit ?_ | refine Wo_id ?_) | skip); repeat1' simp only [push_cast, seval, -Nat.reduceSubDiff, p1, eq_self]) | ((repeat ((fail_if_success with_reducible refine hK _ _ ?_); clear hK K)); (with_reducible refine hK _ _ ?_); clear hK K)))
    refine (bforms_c h7).mono ?_
    intro v w' ⟨hv, hw⟩
    subst hv; subst w'
    (repeat (first | (with_reducible first | (refine hK _ _ ?_; clear hK K) | refine (show ∀ σ' w', _ → K σ' w' from by assumption) _ _ ?_ | refine W_seq_k fun K hK => ?_ | refine W_block_k fun K hK => ?_ | refine W_skip ?_ | refine W_ret ?_) | ((first | ((with_reducible refine W_id ?_); refine W_reg (by decide) (by rfl) ?_) | (with_reducible first | refine W_cond ?_ | refine hZ _ _ ?_ | refine W_exit ?_ | refine Wo_id ?_) | skip); repeat1' simp only [push_cast, seval, -Nat.reduceSubDiff]) | ((repeat ((fail_if_success with_reducible refine hK _ _ ?_); clear hK K)); (with_reducible refine hK _ _ ?_); clear hK K)))
    refine (bfindex_c h7 ok7 _).mono ?_
    rintro v w8 ⟨rfl, hx8⟩
    have h8 := h7.pass hx8
    (repeat (first | (with_reducible first | (refine hK _ _ ?_; clear hK K) | refine (show ∀ σ' w', _ → K σ' w' from by assumption) _ _ ?_ | refine W_seq_k fun K hK => ?_ | refine W_block_k fun K hK => ?_ | refine W_skip ?_ | refine W_ret ?_) | ((first | ((with_reducible refine W_id ?_); refine W_reg (by decide) (by rfl) ?_) | (with_reducible first | refine W_cond ?_ | refine hZ _ _ ?_ | refine W_exit ?_ | refine Wo_id ?_) | skip); repeat1' simp only [push_cast, seval, -Nat.reduceSubDiff, g7]) | ((repeat ((fail_if_success with_reducible refine hK _ _ ?_); clear hK K)); (with_reducible refine hK _ _ ?_); clear hK K)))
    refine (barena_c h8).mono ?_
    intro v w' ⟨hv, hw⟩
    subst hv; subst w'
    (repeat (first | (with_reducible first | (refine hK _ _ ?_; clear hK K) | refine (show ∀ σ' w', _ → K σ' w' from by assumption) _ _ ?_ | refine W_seq_k fun K hK => ?_ | refine W_block_k fun K hK => ?_ | refine W_skip ?_ | refine W_ret ?_) | ((first | ((with_reducible refine W_id ?_); refine W_reg (by decide) (by rfl) ?_) | (with_reducible first | refine W_cond ?_ | refine hZ _ _ ?_ | refine W_exit ?_ | refine Wo_id ?_) | skip); repeat1' simp only [push_cast, seval, -Nat.reduceSubDiff]) | ((repeat ((fail_if_success with_reducible refine hK _ _ ?_); clear hK K)); (with_reducible refine hK _ _ ?_); clear hK K)))
    obtain ⟨PA8, hAr8, _⟩ := h8.ar
    refine (len_a hAr8).mono ?_
    intro v w' ⟨hv, hw⟩
    subst hv; subst w'
    rw [L7]
    (repeat (first | (with_reducible first | (refine hK _ _ ?_; clear hK K) | refine (show ∀ σ' w', _ → K σ' w' from by assumption) _ _ ?_ | refine W_seq_k fun K hK => ?_ | refine W_block_k fun K hK => ?_ | refine W_skip ?_ | refine W_ret ?_) | ((first | ((with_reducible refine W_id ?_); refine W_reg (by decide) (by rfl) ?_) | (with_reducible first | refine W_cond ?_ | refine hZ _ _ ?_ | refine W_exit ?_ | refine Wo_id ?_) | skip); repeat1' simp only [push_cast, seval, -Nat.reduceSubDiff, eq_self]) | ((repeat ((fail_if_success with_reducible refine hK _ _ ?_); clear hK K)); (with_reducible refine hK _ _ ?_); clear hK K)))
    refine (nested_c (hg.ext h8.out)).mono ?_
    rintro v w' ⟨rfl, hy⟩
    (repeat (first | (with_reducible first | (refine hK _ _ ?_; clear hK K) | refine (show ∀ σ' w', _ → K σ' w' from by assumption) _ _ ?_ | refine W_seq_k fun K hK => ?_ | refine W_block_k fun K hK => ?_ | refine W_skip ?_ | refine W_ret ?_) | ((first | ((with_reducible refine W_id ?_); refine W_reg (by decide) (by rfl) ?_) | (with_reducible first | refine W_cond ?_ | refine hZ _ _ ?_ | refine W_exit ?_ | refine Wo_id ?_) | skip); repeat1' simp only [push_cast, seval, -Nat.reduceSubDiff]) | ((repeat ((fail_if_success with_reducible refine hK _ _ ?_); clear hK K)); (with_reducible refine hK _ _ ?_); clear hK K)))
    exact h8.out.trans hy
end Go.Proofs.YtgnnlaeikcnhcaaGreatDoor
end
section
set_option linter.unusedSimpArgs false
set_option linter.unusedVariables false
namespace Go.Vk
open Go
theorem cells_of_strs {H : Type} {enc : TypeId × Value → H} {P : Program} {w : World} {base : Nat} {sp : Nat → Bool} {held : Bool} {fuel : Nat} {t e : TypeId} {n : Nat} {cs : List Value} {zs : List ByteArray} {p : List MemPlace}
    (ht : P.underlying t = some (.array n e)) (he : P.underlying e = some .string) (hce : P.cellsOf e = 1) (hct : P.cellsOf t = n)
    (h : DataW.trod enc P w base sp held fuel t cs = some (.agg (zs.map fun z => .lit (.string z.data.toList)), p)) : cs = zs.map Value.string := by
  cases fuel with
  | zero => simp [DataW.trod] at h
  | succ fuel =>
    simp only [DataW.trod, ht, hce, hct, Nat.mul_one] at h
    split at h
    · rename_i hl
      obtain ⟨xs, hm, hx⟩ := Option.map_eq_some_iff.1 h
      have hxs : xs.map (·.1) = zs.map fun z => (DataW.lit (.string z.data.toList) : DataW H) := by
        have := congrArg Prod.fst hx
        simpa using this
      have hxl : xs.length = n := by simpa using Lib.mapM_length hm
      have hzl : zs.length = n := by
        have := congrArg List.length hxs
        simp at this
        omega
      apply List.ext_getElem?
      intro i
      by_cases hi : i < n
      · obtain ⟨b, hb, hf⟩ := Lib.mapM_at hm i i (by simp [hi])
        obtain ⟨z, hc, rfl, _⟩ := DataW.trod_string he hf
        have h1 : cs[i]? = some (.string z) := by
          have := congrArg (·[0]?) hc
          simpa [List.getElem?_take, List.getElem?_drop] using this
        have h2 : (xs.map (·.1))[i]? = some (DataW.lit (.string z.data.toList) : DataW H) := by simp [hb]
        rw [hxs] at h2
        simp only [List.getElem?_map, Option.map_eq_some_iff, DataW.lit.injEq, Lit.string.injEq] at h2
        obtain ⟨z', hz', e'⟩ := h2
        have ez : z' = z := by
          cases z; cases z'
          simp only at e'
          congr 1
          exact Array.toList_inj.1 e'
        simp [h1, hz', ez]
      · rw [List.getElem?_eq_none (by omega), List.getElem?_eq_none (by simp; omega)]
    · cases h
end Go.Vk
namespace Go.Proofs.YtgnnlaeikcnhcaaGreatDoor
open Go Go.Vk
theorem gSc : Tryz.prog.globalNamed "lazaret/kinds.scopes" = some 3 := by kernel_rfl
theorem gScT : (Tryz.prog.globals[3]?).map (·.type) = some 205 := by kernel_rfl
theorem cellsSc : Tryz.prog.cellsOf 205 = 4 := by kernel_rfl
theorem cellsSt : Tryz.prog.cellsOf 9 = 1 := by kernel_rfl
theorem gl_of {W : World} (h : laidMetH Tryz.prog [("lazaret/kinds.scopes", Rows.laid_lazaret_kinds_scopes)] W) (hs : W.ShapedOpen Tryz.prog) : GL W := by
  refine ⟨maxAt_of hs, ?_⟩
  have h' : laidMet Tryz.prog [("lazaret/kinds.scopes", Rows.laid_lazaret_kinds_scopes)] W := h
  obtain ⟨ps, ⟨g', t', cs, fuel, p, q, hg', ht', hvar, hd, _, _⟩, _⟩ := h'
  obtain rfl := Option.some.inj (gSc.symm.trans hg')
  obtain rfl := Option.some.inj (gScT.symm.trans ht')
  have e := cells_of_strs (zs := [norB, lisB, butB, tabB]) Tryz.underlying205 Tryz.underlying9 cellsSt cellsSc hd
  unfold World.var? at hvar
  rw [gSc] at hvar
  simp only [Option.bind_some] at hvar
  split at hvar
  · rename_i cs' t f hh
    cases hvar
    have e2 : cs = #[.string norB, .string lisB, .string butB, .string tabB] := Array.toList_inj.1 e
    exact ⟨t, f, by rw [hh, e2]⟩
  · cases hvar
end Go.Proofs.YtgnnlaeikcnhcaaGreatDoor
end
section
set_option linter.unusedSimpArgs false
set_option linter.unusedVariables false
namespace Go.Proofs.YtgnnlaeikcnhcaaGreatDoor
open Go Go.Vk Go.RowKit Go.Extern.Stop Go.Stop Go.Extern
def hv (t : Nat) : Value := .pointer (some ⟨5, t, none⟩)
end Go.Proofs.YtgnnlaeikcnhcaaGreatDoor
end
section
set_option linter.unusedSimpArgs false
set_option linter.unusedVariables false
namespace Go.Proofs.YtgnnlaeikcnhcaaGreatDoor
open Go Go.Vk Go.RowKit
/-- the error's type, as it lies -/
def ET (w : World) : Prop := w.cell? ⟨1, 0, none⟩ = some (.iface 192 (.agg #[.pointer (some ⟨5, 65, none⟩)]))
theorem ET.ext {w w' : World} (h : ET w) (hx : Ext w w') : ET w' := cell_ext hx h
set_option maxHeartbeats 40000000
end Go.Proofs.YtgnnlaeikcnhcaaGreatDoor
end
section
set_option linter.unusedSimpArgs false
set_option linter.unusedVariables false
namespace Go.Vk
theorem and_split {a b : Bool} (ha : a = true) (hb : b = true) : (a && b) = true := by rw [ha, hb]; rfl
end Go.Vk
end
section
set_option linter.unusedSimpArgs false
set_option linter.unusedVariables false
namespace Go.Vk
open Go Go.RowKit Go.WideShapes Go.ChangeShapes
theorem wf_u8h {n : Int} (h : (Lit.int .u8 n).wf = true) : 0 ≤ n ∧ n ≤ 255 := by
  simp only [Lit.wf, Bool.and_eq_true, decide_eq_true_eq] at h
  have e1 : IntKind.u8.min = 0 := rfl
  have e2 : IntKind.u8.max = 255 := by decide
  rw [e1, e2] at h; omega
theorem rd_u8s {H : Type} {enc : TypeId × Value → H} {P : Program} {W : World} {base : Nat} {sp : Nat → Bool} {hd : Bool} {t e : TypeId} {v : Value} {d : DataW H} {ps : List MemPlace} {r : Reach} {b0 : Nat} (ht : P.underlying t = some (.slice e)) (he : P.underlying e = some (.int .u8)) (hc : P.cellsOf e = 1)
    (hv : Value.okWide P W r b0 t v) (h : DataW.Trod enc P W base sp hd t v d ps) : ∃ l : List Nat, RdAt W 1 v (u8Cells l) ∧ ∀ c ∈ l, c < 256 := by
  obtain ⟨fuel, h⟩ := h
  obtain ⟨a0, n0, c0, rfl⟩ := okWide_slice ht hv
  rcases open_ints ht he hc h with ⟨h1, _⟩ | ⟨a, len, cap, zs, h1, h2, h3, h4, h5, h6, h7, h8⟩
  · cases h1
    exact ⟨[], ⟨none, 0, 0, rfl, Nat.le_refl _, rfl, fun i u hu => by simp [u8Cells] at hu⟩, by simp⟩
  · cases h1
    have hlm : n0 ≤ zs.length := by rw [h5]; split <;> omega
    have hz : ∀ i, i < n0 → zs.getD i 0 ∈ zs := fun i hi => by
      have hi2 : i < zs.length := by omega
      have : zs.getD i 0 = zs[i] := by simp [List.getD, hi2]
      rw [this]; exact List.getElem_mem hi2
    refine ⟨(List.range n0).map fun i => (zs.getD i 0).toNat, rd_of h3 (by simp [u8Cells]) fun i hi => ?_, fun c hc => ?_⟩
    · simp only [u8Cells, List.length_map, List.length_range] at hi
      have hw := wf_u8h (h8 _ (hz i hi))
      rw [h7 i (by omega)]
      have e : ((zs.getD i 0).toNat : Int) = zs.getD i 0 := by omega
      simp only [u8Cells, List.map_map, List.getElem?_map, List.getElem?_range hi, Option.map_some, Function.comp, e]
    · simp only [List.mem_map, List.mem_range] at hc
      obtain ⟨i, hi, rfl⟩ := hc
      have hw := wf_u8h (h8 _ (hz i hi))
      omega
structure AcF where
  kd : Int
  i : Int
  j : Int
def AcF.cells (x : AcF) : List Value := [.int .u8 x.kd, .int .i64 x.i, .int .i64 x.j]
end Go.Vk
namespace Go.Proofs.YtgnnlaeikcnhcaaGreatDoor
open Go Go.Vk Go.RowKit Go.WideShapes Go.ChangeShapes
theorem h5cells : Tryz.prog.cellsOf 5 = 1 := by kernel_rfl
end Go.Proofs.YtgnnlaeikcnhcaaGreatDoor
end
