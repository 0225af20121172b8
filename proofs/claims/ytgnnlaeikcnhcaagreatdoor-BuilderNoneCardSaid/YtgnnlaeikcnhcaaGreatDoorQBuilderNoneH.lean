/- What the proof leans on, part 8 of 9. -/
import Derived.Test.YtgnnlaeikcnhcaaGreatDoorQBuilderNoneG
section
set_option linter.unusedSimpArgs false
set_option linter.unusedVariables false
namespace Go.Vk
open Go
def zRow : Array Value := #[.pointer none, .pointer none, .pointer none, .int .i64 0, .int .i64 0, .slice none 0 0, .int .i64 0, .int .i64 0, .bool false, .bool false, .bool false, .string ⟨#[]⟩, .pointer none, .nilIface]
def NoB (w : World) (pv : Option Addr) : Prop := pv = none ∨ ∃ pb, pv = some ⟨pb, 0, none⟩ ∧ w.heap[pb]? = some (.cells zRow 67 (0, 0))
theorem NoB.ext {w w' : World} {pv : Option Addr} (h : NoB w pv) (hx : Ext w w') : NoB w' pv := h.imp id fun ⟨pb, e, h⟩ => ⟨pb, e, hx.blk h⟩
end Go.Vk
namespace Go.Proofs.YtgnnlaeikcnhcaaGreatDoor
open Go Go.Vk
set_option maxHeartbeats 40000000
section
variable {w : World} {pv : Option Addr}
theorem zbnone_c (h : NoB w pv) : Gives Tryz.prog 95 #[.pointer pv] w fun v w' => v = .bool true ∧ w' = w := by
  rcases h with rfl | ⟨pb, rfl, h⟩
  · refine Gives.of_W Tryz.call95 Tryz.func95 rfl Tryz.ntmps95 (by simp) ?_; intro Z hZ
    (repeat (first | (with_reducible first | (refine hK _ _ ?_; clear hK K) | refine (show ∀ σ' w', _ → K σ' w' from by assumption) _ _ ?_ | refine W_seq_k fun K hK => ?_ | refine W_block_k fun K hK => ?_ | refine W_skip ?_ | refine W_ret ?_) | ((first | ((with_reducible refine W_id ?_); refine W_reg (by decide) (by rfl) ?_) | (with_reducible first | refine W_cond ?_ | refine hZ _ _ ?_ | refine W_exit ?_ | refine Wo_id ?_) | skip); repeat1' simp only [push_cast, seval, -Nat.reduceSubDiff, eq_self]) | ((repeat ((fail_if_success with_reducible refine hK _ _ ?_); clear hK K)); (with_reducible refine hK _ _ ?_); clear hK K)))
  · unfold zRow at h
    refine Gives.of_W Tryz.call95 Tryz.func95 rfl Tryz.ntmps95 (by simp) ?_; intro Z hZ
    (repeat (first | (with_reducible first | (refine hK _ _ ?_; clear hK K) | refine (show ∀ σ' w', _ → K σ' w' from by assumption) _ _ ?_ | refine W_seq_k fun K hK => ?_ | refine W_block_k fun K hK => ?_ | refine W_skip ?_ | refine W_ret ?_) | ((first | ((with_reducible refine W_id ?_); refine W_reg (by decide) (by rfl) ?_) | (with_reducible first | refine W_cond ?_ | refine hZ _ _ ?_ | refine W_exit ?_ | refine Wo_id ?_) | skip); repeat1' simp only [push_cast, seval, -Nat.reduceSubDiff, cell_h, cellO_cells, h, eq_self]) | ((repeat ((fail_if_success with_reducible refine hK _ _ ?_); clear hK K)); (with_reducible refine hK _ _ ?_); clear hK K)))
theorem zbarena_c (h : NoB w pv)  : Gives Tryz.prog 25 #[.pointer pv] w fun v w' => v = .pointer none ∧ w' = w := by
  refine Gives.of_W Tryz.call25 Tryz.func25 rfl Tryz.ntmps25 (by simp) ?_; intro Z hZ
  (repeat (first | (with_reducible first | (refine hK _ _ ?_; clear hK K) | refine (show ∀ σ' w', _ → K σ' w' from by assumption) _ _ ?_ | refine W_seq_k fun K hK => ?_ | refine W_block_k fun K hK => ?_ | refine W_skip ?_ | refine W_ret ?_) | ((first | ((with_reducible refine W_id ?_); refine W_reg (by decide) (by rfl) ?_) | (with_reducible first | refine W_cond ?_ | refine hZ _ _ ?_ | refine W_exit ?_ | refine Wo_id ?_) | skip); repeat1' simp only [push_cast, seval, -Nat.reduceSubDiff]) | ((repeat ((fail_if_success with_reducible refine hK _ _ ?_); clear hK K)); (with_reducible refine hK _ _ ?_); clear hK K)))
  refine (zbnone_c h).mono ?_
  intro v w' ⟨hv, hw⟩
  subst hv; subst w'
  (repeat (first | (with_reducible first | (refine hK _ _ ?_; clear hK K) | refine (show ∀ σ' w', _ → K σ' w' from by assumption) _ _ ?_ | refine W_seq_k fun K hK => ?_ | refine W_block_k fun K hK => ?_ | refine W_skip ?_ | refine W_ret ?_) | ((first | ((with_reducible refine W_id ?_); refine W_reg (by decide) (by rfl) ?_) | (with_reducible first | refine W_cond ?_ | refine hZ _ _ ?_ | refine W_exit ?_ | refine Wo_id ?_) | skip); repeat1' simp only [push_cast, seval, -Nat.reduceSubDiff]) | ((repeat ((fail_if_success with_reducible refine hK _ _ ?_); clear hK K)); (with_reducible refine hK _ _ ?_); clear hK K)))
theorem zbstack_c (h : NoB w pv)  : Gives Tryz.prog 23 #[.pointer pv] w fun v w' => v = .pointer none ∧ w' = w := by
  refine Gives.of_W Tryz.call23 Tryz.func23 rfl Tryz.ntmps23 (by simp) ?_; intro Z hZ
  (repeat (first | (with_reducible first | (refine hK _ _ ?_; clear hK K) | refine (show ∀ σ' w', _ → K σ' w' from by assumption) _ _ ?_ | refine W_seq_k fun K hK => ?_ | refine W_block_k fun K hK => ?_ | refine W_skip ?_ | refine W_ret ?_) | ((first | ((with_reducible refine W_id ?_); refine W_reg (by decide) (by rfl) ?_) | (with_reducible first | refine W_cond ?_ | refine hZ _ _ ?_ | refine W_exit ?_ | refine Wo_id ?_) | skip); repeat1' simp only [push_cast, seval, -Nat.reduceSubDiff]) | ((repeat ((fail_if_success with_reducible refine hK _ _ ?_); clear hK K)); (with_reducible refine hK _ _ ?_); clear hK K)))
  refine (zbnone_c h).mono ?_
  intro v w' ⟨hv, hw⟩
  subst hv; subst w'
  (repeat (first | (with_reducible first | (refine hK _ _ ?_; clear hK K) | refine (show ∀ σ' w', _ → K σ' w' from by assumption) _ _ ?_ | refine W_seq_k fun K hK => ?_ | refine W_block_k fun K hK => ?_ | refine W_skip ?_ | refine W_ret ?_) | ((first | ((with_reducible refine W_id ?_); refine W_reg (by decide) (by rfl) ?_) | (with_reducible first | refine W_cond ?_ | refine hZ _ _ ?_ | refine W_exit ?_ | refine Wo_id ?_) | skip); repeat1' simp only [push_cast, seval, -Nat.reduceSubDiff]) | ((repeat ((fail_if_success with_reducible refine hK _ _ ?_); clear hK K)); (with_reducible refine hK _ _ ?_); clear hK K)))
theorem zbformats_c (h : NoB w pv)  : Gives Tryz.prog 19 #[.pointer pv] w fun v w' => v = .pointer none ∧ w' = w := by
  refine Gives.of_W Tryz.call19 Tryz.func19 rfl Tryz.ntmps19 (by simp) ?_; intro Z hZ
  (repeat (first | (with_reducible first | (refine hK _ _ ?_; clear hK K) | refine (show ∀ σ' w', _ → K σ' w' from by assumption) _ _ ?_ | refine W_seq_k fun K hK => ?_ | refine W_block_k fun K hK => ?_ | refine W_skip ?_ | refine W_ret ?_) | ((first | ((with_reducible refine W_id ?_); refine W_reg (by decide) (by rfl) ?_) | (with_reducible first | refine W_cond ?_ | refine hZ _ _ ?_ | refine W_exit ?_ | refine Wo_id ?_) | skip); repeat1' simp only [push_cast, seval, -Nat.reduceSubDiff]) | ((repeat ((fail_if_success with_reducible refine hK _ _ ?_); clear hK K)); (with_reducible refine hK _ _ ?_); clear hK K)))
  refine (zbnone_c h).mono ?_
  intro v w' ⟨hv, hw⟩
  subst hv; subst w'
  (repeat (first | (with_reducible first | (refine hK _ _ ?_; clear hK K) | refine (show ∀ σ' w', _ → K σ' w' from by assumption) _ _ ?_ | refine W_seq_k fun K hK => ?_ | refine W_block_k fun K hK => ?_ | refine W_skip ?_ | refine W_ret ?_) | ((first | ((with_reducible refine W_id ?_); refine W_reg (by decide) (by rfl) ?_) | (with_reducible first | refine W_cond ?_ | refine hZ _ _ ?_ | refine W_exit ?_ | refine Wo_id ?_) | skip); repeat1' simp only [push_cast, seval, -Nat.reduceSubDiff]) | ((repeat ((fail_if_success with_reducible refine hK _ _ ?_); clear hK K)); (with_reducible refine hK _ _ ?_); clear hK K)))
theorem zbmode_c (h : NoB w pv)  : Gives Tryz.prog 44 #[.pointer pv] w fun v w' => v = .int .i64 0 ∧ w' = w := by
  refine Gives.of_W Tryz.call44 Tryz.func44 rfl Tryz.ntmps44 (by simp) ?_; intro Z hZ
  (repeat (first | (with_reducible first | (refine hK _ _ ?_; clear hK K) | refine (show ∀ σ' w', _ → K σ' w' from by assumption) _ _ ?_ | refine W_seq_k fun K hK => ?_ | refine W_block_k fun K hK => ?_ | refine W_skip ?_ | refine W_ret ?_) | ((first | ((with_reducible refine W_id ?_); refine W_reg (by decide) (by rfl) ?_) | (with_reducible first | refine W_cond ?_ | refine hZ _ _ ?_ | refine W_exit ?_ | refine Wo_id ?_) | skip); repeat1' simp only [push_cast, seval, -Nat.reduceSubDiff]) | ((repeat ((fail_if_success with_reducible refine hK _ _ ?_); clear hK K)); (with_reducible refine hK _ _ ?_); clear hK K)))
  refine (zbnone_c h).mono ?_
  intro v w' ⟨hv, hw⟩
  subst hv; subst w'
  (repeat (first | (with_reducible first | (refine hK _ _ ?_; clear hK K) | refine (show ∀ σ' w', _ → K σ' w' from by assumption) _ _ ?_ | refine W_seq_k fun K hK => ?_ | refine W_block_k fun K hK => ?_ | refine W_skip ?_ | refine W_ret ?_) | ((first | ((with_reducible refine W_id ?_); refine W_reg (by decide) (by rfl) ?_) | (with_reducible first | refine W_cond ?_ | refine hZ _ _ ?_ | refine W_exit ?_ | refine Wo_id ?_) | skip); repeat1' simp only [push_cast, seval, -Nat.reduceSubDiff]) | ((repeat ((fail_if_success with_reducible refine hK _ _ ?_); clear hK K)); (with_reducible refine hK _ _ ?_); clear hK K)))
theorem zbset_c (h : NoB w pv) (n : Int) : Gives Tryz.prog 36 #[.pointer pv, .int .i64 n] w fun _ w' => w' = w := by
  refine Gives.of_W Tryz.call36 Tryz.func36 rfl Tryz.ntmps36 (by simp) ?_; intro Z hZ
  (repeat (first | (with_reducible first | (refine hK _ _ ?_; clear hK K) | refine (show ∀ σ' w', _ → K σ' w' from by assumption) _ _ ?_ | refine W_seq_k fun K hK => ?_ | refine W_block_k fun K hK => ?_ | refine W_skip ?_ | refine W_ret ?_) | ((first | ((with_reducible refine W_id ?_); refine W_reg (by decide) (by rfl) ?_) | (with_reducible first | refine W_cond ?_ | refine hZ _ _ ?_ | refine W_exit ?_ | refine Wo_id ?_) | skip); repeat1' simp only [push_cast, seval, -Nat.reduceSubDiff]) | ((repeat ((fail_if_success with_reducible refine hK _ _ ?_); clear hK K)); (with_reducible refine hK _ _ ?_); clear hK K)))
  refine (zbnone_c h).mono ?_
  intro v w' ⟨hv, hw⟩
  subst hv; subst w'
  (repeat (first | (with_reducible first | (refine hK _ _ ?_; clear hK K) | refine (show ∀ σ' w', _ → K σ' w' from by assumption) _ _ ?_ | refine W_seq_k fun K hK => ?_ | refine W_block_k fun K hK => ?_ | refine W_skip ?_ | refine W_ret ?_) | ((first | ((with_reducible refine W_id ?_); refine W_reg (by decide) (by rfl) ?_) | (with_reducible first | refine W_cond ?_ | refine hZ _ _ ?_ | refine W_exit ?_ | refine Wo_id ?_) | skip); repeat1' simp only [push_cast, seval, -Nat.reduceSubDiff]) | ((repeat ((fail_if_success with_reducible refine hK _ _ ?_); clear hK K)); (with_reducible refine hK _ _ ?_); clear hK K)))
theorem zbback_c (h : NoB w pv)  : Gives Tryz.prog 43 #[.pointer pv] w fun v w' => v = .int .i64 0 ∧ w' = w := by
  refine Gives.of_W Tryz.call43 Tryz.func43 rfl Tryz.ntmps43 (by simp) ?_; intro Z hZ
  (repeat (first | (with_reducible first | (refine hK _ _ ?_; clear hK K) | refine (show ∀ σ' w', _ → K σ' w' from by assumption) _ _ ?_ | refine W_seq_k fun K hK => ?_ | refine W_block_k fun K hK => ?_ | refine W_skip ?_ | refine W_ret ?_) | ((first | ((with_reducible refine W_id ?_); refine W_reg (by decide) (by rfl) ?_) | (with_reducible first | refine W_cond ?_ | refine hZ _ _ ?_ | refine W_exit ?_ | refine Wo_id ?_) | skip); repeat1' simp only [push_cast, seval, -Nat.reduceSubDiff]) | ((repeat ((fail_if_success with_reducible refine hK _ _ ?_); clear hK K)); (with_reducible refine hK _ _ ?_); clear hK K)))
  refine (zbnone_c h).mono ?_
  intro v w' ⟨hv, hw⟩
  subst hv; subst w'
  (repeat (first | (with_reducible first | (refine hK _ _ ?_; clear hK K) | refine (show ∀ σ' w', _ → K σ' w' from by assumption) _ _ ?_ | refine W_seq_k fun K hK => ?_ | refine W_block_k fun K hK => ?_ | refine W_skip ?_ | refine W_ret ?_) | ((first | ((with_reducible refine W_id ?_); refine W_reg (by decide) (by rfl) ?_) | (with_reducible first | refine W_cond ?_ | refine hZ _ _ ?_ | refine W_exit ?_ | refine Wo_id ?_) | skip); repeat1' simp only [push_cast, seval, -Nat.reduceSubDiff]) | ((repeat ((fail_if_success with_reducible refine hK _ _ ?_); clear hK K)); (with_reducible refine hK _ _ ?_); clear hK K)))
theorem zbkeep_c (h : NoB w pv)  : Gives Tryz.prog 37 #[.pointer pv] w fun _ w' => w' = w := by
  refine Gives.of_W Tryz.call37 Tryz.func37 rfl Tryz.ntmps37 (by simp) ?_; intro Z hZ
  (repeat (first | (with_reducible first | (refine hK _ _ ?_; clear hK K) | refine (show ∀ σ' w', _ → K σ' w' from by assumption) _ _ ?_ | refine W_seq_k fun K hK => ?_ | refine W_block_k fun K hK => ?_ | refine W_skip ?_ | refine W_ret ?_) | ((first | ((with_reducible refine W_id ?_); refine W_reg (by decide) (by rfl) ?_) | (with_reducible first | refine W_cond ?_ | refine hZ _ _ ?_ | refine W_exit ?_ | refine Wo_id ?_) | skip); repeat1' simp only [push_cast, seval, -Nat.reduceSubDiff]) | ((repeat ((fail_if_success with_reducible refine hK _ _ ?_); clear hK K)); (with_reducible refine hK _ _ ?_); clear hK K)))
  refine (zbnone_c h).mono ?_
  intro v w' ⟨hv, hw⟩
  subst hv; subst w'
  (repeat (first | (with_reducible first | (refine hK _ _ ?_; clear hK K) | refine (show ∀ σ' w', _ → K σ' w' from by assumption) _ _ ?_ | refine W_seq_k fun K hK => ?_ | refine W_block_k fun K hK => ?_ | refine W_skip ?_ | refine W_ret ?_) | ((first | ((with_reducible refine W_id ?_); refine W_reg (by decide) (by rfl) ?_) | (with_reducible first | refine W_cond ?_ | refine hZ _ _ ?_ | refine W_exit ?_ | refine Wo_id ?_) | skip); repeat1' simp only [push_cast, seval, -Nat.reduceSubDiff]) | ((repeat ((fail_if_success with_reducible refine hK _ _ ?_); clear hK K)); (with_reducible refine hK _ _ ?_); clear hK K)))
theorem zbmodes_c (h : NoB w pv)  : Gives Tryz.prog 81 #[.pointer pv] w fun v w' => v = .slice none 0 0 ∧ w' = w := by
  refine Gives.of_W Tryz.call81 Tryz.func81 rfl Tryz.ntmps81 (by simp) ?_; intro Z hZ
  (repeat (first | (with_reducible first | (refine hK _ _ ?_; clear hK K) | refine (show ∀ σ' w', _ → K σ' w' from by assumption) _ _ ?_ | refine W_seq_k fun K hK => ?_ | refine W_block_k fun K hK => ?_ | refine W_skip ?_ | refine W_ret ?_) | ((first | ((with_reducible refine W_id ?_); refine W_reg (by decide) (by rfl) ?_) | (with_reducible first | refine W_cond ?_ | refine hZ _ _ ?_ | refine W_exit ?_ | refine Wo_id ?_) | skip); repeat1' simp only [push_cast, seval, -Nat.reduceSubDiff]) | ((repeat ((fail_if_success with_reducible refine hK _ _ ?_); clear hK K)); (with_reducible refine hK _ _ ?_); clear hK K)))
  refine (zbnone_c h).mono ?_
  intro v w' ⟨hv, hw⟩
  subst hv; subst w'
  (repeat (first | (with_reducible first | (refine hK _ _ ?_; clear hK K) | refine (show ∀ σ' w', _ → K σ' w' from by assumption) _ _ ?_ | refine W_seq_k fun K hK => ?_ | refine W_block_k fun K hK => ?_ | refine W_skip ?_ | refine W_ret ?_) | ((first | ((with_reducible refine W_id ?_); refine W_reg (by decide) (by rfl) ?_) | (with_reducible first | refine W_cond ?_ | refine hZ _ _ ?_ | refine W_exit ?_ | refine Wo_id ?_) | skip); repeat1' simp only [push_cast, seval, -Nat.reduceSubDiff]) | ((repeat ((fail_if_success with_reducible refine hK _ _ ?_); clear hK K)); (with_reducible refine hK _ _ ?_); clear hK K)))
theorem zbpush_c (h : NoB w pv) (n : Int) : Gives Tryz.prog 70 #[.pointer pv, .int .i64 n] w fun _ w' => w' = w := by
  refine Gives.of_W Tryz.call70 Tryz.func70 rfl Tryz.ntmps70 (by simp) ?_; intro Z hZ
  (repeat (first | (with_reducible first | (refine hK _ _ ?_; clear hK K) | refine (show ∀ σ' w', _ → K σ' w' from by assumption) _ _ ?_ | refine W_seq_k fun K hK => ?_ | refine W_block_k fun K hK => ?_ | refine W_skip ?_ | refine W_ret ?_) | ((first | ((with_reducible refine W_id ?_); refine W_reg (by decide) (by rfl) ?_) | (with_reducible first | refine W_cond ?_ | refine hZ _ _ ?_ | refine W_exit ?_ | refine Wo_id ?_) | skip); repeat1' simp only [push_cast, seval, -Nat.reduceSubDiff]) | ((repeat ((fail_if_success with_reducible refine hK _ _ ?_); clear hK K)); (with_reducible refine hK _ _ ?_); clear hK K)))
  refine (zbnone_c h).mono ?_
  intro v w' ⟨hv, hw⟩
  subst hv; subst w'
  (repeat (first | (with_reducible first | (refine hK _ _ ?_; clear hK K) | refine (show ∀ σ' w', _ → K σ' w' from by assumption) _ _ ?_ | refine W_seq_k fun K hK => ?_ | refine W_block_k fun K hK => ?_ | refine W_skip ?_ | refine W_ret ?_) | ((first | ((with_reducible refine W_id ?_); refine W_reg (by decide) (by rfl) ?_) | (with_reducible first | refine W_cond ?_ | refine hZ _ _ ?_ | refine W_exit ?_ | refine Wo_id ?_) | skip); repeat1' simp only [push_cast, seval, -Nat.reduceSubDiff]) | ((repeat ((fail_if_success with_reducible refine hK _ _ ?_); clear hK K)); (with_reducible refine hK _ _ ?_); clear hK K)))
theorem zbpop_c (h : NoB w pv)  : Gives Tryz.prog 71 #[.pointer pv] w fun _ w' => w' = w := by
  refine Gives.of_W Tryz.call71 Tryz.func71 rfl Tryz.ntmps71 (by simp) ?_; intro Z hZ
  (repeat (first | (with_reducible first | (refine hK _ _ ?_; clear hK K) | refine (show ∀ σ' w', _ → K σ' w' from by assumption) _ _ ?_ | refine W_seq_k fun K hK => ?_ | refine W_block_k fun K hK => ?_ | refine W_skip ?_ | refine W_ret ?_) | ((first | ((with_reducible refine W_id ?_); refine W_reg (by decide) (by rfl) ?_) | (with_reducible first | refine W_cond ?_ | refine hZ _ _ ?_ | refine W_exit ?_ | refine Wo_id ?_) | skip); repeat1' simp only [push_cast, seval, -Nat.reduceSubDiff]) | ((repeat ((fail_if_success with_reducible refine hK _ _ ?_); clear hK K)); (with_reducible refine hK _ _ ?_); clear hK K)))
  refine (zbnone_c h).mono ?_
  intro v w' ⟨hv, hw⟩
  subst hv; subst w'
  (repeat (first | (with_reducible first | (refine hK _ _ ?_; clear hK K) | refine (show ∀ σ' w', _ → K σ' w' from by assumption) _ _ ?_ | refine W_seq_k fun K hK => ?_ | refine W_block_k fun K hK => ?_ | refine W_skip ?_ | refine W_ret ?_) | ((first | ((with_reducible refine W_id ?_); refine W_reg (by decide) (by rfl) ?_) | (with_reducible first | refine W_cond ?_ | refine hZ _ _ ?_ | refine W_exit ?_ | refine Wo_id ?_) | skip); repeat1' simp only [push_cast, seval, -Nat.reduceSubDiff]) | ((repeat ((fail_if_success with_reducible refine hK _ _ ?_); clear hK K)); (with_reducible refine hK _ _ ?_); clear hK K)))
theorem zbhead_c (h : NoB w pv)  : Gives Tryz.prog 45 #[.pointer pv] w fun v w' => v = .int .i64 (-1) ∧ w' = w := by
  refine Gives.of_W Tryz.call45 Tryz.func45 rfl Tryz.ntmps45 (by simp) ?_; intro Z hZ
  (repeat (first | (with_reducible first | (refine hK _ _ ?_; clear hK K) | refine (show ∀ σ' w', _ → K σ' w' from by assumption) _ _ ?_ | refine W_seq_k fun K hK => ?_ | refine W_block_k fun K hK => ?_ | refine W_skip ?_ | refine W_ret ?_) | ((first | ((with_reducible refine W_id ?_); refine W_reg (by decide) (by rfl) ?_) | (with_reducible first | refine W_cond ?_ | refine hZ _ _ ?_ | refine W_exit ?_ | refine Wo_id ?_) | skip); repeat1' simp only [push_cast, seval, -Nat.reduceSubDiff]) | ((repeat ((fail_if_success with_reducible refine hK _ _ ?_); clear hK K)); (with_reducible refine hK _ _ ?_); clear hK K)))
  refine (zbnone_c h).mono ?_
  intro v w' ⟨hv, hw⟩
  subst hv; subst w'
  (repeat (first | (with_reducible first | (refine hK _ _ ?_; clear hK K) | refine (show ∀ σ' w', _ → K σ' w' from by assumption) _ _ ?_ | refine W_seq_k fun K hK => ?_ | refine W_block_k fun K hK => ?_ | refine W_skip ?_ | refine W_ret ?_) | ((first | ((with_reducible refine W_id ?_); refine W_reg (by decide) (by rfl) ?_) | (with_reducible first | refine W_cond ?_ | refine hZ _ _ ?_ | refine W_exit ?_ | refine Wo_id ?_) | skip); repeat1' simp only [push_cast, seval, -Nat.reduceSubDiff]) | ((repeat ((fail_if_success with_reducible refine hK _ _ ?_); clear hK K)); (with_reducible refine hK _ _ ?_); clear hK K)))
theorem zbsethead_c (h : NoB w pv) (n : Int) : Gives Tryz.prog 38 #[.pointer pv, .int .i64 n] w fun _ w' => w' = w := by
  refine Gives.of_W Tryz.call38 Tryz.func38 rfl Tryz.ntmps38 (by simp) ?_; intro Z hZ
  (repeat (first | (with_reducible first | (refine hK _ _ ?_; clear hK K) | refine (show ∀ σ' w', _ → K σ' w' from by assumption) _ _ ?_ | refine W_seq_k fun K hK => ?_ | refine W_block_k fun K hK => ?_ | refine W_skip ?_ | refine W_ret ?_) | ((first | ((with_reducible refine W_id ?_); refine W_reg (by decide) (by rfl) ?_) | (with_reducible first | refine W_cond ?_ | refine hZ _ _ ?_ | refine W_exit ?_ | refine Wo_id ?_) | skip); repeat1' simp only [push_cast, seval, -Nat.reduceSubDiff]) | ((repeat ((fail_if_success with_reducible refine hK _ _ ?_); clear hK K)); (with_reducible refine hK _ _ ?_); clear hK K)))
  refine (zbnone_c h).mono ?_
  intro v w' ⟨hv, hw⟩
  subst hv; subst w'
  (repeat (first | (with_reducible first | (refine hK _ _ ?_; clear hK K) | refine (show ∀ σ' w', _ → K σ' w' from by assumption) _ _ ?_ | refine W_seq_k fun K hK => ?_ | refine W_block_k fun K hK => ?_ | refine W_skip ?_ | refine W_ret ?_) | ((first | ((with_reducible refine W_id ?_); refine W_reg (by decide) (by rfl) ?_) | (with_reducible first | refine W_cond ?_ | refine hZ _ _ ?_ | refine W_exit ?_ | refine Wo_id ?_) | skip); repeat1' simp only [push_cast, seval, -Nat.reduceSubDiff]) | ((repeat ((fail_if_success with_reducible refine hK _ _ ?_); clear hK K)); (with_reducible refine hK _ _ ?_); clear hK K)))
theorem zbform_c (h : NoB w pv)  : Gives Tryz.prog 46 #[.pointer pv] w fun v w' => v = .int .i64 (-1) ∧ w' = w := by
  refine Gives.of_W Tryz.call46 Tryz.func46 rfl Tryz.ntmps46 (by simp) ?_; intro Z hZ
  (repeat (first | (with_reducible first | (refine hK _ _ ?_; clear hK K) | refine (show ∀ σ' w', _ → K σ' w' from by assumption) _ _ ?_ | refine W_seq_k fun K hK => ?_ | refine W_block_k fun K hK => ?_ | refine W_skip ?_ | refine W_ret ?_) | ((first | ((with_reducible refine W_id ?_); refine W_reg (by decide) (by rfl) ?_) | (with_reducible first | refine W_cond ?_ | refine hZ _ _ ?_ | refine W_exit ?_ | refine Wo_id ?_) | skip); repeat1' simp only [push_cast, seval, -Nat.reduceSubDiff]) | ((repeat ((fail_if_success with_reducible refine hK _ _ ?_); clear hK K)); (with_reducible refine hK _ _ ?_); clear hK K)))
  refine (zbnone_c h).mono ?_
  intro v w' ⟨hv, hw⟩
  subst hv; subst w'
  (repeat (first | (with_reducible first | (refine hK _ _ ?_; clear hK K) | refine (show ∀ σ' w', _ → K σ' w' from by assumption) _ _ ?_ | refine W_seq_k fun K hK => ?_ | refine W_block_k fun K hK => ?_ | refine W_skip ?_ | refine W_ret ?_) | ((first | ((with_reducible refine W_id ?_); refine W_reg (by decide) (by rfl) ?_) | (with_reducible first | refine W_cond ?_ | refine hZ _ _ ?_ | refine W_exit ?_ | refine Wo_id ?_) | skip); repeat1' simp only [push_cast, seval, -Nat.reduceSubDiff]) | ((repeat ((fail_if_success with_reducible refine hK _ _ ?_); clear hK K)); (with_reducible refine hK _ _ ?_); clear hK K)))
theorem zbsetform_c (h : NoB w pv) (n : Int) : Gives Tryz.prog 39 #[.pointer pv, .int .i64 n] w fun _ w' => w' = w := by
  refine Gives.of_W Tryz.call39 Tryz.func39 rfl Tryz.ntmps39 (by simp) ?_; intro Z hZ
  (repeat (first | (with_reducible first | (refine hK _ _ ?_; clear hK K) | refine (show ∀ σ' w', _ → K σ' w' from by assumption) _ _ ?_ | refine W_seq_k fun K hK => ?_ | refine W_block_k fun K hK => ?_ | refine W_skip ?_ | refine W_ret ?_) | ((first | ((with_reducible refine W_id ?_); refine W_reg (by decide) (by rfl) ?_) | (with_reducible first | refine W_cond ?_ | refine hZ _ _ ?_ | refine W_exit ?_ | refine Wo_id ?_) | skip); repeat1' simp only [push_cast, seval, -Nat.reduceSubDiff]) | ((repeat ((fail_if_success with_reducible refine hK _ _ ?_); clear hK K)); (with_reducible refine hK _ _ ?_); clear hK K)))
  refine (zbnone_c h).mono ?_
  intro v w' ⟨hv, hw⟩
  subst hv; subst w'
  (repeat (first | (with_reducible first | (refine hK _ _ ?_; clear hK K) | refine (show ∀ σ' w', _ → K σ' w' from by assumption) _ _ ?_ | refine W_seq_k fun K hK => ?_ | refine W_block_k fun K hK => ?_ | refine W_skip ?_ | refine W_ret ?_) | ((first | ((with_reducible refine W_id ?_); refine W_reg (by decide) (by rfl) ?_) | (with_reducible first | refine W_cond ?_ | refine hZ _ _ ?_ | refine W_exit ?_ | refine Wo_id ?_) | skip); repeat1' simp only [push_cast, seval, -Nat.reduceSubDiff]) | ((repeat ((fail_if_success with_reducible refine hK _ _ ?_); clear hK K)); (with_reducible refine hK _ _ ?_); clear hK K)))
theorem zbquirks_c (h : NoB w pv)  : Gives Tryz.prog 59 #[.pointer pv] w fun v w' => v = .bool false ∧ w' = w := by
  refine Gives.of_W Tryz.call59 Tryz.func59 rfl Tryz.ntmps59 (by simp) ?_; intro Z hZ
  (repeat (first | (with_reducible first | (refine hK _ _ ?_; clear hK K) | refine (show ∀ σ' w', _ → K σ' w' from by assumption) _ _ ?_ | refine W_seq_k fun K hK => ?_ | refine W_block_k fun K hK => ?_ | refine W_skip ?_ | refine W_ret ?_) | ((first | ((with_reducible refine W_id ?_); refine W_reg (by decide) (by rfl) ?_) | (with_reducible first | refine W_cond ?_ | refine hZ _ _ ?_ | refine W_exit ?_ | refine Wo_id ?_) | skip); repeat1' simp only [push_cast, seval, -Nat.reduceSubDiff]) | ((repeat ((fail_if_success with_reducible refine hK _ _ ?_); clear hK K)); (with_reducible refine hK _ _ ?_); clear hK K)))
  refine (zbnone_c h).mono ?_
  intro v w' ⟨hv, hw⟩
  subst hv; subst w'
  (repeat (first | (with_reducible first | (refine hK _ _ ?_; clear hK K) | refine (show ∀ σ' w', _ → K σ' w' from by assumption) _ _ ?_ | refine W_seq_k fun K hK => ?_ | refine W_block_k fun K hK => ?_ | refine W_skip ?_ | refine W_ret ?_) | ((first | ((with_reducible refine W_id ?_); refine W_reg (by decide) (by rfl) ?_) | (with_reducible first | refine W_cond ?_ | refine hZ _ _ ?_ | refine W_exit ?_ | refine Wo_id ?_) | skip); repeat1' simp only [push_cast, seval, -Nat.reduceSubDiff]) | ((repeat ((fail_if_success with_reducible refine hK _ _ ?_); clear hK K)); (with_reducible refine hK _ _ ?_); clear hK K)))
theorem zbsetquirks_c (h : NoB w pv) (n : Bool) : Gives Tryz.prog 72 #[.pointer pv, .bool n] w fun _ w' => w' = w := by
  refine Gives.of_W Tryz.call72 Tryz.func72 rfl Tryz.ntmps72 (by simp) ?_; intro Z hZ
  (repeat (first | (with_reducible first | (refine hK _ _ ?_; clear hK K) | refine (show ∀ σ' w', _ → K σ' w' from by assumption) _ _ ?_ | refine W_seq_k fun K hK => ?_ | refine W_block_k fun K hK => ?_ | refine W_skip ?_ | refine W_ret ?_) | ((first | ((with_reducible refine W_id ?_); refine W_reg (by decide) (by rfl) ?_) | (with_reducible first | refine W_cond ?_ | refine hZ _ _ ?_ | refine W_exit ?_ | refine Wo_id ?_) | skip); repeat1' simp only [push_cast, seval, -Nat.reduceSubDiff]) | ((repeat ((fail_if_success with_reducible refine hK _ _ ?_); clear hK K)); (with_reducible refine hK _ _ ?_); clear hK K)))
  refine (zbnone_c h).mono ?_
  intro v w' ⟨hv, hw⟩
  subst hv; subst w'
  (repeat (first | (with_reducible first | (refine hK _ _ ?_; clear hK K) | refine (show ∀ σ' w', _ → K σ' w' from by assumption) _ _ ?_ | refine W_seq_k fun K hK => ?_ | refine W_block_k fun K hK => ?_ | refine W_skip ?_ | refine W_ret ?_) | ((first | ((with_reducible refine W_id ?_); refine W_reg (by decide) (by rfl) ?_) | (with_reducible first | refine W_cond ?_ | refine hZ _ _ ?_ | refine W_exit ?_ | refine Wo_id ?_) | skip); repeat1' simp only [push_cast, seval, -Nat.reduceSubDiff]) | ((repeat ((fail_if_success with_reducible refine hK _ _ ?_); clear hK K)); (with_reducible refine hK _ _ ?_); clear hK K)))
theorem zbfoster_c (h : NoB w pv) (n : Bool) : Gives Tryz.prog 73 #[.pointer pv, .bool n] w fun _ w' => w' = w := by
  refine Gives.of_W Tryz.call73 Tryz.func73 rfl Tryz.ntmps73 (by simp) ?_; intro Z hZ
  (repeat (first | (with_reducible first | (refine hK _ _ ?_; clear hK K) | refine (show ∀ σ' w', _ → K σ' w' from by assumption) _ _ ?_ | refine W_seq_k fun K hK => ?_ | refine W_block_k fun K hK => ?_ | refine W_skip ?_ | refine W_ret ?_) | ((first | ((with_reducible refine W_id ?_); refine W_reg (by decide) (by rfl) ?_) | (with_reducible first | refine W_cond ?_ | refine hZ _ _ ?_ | refine W_exit ?_ | refine Wo_id ?_) | skip); repeat1' simp only [push_cast, seval, -Nat.reduceSubDiff]) | ((repeat ((fail_if_success with_reducible refine hK _ _ ?_); clear hK K)); (with_reducible refine hK _ _ ?_); clear hK K)))
  refine (zbnone_c h).mono ?_
  intro v w' ⟨hv, hw⟩
  subst hv; subst w'
  (repeat (first | (with_reducible first | (refine hK _ _ ?_; clear hK K) | refine (show ∀ σ' w', _ → K σ' w' from by assumption) _ _ ?_ | refine W_seq_k fun K hK => ?_ | refine W_block_k fun K hK => ?_ | refine W_skip ?_ | refine W_ret ?_) | ((first | ((with_reducible refine W_id ?_); refine W_reg (by decide) (by rfl) ?_) | (with_reducible first | refine W_cond ?_ | refine hZ _ _ ?_ | refine W_exit ?_ | refine Wo_id ?_) | skip); repeat1' simp only [push_cast, seval, -Nat.reduceSubDiff]) | ((repeat ((fail_if_success with_reducible refine hK _ _ ?_); clear hK K)); (with_reducible refine hK _ _ ?_); clear hK K)))
theorem zbpending_c (h : NoB w pv)  : Gives Tryz.prog 47 #[.pointer pv] w fun v w' => v = .string ⟨#[]⟩ ∧ w' = w := by
  refine Gives.of_W Tryz.call47 Tryz.func47 rfl Tryz.ntmps47 (by simp) ?_; intro Z hZ
  (repeat (first | (with_reducible first | (refine hK _ _ ?_; clear hK K) | refine (show ∀ σ' w', _ → K σ' w' from by assumption) _ _ ?_ | refine W_seq_k fun K hK => ?_ | refine W_block_k fun K hK => ?_ | refine W_skip ?_ | refine W_ret ?_) | ((first | ((with_reducible refine W_id ?_); refine W_reg (by decide) (by rfl) ?_) | (with_reducible first | refine W_cond ?_ | refine hZ _ _ ?_ | refine W_exit ?_ | refine Wo_id ?_) | skip); repeat1' simp only [push_cast, seval, -Nat.reduceSubDiff]) | ((repeat ((fail_if_success with_reducible refine hK _ _ ?_); clear hK K)); (with_reducible refine hK _ _ ?_); clear hK K)))
  refine (zbnone_c h).mono ?_
  intro v w' ⟨hv, hw⟩
  subst hv; subst w'
  (repeat (first | (with_reducible first | (refine hK _ _ ?_; clear hK K) | refine (show ∀ σ' w', _ → K σ' w' from by assumption) _ _ ?_ | refine W_seq_k fun K hK => ?_ | refine W_block_k fun K hK => ?_ | refine W_skip ?_ | refine W_ret ?_) | ((first | ((with_reducible refine W_id ?_); refine W_reg (by decide) (by rfl) ?_) | (with_reducible first | refine W_cond ?_ | refine hZ _ _ ?_ | refine W_exit ?_ | refine Wo_id ?_) | skip); repeat1' simp only [push_cast, seval, -Nat.reduceSubDiff]) | ((repeat ((fail_if_success with_reducible refine hK _ _ ?_); clear hK K)); (with_reducible refine hK _ _ ?_); clear hK K)))
theorem zbsetpending_c (h : NoB w pv) (x : ByteArray) : Gives Tryz.prog 40 #[.pointer pv, .string x] w fun _ w' => w' = w := by
  refine Gives.of_W Tryz.call40 Tryz.func40 rfl Tryz.ntmps40 (by simp) ?_; intro Z hZ
  (repeat (first | (with_reducible first | (refine hK _ _ ?_; clear hK K) | refine (show ∀ σ' w', _ → K σ' w' from by assumption) _ _ ?_ | refine W_seq_k fun K hK => ?_ | refine W_block_k fun K hK => ?_ | refine W_skip ?_ | refine W_ret ?_) | ((first | ((with_reducible refine W_id ?_); refine W_reg (by decide) (by rfl) ?_) | (with_reducible first | refine W_cond ?_ | refine hZ _ _ ?_ | refine W_exit ?_ | refine Wo_id ?_) | skip); repeat1' simp only [push_cast, seval, -Nat.reduceSubDiff]) | ((repeat ((fail_if_success with_reducible refine hK _ _ ?_); clear hK K)); (with_reducible refine hK _ _ ?_); clear hK K)))
  refine (zbnone_c h).mono ?_
  intro v w' ⟨hv, hw⟩
  subst hv; subst w'
  (repeat (first | (with_reducible first | (refine hK _ _ ?_; clear hK K) | refine (show ∀ σ' w', _ → K σ' w' from by assumption) _ _ ?_ | refine W_seq_k fun K hK => ?_ | refine W_block_k fun K hK => ?_ | refine W_skip ?_ | refine W_ret ?_) | ((first | ((with_reducible refine W_id ?_); refine W_reg (by decide) (by rfl) ?_) | (with_reducible first | refine W_cond ?_ | refine hZ _ _ ?_ | refine W_exit ?_ | refine Wo_id ?_) | skip); repeat1' simp only [push_cast, seval, -Nat.reduceSubDiff]) | ((repeat ((fail_if_success with_reducible refine hK _ _ ?_); clear hK K)); (with_reducible refine hK _ _ ?_); clear hK K)))
theorem zbskip_c (h : NoB w pv)  : Gives Tryz.prog 41 #[.pointer pv] w fun _ w' => w' = w := by
  refine Gives.of_W Tryz.call41 Tryz.func41 rfl Tryz.ntmps41 (by simp) ?_; intro Z hZ
  (repeat (first | (with_reducible first | (refine hK _ _ ?_; clear hK K) | refine (show ∀ σ' w', _ → K σ' w' from by assumption) _ _ ?_ | refine W_seq_k fun K hK => ?_ | refine W_block_k fun K hK => ?_ | refine W_skip ?_ | refine W_ret ?_) | ((first | ((with_reducible refine W_id ?_); refine W_reg (by decide) (by rfl) ?_) | (with_reducible first | refine W_cond ?_ | refine hZ _ _ ?_ | refine W_exit ?_ | refine Wo_id ?_) | skip); repeat1' simp only [push_cast, seval, -Nat.reduceSubDiff]) | ((repeat ((fail_if_success with_reducible refine hK _ _ ?_); clear hK K)); (with_reducible refine hK _ _ ?_); clear hK K)))
  refine (zbnone_c h).mono ?_
  intro v w' ⟨hv, hw⟩
  subst hv; subst w'
  (repeat (first | (with_reducible first | (refine hK _ _ ?_; clear hK K) | refine (show ∀ σ' w', _ → K σ' w' from by assumption) _ _ ?_ | refine W_seq_k fun K hK => ?_ | refine W_block_k fun K hK => ?_ | refine W_skip ?_ | refine W_ret ?_) | ((first | ((with_reducible refine W_id ?_); refine W_reg (by decide) (by rfl) ?_) | (with_reducible first | refine W_cond ?_ | refine hZ _ _ ?_ | refine W_exit ?_ | refine Wo_id ?_) | skip); repeat1' simp only [push_cast, seval, -Nat.reduceSubDiff]) | ((repeat ((fail_if_success with_reducible refine hK _ _ ?_); clear hK K)); (with_reducible refine hK _ _ ?_); clear hK K)))
theorem zbskips_c (h : NoB w pv)  : Gives Tryz.prog 42 #[.pointer pv] w fun v w' => v = .bool false ∧ w' = w := by
  refine Gives.of_W Tryz.call42 Tryz.func42 rfl Tryz.ntmps42 (by simp) ?_; intro Z hZ
  (repeat (first | (with_reducible first | (refine hK _ _ ?_; clear hK K) | refine (show ∀ σ' w', _ → K σ' w' from by assumption) _ _ ?_ | refine W_seq_k fun K hK => ?_ | refine W_block_k fun K hK => ?_ | refine W_skip ?_ | refine W_ret ?_) | ((first | ((with_reducible refine W_id ?_); refine W_reg (by decide) (by rfl) ?_) | (with_reducible first | refine W_cond ?_ | refine hZ _ _ ?_ | refine W_exit ?_ | refine Wo_id ?_) | skip); repeat1' simp only [push_cast, seval, -Nat.reduceSubDiff]) | ((repeat ((fail_if_success with_reducible refine hK _ _ ?_); clear hK K)); (with_reducible refine hK _ _ ?_); clear hK K)))
  refine (zbnone_c h).mono ?_
  intro v w' ⟨hv, hw⟩
  subst hv; subst w'
  (repeat (first | (with_reducible first | (refine hK _ _ ?_; clear hK K) | refine (show ∀ σ' w', _ → K σ' w' from by assumption) _ _ ?_ | refine W_seq_k fun K hK => ?_ | refine W_block_k fun K hK => ?_ | refine W_skip ?_ | refine W_ret ?_) | ((first | ((with_reducible refine W_id ?_); refine W_reg (by decide) (by rfl) ?_) | (with_reducible first | refine W_cond ?_ | refine hZ _ _ ?_ | refine W_exit ?_ | refine Wo_id ?_) | skip); repeat1' simp only [push_cast, seval, -Nat.reduceSubDiff]) | ((repeat ((fail_if_success with_reducible refine hK _ _ ?_); clear hK K)); (with_reducible refine hK _ _ ?_); clear hK K)))
theorem zbfail_c (h : NoB w pv) (n : Int) : Gives Tryz.prog 33 #[.pointer pv, .int .i64 n] w fun _ w' => w' = w := by
  refine Gives.of_W Tryz.call33 Tryz.func33 rfl Tryz.ntmps33 (by simp) ?_; intro Z hZ
  (repeat (first | (with_reducible first | (refine hK _ _ ?_; clear hK K) | refine (show ∀ σ' w', _ → K σ' w' from by assumption) _ _ ?_ | refine W_seq_k fun K hK => ?_ | refine W_block_k fun K hK => ?_ | refine W_skip ?_ | refine W_ret ?_) | ((first | ((with_reducible refine W_id ?_); refine W_reg (by decide) (by rfl) ?_) | (with_reducible first | refine W_cond ?_ | refine hZ _ _ ?_ | refine W_exit ?_ | refine Wo_id ?_) | skip); repeat1' simp only [push_cast, seval, -Nat.reduceSubDiff]) | ((repeat ((fail_if_success with_reducible refine hK _ _ ?_); clear hK K)); (with_reducible refine hK _ _ ?_); clear hK K)))
  refine (zbnone_c h).mono ?_
  intro v w' ⟨hv, hw⟩
  subst hv; subst w'
  (repeat (first | (with_reducible first | (refine hK _ _ ?_; clear hK K) | refine (show ∀ σ' w', _ → K σ' w' from by assumption) _ _ ?_ | refine W_seq_k fun K hK => ?_ | refine W_block_k fun K hK => ?_ | refine W_skip ?_ | refine W_ret ?_) | ((first | ((with_reducible refine W_id ?_); refine W_reg (by decide) (by rfl) ?_) | (with_reducible first | refine W_cond ?_ | refine hZ _ _ ?_ | refine W_exit ?_ | refine Wo_id ?_) | skip); repeat1' simp only [push_cast, seval, -Nat.reduceSubDiff]) | ((repeat ((fail_if_success with_reducible refine hK _ _ ?_); clear hK K)); (with_reducible refine hK _ _ ?_); clear hK K)))
theorem zberr_c (h : NoB w pv)  : Gives Tryz.prog 31 #[.pointer pv] w fun v w' => v = .int .i64 1 ∧ w' = w := by
  refine Gives.of_W Tryz.call31 Tryz.func31 rfl Tryz.ntmps31 (by simp) ?_; intro Z hZ
  (repeat (first | (with_reducible first | (refine hK _ _ ?_; clear hK K) | refine (show ∀ σ' w', _ → K σ' w' from by assumption) _ _ ?_ | refine W_seq_k fun K hK => ?_ | refine W_block_k fun K hK => ?_ | refine W_skip ?_ | refine W_ret ?_) | ((first | ((with_reducible refine W_id ?_); refine W_reg (by decide) (by rfl) ?_) | (with_reducible first | refine W_cond ?_ | refine hZ _ _ ?_ | refine W_exit ?_ | refine Wo_id ?_) | skip); repeat1' simp only [push_cast, seval, -Nat.reduceSubDiff]) | ((repeat ((fail_if_success with_reducible refine hK _ _ ?_); clear hK K)); (with_reducible refine hK _ _ ?_); clear hK K)))
  refine (zbnone_c h).mono ?_
  intro v w' ⟨hv, hw⟩
  subst hv; subst w'
  (repeat (first | (with_reducible first | (refine hK _ _ ?_; clear hK K) | refine (show ∀ σ' w', _ → K σ' w' from by assumption) _ _ ?_ | refine W_seq_k fun K hK => ?_ | refine W_block_k fun K hK => ?_ | refine W_skip ?_ | refine W_ret ?_) | ((first | ((with_reducible refine W_id ?_); refine W_reg (by decide) (by rfl) ?_) | (with_reducible first | refine W_cond ?_ | refine hZ _ _ ?_ | refine W_exit ?_ | refine Wo_id ?_) | skip); repeat1' simp only [push_cast, seval, -Nat.reduceSubDiff]) | ((repeat ((fail_if_success with_reducible refine hK _ _ ?_); clear hK K)); (with_reducible refine hK _ _ ?_); clear hK K)))
theorem zbput_c (h : NoB w pv) (n m : Int) : Gives Tryz.prog 74 #[.pointer pv, .int .i64 n, .int .i64 m] w fun _ w' => w' = w := by
  refine Gives.of_W Tryz.call74 Tryz.func74 rfl Tryz.ntmps74 (by simp) ?_; intro Z hZ
  (repeat (first | (with_reducible first | (refine hK _ _ ?_; clear hK K) | refine (show ∀ σ' w', _ → K σ' w' from by assumption) _ _ ?_ | refine W_seq_k fun K hK => ?_ | refine W_block_k fun K hK => ?_ | refine W_skip ?_ | refine W_ret ?_) | ((first | ((with_reducible refine W_id ?_); refine W_reg (by decide) (by rfl) ?_) | (with_reducible first | refine W_cond ?_ | refine hZ _ _ ?_ | refine W_exit ?_ | refine Wo_id ?_) | skip); repeat1' simp only [push_cast, seval, -Nat.reduceSubDiff]) | ((repeat ((fail_if_success with_reducible refine hK _ _ ?_); clear hK K)); (with_reducible refine hK _ _ ?_); clear hK K)))
  refine (zbnone_c h).mono ?_
  intro v w' ⟨hv, hw⟩
  subst hv; subst w'
  (repeat (first | (with_reducible first | (refine hK _ _ ?_; clear hK K) | refine (show ∀ σ' w', _ → K σ' w' from by assumption) _ _ ?_ | refine W_seq_k fun K hK => ?_ | refine W_block_k fun K hK => ?_ | refine W_skip ?_ | refine W_ret ?_) | ((first | ((with_reducible refine W_id ?_); refine W_reg (by decide) (by rfl) ?_) | (with_reducible first | refine W_cond ?_ | refine hZ _ _ ?_ | refine W_exit ?_ | refine Wo_id ?_) | skip); repeat1' simp only [push_cast, seval, -Nat.reduceSubDiff]) | ((repeat ((fail_if_success with_reducible refine hK _ _ ?_); clear hK K)); (with_reducible refine hK _ _ ?_); clear hK K)))
theorem zbplace_c (h : NoB w pv) (n : Int) : Gives Tryz.prog 80 #[.pointer pv, .int .i64 n] w fun v w' => v = .tuple #[.int .i64 (-1), .int .i64 (-1)] ∧ w' = w := by
  refine Gives.of_W Tryz.call80 Tryz.func80 rfl Tryz.ntmps80 (by simp) ?_; intro Z hZ
  (repeat (first | (with_reducible first | (refine hK _ _ ?_; clear hK K) | refine (show ∀ σ' w', _ → K σ' w' from by assumption) _ _ ?_ | refine W_seq_k fun K hK => ?_ | refine W_block_k fun K hK => ?_ | refine W_skip ?_ | refine W_ret ?_) | ((first | ((with_reducible refine W_id ?_); refine W_reg (by decide) (by rfl) ?_) | (with_reducible first | refine W_cond ?_ | refine hZ _ _ ?_ | refine W_exit ?_ | refine Wo_id ?_) | skip); repeat1' simp only [push_cast, seval, -Nat.reduceSubDiff]) | ((repeat ((fail_if_success with_reducible refine hK _ _ ?_); clear hK K)); (with_reducible refine hK _ _ ?_); clear hK K)))
  refine (zbnone_c h).mono ?_
  intro v w' ⟨hv, hw⟩
  subst hv; subst w'
  (repeat (first | (with_reducible first | (refine hK _ _ ?_; clear hK K) | refine (show ∀ σ' w', _ → K σ' w' from by assumption) _ _ ?_ | refine W_seq_k fun K hK => ?_ | refine W_block_k fun K hK => ?_ | refine W_skip ?_ | refine W_ret ?_) | ((first | ((with_reducible refine W_id ?_); refine W_reg (by decide) (by rfl) ?_) | (with_reducible first | refine W_cond ?_ | refine hZ _ _ ?_ | refine W_exit ?_ | refine Wo_id ?_) | skip); repeat1' simp only [push_cast, seval, -Nat.reduceSubDiff]) | ((repeat ((fail_if_success with_reducible refine hK _ _ ?_); clear hK K)); (with_reducible refine hK _ _ ?_); clear hK K)))
theorem zbchars_c (h : NoB w pv) (x : ByteArray) : Gives Tryz.prog 35 #[.pointer pv, .string x] w fun _ w' => w' = w := by
  refine Gives.of_W Tryz.call35 Tryz.func35 rfl Tryz.ntmps35 (by simp) ?_; intro Z hZ
  (repeat (first | (with_reducible first | (refine hK _ _ ?_; clear hK K) | refine (show ∀ σ' w', _ → K σ' w' from by assumption) _ _ ?_ | refine W_seq_k fun K hK => ?_ | refine W_block_k fun K hK => ?_ | refine W_skip ?_ | refine W_ret ?_) | ((first | ((with_reducible refine W_id ?_); refine W_reg (by decide) (by rfl) ?_) | (with_reducible first | refine W_cond ?_ | refine hZ _ _ ?_ | refine W_exit ?_ | refine Wo_id ?_) | skip); repeat1' simp only [push_cast, seval, -Nat.reduceSubDiff]) | ((repeat ((fail_if_success with_reducible refine hK _ _ ?_); clear hK K)); (with_reducible refine hK _ _ ?_); clear hK K)))
  refine (zbnone_c h).mono ?_
  intro v w' ⟨hv, hw⟩
  subst hv; subst w'
  (repeat (first | (with_reducible first | (refine hK _ _ ?_; clear hK K) | refine (show ∀ σ' w', _ → K σ' w' from by assumption) _ _ ?_ | refine W_seq_k fun K hK => ?_ | refine W_block_k fun K hK => ?_ | refine W_skip ?_ | refine W_ret ?_) | ((first | ((with_reducible refine W_id ?_); refine W_reg (by decide) (by rfl) ?_) | (with_reducible first | refine W_cond ?_ | refine hZ _ _ ?_ | refine W_exit ?_ | refine Wo_id ?_) | skip); repeat1' simp only [push_cast, seval, -Nat.reduceSubDiff]) | ((repeat ((fail_if_success with_reducible refine hK _ _ ?_); clear hK K)); (with_reducible refine hK _ _ ?_); clear hK K)))
theorem zbask_c (h : NoB w pv)  : Gives Tryz.prog 64 #[.pointer pv] w fun v w' => v = .tuple #[.int .i64 0, .string ⟨#[]⟩, .bool false] ∧ w' = w := by
  refine Gives.of_W Tryz.call64 Tryz.func64 rfl Tryz.ntmps64 (by simp) ?_; intro Z hZ
  (repeat (first | (with_reducible first | (refine hK _ _ ?_; clear hK K) | refine (show ∀ σ' w', _ → K σ' w' from by assumption) _ _ ?_ | refine W_seq_k fun K hK => ?_ | refine W_block_k fun K hK => ?_ | refine W_skip ?_ | refine W_ret ?_) | ((first | ((with_reducible refine W_id ?_); refine W_reg (by decide) (by rfl) ?_) | (with_reducible first | refine W_cond ?_ | refine hZ _ _ ?_ | refine W_exit ?_ | refine Wo_id ?_) | skip); repeat1' simp only [push_cast, seval, -Nat.reduceSubDiff]) | ((repeat ((fail_if_success with_reducible refine hK _ _ ?_); clear hK K)); (with_reducible refine hK _ _ ?_); clear hK K)))
  refine (zbnone_c h).mono ?_
  intro v w' ⟨hv, hw⟩
  subst hv; subst w'
  (repeat (first | (with_reducible first | (refine hK _ _ ?_; clear hK K) | refine (show ∀ σ' w', _ → K σ' w' from by assumption) _ _ ?_ | refine W_seq_k fun K hK => ?_ | refine W_block_k fun K hK => ?_ | refine W_skip ?_ | refine W_ret ?_) | ((first | ((with_reducible refine W_id ?_); refine W_reg (by decide) (by rfl) ?_) | (with_reducible first | refine W_cond ?_ | refine hZ _ _ ?_ | refine W_exit ?_ | refine Wo_id ?_) | skip); repeat1' simp only [push_cast, seval, -Nat.reduceSubDiff]) | ((repeat ((fail_if_success with_reducible refine hK _ _ ?_); clear hK K)); (with_reducible refine hK _ _ ?_); clear hK K)))
theorem zbplain_c (h : NoB w pv)  : Gives Tryz.prog 77 #[.pointer pv] w fun _ w' => w' = w := by
  refine Gives.of_W Tryz.call77 Tryz.func77 rfl Tryz.ntmps77 (by simp) ?_; intro Z hZ
  (repeat (first | (with_reducible first | (refine hK _ _ ?_; clear hK K) | refine (show ∀ σ' w', _ → K σ' w' from by assumption) _ _ ?_ | refine W_seq_k fun K hK => ?_ | refine W_block_k fun K hK => ?_ | refine W_skip ?_ | refine W_ret ?_) | ((first | ((with_reducible refine W_id ?_); refine W_reg (by decide) (by rfl) ?_) | (with_reducible first | refine W_cond ?_ | refine hZ _ _ ?_ | refine W_exit ?_ | refine Wo_id ?_) | skip); repeat1' simp only [push_cast, seval, -Nat.reduceSubDiff]) | ((repeat ((fail_if_success with_reducible refine hK _ _ ?_); clear hK K)); (with_reducible refine hK _ _ ?_); clear hK K)))
  refine (zbnone_c h).mono ?_
  intro v w' ⟨hv, hw⟩
  subst hv; subst w'
  (repeat (first | (with_reducible first | (refine hK _ _ ?_; clear hK K) | refine (show ∀ σ' w', _ → K σ' w' from by assumption) _ _ ?_ | refine W_seq_k fun K hK => ?_ | refine W_block_k fun K hK => ?_ | refine W_skip ?_ | refine W_ret ?_) | ((first | ((with_reducible refine W_id ?_); refine W_reg (by decide) (by rfl) ?_) | (with_reducible first | refine W_cond ?_ | refine hZ _ _ ?_ | refine W_exit ?_ | refine Wo_id ?_) | skip); repeat1' simp only [push_cast, seval, -Nat.reduceSubDiff]) | ((repeat ((fail_if_success with_reducible refine hK _ _ ?_); clear hK K)); (with_reducible refine hK _ _ ?_); clear hK K)))
theorem zbrebuild_c (h : NoB w pv)  : Gives Tryz.prog 28 #[.pointer pv] w fun _ w' => w' = w := by
  refine Gives.of_W Tryz.call28 Tryz.func28 rfl Tryz.ntmps28 (by simp) ?_; intro Z hZ
  (repeat (first | (with_reducible first | (refine hK _ _ ?_; clear hK K) | refine (show ∀ σ' w', _ → K σ' w' from by assumption) _ _ ?_ | refine W_seq_k fun K hK => ?_ | refine W_block_k fun K hK => ?_ | refine W_skip ?_ | refine W_ret ?_) | ((first | ((with_reducible refine W_id ?_); refine W_reg (by decide) (by rfl) ?_) | (with_reducible first | refine W_cond ?_ | refine hZ _ _ ?_ | refine W_exit ?_ | refine Wo_id ?_) | skip); repeat1' simp only [push_cast, seval, -Nat.reduceSubDiff]) | ((repeat ((fail_if_success with_reducible refine hK _ _ ?_); clear hK K)); (with_reducible refine hK _ _ ?_); clear hK K)))
  refine (zbnone_c h).mono ?_
  intro v w' ⟨hv, hw⟩
  subst hv; subst w'
  (repeat (first | (with_reducible first | (refine hK _ _ ?_; clear hK K) | refine (show ∀ σ' w', _ → K σ' w' from by assumption) _ _ ?_ | refine W_seq_k fun K hK => ?_ | refine W_block_k fun K hK => ?_ | refine W_skip ?_ | refine W_ret ?_) | ((first | ((with_reducible refine W_id ?_); refine W_reg (by decide) (by rfl) ?_) | (with_reducible first | refine W_cond ?_ | refine hZ _ _ ?_ | refine W_exit ?_ | refine Wo_id ?_) | skip); repeat1' simp only [push_cast, seval, -Nat.reduceSubDiff]) | ((repeat ((fail_if_success with_reducible refine hK _ _ ?_); clear hK K)); (with_reducible refine hK _ _ ?_); clear hK K)))
theorem zbclosep_c (h : NoB w pv)  : Gives Tryz.prog 78 #[.pointer pv] w fun _ w' => w' = w := by
  refine Gives.of_W Tryz.call78 Tryz.func78 rfl Tryz.ntmps78 (by simp) ?_; intro Z hZ
  (repeat (first | (with_reducible first | (refine hK _ _ ?_; clear hK K) | refine (show ∀ σ' w', _ → K σ' w' from by assumption) _ _ ?_ | refine W_seq_k fun K hK => ?_ | refine W_block_k fun K hK => ?_ | refine W_skip ?_ | refine W_ret ?_) | ((first | ((with_reducible refine W_id ?_); refine W_reg (by decide) (by rfl) ?_) | (with_reducible first | refine W_cond ?_ | refine hZ _ _ ?_ | refine W_exit ?_ | refine Wo_id ?_) | skip); repeat1' simp only [push_cast, seval, -Nat.reduceSubDiff]) | ((repeat ((fail_if_success with_reducible refine hK _ _ ?_); clear hK K)); (with_reducible refine hK _ _ ?_); clear hK K)))
  refine (zbnone_c h).mono ?_
  intro v w' ⟨hv, hw⟩
  subst hv; subst w'
  (repeat (first | (with_reducible first | (refine hK _ _ ?_; clear hK K) | refine (show ∀ σ' w', _ → K σ' w' from by assumption) _ _ ?_ | refine W_seq_k fun K hK => ?_ | refine W_block_k fun K hK => ?_ | refine W_skip ?_ | refine W_ret ?_) | ((first | ((with_reducible refine W_id ?_); refine W_reg (by decide) (by rfl) ?_) | (with_reducible first | refine W_cond ?_ | refine hZ _ _ ?_ | refine W_exit ?_ | refine Wo_id ?_) | skip); repeat1' simp only [push_cast, seval, -Nat.reduceSubDiff]) | ((repeat ((fail_if_success with_reducible refine hK _ _ ?_); clear hK K)); (with_reducible refine hK _ _ ?_); clear hK K)))
theorem zbreset_c (h : NoB w pv)  : Gives Tryz.prog 48 #[.pointer pv] w fun _ w' => w' = w := by
  refine Gives.of_W Tryz.call48 Tryz.func48 rfl Tryz.ntmps48 (by simp) ?_; intro Z hZ
  (repeat (first | (with_reducible first | (refine hK _ _ ?_; clear hK K) | refine (show ∀ σ' w', _ → K σ' w' from by assumption) _ _ ?_ | refine W_seq_k fun K hK => ?_ | refine W_block_k fun K hK => ?_ | refine W_skip ?_ | refine W_ret ?_) | ((first | ((with_reducible refine W_id ?_); refine W_reg (by decide) (by rfl) ?_) | (with_reducible first | refine W_cond ?_ | refine hZ _ _ ?_ | refine W_exit ?_ | refine Wo_id ?_) | skip); repeat1' simp only [push_cast, seval, -Nat.reduceSubDiff]) | ((repeat ((fail_if_success with_reducible refine hK _ _ ?_); clear hK K)); (with_reducible refine hK _ _ ?_); clear hK K)))
  refine (zbnone_c h).mono ?_
  intro v w' ⟨hv, hw⟩
  subst hv; subst w'
  (repeat (first | (with_reducible first | (refine hK _ _ ?_; clear hK K) | refine (show ∀ σ' w', _ → K σ' w' from by assumption) _ _ ?_ | refine W_seq_k fun K hK => ?_ | refine W_block_k fun K hK => ?_ | refine W_skip ?_ | refine W_ret ?_) | ((first | ((with_reducible refine W_id ?_); refine W_reg (by decide) (by rfl) ?_) | (with_reducible first | refine W_cond ?_ | refine hZ _ _ ?_ | refine W_exit ?_ | refine Wo_id ?_) | skip); repeat1' simp only [push_cast, seval, -Nat.reduceSubDiff]) | ((repeat ((fail_if_success with_reducible refine hK _ _ ?_); clear hK K)); (with_reducible refine hK _ _ ?_); clear hK K)))
theorem zbopen_c (h : NoB w pv) (x : ByteArray) : Gives Tryz.prog 83 #[.pointer pv, .string x] w fun v w' => v = .bool false ∧ w' = w := by
  refine Gives.of_W Tryz.call83 Tryz.func83 rfl Tryz.ntmps83 (by simp) ?_; intro Z hZ
  (repeat (first | (with_reducible first | (refine hK _ _ ?_; clear hK K) | refine (show ∀ σ' w', _ → K σ' w' from by assumption) _ _ ?_ | refine W_seq_k fun K hK => ?_ | refine W_block_k fun K hK => ?_ | refine W_skip ?_ | refine W_ret ?_) | ((first | ((with_reducible refine W_id ?_); refine W_reg (by decide) (by rfl) ?_) | (with_reducible first | refine W_cond ?_ | refine hZ _ _ ?_ | refine W_exit ?_ | refine Wo_id ?_) | skip); repeat1' simp only [push_cast, seval, -Nat.reduceSubDiff]) | ((repeat ((fail_if_success with_reducible refine hK _ _ ?_); clear hK K)); (with_reducible refine hK _ _ ?_); clear hK K)))
  refine (zbnone_c h).mono ?_
  intro v w' ⟨hv, hw⟩
  subst hv; subst w'
  (repeat (first | (with_reducible first | (refine hK _ _ ?_; clear hK K) | refine (show ∀ σ' w', _ → K σ' w' from by assumption) _ _ ?_ | refine W_seq_k fun K hK => ?_ | refine W_block_k fun K hK => ?_ | refine W_skip ?_ | refine W_ret ?_) | ((first | ((with_reducible refine W_id ?_); refine W_reg (by decide) (by rfl) ?_) | (with_reducible first | refine W_cond ?_ | refine hZ _ _ ?_ | refine W_exit ?_ | refine Wo_id ?_) | skip); repeat1' simp only [push_cast, seval, -Nat.reduceSubDiff]) | ((repeat ((fail_if_success with_reducible refine hK _ _ ?_); clear hK K)); (with_reducible refine hK _ _ ?_); clear hK K)))
theorem zbinsert_c (h : NoB w pv) (t : HTok) {xa : Option Addr} {xn xc : Nat} (n : Int) : Gives Tryz.prog 21 #[.pointer pv, .agg (t.row (.slice xa xn xc)), .int .i64 n] w fun v w' => v = .int .i64 (-1) ∧ Ext w w' := by
  have hrow : t.row (.slice xa xn xc) = #[.int .i64 t.kind, .string t.name, .string t.text, .slice xa xn xc, .bool t.dup, .bool t.self, .bool t.quirks, .int .i64 t.frm, .int .i64 t.to] := rfl
  have hx := Ext.alloc w (.cells (t.row (.slice xa xn xc)) 37)
  refine Gives.of_W Tryz.call21 Tryz.func21 rfl Tryz.ntmps21 (by simp) ?_; intro Z hZ
  (repeat (first | (with_reducible first | (refine hK _ _ ?_; clear hK K) | refine (show ∀ σ' w', _ → K σ' w' from by assumption) _ _ ?_ | refine W_seq_k fun K hK => ?_ | refine W_block_k fun K hK => ?_ | refine W_skip ?_ | refine W_ret ?_) | ((first | ((with_reducible refine W_id ?_); refine W_reg (by decide) (by rfl) ?_) | (with_reducible first | refine W_cond ?_ | refine hZ _ _ ?_ | refine W_exit ?_ | refine Wo_id ?_) | skip); repeat1' simp only [push_cast, seval, -Nat.reduceSubDiff, vcells_agg]) | ((repeat ((fail_if_success with_reducible refine hK _ _ ?_); clear hK K)); (with_reducible refine hK _ _ ?_); clear hK K)))
  generalize w.alloc (.cells (t.row (.slice xa xn xc)) 37) = w1 at *
  refine (zbnone_c (h.ext hx)).mono ?_
  intro v w' ⟨hv, hw⟩
  subst hv; subst w'
  (repeat (first | (with_reducible first | (refine hK _ _ ?_; clear hK K) | refine (show ∀ σ' w', _ → K σ' w' from by assumption) _ _ ?_ | refine W_seq_k fun K hK => ?_ | refine W_block_k fun K hK => ?_ | refine W_skip ?_ | refine W_ret ?_) | ((first | ((with_reducible refine W_id ?_); refine W_reg (by decide) (by rfl) ?_) | (with_reducible first | refine W_cond ?_ | refine hZ _ _ ?_ | refine W_exit ?_ | refine Wo_id ?_) | skip); repeat1' simp only [push_cast, seval, -Nat.reduceSubDiff]) | ((repeat ((fail_if_success with_reducible refine hK _ _ ?_); clear hK K)); (with_reducible refine hK _ _ ?_); clear hK K)))
  exact hx
theorem zbcomment_c (h : NoB w pv) (t : HTok) {xa : Option Addr} {xn xc : Nat} (n : Int) : Gives Tryz.prog 75 #[.pointer pv, .agg (t.row (.slice xa xn xc)), .int .i64 n] w fun _ w' => Ext w w' := by
  have hrow : t.row (.slice xa xn xc) = #[.int .i64 t.kind, .string t.name, .string t.text, .slice xa xn xc, .bool t.dup, .bool t.self, .bool t.quirks, .int .i64 t.frm, .int .i64 t.to] := rfl
  have hx := Ext.alloc w (.cells (t.row (.slice xa xn xc)) 37)
  refine Gives.of_W Tryz.call75 Tryz.func75 rfl Tryz.ntmps75 (by simp) ?_; intro Z hZ
  (repeat (first | (with_reducible first | (refine hK _ _ ?_; clear hK K) | refine (show ∀ σ' w', _ → K σ' w' from by assumption) _ _ ?_ | refine W_seq_k fun K hK => ?_ | refine W_block_k fun K hK => ?_ | refine W_skip ?_ | refine W_ret ?_) | ((first | ((with_reducible refine W_id ?_); refine W_reg (by decide) (by rfl) ?_) | (with_reducible first | refine W_cond ?_ | refine hZ _ _ ?_ | refine W_exit ?_ | refine Wo_id ?_) | skip); repeat1' simp only [push_cast, seval, -Nat.reduceSubDiff, vcells_agg]) | ((repeat ((fail_if_success with_reducible refine hK _ _ ?_); clear hK K)); (with_reducible refine hK _ _ ?_); clear hK K)))
  generalize w.alloc (.cells (t.row (.slice xa xn xc)) 37) = w1 at *
  refine (zbnone_c (h.ext hx)).mono ?_
  intro v w' ⟨hv, hw⟩
  subst hv; subst w'
  (repeat (first | (with_reducible first | (refine hK _ _ ?_; clear hK K) | refine (show ∀ σ' w', _ → K σ' w' from by assumption) _ _ ?_ | refine W_seq_k fun K hK => ?_ | refine W_block_k fun K hK => ?_ | refine W_skip ?_ | refine W_ret ?_) | ((first | ((with_reducible refine W_id ?_); refine W_reg (by decide) (by rfl) ?_) | (with_reducible first | refine W_cond ?_ | refine hZ _ _ ?_ | refine W_exit ?_ | refine Wo_id ?_) | skip); repeat1' simp only [push_cast, seval, -Nat.reduceSubDiff]) | ((repeat ((fail_if_success with_reducible refine hK _ _ ?_); clear hK K)); (with_reducible refine hK _ _ ?_); clear hK K)))
  exact hx
theorem zbraw_c (h : NoB w pv) (t : HTok) {xa : Option Addr} {xn xc : Nat} (n : Int) : Gives Tryz.prog 76 #[.pointer pv, .agg (t.row (.slice xa xn xc)), .int .i64 n] w fun _ w' => Ext w w' := by
  have hrow : t.row (.slice xa xn xc) = #[.int .i64 t.kind, .string t.name, .string t.text, .slice xa xn xc, .bool t.dup, .bool t.self, .bool t.quirks, .int .i64 t.frm, .int .i64 t.to] := rfl
  have hx := Ext.alloc w (.cells (t.row (.slice xa xn xc)) 37)
  refine Gives.of_W Tryz.call76 Tryz.func76 rfl Tryz.ntmps76 (by simp) ?_; intro Z hZ
  (repeat (first | (with_reducible first | (refine hK _ _ ?_; clear hK K) | refine (show ∀ σ' w', _ → K σ' w' from by assumption) _ _ ?_ | refine W_seq_k fun K hK => ?_ | refine W_block_k fun K hK => ?_ | refine W_skip ?_ | refine W_ret ?_) | ((first | ((with_reducible refine W_id ?_); refine W_reg (by decide) (by rfl) ?_) | (with_reducible first | refine W_cond ?_ | refine hZ _ _ ?_ | refine W_exit ?_ | refine Wo_id ?_) | skip); repeat1' simp only [push_cast, seval, -Nat.reduceSubDiff, vcells_agg]) | ((repeat ((fail_if_success with_reducible refine hK _ _ ?_); clear hK K)); (with_reducible refine hK _ _ ?_); clear hK K)))
  generalize w.alloc (.cells (t.row (.slice xa xn xc)) 37) = w1 at *
  refine (zbnone_c (h.ext hx)).mono ?_
  intro v w' ⟨hv, hw⟩
  subst hv; subst w'
  (repeat (first | (with_reducible first | (refine hK _ _ ?_; clear hK K) | refine (show ∀ σ' w', _ → K σ' w' from by assumption) _ _ ?_ | refine W_seq_k fun K hK => ?_ | refine W_block_k fun K hK => ?_ | refine W_skip ?_ | refine W_ret ?_) | ((first | ((with_reducible refine W_id ?_); refine W_reg (by decide) (by rfl) ?_) | (with_reducible first | refine W_cond ?_ | refine hZ _ _ ?_ | refine W_exit ?_ | refine Wo_id ?_) | skip); repeat1' simp only [push_cast, seval, -Nat.reduceSubDiff]) | ((repeat ((fail_if_success with_reducible refine hK _ _ ?_); clear hK K)); (with_reducible refine hK _ _ ?_); clear hK K)))
  exact hx
theorem zbhtml_c (h : NoB w pv) (t : HTok) {xa : Option Addr} {xn xc : Nat}  : Gives Tryz.prog 79 #[.pointer pv, .agg (t.row (.slice xa xn xc))] w fun _ w' => Ext w w' := by
  have hrow : t.row (.slice xa xn xc) = #[.int .i64 t.kind, .string t.name, .string t.text, .slice xa xn xc, .bool t.dup, .bool t.self, .bool t.quirks, .int .i64 t.frm, .int .i64 t.to] := rfl
  have hx := Ext.alloc w (.cells (t.row (.slice xa xn xc)) 37)
  refine Gives.of_W Tryz.call79 Tryz.func79 rfl Tryz.ntmps79 (by simp) ?_; intro Z hZ
  (repeat (first | (with_reducible first | (refine hK _ _ ?_; clear hK K) | refine (show ∀ σ' w', _ → K σ' w' from by assumption) _ _ ?_ | refine W_seq_k fun K hK => ?_ | refine W_block_k fun K hK => ?_ | refine W_skip ?_ | refine W_ret ?_) | ((first | ((with_reducible refine W_id ?_); refine W_reg (by decide) (by rfl) ?_) | (with_reducible first | refine W_cond ?_ | refine hZ _ _ ?_ | refine W_exit ?_ | refine Wo_id ?_) | skip); repeat1' simp only [push_cast, seval, -Nat.reduceSubDiff, vcells_agg]) | ((repeat ((fail_if_success with_reducible refine hK _ _ ?_); clear hK K)); (with_reducible refine hK _ _ ?_); clear hK K)))
  generalize w.alloc (.cells (t.row (.slice xa xn xc)) 37) = w1 at *
  refine (zbnone_c (h.ext hx)).mono ?_
  intro v w' ⟨hv, hw⟩
  subst hv; subst w'
  (repeat (first | (with_reducible first | (refine hK _ _ ?_; clear hK K) | refine (show ∀ σ' w', _ → K σ' w' from by assumption) _ _ ?_ | refine W_seq_k fun K hK => ?_ | refine W_block_k fun K hK => ?_ | refine W_skip ?_ | refine W_ret ?_) | ((first | ((with_reducible refine W_id ?_); refine W_reg (by decide) (by rfl) ?_) | (with_reducible first | refine W_cond ?_ | refine hZ _ _ ?_ | refine W_exit ?_ | refine Wo_id ?_) | skip); repeat1' simp only [push_cast, seval, -Nat.reduceSubDiff]) | ((repeat ((fail_if_success with_reducible refine hK _ _ ?_); clear hK K)); (with_reducible refine hK _ _ ?_); clear hK K)))
  exact hx
theorem zbcurrent_c (h : NoB w pv) : Gives Tryz.prog 82 #[.pointer pv] w fun v w' => v = (Laid.mk zN (.slice none 0 0) (.slice none 0 0) none none).val ∧ Ext w w' := by
  refine Gives.of_W Tryz.call82 Tryz.func82 rfl Tryz.ntmps82 (by simp) ?_; intro Z hZ
  (repeat (first | (with_reducible first | (refine hK _ _ ?_; clear hK K) | refine (show ∀ σ' w', _ → K σ' w' from by assumption) _ _ ?_ | refine W_seq_k fun K hK => ?_ | refine W_block_k fun K hK => ?_ | refine W_skip ?_ | refine W_ret ?_) | ((first | ((with_reducible refine W_id ?_); refine W_reg (by decide) (by rfl) ?_) | (with_reducible first | refine W_cond ?_ | refine hZ _ _ ?_ | refine W_exit ?_ | refine Wo_id ?_) | skip); repeat1' simp only [push_cast, seval, -Nat.reduceSubDiff, vcells_agg, RunV_zero Tryz.zeroValue46]) | ((repeat ((fail_if_success with_reducible refine hK _ _ ?_); clear hK K)); (with_reducible refine hK _ _ ?_); clear hK K)))
  have hx1 := Ext.alloc w (.cells #[.int .i64 0, .string ⟨#[]⟩, .string ⟨#[]⟩, .int .i64 0, .slice none 0 0, .bool false, .int .i64 0, .int .i64 0, .slice none 0 0, .int .i64 0, .int .i64 0] 46)
  have z1 : (w.alloc (.cells #[.int .i64 0, .string ⟨#[]⟩, .string ⟨#[]⟩, .int .i64 0, .slice none 0 0, .bool false, .int .i64 0, .int .i64 0, .slice none 0 0, .int .i64 0, .int .i64 0] 46)).heap[w.heap.size]? = some (.cells #[.int .i64 0, .string ⟨#[]⟩, .string ⟨#[]⟩, .int .i64 0, .slice none 0 0, .bool false, .int .i64 0, .int .i64 0, .slice none 0 0, .int .i64 0, .int .i64 0] 46 (0, 0)) := by rw [heap_alloc_h, if_pos rfl]
  generalize w.alloc (.cells #[.int .i64 0, .string ⟨#[]⟩, .string ⟨#[]⟩, .int .i64 0, .slice none 0 0, .bool false, .int .i64 0, .int .i64 0, .slice none 0 0, .int .i64 0, .int .i64 0] 46) = w1 at *
  obtain ⟨p, hpe⟩ : ∃ p, p = w.heap.size := ⟨_, rfl⟩
  rw [← hpe] at z1 ⊢
  refine (zbnone_c (h.ext hx1)).mono ?_
  intro v w' ⟨hv, hw⟩
  subst hv; subst w'
  (repeat (first | (with_reducible first | (refine hK _ _ ?_; clear hK K) | refine (show ∀ σ' w', _ → K σ' w' from by assumption) _ _ ?_ | refine W_seq_k fun K hK => ?_ | refine W_block_k fun K hK => ?_ | refine W_skip ?_ | refine W_ret ?_) | ((first | ((with_reducible refine W_id ?_); refine W_reg (by decide) (by rfl) ?_) | (with_reducible first | refine W_cond ?_ | refine hZ _ _ ?_ | refine W_exit ?_ | refine Wo_id ?_) | skip); repeat1' simp only [push_cast, seval, -Nat.reduceSubDiff]) | ((repeat ((fail_if_success with_reducible refine hK _ _ ?_); clear hK K)); (with_reducible refine hK _ _ ?_); clear hK K)))
  refine build_struct Tryz.zeroValue46 un30 pl30 (cs := #[.int .i64 0, .string ⟨#[]⟩, .string ⟨#[]⟩, .int .i64 0, .slice none 0 0, .bool false, .int .i64 0, .int .i64 0, .slice none 0 0, .int .i64 0, .int .i64 0]) (by rfl) ?_
  have up : Upd (fun q => q = p) w1 (setCells w1 ⟨p, 0, none⟩ [.int .i64 0, .string ⟨#[]⟩, .string ⟨#[]⟩, .int .i64 0, .slice none 0 0, .bool false, .int .i64 0, .int .i64 0, .slice none 0 0, .int .i64 0, .int .i64 0] 0) := Upd.setCells (F := fun q => q = p) (a := ⟨p, 0, none⟩) w1 rfl _ 0
  have hp4 := setCells_all z1 (l := [.int .i64 0, .string ⟨#[]⟩, .string ⟨#[]⟩, .int .i64 0, .slice none 0 0, .bool false, .int .i64 0, .int .i64 0, .slice none 0 0, .int .i64 0, .int .i64 0]) rfl
  have hx4 : Ext w (setCells w1 ⟨p, 0, none⟩ [.int .i64 0, .string ⟨#[]⟩, .string ⟨#[]⟩, .int .i64 0, .slice none 0 0, .bool false, .int .i64 0, .int .i64 0, .slice none 0 0, .int .i64 0, .int .i64 0] 0) := Upd.trans hx1 up fun q hq e => by omega
  (repeat simp only [push_cast, seval, -Nat.reduceSubDiff, can_h, z1, canO_cells])
  generalize setCells w1 ⟨p, 0, none⟩ [.int .i64 0, .string ⟨#[]⟩, .string ⟨#[]⟩, .int .i64 0, .slice none 0 0, .bool false, .int .i64 0, .int .i64 0, .slice none 0 0, .int .i64 0, .int .i64 0] 0 = w4 at *
  (repeat (first | (with_reducible first | (refine hK _ _ ?_; clear hK K) | refine (show ∀ σ' w', _ → K σ' w' from by assumption) _ _ ?_ | refine W_seq_k fun K hK => ?_ | refine W_block_k fun K hK => ?_ | refine W_skip ?_ | refine W_ret ?_) | ((first | ((with_reducible refine W_id ?_); refine W_reg (by decide) (by rfl) ?_) | (with_reducible first | refine W_cond ?_ | refine hZ _ _ ?_ | refine W_exit ?_ | refine Wo_id ?_) | skip); repeat1' simp only [push_cast, seval, -Nat.reduceSubDiff, cell_h, cellO_cells, hp4]) | ((repeat ((fail_if_success with_reducible refine hK _ _ ?_); clear hK K)); (with_reducible refine hK _ _ ?_); clear hK K)))
  exact ⟨by rw [Laid.val_eq]; rfl, hx4⟩
theorem zbis_c (h : NoB w pv) {nv : Value} {l : List ByteArray} (hn : RdAt w 1 nv (strCells l)) (hl : l.length < 1000000000) : Gives Tryz.prog 65 #[.pointer pv, nv] w fun v w' => v = .bool false ∧ Ext w w' := by
  refine Gives.of_W Tryz.call65 Tryz.func65 rfl Tryz.ntmps65 (by simp) ?_; intro Z hZ
  (repeat (first | (with_reducible first | (refine hK _ _ ?_; clear hK K) | refine (show ∀ σ' w', _ → K σ' w' from by assumption) _ _ ?_ | refine W_seq_k fun K hK => ?_ | refine W_block_k fun K hK => ?_ | refine W_skip ?_ | refine W_ret ?_) | ((first | ((with_reducible refine W_id ?_); refine W_reg (by decide) (by rfl) ?_) | (with_reducible first | refine W_cond ?_ | refine hZ _ _ ?_ | refine W_exit ?_ | refine Wo_id ?_) | skip); repeat1' simp only [push_cast, seval, -Nat.reduceSubDiff]) | ((repeat ((fail_if_success with_reducible refine hK _ _ ?_); clear hK K)); (with_reducible refine hK _ _ ?_); clear hK K)))
  refine (zbcurrent_c h).mono ?_
  rintro v w2 ⟨rfl, hx⟩
  (repeat (first | (with_reducible first | (refine hK _ _ ?_; clear hK K) | refine (show ∀ σ' w', _ → K σ' w' from by assumption) _ _ ?_ | refine W_seq_k fun K hK => ?_ | refine W_block_k fun K hK => ?_ | refine W_skip ?_ | refine W_ret ?_) | ((first | ((with_reducible refine W_id ?_); refine W_reg (by decide) (by rfl) ?_) | (with_reducible first | refine W_cond ?_ | refine hZ _ _ ?_ | refine W_exit ?_ | refine Wo_id ?_) | skip); repeat1' simp only [push_cast, seval, -Nat.reduceSubDiff]) | ((repeat ((fail_if_success with_reducible refine hK _ _ ?_); clear hK K)); (with_reducible refine hK _ _ ?_); clear hK K)))
  refine (bhtml_c _ (hn.ext hx) hl).mono ?_
  rintro v w3 ⟨rfl, hx3⟩
  have : htmlN zN l = false := rfl
  rw [this]
  (repeat (first | (with_reducible first | (refine hK _ _ ?_; clear hK K) | refine (show ∀ σ' w', _ → K σ' w' from by assumption) _ _ ?_ | refine W_seq_k fun K hK => ?_ | refine W_block_k fun K hK => ?_ | refine W_skip ?_ | refine W_ret ?_) | ((first | ((with_reducible refine W_id ?_); refine W_reg (by decide) (by rfl) ?_) | (with_reducible first | refine W_cond ?_ | refine hZ _ _ ?_ | refine W_exit ?_ | refine Wo_id ?_) | skip); repeat1' simp only [push_cast, seval, -Nat.reduceSubDiff]) | ((repeat ((fail_if_success with_reducible refine hK _ _ ?_); clear hK K)); (with_reducible refine hK _ _ ?_); clear hK K)))
  exact hx.trans hx3
theorem zbonly_c (h : NoB w pv) (t : HTok) {xa : Option Addr} {xn xc : Nat} : Gives Tryz.prog 32 #[.pointer pv, .agg (t.row (.slice xa xn xc))] w fun v w' => v = .int .i64 (-1) ∧ Ext w w' := by
  have hrow : t.row (.slice xa xn xc) = #[.int .i64 t.kind, .string t.name, .string t.text, .slice xa xn xc, .bool t.dup, .bool t.self, .bool t.quirks, .int .i64 t.frm, .int .i64 t.to] := rfl
  have hx := Ext.alloc w (.cells (t.row (.slice xa xn xc)) 37)
  have hp : (w.alloc (.cells (t.row (.slice xa xn xc)) 37)).heap[w.heap.size]? = some (.cells (t.row (.slice xa xn xc)) 37 (0, 0)) := by rw [heap_alloc_h, if_pos rfl]
  have n0 : ¬ (0 : Int) ≤ -1 := by omega
  refine Gives.of_W Tryz.call32 Tryz.func32 rfl Tryz.ntmps32 (by simp) ?_; intro Z hZ
  (repeat (first | (with_reducible first | (refine hK _ _ ?_; clear hK K) | refine (show ∀ σ' w', _ → K σ' w' from by assumption) _ _ ?_ | refine W_seq_k fun K hK => ?_ | refine W_block_k fun K hK => ?_ | refine W_skip ?_ | refine W_ret ?_) | ((first | ((with_reducible refine W_id ?_); refine W_reg (by decide) (by rfl) ?_) | (with_reducible first | refine W_cond ?_ | refine hZ _ _ ?_ | refine W_exit ?_ | refine Wo_id ?_) | skip); repeat1' simp only [push_cast, seval, -Nat.reduceSubDiff, vcells_agg]) | ((repeat ((fail_if_success with_reducible refine hK _ _ ?_); clear hK K)); (with_reducible refine hK _ _ ?_); clear hK K)))
  generalize w.alloc (.cells (t.row (.slice xa xn xc)) 37) = w1 at *
  rw [hrow] at hp
  (repeat (first | (with_reducible first | (refine hK _ _ ?_; clear hK K) | refine (show ∀ σ' w', _ → K σ' w' from by assumption) _ _ ?_ | refine W_seq_k fun K hK => ?_ | refine W_block_k fun K hK => ?_ | refine W_skip ?_ | refine W_ret ?_) | ((first | ((with_reducible refine W_id ?_); refine W_reg (by decide) (by rfl) ?_) | (with_reducible first | refine W_cond ?_ | refine hZ _ _ ?_ | refine W_exit ?_ | refine Wo_id ?_) | skip); repeat1' simp only [push_cast, seval, -Nat.reduceSubDiff, cell_h, cellO_cells, hp]) | ((repeat ((fail_if_success with_reducible refine hK _ _ ?_); clear hK K)); (with_reducible refine hK _ _ ?_); clear hK K)))
  rw [← hrow]
  refine (zbinsert_c (h.ext hx) t 0).mono ?_
  rintro v w2 ⟨rfl, hx2⟩
  (repeat (first | (with_reducible first | (refine hK _ _ ?_; clear hK K) | refine (show ∀ σ' w', _ → K σ' w' from by assumption) _ _ ?_ | refine W_seq_k fun K hK => ?_ | refine W_block_k fun K hK => ?_ | refine W_skip ?_ | refine W_ret ?_) | ((first | ((with_reducible refine W_id ?_); refine W_reg (by decide) (by rfl) ?_) | (with_reducible first | refine W_cond ?_ | refine hZ _ _ ?_ | refine W_exit ?_ | refine Wo_id ?_) | skip); repeat1' simp only [push_cast, seval, -Nat.reduceSubDiff, n0]) | ((repeat ((fail_if_success with_reducible refine hK _ _ ?_); clear hK K)); (with_reducible refine hK _ _ ?_); clear hK K)))
  exact hx.trans hx2
theorem zbimply_c (h : NoB w pv) (x : ByteArray) : Gives Tryz.prog 18 #[.pointer pv, .string x] w fun v w' => v = .int .i64 (-1) ∧ Ext w w' := by
  refine Gives.of_W Tryz.call18 Tryz.func18 rfl Tryz.ntmps18 (by simp) ?_; intro Z hZ
  (repeat (first | (with_reducible first | (refine hK _ _ ?_; clear hK K) | refine (show ∀ σ' w', _ → K σ' w' from by assumption) _ _ ?_ | refine W_seq_k fun K hK => ?_ | refine W_block_k fun K hK => ?_ | refine W_skip ?_ | refine W_ret ?_) | ((first | ((with_reducible refine W_id ?_); refine W_reg (by decide) (by rfl) ?_) | (with_reducible first | refine W_cond ?_ | refine hZ _ _ ?_ | refine W_exit ?_ | refine Wo_id ?_) | skip); repeat1' simp only [push_cast, seval, -Nat.reduceSubDiff]) | ((repeat ((fail_if_success with_reducible refine hK _ _ ?_); clear hK K)); (with_reducible refine hK _ _ ?_); clear hK K)))
  refine build_struct Tryz.zeroValue37 unTo plTo (cs := #[.int .i64 2, .string x, .string ⟨#[]⟩, .slice none 0 0, .bool false, .bool false, .bool false, .int .i64 (-1), .int .i64 (-1)]) (by rfl) ?_
  (repeat (first | (with_reducible first | (refine hK _ _ ?_; clear hK K) | refine (show ∀ σ' w', _ → K σ' w' from by assumption) _ _ ?_ | refine W_seq_k fun K hK => ?_ | refine W_block_k fun K hK => ?_ | refine W_skip ?_ | refine W_ret ?_) | ((first | ((with_reducible refine W_id ?_); refine W_reg (by decide) (by rfl) ?_) | (with_reducible first | refine W_cond ?_ | refine hZ _ _ ?_ | refine W_exit ?_ | refine Wo_id ?_) | skip); repeat1' simp only [push_cast, seval, -Nat.reduceSubDiff]) | ((repeat ((fail_if_success with_reducible refine hK _ _ ?_); clear hK K)); (with_reducible refine hK _ _ ?_); clear hK K)))
  refine (zbinsert_c h (tokI x) 0).mono ?_
  rintro v w2 ⟨rfl, hx2⟩
  (repeat (first | (with_reducible first | (refine hK _ _ ?_; clear hK K) | refine (show ∀ σ' w', _ → K σ' w' from by assumption) _ _ ?_ | refine W_seq_k fun K hK => ?_ | refine W_block_k fun K hK => ?_ | refine W_skip ?_ | refine W_ret ?_) | ((first | ((with_reducible refine W_id ?_); refine W_reg (by decide) (by rfl) ?_) | (with_reducible first | refine W_cond ?_ | refine hZ _ _ ?_ | refine W_exit ?_ | refine Wo_id ?_) | skip); repeat1' simp only [push_cast, seval, -Nat.reduceSubDiff]) | ((repeat ((fail_if_success with_reducible refine hK _ _ ?_); clear hK K)); (with_reducible refine hK _ _ ?_); clear hK K)))
  exact hx2
end
end Go.Proofs.YtgnnlaeikcnhcaaGreatDoor
end
section
set_option linter.unusedSimpArgs false
set_option linter.unusedVariables false
namespace Go.Vk
open Go Go.RowKit Go.WideShapes Go.ChangeShapes
variable {H : Type} {enc : TypeId × Value → H} {P : Program}
theorem Ext.below {w w' : World} (h : Ext w w') : Below w.heap.size w w' := ⟨h.alike.os, h.alike.tape, h.alike.output, h.alike.size, fun _ hk => h.heap hk⟩
theorem post_ext {f : Func} {s : ChangeSpec} {apart fresh handsOn again : Bool} {W W' : World} {args : Array Value} {v : Value} {ds gs : List (DataW H)} {before pa pv : List MemPlace}
    (hW : DataW.Whole enc P f.params.toList s.vars apart W args.toList ds gs before)
    (hres : ∀ (b : Nat) (sp : Nat → Bool) (hd : Bool), DataW.TrodAll enc P W' b sp hd f.resultTypes.toList (v.resultList f.resultTypes.size) (s.fn H (ds ++ gs)).results [])
    (hargs : ∀ sp : Nat → Bool, (∀ p ∈ before, sp p.block = true) → DataW.TrodAll enc P W' 0 sp true f.params.toList args.toList (s.fn H (ds ++ gs)).args pa)
    (hvars : ∀ sp : Nat → Bool, (∀ p ∈ before, sp p.block = true) → DataW.TrodVars enc P W' sp s.vars (s.fn H (ds ++ gs)).vars pv)
    (hps : before = pa ++ pv) (hx : Ext W W')
    (hok : ∀ (j : Nat) (t : TypeId) (r : Value), f.resultTypes[j]? = some t → (v.resultList f.resultTypes.size)[j]? = some r → Value.okWide P W' .any 0 t r) :
    s.post enc P f apart fresh handsOn again W args v W' := by
  subst hps
  have hb := hx.below
  have lt : ∀ p ∈ pa ++ pv, p.block < W.heap.size := fun p hp => hW.lt p hp
  have old : ∀ p ∈ pa ++ pv, (fun b => decide (b < W.heap.size)) p.block = true := fun p hp => by simpa using lt p hp
  refine ⟨ds, gs, pa ++ pv, [], pa, pv, hW, hres _ _ _, hargs _ old, hvars _ old, World.keptBut_mono (fun p hp => ⟨hp, .inr (List.mem_append.1 hp)⟩) (hb.frame (· ∈ pa ++ pv)), fun _ => ?_⟩
  obtain ⟨_, _, _, _, _, hz, hn⟩ := hW
  refine ⟨hok, _, _, ([] ++ pa) ++ pv, ⟨[] ++ pa, pv, trodAll_append (hargs _ fun _ _ => rfl) (hres _ _ _), hvars _ fun _ _ => rfl, rfl, fun b off hp => ?_, fun ha => by simpa using hn ha⟩, fun p hp _ => by simpa using hp⟩
  have hin : MemPlace.cell b off ∈ pa ++ pv := by simpa using hp
  rw [hb.frozen (lt _ hin)]
  exact hz b off hin
end Go.Vk
end
section
set_option linter.unusedSimpArgs false
set_option linter.unusedVariables false
namespace Go.Vk
open Go Go.RowKit Go.WideShapes Go.ChangeShapes
variable {H : Type} {enc : TypeId × Value → H} {P : Program}
theorem stays_all (hl : laidOutB P = true) {W W' : World} (hx : Ext W W') {sp : Nat → Bool} : ∀ {ts : List TypeId} {vs : List Value} {ds : List (DataW H)} {ps : List MemPlace},
    DataW.TrodAll enc P W 0 (fun _ => true) true ts vs ds ps → (ts.all fun t => P.readableRec t && decide (t < P.types.size)) = true → (∀ p ∈ ps, p.block < W.heap.size) → (∀ p ∈ ps, sp p.block = true) →
    DataW.TrodAll enc P W' 0 sp true ts vs ds ps
  | [], vs, ds, ps, h, _, _, _ => by
    obtain ⟨rfl, rfl, rfl⟩ := trodAll_nil h
    exact trodAll_mk0
  | t :: ts, vs, ds, ps, h, ht, hlt, hs => by
    obtain ⟨v, vs', d, ds', p, q, rfl, rfl, rfl, h0, hr⟩ := trodAll_cons h
    simp only [List.all_cons, Bool.and_eq_true, decide_eq_true_eq] at ht
    exact trodAll_cons_mk (WideElems.Trod_stays hl ht.1.1 ht.1.2 h0 (fun x hx' => hx.below.same (hlt x (by simp [hx']))) (fun x hx' => hs x (by simp [hx'])))
      (stays_all hl hx hr (by simpa using ht.2) (fun x hx' => hlt x (by simp [hx'])) (fun x hx' => hs x (by simp [hx'])))
theorem law_post {f : Func} {s : ChangeSpec} {fresh handsOn again : Bool} {W W' : World} {args : Array Value} {ds gs : List (DataW H)} {before : List MemPlace} {tb : TypeId}
    (hl : laidOutB P = true) (hts : (f.params.toList.all fun t => P.readableRec t && decide (t < P.types.size)) = true) (hb : P.underlying tb = some .bool) (hres : f.resultTypes = #[tb])
    (hvars : s.vars = []) (hfn : s.fn H (ds ++ gs) = { results := [.lit (.bool true)], args := ds })
    (hW : DataW.Whole enc P f.params.toList s.vars false W args.toList ds gs before) (hx : Ext W W') :
    s.post enc P f false fresh handsOn again W args (.bool true) W' := by
  have hlt : ∀ p ∈ before, p.block < W.heap.size := fun p hp => hW.lt p hp
  have hW' := hW
  obtain ⟨p, q, hA, hV, rfl, hfz, hnd⟩ := hW
  rw [hvars] at hV
  obtain ⟨rfl, rfl⟩ := trodVars_none hV
  rw [List.append_nil] at *
  refine post_ext (pa := p) (pv := []) hW' (fun b sp hd => ?_) (fun sp hs => ?_) (fun sp hs => ?_) (by simp) hx (fun j t r hj hv => ?_)
  · rw [hres, List.append_nil, hfn]
    exact trodAll_cons_mk (shut_bool hb _) trodAll_mk0
  · rw [List.append_nil, hfn]
    exact stays_all hl hx hA hts hlt hs
  · rw [List.append_nil, hfn, hvars]; rfl
  · rw [hres] at hj hv
    match j, hj, hv with
    | 0, hj, hv =>
      simp [Value.resultList] at hj hv
      subst hj; subst hv
      exact okWide_bool_mk hb _
/-- a slice that was handed in: what it reads -/
theorem rd_of {W : World} {a : Addr} {n c : Nat} {l : List Value} {es : Nat} (hn : n ≤ c) (hl : l.length = n * es) (hc : ∀ i, i < l.length → W.cell? (a.add i) = l[i]?) : RdAt W es (.slice (some a) n c) l := by
  refine ⟨some a, n, c, rfl, hn, hl, fun i u hu => ?_⟩
  have hi := (List.getElem?_eq_some_iff.1 hu).1
  have h0 := hc 0 (by omega)
  have hs : a.spot = none := by
    rw [List.getElem?_eq_getElem (by omega)] at h0
    simp only [Addr.add, if_pos] at h0
    cases hsp : a.spot with
    | none => rfl
    | some x =>
      exfalso
      unfold World.cell? at h0
      rw [hsp] at h0
      cases hb : W.heap[a.block]? with
      | none => rw [hb] at h0; cases h0
      | some o => rw [hb] at h0; cases o <;> simp at h0
  obtain ⟨b, o, s⟩ := a
  simp only at hs
  subst hs
  refine ⟨b, o, rfl, ?_⟩
  rw [← hu, ← hc i hi, add_mk]
end Go.Vk
end
section
set_option linter.unusedSimpArgs false
set_option linter.unusedVariables false
namespace Go.Vk
def NA (w : World) (v : Value) : Prop := v = .pointer none ∨ ∃ pa t, v = .pointer (some ⟨pa, 0, none⟩) ∧ w.heap[pa]? = some (.cells #[.slice none 0 0] t (0, 0))
theorem NA.ext {w w' : World} {v : Value} (h : NA w v) (hx : Ext w w') : NA w' v := by
  rcases h with h | ⟨pa, t, h1, h2⟩
  · exact .inl h
  · exact .inr ⟨pa, t, h1, hx.blk h2⟩
end Go.Vk
end
section
set_option linter.unusedSimpArgs false
set_option linter.unusedVariables false
namespace Go.Vk
structure ActD where
  kd : Int
  i : Int
  j : Int
  m : Laid
def ActD.cells (x : ActD) : List Value := [.int .u8 x.kd, .int .i64 x.i, .int .i64 x.j, .int .i64 x.m.nd.kind, .string x.m.nd.name, .string x.m.nd.text, .int .i64 x.m.nd.space, x.m.av, .bool x.m.nd.dup, .int .i64 x.m.nd.parent, .int .i64 x.m.nd.content, x.m.kv, .int .i64 x.m.nd.frm, .int .i64 x.m.nd.to]
def ActD.val (x : ActD) : Value := .agg #[.int .u8 x.kd, .int .i64 x.i, .int .i64 x.j, .int .i64 x.m.nd.kind, .string x.m.nd.name, .string x.m.nd.text, .int .i64 x.m.nd.space, x.m.av, .bool x.m.nd.dup, .int .i64 x.m.nd.parent, .int .i64 x.m.nd.content, x.m.kv, .int .i64 x.m.nd.frm, .int .i64 x.m.nd.to]
end Go.Vk
end
section
set_option linter.unusedSimpArgs false
set_option linter.unusedVariables false
namespace Go.Vk
def ActsAt (w : World) (v : Value) (l : List ActD) : Prop := ∃ a c, v = .slice a l.length c ∧ l.length ≤ c ∧ ∀ k x, l[k]? = some x → ∃ b o, a = some ⟨b, o, none⟩ ∧ (∀ j, j < 14 → w.cell? ⟨b, o + k * 14 + j, none⟩ = x.cells[j]?) ∧ RdAt w 2 x.m.av (attrCells x.m.nd.attrs) ∧ ∃ ka kn kc, x.m.kv = .slice ka kn kc
theorem ActD.cells_get (x : ActD) {j : Nat} (hj : j < 14) : ∃ v, x.cells[j]? = some v := ⟨_, List.getElem?_eq_getElem (show j < x.cells.length from hj)⟩
theorem ActsAt.ext {w w' : World} {v : Value} {l : List ActD} (h : ActsAt w v l) (hx : Ext w w') : ActsAt w' v l := by
  obtain ⟨a, c, h1, h2, h3⟩ := h
  refine ⟨a, c, h1, h2, fun k x hk => ?_⟩
  obtain ⟨b, o, g1, g2, g3, g4⟩ := h3 k x hk
  refine ⟨b, o, g1, fun j hj => ?_, g3.ext hx, g4⟩
  obtain ⟨u, hu⟩ := x.cells_get hj
  rw [hu, cell_ext hx ((g2 j hj).trans hu)]
end Go.Vk
end
section
set_option linter.unusedSimpArgs false
set_option linter.unusedVariables false
namespace Go.Vk
theorem NA.set {w : World} {v : Value} {p o : Nat} {u : Value} {cs : Array Value} {t : TypeId} (h : NA w v) (hp : w.heap[p]? = some (.cells cs t (0, 0))) (hs : cs.size = 14) : NA (w.setCell ⟨p, o, none⟩ u) v := by
  rcases h with h | ⟨pa, t', h1, h2⟩
  · exact .inl h
  · refine .inr ⟨pa, t', h1, ?_⟩
    have hne : ¬ pa = p := fun e => by
      subst e
      rw [h2] at hp
      cases hp
      simp at hs
    rw [heap_set_h, if_neg hne]; exact h2
def ActD.row (x : ActD) (k : Int) : Array Value := #[.int .u8 k, .int .i64 x.i, .int .i64 x.j, .int .i64 x.m.nd.kind, .string x.m.nd.name, .string x.m.nd.text, .int .i64 x.m.nd.space, x.m.av, .bool x.m.nd.dup, .int .i64 x.m.nd.parent, .int .i64 x.m.nd.content, x.m.kv, .int .i64 x.m.nd.frm, .int .i64 x.m.nd.to]
end Go.Vk
end
section
set_option linter.unusedSimpArgs false
set_option linter.unusedVariables false
namespace Go.Vk
open Go Go.RowKit Go.WideShapes Go.ChangeShapes
theorem attrCells_at {l : List (ByteArray × ByteArray)} {q : Nat} (hq : q < l.length * 2) : ∃ x, l[q / 2]? = some x ∧ (attrCells l)[q]? = some (.string (if q % 2 = 0 then x.1 else x.2)) := by
  have h : q / 2 < l.length := by omega
  refine ⟨l[q / 2], List.getElem?_eq_getElem h, ?_⟩
  obtain ⟨g1, g2⟩ := attrCells_get0 (List.getElem?_eq_getElem h)
  by_cases e : q % 2 = 0
  · have e0 : q = q / 2 * 2 := by omega
    rw [if_pos e]
    rw [← e0] at g1; exact g1
  · have e0 : q = q / 2 * 2 + 1 := by omega
    rw [if_neg e]
    rw [← e0] at g2; exact g2
end Go.Vk
namespace Go.Proofs.YtgnnlaeikcnhcaaGreatDoor
open Go Go.Vk Go.RowKit Go.WideShapes Go.ChangeShapes
theorem cells3 : Tryz.prog.cellsOf 3 = 1 := by kernel_rfl
theorem cells4 : Tryz.prog.cellsOf 4 = 1 := by kernel_rfl
theorem cells9' : Tryz.prog.cellsOf 9 = 1 := by kernel_rfl
theorem cells27 : Tryz.prog.cellsOf 35 = 1 := by kernel_rfl
theorem cells94 : Tryz.prog.cellsOf 34 = 2 := by kernel_rfl
section
variable {H : Type} {enc : TypeId × Value → H} {W : World} {base : Nat} {sp : Nat → Bool} {hd : Bool}
theorem rd_attrs {fuel : Nat} {v : Value} {x : DataW H × List MemPlace} (h : DataW.trod enc Tryz.prog W base sp hd fuel 35 [v] = some x) : ∃ l : List (ByteArray × ByteArray), RdAt W 2 v (attrCells l) := by
  rcases Deep.open_slice_pairs Tryz.underlying35 Tryz.underlying34 cells94 rfl rfl cells9' cells9' h with ⟨h1, _⟩ | ⟨a, len, cap, m, n, V0, V1, D0, D1, P0, P1, h1, h2, h3, h4, h5, h6, h7⟩
  · cases h1
    exact ⟨[], none, 0, 0, rfl, Nat.le_refl _, rfl, fun i u hu => by simp [attrCells] at hu⟩
  · simp only [List.cons.injEq, and_true] at h1
    subst h1
    have hlm : len ≤ m := by rw [h5]; split <;> omega
    have each : ∀ i, i < m → ∃ q : ByteArray × ByteArray, V0 i = .string q.1 ∧ V1 i = .string q.2 := fun i hi => by
      obtain ⟨_, _, t0, t1⟩ := h7 i hi
      obtain ⟨s0, e0, _⟩ := DataW.trod_string Tryz.underlying9 t0
      obtain ⟨s1, e1, _⟩ := DataW.trod_string Tryz.underlying9 t1
      simp only [List.cons.injEq, and_true] at e0 e1
      exact ⟨(s0, s1), e0, e1⟩
    obtain ⟨q, hq⟩ := Deep.choose_lt each
    refine ⟨(List.range len).map q, rd_of h3 (by rw [attrCells_length]; simp) fun i hi => ?_⟩
    rw [attrCells_length, List.length_map, List.length_range] at hi
    obtain ⟨x, hx1, hx2⟩ := attrCells_at (l := (List.range len).map q) (q := i) (by simpa using hi)
    have hi2 : i / 2 < len := by omega
    have ex : x = q (i / 2) := by
      rw [List.getElem?_map, List.getElem?_range hi2] at hx1
      exact (Option.some.inj hx1).symm
    rw [hx2, ex]
    obtain ⟨g0, g1, _, _⟩ := h7 (i / 2) (by omega)
    obtain ⟨k0, k1⟩ := hq (i / 2) (by omega)
    by_cases e : i % 2 = 0
    · rw [if_pos e, ← k0, ← g0]; congr 2; omega
    · rw [if_neg e, ← k1, ← g1]; congr 2; omega
end
end Go.Proofs.YtgnnlaeikcnhcaaGreatDoor
end
section
set_option linter.unusedSimpArgs false
set_option linter.unusedVariables false
namespace Go.Vk
open Go
def bigA (a : ByteArray × ByteArray) : Bool := decide (300 < a.1.size) || decide (300 < a.2.size)
def largeT (t : HTok) : Bool := decide (300 < t.name.size) || (decide (300 < t.text.size) || (decide (10 < t.attrs.length) || t.attrs.any bigA))
theorem att_len {w : World} {v : Value} {l : List (ByteArray × ByteArray)} (h : RdAt w 2 v (attrCells l)) : ∃ a c, v = .slice a l.length c ∧ l.length ≤ c ∧
    ∀ (k : Nat) (x : ByteArray × ByteArray), l[k]? = some x → ∃ b o, a = some ⟨b, o, none⟩ ∧ w.cell? ⟨b, o + k * 2, none⟩ = some (.string x.1) ∧ w.cell? ⟨b, o + k * 2 + 1, none⟩ = some (.string x.2) := by
  obtain ⟨a, n, c, rfl, h1, h2, h3⟩ := h
  have hl : (attrCells l).length = l.length * 2 := by
    have := attrCells_length l
    omega
  have hn : n = l.length := by omega
  subst hn
  refine ⟨a, c, rfl, h1, fun k x hx => ?_⟩
  have hk := (List.getElem?_eq_some_iff.1 hx).1
  obtain ⟨y, hy, e0⟩ := attrCells_at (l := l) (q := k * 2) (by omega)
  obtain ⟨z, hz, e1⟩ := attrCells_at (l := l) (q := k * 2 + 1) (by omega)
  have q0 : k * 2 / 2 = k := by omega
  have q1 : (k * 2 + 1) / 2 = k := by omega
  rw [q0, hx] at hy
  rw [q1, hx] at hz
  cases hy; cases hz
  rw [if_pos (by omega)] at e0
  rw [if_neg (by omega)] at e1
  obtain ⟨b, o, rfl, c0⟩ := h3 _ _ e0
  obtain ⟨b', o', e, c1⟩ := h3 _ _ e1
  cases e
  exact ⟨b, o, rfl, c0, by rw [Nat.add_assoc]; exact c1⟩
end Go.Vk
namespace Go.Proofs.YtgnnlaeikcnhcaaGreatDoor
open Go Go.Vk
set_option maxHeartbeats 40000000
theorem large_c {w : World} {t : HTok} {av : Value} (ha : RdAt w 2 av (attrCells t.attrs)) : Gives Tryz.prog 69 #[.agg (t.row av)] w fun v w' => v = .bool (largeT t) ∧ Ext w w' := by
  obtain ⟨xa, xc, rfl, hxc, hcell⟩ := att_len ha
  have hrow : t.row (.slice xa t.attrs.length xc) = #[.int .i64 t.kind, .string t.name, .string t.text, .slice xa t.attrs.length xc, .bool t.dup, .bool t.self, .bool t.quirks, .int .i64 t.frm, .int .i64 t.to] := rfl
  have hx := Ext.alloc w (.cells (t.row (.slice xa t.attrs.length xc)) 37)
  have hp : (w.alloc (.cells (t.row (.slice xa t.attrs.length xc)) 37)).heap[w.heap.size]? = some (.cells (t.row (.slice xa t.attrs.length xc)) 37 (0, 0)) := by rw [heap_alloc_h, if_pos rfl]
  obtain ⟨r, hr⟩ : ∃ r, r = largeT t := ⟨_, rfl⟩
  rw [← hr]
  unfold largeT at hr
  refine Gives.of_W Tryz.call69 Tryz.func69 rfl Tryz.ntmps69 (by simp) ?_; intro Z hZ
  (repeat (first | (with_reducible first | (refine hK _ _ ?_; clear hK K) | refine (show ∀ σ' w', _ → K σ' w' from by assumption) _ _ ?_ | refine W_seq_k fun K hK => ?_ | refine W_block_k fun K hK => ?_ | refine W_skip ?_ | refine W_ret ?_) | ((first | ((with_reducible refine W_id ?_); refine W_reg (by decide) (by rfl) ?_) | (with_reducible first | refine W_cond ?_ | refine hZ _ _ ?_ | refine W_exit ?_ | refine Wo_id ?_) | skip); repeat1' simp only [push_cast, seval, -Nat.reduceSubDiff, vcells_agg]) | ((repeat ((fail_if_success with_reducible refine hK _ _ ?_); clear hK K)); (with_reducible refine hK _ _ ?_); clear hK K)))
  generalize w.alloc (.cells (t.row (.slice xa t.attrs.length xc)) 37) = w1 at *
  obtain ⟨p, hpe⟩ : ∃ p, p = w.heap.size := ⟨_, rfl⟩
  rw [← hpe] at hp ⊢
  rw [hrow] at hp
  by_cases h1 : 300 < t.name.size
  · have d1 : (300 : Int) < (t.name.size : Int) := by omega
    rw [decide_eq_true h1, Bool.true_or] at hr
    (repeat (first | (with_reducible first | (refine hK _ _ ?_; clear hK K) | refine (show ∀ σ' w', _ → K σ' w' from by assumption) _ _ ?_ | refine W_seq_k fun K hK => ?_ | refine W_block_k fun K hK => ?_ | refine W_skip ?_ | refine W_ret ?_) | ((first | ((with_reducible refine W_id ?_); refine W_reg (by decide) (by rfl) ?_) | (with_reducible first | refine W_cond ?_ | refine hZ _ _ ?_ | refine W_exit ?_ | refine Wo_id ?_) | skip); repeat1' simp only [push_cast, seval, -Nat.reduceSubDiff, cell_h, cellO_cells, hp, d1]) | ((repeat ((fail_if_success with_reducible refine hK _ _ ?_); clear hK K)); (with_reducible refine hK _ _ ?_); clear hK K)))
    exact ⟨by rw [hr], hx⟩
  have d1 : ¬ (300 : Int) < (t.name.size : Int) := by omega
  rw [decide_eq_false h1, Bool.false_or] at hr
  by_cases h2 : 300 < t.text.size
  · have d2 : (300 : Int) < (t.text.size : Int) := by omega
    rw [decide_eq_true h2, Bool.true_or] at hr
    (repeat (first | (with_reducible first | (refine hK _ _ ?_; clear hK K) | refine (show ∀ σ' w', _ → K σ' w' from by assumption) _ _ ?_ | refine W_seq_k fun K hK => ?_ | refine W_block_k fun K hK => ?_ | refine W_skip ?_ | refine W_ret ?_) | ((first | ((with_reducible refine W_id ?_); refine W_reg (by decide) (by rfl) ?_) | (with_reducible first | refine W_cond ?_ | refine hZ _ _ ?_ | refine W_exit ?_ | refine Wo_id ?_) | skip); repeat1' simp only [push_cast, seval, -Nat.reduceSubDiff, cell_h, cellO_cells, hp, d1, d2]) | ((repeat ((fail_if_success with_reducible refine hK _ _ ?_); clear hK K)); (with_reducible refine hK _ _ ?_); clear hK K)))
    exact ⟨by rw [hr], hx⟩
  have d2 : ¬ (300 : Int) < (t.text.size : Int) := by omega
  rw [decide_eq_false h2, Bool.false_or] at hr
  by_cases h3 : 10 < t.attrs.length
  · have d3 : (10 : Int) < (t.attrs.length : Int) := by omega
    rw [decide_eq_true h3, Bool.true_or] at hr
    (repeat (first | (with_reducible first | (refine hK _ _ ?_; clear hK K) | refine (show ∀ σ' w', _ → K σ' w' from by assumption) _ _ ?_ | refine W_seq_k fun K hK => ?_ | refine W_block_k fun K hK => ?_ | refine W_skip ?_ | refine W_ret ?_) | ((first | ((with_reducible refine W_id ?_); refine W_reg (by decide) (by rfl) ?_) | (with_reducible first | refine W_cond ?_ | refine hZ _ _ ?_ | refine W_exit ?_ | refine Wo_id ?_) | skip); repeat1' simp only [push_cast, seval, -Nat.reduceSubDiff, cell_h, cellO_cells, hp, d1, d2, d3]) | ((repeat ((fail_if_success with_reducible refine hK _ _ ?_); clear hK K)); (with_reducible refine hK _ _ ?_); clear hK K)))
    exact ⟨by rw [hr], hx⟩
  have d3 : ¬ (10 : Int) < (t.attrs.length : Int) := by omega
  rw [decide_eq_false h3, Bool.false_or] at hr
  (repeat (first | (with_reducible first | (refine hK _ _ ?_; clear hK K) | refine (show ∀ σ' w', _ → K σ' w' from by assumption) _ _ ?_ | refine W_seq_k fun K hK => ?_ | refine W_block_k fun K hK => ?_ | refine W_skip ?_ | refine W_ret ?_) | ((first | ((with_reducible refine W_id ?_); refine W_reg (by decide) (by rfl) ?_) | (with_reducible first | refine W_cond ?_ | refine hZ _ _ ?_ | refine W_exit ?_ | refine Wo_id ?_) | skip); repeat1' simp only [push_cast, seval, -Nat.reduceSubDiff, cell_h, cellO_cells, hp, d1, d2, d3]) | ((repeat ((fail_if_success with_reducible refine hK _ _ ?_); clear hK K)); (with_reducible refine hK _ _ ?_); clear hK K)))
  refine W_loop (S := Nat) (fun k => [(1, .pointer (some ⟨p, 0, none⟩)), (3, .int .i64 (k : Int))])
    (fun k w2 => k ≤ t.attrs.length ∧ r = (t.attrs.drop k).any bigA ∧ w2 = w1) (fun k => t.attrs.length - k) 0 ?_ ?_ ?_
  · (repeat simp only [push_cast, seval, -Nat.reduceSubDiff])
  · exact ⟨by omega, hr, rfl⟩
  rintro k w2 ⟨hk, he, hw2⟩
  subst w2
  by_cases hkl : k < t.attrs.length
  · obtain ⟨x, hxk⟩ : ∃ x, t.attrs[k]? = some x := ⟨_, List.getElem?_eq_getElem hkl⟩
    obtain ⟨b, o, rfl, c0, c1⟩ := hcell k x hxk
    have c0 := cell_ext hx c0
    have c1 := cell_ext hx c1
    rw [cell_h] at c0 c1
    have hdr : t.attrs.drop k = x :: t.attrs.drop (k + 1) := by
      rw [List.drop_eq_getElem_cons hkl]
      congr 1
      have := List.getElem?_eq_getElem hkl
      rw [hxk] at this
      exact (Option.some.inj this).symm
    rw [hdr, List.any_cons] at he
    have b0 : (k : Int) < (t.attrs.length : Int) := by omega
    have b1 : (0 : Int) ≤ (k : Int) := by omega
    have b2 : inI64 ((k : Int) + 1) := by unfold inI64; omega
    by_cases g1 : 300 < x.1.size
    · have e1 : (300 : Int) < (x.1.size : Int) := by omega
      have : bigA x = true := by unfold bigA; rw [decide_eq_true g1]; rfl
      rw [this, Bool.true_or] at he
      (repeat (first | (with_reducible first | (refine hK _ _ ?_; clear hK K) | refine (show ∀ σ' w', _ → K σ' w' from by assumption) _ _ ?_ | refine W_seq_k fun K hK => ?_ | refine W_block_k fun K hK => ?_ | refine W_skip ?_ | refine W_ret ?_) | ((first | ((with_reducible refine W_id ?_); refine W_reg (by decide) (by rfl) ?_) | (with_reducible first | refine W_cond ?_ | refine hZ _ _ ?_ | refine W_exit ?_ | refine Wo_id ?_) | skip); repeat1' simp only [push_cast, seval, -Nat.reduceSubDiff, b0, b1, cell_h, cellO_cells, hp, c0, c1, e1]) | ((repeat ((fail_if_success with_reducible refine hK _ _ ?_); clear hK K)); (with_reducible refine hK _ _ ?_); clear hK K)))
      exact ⟨by rw [he], hx⟩
    have e1 : ¬ (300 : Int) < (x.1.size : Int) := by omega
    by_cases g2 : 300 < x.2.size
    · have e2 : (300 : Int) < (x.2.size : Int) := by omega
      have : bigA x = true := by unfold bigA; rw [decide_eq_true g2, Bool.or_true]
      rw [this, Bool.true_or] at he
      (repeat (first | (with_reducible first | (refine hK _ _ ?_; clear hK K) | refine (show ∀ σ' w', _ → K σ' w' from by assumption) _ _ ?_ | refine W_seq_k fun K hK => ?_ | refine W_block_k fun K hK => ?_ | refine W_skip ?_ | refine W_ret ?_) | ((first | ((with_reducible refine W_id ?_); refine W_reg (by decide) (by rfl) ?_) | (with_reducible first | refine W_cond ?_ | refine hZ _ _ ?_ | refine W_exit ?_ | refine Wo_id ?_) | skip); repeat1' simp only [push_cast, seval, -Nat.reduceSubDiff, b0, b1, cell_h, cellO_cells, hp, c0, c1, e1, e2]) | ((repeat ((fail_if_success with_reducible refine hK _ _ ?_); clear hK K)); (with_reducible refine hK _ _ ?_); clear hK K)))
      exact ⟨by rw [he], hx⟩
    have e2 : ¬ (300 : Int) < (x.2.size : Int) := by omega
    have : bigA x = false := by unfold bigA; rw [decide_eq_false g1, decide_eq_false g2]; rfl
    rw [this, Bool.false_or] at he
    (repeat (first | (with_reducible first | (refine hK _ _ ?_; clear hK K) | refine (show ∀ σ' w', _ → K σ' w' from by assumption) _ _ ?_ | refine W_seq_k fun K hK => ?_ | refine W_block_k fun K hK => ?_ | refine W_skip ?_ | refine W_ret ?_) | ((first | ((with_reducible refine W_id ?_); refine W_reg (by decide) (by rfl) ?_) | (with_reducible first | refine W_cond ?_ | refine hZ _ _ ?_ | refine W_exit ?_ | refine Wo_id ?_) | skip); repeat1' simp only [push_cast, seval, -Nat.reduceSubDiff, b0, b1, cell_h, cellO_cells, hp, c0, c1, e1, e2, b2]) | ((repeat ((fail_if_success with_reducible refine hK _ _ ?_); clear hK K)); (with_reducible refine hK _ _ ?_); clear hK K)))
    refine ⟨k + 1, by omega, ?_⟩
    (repeat simp only [push_cast, seval, -Nat.reduceSubDiff])
    exact ⟨by omega, he⟩
  · have hke : k = t.attrs.length := by omega
    subst hke
    have b0 : ¬ (t.attrs.length : Int) < (t.attrs.length : Int) := by omega
    rw [List.drop_length, List.any_nil] at he
    (repeat (first | (with_reducible first | (refine hK _ _ ?_; clear hK K) | refine (show ∀ σ' w', _ → K σ' w' from by assumption) _ _ ?_ | refine W_seq_k fun K hK => ?_ | refine W_block_k fun K hK => ?_ | refine W_skip ?_ | refine W_ret ?_) | ((first | ((with_reducible refine W_id ?_); refine W_reg (by decide) (by rfl) ?_) | (with_reducible first | refine W_cond ?_ | refine hZ _ _ ?_ | refine W_exit ?_ | refine Wo_id ?_) | skip); repeat1' simp only [push_cast, seval, -Nat.reduceSubDiff, b0, cell_h, cellO_cells, hp]) | ((repeat ((fail_if_success with_reducible refine hK _ _ ?_); clear hK K)); (with_reducible refine hK _ _ ?_); clear hK K)))
    exact ⟨by rw [he], hx⟩
end Go.Proofs.YtgnnlaeikcnhcaaGreatDoor
end
section
set_option linter.unusedSimpArgs false
set_option linter.unusedVariables false
namespace Go.Vk
open Go
/-- a builder whose nodes are the document and those of a list, none of them a template; nothing fostered; what is open is among them -/
structure Reg (b : BSt) (ns : List Nd) : Prop where
  gd : Gd b.L
  len : b.L.length = ns.length + 1
  nod : ∀ (i : Nat) (n : Nd), ns[i]? = some n → gN b.L ((i : Int) + 1) = { n with parent := (gN b.L ((i : Int) + 1)).parent, kids := (gN b.L ((i : Int) + 1)).kids }
  pl : ∀ n ∈ ns, kidK n.kind = true ∧ n.name ≠ tmpl
  stk : ∀ o ∈ b.s, ∃ (i : Nat) (n : Nd), ns[i]? = some n ∧ n.kind = 3 ∧ o = ⟨(i : Int) + 1, n.space, n.name⟩
  fo : b.foster = false
theorem nodeN_gN {L : List Nd} {i : Int} (h : 0 ≤ i ∧ i < L.length) : nodeN L i = gN L i := by
  unfold nodeN gN
  have := nd?_isSome L i
  rw [decide_eq_true h] at this
  obtain ⟨n, hn⟩ := Option.isSome_iff_exists.1 this
  rw [hn]; rfl
theorem aboveF_new {L : List Nd} (h : Gd L) (n : Nd) : ∀ (k : Nat) (j : Int), j < L.length → aboveF (L ++ [n]) L.length k j = false
  | 0, _, _ => rfl
  | k + 1, j, hj => by
    rw [aboveF]
    by_cases h0 : j < 0
    · rw [if_pos h0]
    · rw [if_neg h0]
      have e : ¬ j = (L.length : Int) := by omega
      rw [decide_eq_false e, Bool.false_or]
      apply aboveF_new h n k
      rw [upN_g, gN_push, if_neg e]
      split
      · omega
      · by_cases hp : 0 ≤ (gN L j).parent
        · exact (h.range hp).2
        · omega
theorem addN_pl {L : List Nd} {n : Nd} (hk : kidK n.kind = true) (hn : n.name ≠ tmpl) : addN L n = (L ++ [bareN n], (L.length : Int)) := by
  unfold addN
  rw [if_pos hk, if_neg (fun h => hn h.2.2)]
/-- a builder behind an Insert where nothing is odd -/
def insR (b : BSt) (n : Nd) : BSt := { b with L := hangN (b.L ++ [bareN n]) (targB b).toNat (-1) b.L.length, s := b.s ++ [⟨(b.L.length : Int), n.space, n.name⟩] }
theorem topS_eq (s : List OpS) : topS s = match s.getLast? with | none => -1 | some o => o.node := by
  unfold topS atS
  rcases List.eq_nil_or_concat s with rfl | ⟨r, o, rfl⟩
  · rfl
  · rw [List.concat_eq_append, List.getLast?_concat]
    simp only [List.length_append, List.length_cons, List.length_nil]
    rw [if_pos ⟨by omega, by omega⟩]
    have e : (((r.length + (0 + 1) : Nat) : Int) - 1).toNat = r.length := by omega
    rw [e]
    simp
theorem Reg.targ {b : BSt} {ns : List Nd} (h : Reg b ns) : (b.s = [] ∧ targB b = 0) ∨ ∃ (i : Nat) (n : Nd), ns[i]? = some n ∧ n.kind = 3 ∧ targB b = (i : Int) + 1 := by
  unfold targB
  rw [topS_eq]
  rcases List.eq_nil_or_concat b.s with e | ⟨r, o, e⟩
  · rw [e]; exact .inl ⟨rfl, rfl⟩
  · rw [List.concat_eq_append] at e
    obtain ⟨i, n, h1, h2, h3⟩ := h.stk o (by rw [e]; simp)
    right
    refine ⟨i, n, h1, h2, ?_⟩
    rw [e, List.getLast?_concat]
    subst h3
    dsimp only
    rw [if_neg (by omega)]
theorem Reg.t0 {b : BSt} {ns : List Nd} (h : Reg b ns) : 0 ≤ targB b ∧ targB b < b.L.length ∧ (((gN b.L (targB b)).kind = 1 ∧ targB b = 0) ∨ ((gN b.L (targB b)).kind = 3 ∧ (gN b.L (targB b)).name ≠ tmpl)) := by
  have hl := h.len
  rcases h.targ with ⟨_, e⟩ | ⟨i, n, h1, h2, e⟩
  · rw [e]; exact ⟨by omega, by omega, .inl ⟨h.gd.doc, rfl⟩⟩
  · have hi : i < ns.length := (List.getElem?_eq_some_iff.1 h1).1
    rw [e]
    refine ⟨by omega, by omega, .inr ?_⟩
    rw [h.nod i n h1]
    exact ⟨h2, (h.pl n (List.mem_of_getElem? h1)).2⟩
theorem Reg.place {b : BSt} {ns : List Nd} (h : Reg b ns) {L' : List Nd} (hk : (nodeN L' (targB b)).kind ≠ 3 ∨ (nodeN L' (targB b)).name ≠ tmpl) : placeB { b with L := L' } (targB b) = (targB b, -1) := by
  have e1 : place1 { b with L := L' } (targB b) = (targB b, -1) := by
    unfold place1
    rw [if_neg (by rw [show ({ b with L := L' } : BSt).foster = false from h.fo]; simp)]
  unfold placeB
  rw [e1]
  rw [if_neg]
  rintro ⟨_, hh⟩
  unfold htmlN at hh
  simp only [List.any_cons, List.any_nil, Bool.or_false, Bool.and_eq_true, decide_eq_true_eq] at hh
  rcases hk with hk | hk
  · exact hk hh.1
  · exact hk hh.2.2
theorem gN_hang_new {L : List Nd} (h : Gd L) {n : Nd} (hp : n.parent = -1) (hk : n.kids = []) (h1 : n.kind ≠ 1) {p : Nat} (hpl : p < L.length) (t : Int) :
    gN (hangN (L ++ [n]) p (-1) L.length) t = if t = L.length then { n with parent := (p : Int) } else if t = p then { gN L t with kids := (gN L t).kids ++ [(L.length : Int)] } else gN L t := by
  have hg := h.push hp hk h1
  have hlen : (L ++ [n]).length = L.length + 1 := by simp
  rw [gN_hang hg (by omega) (by omega)]
  have hno : ∀ u : Int, (L.length : Int) ∉ (gN (L ++ [n]) u).kids := fun u hm => by
    have := (hg.kid u _).1 hm
    rw [gN_push, if_pos rfl, hp] at this
    omega
  rw [List.erase_of_not_mem (hno t), gN_push]
  by_cases e1 : t = (L.length : Int)
  · have e2 : ¬ t = (p : Int) := by omega
    simp only [if_pos e1, if_neg e2]
  · simp only [if_neg e1]
    by_cases e2 : t = (p : Int)
    · simp only [if_pos e2, addK]
      rw [if_pos (by decide)]
    · simp only [if_neg e2]
theorem Reg.ins {b : BSt} {ns : List Nd} (h : Reg b ns) (hs : b.s.length < 512) {n : Nd} (hk : n.kind = 3) (hn : n.name ≠ tmpl) :
    insertB b n = (insR b n, (b.L.length : Int)) ∧ Reg (insR b n) (ns ++ [bareN n]) ∧
    ∀ t, gN (insR b n).L t = if t = b.L.length then { bareN n with parent := targB b } else if t = targB b then { gN b.L t with kids := (gN b.L t).kids ++ [(b.L.length : Int)] } else gN b.L t := by
  obtain ⟨t0, t1, t2⟩ := h.t0
  have hl := h.len
  have hkk : kidK n.kind = true := by rw [hk]; rfl
  have hadd : addN b.L n = (b.L ++ [bareN n], (b.L.length : Int)) := addN_pl hkk hn
  have hbp : (bareN n).parent = -1 := rfl
  have hbk : (bareN n).kids = [] := rfl
  have hb1 : (bareN n).kind ≠ 1 := by rw [show (bareN n).kind = n.kind from rfl, hk]; decide
  have hgd := h.gd.push hbp hbk hb1
  have hlen : (b.L ++ [bareN n]).length = b.L.length + 1 := by simp
  obtain ⟨p, hp⟩ : ∃ p : Nat, targB b = p := ⟨(targB b).toNat, by omega⟩
  have hpl : p < b.L.length := by omega
  have hG : ∀ t, gN (insR b n).L t = if t = b.L.length then { bareN n with parent := targB b } else if t = targB b then { gN b.L t with kids := (gN b.L t).kids ++ [(b.L.length : Int)] } else gN b.L t := fun t => by
    unfold insR
    dsimp only
    rw [hp, Int.toNat_natCast]
    exact gN_hang_new h.gd hbp hbk hb1 hpl t
  have hpt : gN (b.L ++ [bareN n]) p = gN b.L p := by rw [gN_push, if_neg (by omega)]
  have hnp : nodeN (b.L ++ [bareN n]) p = gN b.L p := by rw [nodeN_gN (by omega), hpt]
  have happ : appendN (b.L ++ [bareN n]) p b.L.length = (hangN (b.L ++ [bareN n]) p (-1) b.L.length, 0) := by
    unfold appendN
    have c1 : holdsN (b.L ++ [bareN n]) p = true := by
      unfold holdsN
      have := nd?_isSome (b.L ++ [bareN n]) p
      rw [decide_eq_true (by omega)] at this
      obtain ⟨x, hx⟩ := Option.isSome_iff_exists.1 this
      rw [hx]
      have e := gN_of hx
      rw [hpt] at e
      rw [hp] at t2
      rw [← e]
      rcases t2 with t2 | t2
      · show holdK (gN b.L p).kind = true
        rw [t2.1]; rfl
      · show holdK (gN b.L p).kind = true
        rw [t2.1]; rfl
    have c2 : hangsN (b.L ++ [bareN n]) b.L.length = true := by
      unfold hangsN
      rw [nd?_nat, List.getElem?_append_right (Nat.le_refl _), Nat.sub_self]
      exact hkk
    have c3 : aboveN (b.L ++ [bareN n]) b.L.length p = false := by
      unfold aboveN
      exact aboveF_new h.gd _ _ _ (by omega)
    rw [if_pos ⟨c1, c2, c3⟩, Int.toNat_natCast, Int.toNat_natCast]
  have hhung : hungB b n = { b with L := hangN (b.L ++ [bareN n]) p (-1) b.L.length } := by
    unfold hungB
    rw [hadd]
    have ht : targB (addB b n) = targB b := rfl
    have ea : addB b n = { b with L := b.L ++ [bareN n] } := by unfold addB; rw [hadd]
    have hpl' : placeB (addB b n) (targB (addB b n)) = (targB b, -1) := by
      rw [ht, ea]
      refine h.place ?_
      rw [hp, hnp]
      rw [hp] at t2
      rcases t2 with t2 | t2
      · left; rw [t2.1]; decide
      · exact .inr t2.2
    unfold putB
    rw [hpl', if_neg (show ¬ (0 : Int) ≤ -1 by decide)]
    dsimp only
    rw [hp, ea]
    dsimp only
    rw [happ]
  have hgi : gN (insR b n).L b.L.length = { bareN n with parent := targB b } := by rw [hG, if_pos rfl]
  have hil : (insR b n).L.length = b.L.length + 1 := by unfold insR; dsimp only; rw [hangN_len, hlen]
  have hgdR : Gd (insR b n).L := by
    have := Go.Proofs.YtgnnlaeikcnhcaaGreatDoor.append_gd hgd (p : Int) (b.L.length : Int)
    rw [happ] at this
    unfold insR
    dsimp only
    rw [hp, Int.toNat_natCast]
    exact this
  refine ⟨?_, ⟨hgdR, ?_, ?_, ?_, ?_, h.fo⟩, hG⟩
  · unfold insertB
    rw [if_neg (by omega), hadd]
    dsimp only
    rw [hhung]
    have hop : opN (hangN (b.L ++ [bareN n]) p (-1) b.L.length) b.L.length = ⟨(b.L.length : Int), n.space, n.name⟩ := by
      have e : nodeN (insR b n).L b.L.length = { bareN n with parent := targB b } := by rw [nodeN_gN (by omega), hgi]
      unfold insR at e
      dsimp only at e
      rw [hp, Int.toNat_natCast] at e
      unfold opN
      unfold nodeN at e
      rw [e]; rfl
    have hk3 : ((nd? (hangN (b.L ++ [bareN n]) p (-1) b.L.length) b.L.length).getD zN).kind = 3 := by
      have e : nodeN (insR b n).L b.L.length = { bareN n with parent := targB b } := by rw [nodeN_gN (by omega), hgi]
      unfold insR at e
      dsimp only at e
      rw [hp, Int.toNat_natCast] at e
      unfold nodeN at e
      rw [e]; exact hk
    have hpush : pushB { b with L := hangN (b.L ++ [bareN n]) p (-1) b.L.length } b.L.length = (insR b n, 0) := by
      unfold pushB insS
      dsimp only
      rw [if_pos hk3, if_pos ⟨by omega, Int.le_refl _⟩, if_neg (by omega), hop, Int.toNat_natCast, List.take_length, List.drop_length]
      unfold insR
      rw [hp, Int.toNat_natCast]
    rw [hpush]
    unfold failB
    rw [if_neg (fun h => h.2 rfl)]
  · rw [hil, hl]; simp
  · intro i x hx
    rw [List.getElem?_append] at hx
    split at hx
    · rename_i hi
      have hi' : ¬ (i : Int) + 1 = (b.L.length : Int) := by omega
      have := h.nod i x hx
      rw [hG, if_neg hi']
      split
      · rw [this]
      · rw [this]
    · rename_i hi
      have e0 : i - ns.length = 0 := by
        have := (List.getElem?_eq_some_iff.1 hx).1
        simp at this; omega
      rw [e0] at hx
      obtain rfl : bareN n = x := by simpa using hx
      have hi' : (i : Int) + 1 = (b.L.length : Int) := by omega
      rw [hG, if_pos hi']
  · intro x hx
    simp only [List.mem_append, List.mem_cons, List.not_mem_nil, or_false] at hx
    rcases hx with hx | rfl
    · exact h.pl x hx
    · exact ⟨hkk, hn⟩
  · intro o ho
    unfold insR at ho
    simp only [List.mem_append, List.mem_cons, List.not_mem_nil, or_false] at ho
    rcases ho with ho | rfl
    · obtain ⟨i, x, h1, h2, h3⟩ := h.stk o ho
      exact ⟨i, x, by rw [List.getElem?_append_left (List.getElem?_eq_some_iff.1 h1).1]; exact h1, h2, h3⟩
    · refine ⟨ns.length, bareN n, by simp, hk, ?_⟩
      have : (b.L.length : Int) = (ns.length : Int) + 1 := by omega
      rw [this]; rfl
theorem Reg.mode {b : BSt} {ns : List Nd} (h : Reg b ns) (m : Int) : Reg { b with mode := m } ns := ⟨h.gd, h.len, h.nod, h.pl, h.stk, h.fo⟩
theorem insR_att {b : BSt} {n : Nd} (h : Att b.L) (hn : n.attrs.length < 1000000) : Att (insR b n).L := by
  unfold insR
  dsimp only
  refine att_hang (fun x hx => ?_) _ _ _
  simp only [List.mem_append, List.mem_cons, List.not_mem_nil, or_false] at hx
  rcases hx with hx | rfl
  · exact h x hx
  · exact hn
end Go.Vk
end
section
set_option linter.unusedSimpArgs false
set_option linter.unusedVariables false
namespace Go.Vk
open Go
def deepN (nm : ByteArray) : Nd := elTok (tokI nm) 0
structure Deep (nm : ByteArray) (k : Nat) (b : BSt) : Prop where
  reg : Reg b (List.replicate k (bareN (deepN nm)))
  s : b.s.length = k
  err : b.err = none
  at_ : Att b.L
  l : b.l = []
theorem Deep.ok {nm : ByteArray} {k : Nat} {b : BSt} (h : Deep nm k b) (hk : k ≤ 512) : okB b ∧ b.L.length = k + 1 := by
  have := h.reg.len
  rw [List.length_replicate] at this
  exact ⟨⟨by omega, h.at_, by rw [h.s]; omega, by rw [h.l]; decide⟩, this⟩
theorem Deep.step {nm : ByteArray} {k : Nat} {b : BSt} (h : Deep nm k b) (hk : k < 512) (hn : nm ≠ tmpl) : (implyB b nm).2 = (k : Int) + 1 ∧ Deep nm (k + 1) (implyB b nm).1 := by
  obtain ⟨e, r, _⟩ := h.reg.ins (n := deepN nm) (by rw [h.s]; exact hk) rfl hn
  have hl := (h.ok (by omega)).2
  have e' : implyB b nm = (insR b (deepN nm), (b.L.length : Int)) := e
  rw [e']
  refine ⟨by dsimp only; omega, ⟨?_, ?_, h.err, insR_att h.at_ (show (0 : Nat) < 1000000 by decide), h.l⟩⟩
  · rw [List.replicate_succ']; exact r
  · show (b.s ++ [_]).length = _
    simp [h.s]
end Go.Vk
end
section
set_option linter.unusedSimpArgs false
set_option linter.unusedVariables false
namespace Go.Vk
open Go
def rsNames : List ByteArray := [⟨#[100, 105, 118]⟩, ⟨#[112]⟩, ⟨#[116, 100]⟩, ⟨#[116, 104]⟩, ⟨#[116, 114]⟩, ⟨#[116, 98, 111, 100, 121]⟩, ⟨#[116, 104, 101, 97, 100]⟩, ⟨#[116, 102, 111, 111, 116]⟩, ⟨#[99, 97, 112, 116, 105, 111, 110]⟩, ⟨#[99, 111, 108, 103, 114, 111, 117, 112]⟩, ⟨#[116, 97, 98, 108, 101]⟩, ⟨#[104, 101, 97, 100]⟩, ⟨#[98, 111, 100, 121]⟩, ⟨#[115, 118, 103]⟩]
def rsName (k : Nat) : ByteArray := rsNames.getD k ⟨#[]⟩
def rsSp (k : Nat) : Int := if k = 13 then 1 else 0
def rsTok (k : Nat) : HTok := ⟨2, rsName k, ⟨#[]⟩, [], false, false, false, 0, 0⟩
def rsNd (k : Nat) : Nd := elTok (rsTok k) (rsSp k)
def rsHtml : Nd := bareN (elTok (tokI sHtml) 0)
structure Rsv (ks : List Nat) (b : BSt) : Prop where
  reg : Reg b (rsHtml :: ks.map fun k => bareN (rsNd k))
  s : b.s = (List.range (ks.length + 1)).map fun j => ⟨(j : Int) + 1, ((rsHtml :: ks.map fun k => bareN (rsNd k)).getD j zN).space, ((rsHtml :: ks.map fun k => bareN (rsNd k)).getD j zN).name⟩
  head : b.head = -1
  modes : b.modes = []
  at_ : Att b.L
  l : b.l = []
  doc : (gN b.L 0).name.size < 4294967281
theorem rs_nt (k : Nat) (hk : k < 14) : rsName k ≠ tmpl ∧ (rsName k).size < 20 := by
  have : ∀ k, k < 14 → rsName k ≠ tmpl ∧ (rsName k).size < 20 := by decide +kernel
  exact this k hk
theorem Rsv.ins {ks : List Nat} {b : BSt} (h : Rsv ks b) {k : Nat} (hk : k < 14) (hl : ks.length < 100) : Rsv (ks ++ [k]) (insertB b (rsNd k)).1 ∧ (insertB b (rsNd k)).2 = (ks.length : Int) + 2 := by
  have hlen := h.reg.len
  rw [List.length_cons, List.length_map] at hlen
  have hsl : b.s.length = ks.length + 1 := by rw [h.s]; simp
  obtain ⟨e, r, hG⟩ := h.reg.ins (n := rsNd k) (by omega) rfl (rs_nt k hk).1
  rw [e]
  refine ⟨⟨?_, ?_, h.head, h.modes, insR_att h.at_ (by exact (by decide : (0 : Nat) < 1000000)), h.l, ?_⟩, by dsimp only; omega⟩
  · have : (rsHtml :: List.map (fun k => bareN (rsNd k)) (ks ++ [k])) = (rsHtml :: List.map (fun k => bareN (rsNd k)) ks) ++ [bareN (rsNd k)] := by simp
    rw [this]; exact r
  · show b.s ++ [_] = _
    have e2 : (rsHtml :: List.map (fun k => bareN (rsNd k)) (ks ++ [k])) = (rsHtml :: List.map (fun k => bareN (rsNd k)) ks) ++ [bareN (rsNd k)] := by simp
    rw [e2, List.length_append, List.length_singleton, List.range_succ, List.map_append, h.s]
    congr 1
    · apply List.map_congr_left
      intro j hj
      rw [List.mem_range] at hj
      rw [List.getD_eq_getElem?_getD, List.getD_eq_getElem?_getD, List.getElem?_append_left (by simp; omega)]
    · have e3 : ((rsHtml :: List.map (fun k => bareN (rsNd k)) ks) ++ [bareN (rsNd k)]).getD (ks.length + 1) zN = bareN (rsNd k) := by
        rw [List.getD_eq_getElem?_getD, List.getElem?_append_right (by simp)]; simp
      rw [List.map_singleton, e3]
      have : (b.L.length : Int) = ((ks.length + 1 : Nat) : Int) + 1 := by omega
      rw [this]; rfl
  · have h0 := hG 0
    rw [if_neg (by omega)] at h0
    show (gN (insR b (rsNd k)).L 0).name.size < _
    rw [h0]
    split
    · exact h.doc
    · exact h.doc
end Go.Vk
end
