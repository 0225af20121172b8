/- What the proof leans on, part 10 of 11. -/
import Derived.Test.YtgnnlaeikcnhcaaGreatDoorQAdoptPlainI
section
set_option linter.unusedSimpArgs false
set_option linter.unusedVariables false
namespace Go.Vk
open Go Go.Proofs.YtgnnlaeikcnhcaaGreatDoor
/-- what a builder must be for an element to end in it -/
structure AdOk (b : BSt) : Prop where
  ok : okB b
  L : b.L.length + 2 * b.s.length + 6 < 90000
  s : b.s.length + 2 < 10000
  l : b.l.length + 2 < 10000
  nm : Nms b.L
  sn : ∀ o ∈ b.s, o.name.size < 4294967281
theorem furN_at (b : BSt) : ∀ (n k : Nat), 0 ≤ furN b n k → ∃ j, k ≤ j ∧ j < k + n ∧ (b.s.getD j zS).node = furN b n k
  | 0, k, h => by rw [furN] at h; omega
  | n + 1, k, h => by
    rw [furN] at h ⊢
    split
    · exact ⟨k, Nat.le_refl _, by omega, rfl⟩
    · rename_i hn
      rw [if_neg hn] at h
      obtain ⟨j, h1, h2, h3⟩ := furN_at b n (k + 1) h
      exact ⟨j, by omega, by omega, h3⟩
theorem lastB_is {p : Nat → Bool} : ∀ {k : Nat}, 0 ≤ lastB p k → p (lastB p k).toNat = true ∧ (lastB p k).toNat < k
  | 0, h => by simp [lastB] at h
  | k + 1, h => by
    rw [lastB] at h ⊢
    split
    · rename_i hp
      exact ⟨by simpa using hp, by omega⟩
    · rename_i hp
      rw [if_neg hp] at h
      obtain ⟨h1, h2⟩ := lastB_is h
      exact ⟨h1, by omega⟩
theorem indexS_is {s : List OpS} {i : Int} (h : 0 ≤ indexS s i) : (s.getD (indexS s i).toNat zS).node = i ∧ (indexS s i).toNat < s.length := by
  unfold indexS at h ⊢
  obtain ⟨h1, h2⟩ := lastB_is h
  exact ⟨of_decide_eq_true h1, h2⟩
theorem inwN_I {fmt blk : Int} {f : Nat} : ∀ (k : Nat) (many : Int) (r : IR), InwI fmt f k r → ∃ k', InwI fmt f k' (inwN fmt blk k many r)
  | 0, _, r, h => ⟨0, h⟩
  | k + 1, many, r, h => by
    rw [inwN]
    split
    · exact ⟨k + 1, h⟩
    · rename_i hx
      exact inwN_I k (many + 1) _ (h.step hx)
theorem inwN_le {fmt blk : Int} : ∀ (k : Nat) (many : Int) (r : IR), (inwN fmt blk k many r).b.s.length ≤ r.b.s.length ∧ (inwN fmt blk k many r).b.l.length ≤ r.b.l.length ∧ (inwN fmt blk k many r).b.L.length ≤ r.b.L.length + 2 * k
  | 0, _, r => ⟨Nat.le_refl _, Nat.le_refl _, Nat.le_refl _⟩
  | k + 1, many, r => by
    rw [inwN]
    split
    · exact ⟨Nat.le_refl _, Nat.le_refl _, by omega⟩
    · obtain ⟨h1, h2, h3⟩ := inwN_le (fmt := fmt) (blk := blk) k (many + 1) (inwStep blk k many r)
      have : (inwStep blk k many r).b.s.length ≤ r.b.s.length ∧ (inwStep blk k many r).b.l.length ≤ r.b.l.length ∧ (inwStep blk k many r).b.L.length ≤ r.b.L.length + 2 := by
        have ho : (inwOut many (r.b.s.getD k zS).node r).b.s = r.b.s ∧ (inwOut many (r.b.s.getD k zS).node r).b.L = r.b.L ∧ (inwOut many (r.b.s.getD k zS).node r).b.l.length ≤ r.b.l.length := by
          unfold inwOut
          split
          · exact ⟨rfl, rfl, removeN_len _ _⟩
          · exact ⟨rfl, rfl, Nat.le_refl _⟩
        unfold inwStep
        split
        · exact ⟨remS_le _ _, ho.2.2, by dsimp only; rw [ho.2.1]; omega⟩
        · generalize inwOut many (r.b.s.getD k zS).node r = r2 at *
          unfold inwNew
          refine ⟨?_, ?_, ?_⟩
          · show (replS _ r2.b.s _ _).1.length ≤ _
            rw [(replS_low).2, ho.1]
            exact Nat.le_refl _
          · show (replN _ r2.b.l _ _).1.length ≤ _
            rw [replN_len]
            exact ho.2.2
          · show (appendN _ _ _).1.length ≤ _
            rw [len_append]
            have := freshB_len r2.b (r.b.s.getD k zS).node
            rw [ho.2.1] at this
            exact this
      exact ⟨by omega, by omega, by omega⟩
/-- so it goes on, as often as may be -/
def runOk (name : ByteArray) : Nat → BSt → Prop
  | 0, _ => True
  | n + 1, b => AdOk b ∧ ((onceB b name).2.2 = true → (onceB b name).2.1 = true → runOk name n (onceB b name).1)
end Go.Vk
namespace Go.Proofs.YtgnnlaeikcnhcaaGreatDoor
open Go Go.Vk
theorem unRu : Tryz.prog.underlying 178 = some (.struct (fsOf Tryz.prog 178)) := by rw [fsOf, Tryz.underlying178]
theorem plRu (w : World) : ((fsOf Tryz.prog 178).mapM plOf).run Tryz.prog w = .ok #[(0,1),(1,1),(2,1),(3,1),(4,1)] w := by
  simp [fsOf, plOf, Tryz.underlying178, Sem.run, Tryz.sizeOf3, Tryz.sizeOf25]
set_option maxHeartbeats 40000000
section
variable {w0 w : World} {Q : Nat → Prop} {pb ps pl pa : Nat} {b : BSt}
set_option maxHeartbeats 1000000 in
theorem once_c (h : BuAt w0 w Q pb ps pl pa b) (hA : AdOk b) (hg : GL w0) (hQl : ∀ q, Q q → q < w.heap.size) (x : ByteArray) :
    Gives Tryz.prog 118 #[.pointer (some ⟨pb, 0, none⟩), .string x] w fun v w' => v = .tuple #[.bool (onceB b x).2.1, .bool (onceB b x).2.2] ∧ BuAt w0 w' Q pb ps pl pa (onceB b x).1 ∧ Upd (AF w0 Q) w w' := by
  have hb := hA.ok
  have hLb := hA.L
  have hsb := hA.s
  have hlb := hA.l
  obtain ⟨R, hR⟩ : ∃ R, R = onceB b x := ⟨_, rfl⟩
  rw [← hR]
  unfold onceB at hR
  obtain ⟨fmt, hfm⟩ : ∃ f, f = lastName b.L b.l x := ⟨_, rfl⟩
  rw [← hfm] at hR
  dsimp only at hR
  refine Gives.of_W Tryz.call118 Tryz.func118 rfl Tryz.ntmps118 (by simp) ?_; intro Z hZ
  (repeat (first | (with_reducible first | (refine hK _ _ ?_; clear hK K) | refine (show ∀ σ' w', _ → K σ' w' from by assumption) _ _ ?_ | refine W_seq_k fun K hK => ?_ | refine W_block_k fun K hK => ?_ | refine W_skip ?_ | refine W_ret ?_) | ((first | ((with_reducible refine W_id ?_); refine W_reg (by decide) (by rfl) ?_) | (with_reducible first | refine W_cond ?_ | refine hZ _ _ ?_ | refine W_exit ?_ | refine Wo_id ?_) | skip); repeat1' simp only [push_cast, seval, -Nat.reduceSubDiff]) | ((repeat ((fail_if_success with_reducible refine hK _ _ ?_); clear hK K)); (with_reducible refine hK _ _ ?_); clear hK K)))
  refine (bstack_c h).mono ?_
  intro v w' ⟨hv, hw⟩
  subst hv; subst w'
  (repeat (first | (with_reducible first | (refine hK _ _ ?_; clear hK K) | refine (show ∀ σ' w', _ → K σ' w' from by assumption) _ _ ?_ | refine W_seq_k fun K hK => ?_ | refine W_block_k fun K hK => ?_ | refine W_skip ?_ | refine W_ret ?_) | ((first | ((with_reducible refine W_id ?_); refine W_reg (by decide) (by rfl) ?_) | (with_reducible first | refine W_cond ?_ | refine hZ _ _ ?_ | refine W_exit ?_ | refine Wo_id ?_) | skip); repeat1' simp only [push_cast, seval, -Nat.reduceSubDiff]) | ((repeat ((fail_if_success with_reducible refine hK _ _ ?_); clear hK K)); (with_reducible refine hK _ _ ?_); clear hK K)))
  refine (bforms_c h).mono ?_
  intro v w' ⟨hv, hw⟩
  subst hv; subst w'
  (repeat (first | (with_reducible first | (refine hK _ _ ?_; clear hK K) | refine (show ∀ σ' w', _ → K σ' w' from by assumption) _ _ ?_ | refine W_seq_k fun K hK => ?_ | refine W_block_k fun K hK => ?_ | refine W_skip ?_ | refine W_ret ?_) | ((first | ((with_reducible refine W_id ?_); refine W_reg (by decide) (by rfl) ?_) | (with_reducible first | refine W_cond ?_ | refine hZ _ _ ?_ | refine W_exit ?_ | refine Wo_id ?_) | skip); repeat1' simp only [push_cast, seval, -Nat.reduceSubDiff]) | ((repeat ((fail_if_success with_reducible refine hK _ _ ?_); clear hK K)); (with_reducible refine hK _ _ ?_); clear hK K)))
  refine (bflast_c h hb x).mono ?_
  rintro v w1 ⟨rfl, hx1⟩
  have h1 := h.pass hx1
  have hs1 := hx1.sz
  rw [← hfm]
  by_cases hf0 : fmt < 0
  · rw [if_pos hf0] at hR
    subst hR
    (repeat (first | (with_reducible first | (refine hK _ _ ?_; clear hK K) | refine (show ∀ σ' w', _ → K σ' w' from by assumption) _ _ ?_ | refine W_seq_k fun K hK => ?_ | refine W_block_k fun K hK => ?_ | refine W_skip ?_ | refine W_ret ?_) | ((first | ((with_reducible refine W_id ?_); refine W_reg (by decide) (by rfl) ?_) | (with_reducible first | refine W_cond ?_ | refine hZ _ _ ?_ | refine W_exit ?_ | refine Wo_id ?_) | skip); repeat1' simp only [push_cast, seval, -Nat.reduceSubDiff, hf0]) | ((repeat ((fail_if_success with_reducible refine hK _ _ ?_); clear hK K)); (with_reducible refine hK _ _ ?_); clear hK K)))
    exact ⟨h1, hx1.upd⟩
  rw [if_neg hf0] at hR
  (repeat (first | (with_reducible first | (refine hK _ _ ?_; clear hK K) | refine (show ∀ σ' w', _ → K σ' w' from by assumption) _ _ ?_ | refine W_seq_k fun K hK => ?_ | refine W_block_k fun K hK => ?_ | refine W_skip ?_ | refine W_ret ?_) | ((first | ((with_reducible refine W_id ?_); refine W_reg (by decide) (by rfl) ?_) | (with_reducible first | refine W_cond ?_ | refine hZ _ _ ?_ | refine W_exit ?_ | refine Wo_id ?_) | skip); repeat1' simp only [push_cast, seval, -Nat.reduceSubDiff, hf0]) | ((repeat ((fail_if_success with_reducible refine hK _ _ ?_); clear hK K)); (with_reducible refine hK _ _ ?_); clear hK K)))
  refine (bindex_c h1 hb fmt).mono ?_
  rintro v w2 ⟨rfl, rfl⟩
  obtain ⟨at_, hat⟩ : ∃ a, a = indexS b.s fmt := ⟨_, rfl⟩
  rw [← hat] at hR ⊢
  by_cases ha0 : at_ < 0
  · rw [if_pos ha0] at hR
    subst hR
    (repeat (first | (with_reducible first | (refine hK _ _ ?_; clear hK K) | refine (show ∀ σ' w', _ → K σ' w' from by assumption) _ _ ?_ | refine W_seq_k fun K hK => ?_ | refine W_block_k fun K hK => ?_ | refine W_skip ?_ | refine W_ret ?_) | ((first | ((with_reducible refine W_id ?_); refine W_reg (by decide) (by rfl) ?_) | (with_reducible first | refine W_cond ?_ | refine hZ _ _ ?_ | refine W_exit ?_ | refine Wo_id ?_) | skip); repeat1' simp only [push_cast, seval, -Nat.reduceSubDiff, ha0]) | ((repeat ((fail_if_success with_reducible refine hK _ _ ?_); clear hK K)); (with_reducible refine hK _ _ ?_); clear hK K)))
    refine (bfrem_c h1 hb fmt).mono ?_
    rintro v w3 ⟨rfl, h3, hu3⟩
    (repeat (first | (with_reducible first | (refine hK _ _ ?_; clear hK K) | refine (show ∀ σ' w', _ → K σ' w' from by assumption) _ _ ?_ | refine W_seq_k fun K hK => ?_ | refine W_block_k fun K hK => ?_ | refine W_skip ?_ | refine W_ret ?_) | ((first | ((with_reducible refine W_id ?_); refine W_reg (by decide) (by rfl) ?_) | (with_reducible first | refine W_cond ?_ | refine hZ _ _ ?_ | refine W_exit ?_ | refine Wo_id ?_) | skip); repeat1' simp only [push_cast, seval, -Nat.reduceSubDiff]) | ((repeat ((fail_if_success with_reducible refine hK _ _ ?_); clear hK K)); (with_reducible refine hK _ _ ?_); clear hK K)))
    exact ⟨h3, Upd.trans hx1.upd hu3 fun _ _ h => h⟩
  rw [if_neg ha0] at hR
  have hrng := indexS_rng b.s fmt
  rw [← hat] at hrng
  obtain ⟨f, hf⟩ : ∃ f : Nat, at_ = f := ⟨at_.toNat, by omega⟩
  have hfl : f < b.s.length := by omega
  (repeat (first | (with_reducible first | (refine hK _ _ ?_; clear hK K) | refine (show ∀ σ' w', _ → K σ' w' from by assumption) _ _ ?_ | refine W_seq_k fun K hK => ?_ | refine W_block_k fun K hK => ?_ | refine W_skip ?_ | refine W_ret ?_) | ((first | ((with_reducible refine W_id ?_); refine W_reg (by decide) (by rfl) ?_) | (with_reducible first | refine W_cond ?_ | refine hZ _ _ ?_ | refine W_exit ?_ | refine Wo_id ?_) | skip); repeat1' simp only [push_cast, seval, -Nat.reduceSubDiff, ha0]) | ((repeat ((fail_if_success with_reducible refine hK _ _ ?_); clear hK K)); (with_reducible refine hK _ _ ?_); clear hK K)))
  refine (bhasn_c h1 hb hg hA.sn 0 fmt).mono ?_
  rintro v w3 ⟨rfl, hx3⟩
  have h3 := h1.pass hx3
  have hx13 := hx1.trans hx3
  have hs3 := hx13.sz
  rw [show ((scp (scE 0) b.s b.s.length).any fun o => decide (o.node = fmt)) = scopeB b fmt from rfl]
  cases hsc : scopeB b fmt with
  | false =>
    rw [hsc, if_pos rfl] at hR
    subst hR
    (repeat (first | (with_reducible first | (refine hK _ _ ?_; clear hK K) | refine (show ∀ σ' w', _ → K σ' w' from by assumption) _ _ ?_ | refine W_seq_k fun K hK => ?_ | refine W_block_k fun K hK => ?_ | refine W_skip ?_ | refine W_ret ?_) | ((first | ((with_reducible refine W_id ?_); refine W_reg (by decide) (by rfl) ?_) | (with_reducible first | refine W_cond ?_ | refine hZ _ _ ?_ | refine W_exit ?_ | refine Wo_id ?_) | skip); repeat1' simp only [push_cast, seval, -Nat.reduceSubDiff]) | ((repeat ((fail_if_success with_reducible refine hK _ _ ?_); clear hK K)); (with_reducible refine hK _ _ ?_); clear hK K)))
    exact ⟨h3, hx13.upd⟩
  | true =>
    rw [hsc, if_neg (by decide)] at hR
    rw [hf, Int.toNat_natCast] at hR
    rw [hf]
    (repeat (first | (with_reducible first | (refine hK _ _ ?_; clear hK K) | refine (show ∀ σ' w', _ → K σ' w' from by assumption) _ _ ?_ | refine W_seq_k fun K hK => ?_ | refine W_block_k fun K hK => ?_ | refine W_skip ?_ | refine W_ret ?_) | ((first | ((with_reducible refine W_id ?_); refine W_reg (by decide) (by rfl) ?_) | (with_reducible first | refine W_cond ?_ | refine hZ _ _ ?_ | refine W_exit ?_ | refine Wo_id ?_) | skip); repeat1' simp only [push_cast, seval, -Nat.reduceSubDiff]) | ((repeat ((fail_if_success with_reducible refine hK _ _ ?_); clear hK K)); (with_reducible refine hK _ _ ?_); clear hK K)))
    refine (furthest_c h3 hb hg.max hA.nm f hfl).mono ?_
    rintro v w4 ⟨rfl, hx4⟩
    have h4 := h3.pass hx4
    have hx14 := hx13.trans hx4
    have hs4 := hx14.sz
    obtain ⟨blk, hbk⟩ : ∃ k, k = furB b f := ⟨_, rfl⟩
    rw [← hbk] at hR ⊢
    by_cases hb0 : blk < 0
    · rw [if_pos hb0] at hR
      subst hR
      (repeat (first | (with_reducible first | (refine hK _ _ ?_; clear hK K) | refine (show ∀ σ' w', _ → K σ' w' from by assumption) _ _ ?_ | refine W_seq_k fun K hK => ?_ | refine W_block_k fun K hK => ?_ | refine W_skip ?_ | refine W_ret ?_) | ((first | ((with_reducible refine W_id ?_); refine W_reg (by decide) (by rfl) ?_) | (with_reducible first | refine W_cond ?_ | refine hZ _ _ ?_ | refine W_exit ?_ | refine Wo_id ?_) | skip); repeat1' simp only [push_cast, seval, -Nat.reduceSubDiff, hb0]) | ((repeat ((fail_if_success with_reducible refine hK _ _ ?_); clear hK K)); (with_reducible refine hK _ _ ?_); clear hK K)))
      refine (apop_c h4 hb f).mono ?_
      rintro v w5 ⟨h5, hu5⟩
      have hb5 : okB (toB b f) := ⟨hb.L, hb.at_, by show (b.s.take f).length < _; rw [List.length_take]; omega, hb.l⟩
      (repeat (first | (with_reducible first | (refine hK _ _ ?_; clear hK K) | refine (show ∀ σ' w', _ → K σ' w' from by assumption) _ _ ?_ | refine W_seq_k fun K hK => ?_ | refine W_block_k fun K hK => ?_ | refine W_skip ?_ | refine W_ret ?_) | ((first | ((with_reducible refine W_id ?_); refine W_reg (by decide) (by rfl) ?_) | (with_reducible first | refine W_cond ?_ | refine hZ _ _ ?_ | refine W_exit ?_ | refine Wo_id ?_) | skip); repeat1' simp only [push_cast, seval, -Nat.reduceSubDiff]) | ((repeat ((fail_if_success with_reducible refine hK _ _ ?_); clear hK K)); (with_reducible refine hK _ _ ?_); clear hK K)))
      refine (bfrem_c h5 hb5 fmt).mono ?_
      rintro v w6 ⟨rfl, h6, hu6⟩
      (repeat (first | (with_reducible first | (refine hK _ _ ?_; clear hK K) | refine (show ∀ σ' w', _ → K σ' w' from by assumption) _ _ ?_ | refine W_seq_k fun K hK => ?_ | refine W_block_k fun K hK => ?_ | refine W_skip ?_ | refine W_ret ?_) | ((first | ((with_reducible refine W_id ?_); refine W_reg (by decide) (by rfl) ?_) | (with_reducible first | refine W_cond ?_ | refine hZ _ _ ?_ | refine W_exit ?_ | refine Wo_id ?_) | skip); repeat1' simp only [push_cast, seval, -Nat.reduceSubDiff]) | ((repeat ((fail_if_success with_reducible refine hK _ _ ?_); clear hK K)); (with_reducible refine hK _ _ ?_); clear hK K)))
      exact ⟨h6, Upd.trans (Upd.trans hx14.upd hu5 fun _ _ h => h) hu6 fun _ _ h => h⟩
    rw [if_neg hb0] at hR
    have b1 : inI64 ((f : Int) - 1) := by unfold inI64; omega
    obtain ⟨ab, hab⟩ : ∃ a, a = atS b.s ((f : Int) - 1) := ⟨_, rfl⟩
    rw [← hab] at hR
    (repeat (first | (with_reducible first | (refine hK _ _ ?_; clear hK K) | refine (show ∀ σ' w', _ → K σ' w' from by assumption) _ _ ?_ | refine W_seq_k fun K hK => ?_ | refine W_block_k fun K hK => ?_ | refine W_skip ?_ | refine W_ret ?_) | ((first | ((with_reducible refine W_id ?_); refine W_reg (by decide) (by rfl) ?_) | (with_reducible first | refine W_cond ?_ | refine hZ _ _ ?_ | refine W_exit ?_ | refine Wo_id ?_) | skip); repeat1' simp only [push_cast, seval, -Nat.reduceSubDiff, hb0, b1]) | ((repeat ((fail_if_success with_reducible refine hK _ _ ?_); clear hK K)); (with_reducible refine hK _ _ ?_); clear hK K)))
    refine (bsat_c h4 _).mono ?_
    rintro v w5 ⟨rfl, rfl⟩
    rw [← hab]
    (repeat (first | (with_reducible first | (refine hK _ _ ?_; clear hK K) | refine (show ∀ σ' w', _ → K σ' w' from by assumption) _ _ ?_ | refine W_seq_k fun K hK => ?_ | refine W_block_k fun K hK => ?_ | refine W_skip ?_ | refine W_ret ?_) | ((first | ((with_reducible refine W_id ?_); refine W_reg (by decide) (by rfl) ?_) | (with_reducible first | refine W_cond ?_ | refine hZ _ _ ?_ | refine W_exit ?_ | refine Wo_id ?_) | skip); repeat1' simp only [push_cast, seval, -Nat.reduceSubDiff]) | ((repeat ((fail_if_success with_reducible refine hK _ _ ?_); clear hK K)); (with_reducible refine hK _ _ ?_); clear hK K)))
    refine (bfindex_c h4 hb fmt).mono ?_
    rintro v w6 ⟨rfl, hx6⟩
    have h6 := h4.pass hx6
    have hx16 := hx14.trans hx6
    have hs6 := hx16.sz
    obtain ⟨mark, hmk⟩ : ∃ m, m = indexN b.l fmt := ⟨_, rfl⟩
    have hmr := Go.Vk.indexN_rng b.l fmt
    rw [← hmk] at hmr ⊢
    have hm1 : -1 ≤ mark ∧ mark ≤ 20000 := by omega
    (repeat (first | (with_reducible first | (refine hK _ _ ?_; clear hK K) | refine (show ∀ σ' w', _ → K σ' w' from by assumption) _ _ ?_ | refine W_seq_k fun K hK => ?_ | refine W_block_k fun K hK => ?_ | refine W_skip ?_ | refine W_ret ?_) | ((first | ((with_reducible refine W_id ?_); refine W_reg (by decide) (by rfl) ?_) | (with_reducible first | refine W_cond ?_ | refine hZ _ _ ?_ | refine W_exit ?_ | refine Wo_id ?_) | skip); repeat1' simp only [push_cast, seval, -Nat.reduceSubDiff]) | ((repeat ((fail_if_success with_reducible refine hK _ _ ?_); clear hK K)); (with_reducible refine hK _ _ ?_); clear hK K)))
    refine build_struct Tryz.zeroValue178 unRu plRu (cs := runRow pb fmt blk ab mark) (by rfl) ?_
    have hx7 := Ext.alloc w6 (.cells (runRow pb fmt blk ab mark) 178)
    have hp7 : (w6.alloc (.cells (runRow pb fmt blk ab mark) 178)).heap[w6.heap.size]? = some (.cells (runRow pb fmt blk ab mark) 178 (0, 0)) := by rw [heap_alloc_h, if_pos rfl]
    (repeat simp only [push_cast, seval, -Nat.reduceSubDiff, vcells_agg])
    generalize w6.alloc (.cells (runRow pb fmt blk ab mark) 178) = w7 at *
    obtain ⟨pr, hpre⟩ : ∃ p, p = w6.heap.size := ⟨_, rfl⟩
    rw [← hpre] at hp7 ⊢
    have lp7 := blk_lt hp7
    have hs7 := hx7.sz
    have hout := h.out.alike.size
    have h7 : BuAt w0 w7 (fun q => Q q ∨ q = pr) pb ps pl pa b := h6.more hx7 fun q hq => by
      rcases hq with hq | hq
      · exact .inl hq
      · exact .inr ⟨by omega, by omega⟩
    have hQ7 : ∀ q, (Q q ∨ q = pr) → q < w7.heap.size := fun q hq => by
      rcases hq with hq | hq
      · have := hQl q hq; omega
      · omega
    have hpr0 : w0.heap.size ≤ pr := by omega
    -- where the block is
    obtain ⟨j, hj1, hj2, hj3⟩ := furN_at b (b.s.length - (f + 1)) (f + 1) (by show 0 ≤ furB b f; omega)
    have hj3 : (b.s.getD j zS).node = blk := hj3.trans hbk.symm
    have hjl : j < b.s.length := by omega
    have hixj := indexS_ge hjl hj3
    have hixr := indexS_rng b.s blk
    obtain ⟨k0, hk0⟩ : ∃ k0 : Nat, indexS b.s blk = k0 := ⟨(indexS b.s blk).toNat, by omega⟩
    have hfat := (indexS_is (s := b.s) (i := fmt) (by rw [← hat]; omega)).1
    rw [← hat, hf, Int.toNat_natCast] at hfat
    have hI : InwI fmt f (indexS b.s blk).toNat ⟨b, blk, mark⟩ := by
      rw [hk0, Int.toNat_natCast]
      exact ⟨hb, by omega, hfat, by show k0 ≤ b.s.length; omega, by show b.L.length + 2 * k0 + 2 < 90000; omega, hm1⟩
    obtain ⟨k', hI'⟩ := inwN_I (blk := blk) _ 1 _ hI
    obtain ⟨le1, le2, le3⟩ := inwN_le (fmt := fmt) (blk := blk) (indexS b.s blk).toNat 1 ⟨b, blk, mark⟩
    rw [hk0, Int.toNat_natCast] at hI' le1 le2 le3
    dsimp only at le1 le2 le3
    have hRi : inwR b fmt blk = inwN fmt blk k0 1 ⟨b, blk, mark⟩ := by unfold inwR; rw [hk0, Int.toNat_natCast, ← hmk]
    obtain ⟨r, hr⟩ : ∃ r, r = inwN fmt blk k0 1 ⟨b, blk, mark⟩ := ⟨_, rfl⟩
    rw [← hr] at hI' le1 le2 le3 hRi
    have hin := inward_c h7 hQ7 (pr := pr) (.inr rfl) hpr0 hp7 hI (by omega)
    rw [hk0, Int.toNat_natCast, ← hr] at hin
    have hxd := Ext.drew w7
    have hin : ∀ {w8 : World}, Ext w7 w8 → Gives Tryz.prog 166 #[.pointer (some ⟨pr, 0, none⟩)] w8 fun v w' => v = .int .i64 r.last ∧ BuAt w0 w' (fun q => Q q ∨ q = pr) pb ps pl pa r.b ∧ w'.heap[pr]? = some (.cells (runRow pb fmt blk ab r.mark) 178 (0, 0)) ∧ Upd (AFr w0 (fun q => Q q ∨ q = pr) pr) w8 w' := fun hx8 => by
      have := inward_c (h7.pass hx8) (fun q hq => by have := hQ7 q hq; have := hx8.sz; omega) (pr := pr) (.inr rfl) hpr0 (hx8.blk hp7) hI (by omega)
      rwa [hk0, Int.toNat_natCast, ← hr] at this
    (repeat (first | (with_reducible first | (refine hK _ _ ?_; clear hK K) | refine (show ∀ σ' w', _ → K σ' w' from by assumption) _ _ ?_ | refine W_seq_k fun K hK => ?_ | refine W_block_k fun K hK => ?_ | refine W_skip ?_ | refine W_ret ?_) | ((first | ((with_reducible refine W_id ?_); refine W_reg (by decide) (by rfl) ?_) | (with_reducible first | refine W_cond ?_ | refine hZ _ _ ?_ | refine W_exit ?_ | refine Wo_id ?_) | skip); repeat1' simp only [push_cast, seval, -Nat.reduceSubDiff]) | ((repeat ((fail_if_success with_reducible refine hK _ _ ?_); clear hK K)); (with_reducible refine hK _ _ ?_); clear hK K)))
    have putP : ∀ {w9 : World}, BuAt w0 w9 (fun q => Q q ∨ q = pr) pb ps pl pa r.b → Gives Tryz.prog 74 #[.pointer (some ⟨pb, 0, none⟩), .int .i64 r.last, .int .i64 ab] w9 fun _ w' => BuAt w0 w' (fun q => Q q ∨ q = pr) pb ps pl pa (putB r.b r.last ab) ∧ Upd (AF w0 fun q => Q q ∨ q = pr) w9 w' := fun h9 => bput_c h9 hI'.ok r.last ab
    have toR : ∀ {a c : World}, Upd (AF w0 fun q => Q q ∨ q = pr) a c → Upd (AFr w0 (fun q => Q q ∨ q = pr) pr) a c := fun h => h.mono fun q _ hf => .inl hf
    have kp : ∀ {w1 w2 : World}, Upd (AF w0 fun q => Q q ∨ q = pr) w1 w2 → ∀ {o : Obj}, w1.heap[pr]? = some o → w2.heap[pr]? = some o := fun hu _ ho => (hu.same pr (blk_lt ho) fun hf => hf.2 (.inr rfl)).trans ho
    obtain ⟨b2, hb2⟩ : ∃ b2, b2 = putB r.b r.last ab := ⟨_, rfl⟩
    rw [← hb2] at putP
    have hok2 : okB b2 := hb2 ▸ hI'.ok.put _ _
    obtain ⟨es2, el2⟩ := putB_s r.b r.last ab
    rw [← hb2] at es2 el2
    have eL2 : b2.L.length = r.b.L.length := by rw [hb2]; unfold putB; split <;> simp [len_before, len_append]
    have hmr2 := hI'.m
    have hend : ∀ {w9 : World}, BuAt w0 w9 (fun q => Q q ∨ q = pr) pb ps pl pa b2 → w7.heap.size ≤ w9.heap.size → w9.heap[pr]? = some (.cells (runRow pb fmt blk ab r.mark) 178 (0, 0)) → Gives Tryz.prog 167 #[.pointer (some ⟨pr, 0, none⟩)] w9 fun _ w' => BuAt w0 w' (fun q => Q q ∨ q = pr) pb ps pl pa (renewB b2 fmt blk r.mark) ∧ Upd (AFr w0 (fun q => Q q ∨ q = pr) pr) w9 w' := fun h9 hs9 hp9 =>
      renew_c h9 hok2 (by omega) (by rw [es2]; omega) (by rw [el2]; omega) hmr2 (fun q hq => by have := hQ7 q hq; omega) (.inr rfl) hpr0 hp9
    have hRR : onceR b fmt blk ab = renewB b2 fmt blk r.mark := by unfold onceR; rw [hRi, hb2]
    rw [hRR] at hR
    subst hR
    have fin : ∀ {a : World}, Upd (AFr w0 (fun q => Q q ∨ q = pr) pr) w7 a → Upd (AF w0 Q) w a := fun hu => Upd.trans (hx16.trans hx7).upd hu fun q hq hf => by
      rcases hf with hf | hf
      · exact ⟨hf.1, fun hq => hf.2 (.inl hq)⟩
      · omega
    have lessQ : ∀ {a : World} {c : BSt}, BuAt w0 a (fun q => Q q ∨ q = pr) pb ps pl pa c → BuAt w0 a Q pb ps pl pa c := fun h => h.less fun q hq => .inl hq
    refine W_draw (.pas 0 (.pas 1 (.pas 3 (.pas 4 (.pas 5 (.two 2 (.act 6 (.act 7 .fin)) 6 (.act 2 (.act 7 .fin)))))))) (fun _ => False) (by decide) mixed (by kernel_rfl) ?_
    generalize w7.drew = wd at *
    have hpd := hxd.blk hp7
    unfold runRow at hpd
    (repeat (first | ((first | refine pas_plain rfl ?_ | refine pas_g rfl rfl ?_ | refine act_plain rfl ?_ | refine act_g rfl rfl ?_ | refine last_plain rfl ?_ | refine tail_plain rfl ?_ | refine tail_g rfl rfl ?_); (repeat simp only [push_cast, seval, -Nat.reduceSubDiff, eq_self])) | (refine tail_fin ?_) | (refine sch_fin ?_)))
    refine two_mk ?_ ?_
    · (repeat (first | ((first | refine pas_plain rfl ?_ | refine pas_g rfl rfl ?_ | refine act_plain rfl ?_ | refine act_g rfl rfl ?_ | refine last_plain rfl ?_ | refine tail_plain rfl ?_ | refine tail_g rfl rfl ?_); (repeat simp only [push_cast, seval, -Nat.reduceSubDiff, eq_self])) | (refine tail_fin ?_) | (refine sch_fin ?_)))
      refine (hin hxd).mono ?_
      rintro v w8 ⟨rfl, h8, hp8, hu8⟩
      refine ⟨fun q hq => hq.elim, ?_⟩
      have hs8 := hu8.alike.size
      have hsd := hxd.sz
      unfold runRow at hp8
      (repeat (first | ((first | refine pas_plain rfl ?_ | refine pas_g rfl rfl ?_ | refine act_plain rfl ?_ | refine act_g rfl rfl ?_ | refine last_plain rfl ?_ | refine tail_plain rfl ?_ | refine tail_g rfl rfl ?_); (repeat simp only [push_cast, seval, -Nat.reduceSubDiff, eq_self, cell_h, cellO_cells, hp8])) | (refine tail_fin ?_) | (refine sch_fin ?_)))
      refine ⟨fun q hq => hq.elim, ?_⟩
      (repeat (first | ((first | refine pas_plain rfl ?_ | refine pas_g rfl rfl ?_ | refine act_plain rfl ?_ | refine act_g rfl rfl ?_ | refine last_plain rfl ?_ | refine tail_plain rfl ?_ | refine tail_g rfl rfl ?_); (repeat simp only [push_cast, seval, -Nat.reduceSubDiff, eq_self, cell_h, cellO_cells, hp8])) | (refine tail_fin ?_) | (refine sch_fin ?_)))
      refine (putP h8).mono ?_
      rintro v w9 ⟨h9, hu9⟩
      have hp9 := kp hu9 hp8
      have hs9 := hu9.alike.size
      refine ⟨fun q hq => hq.elim, ?_⟩
      (repeat (first | ((first | refine pas_plain rfl ?_ | refine pas_g rfl rfl ?_ | refine act_plain rfl ?_ | refine act_g rfl rfl ?_ | refine last_plain rfl ?_ | refine tail_plain rfl ?_ | refine tail_g rfl rfl ?_); (repeat simp only [push_cast, seval, -Nat.reduceSubDiff, eq_self])) | (refine tail_fin ?_) | (refine sch_fin ?_)))
      (repeat (first | (with_reducible first | (refine hK _ _ ?_; clear hK K) | refine (show ∀ σ' w', _ → K σ' w' from by assumption) _ _ ?_ | refine W_seq_k fun K hK => ?_ | refine W_block_k fun K hK => ?_ | refine W_skip ?_ | refine W_ret ?_) | ((first | ((with_reducible refine W_id ?_); refine W_reg (by decide) (by rfl) ?_) | (with_reducible first | refine W_cond ?_ | refine hZ _ _ ?_ | refine W_exit ?_ | refine Wo_id ?_) | skip); repeat1' simp only [push_cast, seval, -Nat.reduceSubDiff]) | ((repeat ((fail_if_success with_reducible refine hK _ _ ?_); clear hK K)); (with_reducible refine hK _ _ ?_); clear hK K)))
      refine (hend h9 (by omega) hp9).mono ?_
      rintro v w10 ⟨h10, hu10⟩
      (repeat (first | (with_reducible first | (refine hK _ _ ?_; clear hK K) | refine (show ∀ σ' w', _ → K σ' w' from by assumption) _ _ ?_ | refine W_seq_k fun K hK => ?_ | refine W_block_k fun K hK => ?_ | refine W_skip ?_ | refine W_ret ?_) | ((first | ((with_reducible refine W_id ?_); refine W_reg (by decide) (by rfl) ?_) | (with_reducible first | refine W_cond ?_ | refine hZ _ _ ?_ | refine W_exit ?_ | refine Wo_id ?_) | skip); repeat1' simp only [push_cast, seval, -Nat.reduceSubDiff]) | ((repeat ((fail_if_success with_reducible refine hK _ _ ?_); clear hK K)); (with_reducible refine hK _ _ ?_); clear hK K)))
      exact ⟨lessQ h10, fin (Upd.trans (Upd.trans (Upd.trans hxd.upd hu8 fun _ _ h => h) (toR hu9) fun _ _ h => h) hu10 fun _ _ h => h)⟩
    · (repeat (first | ((first | refine pas_plain rfl ?_ | refine pas_g rfl rfl ?_ | refine act_plain rfl ?_ | refine act_g rfl rfl ?_ | refine last_plain rfl ?_ | refine tail_plain rfl ?_ | refine tail_g rfl rfl ?_); (repeat simp only [push_cast, seval, -Nat.reduceSubDiff, eq_self, cell_h, cellO_cells, hpd])) | (refine tail_fin ?_) | (refine sch_fin ?_)))
      refine ⟨fun q hq => hq.elim, ?_⟩
      (repeat (first | ((first | refine pas_plain rfl ?_ | refine pas_g rfl rfl ?_ | refine act_plain rfl ?_ | refine act_g rfl rfl ?_ | refine last_plain rfl ?_ | refine tail_plain rfl ?_ | refine tail_g rfl rfl ?_); (repeat simp only [push_cast, seval, -Nat.reduceSubDiff, eq_self, cell_h, cellO_cells, hpd])) | (refine tail_fin ?_) | (refine sch_fin ?_)))
      refine (hin hxd).mono ?_
      rintro v w8 ⟨rfl, h8, hp8, hu8⟩
      refine ⟨fun q hq => hq.elim, ?_⟩
      have hs8 := hu8.alike.size
      have hsd := hxd.sz
      (repeat (first | ((first | refine pas_plain rfl ?_ | refine pas_g rfl rfl ?_ | refine act_plain rfl ?_ | refine act_g rfl rfl ?_ | refine last_plain rfl ?_ | refine tail_plain rfl ?_ | refine tail_g rfl rfl ?_); (repeat simp only [push_cast, seval, -Nat.reduceSubDiff, eq_self])) | (refine tail_fin ?_) | (refine sch_fin ?_)))
      refine (putP h8).mono ?_
      rintro v w9 ⟨h9, hu9⟩
      have hp9 := kp hu9 hp8
      have hs9 := hu9.alike.size
      refine ⟨fun q hq => hq.elim, ?_⟩
      (repeat (first | ((first | refine pas_plain rfl ?_ | refine pas_g rfl rfl ?_ | refine act_plain rfl ?_ | refine act_g rfl rfl ?_ | refine last_plain rfl ?_ | refine tail_plain rfl ?_ | refine tail_g rfl rfl ?_); (repeat simp only [push_cast, seval, -Nat.reduceSubDiff, eq_self])) | (refine tail_fin ?_) | (refine sch_fin ?_)))
      (repeat (first | (with_reducible first | (refine hK _ _ ?_; clear hK K) | refine (show ∀ σ' w', _ → K σ' w' from by assumption) _ _ ?_ | refine W_seq_k fun K hK => ?_ | refine W_block_k fun K hK => ?_ | refine W_skip ?_ | refine W_ret ?_) | ((first | ((with_reducible refine W_id ?_); refine W_reg (by decide) (by rfl) ?_) | (with_reducible first | refine W_cond ?_ | refine hZ _ _ ?_ | refine W_exit ?_ | refine Wo_id ?_) | skip); repeat1' simp only [push_cast, seval, -Nat.reduceSubDiff]) | ((repeat ((fail_if_success with_reducible refine hK _ _ ?_); clear hK K)); (with_reducible refine hK _ _ ?_); clear hK K)))
      refine (hend h9 (by omega) hp9).mono ?_
      rintro v w10 ⟨h10, hu10⟩
      (repeat (first | (with_reducible first | (refine hK _ _ ?_; clear hK K) | refine (show ∀ σ' w', _ → K σ' w' from by assumption) _ _ ?_ | refine W_seq_k fun K hK => ?_ | refine W_block_k fun K hK => ?_ | refine W_skip ?_ | refine W_ret ?_) | ((first | ((with_reducible refine W_id ?_); refine W_reg (by decide) (by rfl) ?_) | (with_reducible first | refine W_cond ?_ | refine hZ _ _ ?_ | refine W_exit ?_ | refine Wo_id ?_) | skip); repeat1' simp only [push_cast, seval, -Nat.reduceSubDiff]) | ((repeat ((fail_if_success with_reducible refine hK _ _ ?_); clear hK K)); (with_reducible refine hK _ _ ?_); clear hK K)))
      exact ⟨lessQ h10, fin (Upd.trans (Upd.trans (Upd.trans hxd.upd hu8 fun _ _ h => h) (toR hu9) fun _ _ h => h) hu10 fun _ _ h => h)⟩
theorem run_c (h : BuAt w0 w Q pb ps pl pa b) (hA : AdOk b) (hg : GL w0) (hQl : ∀ q, Q q → q < w.heap.size) (x : ByteArray) (hr : runOk x 8 b) :
    Gives Tryz.prog 53 #[.pointer (some ⟨pb, 0, none⟩), .string x] w fun v w' => v = .bool (runB b x).2 ∧ BuAt w0 w' Q pb ps pl pa (runB b x).1 ∧ Upd (AF w0 Q) w w' := by
  have hb := hA.ok
  obtain ⟨R, hR⟩ : ∃ R, R = runB b x := ⟨_, rfl⟩
  rw [← hR]
  unfold runB at hR
  refine Gives.of_W Tryz.call53 Tryz.func53 rfl Tryz.ntmps53 (by simp) ?_; intro Z hZ
  (repeat (first | (with_reducible first | (refine hK _ _ ?_; clear hK K) | refine (show ∀ σ' w', _ → K σ' w' from by assumption) _ _ ?_ | refine W_seq_k fun K hK => ?_ | refine W_block_k fun K hK => ?_ | refine W_skip ?_ | refine W_ret ?_) | ((first | ((with_reducible refine W_id ?_); refine W_reg (by decide) (by rfl) ?_) | (with_reducible first | refine W_cond ?_ | refine hZ _ _ ?_ | refine W_exit ?_ | refine Wo_id ?_) | skip); repeat1' simp only [push_cast, seval, -Nat.reduceSubDiff]) | ((repeat ((fail_if_success with_reducible refine hK _ _ ?_); clear hK K)); (with_reducible refine hK _ _ ?_); clear hK K)))
  refine (barena_c h).mono ?_
  intro v w' ⟨hv, hw⟩
  subst hv; subst w'
  (repeat (first | (with_reducible first | (refine hK _ _ ?_; clear hK K) | refine (show ∀ σ' w', _ → K σ' w' from by assumption) _ _ ?_ | refine W_seq_k fun K hK => ?_ | refine W_block_k fun K hK => ?_ | refine W_skip ?_ | refine W_ret ?_) | ((first | ((with_reducible refine W_id ?_); refine W_reg (by decide) (by rfl) ?_) | (with_reducible first | refine W_cond ?_ | refine hZ _ _ ?_ | refine W_exit ?_ | refine Wo_id ?_) | skip); repeat1' simp only [push_cast, seval, -Nat.reduceSubDiff]) | ((repeat ((fail_if_success with_reducible refine hK _ _ ?_); clear hK K)); (with_reducible refine hK _ _ ?_); clear hK K)))
  refine bsl (l := [x]) rfl (by decide) (by decide) (by kernel_rfl) ?_
  rintro v w1 hx1 hn1 ⟨bn, rfl⟩
  have h1 := h.pass hx1
  (repeat (first | (with_reducible first | (refine hK _ _ ?_; clear hK K) | refine (show ∀ σ' w', _ → K σ' w' from by assumption) _ _ ?_ | refine W_seq_k fun K hK => ?_ | refine W_block_k fun K hK => ?_ | refine W_skip ?_ | refine W_ret ?_) | ((first | ((with_reducible refine W_id ?_); refine W_reg (by decide) (by rfl) ?_) | (with_reducible first | refine W_cond ?_ | refine hZ _ _ ?_ | refine W_exit ?_ | refine Wo_id ?_) | skip); repeat1' simp only [push_cast, seval, -Nat.reduceSubDiff]) | ((repeat ((fail_if_success with_reducible refine hK _ _ ?_); clear hK K)); (with_reducible refine hK _ _ ?_); clear hK K)))
  refine (bis_c h1 hb hn1 (show (1 : Nat) < 1000000000 by decide)).mono ?_
  rintro v w2 ⟨rfl, hx2⟩
  have h2 := h1.pass hx2
  have hx02 := hx1.trans hx2
  cases his : isB b [x] with
  | false =>
    rw [his, if_neg (fun h => by cases h.1)] at hR
    (repeat (first | (with_reducible first | (refine hK _ _ ?_; clear hK K) | refine (show ∀ σ' w', _ → K σ' w' from by assumption) _ _ ?_ | refine W_seq_k fun K hK => ?_ | refine W_block_k fun K hK => ?_ | refine W_skip ?_ | refine W_ret ?_) | ((first | ((with_reducible refine W_id ?_); refine W_reg (by decide) (by rfl) ?_) | (with_reducible first | refine W_cond ?_ | refine hZ _ _ ?_ | refine W_exit ?_ | refine Wo_id ?_) | skip); repeat1' simp only [push_cast, seval, -Nat.reduceSubDiff]) | ((repeat ((fail_if_success with_reducible refine hK _ _ ?_); clear hK K)); (with_reducible refine hK _ _ ?_); clear hK K)))
    refine W_loop (S := Nat × BSt) (fun z => [(0, .pointer (some ⟨pb, 0, none⟩)), (1, .string x), (26, .int .i64 (z.1 : Int))])
      (fun z w4 => z.1 ≤ 8 ∧ R = adoptN x (8 - z.1) z.2 ∧ runOk x (8 - z.1) z.2 ∧ BuAt w0 w4 Q pb ps pl pa z.2 ∧ Upd (AF w0 Q) w w4) (fun z => 8 - z.1) (0, b) ?_ ?_ ?_
    · (repeat simp only [push_cast, seval, -Nat.reduceSubDiff])
    · exact ⟨by omega, hR, hr, h2, hx02.upd⟩
    rintro ⟨j, c⟩ w5 ⟨hj, hRj, hrj, h5, hu5⟩
    dsimp only at hj hRj hrj h5 ⊢
    have hs5 := hu5.alike.size
    by_cases hj8 : j < 8
    · have b0 : (j : Int) < 8 := by omega
      have b2 : inI64 ((j : Int) + 1) := by unfold inI64; omega
      have e8 : 8 - j = (8 - (j + 1)) + 1 := by omega
      rw [e8, runOk] at hrj
      rw [e8, adoptN] at hRj
      obtain ⟨hAc, hrn⟩ := hrj
      (repeat (first | (with_reducible first | (refine hK _ _ ?_; clear hK K) | refine (show ∀ σ' w', _ → K σ' w' from by assumption) _ _ ?_ | refine W_seq_k fun K hK => ?_ | refine W_block_k fun K hK => ?_ | refine W_skip ?_ | refine W_ret ?_) | ((first | ((with_reducible refine W_id ?_); refine W_reg (by decide) (by rfl) ?_) | (with_reducible first | refine W_cond ?_ | refine hZ _ _ ?_ | refine W_exit ?_ | refine Wo_id ?_) | skip); repeat1' simp only [push_cast, seval, -Nat.reduceSubDiff, b0]) | ((repeat ((fail_if_success with_reducible refine hK _ _ ?_); clear hK K)); (with_reducible refine hK _ _ ?_); clear hK K)))
      refine (once_c h5 hAc hg (fun q hq => by have := hQl q hq; omega) x).mono ?_
      rintro v w6 ⟨rfl, h6, hu6⟩
      have hu06 := Upd.trans hu5 hu6 fun _ _ h => h
      obtain ⟨⟨c', more, done⟩, hcc⟩ : ∃ z, z = onceB c x := ⟨_, rfl⟩
      rw [← hcc] at h6 hRj hrn ⊢
      dsimp only at h6 hRj hrn ⊢
      cases done with
      | false =>
        rw [if_pos rfl] at hRj
        (repeat (first | (with_reducible first | (refine hK _ _ ?_; clear hK K) | refine (show ∀ σ' w', _ → K σ' w' from by assumption) _ _ ?_ | refine W_seq_k fun K hK => ?_ | refine W_block_k fun K hK => ?_ | refine W_skip ?_ | refine W_ret ?_) | ((first | ((with_reducible refine W_id ?_); refine W_reg (by decide) (by rfl) ?_) | (with_reducible first | refine W_cond ?_ | refine hZ _ _ ?_ | refine W_exit ?_ | refine Wo_id ?_) | skip); repeat1' simp only [push_cast, seval, -Nat.reduceSubDiff, ext0, ext1]) | ((repeat ((fail_if_success with_reducible refine hK _ _ ?_); clear hK K)); (with_reducible refine hK _ _ ?_); clear hK K)))
        exact ⟨by rw [hRj], by rw [hRj]; exact h6, hu06⟩
      | true =>
        rw [if_neg (by decide)] at hRj
        cases more with
        | false =>
          rw [if_pos rfl] at hRj
          (repeat (first | (with_reducible first | (refine hK _ _ ?_; clear hK K) | refine (show ∀ σ' w', _ → K σ' w' from by assumption) _ _ ?_ | refine W_seq_k fun K hK => ?_ | refine W_block_k fun K hK => ?_ | refine W_skip ?_ | refine W_ret ?_) | ((first | ((with_reducible refine W_id ?_); refine W_reg (by decide) (by rfl) ?_) | (with_reducible first | refine W_cond ?_ | refine hZ _ _ ?_ | refine W_exit ?_ | refine Wo_id ?_) | skip); repeat1' simp only [push_cast, seval, -Nat.reduceSubDiff, ext0, ext1]) | ((repeat ((fail_if_success with_reducible refine hK _ _ ?_); clear hK K)); (with_reducible refine hK _ _ ?_); clear hK K)))
          exact ⟨by rw [hRj], by rw [hRj]; exact h6, hu06⟩
        | true =>
          rw [if_neg (by decide)] at hRj
          (repeat (first | (with_reducible first | (refine hK _ _ ?_; clear hK K) | refine (show ∀ σ' w', _ → K σ' w' from by assumption) _ _ ?_ | refine W_seq_k fun K hK => ?_ | refine W_block_k fun K hK => ?_ | refine W_skip ?_ | refine W_ret ?_) | ((first | ((with_reducible refine W_id ?_); refine W_reg (by decide) (by rfl) ?_) | (with_reducible first | refine W_cond ?_ | refine hZ _ _ ?_ | refine W_exit ?_ | refine Wo_id ?_) | skip); repeat1' simp only [push_cast, seval, -Nat.reduceSubDiff, ext0, ext1, b2]) | ((repeat ((fail_if_success with_reducible refine hK _ _ ?_); clear hK K)); (with_reducible refine hK _ _ ?_); clear hK K)))
          refine ⟨(j + 1, c'), by show 8 - (j + 1) < 8 - j; omega, ?_⟩
          (repeat simp only [push_cast, seval, -Nat.reduceSubDiff])
          exact ⟨by omega, hRj, hrn rfl rfl, h6, hu06⟩
    · have hje : j = 8 := by omega
      subst hje
      rw [Nat.sub_self, adoptN] at hRj
      (repeat (first | (with_reducible first | (refine hK _ _ ?_; clear hK K) | refine (show ∀ σ' w', _ → K σ' w' from by assumption) _ _ ?_ | refine W_seq_k fun K hK => ?_ | refine W_block_k fun K hK => ?_ | refine W_skip ?_ | refine W_ret ?_) | ((first | ((with_reducible refine W_id ?_); refine W_reg (by decide) (by rfl) ?_) | (with_reducible first | refine W_cond ?_ | refine hZ _ _ ?_ | refine W_exit ?_ | refine Wo_id ?_) | skip); repeat1' simp only [push_cast, seval, -Nat.reduceSubDiff]) | ((repeat ((fail_if_success with_reducible refine hK _ _ ?_); clear hK K)); (with_reducible refine hK _ _ ?_); clear hK K)))
      exact ⟨by rw [hRj], by rw [hRj]; exact h5, hu5⟩
  | true =>
    rw [his] at hR
    (repeat (first | (with_reducible first | (refine hK _ _ ?_; clear hK K) | refine (show ∀ σ' w', _ → K σ' w' from by assumption) _ _ ?_ | refine W_seq_k fun K hK => ?_ | refine W_block_k fun K hK => ?_ | refine W_skip ?_ | refine W_ret ?_) | ((first | ((with_reducible refine W_id ?_); refine W_reg (by decide) (by rfl) ?_) | (with_reducible first | refine W_cond ?_ | refine hZ _ _ ?_ | refine W_exit ?_ | refine Wo_id ?_) | skip); repeat1' simp only [push_cast, seval, -Nat.reduceSubDiff]) | ((repeat ((fail_if_success with_reducible refine hK _ _ ?_); clear hK K)); (with_reducible refine hK _ _ ?_); clear hK K)))
    refine (bforms_c h2).mono ?_
    intro v w' ⟨hv, hw⟩
    subst hv; subst w'
    (repeat (first | (with_reducible first | (refine hK _ _ ?_; clear hK K) | refine (show ∀ σ' w', _ → K σ' w' from by assumption) _ _ ?_ | refine W_seq_k fun K hK => ?_ | refine W_block_k fun K hK => ?_ | refine W_skip ?_ | refine W_ret ?_) | ((first | ((with_reducible refine W_id ?_); refine W_reg (by decide) (by rfl) ?_) | (with_reducible first | refine W_cond ?_ | refine hZ _ _ ?_ | refine W_exit ?_ | refine Wo_id ?_) | skip); repeat1' simp only [push_cast, seval, -Nat.reduceSubDiff]) | ((repeat ((fail_if_success with_reducible refine hK _ _ ?_); clear hK K)); (with_reducible refine hK _ _ ?_); clear hK K)))
    refine (bstack_c h2).mono ?_
    intro v w' ⟨hv, hw⟩
    subst hv; subst w'
    (repeat (first | (with_reducible first | (refine hK _ _ ?_; clear hK K) | refine (show ∀ σ' w', _ → K σ' w' from by assumption) _ _ ?_ | refine W_seq_k fun K hK => ?_ | refine W_block_k fun K hK => ?_ | refine W_skip ?_ | refine W_ret ?_) | ((first | ((with_reducible refine W_id ?_); refine W_reg (by decide) (by rfl) ?_) | (with_reducible first | refine W_cond ?_ | refine hZ _ _ ?_ | refine W_exit ?_ | refine Wo_id ?_) | skip); repeat1' simp only [push_cast, seval, -Nat.reduceSubDiff]) | ((repeat ((fail_if_success with_reducible refine hK _ _ ?_); clear hK K)); (with_reducible refine hK _ _ ?_); clear hK K)))
    refine (btop_c h2 hb).mono ?_
    intro v w' ⟨hv, hw⟩
    subst hv; subst w'
    (repeat (first | (with_reducible first | (refine hK _ _ ?_; clear hK K) | refine (show ∀ σ' w', _ → K σ' w' from by assumption) _ _ ?_ | refine W_seq_k fun K hK => ?_ | refine W_block_k fun K hK => ?_ | refine W_skip ?_ | refine W_ret ?_) | ((first | ((with_reducible refine W_id ?_); refine W_reg (by decide) (by rfl) ?_) | (with_reducible first | refine W_cond ?_ | refine hZ _ _ ?_ | refine W_exit ?_ | refine Wo_id ?_) | skip); repeat1' simp only [push_cast, seval, -Nat.reduceSubDiff]) | ((repeat ((fail_if_success with_reducible refine hK _ _ ?_); clear hK K)); (with_reducible refine hK _ _ ?_); clear hK K)))
    refine (bfindex_c h2 hb (topS b.s)).mono ?_
    rintro v w3 ⟨rfl, hx3⟩
    have h3 := h2.pass hx3
    have hx03 := hx02.trans hx3
    by_cases hid : indexN b.l (topS b.s) < 0
    · rw [if_pos ⟨rfl, hid⟩] at hR
      (repeat (first | (with_reducible first | (refine hK _ _ ?_; clear hK K) | refine (show ∀ σ' w', _ → K σ' w' from by assumption) _ _ ?_ | refine W_seq_k fun K hK => ?_ | refine W_block_k fun K hK => ?_ | refine W_skip ?_ | refine W_ret ?_) | ((first | ((with_reducible refine W_id ?_); refine W_reg (by decide) (by rfl) ?_) | (with_reducible first | refine W_cond ?_ | refine hZ _ _ ?_ | refine W_exit ?_ | refine Wo_id ?_) | skip); repeat1' simp only [push_cast, seval, -Nat.reduceSubDiff, hid]) | ((repeat ((fail_if_success with_reducible refine hK _ _ ?_); clear hK K)); (with_reducible refine hK _ _ ?_); clear hK K)))
      refine (bstack_c h3).mono ?_
      intro v w' ⟨hv, hw⟩
      subst hv; subst w'
      (repeat (first | (with_reducible first | (refine hK _ _ ?_; clear hK K) | refine (show ∀ σ' w', _ → K σ' w' from by assumption) _ _ ?_ | refine W_seq_k fun K hK => ?_ | refine W_block_k fun K hK => ?_ | refine W_skip ?_ | refine W_ret ?_) | ((first | ((with_reducible refine W_id ?_); refine W_reg (by decide) (by rfl) ?_) | (with_reducible first | refine W_cond ?_ | refine hZ _ _ ?_ | refine W_exit ?_ | refine Wo_id ?_) | skip); repeat1' simp only [push_cast, seval, -Nat.reduceSubDiff]) | ((repeat ((fail_if_success with_reducible refine hK _ _ ?_); clear hK K)); (with_reducible refine hK _ _ ?_); clear hK K)))
      refine (bpop_c h3 hb).mono ?_
      rintro v w4 ⟨rfl, h4, hu4⟩
      (repeat (first | (with_reducible first | (refine hK _ _ ?_; clear hK K) | refine (show ∀ σ' w', _ → K σ' w' from by assumption) _ _ ?_ | refine W_seq_k fun K hK => ?_ | refine W_block_k fun K hK => ?_ | refine W_skip ?_ | refine W_ret ?_) | ((first | ((with_reducible refine W_id ?_); refine W_reg (by decide) (by rfl) ?_) | (with_reducible first | refine W_cond ?_ | refine hZ _ _ ?_ | refine W_exit ?_ | refine Wo_id ?_) | skip); repeat1' simp only [push_cast, seval, -Nat.reduceSubDiff]) | ((repeat ((fail_if_success with_reducible refine hK _ _ ?_); clear hK K)); (with_reducible refine hK _ _ ?_); clear hK K)))
      exact ⟨by rw [hR], by rw [hR]; exact h4, Upd.trans hx03.upd hu4 fun _ _ h => h⟩
    rw [if_neg (fun h => hid h.2)] at hR
    (repeat (first | (with_reducible first | (refine hK _ _ ?_; clear hK K) | refine (show ∀ σ' w', _ → K σ' w' from by assumption) _ _ ?_ | refine W_seq_k fun K hK => ?_ | refine W_block_k fun K hK => ?_ | refine W_skip ?_ | refine W_ret ?_) | ((first | ((with_reducible refine W_id ?_); refine W_reg (by decide) (by rfl) ?_) | (with_reducible first | refine W_cond ?_ | refine hZ _ _ ?_ | refine W_exit ?_ | refine Wo_id ?_) | skip); repeat1' simp only [push_cast, seval, -Nat.reduceSubDiff, hid]) | ((repeat ((fail_if_success with_reducible refine hK _ _ ?_); clear hK K)); (with_reducible refine hK _ _ ?_); clear hK K)))
    refine W_loop (S := Nat × BSt) (fun z => [(0, .pointer (some ⟨pb, 0, none⟩)), (1, .string x), (26, .int .i64 (z.1 : Int))])
      (fun z w4 => z.1 ≤ 8 ∧ R = adoptN x (8 - z.1) z.2 ∧ runOk x (8 - z.1) z.2 ∧ BuAt w0 w4 Q pb ps pl pa z.2 ∧ Upd (AF w0 Q) w w4) (fun z => 8 - z.1) (0, b) ?_ ?_ ?_
    · (repeat simp only [push_cast, seval, -Nat.reduceSubDiff])
    · exact ⟨by omega, hR, hr, h3, hx03.upd⟩
    rintro ⟨j, c⟩ w5 ⟨hj, hRj, hrj, h5, hu5⟩
    dsimp only at hj hRj hrj h5 ⊢
    have hs5 := hu5.alike.size
    by_cases hj8 : j < 8
    · have b0 : (j : Int) < 8 := by omega
      have b2 : inI64 ((j : Int) + 1) := by unfold inI64; omega
      have e8 : 8 - j = (8 - (j + 1)) + 1 := by omega
      rw [e8, runOk] at hrj
      rw [e8, adoptN] at hRj
      obtain ⟨hAc, hrn⟩ := hrj
      (repeat (first | (with_reducible first | (refine hK _ _ ?_; clear hK K) | refine (show ∀ σ' w', _ → K σ' w' from by assumption) _ _ ?_ | refine W_seq_k fun K hK => ?_ | refine W_block_k fun K hK => ?_ | refine W_skip ?_ | refine W_ret ?_) | ((first | ((with_reducible refine W_id ?_); refine W_reg (by decide) (by rfl) ?_) | (with_reducible first | refine W_cond ?_ | refine hZ _ _ ?_ | refine W_exit ?_ | refine Wo_id ?_) | skip); repeat1' simp only [push_cast, seval, -Nat.reduceSubDiff, b0]) | ((repeat ((fail_if_success with_reducible refine hK _ _ ?_); clear hK K)); (with_reducible refine hK _ _ ?_); clear hK K)))
      refine (once_c h5 hAc hg (fun q hq => by have := hQl q hq; omega) x).mono ?_
      rintro v w6 ⟨rfl, h6, hu6⟩
      have hu06 := Upd.trans hu5 hu6 fun _ _ h => h
      obtain ⟨⟨c', more, done⟩, hcc⟩ : ∃ z, z = onceB c x := ⟨_, rfl⟩
      rw [← hcc] at h6 hRj hrn ⊢
      dsimp only at h6 hRj hrn ⊢
      cases done with
      | false =>
        rw [if_pos rfl] at hRj
        (repeat (first | (with_reducible first | (refine hK _ _ ?_; clear hK K) | refine (show ∀ σ' w', _ → K σ' w' from by assumption) _ _ ?_ | refine W_seq_k fun K hK => ?_ | refine W_block_k fun K hK => ?_ | refine W_skip ?_ | refine W_ret ?_) | ((first | ((with_reducible refine W_id ?_); refine W_reg (by decide) (by rfl) ?_) | (with_reducible first | refine W_cond ?_ | refine hZ _ _ ?_ | refine W_exit ?_ | refine Wo_id ?_) | skip); repeat1' simp only [push_cast, seval, -Nat.reduceSubDiff, ext0, ext1]) | ((repeat ((fail_if_success with_reducible refine hK _ _ ?_); clear hK K)); (with_reducible refine hK _ _ ?_); clear hK K)))
        exact ⟨by rw [hRj], by rw [hRj]; exact h6, hu06⟩
      | true =>
        rw [if_neg (by decide)] at hRj
        cases more with
        | false =>
          rw [if_pos rfl] at hRj
          (repeat (first | (with_reducible first | (refine hK _ _ ?_; clear hK K) | refine (show ∀ σ' w', _ → K σ' w' from by assumption) _ _ ?_ | refine W_seq_k fun K hK => ?_ | refine W_block_k fun K hK => ?_ | refine W_skip ?_ | refine W_ret ?_) | ((first | ((with_reducible refine W_id ?_); refine W_reg (by decide) (by rfl) ?_) | (with_reducible first | refine W_cond ?_ | refine hZ _ _ ?_ | refine W_exit ?_ | refine Wo_id ?_) | skip); repeat1' simp only [push_cast, seval, -Nat.reduceSubDiff, ext0, ext1]) | ((repeat ((fail_if_success with_reducible refine hK _ _ ?_); clear hK K)); (with_reducible refine hK _ _ ?_); clear hK K)))
          exact ⟨by rw [hRj], by rw [hRj]; exact h6, hu06⟩
        | true =>
          rw [if_neg (by decide)] at hRj
          (repeat (first | (with_reducible first | (refine hK _ _ ?_; clear hK K) | refine (show ∀ σ' w', _ → K σ' w' from by assumption) _ _ ?_ | refine W_seq_k fun K hK => ?_ | refine W_block_k fun K hK => ?_ | refine W_skip ?_ | refine W_ret ?_) | ((first | ((with_reducible refine W_id ?_); refine W_reg (by decide) (by rfl) ?_) | (with_reducible first | refine W_cond ?_ | refine hZ _ _ ?_ | refine W_exit ?_ | refine Wo_id ?_) | skip); repeat1' simp only [push_cast, seval, -Nat.reduceSubDiff, ext0, ext1, b2]) | ((repeat ((fail_if_success with_reducible refine hK _ _ ?_); clear hK K)); (with_reducible refine hK _ _ ?_); clear hK K)))
          refine ⟨(j + 1, c'), by show 8 - (j + 1) < 8 - j; omega, ?_⟩
          (repeat simp only [push_cast, seval, -Nat.reduceSubDiff])
          exact ⟨by omega, hRj, hrn rfl rfl, h6, hu06⟩
    · have hje : j = 8 := by omega
      subst hje
      rw [Nat.sub_self, adoptN] at hRj
      (repeat (first | (with_reducible first | (refine hK _ _ ?_; clear hK K) | refine (show ∀ σ' w', _ → K σ' w' from by assumption) _ _ ?_ | refine W_seq_k fun K hK => ?_ | refine W_block_k fun K hK => ?_ | refine W_skip ?_ | refine W_ret ?_) | ((first | ((with_reducible refine W_id ?_); refine W_reg (by decide) (by rfl) ?_) | (with_reducible first | refine W_cond ?_ | refine hZ _ _ ?_ | refine W_exit ?_ | refine Wo_id ?_) | skip); repeat1' simp only [push_cast, seval, -Nat.reduceSubDiff]) | ((repeat ((fail_if_success with_reducible refine hK _ _ ?_); clear hK K)); (with_reducible refine hK _ _ ?_); clear hK K)))
      exact ⟨by rw [hRj], by rw [hRj]; exact h5, hu5⟩
end
end Go.Proofs.YtgnnlaeikcnhcaaGreatDoor
end
section
set_option linter.unusedSimpArgs false
set_option linter.unusedVariables false
namespace Go.Vk
open Go
def bsL (l : List UInt8) : ByteArray := ⟨l.toArray⟩
theorem to_text {P : Program} {s d e : TypeId} (hs : P.underlying s = some (.slice e)) (he : P.underlying e = some (.int .u8)) (hd : P.underlying d = some .string) {w : World} {b n : Nat} {l : List UInt8} (hn : l.length = n)
    (h : ∀ j, (hj : j < l.length) → w.cell? ⟨b, j, none⟩ = some (.int .u8 (l[j].toNat : Int))) {K : Value → World → Prop} (hk : K (.string (bsL l)) w) : RunV P (convert s d (.slice (some ⟨b, 0, none⟩) n n)) w K := by
  subst hn
  refine .of (run_convert_bytes_back w s d e ⟨b, 0, none⟩ l.length l hs he hd fun j hj => ?_) hk
  rw [add_mk, Nat.zero_add, h j hj]
end Go.Vk
namespace Go.Proofs.YtgnnlaeikcnhcaaGreatDoor
open Go Go.Vk
theorem cell_lt {w : World} {b o : Nat} {v : Value} (h : w.cell? ⟨b, o, none⟩ = some v) : b < w.heap.size := by
  rw [cell_h] at h
  by_cases hl : b < w.heap.size
  · exact hl
  · rw [Array.getElem?_eq_none (by omega)] at h; simp [cellO] at h
theorem styB : STy Tryz.prog 22 5 1 := ⟨Tryz.underlying22, Tryz.sizeOf5, fun w => ⟨_, by simp [Tryz.typeInfo5, Sem.run]; rfl, by decide, by decide⟩, fun w => ⟨_, by simp [Tryz.zeroValue5, Sem.run]; rfl, by decide⟩⟩
/-- a text of one byte, out of a new slice -/
theorem one_byte {w : World} (c : UInt8) {K : Value → World → Prop} (h : ∀ b w', Ext w w' → w'.cell? ⟨b, 0, none⟩ = some (.int .u8 (c.toNat : Int)) → K (.slice (some ⟨b, 0, none⟩) 1 1) w') : RunV Tryz.prog (Instr.buildSlice 22 1 #[(0, .int .u8 (c.toNat : Int))]) w K := by
  refine bs_of (parts := [(0, .int .u8 (c.toNat : Int))]) styB (n := 1) (by omega) (by omega) Tryz.zeroValue5 (cs := #[.int .u8 (c.toNat : Int)]) (by kernel_rfl) ?_
  refine h _ _ (Ext.alloc _ _) ?_
  rw [cell_h, heap_alloc_h, if_pos rfl]; rfl
theorem one_text {w : World} {b : Nat} {c : UInt8} (h : w.cell? ⟨b, 0, none⟩ = some (.int .u8 (c.toNat : Int))) {K : Value → World → Prop} (hk : K (.string ⟨#[c]⟩) w) : RunV Tryz.prog (convert 22 9 (.slice (some ⟨b, 0, none⟩) 1 1)) w K :=
  to_text (l := [c]) Tryz.underlying22 Tryz.underlying5 Tryz.underlying9 rfl (fun j hj => by
    have : j = 0 := by simpa using hj
    subst this; exact h) hk
theorem styAt : STy Tryz.prog 35 34 2 := ⟨Tryz.underlying35, Tryz.sizeOf34, fun w => ⟨_, by simp [Tryz.typeInfo34, Sem.run]; rfl, by decide, by decide⟩, fun w => ⟨_, by simp [Tryz.zeroValue34, Sem.run]; rfl, by decide⟩⟩
theorem one_attr {w : World} (x y : ByteArray) {K : Value → World → Prop} (h : ∀ b w', Ext w w' → RdAt w' 2 (.slice (some ⟨b, 0, none⟩) 1 1) (attrCells [(x, y)]) → K (.slice (some ⟨b, 0, none⟩) 1 1) w') : RunV Tryz.prog (Instr.buildSlice 35 1 #[(0, .agg #[.string x, .string y])]) w K := by
  refine bs_of (parts := [(0, .agg #[.string x, .string y])]) styAt (n := 1) (by omega) (by omega) Tryz.zeroValue34 (cs := #[.string x, .string y]) (by kernel_rfl) ?_
  refine h _ _ (Ext.alloc _ _) ?_
  have := (SlAt.new w 2 #[Value.string x, Value.string y] 34 1 rfl).rd
  simpa [attrCells] using this
end Go.Proofs.YtgnnlaeikcnhcaaGreatDoor
end
section
set_option linter.unusedSimpArgs false
set_option linter.unusedVariables false
namespace Go.Vk
open Go Go.Proofs.YtgnnlaeikcnhcaaGreatDoor
def adNames : List ByteArray := [⟨#[98]⟩, ⟨#[105]⟩, ⟨#[117]⟩, ⟨#[101, 109]⟩, ⟨#[97]⟩, ⟨#[110, 111, 98, 114]⟩, ⟨#[100, 105, 118]⟩, ⟨#[112]⟩, ⟨#[115, 112, 97, 110]⟩, ⟨#[99, 101, 110, 116, 101, 114]⟩]
def adName (k : Nat) : ByteArray := adNames.getD k ⟨#[]⟩
def op1 (b : BSt) (x : Nat) : BSt := (implyB b (adName (x % 10))).1
def opI (b : BSt) (x : Nat) : Int := (implyB b (adName (x % 10))).2
def op2 (b : BSt) (x : Nat) : BSt := if x % 10 < 6 then { op1 b x with l := (pushN (op1 b x).L (op1 b x).l (opI b x)).1 } else op1 b x
def opC (i : Nat) : ByteArray := ⟨#[UInt8.ofNat (97 + i % 26)]⟩
def opS (b : BSt) (i x : Nat) : BSt := charsB (op2 b x) (opC i)
def opB : Nat → List Nat → BSt
  | 0, _ => gb2
  | n + 1, l => opS (opB n l) n (l.getD n 0)
/-- what each step asks -/
structure OpOk (b : BSt) (x : Nat) : Prop where
  ok : okB b
  L : b.L.length + 2 < 90000
  push : x % 10 < 6 → (pushN (op1 b x).L (op1 b x).l (opI b x)).2 = 0
  ok1 : okB (op1 b x)
  ok2 : okB (op2 b x)
  txt : ∀ n ∈ (op2 b x).L, n.text.size < 1000000000
end Go.Vk
namespace Go.Proofs.YtgnnlaeikcnhcaaGreatDoor
open Go Go.Vk
set_option maxHeartbeats 40000000
theorem names_c {w : World} : Gives Tryz.prog 51 #[] w fun v w' => Ext w w' ∧ RdAt w' 1 v (strCells adNames) ∧ ∃ b, v = .slice (some ⟨b, 0, none⟩) 10 10 ∧ w.heap.size ≤ b := by
  refine Gives.of_W Tryz.call51 Tryz.func51 rfl Tryz.ntmps51 (by simp) ?_; intro Z hZ
  (repeat (first | (with_reducible first | (refine hK _ _ ?_; clear hK K) | refine (show ∀ σ' w', _ → K σ' w' from by assumption) _ _ ?_ | refine W_seq_k fun K hK => ?_ | refine W_block_k fun K hK => ?_ | refine W_skip ?_ | refine W_ret ?_) | ((first | ((with_reducible refine W_id ?_); refine W_reg (by decide) (by rfl) ?_) | (with_reducible first | refine W_cond ?_ | refine hZ _ _ ?_ | refine W_exit ?_ | refine Wo_id ?_) | skip); repeat1' simp only [push_cast, seval, -Nat.reduceSubDiff]) | ((repeat ((fail_if_success with_reducible refine hK _ _ ?_); clear hK K)); (with_reducible refine hK _ _ ?_); clear hK K)))
  refine bs_of styS (n := 10) (by omega) (by omega) Tryz.zeroValue9 (cs := (strCells adNames).toArray) (by kernel_rfl) ?_
  have hx := Ext.alloc w (.cells (strCells adNames).toArray 9)
  have hr := (SlAt.new w 1 (strCells adNames).toArray 9 10 (by simp [strCells, adNames])).rd
  generalize w.alloc (.cells (strCells adNames).toArray 9) = w1 at *
  (repeat (first | (with_reducible first | (refine hK _ _ ?_; clear hK K) | refine (show ∀ σ' w', _ → K σ' w' from by assumption) _ _ ?_ | refine W_seq_k fun K hK => ?_ | refine W_block_k fun K hK => ?_ | refine W_skip ?_ | refine W_ret ?_) | ((first | ((with_reducible refine W_id ?_); refine W_reg (by decide) (by rfl) ?_) | (with_reducible first | refine W_cond ?_ | refine hZ _ _ ?_ | refine W_exit ?_ | refine Wo_id ?_) | skip); repeat1' simp only [push_cast, seval, -Nat.reduceSubDiff]) | ((repeat ((fail_if_success with_reducible refine hK _ _ ?_); clear hK K)); (with_reducible refine hK _ _ ?_); clear hK K)))
  exact ⟨hx, by simpa using hr, _, rfl, Nat.le_refl _⟩
set_option maxHeartbeats 1000000 in
theorem opened_c {w0 : World} {v0 : Value} {l : List Nat} (hv : RdAt w0 1 v0 (u8Cells l)) (hb : ∀ c ∈ l, c < 256) (hl : l.length < 1000) (hok : ∀ i x, l[i]? = some x → OpOk (opB i l) x) :
    Gives Tryz.prog 66 #[v0] w0 fun v w' => ∃ pb ps pl pa, v = .pointer (some ⟨pb, 0, none⟩) ∧ BuAt w0 w' noP pb ps pl pa (opB l.length l) := by
  obtain ⟨va, vc, rfl, hvc, hcell⟩ := u8_len hv
  obtain ⟨k0, j0, _⟩ := okb_ok okg0
  obtain ⟨k1, j1, _⟩ := okb_ok okg1
  refine Gives.of_W Tryz.call66 Tryz.func66 rfl Tryz.ntmps66 (by simp) ?_; intro Z hZ
  (repeat (first | (with_reducible first | (refine hK _ _ ?_; clear hK K) | refine (show ∀ σ' w', _ → K σ' w' from by assumption) _ _ ?_ | refine W_seq_k fun K hK => ?_ | refine W_block_k fun K hK => ?_ | refine W_skip ?_ | refine W_ret ?_) | ((first | ((with_reducible refine W_id ?_); refine W_reg (by decide) (by rfl) ?_) | (with_reducible first | refine W_cond ?_ | refine hZ _ _ ?_ | refine W_exit ?_ | refine Wo_id ?_) | skip); repeat1' simp only [push_cast, seval, -Nat.reduceSubDiff]) | ((repeat ((fail_if_success with_reducible refine hK _ _ ?_); clear hK K)); (with_reducible refine hK _ _ ?_); clear hK K)))
  refine bnew_c.mono ?_
  rintro v w1 ⟨pb, ps, pl, pa, rfl, h0⟩
  (repeat (first | (with_reducible first | (refine hK _ _ ?_; clear hK K) | refine (show ∀ σ' w', _ → K σ' w' from by assumption) _ _ ?_ | refine W_seq_k fun K hK => ?_ | refine W_block_k fun K hK => ?_ | refine W_skip ?_ | refine W_ret ?_) | ((first | ((with_reducible refine W_id ?_); refine W_reg (by decide) (by rfl) ?_) | (with_reducible first | refine W_cond ?_ | refine hZ _ _ ?_ | refine W_exit ?_ | refine Wo_id ?_) | skip); repeat1' simp only [push_cast, seval, -Nat.reduceSubDiff]) | ((repeat ((fail_if_success with_reducible refine hK _ _ ?_); clear hK K)); (with_reducible refine hK _ _ ?_); clear hK K)))
  refine (bimply_c h0 k0 j0 nP _).mono ?_
  rintro v w2 ⟨rfl, h1, -⟩
  replace h1 : BuAt w0 w2 noP pb ps pl pa gb1 := h1
  (repeat (first | (with_reducible first | (refine hK _ _ ?_; clear hK K) | refine (show ∀ σ' w', _ → K σ' w' from by assumption) _ _ ?_ | refine W_seq_k fun K hK => ?_ | refine W_block_k fun K hK => ?_ | refine W_skip ?_ | refine W_ret ?_) | ((first | ((with_reducible refine W_id ?_); refine W_reg (by decide) (by rfl) ?_) | (with_reducible first | refine W_cond ?_ | refine hZ _ _ ?_ | refine W_exit ?_ | refine Wo_id ?_) | skip); repeat1' simp only [push_cast, seval, -Nat.reduceSubDiff]) | ((repeat ((fail_if_success with_reducible refine hK _ _ ?_); clear hK K)); (with_reducible refine hK _ _ ?_); clear hK K)))
  refine (bimply_c h1 k1 j1 nP _).mono ?_
  rintro v w3 ⟨rfl, h2, -⟩
  replace h2 : BuAt w0 w3 noP pb ps pl pa (opB 0 l) := h2
  (repeat (first | (with_reducible first | (refine hK _ _ ?_; clear hK K) | refine (show ∀ σ' w', _ → K σ' w' from by assumption) _ _ ?_ | refine W_seq_k fun K hK => ?_ | refine W_block_k fun K hK => ?_ | refine W_skip ?_ | refine W_ret ?_) | ((first | ((with_reducible refine W_id ?_); refine W_reg (by decide) (by rfl) ?_) | (with_reducible first | refine W_cond ?_ | refine hZ _ _ ?_ | refine W_exit ?_ | refine Wo_id ?_) | skip); repeat1' simp only [push_cast, seval, -Nat.reduceSubDiff]) | ((repeat ((fail_if_success with_reducible refine hK _ _ ?_); clear hK K)); (with_reducible refine hK _ _ ?_); clear hK K)))
  refine W_loop (S := Nat) (fun k => [(0, .slice va l.length vc), (3, .pointer (some ⟨pb, 0, none⟩)), (4, .int .i64 (k : Int))])
    (fun k w4 => k ≤ l.length ∧ BuAt w0 w4 noP pb ps pl pa (opB k l)) (fun k => l.length - k) 0 ?_ ?_ ?_
  · (repeat simp only [push_cast, seval, -Nat.reduceSubDiff])
  · exact ⟨by omega, h2⟩
  rintro k w4 ⟨hk, h4⟩
  by_cases hkl : k < l.length
  · obtain ⟨x, hx⟩ : ∃ x, l[k]? = some x := ⟨_, List.getElem?_eq_getElem hkl⟩
    have hO := hok k x hx
    have hx256 := hb x (List.mem_of_getElem? hx)
    obtain ⟨y, hy⟩ : ∃ y, y = x % 10 := ⟨_, rfl⟩
    have hy10 : y < 10 := by rw [hy]; exact Nat.mod_lt _ (by decide)
    have hyt : Int.tmod (x : Int) 10 = (y : Int) := by
      rw [hy, Int.tmod_eq_emod_of_nonneg (by omega)]; omega
    have hw : IntKind.i64.wrap (x : Int) = x := wrap_in (by unfold inI64; omega)
    obtain ⟨bx, ox, rfl, hc⟩ := hcell k x hx
    have b0 : (k : Int) < (l.length : Int) := by omega
    have b1 : (0 : Int) ≤ (k : Int) := by omega
    have b2 : inI64 ((k : Int) + 1) := by unfold inI64; omega
    have b3 : (0 : Int) ≤ (y : Int) := by omega
    have b4 : (y : Int) < 10 := by omega
    have c10 : ((10 : Int) = 0) = False := by decide
    have c26 : ((26 : Int) = 0) = False := by decide
    obtain ⟨nm, hnm⟩ : ∃ nm, adNames[y]? = some nm := ⟨_, List.getElem?_eq_getElem (show y < 10 from hy10)⟩
    have hnm2 : adName (x % 10) = nm := by unfold adName; rw [← hy, List.getD_eq_getElem?_getD, hnm]; rfl
    have hc4 := cell_ext h4.out hc
    have lbx : bx < w4.heap.size := cell_lt hc4
    (repeat (first | (with_reducible first | (refine hK _ _ ?_; clear hK K) | refine (show ∀ σ' w', _ → K σ' w' from by assumption) _ _ ?_ | refine W_seq_k fun K hK => ?_ | refine W_block_k fun K hK => ?_ | refine W_skip ?_ | refine W_ret ?_) | ((first | ((with_reducible refine W_id ?_); refine W_reg (by decide) (by rfl) ?_) | (with_reducible first | refine W_cond ?_ | refine hZ _ _ ?_ | refine W_exit ?_ | refine Wo_id ?_) | skip); repeat1' simp only [push_cast, seval, -Nat.reduceSubDiff, b0, b1]) | ((repeat ((fail_if_success with_reducible refine hK _ _ ?_); clear hK K)); (with_reducible refine hK _ _ ?_); clear hK K)))
    refine W_draw (.pas 0 (.pas 1 (.pas 2 (.pas 3 (.pas 4 (.act 5 (.pas 6 (.pas 7 (.pas 8 .fin))))))))) (fun q => q = bx) (by decide) mixed (by kernel_rfl) ?_
    have hxd := Ext.drew w4
    generalize w4.drew = wd at *
    have hcd := cell_ext hxd hc4
    have hsd := hxd.sz
    (repeat (first | ((first | refine pas_plain rfl ?_ | refine pas_g rfl rfl ?_ | refine act_plain rfl ?_ | refine act_g rfl rfl ?_ | refine last_plain rfl ?_ | refine tail_plain rfl ?_ | refine tail_g rfl rfl ?_); (repeat simp only [push_cast, seval, -Nat.reduceSubDiff, eq_self, b0, b1, hcd, hw])) | (refine tail_fin ?_) | (refine sch_fin ?_)))
    refine names_c.mono ?_
    rintro v w5 ⟨hx5, hr5, bn, rfl, hbn⟩
    refine ⟨kept_upd hx5 fun q hq => ⟨by have : q = bx := hq; omega, id⟩, ?_⟩
    have hx45 := hxd.trans hx5
    (repeat (first | ((first | refine pas_plain rfl ?_ | refine pas_g rfl rfl ?_ | refine act_plain rfl ?_ | refine act_g rfl rfl ?_ | refine last_plain rfl ?_ | refine tail_plain rfl ?_ | refine tail_g rfl rfl ?_); (repeat simp only [push_cast, seval, -Nat.reduceSubDiff, eq_self, hyt, c10])) | (refine tail_fin ?_) | (refine sch_fin ?_)))
    (repeat (first | (with_reducible first | (refine hK _ _ ?_; clear hK K) | refine (show ∀ σ' w', _ → K σ' w' from by assumption) _ _ ?_ | refine W_seq_k fun K hK => ?_ | refine W_block_k fun K hK => ?_ | refine W_skip ?_ | refine W_ret ?_) | ((first | ((with_reducible refine W_id ?_); refine W_reg (by decide) (by rfl) ?_) | (with_reducible first | refine W_cond ?_ | refine hZ _ _ ?_ | refine W_exit ?_ | refine Wo_id ?_) | skip); repeat1' simp only [push_cast, seval, -Nat.reduceSubDiff]) | ((repeat ((fail_if_success with_reducible refine hK _ _ ?_); clear hK K)); (with_reducible refine hK _ _ ?_); clear hK K)))
    refine names_c.mono ?_
    rintro v w6 ⟨hx6, hr6, bn6, rfl, hbn6⟩
    have n6 := rd_str hr6 (Ext.refl _) hnm
    have hx46 := hx45.trans hx6
    have h6 := h4.pass hx46
    (repeat (first | (with_reducible first | (refine hK _ _ ?_; clear hK K) | refine (show ∀ σ' w', _ → K σ' w' from by assumption) _ _ ?_ | refine W_seq_k fun K hK => ?_ | refine W_block_k fun K hK => ?_ | refine W_skip ?_ | refine W_ret ?_) | ((first | ((with_reducible refine W_id ?_); refine W_reg (by decide) (by rfl) ?_) | (with_reducible first | refine W_cond ?_ | refine hZ _ _ ?_ | refine W_exit ?_ | refine Wo_id ?_) | skip); repeat1' simp only [push_cast, seval, -Nat.reduceSubDiff, b3, b4, n6]) | ((repeat ((fail_if_success with_reducible refine hK _ _ ?_); clear hK K)); (with_reducible refine hK _ _ ?_); clear hK K)))
    refine (bimply_c h6 hO.ok hO.L nP nm).mono ?_
    rintro v w7 ⟨rfl, h7, -⟩
    rw [← hnm2] at h7 ⊢
    replace h7 : BuAt w0 w7 noP pb ps pl pa (op1 (opB k l) x) := h7
    rw [show (implyB (opB k l) (adName (x % 10))).2 = opI (opB k l) x from rfl]
    have d1 : Int.tmod (k : Int) 26 = ((k % 26 : Nat) : Int) := by
      rw [Int.tmod_eq_emod_of_nonneg (by omega)]; omega
    obtain ⟨z, hz⟩ : ∃ z, z = k % 26 := ⟨_, rfl⟩
    have hz26 : z < 26 := by rw [hz]; exact Nat.mod_lt _ (by decide)
    rw [← hz] at d1
    have d2 : inI64 (97 + (z : Int)) := by unfold inI64; omega
    have d3 : IntKind.u8.wrap (97 + (z : Int)) = ((UInt8.ofNat (97 + z)).toNat : Int) := by
      have : ∀ k, k < 26 → IntKind.u8.wrap (97 + ((k : Nat) : Int)) = ((UInt8.ofNat (97 + k)).toNat : Int) := by decide +kernel
      exact this z hz26
    have hS : opB (k + 1) l = charsB (op2 (opB k l) x) ⟨#[UInt8.ofNat (97 + z)]⟩ := by
      rw [opB, opS, opC, ← hz, List.getD_eq_getElem?_getD, hx]; rfl
    by_cases h6' : y < 6
    · have g6 : (y : Int) < 6 := by omega
      have e2 : op2 (opB k l) x = { op1 (opB k l) x with l := (pushN (op1 (opB k l) x).L (op1 (opB k l) x).l (opI (opB k l) x)).1 } := by unfold op2; rw [if_pos (by omega)]
      (repeat (first | (with_reducible first | (refine hK _ _ ?_; clear hK K) | refine (show ∀ σ' w', _ → K σ' w' from by assumption) _ _ ?_ | refine W_seq_k fun K hK => ?_ | refine W_block_k fun K hK => ?_ | refine W_skip ?_ | refine W_ret ?_) | ((first | ((with_reducible refine W_id ?_); refine W_reg (by decide) (by rfl) ?_) | (with_reducible first | refine W_cond ?_ | refine hZ _ _ ?_ | refine W_exit ?_ | refine Wo_id ?_) | skip); repeat1' simp only [push_cast, seval, -Nat.reduceSubDiff, g6]) | ((repeat ((fail_if_success with_reducible refine hK _ _ ?_); clear hK K)); (with_reducible refine hK _ _ ?_); clear hK K)))
      refine (bforms_c h7).mono ?_
      intro v w' ⟨hv, hw⟩
      subst hv; subst w'
      (repeat (first | (with_reducible first | (refine hK _ _ ?_; clear hK K) | refine (show ∀ σ' w', _ → K σ' w' from by assumption) _ _ ?_ | refine W_seq_k fun K hK => ?_ | refine W_block_k fun K hK => ?_ | refine W_skip ?_ | refine W_ret ?_) | ((first | ((with_reducible refine W_id ?_); refine W_reg (by decide) (by rfl) ?_) | (with_reducible first | refine W_cond ?_ | refine hZ _ _ ?_ | refine W_exit ?_ | refine Wo_id ?_) | skip); repeat1' simp only [push_cast, seval, -Nat.reduceSubDiff]) | ((repeat ((fail_if_success with_reducible refine hK _ _ ?_); clear hK K)); (with_reducible refine hK _ _ ?_); clear hK K)))
      refine (bfpush_c h7 hO.ok1 _).mono ?_
      rintro v w8 ⟨rfl, h8, -⟩
      rw [← e2] at h8
      rw [hO.push (by omega)]
      (repeat (first | (with_reducible first | (refine hK _ _ ?_; clear hK K) | refine (show ∀ σ' w', _ → K σ' w' from by assumption) _ _ ?_ | refine W_seq_k fun K hK => ?_ | refine W_block_k fun K hK => ?_ | refine W_skip ?_ | refine W_ret ?_) | ((first | ((with_reducible refine W_id ?_); refine W_reg (by decide) (by rfl) ?_) | (with_reducible first | refine W_cond ?_ | refine hZ _ _ ?_ | refine W_exit ?_ | refine Wo_id ?_) | skip); repeat1' simp only [push_cast, seval, -Nat.reduceSubDiff, eq_self, not_true_eq_false, c26, d1, d2, d3]) | ((repeat ((fail_if_success with_reducible refine hK _ _ ?_); clear hK K)); (with_reducible refine hK _ _ ?_); clear hK K)))
      refine one_byte _ fun b1_ w9 hx9 hb9 => ?_
      (repeat (first | (with_reducible first | (refine hK _ _ ?_; clear hK K) | refine (show ∀ σ' w', _ → K σ' w' from by assumption) _ _ ?_ | refine W_seq_k fun K hK => ?_ | refine W_block_k fun K hK => ?_ | refine W_skip ?_ | refine W_ret ?_) | ((first | ((with_reducible refine W_id ?_); refine W_reg (by decide) (by rfl) ?_) | (with_reducible first | refine W_cond ?_ | refine hZ _ _ ?_ | refine W_exit ?_ | refine Wo_id ?_) | skip); repeat1' simp only [push_cast, seval, -Nat.reduceSubDiff]) | ((repeat ((fail_if_success with_reducible refine hK _ _ ?_); clear hK K)); (with_reducible refine hK _ _ ?_); clear hK K)))
      refine one_text hb9 ?_
      (repeat (first | (with_reducible first | (refine hK _ _ ?_; clear hK K) | refine (show ∀ σ' w', _ → K σ' w' from by assumption) _ _ ?_ | refine W_seq_k fun K hK => ?_ | refine W_block_k fun K hK => ?_ | refine W_skip ?_ | refine W_ret ?_) | ((first | ((with_reducible refine W_id ?_); refine W_reg (by decide) (by rfl) ?_) | (with_reducible first | refine W_cond ?_ | refine hZ _ _ ?_ | refine W_exit ?_ | refine Wo_id ?_) | skip); repeat1' simp only [push_cast, seval, -Nat.reduceSubDiff]) | ((repeat ((fail_if_success with_reducible refine hK _ _ ?_); clear hK K)); (with_reducible refine hK _ _ ?_); clear hK K)))
      refine (bchars_c (h8.pass hx9) hO.ok2 ⟨#[UInt8.ofNat (97 + z)]⟩ (show (1 : Nat) < 1000000000 by decide) hO.txt).mono ?_
      rintro v w10 ⟨h10, -⟩
      (repeat (first | (with_reducible first | (refine hK _ _ ?_; clear hK K) | refine (show ∀ σ' w', _ → K σ' w' from by assumption) _ _ ?_ | refine W_seq_k fun K hK => ?_ | refine W_block_k fun K hK => ?_ | refine W_skip ?_ | refine W_ret ?_) | ((first | ((with_reducible refine W_id ?_); refine W_reg (by decide) (by rfl) ?_) | (with_reducible first | refine W_cond ?_ | refine hZ _ _ ?_ | refine W_exit ?_ | refine Wo_id ?_) | skip); repeat1' simp only [push_cast, seval, -Nat.reduceSubDiff, b2]) | ((repeat ((fail_if_success with_reducible refine hK _ _ ?_); clear hK K)); (with_reducible refine hK _ _ ?_); clear hK K)))
      refine ⟨k + 1, by omega, ?_⟩
      (repeat simp only [push_cast, seval, -Nat.reduceSubDiff])
      exact ⟨by omega, by rw [hS]; exact h10⟩
    · have g6 : ¬ (y : Int) < 6 := by omega
      have e2 : op2 (opB k l) x = op1 (opB k l) x := by unfold op2; rw [if_neg (by omega)]
      rw [← e2] at h7
      (repeat (first | (with_reducible first | (refine hK _ _ ?_; clear hK K) | refine (show ∀ σ' w', _ → K σ' w' from by assumption) _ _ ?_ | refine W_seq_k fun K hK => ?_ | refine W_block_k fun K hK => ?_ | refine W_skip ?_ | refine W_ret ?_) | ((first | ((with_reducible refine W_id ?_); refine W_reg (by decide) (by rfl) ?_) | (with_reducible first | refine W_cond ?_ | refine hZ _ _ ?_ | refine W_exit ?_ | refine Wo_id ?_) | skip); repeat1' simp only [push_cast, seval, -Nat.reduceSubDiff, g6, c26, d1, d2, d3]) | ((repeat ((fail_if_success with_reducible refine hK _ _ ?_); clear hK K)); (with_reducible refine hK _ _ ?_); clear hK K)))
      refine one_byte _ fun b1_ w9 hx9 hb9 => ?_
      (repeat (first | (with_reducible first | (refine hK _ _ ?_; clear hK K) | refine (show ∀ σ' w', _ → K σ' w' from by assumption) _ _ ?_ | refine W_seq_k fun K hK => ?_ | refine W_block_k fun K hK => ?_ | refine W_skip ?_ | refine W_ret ?_) | ((first | ((with_reducible refine W_id ?_); refine W_reg (by decide) (by rfl) ?_) | (with_reducible first | refine W_cond ?_ | refine hZ _ _ ?_ | refine W_exit ?_ | refine Wo_id ?_) | skip); repeat1' simp only [push_cast, seval, -Nat.reduceSubDiff]) | ((repeat ((fail_if_success with_reducible refine hK _ _ ?_); clear hK K)); (with_reducible refine hK _ _ ?_); clear hK K)))
      refine one_text hb9 ?_
      (repeat (first | (with_reducible first | (refine hK _ _ ?_; clear hK K) | refine (show ∀ σ' w', _ → K σ' w' from by assumption) _ _ ?_ | refine W_seq_k fun K hK => ?_ | refine W_block_k fun K hK => ?_ | refine W_skip ?_ | refine W_ret ?_) | ((first | ((with_reducible refine W_id ?_); refine W_reg (by decide) (by rfl) ?_) | (with_reducible first | refine W_cond ?_ | refine hZ _ _ ?_ | refine W_exit ?_ | refine Wo_id ?_) | skip); repeat1' simp only [push_cast, seval, -Nat.reduceSubDiff]) | ((repeat ((fail_if_success with_reducible refine hK _ _ ?_); clear hK K)); (with_reducible refine hK _ _ ?_); clear hK K)))
      refine (bchars_c (h7.pass hx9) hO.ok2 ⟨#[UInt8.ofNat (97 + z)]⟩ (show (1 : Nat) < 1000000000 by decide) hO.txt).mono ?_
      rintro v w10 ⟨h10, -⟩
      (repeat (first | (with_reducible first | (refine hK _ _ ?_; clear hK K) | refine (show ∀ σ' w', _ → K σ' w' from by assumption) _ _ ?_ | refine W_seq_k fun K hK => ?_ | refine W_block_k fun K hK => ?_ | refine W_skip ?_ | refine W_ret ?_) | ((first | ((with_reducible refine W_id ?_); refine W_reg (by decide) (by rfl) ?_) | (with_reducible first | refine W_cond ?_ | refine hZ _ _ ?_ | refine W_exit ?_ | refine Wo_id ?_) | skip); repeat1' simp only [push_cast, seval, -Nat.reduceSubDiff, b2]) | ((repeat ((fail_if_success with_reducible refine hK _ _ ?_); clear hK K)); (with_reducible refine hK _ _ ?_); clear hK K)))
      refine ⟨k + 1, by omega, ?_⟩
      (repeat simp only [push_cast, seval, -Nat.reduceSubDiff])
      exact ⟨by omega, by rw [hS]; exact h10⟩
  · have hke : k = l.length := by omega
    subst hke
    have b0 : ¬ (l.length : Int) < (l.length : Int) := by omega
    (repeat (first | (with_reducible first | (refine hK _ _ ?_; clear hK K) | refine (show ∀ σ' w', _ → K σ' w' from by assumption) _ _ ?_ | refine W_seq_k fun K hK => ?_ | refine W_block_k fun K hK => ?_ | refine W_skip ?_ | refine W_ret ?_) | ((first | ((with_reducible refine W_id ?_); refine W_reg (by decide) (by rfl) ?_) | (with_reducible first | refine W_cond ?_ | refine hZ _ _ ?_ | refine W_exit ?_ | refine Wo_id ?_) | skip); repeat1' simp only [push_cast, seval, -Nat.reduceSubDiff, b0]) | ((repeat ((fail_if_success with_reducible refine hK _ _ ?_); clear hK K)); (with_reducible refine hK _ _ ?_); clear hK K)))
    exact ⟨pb, rfl, ps, pl, pa, h4⟩
end Go.Proofs.YtgnnlaeikcnhcaaGreatDoor
end
section
set_option linter.unusedSimpArgs false
set_option linter.unusedVariables false
namespace Go.Vk
open Go
def txK (f : Int → ByteArray) : List Int → ByteArray → ByteArray
  | [], s => s
  | k :: r, s => txK f r (s ++ f k)
def txF (L : List Nd) : Nat → Int → ByteArray
  | 0, _ => ⟨#[]⟩
  | n + 1, i => if i < 0 ∨ (L.length : Int) ≤ i then ⟨#[]⟩ else txK (txF L n) (gN L i).kids (gN L i).text
/-- so deep it goes, and no text is too large -/
def txD (L : List Nd) : Nat → Int → Bool
  | 0, _ => false
  | n + 1, i => if i < 0 ∨ (L.length : Int) ≤ i then true else decide ((txF L (n + 1) i).size < 1000000) && (decide ((gN L i).kids.length < 1000000) && (gN L i).kids.all (txD L n))
theorem txK_size (f : Int → ByteArray) : ∀ (l : List Int) (s : ByteArray), s.size ≤ (txK f l s).size
  | [], s => Nat.le_refl _
  | k :: l, s => by
    rw [txK]
    have := txK_size f l (s ++ f k)
    rw [ByteArray.size_append] at this
    omega
end Go.Vk
namespace Go.Proofs.YtgnnlaeikcnhcaaGreatDoor
open Go Go.Vk
set_option maxHeartbeats 40000000
set_option maxRecDepth 10000 in
theorem texts_c {w : World} {v : Value} {T : List Laid} {bo : Option Nat} (hT : NdsAt w v T bo) (hb : T.length < 100000) : ∀ (n : Nat) (i : Int), txD (T.map Laid.nd) n i = true →
    Gives Tryz.prog 67 #[v, .int .i64 i] w fun u w' => u = .string (txF (T.map Laid.nd) n i) ∧ w' = w
  | 0, _, h => by simp [txD] at h
  | n + 1, i, h => by
    obtain ⟨a, c, rfl, hc⟩ := hT.len
    have hN : (T.map Laid.nd).length = T.length := by simp
    obtain ⟨S, hS⟩ : ∃ S, S = txF (T.map Laid.nd) (n + 1) i := ⟨_, rfl⟩
    rw [← hS]
    rw [txF, hN] at hS
    by_cases h0 : i < 0
    · rw [if_pos (.inl h0)] at hS
      subst hS
      refine Gives.of_W Tryz.call67 Tryz.func67 rfl Tryz.ntmps67 (by simp) ?_; intro Z hZ
      (repeat (first | (with_reducible first | (refine hK _ _ ?_; clear hK K) | refine (show ∀ σ' w', _ → K σ' w' from by assumption) _ _ ?_ | refine W_seq_k fun K hK => ?_ | refine W_block_k fun K hK => ?_ | refine W_skip ?_ | refine W_ret ?_) | ((first | ((with_reducible refine W_id ?_); refine W_reg (by decide) (by rfl) ?_) | (with_reducible first | refine W_cond ?_ | refine hZ _ _ ?_ | refine W_exit ?_ | refine Wo_id ?_) | skip); repeat1' simp only [push_cast, seval, -Nat.reduceSubDiff, h0]) | ((repeat ((fail_if_success with_reducible refine hK _ _ ?_); clear hK K)); (with_reducible refine hK _ _ ?_); clear hK K)))
    by_cases h1 : (T.length : Int) ≤ i
    · rw [if_pos (.inr h1)] at hS
      subst hS
      refine Gives.of_W Tryz.call67 Tryz.func67 rfl Tryz.ntmps67 (by simp) ?_; intro Z hZ
      (repeat (first | (with_reducible first | (refine hK _ _ ?_; clear hK K) | refine (show ∀ σ' w', _ → K σ' w' from by assumption) _ _ ?_ | refine W_seq_k fun K hK => ?_ | refine W_block_k fun K hK => ?_ | refine W_skip ?_ | refine W_ret ?_) | ((first | ((with_reducible refine W_id ?_); refine W_reg (by decide) (by rfl) ?_) | (with_reducible first | refine W_cond ?_ | refine hZ _ _ ?_ | refine W_exit ?_ | refine Wo_id ?_) | skip); repeat1' simp only [push_cast, seval, -Nat.reduceSubDiff, h0, h1]) | ((repeat ((fail_if_success with_reducible refine hK _ _ ?_); clear hK K)); (with_reducible refine hK _ _ ?_); clear hK K)))
    rw [if_neg (by omega)] at hS
    obtain ⟨j, rfl⟩ : ∃ j : Nat, i = j := ⟨i.toNat, by omega⟩
    have hj : j < T.length := by omega
    obtain ⟨m, hm⟩ : ∃ m, T[j]? = some m := ⟨_, List.getElem?_eq_getElem hj⟩
    have hg : gN (T.map Laid.nd) j = m.nd := gN_nat (by rw [List.getElem?_map, hm]; rfl)
    rw [txD, hN, if_neg (by omega), hg] at h
    simp only [Bool.and_eq_true, decide_eq_true_eq] at h
    obtain ⟨hsz, hkl9, hks⟩ := h
    rw [hg] at hS
    have hSz : S.size < 1000000 := by
      have e : txF (T.map Laid.nd) (n + 1) j = S := by rw [txF, hN, if_neg (by omega), hg, hS]
      rw [e] at hsz; exact hsz
    obtain ⟨b, o, n', c', e, _⟩ := hT.sl.some_of (by intro e; have := flat_length T; rw [e] at this; simp at this; omega)
    cases e
    have c2 := hT.get hm (j := 2) (by decide)
    have c8 := hT.get hm (j := 8) (by decide)
    simp only [Laid.cells, List.getElem?_cons_zero, List.getElem?_cons_succ] at c2 c8
    have hkk := (hT.ok m (List.mem_of_getElem? hm)).kids
    obtain ⟨ka, kc, ekv, _⟩ := hkk.ints_len
    rw [ekv] at c8 hkk
    have b0 : (0 : Int) ≤ (j : Int) := by omega
    have b1 : (j : Int) < (T.length : Int) := by omega
    refine Gives.of_W Tryz.call67 Tryz.func67 rfl Tryz.ntmps67 (by simp) ?_; intro Z hZ
    (repeat (first | (with_reducible first | (refine hK _ _ ?_; clear hK K) | refine (show ∀ σ' w', _ → K σ' w' from by assumption) _ _ ?_ | refine W_seq_k fun K hK => ?_ | refine W_block_k fun K hK => ?_ | refine W_skip ?_ | refine W_ret ?_) | ((first | ((with_reducible refine W_id ?_); refine W_reg (by decide) (by rfl) ?_) | (with_reducible first | refine W_cond ?_ | refine hZ _ _ ?_ | refine W_exit ?_ | refine Wo_id ?_) | skip); repeat1' simp only [push_cast, seval, -Nat.reduceSubDiff, h0, h1, b0, b1, c2]) | ((repeat ((fail_if_success with_reducible refine hK _ _ ?_); clear hK K)); (with_reducible refine hK _ _ ?_); clear hK K)))
    refine W_loop (S := Nat × ByteArray) (fun z => [(0, .slice (some ⟨b, o, none⟩) T.length c), (1, .int .i64 (j : Int)), (5, .string z.2), (6, .int .i64 (z.1 : Int))])
      (fun z w2 => z.1 ≤ m.nd.kids.length ∧ S = txK (txF (T.map Laid.nd) n) (m.nd.kids.drop z.1) z.2 ∧ w2 = w) (fun z => m.nd.kids.length - z.1) (0, m.nd.text) ?_ ?_ ?_
    · (repeat simp only [push_cast, seval, -Nat.reduceSubDiff])
    · exact ⟨by simp, hS, rfl⟩
    rintro ⟨k, s⟩ w2 ⟨hk, he, hw2⟩
    subst w2
    dsimp only at hk he ⊢
    by_cases hkl : k < m.nd.kids.length
    · obtain ⟨t, ht⟩ : ∃ t, m.nd.kids[k]? = some t := ⟨_, List.getElem?_eq_getElem hkl⟩
      have d0 : (k : Int) < (m.nd.kids.length : Int) := by omega
      have d1 : (0 : Int) ≤ (k : Int) := by omega
      have d2 : inI64 ((k : Int) + 1) := by unfold inI64; omega
      obtain ⟨kb, ko, kn, kc', e, _⟩ := hkk.some_of (kids_ne hkl)
      cases e
      have d3 := hkk.ints_cell ht
      have hdr : m.nd.kids.drop k = t :: m.nd.kids.drop (k + 1) := by
        rw [List.drop_eq_getElem_cons hkl]
        congr 1
        have := List.getElem?_eq_getElem hkl
        rw [ht] at this
        exact (Option.some.inj this).symm
      rw [hdr, txK] at he
      have hkt := List.all_eq_true.1 hks t (List.mem_of_getElem? ht)
      have hle := txK_size (txF (T.map Laid.nd) n) (m.nd.kids.drop (k + 1)) (s ++ txF (T.map Laid.nd) n t)
      rw [← he, ByteArray.size_append] at hle
      have hss : s.size + (txF (T.map Laid.nd) n t).size ≤ 9223372036854775807 := by omega
      (repeat (first | (with_reducible first | (refine hK _ _ ?_; clear hK K) | refine (show ∀ σ' w', _ → K σ' w' from by assumption) _ _ ?_ | refine W_seq_k fun K hK => ?_ | refine W_block_k fun K hK => ?_ | refine W_skip ?_ | refine W_ret ?_) | ((first | ((with_reducible refine W_id ?_); refine W_reg (by decide) (by rfl) ?_) | (with_reducible first | refine W_cond ?_ | refine hZ _ _ ?_ | refine W_exit ?_ | refine Wo_id ?_) | skip); repeat1' simp only [push_cast, seval, -Nat.reduceSubDiff, b0, b1, c8, d0, d1, d3]) | ((repeat ((fail_if_success with_reducible refine hK _ _ ?_); clear hK K)); (with_reducible refine hK _ _ ?_); clear hK K)))
      refine (texts_c hT hb n t hkt).mono ?_
      intro v w' ⟨hv, hw⟩
      subst hv; subst w'
      (repeat (first | (with_reducible first | (refine hK _ _ ?_; clear hK K) | refine (show ∀ σ' w', _ → K σ' w' from by assumption) _ _ ?_ | refine W_seq_k fun K hK => ?_ | refine W_block_k fun K hK => ?_ | refine W_skip ?_ | refine W_ret ?_) | ((first | ((with_reducible refine W_id ?_); refine W_reg (by decide) (by rfl) ?_) | (with_reducible first | refine W_cond ?_ | refine hZ _ _ ?_ | refine W_exit ?_ | refine Wo_id ?_) | skip); repeat1' simp only [push_cast, seval, -Nat.reduceSubDiff, hss, d2]) | ((repeat ((fail_if_success with_reducible refine hK _ _ ?_); clear hK K)); (with_reducible refine hK _ _ ?_); clear hK K)))
      refine ⟨(k + 1, s ++ txF (T.map Laid.nd) n t), by show _ - (k + 1) < _ - k; omega, ?_⟩
      (repeat simp only [push_cast, seval, -Nat.reduceSubDiff])
      exact ⟨by omega, he⟩
    · have d0 : ¬ (k : Int) < (m.nd.kids.length : Int) := by omega
      rw [List.drop_eq_nil_of_le (by omega), txK] at he
      (repeat (first | (with_reducible first | (refine hK _ _ ?_; clear hK K) | refine (show ∀ σ' w', _ → K σ' w' from by assumption) _ _ ?_ | refine W_seq_k fun K hK => ?_ | refine W_block_k fun K hK => ?_ | refine W_skip ?_ | refine W_ret ?_) | ((first | ((with_reducible refine W_id ?_); refine W_reg (by decide) (by rfl) ?_) | (with_reducible first | refine W_cond ?_ | refine hZ _ _ ?_ | refine W_exit ?_ | refine Wo_id ?_) | skip); repeat1' simp only [push_cast, seval, -Nat.reduceSubDiff, b0, b1, c8, d0]) | ((repeat ((fail_if_success with_reducible refine hK _ _ ?_); clear hK K)); (with_reducible refine hK _ _ ?_); clear hK K)))
      rw [he]
end Go.Proofs.YtgnnlaeikcnhcaaGreatDoor
end
section
set_option linter.unusedSimpArgs false
set_option linter.unusedVariables false
namespace Go.Vk
open Go
def zRow : Array Value := #[.pointer none, .pointer none, .pointer none, .int .i64 0, .int .i64 0, .slice none 0 0, .int .i64 0, .int .i64 0, .bool false, .bool false, .bool false, .string ⟨#[]⟩, .pointer none, .nilIface]
def NoB (w : World) (pv : Option Addr) : Prop := pv = none ∨ ∃ pb, pv = some ⟨pb, 0, none⟩ ∧ w.heap[pb]? = some (.cells zRow 67 (0, 0))
theorem NoB.ext {w w' : World} {pv : Option Addr} (h : NoB w pv) (hx : Ext w w') : NoB w' pv := h.imp id fun ⟨pb, e, h⟩ => ⟨pb, e, hx.blk h⟩
end Go.Vk
end
section
set_option linter.unusedSimpArgs false
set_option linter.unusedVariables false
namespace Go.Vk
open Go Go.RowKit Go.WideShapes Go.ChangeShapes
variable {H : Type} {enc : TypeId × Value → H} {P : Program}
theorem Ext.below {w w' : World} (h : Ext w w') : Below w.heap.size w w' := ⟨h.alike.os, h.alike.tape, h.alike.output, h.alike.size, fun _ hk => h.heap hk⟩
theorem post_ext {f : Func} {s : ChangeSpec} {apart fresh handsOn again : Bool} {W W' : World} {args : Array Value} {v : Value} {ds gs : List (DataW H)} {before pa pv : List MemPlace}
    (hW : DataW.Whole enc P f.params.toList s.vars apart W args.toList ds gs before)
    (hres : ∀ (b : Nat) (sp : Nat → Bool) (hd : Bool), DataW.TrodAll enc P W' b sp hd f.resultTypes.toList (v.resultList f.resultTypes.size) (s.fn H (ds ++ gs)).results [])
    (hargs : ∀ sp : Nat → Bool, (∀ p ∈ before, sp p.block = true) → DataW.TrodAll enc P W' 0 sp true f.params.toList args.toList (s.fn H (ds ++ gs)).args pa)
    (hvars : ∀ sp : Nat → Bool, (∀ p ∈ before, sp p.block = true) → DataW.TrodVars enc P W' sp s.vars (s.fn H (ds ++ gs)).vars pv)
    (hps : before = pa ++ pv) (hx : Ext W W')
    (hok : ∀ (j : Nat) (t : TypeId) (r : Value), f.resultTypes[j]? = some t → (v.resultList f.resultTypes.size)[j]? = some r → Value.okWide P W' .any 0 t r) :
    s.post enc P f apart fresh handsOn again W args v W' := by
  subst hps
  have hb := hx.below
  have lt : ∀ p ∈ pa ++ pv, p.block < W.heap.size := fun p hp => hW.lt p hp
  have old : ∀ p ∈ pa ++ pv, (fun b => decide (b < W.heap.size)) p.block = true := fun p hp => by simpa using lt p hp
  refine ⟨ds, gs, pa ++ pv, [], pa, pv, hW, hres _ _ _, hargs _ old, hvars _ old, World.keptBut_mono (fun p hp => ⟨hp, .inr (List.mem_append.1 hp)⟩) (hb.frame (· ∈ pa ++ pv)), fun _ => ?_⟩
  obtain ⟨_, _, _, _, _, hz, hn⟩ := hW
  refine ⟨hok, _, _, ([] ++ pa) ++ pv, ⟨[] ++ pa, pv, trodAll_append (hargs _ fun _ _ => rfl) (hres _ _ _), hvars _ fun _ _ => rfl, rfl, fun b off hp => ?_, fun ha => by simpa using hn ha⟩, fun p hp _ => by simpa using hp⟩
  have hin : MemPlace.cell b off ∈ pa ++ pv := by simpa using hp
  rw [hb.frozen (lt _ hin)]
  exact hz b off hin
end Go.Vk
end
section
set_option linter.unusedSimpArgs false
set_option linter.unusedVariables false
namespace Go.Vk
open Go Go.RowKit Go.WideShapes Go.ChangeShapes
variable {H : Type} {enc : TypeId × Value → H} {P : Program}
theorem stays_all (hl : laidOutB P = true) {W W' : World} (hx : Ext W W') {sp : Nat → Bool} : ∀ {ts : List TypeId} {vs : List Value} {ds : List (DataW H)} {ps : List MemPlace},
    DataW.TrodAll enc P W 0 (fun _ => true) true ts vs ds ps → (ts.all fun t => P.readableRec t && decide (t < P.types.size)) = true → (∀ p ∈ ps, p.block < W.heap.size) → (∀ p ∈ ps, sp p.block = true) →
    DataW.TrodAll enc P W' 0 sp true ts vs ds ps
  | [], vs, ds, ps, h, _, _, _ => by
    obtain ⟨rfl, rfl, rfl⟩ := trodAll_nil h
    exact trodAll_mk0
  | t :: ts, vs, ds, ps, h, ht, hlt, hs => by
    obtain ⟨v, vs', d, ds', p, q, rfl, rfl, rfl, h0, hr⟩ := trodAll_cons h
    simp only [List.all_cons, Bool.and_eq_true, decide_eq_true_eq] at ht
    exact trodAll_cons_mk (WideElems.Trod_stays hl ht.1.1 ht.1.2 h0 (fun x hx' => hx.below.same (hlt x (by simp [hx']))) (fun x hx' => hs x (by simp [hx'])))
      (stays_all hl hx hr (by simpa using ht.2) (fun x hx' => hlt x (by simp [hx'])) (fun x hx' => hs x (by simp [hx'])))
theorem law_post {f : Func} {s : ChangeSpec} {fresh handsOn again : Bool} {W W' : World} {args : Array Value} {ds gs : List (DataW H)} {before : List MemPlace} {tb : TypeId}
    (hl : laidOutB P = true) (hts : (f.params.toList.all fun t => P.readableRec t && decide (t < P.types.size)) = true) (hb : P.underlying tb = some .bool) (hres : f.resultTypes = #[tb])
    (hvars : s.vars = []) (hfn : s.fn H (ds ++ gs) = { results := [.lit (.bool true)], args := ds })
    (hW : DataW.Whole enc P f.params.toList s.vars false W args.toList ds gs before) (hx : Ext W W') :
    s.post enc P f false fresh handsOn again W args (.bool true) W' := by
  have hlt : ∀ p ∈ before, p.block < W.heap.size := fun p hp => hW.lt p hp
  have hW' := hW
  obtain ⟨p, q, hA, hV, rfl, hfz, hnd⟩ := hW
  rw [hvars] at hV
  obtain ⟨rfl, rfl⟩ := trodVars_none hV
  rw [List.append_nil] at *
  refine post_ext (pa := p) (pv := []) hW' (fun b sp hd => ?_) (fun sp hs => ?_) (fun sp hs => ?_) (by simp) hx (fun j t r hj hv => ?_)
  · rw [hres, List.append_nil, hfn]
    exact trodAll_cons_mk (shut_bool hb _) trodAll_mk0
  · rw [List.append_nil, hfn]
    exact stays_all hl hx hA hts hlt hs
  · rw [List.append_nil, hfn, hvars]; rfl
  · rw [hres] at hj hv
    match j, hj, hv with
    | 0, hj, hv =>
      simp [Value.resultList] at hj hv
      subst hj; subst hv
      exact okWide_bool_mk hb _
/-- a slice that was handed in: what it reads -/
theorem rd_of {W : World} {a : Addr} {n c : Nat} {l : List Value} {es : Nat} (hn : n ≤ c) (hl : l.length = n * es) (hc : ∀ i, i < l.length → W.cell? (a.add i) = l[i]?) : RdAt W es (.slice (some a) n c) l := by
  refine ⟨some a, n, c, rfl, hn, hl, fun i u hu => ?_⟩
  have hi := (List.getElem?_eq_some_iff.1 hu).1
  have h0 := hc 0 (by omega)
  have hs : a.spot = none := by
    rw [List.getElem?_eq_getElem (by omega)] at h0
    simp only [Addr.add, if_pos] at h0
    cases hsp : a.spot with
    | none => rfl
    | some x =>
      exfalso
      unfold World.cell? at h0
      rw [hsp] at h0
      cases hb : W.heap[a.block]? with
      | none => rw [hb] at h0; cases h0
      | some o => rw [hb] at h0; cases o <;> simp at h0
  obtain ⟨b, o, s⟩ := a
  simp only at hs
  subst hs
  refine ⟨b, o, rfl, ?_⟩
  rw [← hu, ← hc i hi, add_mk]
end Go.Vk
end
section
set_option linter.unusedSimpArgs false
set_option linter.unusedVariables false
namespace Go.Vk
def NA (w : World) (v : Value) : Prop := v = .pointer none ∨ ∃ pa t, v = .pointer (some ⟨pa, 0, none⟩) ∧ w.heap[pa]? = some (.cells #[.slice none 0 0] t (0, 0))
theorem NA.ext {w w' : World} {v : Value} (h : NA w v) (hx : Ext w w') : NA w' v := by
  rcases h with h | ⟨pa, t, h1, h2⟩
  · exact .inl h
  · exact .inr ⟨pa, t, h1, hx.blk h2⟩
end Go.Vk
end
section
set_option linter.unusedSimpArgs false
set_option linter.unusedVariables false
namespace Go.Vk
structure ActD where
  kd : Int
  i : Int
  j : Int
  m : Laid
def ActD.cells (x : ActD) : List Value := [.int .u8 x.kd, .int .i64 x.i, .int .i64 x.j, .int .i64 x.m.nd.kind, .string x.m.nd.name, .string x.m.nd.text, .int .i64 x.m.nd.space, x.m.av, .bool x.m.nd.dup, .int .i64 x.m.nd.parent, .int .i64 x.m.nd.content, x.m.kv, .int .i64 x.m.nd.frm, .int .i64 x.m.nd.to]
def ActD.val (x : ActD) : Value := .agg #[.int .u8 x.kd, .int .i64 x.i, .int .i64 x.j, .int .i64 x.m.nd.kind, .string x.m.nd.name, .string x.m.nd.text, .int .i64 x.m.nd.space, x.m.av, .bool x.m.nd.dup, .int .i64 x.m.nd.parent, .int .i64 x.m.nd.content, x.m.kv, .int .i64 x.m.nd.frm, .int .i64 x.m.nd.to]
end Go.Vk
end
section
set_option linter.unusedSimpArgs false
set_option linter.unusedVariables false
namespace Go.Vk
def ActsAt (w : World) (v : Value) (l : List ActD) : Prop := ∃ a c, v = .slice a l.length c ∧ l.length ≤ c ∧ ∀ k x, l[k]? = some x → ∃ b o, a = some ⟨b, o, none⟩ ∧ (∀ j, j < 14 → w.cell? ⟨b, o + k * 14 + j, none⟩ = x.cells[j]?) ∧ RdAt w 2 x.m.av (attrCells x.m.nd.attrs) ∧ ∃ ka kn kc, x.m.kv = .slice ka kn kc
theorem ActD.cells_get (x : ActD) {j : Nat} (hj : j < 14) : ∃ v, x.cells[j]? = some v := ⟨_, List.getElem?_eq_getElem (show j < x.cells.length from hj)⟩
theorem ActsAt.ext {w w' : World} {v : Value} {l : List ActD} (h : ActsAt w v l) (hx : Ext w w') : ActsAt w' v l := by
  obtain ⟨a, c, h1, h2, h3⟩ := h
  refine ⟨a, c, h1, h2, fun k x hk => ?_⟩
  obtain ⟨b, o, g1, g2, g3, g4⟩ := h3 k x hk
  refine ⟨b, o, g1, fun j hj => ?_, g3.ext hx, g4⟩
  obtain ⟨u, hu⟩ := x.cells_get hj
  rw [hu, cell_ext hx ((g2 j hj).trans hu)]
end Go.Vk
end
section
set_option linter.unusedSimpArgs false
set_option linter.unusedVariables false
namespace Go.Vk
theorem NA.set {w : World} {v : Value} {p o : Nat} {u : Value} {cs : Array Value} {t : TypeId} (h : NA w v) (hp : w.heap[p]? = some (.cells cs t (0, 0))) (hs : cs.size = 14) : NA (w.setCell ⟨p, o, none⟩ u) v := by
  rcases h with h | ⟨pa, t', h1, h2⟩
  · exact .inl h
  · refine .inr ⟨pa, t', h1, ?_⟩
    have hne : ¬ pa = p := fun e => by
      subst e
      rw [h2] at hp
      cases hp
      simp at hs
    rw [heap_set_h, if_neg hne]; exact h2
def ActD.row (x : ActD) (k : Int) : Array Value := #[.int .u8 k, .int .i64 x.i, .int .i64 x.j, .int .i64 x.m.nd.kind, .string x.m.nd.name, .string x.m.nd.text, .int .i64 x.m.nd.space, x.m.av, .bool x.m.nd.dup, .int .i64 x.m.nd.parent, .int .i64 x.m.nd.content, x.m.kv, .int .i64 x.m.nd.frm, .int .i64 x.m.nd.to]
end Go.Vk
end
section
set_option linter.unusedSimpArgs false
set_option linter.unusedVariables false
namespace Go.Vk
open Go Go.Proofs.YtgnnlaeikcnhcaaGreatDoor
def adOkb (b : BSt) : Bool := okb b && (decide (b.L.length + 2 * b.s.length + 6 < 80000) && (decide (b.s.length + 2 < 10000) && (decide (b.l.length + 2 < 10000) && b.s.all fun o => decide (o.name.size < 4294967281))))
theorem adOkb_ok {b : BSt} (h : adOkb b = true) : AdOk b := by
  simp only [adOkb, Bool.and_eq_true, decide_eq_true_eq, List.all_eq_true] at h
  obtain ⟨h1, h2, h3, h4, h5⟩ := h
  obtain ⟨k1, _, _, k2, _⟩ := okb_ok h1
  exact ⟨k1, by omega, h3, h4, k2, h5⟩
def runOkb (name : ByteArray) : Nat → BSt → Bool
  | 0, _ => true
  | n + 1, b => adOkb b && (!(onceB b name).2.2 || (!(onceB b name).2.1 || runOkb name n (onceB b name).1))
theorem runOkb_ok {name : ByteArray} : ∀ {n : Nat} {b : BSt}, runOkb name n b = true → runOk name n b
  | 0, _, _ => trivial
  | n + 1, b, h => by
    rw [runOkb, Bool.and_eq_true] at h
    refine ⟨adOkb_ok h.1, fun h1 h2 => ?_⟩
    have h3 := h.2
    rw [h1, h2] at h3
    exact runOkb_ok (by simpa using h3)
def opOkb (b : BSt) (x : Nat) : Bool := okb b && (okb (op1 b x) && (okb (op2 b x) && (decide (¬ x % 10 < 6 ∨ (pushN (op1 b x).L (op1 b x).l (opI b x)).2 = 0) && (op2 b x).L.all fun n => decide (n.text.size < 1000000000))))
theorem opOkb_ok {b : BSt} {x : Nat} (h : opOkb b x = true) : OpOk b x := by
  simp only [opOkb, Bool.and_eq_true, decide_eq_true_eq, List.all_eq_true] at h
  obtain ⟨h1, h2, h3, h4, h5⟩ := h
  obtain ⟨k1, k2, _⟩ := okb_ok h1
  exact ⟨k1, k2, fun hx => h4.resolve_left (fun hn => hn hx), (okb_ok h2).1, (okb_ok h3).1, h5⟩
def sB : ByteArray := ⟨#[98]⟩
def neA : BSt := opB 2 [0, 1]
def neA2 : BSt := (runB neA sB).1
def neC : BSt := opB 2 [0, 7]
def neC2 : BSt := (runB neC sB).1
theorem neA_ok : ∀ i x, ([0, 1] : List Nat)[i]? = some x → OpOk (opB i [0, 1]) x := by
  intro i x h
  match i, h with
  | 0, h => cases h; exact opOkb_ok (by kernel_rfl)
  | 1, h => cases h; exact opOkb_ok (by kernel_rfl)
theorem neC_ok : ∀ i x, ([0, 7] : List Nat)[i]? = some x → OpOk (opB i [0, 7]) x := by
  intro i x h
  match i, h with
  | 0, h => cases h; exact opOkb_ok (by kernel_rfl)
  | 1, h => cases h; exact opOkb_ok (by kernel_rfl)
theorem neA_run : runOkb sB 8 neA = true := by kernel_rfl
theorem neC_run : runOkb sB 8 neC = true := by kernel_rfl
theorem neD_run : runOkb sB 8 gb2 = true := by kernel_rfl
theorem ne_1 : (runB neA sB).2 = true := by kernel_rfl
theorem ne_2 : (neA2.s.length, neA2.l.length) = (2, 1) := by kernel_rfl
theorem ne_3 : (runB neC sB).2 = true := by kernel_rfl
theorem ne_4 : (neC2.s.length, neC2.l.length) = (3, 0) := by kernel_rfl
theorem ne_5 : (runB gb2 sB).2 = false := by kernel_rfl
theorem ne_6 : okb neC2 = true := by kernel_rfl
theorem ne_ad : (adOkb neA, adOkb neC, adOkb gb2) = (true, true, true) := by kernel_rfl
end Go.Vk
end
section
set_option linter.unusedSimpArgs false
set_option linter.unusedVariables false
namespace Go.Proofs.YtgnnlaeikcnhcaaGreatDoor
open Go Go.Vk
set_option maxHeartbeats 40000000
theorem bs_u8 {w : World} {l : List Nat} {n : Nat} {parts : List (Nat × Value)} {K : Value → World → Prop} (hn : l.length = n) (h0 : 0 < n) (h1 : n ≤ 4096)
    (hf : Instr.fill (fun i => some (i * 1, 1)) ((Array.range (n * 1)).map ((Value.int .u8 0).cells[· % (Value.int .u8 0).cells.size]!)) parts = some (u8Cells l).toArray)
    (h : ∀ v w', Ext w w' → RdAt w' 1 v (u8Cells l) → K v w') : RunV Tryz.prog (Instr.buildSlice 22 n parts.toArray) w K := by
  refine bs_of styB (n := n) (by omega) (by omega) Tryz.zeroValue5 hf ?_
  refine h _ _ (Ext.alloc _ _) ?_
  have := (SlAt.new w 1 (u8Cells l).toArray 5 n (by simp [u8Cells, hn])).rd
  simpa using this
theorem opened_nil {w0 : World} : Gives Tryz.prog 66 #[.slice none 0 0] w0 fun v w' => ∃ pb ps pl pa, v = .pointer (some ⟨pb, 0, none⟩) ∧ BuAt w0 w' noP pb ps pl pa gb2 :=
  opened_c (l := []) ⟨none, 0, 0, rfl, Nat.le_refl _, rfl, fun i u hu => by simp [u8Cells] at hu⟩ (by simp) (by decide) (fun i x h => by simp at h)
set_option maxHeartbeats 1000000 in
set_option maxRecDepth 20000 in
theorem nested_c {w : World} (hg : GL w) : Gives Tryz.prog 50 #[] w fun v w' => v = .bool true ∧ Ext w w' := by
  have had := ne_ad
  simp only [Prod.mk.injEq] at had
  have hA := adOkb_ok had.1
  have hC := adOkb_ok had.2.1
  have hD := adOkb_ok had.2.2
  have h2 := ne_2
  have h4 := ne_4
  simp only [Prod.mk.injEq] at h2 h4
  obtain ⟨ok6, ok6L, _⟩ := okb_ok ne_6
  refine Gives.of_W Tryz.call50 Tryz.func50 rfl Tryz.ntmps50 (by simp) ?_; intro Z hZ
  (repeat (first | (with_reducible first | (refine hK _ _ ?_; clear hK K) | refine (show ∀ σ' w', _ → K σ' w' from by assumption) _ _ ?_ | refine W_seq_k fun K hK => ?_ | refine W_block_k fun K hK => ?_ | refine W_skip ?_ | refine W_ret ?_) | ((first | ((with_reducible refine W_id ?_); refine W_reg (by decide) (by rfl) ?_) | (with_reducible first | refine W_cond ?_ | refine hZ _ _ ?_ | refine W_exit ?_ | refine Wo_id ?_) | skip); repeat1' simp only [push_cast, seval, -Nat.reduceSubDiff]) | ((repeat ((fail_if_success with_reducible refine hK _ _ ?_); clear hK K)); (with_reducible refine hK _ _ ?_); clear hK K)))
  refine bs_u8 (l := [0, 1]) rfl (by decide) (by decide) (by kernel_rfl) ?_
  rintro v w1 hx1 hv1
  (repeat (first | (with_reducible first | (refine hK _ _ ?_; clear hK K) | refine (show ∀ σ' w', _ → K σ' w' from by assumption) _ _ ?_ | refine W_seq_k fun K hK => ?_ | refine W_block_k fun K hK => ?_ | refine W_skip ?_ | refine W_ret ?_) | ((first | ((with_reducible refine W_id ?_); refine W_reg (by decide) (by rfl) ?_) | (with_reducible first | refine W_cond ?_ | refine hZ _ _ ?_ | refine W_exit ?_ | refine Wo_id ?_) | skip); repeat1' simp only [push_cast, seval, -Nat.reduceSubDiff]) | ((repeat ((fail_if_success with_reducible refine hK _ _ ?_); clear hK K)); (with_reducible refine hK _ _ ?_); clear hK K)))
  refine (opened_c hv1 (by decide) (by decide) neA_ok).mono ?_
  rintro v w2 ⟨pb, ps, pl, pa, rfl, hb2⟩
  replace hb2 : BuAt w1 w2 noP pb ps pl pa neA := hb2
  (repeat (first | (with_reducible first | (refine hK _ _ ?_; clear hK K) | refine (show ∀ σ' w', _ → K σ' w' from by assumption) _ _ ?_ | refine W_seq_k fun K hK => ?_ | refine W_block_k fun K hK => ?_ | refine W_skip ?_ | refine W_ret ?_) | ((first | ((with_reducible refine W_id ?_); refine W_reg (by decide) (by rfl) ?_) | (with_reducible first | refine W_cond ?_ | refine hZ _ _ ?_ | refine W_exit ?_ | refine Wo_id ?_) | skip); repeat1' simp only [push_cast, seval, -Nat.reduceSubDiff]) | ((repeat ((fail_if_success with_reducible refine hK _ _ ?_); clear hK K)); (with_reducible refine hK _ _ ?_); clear hK K)))
  refine (run_c hb2 hA (hg.ext hx1) nP sB (runOkb_ok neA_run)).mono ?_
  rintro v w3 ⟨rfl, hb3, -⟩
  replace hb3 : BuAt w1 w3 noP pb ps pl pa neA2 := hb3
  rw [ne_1]
  (repeat (first | (with_reducible first | (refine hK _ _ ?_; clear hK K) | refine (show ∀ σ' w', _ → K σ' w' from by assumption) _ _ ?_ | refine W_seq_k fun K hK => ?_ | refine W_block_k fun K hK => ?_ | refine W_skip ?_ | refine W_ret ?_) | ((first | ((with_reducible refine W_id ?_); refine W_reg (by decide) (by rfl) ?_) | (with_reducible first | refine W_cond ?_ | refine hZ _ _ ?_ | refine W_exit ?_ | refine Wo_id ?_) | skip); repeat1' simp only [push_cast, seval, -Nat.reduceSubDiff, not_true_eq_false]) | ((repeat ((fail_if_success with_reducible refine hK _ _ ?_); clear hK K)); (with_reducible refine hK _ _ ?_); clear hK K)))
  refine (bstack_c hb3).mono ?_
  rintro v w4 ⟨rfl, rfl⟩
  (repeat (first | (with_reducible first | (refine hK _ _ ?_; clear hK K) | refine (show ∀ σ' w', _ → K σ' w' from by assumption) _ _ ?_ | refine W_seq_k fun K hK => ?_ | refine W_block_k fun K hK => ?_ | refine W_skip ?_ | refine W_ret ?_) | ((first | ((with_reducible refine W_id ?_); refine W_reg (by decide) (by rfl) ?_) | (with_reducible first | refine W_cond ?_ | refine hZ _ _ ?_ | refine W_exit ?_ | refine Wo_id ?_) | skip); repeat1' simp only [push_cast, seval, -Nat.reduceSubDiff]) | ((repeat ((fail_if_success with_reducible refine hK _ _ ?_); clear hK K)); (with_reducible refine hK _ _ ?_); clear hK K)))
  refine (bslen_c hb3).mono ?_
  rintro v w4 ⟨rfl, rfl⟩
  rw [h2.1]
  (repeat (first | (with_reducible first | (refine hK _ _ ?_; clear hK K) | refine (show ∀ σ' w', _ → K σ' w' from by assumption) _ _ ?_ | refine W_seq_k fun K hK => ?_ | refine W_block_k fun K hK => ?_ | refine W_skip ?_ | refine W_ret ?_) | ((first | ((with_reducible refine W_id ?_); refine W_reg (by decide) (by rfl) ?_) | (with_reducible first | refine W_cond ?_ | refine hZ _ _ ?_ | refine W_exit ?_ | refine Wo_id ?_) | skip); repeat1' simp only [push_cast, seval, -Nat.reduceSubDiff, eq_self, not_true_eq_false]) | ((repeat ((fail_if_success with_reducible refine hK _ _ ?_); clear hK K)); (with_reducible refine hK _ _ ?_); clear hK K)))
  refine (bforms_c hb3).mono ?_
  rintro v w4 ⟨rfl, rfl⟩
  (repeat (first | (with_reducible first | (refine hK _ _ ?_; clear hK K) | refine (show ∀ σ' w', _ → K σ' w' from by assumption) _ _ ?_ | refine W_seq_k fun K hK => ?_ | refine W_block_k fun K hK => ?_ | refine W_skip ?_ | refine W_ret ?_) | ((first | ((with_reducible refine W_id ?_); refine W_reg (by decide) (by rfl) ?_) | (with_reducible first | refine W_cond ?_ | refine hZ _ _ ?_ | refine W_exit ?_ | refine Wo_id ?_) | skip); repeat1' simp only [push_cast, seval, -Nat.reduceSubDiff]) | ((repeat ((fail_if_success with_reducible refine hK _ _ ?_); clear hK K)); (with_reducible refine hK _ _ ?_); clear hK K)))
  refine (bflen_c hb3).mono ?_
  rintro v w4 ⟨rfl, rfl⟩
  rw [h2.2]
  (repeat (first | (with_reducible first | (refine hK _ _ ?_; clear hK K) | refine (show ∀ σ' w', _ → K σ' w' from by assumption) _ _ ?_ | refine W_seq_k fun K hK => ?_ | refine W_block_k fun K hK => ?_ | refine W_skip ?_ | refine W_ret ?_) | ((first | ((with_reducible refine W_id ?_); refine W_reg (by decide) (by rfl) ?_) | (with_reducible first | refine W_cond ?_ | refine hZ _ _ ?_ | refine W_exit ?_ | refine Wo_id ?_) | skip); repeat1' simp only [push_cast, seval, -Nat.reduceSubDiff, eq_self, not_true_eq_false]) | ((repeat ((fail_if_success with_reducible refine hK _ _ ?_); clear hK K)); (with_reducible refine hK _ _ ?_); clear hK K)))
  have hx4 := hx1.trans hb3.out
  clear hb2 hb3
  refine bs_u8 (l := [0, 7]) rfl (by decide) (by decide) (by kernel_rfl) ?_
  rintro v w5 hx5 hv5
  have hx05 := hx4.trans hx5
  (repeat (first | (with_reducible first | (refine hK _ _ ?_; clear hK K) | refine (show ∀ σ' w', _ → K σ' w' from by assumption) _ _ ?_ | refine W_seq_k fun K hK => ?_ | refine W_block_k fun K hK => ?_ | refine W_skip ?_ | refine W_ret ?_) | ((first | ((with_reducible refine W_id ?_); refine W_reg (by decide) (by rfl) ?_) | (with_reducible first | refine W_cond ?_ | refine hZ _ _ ?_ | refine W_exit ?_ | refine Wo_id ?_) | skip); repeat1' simp only [push_cast, seval, -Nat.reduceSubDiff]) | ((repeat ((fail_if_success with_reducible refine hK _ _ ?_); clear hK K)); (with_reducible refine hK _ _ ?_); clear hK K)))
  refine (opened_c hv5 (by decide) (by decide) neC_ok).mono ?_
  rintro v w6 ⟨pb, ps, pl, pa, rfl, hb2⟩
  replace hb2 : BuAt w5 w6 noP pb ps pl pa neC := hb2
  (repeat (first | (with_reducible first | (refine hK _ _ ?_; clear hK K) | refine (show ∀ σ' w', _ → K σ' w' from by assumption) _ _ ?_ | refine W_seq_k fun K hK => ?_ | refine W_block_k fun K hK => ?_ | refine W_skip ?_ | refine W_ret ?_) | ((first | ((with_reducible refine W_id ?_); refine W_reg (by decide) (by rfl) ?_) | (with_reducible first | refine W_cond ?_ | refine hZ _ _ ?_ | refine W_exit ?_ | refine Wo_id ?_) | skip); repeat1' simp only [push_cast, seval, -Nat.reduceSubDiff]) | ((repeat ((fail_if_success with_reducible refine hK _ _ ?_); clear hK K)); (with_reducible refine hK _ _ ?_); clear hK K)))
  refine (run_c hb2 hC (hg.ext hx05) nP sB (runOkb_ok neC_run)).mono ?_
  rintro v w7 ⟨rfl, hb3, -⟩
  replace hb3 : BuAt w5 w7 noP pb ps pl pa neC2 := hb3
  rw [ne_3]
  (repeat (first | (with_reducible first | (refine hK _ _ ?_; clear hK K) | refine (show ∀ σ' w', _ → K σ' w' from by assumption) _ _ ?_ | refine W_seq_k fun K hK => ?_ | refine W_block_k fun K hK => ?_ | refine W_skip ?_ | refine W_ret ?_) | ((first | ((with_reducible refine W_id ?_); refine W_reg (by decide) (by rfl) ?_) | (with_reducible first | refine W_cond ?_ | refine hZ _ _ ?_ | refine W_exit ?_ | refine Wo_id ?_) | skip); repeat1' simp only [push_cast, seval, -Nat.reduceSubDiff, not_true_eq_false]) | ((repeat ((fail_if_success with_reducible refine hK _ _ ?_); clear hK K)); (with_reducible refine hK _ _ ?_); clear hK K)))
  refine (bstack_c hb3).mono ?_
  rintro v w8 ⟨rfl, rfl⟩
  (repeat (first | (with_reducible first | (refine hK _ _ ?_; clear hK K) | refine (show ∀ σ' w', _ → K σ' w' from by assumption) _ _ ?_ | refine W_seq_k fun K hK => ?_ | refine W_block_k fun K hK => ?_ | refine W_skip ?_ | refine W_ret ?_) | ((first | ((with_reducible refine W_id ?_); refine W_reg (by decide) (by rfl) ?_) | (with_reducible first | refine W_cond ?_ | refine hZ _ _ ?_ | refine W_exit ?_ | refine Wo_id ?_) | skip); repeat1' simp only [push_cast, seval, -Nat.reduceSubDiff]) | ((repeat ((fail_if_success with_reducible refine hK _ _ ?_); clear hK K)); (with_reducible refine hK _ _ ?_); clear hK K)))
  refine (bslen_c hb3).mono ?_
  rintro v w8 ⟨rfl, rfl⟩
  rw [h4.1]
  (repeat (first | (with_reducible first | (refine hK _ _ ?_; clear hK K) | refine (show ∀ σ' w', _ → K σ' w' from by assumption) _ _ ?_ | refine W_seq_k fun K hK => ?_ | refine W_block_k fun K hK => ?_ | refine W_skip ?_ | refine W_ret ?_) | ((first | ((with_reducible refine W_id ?_); refine W_reg (by decide) (by rfl) ?_) | (with_reducible first | refine W_cond ?_ | refine hZ _ _ ?_ | refine W_exit ?_ | refine Wo_id ?_) | skip); repeat1' simp only [push_cast, seval, -Nat.reduceSubDiff, eq_self, not_true_eq_false]) | ((repeat ((fail_if_success with_reducible refine hK _ _ ?_); clear hK K)); (with_reducible refine hK _ _ ?_); clear hK K)))
  refine (bforms_c hb3).mono ?_
  rintro v w8 ⟨rfl, rfl⟩
  (repeat (first | (with_reducible first | (refine hK _ _ ?_; clear hK K) | refine (show ∀ σ' w', _ → K σ' w' from by assumption) _ _ ?_ | refine W_seq_k fun K hK => ?_ | refine W_block_k fun K hK => ?_ | refine W_skip ?_ | refine W_ret ?_) | ((first | ((with_reducible refine W_id ?_); refine W_reg (by decide) (by rfl) ?_) | (with_reducible first | refine W_cond ?_ | refine hZ _ _ ?_ | refine W_exit ?_ | refine Wo_id ?_) | skip); repeat1' simp only [push_cast, seval, -Nat.reduceSubDiff]) | ((repeat ((fail_if_success with_reducible refine hK _ _ ?_); clear hK K)); (with_reducible refine hK _ _ ?_); clear hK K)))
  refine (bflen_c hb3).mono ?_
  rintro v w8 ⟨rfl, rfl⟩
  rw [h4.2]
  (repeat (first | (with_reducible first | (refine hK _ _ ?_; clear hK K) | refine (show ∀ σ' w', _ → K σ' w' from by assumption) _ _ ?_ | refine W_seq_k fun K hK => ?_ | refine W_block_k fun K hK => ?_ | refine W_skip ?_ | refine W_ret ?_) | ((first | ((with_reducible refine W_id ?_); refine W_reg (by decide) (by rfl) ?_) | (with_reducible first | refine W_cond ?_ | refine hZ _ _ ?_ | refine W_exit ?_ | refine Wo_id ?_) | skip); repeat1' simp only [push_cast, seval, -Nat.reduceSubDiff, eq_self, not_true_eq_false]) | ((repeat ((fail_if_success with_reducible refine hK _ _ ?_); clear hK K)); (with_reducible refine hK _ _ ?_); clear hK K)))
  refine (barena_c hb3).mono ?_
  rintro v w8 ⟨rfl, rfl⟩
  (repeat (first | (with_reducible first | (refine hK _ _ ?_; clear hK K) | refine (show ∀ σ' w', _ → K σ' w' from by assumption) _ _ ?_ | refine W_seq_k fun K hK => ?_ | refine W_block_k fun K hK => ?_ | refine W_skip ?_ | refine W_ret ?_) | ((first | ((with_reducible refine W_id ?_); refine W_reg (by decide) (by rfl) ?_) | (with_reducible first | refine W_cond ?_ | refine hZ _ _ ?_ | refine W_exit ?_ | refine Wo_id ?_) | skip); repeat1' simp only [push_cast, seval, -Nat.reduceSubDiff]) | ((repeat ((fail_if_success with_reducible refine hK _ _ ?_); clear hK K)); (with_reducible refine hK _ _ ?_); clear hK K)))
  obtain ⟨PA, hA1, _⟩ := hb3.ar
  refine (tree_a hA1 (by have := ok6.L; omega) ok6.at_).mono ?_
  rintro v w9 ⟨T, bo, hT, hTL, hx9, -, -⟩
  have hx09 := (hx05.trans hb3.out).trans hx9
  clear hb2 hb3 hA1
  obtain ⟨a, c, rfl, hc⟩ := hT.len
  have hTl : T.length = 8 := by
    have := congrArg List.length hTL
    rw [List.length_map] at this
    rw [this]; exact (show neC2.L.length = 8 by kernel_rfl)
  (repeat (first | (with_reducible first | (refine hK _ _ ?_; clear hK K) | refine (show ∀ σ' w', _ → K σ' w' from by assumption) _ _ ?_ | refine W_seq_k fun K hK => ?_ | refine W_block_k fun K hK => ?_ | refine W_skip ?_ | refine W_ret ?_) | ((first | ((with_reducible refine W_id ?_); refine W_reg (by decide) (by rfl) ?_) | (with_reducible first | refine W_cond ?_ | refine hZ _ _ ?_ | refine W_exit ?_ | refine Wo_id ?_) | skip); repeat1' simp only [push_cast, seval, -Nat.reduceSubDiff]) | ((repeat ((fail_if_success with_reducible refine hK _ _ ?_); clear hK K)); (with_reducible refine hK _ _ ?_); clear hK K)))
  refine opened_nil.mono ?_
  rintro v w10 ⟨pb, ps, pl, pa, rfl, hb2⟩
  have hT := hT.ext hb2.out
  have hx010 := hx09.trans hb2.out
  have nodK : ∀ (i : Nat) (q : Nd), neC2.L[i]? = some q → ∃ m, T[i]? = some m ∧ m.nd = q := fun i q hq => by
    rw [← hTL, List.getElem?_map] at hq
    cases hm : T[i]? with
    | none => rw [hm] at hq; cases hq
    | some m => rw [hm] at hq; exact ⟨m, rfl, Option.some.inj hq⟩
  have e2 : neC2.L[2]? = some { zN with kind := 3, name := sBody, parent := 1, kids := [3, 5], frm := -1, to := -1 } := by kernel_rfl
  have e5 : neC2.L[5]? = some { zN with kind := 3, name := ⟨#[112]⟩, parent := 2, kids := [7], frm := -1, to := -1 } := by kernel_rfl
  have e7 : neC2.L[7]? = some { zN with kind := 3, name := ⟨#[98]⟩, parent := 5, kids := [6], frm := -1, to := -1 } := by kernel_rfl
  obtain ⟨m2, hm2, hn2⟩ := nodK 2 _ e2
  obtain ⟨m5, hm5, hn5⟩ := nodK 5 _ e5
  obtain ⟨m7, hm7, hn7⟩ := nodK 7 _ e7
  obtain ⟨tb, to_, n', c', e, _⟩ := hT.sl.some_of (by intro e; have := flat_length T; rw [e] at this; simp at this; omega)
  cases e
  rw [hTl]
  have kk2 := (hT.ok m2 (List.mem_of_getElem? hm2)).kids
  have kk5 := (hT.ok m5 (List.mem_of_getElem? hm5)).kids
  have c28 := hT.get hm2 (j := 8) (by decide)
  have c58 := hT.get hm5 (j := 8) (by decide)
  have c51 := hT.get hm5 (j := 1) (by decide)
  have c71 := hT.get hm7 (j := 1) (by decide)
  simp only [Laid.cells, List.getElem?_cons_zero, List.getElem?_cons_succ, hn5, hn7, hn2, Nat.reduceMul] at c28 c58 c51 c71
  rw [hn2] at kk2
  rw [hn5] at kk5
  obtain ⟨_, _, ek2, _⟩ := kk2.ints_len
  obtain ⟨_, _, ek5, _⟩ := kk5.ints_len
  rw [ek2] at c28 kk2
  rw [ek5] at c58 kk5
  obtain ⟨kb2, ko2, _, _, e, _⟩ := kk2.some_of (by simp [intCells])
  cases e
  obtain ⟨kb5, ko5, _, _, e, _⟩ := kk5.some_of (by simp [intCells])
  cases e
  have d21 := kk2.ints_cell (i := 1) (show ([3, 5] : List Int)[1]? = some 5 from rfl)
  have d50 := kk5.ints_cell (i := 0) (show ([7] : List Int)[0]? = some 7 from rfl)
  rw [Nat.add_zero] at d50
  have e08 : (List.length ([3, 5] : List Int)) = 2 := rfl
  have e18 : (List.length ([7] : List Int)) = 1 := rfl
  (repeat (first | (with_reducible first | (refine hK _ _ ?_; clear hK K) | refine (show ∀ σ' w', _ → K σ' w' from by assumption) _ _ ?_ | refine W_seq_k fun K hK => ?_ | refine W_block_k fun K hK => ?_ | refine W_skip ?_ | refine W_ret ?_) | ((first | ((with_reducible refine W_id ?_); refine W_reg (by decide) (by rfl) ?_) | (with_reducible first | refine W_cond ?_ | refine hZ _ _ ?_ | refine W_exit ?_ | refine Wo_id ?_) | skip); repeat1' simp only [push_cast, seval, -Nat.reduceSubDiff]) | ((repeat ((fail_if_success with_reducible refine hK _ _ ?_); clear hK K)); (with_reducible refine hK _ _ ?_); clear hK K)))
  (try (with_reducible refine W_id ?_); refine W_reg (by decide) (by rfl) ?_); refine Wo_flat (by simp only [lapp_cons, lapp_nil]; exact rfl) ?_
  (repeat simp only [push_cast, seval, -Nat.reduceSubDiff, eq_self, not_true_eq_false, c28, c58, c51, c71, d21, d50])
  have hD7 : txD (T.map Laid.nd) 7 0 = true := by rw [hTL]; kernel_rfl
  have hF7 : txF (T.map Laid.nd) 7 0 = ⟨#[97, 98]⟩ := by rw [hTL]; kernel_rfl
  have htx := texts_c hT (by omega) 7 0 hD7
  rw [hF7, hTl] at htx
  refine htx.mono ?_
  intro v w' ⟨hv, hw⟩
  subst hv; subst w'
  (repeat (first | (with_reducible first | (refine hK _ _ ?_; clear hK K) | refine (show ∀ σ' w', _ → K σ' w' from by assumption) _ _ ?_ | refine W_seq_k fun K hK => ?_ | refine W_block_k fun K hK => ?_ | refine W_skip ?_ | refine W_ret ?_) | ((first | ((with_reducible refine W_id ?_); refine W_reg (by decide) (by rfl) ?_) | (with_reducible first | refine W_cond ?_ | refine hZ _ _ ?_ | refine W_exit ?_ | refine Wo_id ?_) | skip); repeat1' simp only [push_cast, seval, -Nat.reduceSubDiff, eq_self, not_true_eq_false]) | ((repeat ((fail_if_success with_reducible refine hK _ _ ?_); clear hK K)); (with_reducible refine hK _ _ ?_); clear hK K)))
  refine (run_c hb2 hD (hg.ext hx09) nP sB (runOkb_ok neD_run)).mono ?_
  rintro v w11 ⟨rfl, hb3, -⟩
  rw [ne_5]
  (repeat (first | (with_reducible first | (refine hK _ _ ?_; clear hK K) | refine (show ∀ σ' w', _ → K σ' w' from by assumption) _ _ ?_ | refine W_seq_k fun K hK => ?_ | refine W_block_k fun K hK => ?_ | refine W_skip ?_ | refine W_ret ?_) | ((first | ((with_reducible refine W_id ?_); refine W_reg (by decide) (by rfl) ?_) | (with_reducible first | refine W_cond ?_ | refine hZ _ _ ?_ | refine W_exit ?_ | refine Wo_id ?_) | skip); repeat1' simp only [push_cast, seval, -Nat.reduceSubDiff, eq_self, not_true_eq_false, not_false_eq_true]) | ((repeat ((fail_if_success with_reducible refine hK _ _ ?_); clear hK K)); (with_reducible refine hK _ _ ?_); clear hK K)))
  exact hx09.trans hb3.out
end Go.Proofs.YtgnnlaeikcnhcaaGreatDoor
end
section
set_option linter.unusedSimpArgs false
set_option linter.unusedVariables false
namespace Go.Vk
open Go Go.Proofs.YtgnnlaeikcnhcaaGreatDoor
def rbNames : List ByteArray := [⟨#[98]⟩, ⟨#[105]⟩, ⟨#[117]⟩, ⟨#[101, 109]⟩, ⟨#[116, 116]⟩, ⟨#[115]⟩, ⟨#[98, 105, 103]⟩, ⟨#[99, 111, 100, 101]⟩]
def rbAt (i : Nat) : List (ByteArray × ByteArray) := [(⟨#[110]⟩, ⟨#[UInt8.ofNat (97 + i)]⟩)]
def rbTok (x i : Nat) : HTok := ⟨2, rbNames.getD (x % 8) ⟨#[]⟩, ⟨#[]⟩, rbAt i, false, false, false, i, i⟩
def rbNd (x i : Nat) : Nd := bareN (elTok (rbTok x i) 0)
/-- the elements of the statement -/
def rbNs (xs : List Nat) : List Nd := rsHtml :: xs.mapIdx fun i x => rbNd x i
/-- the formatting list: places by numbers, a marker ahead of one of them -/
def rbL (mk : Nat) : Nat → List Int
  | 0 => []
  | i + 1 => rbL mk i ++ (if i = mk then [-1, (i : Int) + 2] else [(i : Int) + 2])
theorem rbL_mem {mk : Nat} : ∀ {n : Nat} {y : Int}, y ∈ rbL mk n → y = -1 ∨ ∃ j : Nat, j < n ∧ y = (j : Int) + 2
  | 0, y, h => by simp [rbL] at h
  | n + 1, y, h => by
    rw [rbL, List.mem_append] at h
    rcases h with h | h
    · rcases rbL_mem h with e | ⟨j, hj, e⟩
      · exact .inl e
      · exact .inr ⟨j, by omega, e⟩
    · split at h
      · simp at h
        rcases h with h | h
        · exact .inl h
        · exact .inr ⟨n, by omega, h⟩
      · simp at h
        exact .inr ⟨n, by omega, h⟩
theorem rbL_len (mk : Nat) : ∀ n : Nat, (rbL mk n).length = n + if mk < n then 1 else 0
  | 0 => rfl
  | n + 1 => by
    rw [rbL, List.length_append, rbL_len mk n]
    by_cases e : n = mk
    · subst e
      rw [if_pos rfl, if_neg (Nat.lt_irrefl _), if_pos (Nat.lt_succ_self _)]; rfl
    · rw [if_neg e]
      by_cases h : mk < n
      · rw [if_pos h, if_pos (by omega), List.length_singleton]
      · rw [if_neg h, if_neg (by omega), List.length_singleton]
structure Rbs (xs : List Nat) (mk : Nat) (b : BSt) : Prop where
  reg : Reg b (rbNs xs)
  s : b.s.map OpS.node = (List.range (xs.length + 1)).map fun j => ((j + 1 : Nat) : Int)
  l : b.l = rbL mk xs.length
  at_ : Att b.L
  err : b.err = none
theorem rbNs_snoc (xs : List Nat) (x : Nat) : rbNs (xs ++ [x]) = rbNs xs ++ [rbNd x xs.length] := by
  unfold rbNs
  rw [List.mapIdx_append]
  simp
theorem rbNs_len (xs : List Nat) : (rbNs xs).length = xs.length + 1 := by simp [rbNs]
theorem rb_nt (x : Nat) : rbNames.getD (x % 8) ⟨#[]⟩ ≠ tmpl := by
  have : ∀ k, k < 8 → rbNames.getD k ⟨#[]⟩ ≠ tmpl := by decide +kernel
  exact this _ (Nat.mod_lt _ (by decide))
theorem Rbs.ins {xs : List Nat} {mk : Nat} {b : BSt} (h : Rbs xs mk b) (x : Nat) (hx : xs.length < 20) :
    insertB { b with l := if xs.length = mk then b.l ++ [-1] else b.l } (elTok (rbTok x xs.length) 0) = (insR { b with l := if xs.length = mk then b.l ++ [-1] else b.l } (elTok (rbTok x xs.length) 0), (xs.length : Int) + 2) ∧
    pushN (insR { b with l := if xs.length = mk then b.l ++ [-1] else b.l } (elTok (rbTok x xs.length) 0)).L (if xs.length = mk then b.l ++ [-1] else b.l) ((xs.length : Int) + 2) = (rbL mk (xs.length + 1), 0) ∧
    Rbs (xs ++ [x]) mk { insR { b with l := if xs.length = mk then b.l ++ [-1] else b.l } (elTok (rbTok x xs.length) 0) with l := rbL mk (xs.length + 1) } := by
  generalize hb1 : ({ b with l := if xs.length = mk then b.l ++ [-1] else b.l } : BSt) = b1
  have hr1 : Reg b1 (rbNs xs) := by subst hb1; exact ⟨h.reg.gd, h.reg.len, h.reg.nod, h.reg.pl, h.reg.stk, h.reg.fo⟩
  have hs1 : b1.s = b.s := by subst hb1; rfl
  have hL1 : b1.L = b.L := by subst hb1; rfl
  have he1 : b1.err = none := by subst hb1; exact h.err
  have hsl : b.s.length = xs.length + 1 := by
    have := congrArg List.length h.s
    simpa using this
  have hlen := hr1.len
  rw [rbNs_len] at hlen
  obtain ⟨e, r, _⟩ := hr1.ins (n := elTok (rbTok x xs.length) 0) (by rw [hs1, hsl]; omega) rfl (rb_nt x)
  have ei : (b1.L.length : Int) = (xs.length : Int) + 2 := by omega
  rw [ei] at e
  have hLi : (insR b1 (elTok (rbTok x xs.length) 0)).L.length = xs.length + 3 := by
    have := r.len
    rw [List.length_append, rbNs_len] at this
    simpa using this
  have r' : Reg (insR b1 (elTok (rbTok x xs.length) 0)) (rbNs (xs ++ [x])) := by rw [rbNs_snoc]; exact r
  have hnode : ∀ j : Nat, j < xs.length + 1 → ∃ y, (nodeN (insR b1 (elTok (rbTok x xs.length) 0)).L ((j : Int) + 2)).kind = 3 ∧ (nodeN (insR b1 (elTok (rbTok x xs.length) 0)).L ((j : Int) + 2)).attrs = rbAt j ∧ (xs ++ [x])[j]? = some y := fun j hj => by
    obtain ⟨y, hy⟩ : ∃ y, (xs ++ [x])[j]? = some y := ⟨_, List.getElem?_eq_getElem (by simp; omega)⟩
    have hn : (rbNs (xs ++ [x]))[j + 1]? = some (rbNd y j) := by
      unfold rbNs
      rw [List.getElem?_cons_succ, List.getElem?_mapIdx, hy]; rfl
    have := r'.nod (j + 1) _ hn
    have e2 : (((j + 1 : Nat) : Int) + 1) = (j : Int) + 2 := by omega
    rw [e2] at this
    refine ⟨_, ?_, ?_, hy⟩
    · rw [nodeN_gN ⟨by omega, by omega⟩, this]; rfl
    · rw [nodeN_gN ⟨by omega, by omega⟩, this]; rfl
  have hl1 : (if xs.length = mk then b.l ++ [-1] else b.l) ++ [(xs.length : Int) + 2] = rbL mk (xs.length + 1) := by
    rw [rbL, ← h.l]
    split
    · simp
    · rfl
  have hpush : pushN (insR b1 (elTok (rbTok x xs.length) 0)).L (if xs.length = mk then b.l ++ [-1] else b.l) ((xs.length : Int) + 2) = (rbL mk (xs.length + 1), 0) := by
    obtain ⟨_, hk, hat, _⟩ := hnode xs.length (by omega)
    rw [← hl1]
    refine pushN_new hk (fun y hy => ?_) ?_
    · have hy' : y = -1 ∨ ∃ j : Nat, j < xs.length ∧ y = (j : Int) + 2 := by
        split at hy
        · rw [List.mem_append] at hy
          rcases hy with hy | hy
          · exact rbL_mem (h.l ▸ hy)
          · exact .inl (by simpa using hy)
        · exact rbL_mem (h.l ▸ hy)
      unfold likeP likeN
      rcases hy' with rfl | ⟨j, hj, rfl⟩
      · have : ((nd? (insR b1 (elTok (rbTok x xs.length) 0)).L (-1)).getD zN).kind = 0 := by
          unfold nd?; rfl
        rw [this]
        simp
      · obtain ⟨_, _, hat2, _⟩ := hnode j (by omega)
        unfold nodeN at hat hat2
        rw [hat, hat2]
        have : (List.all (rbAt xs.length) fun x => (rbAt j).any (hasA x)) = false := by
          have key : ∀ a, a < 20 → ∀ c, c < 20 → a ≠ c → (List.all (rbAt a) fun x => (rbAt c).any (hasA x)) = false := by decide +kernel
          exact key _ hx _ (by omega) (by omega)
        rw [this, Bool.and_false]
    · have := rbL_len mk xs.length
      rw [← h.l] at this
      split
      · rw [List.length_append, List.length_singleton]; split at this <;> omega
      · split at this <;> omega
  refine ⟨e, hpush, ⟨⟨r'.gd, r'.len, r'.nod, r'.pl, r'.stk, r'.fo⟩, ?_, ?_, ?_, he1⟩⟩
  · show List.map OpS.node (b1.s ++ [_]) = _
    rw [List.map_append, hs1, h.s, List.length_append, List.length_singleton, List.range_succ (n := xs.length + 1), List.map_append]
    congr 1
    rw [List.map_singleton, List.map_singleton]
    have : (b1.L.length : Int) = ((xs.length + 1 + 1 : Nat) : Int) := by omega
    exact congrArg (fun q => [q]) this
  · rw [List.length_append, List.length_singleton]
  · exact insR_att (by rw [hL1]; exact h.at_) (show (1 : Nat) < 1000000 by decide)
end Go.Vk
end
section
set_option linter.unusedSimpArgs false
set_option linter.unusedVariables false
namespace Go.Vk
open Go Go.Proofs.YtgnnlaeikcnhcaaGreatDoor
def ppTok (x i : Nat) : HTok := ⟨2, adName (x % 6), ⟨#[]⟩, rbAt i, false, false, false, 0, 0⟩
def ppNd (x i : Nat) : Nd := bareN (elTok (ppTok x i) 0)
def ppBody : Nd := bareN (elTok (tokI sBody) 0)
def ppNs (xs : List Nat) : List Nd := [rsHtml, ppBody] ++ xs.mapIdx fun i x => ppNd x i
structure Pps (xs : List Nat) (b : BSt) : Prop where
  reg : Reg b (ppNs xs)
  s : b.s = (List.range (xs.length + 2)).map fun j => ⟨(j : Int) + 1, ((ppNs xs).getD j zN).space, ((ppNs xs).getD j zN).name⟩
  l : b.l = (List.range xs.length).map fun j : Nat => (j : Int) + 3
  at_ : Att b.L
  err : b.err = none
  doc : (gN b.L 0).name.size < 4294967281
theorem ppNs_snoc (xs : List Nat) (x : Nat) : ppNs (xs ++ [x]) = ppNs xs ++ [ppNd x xs.length] := by
  unfold ppNs
  rw [List.mapIdx_append]
  simp
theorem ppNs_len (xs : List Nat) : (ppNs xs).length = xs.length + 2 := by simp [ppNs]
theorem ppNs_get (xs : List Nat) {k x : Nat} (h : xs[k]? = some x) : (ppNs xs)[k + 2]? = some (ppNd x k) := by
  unfold ppNs
  rw [List.getElem?_append_right (by simp)]
  simp [List.getElem?_mapIdx, h]
theorem ad_nt (k : Nat) (hk : k < 10) : adName k ≠ tmpl ∧ (adName k).size < 20 := by
  have : ∀ k, k < 10 → adName k ≠ tmpl ∧ (adName k).size < 20 := by decide +kernel
  exact this k hk
theorem Pps.lens {xs : List Nat} {b : BSt} (h : Pps xs b) : b.L.length = xs.length + 3 ∧ b.s.length = xs.length + 2 ∧ b.l.length = xs.length := by
  have := h.reg.len
  rw [ppNs_len] at this
  exact ⟨by omega, by rw [h.s]; simp, by rw [h.l]; simp⟩
theorem Pps.nod {xs : List Nat} {b : BSt} (h : Pps xs b) {k x : Nat} (hk : xs[k]? = some x) : (nodeN b.L ((k : Int) + 3)).kind = 3 ∧ (nodeN b.L ((k : Int) + 3)).attrs = rbAt k ∧ (nodeN b.L ((k : Int) + 3)).space = 0 ∧ (nodeN b.L ((k : Int) + 3)).name = adName (x % 6) := by
  have hl := h.lens.1
  have hkl := (List.getElem?_eq_some_iff.1 hk).1
  have := h.reg.nod (k + 2) _ (ppNs_get xs hk)
  have e : (((k + 2 : Nat) : Int) + 1) = (k : Int) + 3 := by omega
  rw [e] at this
  rw [nodeN_gN ⟨by omega, by omega⟩, this]
  exact ⟨rfl, rfl, rfl, rfl⟩
theorem Pps.ins {xs : List Nat} {b : BSt} (h : Pps xs b) (x : Nat) (hx : xs.length < 20) :
    insertB b (elTok (ppTok x xs.length) 0) = (insR b (elTok (ppTok x xs.length) 0), (xs.length : Int) + 3) ∧
    pushN (insR b (elTok (ppTok x xs.length) 0)).L b.l ((xs.length : Int) + 3) = (b.l ++ [(xs.length : Int) + 3], 0) ∧
    Pps (xs ++ [x]) { insR b (elTok (ppTok x xs.length) 0) with l := b.l ++ [(xs.length : Int) + 3] } := by
  obtain ⟨hL, hs, hl⟩ := h.lens
  have hnt := (ad_nt (x % 6) (by omega)).1
  obtain ⟨e, r, hG⟩ := h.reg.ins (n := elTok (ppTok x xs.length) 0) (by omega) rfl hnt
  have ei : (b.L.length : Int) = (xs.length : Int) + 3 := by omega
  have r' : Reg (insR b (elTok (ppTok x xs.length) 0)) (ppNs (xs ++ [x])) := by rw [ppNs_snoc]; exact r
  have hfin : Pps (xs ++ [x]) { insR b (elTok (ppTok x xs.length) 0) with l := b.l ++ [(xs.length : Int) + 3] } := by
    refine ⟨⟨r'.gd, r'.len, r'.nod, r'.pl, r'.stk, r'.fo⟩, ?_, ?_, insR_att h.at_ (show (1 : Nat) < 1000000 by decide), h.err, ?_⟩
    · show b.s ++ [_] = _
      rw [ppNs_snoc, List.length_append, List.length_singleton, List.range_succ (n := xs.length + 2), List.map_append, h.s]
      congr 1
      · apply List.map_congr_left
        intro j hj
        rw [List.mem_range] at hj
        rw [List.getD_eq_getElem?_getD, List.getD_eq_getElem?_getD, List.getElem?_append_left (by rw [ppNs_len]; omega)]
      · have e3 : (ppNs xs ++ [ppNd x xs.length]).getD (xs.length + 2) zN = ppNd x xs.length := by
          rw [List.getD_eq_getElem?_getD, List.getElem?_append_right (by rw [ppNs_len]; omega), ppNs_len, Nat.sub_self]; rfl
        rw [List.map_singleton, e3]
        have : (b.L.length : Int) = ((xs.length + 2 : Nat) : Int) + 1 := by omega
        rw [this]; rfl
    · show b.l ++ [_] = _
      rw [List.length_append, List.length_singleton, List.range_succ, List.map_append, h.l, List.map_singleton]
    · have h0 := hG 0
      rw [if_neg (by omega)] at h0
      show (gN (insR b (elTok (ppTok x xs.length) 0)).L 0).name.size < _
      rw [h0]
      split
      · exact h.doc
      · exact h.doc
  refine ⟨by rw [e, ei], ?_, hfin⟩
  have hnew := hfin.nod (k := xs.length) (x := x) (by simp)
  refine pushN_new hnew.1 (fun y hy => ?_) (by omega)
  rw [h.l, List.mem_map] at hy
  obtain ⟨j, hj, rfl⟩ := hy
  rw [List.mem_range] at hj
  obtain ⟨z, hz⟩ : ∃ z, (xs ++ [x])[j]? = some z := ⟨_, List.getElem?_eq_getElem (by simp; omega)⟩
  have hold := hfin.nod hz
  unfold likeP likeN
  unfold nodeN at hnew hold
  rw [hnew.2.1, hold.2.1]
  have : (List.all (rbAt xs.length) fun x => (rbAt j).any (hasA x)) = false := by
    have key : ∀ a, a < 20 → ∀ c, c < 20 → a ≠ c → (List.all (rbAt a) fun x => (rbAt c).any (hasA x)) = false := by decide +kernel
    exact key _ hx _ (by omega) (by omega)
  rw [this, Bool.and_false]
theorem pps0 : Pps [] gb2 := by
  obtain ⟨e1, r1, _⟩ := reg_new.ins (n := elTok (tokI sHtml) 0) (by decide) rfl (by decide +kernel)
  have e1' : gb1 = insR newB (elTok (tokI sHtml) 0) := by
    have : implyB newB sHtml = (insR newB (elTok (tokI sHtml) 0), (newB.L.length : Int)) := e1
    show (implyB newB sHtml).1 = _
    rw [this]
  rw [← e1'] at r1
  obtain ⟨e2, r2, _⟩ := r1.ins (n := elTok (tokI sBody) 0) (by decide +kernel) rfl (by decide +kernel)
  have e2' : gb2 = insR gb1 (elTok (tokI sBody) 0) := by
    have : implyB gb1 sBody = (insR gb1 (elTok (tokI sBody) 0), (gb1.L.length : Int)) := e2
    show (implyB gb1 sBody).1 = _
    rw [this]
  rw [← e2'] at r2
  refine ⟨r2, by kernel_rfl, rfl, ?_, by kernel_rfl, by decide +kernel⟩
  rw [e2']
  exact insR_att (by rw [e1']; exact insR_att att_new (by decide)) (by decide)
end Go.Vk
end
section
set_option linter.unusedSimpArgs false
set_option linter.unusedVariables false
namespace Go.Vk
open Go Go.Proofs.YtgnnlaeikcnhcaaGreatDoor
theorem lastF_at {p : Int → Bool} {l : List Int} {fr : Int} {j : Nat} (hf : fr ≤ j) (hp : p (l.getD j 0) = true) : ∀ k : Nat, j < k → (∀ i, j < i → i < k → p (l.getD i 0) = false) → lastF p l fr k = j
  | 0, h, _ => by omega
  | k + 1, h, hn => by
    rw [lastF]
    by_cases e : k = j
    · subst e
      rw [if_neg (by omega), if_pos hp]
    · rw [if_neg (by omega), if_neg (by rw [hn k (by omega) (by omega)]; decide)]
      exact lastF_at hf hp k (by omega) fun i h1 h2 => hn i h1 (by omega)
theorem lastF_no {p : Int → Bool} {l : List Int} {fr : Int} : ∀ k : Nat, (∀ i, i < k → p (l.getD i 0) = false) → lastF p l fr k = -1
  | 0, _ => rfl
  | k + 1, hn => by
    rw [lastF]
    split
    · rfl
    · rw [if_neg (by rw [hn k (by omega)]; decide)]
      exact lastF_no k fun i h => hn i (by omega)
theorem lastB_at {p : Nat → Bool} {j : Nat} (hp : p j = true) : ∀ k : Nat, j < k → (∀ i, j < i → i < k → p i = false) → lastB p k = j
  | 0, h, _ => by omega
  | k + 1, h, hn => by
    rw [lastB]
    by_cases e : k = j
    · subst e; rw [if_pos hp]
    · rw [if_neg (by rw [hn k (by omega) (by omega)]; decide)]
      exact lastB_at hp k (by omega) fun i h1 h2 => hn i h1 (by omega)
theorem scp_any {e : OpS → Bool} {q : OpS → Bool} {s : List OpS} {j : Nat} (hq : q (s.getD j zS) = true) : ∀ k : Nat, j < k → (∀ i, j < i → i < k → e (s.getD i zS) = false) → (scp e s k).any q = true
  | 0, h, _ => by omega
  | k + 1, h, hn => by
    rw [scp, List.any_cons]
    by_cases e' : k = j
    · subst e'; rw [hq, Bool.true_or]
    · rw [if_neg (by rw [hn k (by omega) (by omega)]; decide), scp_any hq k (by omega) fun i h1 h2 => hn i h1 (by omega), Bool.or_true]
theorem furN_none {b : BSt} : ∀ (n k : Nat), (∀ j, k ≤ j → j < k + n → specN (sndN b j).space (sndN b j).name = false) → furN b n k = -1
  | 0, _, _ => rfl
  | n + 1, k, h => by
    rw [furN, if_neg (by rw [h k (Nat.le_refl _) (by omega)]; decide)]
    exact furN_none n (k + 1) fun j h1 h2 => h j (by omega) (by omega)
theorem ad_key : ∀ c, c < 6 → specN 0 (adName c) = false ∧ scE 0 ⟨0, 0, adName c⟩ = false := by decide +kernel
theorem ad_inj : ∀ a, a < 6 → ∀ c, c < 6 → adName a = adName c → a = c := by decide +kernel
theorem scE_node (a a' : Int) (n : ByteArray) : scE 0 ⟨a, 0, n⟩ = scE 0 ⟨a', 0, n⟩ := rfl
theorem Pps.sget {xs : List Nat} {b : BSt} (h : Pps xs b) {j : Nat} (hj : j < xs.length + 2) : b.s.getD j zS = ⟨(j : Int) + 1, ((ppNs xs).getD j zN).space, ((ppNs xs).getD j zN).name⟩ := by
  rw [h.s, List.getD_eq_getElem?_getD, List.getElem?_map, List.getElem?_range hj]; rfl
theorem Pps.sel {xs : List Nat} {b : BSt} (h : Pps xs b) {k x : Nat} (hk : xs[k]? = some x) : b.s.getD (k + 2) zS = ⟨(k : Int) + 3, 0, adName (x % 6)⟩ := by
  have hkl := (List.getElem?_eq_some_iff.1 hk).1
  rw [h.sget (by omega)]
  have : (ppNs xs).getD (k + 2) zN = ppNd x k := by rw [List.getD_eq_getElem?_getD, ppNs_get xs hk]; rfl
  rw [this]
  have e : (((k + 2 : Nat) : Int) + 1) = (k : Int) + 3 := by omega
  rw [e]; rfl
theorem Pps.lget {xs : List Nat} {b : BSt} (h : Pps xs b) {k : Nat} (hk : k < xs.length) : b.l.getD k 0 = (k : Int) + 3 := by
  rw [h.l, List.getD_eq_getElem?_getD, List.getElem?_map, List.getElem?_range hk]; rfl
theorem Pps.open_ {xs : List Nat} {b : BSt} (h : Pps xs b) : openN b.l = 0 := by
  unfold openN
  rw [lastF_no]
  · rfl
  · intro i hi
    rw [h.lens.2.2] at hi
    rw [h.lget hi]
    exact decide_eq_false (by omega)
theorem Pps.index {xs : List Nat} {b : BSt} (h : Pps xs b) {k : Nat} (hk : k < xs.length) : indexN b.l ((k : Int) + 3) = k := by
  unfold indexN
  rw [if_neg (by omega)]
  refine lastF_at (by omega) (by rw [h.lget hk]; exact decide_eq_true rfl) _ (by rw [h.lens.2.2]; exact hk) fun i h1 h2 => ?_
  rw [h.lens.2.2] at h2
  rw [h.lget h2]
  exact decide_eq_false (by omega)
theorem Pps.idx {xs : List Nat} {b : BSt} (h : Pps xs b) {k : Nat} (hk : k < xs.length) : indexS b.s ((k : Int) + 3) = (k : Int) + 2 := by
  have hs := h.lens.2.1
  unfold indexS
  rw [lastB_at (j := k + 2)]
  · omega
  · rw [h.sget (by omega)]
    exact decide_eq_true (by dsimp only; omega)
  · omega
  · intro i h1 h2
    rw [h.sget (by omega)]
    exact decide_eq_false (by dsimp only; omega)
structure LastI (xs : List Nat) (c last : Nat) : Prop where
  x : ∃ x, xs[last]? = some x ∧ x % 6 = c
  no : ∀ j y, last < j → xs[j]? = some y → y % 6 ≠ c
theorem Pps.run {xs : List Nat} {b : BSt} (h : Pps xs b) (hn : xs.length ≤ 20) {c last : Nat} (hc : c < 6) (hl : LastI xs c last) :
    runB b (adName c) = ({ b with s := b.s.take (last + 2), l := b.l.eraseIdx last }, true) ∧ AdOk b ∧ runOk (adName c) 8 b := by
  obtain ⟨x, hx, hxc⟩ := hl.x
  have hll := (List.getElem?_eq_some_iff.1 hx).1
  obtain ⟨eL, es, el⟩ := h.lens
  have hall : ∀ k, k < xs.length → ∃ y, xs[k]? = some y := fun k hk => ⟨_, List.getElem?_eq_getElem hk⟩
  have hfmt : lastName b.L b.l (adName c) = (last : Int) + 3 := by
    have : lastF (nameN b.L (adName c)) b.l (openN b.l) b.l.length = last := by
      rw [h.open_]
      refine lastF_at (by omega) ?_ _ (by omega) fun i h1 h2 => ?_
      · rw [h.lget hll]
        obtain ⟨_, _, k3, k4⟩ := h.nod hx
        unfold nodeN at k3 k4
        exact decide_eq_true ⟨k3, by rw [k4, hxc]⟩
      · obtain ⟨y, hy⟩ := hall i (by omega)
        rw [h.lget (by omega)]
        obtain ⟨_, _, k3, k4⟩ := h.nod hy
        unfold nodeN at k3 k4
        refine decide_eq_false fun hh => hl.no i y h1 hy ?_
        rw [k4] at hh
        exact ad_inj _ (Nat.mod_lt _ (by decide)) _ hc hh.2
    unfold lastName
    rw [this, if_neg (by omega), Int.toNat_natCast, h.lget hll]
  have hidx := h.idx hll
  have hel : ∀ k, last < k → k < xs.length → ∃ d, d < 6 ∧ b.s.getD (k + 2) zS = ⟨(k : Int) + 3, 0, adName d⟩ ∧ (sndN b (k + 2)).space = 0 ∧ (sndN b (k + 2)).name = adName d := fun k _ hk => by
    obtain ⟨y, hy⟩ := hall k hk
    have e := h.sel hy
    obtain ⟨_, _, k3, k4⟩ := h.nod hy
    refine ⟨y % 6, Nat.mod_lt _ (by decide), e, ?_, ?_⟩
    · unfold sndN; rw [e]; exact k3
    · unfold sndN; rw [e]; exact k4
  have hsc : scopeB b ((last : Int) + 3) = true := by
    unfold scopeB
    refine scp_any (j := last + 2) ?_ _ (by omega) fun i h1 h2 => ?_
    · rw [h.sel hx]; exact decide_eq_true rfl
    · obtain ⟨d, hd, e, _⟩ := hel (i - 2) (by omega) (by omega)
      have e2 : i - 2 + 2 = i := by omega
      rw [e2] at e
      rw [e, scE_node _ 0]
      exact (ad_key d hd).2
  have hfur : furB b (last + 2) = -1 := by
    unfold furB
    refine furN_none _ _ fun j h1 h2 => ?_
    obtain ⟨d, hd, _, e1, e2⟩ := hel (j - 2) (by omega) (by omega)
    have e3 : j - 2 + 2 = j := by omega
    rw [e3] at e1 e2
    rw [e1, e2]
    exact (ad_key d hd).1
  have hrem : (removeN b.l ((last : Int) + 3)).1 = b.l.eraseIdx last := by
    unfold removeN
    rw [h.index hll, if_neg (by omega), Int.toNat_natCast]
  have honce : onceB b (adName c) = ({ b with s := b.s.take (last + 2), l := b.l.eraseIdx last }, false, true) := by
    unfold onceB
    rw [hfmt]
    dsimp only
    have e2 : ((last : Int) + 2).toNat = last + 2 := by omega
    rw [if_neg (by omega), hidx, if_neg (by omega), hsc, if_neg (by decide), e2, hfur, if_pos (by decide), hrem]
    rfl
  have htop : topS b.s = (xs.length : Int) + 2 := by
    unfold topS atS
    rw [if_pos ⟨by omega, by omega⟩]
    have e : ((b.s.length : Int) - 1).toNat = xs.length + 1 := by omega
    rw [e, h.sget (by omega)]
    dsimp only
    omega
  have hnm : Nms b.L := by
    intro n hn
    obtain ⟨j, hj⟩ := List.mem_iff_getElem?.1 hn
    have hjl := (List.getElem?_eq_some_iff.1 hj).1
    have hg := gN_nat hj
    cases j with
    | zero => exact hg ▸ h.doc
    | succ j =>
      obtain ⟨q, hq⟩ : ∃ q, (ppNs xs)[j]? = some q := ⟨_, List.getElem?_eq_getElem (by rw [ppNs_len]; omega)⟩
      have := h.reg.nod j q hq
      have e : (((j + 1 : Nat)) : Int) = (j : Int) + 1 := by omega
      rw [e] at hg
      rw [hg] at this
      rw [this]
      show q.name.size < _
      have hq2 := List.mem_of_getElem? hq
      unfold ppNs at hq2
      simp only [List.mem_append, List.mem_cons, List.not_mem_nil, or_false, List.mem_mapIdx] at hq2
      rcases hq2 with (rfl | rfl) | ⟨i, hi, rfl⟩
      · decide +kernel
      · decide +kernel
      · exact Nat.lt_trans (ad_nt (xs[i] % 6) (by omega)).2 (by decide)
  have hsn : ∀ o ∈ b.s, o.name.size < 4294967281 := by
    intro o ho
    obtain ⟨i, q, h1, _, rfl⟩ := h.reg.stk o ho
    show q.name.size < _
    have hq2 := List.mem_of_getElem? h1
    unfold ppNs at hq2
    simp only [List.mem_append, List.mem_cons, List.not_mem_nil, or_false, List.mem_mapIdx] at hq2
    rcases hq2 with (rfl | rfl) | ⟨i, hi, rfl⟩
    · decide +kernel
    · decide +kernel
    · exact Nat.lt_trans (ad_nt (xs[i] % 6) (by omega)).2 (by decide)
  have hA : AdOk b := ⟨⟨by omega, h.at_, by omega, by omega⟩, by omega, by omega, by omega, hnm, hsn⟩
  refine ⟨?_, hA, ?_⟩
  · unfold runB
    have hlast : indexN b.l (topS b.s) = ((xs.length - 1 : Nat) : Int) := by
      rw [htop]
      have := h.index (k := xs.length - 1) (by omega)
      have e : (((xs.length - 1 : Nat) : Int) + 3) = (xs.length : Int) + 2 := by omega
      rw [e] at this
      exact this
    rw [if_neg (fun hh => by rw [hlast] at hh; omega), adoptN, honce, if_neg (show ¬ true = false by decide), if_pos rfl]
  · rw [runOk]
    refine ⟨hA, fun _ h2 => ?_⟩
    rw [honce] at h2
    cases h2
theorem Pps.gone {xs : List Nat} {b : BSt} (h : Pps xs b) {last : Nat} (hl : last < xs.length) : indexN (b.l.eraseIdx last) ((last : Int) + 3) < 0 := by
  unfold indexN
  rw [if_neg (by omega), lastF_no]
  · decide
  intro i hi
  rw [List.length_eraseIdx, h.lens.2.2, if_pos hl] at hi
  rw [List.getD_eq_getElem?_getD, List.getElem?_eraseIdx]
  split
  · have := h.lget (k := i) (by omega)
    rw [List.getD_eq_getElem?_getD] at this
    rw [this]
    exact decide_eq_false (by omega)
  · have := h.lget (k := i + 1) (by omega)
    rw [List.getD_eq_getElem?_getD] at this
    rw [this]
    exact decide_eq_false (by omega)
end Go.Vk
end
