/- Tree: all nodes, in memory of their own. -/
import Derived.Test.YtkafpameheohdaaHd
import Derived.Test.YtkafpameheohdaaTl0
set_option linter.unusedSimpArgs false
set_option linter.unusedVariables false
namespace Go.Vk
/-- a slice of nodes -/
structure NdsAt (w : World) (v : Value) (T : List Laid) (bo : Option Nat) : Prop where
  sl : SlAt w 11 v (flat T) bo
  ok : ∀ m ∈ T, m.ok w
  apart : ∀ m ∈ T, ∀ b ∈ m.blks, bo ≠ some b
theorem NdsAt.upd {G : Nat → Prop} {w w' : World} {v : Value} {T : List Laid} {bo : Option Nat} (h : NdsAt w v T bo) (hu : Upd G w w') (h1 : ∀ b, bo = some b → ¬ G b) (h2 : ∀ m ∈ T, ∀ b ∈ m.blks, ¬ G b) : NdsAt w' v T bo :=
  ⟨h.sl.upd hu h1, fun m hm => (h.ok m hm).upd hu (h2 m hm), h.apart⟩
theorem NdsAt.ext {w w' : World} {v : Value} {T : List Laid} {bo : Option Nat} (h : NdsAt w v T bo) (hu : Ext w w') : NdsAt w' v T bo := h.upd hu (fun _ _ h => h) (fun _ _ _ _ h => h)
theorem NdsAt.len {w : World} {v : Value} {T : List Laid} {bo : Option Nat} (h : NdsAt w v T bo) : ∃ a c, v = .slice a T.length c ∧ T.length ≤ c := by
  obtain ⟨a, n, c, rfl, h1, h2⟩ := h.sl.len
  rw [flat_length] at h2
  have : n = T.length := by omega
  subst this
  exact ⟨a, c, rfl, h1⟩
theorem flat_append (A B : List Laid) : flat (A ++ B) = flat A ++ flat B := by simp [flat]
theorem flat_one (T : List Laid) (h : ∀ m ∈ T, m.cells.all oneCell = true) : (flat T).all oneCell = true := by
  induction T with
  | nil => rfl
  | cons m r ih =>
    have := ih fun x hx => h x (by simp [hx])
    simp only [flat, List.flatMap_cons, List.all_append, Bool.and_eq_true] at this ⊢
    exact ⟨h m (by simp), this⟩
end Go.Vk
namespace Go.Proofs.Ytkafpameheohdaa
open Go.Vk
set_option maxHeartbeats 40000000
theorem tree_a {w0 w : World} {P : Nat → Prop} {pa : Nat} {L : List Nd} (h : At w0 w P pa L) (hb : L.length < 100000) (hab : ∀ n ∈ L, n.attrs.length < 1000000) :
    Gives Try.prog 22 #[.pointer (some ⟨pa, 0, none⟩)] w fun v w' => ∃ T bo, NdsAt w' v T bo ∧ T.map Laid.nd = L ∧ Ext w w' ∧ (∀ b, bo = some b → w.heap.size ≤ b) ∧ ∀ m ∈ T, ∀ b ∈ m.blks, w.heap.size ≤ b := by
  refine Gives.of_W Try.call22 Try.func22 rfl Try.ntmps22 (by simp) ?_; intro Z hZ
  (repeat (first | (with_reducible first | (refine hK _ _ ?_; clear hK K) | refine (show ∀ σ' w', _ → K σ' w' from by assumption) _ _ ?_ | refine W_seq_k fun K hK => ?_ | refine W_block_k fun K hK => ?_ | refine W_skip ?_ | refine W_ret ?_) | ((first | ((with_reducible refine W_id ?_); refine W_reg (by decide) (by rfl) ?_) | (with_reducible first | refine W_cond ?_ | refine hZ _ _ ?_ | refine W_exit ?_ | refine Wo_id ?_)); repeat1' simp only [push_cast, Nat.reduceBEq, Nat.reduceLT, Nat.reduceEqDiff, reduceIte, reduceCtorEq, Nat.reduceMul, Nat.reduceAdd, Nat.reduceSub, Int.reduceEq, Int.reduceLT, Int.reduceLE, Int.reduceNeg, Int.reduceAdd, Int.reduceSub, Int.reduceMul, Nat.reduceLeDiff, Int.reduceToNat]) | ((repeat ((fail_if_success with_reducible refine hK _ _ ?_); clear hK K)); (with_reducible refine hK _ _ ?_); clear hK K)))
  refine (len_a h).mono ?_
  rintro v w' ⟨rfl, rfl⟩
  ((repeat simp only [push_cast, Nat.reduceBEq, Nat.reduceLT, Nat.reduceEqDiff, reduceIte, reduceCtorEq, Nat.reduceMul, Nat.reduceAdd, Nat.reduceSub, Int.reduceEq, Int.reduceLT, Int.reduceLE, Int.reduceNeg, Int.reduceAdd, Int.reduceSub, Int.reduceMul, Nat.reduceLeDiff, Int.reduceToNat]); (repeat (first | (with_reducible first | (refine hK _ _ ?_; clear hK K) | refine (show ∀ σ' w', _ → K σ' w' from by assumption) _ _ ?_ | refine W_seq_k fun K hK => ?_ | refine W_block_k fun K hK => ?_ | refine W_skip ?_ | refine W_ret ?_) | ((first | ((with_reducible refine W_id ?_); refine W_reg (by decide) (by rfl) ?_) | (with_reducible first | refine W_cond ?_ | refine hZ _ _ ?_ | refine W_exit ?_ | refine Wo_id ?_)); repeat1' simp only [push_cast, Nat.reduceBEq, Nat.reduceLT, Nat.reduceEqDiff, reduceIte, reduceCtorEq, Nat.reduceMul, Nat.reduceAdd, Nat.reduceSub, Int.reduceEq, Int.reduceLT, Int.reduceLE, Int.reduceNeg, Int.reduceAdd, Int.reduceSub, Int.reduceMul, Nat.reduceLeDiff, Int.reduceToNat]) | ((repeat ((fail_if_success with_reducible refine hK _ _ ?_); clear hK K)); (with_reducible refine hK _ _ ?_); clear hK K))))
  refine W_loop (S := Value × Nat × List Laid × Option Nat) (fun s => [(0, .pointer (some ⟨pa, 0, none⟩)), (3, s.1), (6, .int .i64 (L.length : Int)), (7, .int .i64 (s.2.1 : Int))])
    (fun s w2 => s.2.1 ≤ L.length ∧ NdsAt w2 s.1 s.2.2.1 s.2.2.2 ∧ s.2.2.1.map Laid.nd = L.take s.2.1 ∧ Ext w' w2 ∧ (∀ b, s.2.2.2 = some b → w'.heap.size ≤ b) ∧ ∀ m ∈ s.2.2.1, ∀ b ∈ m.blks, w'.heap.size ≤ b) (fun s => L.length - s.2.1) (.slice none 0 0, 0, [], none) ?_ ?_ ?_
  · (repeat simp only [push_cast, Nat.reduceBEq, Nat.reduceLT, Nat.reduceEqDiff, reduceIte, reduceCtorEq, Nat.reduceMul, Nat.reduceAdd, Nat.reduceSub, Int.reduceEq, Int.reduceLT, Int.reduceLE, Int.reduceNeg, Int.reduceAdd, Int.reduceSub, Int.reduceMul, Nat.reduceLeDiff, Int.reduceToNat])
  · exact ⟨by simp, ⟨SlAt.nil _ _, by simp, by simp⟩, rfl, Ext.refl _, by simp, by simp⟩
  rintro ⟨vo, k, T, bo⟩ w2 ⟨hk, hT, hmap, hx, hf, hf2⟩
  simp only at hk hT hmap hf hf2 ⊢
  by_cases hkl : k < L.length
  · have hTl : T.length = k := by
      have := congrArg List.length hmap
      simpa [List.length_take, Nat.min_eq_left hk] using this
    have b0 : (k : Int) < (L.length : Int) := by omega
    have b2 : inI64 ((k : Int) + 1) := by unfold inI64; omega
    (repeat (first | (with_reducible first | (refine hK _ _ ?_; clear hK K) | refine (show ∀ σ' w', _ → K σ' w' from by assumption) _ _ ?_ | refine W_seq_k fun K hK => ?_ | refine W_block_k fun K hK => ?_ | refine W_skip ?_ | refine W_ret ?_) | ((first | ((with_reducible refine W_id ?_); refine W_reg (by decide) (by rfl) ?_) | (with_reducible first | refine W_cond ?_ | refine hZ _ _ ?_ | refine W_exit ?_ | refine Wo_id ?_)); repeat1' simp only [push_cast, Nat.reduceBEq, Nat.reduceLT, Nat.reduceEqDiff, reduceIte, reduceCtorEq, Nat.reduceMul, Nat.reduceAdd, Nat.reduceSub, Int.reduceEq, Int.reduceLT, Int.reduceLE, Int.reduceNeg, Int.reduceAdd, Int.reduceSub, Int.reduceMul, Nat.reduceLeDiff, Int.reduceToNat, b0]) | ((repeat ((fail_if_success with_reducible refine hK _ _ ?_); clear hK K)); (with_reducible refine hK _ _ ?_); clear hK K)))
    refine (node_a (h.pass hx) hb hab k).mono ?_
    rintro v w3 ⟨m, rfl, em, hok, _, hx3, hfr, hnd⟩
    ((repeat simp only [push_cast, Nat.reduceBEq, Nat.reduceLT, Nat.reduceEqDiff, reduceIte, reduceCtorEq, Nat.reduceMul, Nat.reduceAdd, Nat.reduceSub, Int.reduceEq, Int.reduceLT, Int.reduceLE, Int.reduceNeg, Int.reduceAdd, Int.reduceSub, Int.reduceMul, Nat.reduceLeDiff, Int.reduceToNat]); (repeat (first | (with_reducible first | (refine hK _ _ ?_; clear hK K) | refine (show ∀ σ' w', _ → K σ' w' from by assumption) _ _ ?_ | refine W_seq_k fun K hK => ?_ | refine W_block_k fun K hK => ?_ | refine W_skip ?_ | refine W_ret ?_) | ((first | ((with_reducible refine W_id ?_); refine W_reg (by decide) (by rfl) ?_) | (with_reducible first | refine W_cond ?_ | refine hZ _ _ ?_ | refine W_exit ?_ | refine Wo_id ?_)); repeat1' simp only [push_cast, Nat.reduceBEq, Nat.reduceLT, Nat.reduceEqDiff, reduceIte, reduceCtorEq, Nat.reduceMul, Nat.reduceAdd, Nat.reduceSub, Int.reduceEq, Int.reduceLT, Int.reduceLE, Int.reduceNeg, Int.reduceAdd, Int.reduceSub, Int.reduceMul, Nat.reduceLeDiff, Int.reduceToNat]) | ((repeat ((fail_if_success with_reducible refine hK _ _ ?_); clear hK K)); (with_reducible refine hK _ _ ?_); clear hK K))))
    refine bs_one sty39 (by decide) (by decide) (v := m.val) rfl ?_
    have hx4 : Ext w2 (w3.alloc (.cells m.val.cells 30)) := hx3.trans (Ext.alloc _ _)
    have hok4 : m.ok (w3.alloc (.cells m.val.cells 30)) := hok.upd (Ext.alloc _ _) fun _ _ h => h
    have hs4 : SlAt (w3.alloc (.cells m.val.cells 30)) 11 (.slice (some ⟨w3.heap.size, 0, none⟩) 1 1) m.cells (some w3.heap.size) := SlAt.new w3 11 m.val.cells 30 1 rfl
    have hT4 := hT.ext hx4
    have hml : m.cells.length = 11 := rfl
    have hsz : (w3.alloc (.cells m.val.cells 30)).heap.size = w3.heap.size + 1 := size_alloc_h _ _
    have hsx := hx.alike.size
    have hsx3 := hx3.alike.size
    refine app_to sty39 sty39.und (by decide) hT4.sl hs4 hok.one (by rw [flat_length, hml]; omega) ?_
    intro v w5 bo5 g1 g2 g3
    have e5 : flat T ++ m.cells = flat (T ++ [m]) := by simp [flat]
    rw [e5] at g1
    have hnd? : (nd? L k).getD zN = L[k] := by rw [nd?_nat, List.getElem?_eq_getElem hkl]; rfl
    have hbo : ∀ b, bo = some b → b < w2.heap.size := fun b hb => by have := hT.sl; rw [hb] at this; exact this.lt
    ((repeat simp only [push_cast, Nat.reduceBEq, Nat.reduceLT, Nat.reduceEqDiff, reduceIte, reduceCtorEq, Nat.reduceMul, Nat.reduceAdd, Nat.reduceSub, Int.reduceEq, Int.reduceLT, Int.reduceLE, Int.reduceNeg, Int.reduceAdd, Int.reduceSub, Int.reduceMul, Nat.reduceLeDiff, Int.reduceToNat, b2]); (repeat (first | (with_reducible first | (refine hK _ _ ?_; clear hK K) | refine (show ∀ σ' w', _ → K σ' w' from by assumption) _ _ ?_ | refine W_seq_k fun K hK => ?_ | refine W_block_k fun K hK => ?_ | refine W_skip ?_ | refine W_ret ?_) | ((first | ((with_reducible refine W_id ?_); refine W_reg (by decide) (by rfl) ?_) | (with_reducible first | refine W_cond ?_ | refine hZ _ _ ?_ | refine W_exit ?_ | refine Wo_id ?_)); repeat1' simp only [push_cast, Nat.reduceBEq, Nat.reduceLT, Nat.reduceEqDiff, reduceIte, reduceCtorEq, Nat.reduceMul, Nat.reduceAdd, Nat.reduceSub, Int.reduceEq, Int.reduceLT, Int.reduceLE, Int.reduceNeg, Int.reduceAdd, Int.reduceSub, Int.reduceMul, Nat.reduceLeDiff, Int.reduceToNat, b2]) | ((repeat ((fail_if_success with_reducible refine hK _ _ ?_); clear hK K)); (with_reducible refine hK _ _ ?_); clear hK K))))
    refine ⟨(v, k + 1, T ++ [m], bo5), by simp only; omega, ?_⟩
    (repeat simp only [push_cast, Nat.reduceBEq, Nat.reduceLT, Nat.reduceEqDiff, reduceIte, reduceCtorEq, Nat.reduceMul, Nat.reduceAdd, Nat.reduceSub, Int.reduceEq, Int.reduceLT, Int.reduceLE, Int.reduceNeg, Int.reduceAdd, Int.reduceSub, Int.reduceMul, Nat.reduceLeDiff, Int.reduceToNat])
    refine ⟨by omega, ⟨g1, fun x hx' => ?_, fun x hx' b hb e => ?_⟩, ?_, ?_, fun b hb => ?_, fun x hx' b hb => ?_⟩
    · simp only [List.mem_append, List.mem_singleton] at hx'
      rcases hx' with hx' | rfl
      · exact (hT4.ok x hx').upd g2 fun b hb e => hT.apart x hx' b hb e
      · exact hok4.upd g2 fun b hb e => by have := hfr b hb; have := hbo b e; omega
    · simp only [List.mem_append, List.mem_singleton] at hx'
      rcases g3 b e with h' | h'
      · rcases hx' with hx' | rfl
        · exact hT.apart x hx' b hb h'
        · have := hfr b hb; have := hbo b h'; omega
      · rcases hx' with hx' | rfl
        · have := (hT4.ok x hx').lt hb; omega
        · have := hok4.lt hb; omega
    · rw [List.map_append, hmap, List.take_add_one, List.getElem?_eq_getElem hkl]
      simp [em, hnd?]
    · exact Upd.trans (hx.trans hx4) g2 fun b hb e => by have := hf b e; omega
    · rcases g3 b hb with h' | h'
      · exact hf b h'
      · omega
    · simp only [List.mem_append, List.mem_singleton] at hx'
      rcases hx' with hx' | rfl
      · exact hf2 x hx' b hb
      · have := hfr b hb; omega
  · have hke : k = L.length := by omega
    subst hke
    rw [List.take_length] at hmap
    have b0 : ¬ (L.length : Int) < (L.length : Int) := by omega
    (repeat (first | (with_reducible first | (refine hK _ _ ?_; clear hK K) | refine (show ∀ σ' w', _ → K σ' w' from by assumption) _ _ ?_ | refine W_seq_k fun K hK => ?_ | refine W_block_k fun K hK => ?_ | refine W_skip ?_ | refine W_ret ?_) | ((first | ((with_reducible refine W_id ?_); refine W_reg (by decide) (by rfl) ?_) | (with_reducible first | refine W_cond ?_ | refine hZ _ _ ?_ | refine W_exit ?_ | refine Wo_id ?_)); repeat1' simp only [push_cast, Nat.reduceBEq, Nat.reduceLT, Nat.reduceEqDiff, reduceIte, reduceCtorEq, Nat.reduceMul, Nat.reduceAdd, Nat.reduceSub, Int.reduceEq, Int.reduceLT, Int.reduceLE, Int.reduceNeg, Int.reduceAdd, Int.reduceSub, Int.reduceMul, Nat.reduceLeDiff, Int.reduceToNat, b0]) | ((repeat ((fail_if_success with_reducible refine hK _ _ ?_); clear hK K)); (with_reducible refine hK _ _ ?_); clear hK K)))
    exact ⟨T, bo, hT, hmap, hx, hf, hf2⟩
end Go.Proofs.Ytkafpameheohdaa
