/- A list of formatting elements over an arena: what changes it. -/
import Derived.Test.YtkafpameheohdaaHd
import Derived.Test.YtkafpameheohdaaFl2
import Derived.Test.YtkafpameheohdaaMs
set_option linter.unusedSimpArgs false
set_option linter.unusedVariables false
namespace Go.Vk
open Go
def LsAt (w0 w : World) (Q : Nat → Prop) (pl pa : Nat) (L : List Nd) (l : List Int) : Prop :=
  ∃ lv bo, FL w pl (.pointer (some ⟨pa, 0, none⟩)) lv l bo ∧ At w0 w (fun b => Q b ∨ b = pl ∨ bo = some b) pa L ∧ w0.heap.size ≤ pl ∧ (∀ b, bo = some b → w0.heap.size ≤ b ∧ ¬ Q b) ∧ ¬ Q pl
theorem LsAt.pass {w0 w w' : World} {Q : Nat → Prop} {pl pa : Nat} {L : List Nd} {l : List Int} (h : LsAt w0 w Q pl pa L l) (hx : Ext w w') : LsAt w0 w' Q pl pa L l := by
  obtain ⟨lv, bo, h1, h2, h3, h4, h5⟩ := h
  exact ⟨lv, bo, h1.ext hx, h2.pass hx, h3, h4, h5⟩
theorem ls_put {w0 w w2 : World} {Q : Nat → Prop} {pl pa : Nat} {L : List Nd} {l l' : List Int} {lv u : Value} {bo bo' : Option Nat} (hF : FL w pl (.pointer (some ⟨pa, 0, none⟩)) lv l bo) (hA : At w0 w (fun b => Q b ∨ b = pl ∨ bo = some b) pa L)
    (hpl : w0.heap.size ≤ pl) (hbo : ∀ b, bo = some b → w0.heap.size ≤ b ∧ ¬ Q b) (hQ : ¬ Q pl) (hQl : ∀ b, Q b → b < w.heap.size) (g1 : SlAt w2 1 u (intCells l') bo') (g2 : Upd (fun b => bo = some b) w w2) (g3 : ∀ b, bo' = some b → bo = some b ∨ w.heap.size ≤ b) :
    canStore w2 ⟨pl, 1, none⟩ ∧ LsAt w0 (w2.setCell ⟨pl, 1, none⟩ u) Q pl pa L l' ∧ Upd (AF w0 Q) w (w2.setCell ⟨pl, 1, none⟩ u) := by
  have hlt := blk_lt hF.head
  have hnb : ¬ bo = some pl := hF.ne
  have hp2 := (g2.same pl hlt hnb).trans hF.head
  have h0 := hA.ext.alike.size
  have hne' : bo' ≠ some pl := fun e => by
    rcases g3 pl e with h | h
    · exact hnb h
    · omega
  have hs2 := g2.alike.size
  have up : Upd (fun b => b = pl) w2 (w2.setCell ⟨pl, 1, none⟩ u) := Upd.setCell (F := fun b => b = pl) (a := ⟨pl, 1, none⟩) w2 rfl u
  refine ⟨by rw [can_h, hp2, canO_cells]; exact Nat.lt_succ_self 1, ⟨u, bo', ⟨?_, g1.upd up fun b hb e => hne' (by rw [hb, e]), hne'⟩, ?_, hpl, fun b hb => ?_, hQ⟩, ?_⟩
  · rw [heap_set_h, if_pos rfl, hp2]; rfl
  · have hA2 : At w0 w2 (fun b => Q b ∨ b = pl ∨ bo' = some b) pa L := hA.app g2 (fun b hb e => ⟨.inr (.inr e), (hbo b e).1⟩) fun b hb => by
      rcases hb with hb | hb | hb
      · exact .inl (.inl hb)
      · exact .inl (.inr (.inl hb))
      · rcases g3 b hb with h | h
        · exact .inl (.inr (.inr h))
        · exact .inr ⟨h, by rw [hb] at g1; exact g1.lt⟩
    exact hA2.frame up fun b e => ⟨.inr (.inl e), e ▸ hpl⟩
  · rcases g3 b hb with h | h
    · exact hbo b h
    · exact ⟨by omega, fun hq => by have := hQl b hq; omega⟩
  · refine Upd.trans (g2.mono fun b _ e => ⟨(hbo b e).1, (hbo b e).2⟩) up fun b _ e => ⟨e ▸ hpl, e ▸ hQ⟩
def layN (l : List Int) (k : Nat) (i : Int) : List Int × Int := if 64 ≤ l.length then (l, 3) else (l.take k ++ i :: l.drop k, 0)
end Go.Vk
namespace Go.Proofs.Ytkafpameheohdaa
open Go Go.Vk
set_option maxHeartbeats 40000000
section
variable {w0 w : World} {Q : Nat → Prop} {pl pa : Nat} {L : List Nd} {l : List Int}
theorem lay_c (h : LsAt w0 w Q pl pa L l) (hl : l.length < 10000) (k : Nat) (hk : k ≤ l.length) (i : Int) : Gives Try.prog 67 #[.pointer (some ⟨pl, 0, none⟩), .int .i64 (k : Int), .int .i64 i] w fun v w' => v = .int .i64 (layN l k i).2 ∧ LsAt w0 w' Q pl pa L (layN l k i).1 ∧ Upd (AF w0 Q) w w' := by
  have h' := h
  obtain ⟨lv, bo, hF, hA, hpl, hbo, hQ⟩ := h
  have hQl : ∀ b, Q b → b < w.heap.size := fun b hb => hA.low b (.inl hb)
  have h1 := hF.c1
  obtain ⟨a, c, rfl, hc⟩ := hF.sl.ints_len
  by_cases hb : 64 ≤ l.length
  · have b0 : (64 : Int) ≤ (l.length : Int) := by omega
    have e : layN l k i = (l, 3) := if_pos hb
    rw [e]
    refine Gives.of_W Try.call67 Try.func67 rfl Try.ntmps67 (by simp) ?_; intro Z hZ
    (repeat (first | (with_reducible first | (refine hK _ _ ?_; clear hK K) | refine (show ∀ σ' w', _ → K σ' w' from by assumption) _ _ ?_ | refine W_seq_k fun K hK => ?_ | refine W_block_k fun K hK => ?_ | refine W_skip ?_ | refine W_ret ?_) | ((first | ((with_reducible refine W_id ?_); refine W_reg (by decide) (by rfl) ?_) | (with_reducible first | refine W_cond ?_ | refine hZ _ _ ?_ | refine W_exit ?_ | refine Wo_id ?_)); repeat1' simp only [push_cast, Nat.reduceBEq, Nat.reduceLT, Nat.reduceEqDiff, reduceIte, reduceCtorEq, Nat.reduceMul, Nat.reduceAdd, Nat.reduceSub, Int.reduceEq, Int.reduceLT, Int.reduceLE, Int.reduceNeg, Int.reduceAdd, Int.reduceSub, Int.reduceMul, Nat.reduceLeDiff, Int.reduceToNat, h1, b0]) | ((repeat ((fail_if_success with_reducible refine hK _ _ ?_); clear hK K)); (with_reducible refine hK _ _ ?_); clear hK K)))
    exact ⟨h', Upd.refl _ _⟩
  · have b0 : ¬ (64 : Int) ≤ (l.length : Int) := by omega
    have e : layN l k i = (l.take k ++ i :: l.drop k, 0) := if_neg hb
    rw [e]
    refine Gives.of_W Try.call67 Try.func67 rfl Try.ntmps67 (by simp) ?_; intro Z hZ
    (repeat (first | (with_reducible first | (refine hK _ _ ?_; clear hK K) | refine (show ∀ σ' w', _ → K σ' w' from by assumption) _ _ ?_ | refine W_seq_k fun K hK => ?_ | refine W_block_k fun K hK => ?_ | refine W_skip ?_ | refine W_ret ?_) | ((first | ((with_reducible refine W_id ?_); refine W_reg (by decide) (by rfl) ?_) | (with_reducible first | refine W_cond ?_ | refine hZ _ _ ?_ | refine W_exit ?_ | refine Wo_id ?_)); repeat1' simp only [push_cast, Nat.reduceBEq, Nat.reduceLT, Nat.reduceEqDiff, reduceIte, reduceCtorEq, Nat.reduceMul, Nat.reduceAdd, Nat.reduceSub, Int.reduceEq, Int.reduceLT, Int.reduceLE, Int.reduceNeg, Int.reduceAdd, Int.reduceSub, Int.reduceMul, Nat.reduceLeDiff, Int.reduceToNat, h1, b0]) | ((repeat ((fail_if_success with_reducible refine hK _ _ ?_); clear hK K)); (with_reducible refine hK _ _ ?_); clear hK K)))
    refine bs_one sty28 (by decide) (by decide) (v := .int .i64 i) rfl ?_
    have hx := Ext.alloc w (.cells (Value.int .i64 i).cells 3)
    have hb1 : (w.alloc (.cells (Value.int .i64 i).cells 3)).heap[w.heap.size]? = some (.cells #[.int .i64 i] 3 (0, 0)) := by rw [heap_alloc_h, if_pos rfl]; rfl
    have hF1 := hF.ext hx
    have hA1 := hA.pass hx
    have hne : bo ≠ some w.heap.size := fun e => by
      have := hF.sl; rw [e] at this; have := this.lt; omega
    refine (insert_c hF1.sl (by omega) hb1 hne k hk).mono ?_
    rintro v w2 ⟨bo', g1, g2, g3⟩
    have hsz : (w.alloc (.cells (Value.int .i64 i).cells 3)).heap.size = w.heap.size + 1 := size_alloc_h _ _
    obtain ⟨k1, k2, k3⟩ := ls_put hF1 hA1 hpl hbo hQ (fun b hb => by have := hQl b hb; omega) g1 g2 g3
    obtain ⟨va, vn, vc, rfl, _, _⟩ := g1.len
    ((repeat simp only [push_cast, Nat.reduceBEq, Nat.reduceLT, Nat.reduceEqDiff, reduceIte, reduceCtorEq, Nat.reduceMul, Nat.reduceAdd, Nat.reduceSub, Int.reduceEq, Int.reduceLT, Int.reduceLE, Int.reduceNeg, Int.reduceAdd, Int.reduceSub, Int.reduceMul, Nat.reduceLeDiff, Int.reduceToNat, k1]); (repeat (first | (with_reducible first | (refine hK _ _ ?_; clear hK K) | refine (show ∀ σ' w', _ → K σ' w' from by assumption) _ _ ?_ | refine W_seq_k fun K hK => ?_ | refine W_block_k fun K hK => ?_ | refine W_skip ?_ | refine W_ret ?_) | ((first | ((with_reducible refine W_id ?_); refine W_reg (by decide) (by rfl) ?_) | (with_reducible first | refine W_cond ?_ | refine hZ _ _ ?_ | refine W_exit ?_ | refine Wo_id ?_)); repeat1' simp only [push_cast, Nat.reduceBEq, Nat.reduceLT, Nat.reduceEqDiff, reduceIte, reduceCtorEq, Nat.reduceMul, Nat.reduceAdd, Nat.reduceSub, Int.reduceEq, Int.reduceLT, Int.reduceLE, Int.reduceNeg, Int.reduceAdd, Int.reduceSub, Int.reduceMul, Nat.reduceLeDiff, Int.reduceToNat, k1]) | ((repeat ((fail_if_success with_reducible refine hK _ _ ?_); clear hK K)); (with_reducible refine hK _ _ ?_); clear hK K))))
    exact ⟨k2, Upd.trans hx.upd k3 fun _ _ h => h⟩
theorem mark_c (h : LsAt w0 w Q pl pa L l) (hl : l.length < 10000) : Gives Try.prog 30 #[.pointer (some ⟨pl, 0, none⟩)] w fun v w' => v = .int .i64 (layN l l.length (-1)).2 ∧ LsAt w0 w' Q pl pa L (layN l l.length (-1)).1 ∧ Upd (AF w0 Q) w w' := by
  have h' := h
  obtain ⟨lv, bo, hF, hA, hpl, hbo, hQ⟩ := h
  have h1 := hF.c1
  have hn := fnone_c hF
  obtain ⟨a, c, rfl, hc⟩ := hF.sl.ints_len
  refine Gives.of_W Try.call30 Try.func30 rfl Try.ntmps30 (by simp) ?_; intro Z hZ
  (repeat (first | (with_reducible first | (refine hK _ _ ?_; clear hK K) | refine (show ∀ σ' w', _ → K σ' w' from by assumption) _ _ ?_ | refine W_seq_k fun K hK => ?_ | refine W_block_k fun K hK => ?_ | refine W_skip ?_ | refine W_ret ?_) | ((first | ((with_reducible refine W_id ?_); refine W_reg (by decide) (by rfl) ?_) | (with_reducible first | refine W_cond ?_ | refine hZ _ _ ?_ | refine W_exit ?_ | refine Wo_id ?_)); repeat1' simp only [push_cast, Nat.reduceBEq, Nat.reduceLT, Nat.reduceEqDiff, reduceIte, reduceCtorEq, Nat.reduceMul, Nat.reduceAdd, Nat.reduceSub, Int.reduceEq, Int.reduceLT, Int.reduceLE, Int.reduceNeg, Int.reduceAdd, Int.reduceSub, Int.reduceMul, Nat.reduceLeDiff, Int.reduceToNat]) | ((repeat ((fail_if_success with_reducible refine hK _ _ ?_); clear hK K)); (with_reducible refine hK _ _ ?_); clear hK K)))
  refine hn.mono ?_
  rintro v w' ⟨rfl, rfl⟩
  ((repeat simp only [push_cast, Nat.reduceBEq, Nat.reduceLT, Nat.reduceEqDiff, reduceIte, reduceCtorEq, Nat.reduceMul, Nat.reduceAdd, Nat.reduceSub, Int.reduceEq, Int.reduceLT, Int.reduceLE, Int.reduceNeg, Int.reduceAdd, Int.reduceSub, Int.reduceMul, Nat.reduceLeDiff, Int.reduceToNat, h1]); (repeat (first | (with_reducible first | (refine hK _ _ ?_; clear hK K) | refine (show ∀ σ' w', _ → K σ' w' from by assumption) _ _ ?_ | refine W_seq_k fun K hK => ?_ | refine W_block_k fun K hK => ?_ | refine W_skip ?_ | refine W_ret ?_) | ((first | ((with_reducible refine W_id ?_); refine W_reg (by decide) (by rfl) ?_) | (with_reducible first | refine W_cond ?_ | refine hZ _ _ ?_ | refine W_exit ?_ | refine Wo_id ?_)); repeat1' simp only [push_cast, Nat.reduceBEq, Nat.reduceLT, Nat.reduceEqDiff, reduceIte, reduceCtorEq, Nat.reduceMul, Nat.reduceAdd, Nat.reduceSub, Int.reduceEq, Int.reduceLT, Int.reduceLE, Int.reduceNeg, Int.reduceAdd, Int.reduceSub, Int.reduceMul, Nat.reduceLeDiff, Int.reduceToNat, h1]) | ((repeat ((fail_if_success with_reducible refine hK _ _ ?_); clear hK K)); (with_reducible refine hK _ _ ?_); clear hK K))))
  refine (lay_c h' hl l.length (Nat.le_refl _) (-1)).mono ?_
  rintro v w' ⟨rfl, k2, k3⟩
  ((repeat simp only [push_cast, Nat.reduceBEq, Nat.reduceLT, Nat.reduceEqDiff, reduceIte, reduceCtorEq, Nat.reduceMul, Nat.reduceAdd, Nat.reduceSub, Int.reduceEq, Int.reduceLT, Int.reduceLE, Int.reduceNeg, Int.reduceAdd, Int.reduceSub, Int.reduceMul, Nat.reduceLeDiff, Int.reduceToNat]); (repeat (first | (with_reducible first | (refine hK _ _ ?_; clear hK K) | refine (show ∀ σ' w', _ → K σ' w' from by assumption) _ _ ?_ | refine W_seq_k fun K hK => ?_ | refine W_block_k fun K hK => ?_ | refine W_skip ?_ | refine W_ret ?_) | ((first | ((with_reducible refine W_id ?_); refine W_reg (by decide) (by rfl) ?_) | (with_reducible first | refine W_cond ?_ | refine hZ _ _ ?_ | refine W_exit ?_ | refine Wo_id ?_)); repeat1' simp only [push_cast, Nat.reduceBEq, Nat.reduceLT, Nat.reduceEqDiff, reduceIte, reduceCtorEq, Nat.reduceMul, Nat.reduceAdd, Nat.reduceSub, Int.reduceEq, Int.reduceLT, Int.reduceLE, Int.reduceNeg, Int.reduceAdd, Int.reduceSub, Int.reduceMul, Nat.reduceLeDiff, Int.reduceToNat]) | ((repeat ((fail_if_success with_reducible refine hK _ _ ?_); clear hK K)); (with_reducible refine hK _ _ ?_); clear hK K))))
  exact ⟨k2, k3⟩
theorem may_c (h : LsAt w0 w Q pl pa L l) (hb : L.length < 100000) (ha : ∀ n ∈ L, n.attrs.length < 1000000) (i : Int) : Gives Try.prog 68 #[.pointer (some ⟨pl, 0, none⟩), .int .i64 i] w fun v w' => v = .int .i64 (if ((nd? L i).getD zN).kind = 3 then 0 else 2) ∧ Ext w w' := by
  obtain ⟨lv, bo, hF, hA, hpl, hbo, hQ⟩ := h
  have h0 := hF.c0
  have hn := fnone_c hF
  by_cases hk : ((nd? L i).getD zN).kind = 3
  · rw [if_pos hk]
    refine Gives.of_W Try.call68 Try.func68 rfl Try.ntmps68 (by simp) ?_; intro Z hZ
    (repeat (first | (with_reducible first | (refine hK _ _ ?_; clear hK K) | refine (show ∀ σ' w', _ → K σ' w' from by assumption) _ _ ?_ | refine W_seq_k fun K hK => ?_ | refine W_block_k fun K hK => ?_ | refine W_skip ?_ | refine W_ret ?_) | ((first | ((with_reducible refine W_id ?_); refine W_reg (by decide) (by rfl) ?_) | (with_reducible first | refine W_cond ?_ | refine hZ _ _ ?_ | refine W_exit ?_ | refine Wo_id ?_)); repeat1' simp only [push_cast, Nat.reduceBEq, Nat.reduceLT, Nat.reduceEqDiff, reduceIte, reduceCtorEq, Nat.reduceMul, Nat.reduceAdd, Nat.reduceSub, Int.reduceEq, Int.reduceLT, Int.reduceLE, Int.reduceNeg, Int.reduceAdd, Int.reduceSub, Int.reduceMul, Nat.reduceLeDiff, Int.reduceToNat]) | ((repeat ((fail_if_success with_reducible refine hK _ _ ?_); clear hK K)); (with_reducible refine hK _ _ ?_); clear hK K)))
    refine hn.mono ?_
    rintro v w' ⟨rfl, rfl⟩
    ((repeat simp only [push_cast, Nat.reduceBEq, Nat.reduceLT, Nat.reduceEqDiff, reduceIte, reduceCtorEq, Nat.reduceMul, Nat.reduceAdd, Nat.reduceSub, Int.reduceEq, Int.reduceLT, Int.reduceLE, Int.reduceNeg, Int.reduceAdd, Int.reduceSub, Int.reduceMul, Nat.reduceLeDiff, Int.reduceToNat, h0]); (repeat (first | (with_reducible first | (refine hK _ _ ?_; clear hK K) | refine (show ∀ σ' w', _ → K σ' w' from by assumption) _ _ ?_ | refine W_seq_k fun K hK => ?_ | refine W_block_k fun K hK => ?_ | refine W_skip ?_ | refine W_ret ?_) | ((first | ((with_reducible refine W_id ?_); refine W_reg (by decide) (by rfl) ?_) | (with_reducible first | refine W_cond ?_ | refine hZ _ _ ?_ | refine W_exit ?_ | refine Wo_id ?_)); repeat1' simp only [push_cast, Nat.reduceBEq, Nat.reduceLT, Nat.reduceEqDiff, reduceIte, reduceCtorEq, Nat.reduceMul, Nat.reduceAdd, Nat.reduceSub, Int.reduceEq, Int.reduceLT, Int.reduceLE, Int.reduceNeg, Int.reduceAdd, Int.reduceSub, Int.reduceMul, Nat.reduceLeDiff, Int.reduceToNat, h0]) | ((repeat ((fail_if_success with_reducible refine hK _ _ ?_); clear hK K)); (with_reducible refine hK _ _ ?_); clear hK K))))
    refine (node_a hA hb ha i).mono ?_
    rintro v w2 ⟨m, rfl, em, _, _, hx, _, _⟩
    have ek : m.nd.kind = 3 := by rw [em]; exact hk
    ((repeat simp only [push_cast, Nat.reduceBEq, Nat.reduceLT, Nat.reduceEqDiff, reduceIte, reduceCtorEq, Nat.reduceMul, Nat.reduceAdd, Nat.reduceSub, Int.reduceEq, Int.reduceLT, Int.reduceLE, Int.reduceNeg, Int.reduceAdd, Int.reduceSub, Int.reduceMul, Nat.reduceLeDiff, Int.reduceToNat, fld0, ek, not_true_eq_false]); (repeat (first | (with_reducible first | (refine hK _ _ ?_; clear hK K) | refine (show ∀ σ' w', _ → K σ' w' from by assumption) _ _ ?_ | refine W_seq_k fun K hK => ?_ | refine W_block_k fun K hK => ?_ | refine W_skip ?_ | refine W_ret ?_) | ((first | ((with_reducible refine W_id ?_); refine W_reg (by decide) (by rfl) ?_) | (with_reducible first | refine W_cond ?_ | refine hZ _ _ ?_ | refine W_exit ?_ | refine Wo_id ?_)); repeat1' simp only [push_cast, Nat.reduceBEq, Nat.reduceLT, Nat.reduceEqDiff, reduceIte, reduceCtorEq, Nat.reduceMul, Nat.reduceAdd, Nat.reduceSub, Int.reduceEq, Int.reduceLT, Int.reduceLE, Int.reduceNeg, Int.reduceAdd, Int.reduceSub, Int.reduceMul, Nat.reduceLeDiff, Int.reduceToNat, fld0, ek, not_true_eq_false]) | ((repeat ((fail_if_success with_reducible refine hK _ _ ?_); clear hK K)); (with_reducible refine hK _ _ ?_); clear hK K))))
    exact hx
  · rw [if_neg hk]
    refine Gives.of_W Try.call68 Try.func68 rfl Try.ntmps68 (by simp) ?_; intro Z hZ
    (repeat (first | (with_reducible first | (refine hK _ _ ?_; clear hK K) | refine (show ∀ σ' w', _ → K σ' w' from by assumption) _ _ ?_ | refine W_seq_k fun K hK => ?_ | refine W_block_k fun K hK => ?_ | refine W_skip ?_ | refine W_ret ?_) | ((first | ((with_reducible refine W_id ?_); refine W_reg (by decide) (by rfl) ?_) | (with_reducible first | refine W_cond ?_ | refine hZ _ _ ?_ | refine W_exit ?_ | refine Wo_id ?_)); repeat1' simp only [push_cast, Nat.reduceBEq, Nat.reduceLT, Nat.reduceEqDiff, reduceIte, reduceCtorEq, Nat.reduceMul, Nat.reduceAdd, Nat.reduceSub, Int.reduceEq, Int.reduceLT, Int.reduceLE, Int.reduceNeg, Int.reduceAdd, Int.reduceSub, Int.reduceMul, Nat.reduceLeDiff, Int.reduceToNat]) | ((repeat ((fail_if_success with_reducible refine hK _ _ ?_); clear hK K)); (with_reducible refine hK _ _ ?_); clear hK K)))
    refine hn.mono ?_
    rintro v w' ⟨rfl, rfl⟩
    ((repeat simp only [push_cast, Nat.reduceBEq, Nat.reduceLT, Nat.reduceEqDiff, reduceIte, reduceCtorEq, Nat.reduceMul, Nat.reduceAdd, Nat.reduceSub, Int.reduceEq, Int.reduceLT, Int.reduceLE, Int.reduceNeg, Int.reduceAdd, Int.reduceSub, Int.reduceMul, Nat.reduceLeDiff, Int.reduceToNat, h0]); (repeat (first | (with_reducible first | (refine hK _ _ ?_; clear hK K) | refine (show ∀ σ' w', _ → K σ' w' from by assumption) _ _ ?_ | refine W_seq_k fun K hK => ?_ | refine W_block_k fun K hK => ?_ | refine W_skip ?_ | refine W_ret ?_) | ((first | ((with_reducible refine W_id ?_); refine W_reg (by decide) (by rfl) ?_) | (with_reducible first | refine W_cond ?_ | refine hZ _ _ ?_ | refine W_exit ?_ | refine Wo_id ?_)); repeat1' simp only [push_cast, Nat.reduceBEq, Nat.reduceLT, Nat.reduceEqDiff, reduceIte, reduceCtorEq, Nat.reduceMul, Nat.reduceAdd, Nat.reduceSub, Int.reduceEq, Int.reduceLT, Int.reduceLE, Int.reduceNeg, Int.reduceAdd, Int.reduceSub, Int.reduceMul, Nat.reduceLeDiff, Int.reduceToNat, h0]) | ((repeat ((fail_if_success with_reducible refine hK _ _ ?_); clear hK K)); (with_reducible refine hK _ _ ?_); clear hK K))))
    refine (node_a hA hb ha i).mono ?_
    rintro v w2 ⟨m, rfl, em, _, _, hx, _, _⟩
    have ek : ¬ m.nd.kind = 3 := by rw [em]; exact hk
    ((repeat simp only [push_cast, Nat.reduceBEq, Nat.reduceLT, Nat.reduceEqDiff, reduceIte, reduceCtorEq, Nat.reduceMul, Nat.reduceAdd, Nat.reduceSub, Int.reduceEq, Int.reduceLT, Int.reduceLE, Int.reduceNeg, Int.reduceAdd, Int.reduceSub, Int.reduceMul, Nat.reduceLeDiff, Int.reduceToNat, fld0, ek, not_false_eq_true]); (repeat (first | (with_reducible first | (refine hK _ _ ?_; clear hK K) | refine (show ∀ σ' w', _ → K σ' w' from by assumption) _ _ ?_ | refine W_seq_k fun K hK => ?_ | refine W_block_k fun K hK => ?_ | refine W_skip ?_ | refine W_ret ?_) | ((first | ((with_reducible refine W_id ?_); refine W_reg (by decide) (by rfl) ?_) | (with_reducible first | refine W_cond ?_ | refine hZ _ _ ?_ | refine W_exit ?_ | refine Wo_id ?_)); repeat1' simp only [push_cast, Nat.reduceBEq, Nat.reduceLT, Nat.reduceEqDiff, reduceIte, reduceCtorEq, Nat.reduceMul, Nat.reduceAdd, Nat.reduceSub, Int.reduceEq, Int.reduceLT, Int.reduceLE, Int.reduceNeg, Int.reduceAdd, Int.reduceSub, Int.reduceMul, Nat.reduceLeDiff, Int.reduceToNat, fld0, ek, not_false_eq_true]) | ((repeat ((fail_if_success with_reducible refine hK _ _ ?_); clear hK K)); (with_reducible refine hK _ _ ?_); clear hK K))))
    exact hx
theorem lastF_sat (p : Int → Bool) (l : List Int) (fr : Int) : ∀ k : Nat, 0 ≤ lastF p l fr k → ∃ q : Nat, lastF p l fr k = q ∧ q < k ∧ fr ≤ q ∧ p (l.getD q 0) = true
  | 0, h => by simp [lastF] at h
  | k + 1, h => by
    rw [lastF] at h ⊢
    by_cases h1 : (k : Int) < fr
    · rw [if_pos h1] at h; omega
    · rw [if_neg h1] at h ⊢
      by_cases h2 : p (l.getD k 0) = true
      · rw [if_pos h2]; exact ⟨k, rfl, by omega, by omega, h2⟩
      · rw [if_neg h2] at h ⊢
        obtain ⟨q, e1, e2, e3, e4⟩ := lastF_sat p l fr k h
        exact ⟨q, e1, by omega, e3, e4⟩
theorem indexN_rng (l : List Int) (i : Int) : indexN l i < 0 ∨ ∃ q : Nat, indexN l i = q ∧ q < l.length := by
  unfold indexN
  split
  · exact .inl (by decide)
  · by_cases h : 0 ≤ lastF (fun y => decide (y = i)) l 0 l.length
    · obtain ⟨q, e, h1, _⟩ := lastF_sat _ _ _ _ h
      exact .inr ⟨q, e, h1⟩
    · exact .inl (by omega)
def removeN (l : List Int) (i : Int) : List Int × Int := if indexN l i < 0 then (l, 4) else (l.eraseIdx (indexN l i).toNat, 0)
theorem remove_c (h : LsAt w0 w Q pl pa L l) (hl : l.length < 10000) (i : Int) : Gives Try.prog 48 #[.pointer (some ⟨pl, 0, none⟩), .int .i64 i] w fun v w' => v = .int .i64 (removeN l i).2 ∧ LsAt w0 w' Q pl pa L (removeN l i).1 ∧ Upd (AF w0 Q) w w' := by
  have h' := h
  obtain ⟨lv, bo, hF, hA, hpl, hbo, hQ⟩ := h
  have hQl : ∀ b, Q b → b < w.heap.size := fun b hb => hA.low b (.inl hb)
  have hn := fnone_c hF
  rcases indexN_rng l i with hi | ⟨q, hi, hq⟩
  · have e : removeN l i = (l, 4) := if_pos hi
    rw [e]
    refine Gives.of_W Try.call48 Try.func48 rfl Try.ntmps48 (by simp) ?_; intro Z hZ
    (repeat (first | (with_reducible first | (refine hK _ _ ?_; clear hK K) | refine (show ∀ σ' w', _ → K σ' w' from by assumption) _ _ ?_ | refine W_seq_k fun K hK => ?_ | refine W_block_k fun K hK => ?_ | refine W_skip ?_ | refine W_ret ?_) | ((first | ((with_reducible refine W_id ?_); refine W_reg (by decide) (by rfl) ?_) | (with_reducible first | refine W_cond ?_ | refine hZ _ _ ?_ | refine W_exit ?_ | refine Wo_id ?_)); repeat1' simp only [push_cast, Nat.reduceBEq, Nat.reduceLT, Nat.reduceEqDiff, reduceIte, reduceCtorEq, Nat.reduceMul, Nat.reduceAdd, Nat.reduceSub, Int.reduceEq, Int.reduceLT, Int.reduceLE, Int.reduceNeg, Int.reduceAdd, Int.reduceSub, Int.reduceMul, Nat.reduceLeDiff, Int.reduceToNat]) | ((repeat ((fail_if_success with_reducible refine hK _ _ ?_); clear hK K)); (with_reducible refine hK _ _ ?_); clear hK K)))
    refine hn.mono ?_
    rintro v w' ⟨rfl, rfl⟩
    ((repeat simp only [push_cast, Nat.reduceBEq, Nat.reduceLT, Nat.reduceEqDiff, reduceIte, reduceCtorEq, Nat.reduceMul, Nat.reduceAdd, Nat.reduceSub, Int.reduceEq, Int.reduceLT, Int.reduceLE, Int.reduceNeg, Int.reduceAdd, Int.reduceSub, Int.reduceMul, Nat.reduceLeDiff, Int.reduceToNat]); (repeat (first | (with_reducible first | (refine hK _ _ ?_; clear hK K) | refine (show ∀ σ' w', _ → K σ' w' from by assumption) _ _ ?_ | refine W_seq_k fun K hK => ?_ | refine W_block_k fun K hK => ?_ | refine W_skip ?_ | refine W_ret ?_) | ((first | ((with_reducible refine W_id ?_); refine W_reg (by decide) (by rfl) ?_) | (with_reducible first | refine W_cond ?_ | refine hZ _ _ ?_ | refine W_exit ?_ | refine Wo_id ?_)); repeat1' simp only [push_cast, Nat.reduceBEq, Nat.reduceLT, Nat.reduceEqDiff, reduceIte, reduceCtorEq, Nat.reduceMul, Nat.reduceAdd, Nat.reduceSub, Int.reduceEq, Int.reduceLT, Int.reduceLE, Int.reduceNeg, Int.reduceAdd, Int.reduceSub, Int.reduceMul, Nat.reduceLeDiff, Int.reduceToNat]) | ((repeat ((fail_if_success with_reducible refine hK _ _ ?_); clear hK K)); (with_reducible refine hK _ _ ?_); clear hK K))))
    refine (findex_c hF (by omega) i).mono ?_
    rintro v w2 ⟨rfl, hx⟩
    ((repeat simp only [push_cast, Nat.reduceBEq, Nat.reduceLT, Nat.reduceEqDiff, reduceIte, reduceCtorEq, Nat.reduceMul, Nat.reduceAdd, Nat.reduceSub, Int.reduceEq, Int.reduceLT, Int.reduceLE, Int.reduceNeg, Int.reduceAdd, Int.reduceSub, Int.reduceMul, Nat.reduceLeDiff, Int.reduceToNat, hi]); (repeat (first | (with_reducible first | (refine hK _ _ ?_; clear hK K) | refine (show ∀ σ' w', _ → K σ' w' from by assumption) _ _ ?_ | refine W_seq_k fun K hK => ?_ | refine W_block_k fun K hK => ?_ | refine W_skip ?_ | refine W_ret ?_) | ((first | ((with_reducible refine W_id ?_); refine W_reg (by decide) (by rfl) ?_) | (with_reducible first | refine W_cond ?_ | refine hZ _ _ ?_ | refine W_exit ?_ | refine Wo_id ?_)); repeat1' simp only [push_cast, Nat.reduceBEq, Nat.reduceLT, Nat.reduceEqDiff, reduceIte, reduceCtorEq, Nat.reduceMul, Nat.reduceAdd, Nat.reduceSub, Int.reduceEq, Int.reduceLT, Int.reduceLE, Int.reduceNeg, Int.reduceAdd, Int.reduceSub, Int.reduceMul, Nat.reduceLeDiff, Int.reduceToNat, hi]) | ((repeat ((fail_if_success with_reducible refine hK _ _ ?_); clear hK K)); (with_reducible refine hK _ _ ?_); clear hK K))))
    exact ⟨h'.pass hx, hx.upd⟩
  · have e : removeN l i = (l.eraseIdx q, 0) := by
      unfold removeN; rw [hi, if_neg (by omega)]; simp
    rw [e]
    have b0 : ¬ (q : Int) < 0 := by omega
    have b1 : inI64 ((q : Int) + 1) := by unfold inI64; omega
    refine Gives.of_W Try.call48 Try.func48 rfl Try.ntmps48 (by simp) ?_; intro Z hZ
    (repeat (first | (with_reducible first | (refine hK _ _ ?_; clear hK K) | refine (show ∀ σ' w', _ → K σ' w' from by assumption) _ _ ?_ | refine W_seq_k fun K hK => ?_ | refine W_block_k fun K hK => ?_ | refine W_skip ?_ | refine W_ret ?_) | ((first | ((with_reducible refine W_id ?_); refine W_reg (by decide) (by rfl) ?_) | (with_reducible first | refine W_cond ?_ | refine hZ _ _ ?_ | refine W_exit ?_ | refine Wo_id ?_)); repeat1' simp only [push_cast, Nat.reduceBEq, Nat.reduceLT, Nat.reduceEqDiff, reduceIte, reduceCtorEq, Nat.reduceMul, Nat.reduceAdd, Nat.reduceSub, Int.reduceEq, Int.reduceLT, Int.reduceLE, Int.reduceNeg, Int.reduceAdd, Int.reduceSub, Int.reduceMul, Nat.reduceLeDiff, Int.reduceToNat]) | ((repeat ((fail_if_success with_reducible refine hK _ _ ?_); clear hK K)); (with_reducible refine hK _ _ ?_); clear hK K)))
    refine hn.mono ?_
    rintro v w' ⟨rfl, rfl⟩
    ((repeat simp only [push_cast, Nat.reduceBEq, Nat.reduceLT, Nat.reduceEqDiff, reduceIte, reduceCtorEq, Nat.reduceMul, Nat.reduceAdd, Nat.reduceSub, Int.reduceEq, Int.reduceLT, Int.reduceLE, Int.reduceNeg, Int.reduceAdd, Int.reduceSub, Int.reduceMul, Nat.reduceLeDiff, Int.reduceToNat]); (repeat (first | (with_reducible first | (refine hK _ _ ?_; clear hK K) | refine (show ∀ σ' w', _ → K σ' w' from by assumption) _ _ ?_ | refine W_seq_k fun K hK => ?_ | refine W_block_k fun K hK => ?_ | refine W_skip ?_ | refine W_ret ?_) | ((first | ((with_reducible refine W_id ?_); refine W_reg (by decide) (by rfl) ?_) | (with_reducible first | refine W_cond ?_ | refine hZ _ _ ?_ | refine W_exit ?_ | refine Wo_id ?_)); repeat1' simp only [push_cast, Nat.reduceBEq, Nat.reduceLT, Nat.reduceEqDiff, reduceIte, reduceCtorEq, Nat.reduceMul, Nat.reduceAdd, Nat.reduceSub, Int.reduceEq, Int.reduceLT, Int.reduceLE, Int.reduceNeg, Int.reduceAdd, Int.reduceSub, Int.reduceMul, Nat.reduceLeDiff, Int.reduceToNat]) | ((repeat ((fail_if_success with_reducible refine hK _ _ ?_); clear hK K)); (with_reducible refine hK _ _ ?_); clear hK K))))
    refine (findex_c hF (by omega) i).mono ?_
    rintro v w2 ⟨rfl, hx⟩
    rw [hi]
    have hF2 := hF.ext hx
    have hA2 := hA.pass hx
    have hs := hx.alike.size
    have h1 := hF2.c1
    ((repeat simp only [push_cast, Nat.reduceBEq, Nat.reduceLT, Nat.reduceEqDiff, reduceIte, reduceCtorEq, Nat.reduceMul, Nat.reduceAdd, Nat.reduceSub, Int.reduceEq, Int.reduceLT, Int.reduceLE, Int.reduceNeg, Int.reduceAdd, Int.reduceSub, Int.reduceMul, Nat.reduceLeDiff, Int.reduceToNat, b0, b1, h1]); (repeat (first | (with_reducible first | (refine hK _ _ ?_; clear hK K) | refine (show ∀ σ' w', _ → K σ' w' from by assumption) _ _ ?_ | refine W_seq_k fun K hK => ?_ | refine W_block_k fun K hK => ?_ | refine W_skip ?_ | refine W_ret ?_) | ((first | ((with_reducible refine W_id ?_); refine W_reg (by decide) (by rfl) ?_) | (with_reducible first | refine W_cond ?_ | refine hZ _ _ ?_ | refine W_exit ?_ | refine Wo_id ?_)); repeat1' simp only [push_cast, Nat.reduceBEq, Nat.reduceLT, Nat.reduceEqDiff, reduceIte, reduceCtorEq, Nat.reduceMul, Nat.reduceAdd, Nat.reduceSub, Int.reduceEq, Int.reduceLT, Int.reduceLE, Int.reduceNeg, Int.reduceAdd, Int.reduceSub, Int.reduceMul, Nat.reduceLeDiff, Int.reduceToNat, b0, b1, h1]) | ((repeat ((fail_if_success with_reducible refine hK _ _ ?_); clear hK K)); (with_reducible refine hK _ _ ?_); clear hK K))))
    refine (delete_c hF2.sl (by omega) q hq).mono ?_
    rintro v w3 ⟨g1, g2⟩
    obtain ⟨k1, k2, k3⟩ := ls_put hF2 hA2 hpl hbo hQ (fun b hb => by have := hQl b hb; omega) g1 g2 (fun b hb => .inl hb)
    obtain ⟨va, vn, vc, rfl, _, _⟩ := g1.len
    ((repeat simp only [push_cast, Nat.reduceBEq, Nat.reduceLT, Nat.reduceEqDiff, reduceIte, reduceCtorEq, Nat.reduceMul, Nat.reduceAdd, Nat.reduceSub, Int.reduceEq, Int.reduceLT, Int.reduceLE, Int.reduceNeg, Int.reduceAdd, Int.reduceSub, Int.reduceMul, Nat.reduceLeDiff, Int.reduceToNat, k1]); (repeat (first | (with_reducible first | (refine hK _ _ ?_; clear hK K) | refine (show ∀ σ' w', _ → K σ' w' from by assumption) _ _ ?_ | refine W_seq_k fun K hK => ?_ | refine W_block_k fun K hK => ?_ | refine W_skip ?_ | refine W_ret ?_) | ((first | ((with_reducible refine W_id ?_); refine W_reg (by decide) (by rfl) ?_) | (with_reducible first | refine W_cond ?_ | refine hZ _ _ ?_ | refine W_exit ?_ | refine Wo_id ?_)); repeat1' simp only [push_cast, Nat.reduceBEq, Nat.reduceLT, Nat.reduceEqDiff, reduceIte, reduceCtorEq, Nat.reduceMul, Nat.reduceAdd, Nat.reduceSub, Int.reduceEq, Int.reduceLT, Int.reduceLE, Int.reduceNeg, Int.reduceAdd, Int.reduceSub, Int.reduceMul, Nat.reduceLeDiff, Int.reduceToNat, k1]) | ((repeat ((fail_if_success with_reducible refine hK _ _ ?_); clear hK K)); (with_reducible refine hK _ _ ?_); clear hK K))))
    exact ⟨k2, Upd.trans hx.upd k3 fun _ _ h => h⟩
def insertL (L : List Nd) (l : List Int) (k i : Int) : List Int × Int := if ((nd? L i).getD zN).kind = 3 then (if 0 ≤ k ∧ k ≤ l.length then layN l k.toNat i else (l, 2)) else (l, 2)
theorem insertl_c (h : LsAt w0 w Q pl pa L l) (hb : L.length < 100000) (ha : ∀ n ∈ L, n.attrs.length < 1000000) (hl : l.length < 10000) (k i : Int) : Gives Try.prog 46 #[.pointer (some ⟨pl, 0, none⟩), .int .i64 k, .int .i64 i] w fun v w' => v = .int .i64 (insertL L l k i).2 ∧ LsAt w0 w' Q pl pa L (insertL L l k i).1 ∧ Upd (AF w0 Q) w w' := by
  have hm := may_c h hb ha i
  unfold insertL
  by_cases hk : ((nd? L i).getD zN).kind = 3
  · rw [if_pos hk]
    rw [if_pos hk] at hm
    by_cases hkk : 0 ≤ k ∧ k ≤ l.length
    · rw [if_pos hkk]
      obtain ⟨k, rfl⟩ : ∃ q : Nat, k = q := ⟨k.toNat, by omega⟩
      have b0 : ¬ (k : Int) < 0 := by omega
      have b1 : ¬ (l.length : Int) < (k : Int) := by omega
      refine Gives.of_W Try.call46 Try.func46 rfl Try.ntmps46 (by simp) ?_; intro Z hZ
      (repeat (first | (with_reducible first | (refine hK _ _ ?_; clear hK K) | refine (show ∀ σ' w', _ → K σ' w' from by assumption) _ _ ?_ | refine W_seq_k fun K hK => ?_ | refine W_block_k fun K hK => ?_ | refine W_skip ?_ | refine W_ret ?_) | ((first | ((with_reducible refine W_id ?_); refine W_reg (by decide) (by rfl) ?_) | (with_reducible first | refine W_cond ?_ | refine hZ _ _ ?_ | refine W_exit ?_ | refine Wo_id ?_)); repeat1' simp only [push_cast, Nat.reduceBEq, Nat.reduceLT, Nat.reduceEqDiff, reduceIte, reduceCtorEq, Nat.reduceMul, Nat.reduceAdd, Nat.reduceSub, Int.reduceEq, Int.reduceLT, Int.reduceLE, Int.reduceNeg, Int.reduceAdd, Int.reduceSub, Int.reduceMul, Nat.reduceLeDiff, Int.reduceToNat]) | ((repeat ((fail_if_success with_reducible refine hK _ _ ?_); clear hK K)); (with_reducible refine hK _ _ ?_); clear hK K)))
      refine hm.mono ?_
      rintro v w2 ⟨rfl, hx⟩
      have h2 := h.pass hx
      have h2' := h2
      obtain ⟨lv, bo, hF, _⟩ := h2'
      have h1 := hF.c1
      obtain ⟨a, c, rfl, _⟩ := hF.sl.ints_len
      ((repeat simp only [push_cast, Nat.reduceBEq, Nat.reduceLT, Nat.reduceEqDiff, reduceIte, reduceCtorEq, Nat.reduceMul, Nat.reduceAdd, Nat.reduceSub, Int.reduceEq, Int.reduceLT, Int.reduceLE, Int.reduceNeg, Int.reduceAdd, Int.reduceSub, Int.reduceMul, Nat.reduceLeDiff, Int.reduceToNat, not_true_eq_false, h1, b0, b1]); (repeat (first | (with_reducible first | (refine hK _ _ ?_; clear hK K) | refine (show ∀ σ' w', _ → K σ' w' from by assumption) _ _ ?_ | refine W_seq_k fun K hK => ?_ | refine W_block_k fun K hK => ?_ | refine W_skip ?_ | refine W_ret ?_) | ((first | ((with_reducible refine W_id ?_); refine W_reg (by decide) (by rfl) ?_) | (with_reducible first | refine W_cond ?_ | refine hZ _ _ ?_ | refine W_exit ?_ | refine Wo_id ?_)); repeat1' simp only [push_cast, Nat.reduceBEq, Nat.reduceLT, Nat.reduceEqDiff, reduceIte, reduceCtorEq, Nat.reduceMul, Nat.reduceAdd, Nat.reduceSub, Int.reduceEq, Int.reduceLT, Int.reduceLE, Int.reduceNeg, Int.reduceAdd, Int.reduceSub, Int.reduceMul, Nat.reduceLeDiff, Int.reduceToNat, not_true_eq_false, h1, b0, b1]) | ((repeat ((fail_if_success with_reducible refine hK _ _ ?_); clear hK K)); (with_reducible refine hK _ _ ?_); clear hK K))))
      refine (lay_c h2 hl k (by omega) i).mono ?_
      rintro v w3 ⟨rfl, k2, k3⟩
      ((repeat simp only [push_cast, Nat.reduceBEq, Nat.reduceLT, Nat.reduceEqDiff, reduceIte, reduceCtorEq, Nat.reduceMul, Nat.reduceAdd, Nat.reduceSub, Int.reduceEq, Int.reduceLT, Int.reduceLE, Int.reduceNeg, Int.reduceAdd, Int.reduceSub, Int.reduceMul, Nat.reduceLeDiff, Int.reduceToNat]); (repeat (first | (with_reducible first | (refine hK _ _ ?_; clear hK K) | refine (show ∀ σ' w', _ → K σ' w' from by assumption) _ _ ?_ | refine W_seq_k fun K hK => ?_ | refine W_block_k fun K hK => ?_ | refine W_skip ?_ | refine W_ret ?_) | ((first | ((with_reducible refine W_id ?_); refine W_reg (by decide) (by rfl) ?_) | (with_reducible first | refine W_cond ?_ | refine hZ _ _ ?_ | refine W_exit ?_ | refine Wo_id ?_)); repeat1' simp only [push_cast, Nat.reduceBEq, Nat.reduceLT, Nat.reduceEqDiff, reduceIte, reduceCtorEq, Nat.reduceMul, Nat.reduceAdd, Nat.reduceSub, Int.reduceEq, Int.reduceLT, Int.reduceLE, Int.reduceNeg, Int.reduceAdd, Int.reduceSub, Int.reduceMul, Nat.reduceLeDiff, Int.reduceToNat]) | ((repeat ((fail_if_success with_reducible refine hK _ _ ?_); clear hK K)); (with_reducible refine hK _ _ ?_); clear hK K))))
      exact ⟨k2, Upd.trans hx.upd k3 fun _ _ h => h⟩
    · rw [if_neg hkk]
      by_cases hk0 : k < 0
      · refine Gives.of_W Try.call46 Try.func46 rfl Try.ntmps46 (by simp) ?_; intro Z hZ
        (repeat (first | (with_reducible first | (refine hK _ _ ?_; clear hK K) | refine (show ∀ σ' w', _ → K σ' w' from by assumption) _ _ ?_ | refine W_seq_k fun K hK => ?_ | refine W_block_k fun K hK => ?_ | refine W_skip ?_ | refine W_ret ?_) | ((first | ((with_reducible refine W_id ?_); refine W_reg (by decide) (by rfl) ?_) | (with_reducible first | refine W_cond ?_ | refine hZ _ _ ?_ | refine W_exit ?_ | refine Wo_id ?_)); repeat1' simp only [push_cast, Nat.reduceBEq, Nat.reduceLT, Nat.reduceEqDiff, reduceIte, reduceCtorEq, Nat.reduceMul, Nat.reduceAdd, Nat.reduceSub, Int.reduceEq, Int.reduceLT, Int.reduceLE, Int.reduceNeg, Int.reduceAdd, Int.reduceSub, Int.reduceMul, Nat.reduceLeDiff, Int.reduceToNat]) | ((repeat ((fail_if_success with_reducible refine hK _ _ ?_); clear hK K)); (with_reducible refine hK _ _ ?_); clear hK K)))
        refine hm.mono ?_
        rintro v w2 ⟨rfl, hx⟩
        ((repeat simp only [push_cast, Nat.reduceBEq, Nat.reduceLT, Nat.reduceEqDiff, reduceIte, reduceCtorEq, Nat.reduceMul, Nat.reduceAdd, Nat.reduceSub, Int.reduceEq, Int.reduceLT, Int.reduceLE, Int.reduceNeg, Int.reduceAdd, Int.reduceSub, Int.reduceMul, Nat.reduceLeDiff, Int.reduceToNat, not_true_eq_false, hk0]); (repeat (first | (with_reducible first | (refine hK _ _ ?_; clear hK K) | refine (show ∀ σ' w', _ → K σ' w' from by assumption) _ _ ?_ | refine W_seq_k fun K hK => ?_ | refine W_block_k fun K hK => ?_ | refine W_skip ?_ | refine W_ret ?_) | ((first | ((with_reducible refine W_id ?_); refine W_reg (by decide) (by rfl) ?_) | (with_reducible first | refine W_cond ?_ | refine hZ _ _ ?_ | refine W_exit ?_ | refine Wo_id ?_)); repeat1' simp only [push_cast, Nat.reduceBEq, Nat.reduceLT, Nat.reduceEqDiff, reduceIte, reduceCtorEq, Nat.reduceMul, Nat.reduceAdd, Nat.reduceSub, Int.reduceEq, Int.reduceLT, Int.reduceLE, Int.reduceNeg, Int.reduceAdd, Int.reduceSub, Int.reduceMul, Nat.reduceLeDiff, Int.reduceToNat, not_true_eq_false, hk0]) | ((repeat ((fail_if_success with_reducible refine hK _ _ ?_); clear hK K)); (with_reducible refine hK _ _ ?_); clear hK K))))
        exact ⟨h.pass hx, hx.upd⟩
      · have b1 : (l.length : Int) < k := by omega
        refine Gives.of_W Try.call46 Try.func46 rfl Try.ntmps46 (by simp) ?_; intro Z hZ
        (repeat (first | (with_reducible first | (refine hK _ _ ?_; clear hK K) | refine (show ∀ σ' w', _ → K σ' w' from by assumption) _ _ ?_ | refine W_seq_k fun K hK => ?_ | refine W_block_k fun K hK => ?_ | refine W_skip ?_ | refine W_ret ?_) | ((first | ((with_reducible refine W_id ?_); refine W_reg (by decide) (by rfl) ?_) | (with_reducible first | refine W_cond ?_ | refine hZ _ _ ?_ | refine W_exit ?_ | refine Wo_id ?_)); repeat1' simp only [push_cast, Nat.reduceBEq, Nat.reduceLT, Nat.reduceEqDiff, reduceIte, reduceCtorEq, Nat.reduceMul, Nat.reduceAdd, Nat.reduceSub, Int.reduceEq, Int.reduceLT, Int.reduceLE, Int.reduceNeg, Int.reduceAdd, Int.reduceSub, Int.reduceMul, Nat.reduceLeDiff, Int.reduceToNat]) | ((repeat ((fail_if_success with_reducible refine hK _ _ ?_); clear hK K)); (with_reducible refine hK _ _ ?_); clear hK K)))
        refine hm.mono ?_
        rintro v w2 ⟨rfl, hx⟩
        have h2 := h.pass hx
        have h2' := h2
        obtain ⟨lv, bo, hF, _⟩ := h2'
        have h1 := hF.c1
        obtain ⟨a, c, rfl, _⟩ := hF.sl.ints_len
        ((repeat simp only [push_cast, Nat.reduceBEq, Nat.reduceLT, Nat.reduceEqDiff, reduceIte, reduceCtorEq, Nat.reduceMul, Nat.reduceAdd, Nat.reduceSub, Int.reduceEq, Int.reduceLT, Int.reduceLE, Int.reduceNeg, Int.reduceAdd, Int.reduceSub, Int.reduceMul, Nat.reduceLeDiff, Int.reduceToNat, not_true_eq_false, hk0, h1, b1]); (repeat (first | (with_reducible first | (refine hK _ _ ?_; clear hK K) | refine (show ∀ σ' w', _ → K σ' w' from by assumption) _ _ ?_ | refine W_seq_k fun K hK => ?_ | refine W_block_k fun K hK => ?_ | refine W_skip ?_ | refine W_ret ?_) | ((first | ((with_reducible refine W_id ?_); refine W_reg (by decide) (by rfl) ?_) | (with_reducible first | refine W_cond ?_ | refine hZ _ _ ?_ | refine W_exit ?_ | refine Wo_id ?_)); repeat1' simp only [push_cast, Nat.reduceBEq, Nat.reduceLT, Nat.reduceEqDiff, reduceIte, reduceCtorEq, Nat.reduceMul, Nat.reduceAdd, Nat.reduceSub, Int.reduceEq, Int.reduceLT, Int.reduceLE, Int.reduceNeg, Int.reduceAdd, Int.reduceSub, Int.reduceMul, Nat.reduceLeDiff, Int.reduceToNat, not_true_eq_false, hk0, h1, b1]) | ((repeat ((fail_if_success with_reducible refine hK _ _ ?_); clear hK K)); (with_reducible refine hK _ _ ?_); clear hK K))))
        exact ⟨h2, hx.upd⟩
  · rw [if_neg hk]
    rw [if_neg hk] at hm
    refine Gives.of_W Try.call46 Try.func46 rfl Try.ntmps46 (by simp) ?_; intro Z hZ
    (repeat (first | (with_reducible first | (refine hK _ _ ?_; clear hK K) | refine (show ∀ σ' w', _ → K σ' w' from by assumption) _ _ ?_ | refine W_seq_k fun K hK => ?_ | refine W_block_k fun K hK => ?_ | refine W_skip ?_ | refine W_ret ?_) | ((first | ((with_reducible refine W_id ?_); refine W_reg (by decide) (by rfl) ?_) | (with_reducible first | refine W_cond ?_ | refine hZ _ _ ?_ | refine W_exit ?_ | refine Wo_id ?_)); repeat1' simp only [push_cast, Nat.reduceBEq, Nat.reduceLT, Nat.reduceEqDiff, reduceIte, reduceCtorEq, Nat.reduceMul, Nat.reduceAdd, Nat.reduceSub, Int.reduceEq, Int.reduceLT, Int.reduceLE, Int.reduceNeg, Int.reduceAdd, Int.reduceSub, Int.reduceMul, Nat.reduceLeDiff, Int.reduceToNat]) | ((repeat ((fail_if_success with_reducible refine hK _ _ ?_); clear hK K)); (with_reducible refine hK _ _ ?_); clear hK K)))
    refine hm.mono ?_
    rintro v w2 ⟨rfl, hx⟩
    ((repeat simp only [push_cast, Nat.reduceBEq, Nat.reduceLT, Nat.reduceEqDiff, reduceIte, reduceCtorEq, Nat.reduceMul, Nat.reduceAdd, Nat.reduceSub, Int.reduceEq, Int.reduceLT, Int.reduceLE, Int.reduceNeg, Int.reduceAdd, Int.reduceSub, Int.reduceMul, Nat.reduceLeDiff, Int.reduceToNat, not_false_eq_true]); (repeat (first | (with_reducible first | (refine hK _ _ ?_; clear hK K) | refine (show ∀ σ' w', _ → K σ' w' from by assumption) _ _ ?_ | refine W_seq_k fun K hK => ?_ | refine W_block_k fun K hK => ?_ | refine W_skip ?_ | refine W_ret ?_) | ((first | ((with_reducible refine W_id ?_); refine W_reg (by decide) (by rfl) ?_) | (with_reducible first | refine W_cond ?_ | refine hZ _ _ ?_ | refine W_exit ?_ | refine Wo_id ?_)); repeat1' simp only [push_cast, Nat.reduceBEq, Nat.reduceLT, Nat.reduceEqDiff, reduceIte, reduceCtorEq, Nat.reduceMul, Nat.reduceAdd, Nat.reduceSub, Int.reduceEq, Int.reduceLT, Int.reduceLE, Int.reduceNeg, Int.reduceAdd, Int.reduceSub, Int.reduceMul, Nat.reduceLeDiff, Int.reduceToNat, not_false_eq_true]) | ((repeat ((fail_if_success with_reducible refine hK _ _ ?_); clear hK K)); (with_reducible refine hK _ _ ?_); clear hK K))))
    exact ⟨h.pass hx, hx.upd⟩
end
end Go.Proofs.Ytkafpameheohdaa
