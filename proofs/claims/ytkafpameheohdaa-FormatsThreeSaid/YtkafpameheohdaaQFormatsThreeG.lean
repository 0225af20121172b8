/- What the proof leans on, part 7 of 7. -/
import Derived.Test.YtkafpameheohdaaQFormatsThreeF
section
set_option linter.unusedSimpArgs false
set_option linter.unusedVariables false
namespace Go.Proofs.Ytkafpameheohdaa
open Go Go.Vk
section
theorem eraseP_congr {p q : Int → Bool} : ∀ {l : List Int}, (∀ y ∈ l, p y = q y) → l.eraseP p = l.eraseP q
  | [], _ => rfl
  | y :: l, h => by
    have h1 := h y (by simp)
    have h2 := eraseP_congr (l := l) fun z hz => h z (by simp [hz])
    cases hq : q y with
    | true => rw [List.eraseP_cons_of_pos (by rw [h1, hq]), List.eraseP_cons_of_pos hq]
    | false => rw [List.eraseP_cons_of_neg (by rw [h1, hq]; decide), List.eraseP_cons_of_neg (by rw [hq]; decide), h2]
theorem countP_congr' {p q : Int → Bool} {l : List Int} (h : ∀ y ∈ l, p y = q y) : l.countP p = l.countP q := List.countP_congr fun y hy => by rw [h y hy]
theorem eraseP_count {p : Int → Bool} {l : List Int} (h : 0 < l.countP p) : (l.eraseP p).countP p = l.countP p - 1 := by
  induction l with
  | nil => simp at h
  | cons y l ih =>
    cases hy : p y with
    | true => rw [List.eraseP_cons_of_pos hy, List.countP_cons_of_pos hy]; rfl
    | false =>
      rw [List.eraseP_cons_of_neg (by rw [hy]; decide), List.countP_cons_of_neg (by rw [hy]; decide), List.countP_cons_of_neg (by rw [hy]; decide)]
      rw [List.countP_cons_of_neg (by rw [hy]; decide)] at h
      exact ih h
variable {κ : Type} [DecidableEq κ]
/-- no more than three of one key -/
def Three (key : Int → κ) (m : List Int) : Prop := ∀ k, m.countP (fun y => decide (key y = k)) ≤ 3
theorem Three.push {key : Int → κ} {m : List Int} (h : Three key m) (i : Int) : Three key (pushM (fun y => decide (key y = key i)) m i) := by
  intro k
  unfold pushM
  rw [List.countP_append]
  by_cases hk : key i = k
  · subst hk
    have h1 : List.countP (fun y => decide (key y = key i)) [i] = 1 := by simp
    have h2 := h (key i)
    rw [h1]
    by_cases hc : 3 ≤ m.countP (fun y => decide (key y = key i))
    · rw [if_pos hc, eraseP_count (by omega)]; omega
    · rw [if_neg hc]; omega
  · have h1 : List.countP (fun y => decide (key y = k)) [i] = 0 := by simp [hk]
    have h2 := h k
    rw [h1]
    split
    · exact Nat.le_trans (by simpa using (List.Sublist.countP_le (p := fun y => decide (key y = k)) (List.eraseP_sublist (p := fun y => decide (key y = key i)) (l := m)))) h2
    · exact h2
theorem pushM_sub (p : Int → Bool) {a m all : List Int} (i : Int) (h : List.Sublist (a ++ m) all) : List.Sublist (a ++ pushM p m i) (all ++ [i]) := by
  unfold pushM
  rw [← List.append_assoc]
  refine List.Sublist.append ?_ (List.Sublist.refl _)
  split
  · exact (List.Sublist.append (List.Sublist.refl _) List.eraseP_sublist).trans h
  · exact h
theorem pushM_mem {p : Int → Bool} {m : List Int} {i y : Int} (h : y ∈ pushM p m i) : y ∈ m ∨ y = i := by
  unfold pushM at h
  rw [List.mem_append] at h
  rcases h with h | h
  · split at h
    · exact .inl (List.mem_of_mem_eraseP h)
    · exact .inl h
  · exact .inr (by simpa using h)
/-- one step of a look for one list in another one -/
theorem sub_step {now all : List Int} {at_ j : Nat} (h : List.Sublist (now.drop at_) (all.drop j)) (hj : j < all.length) (ha : at_ < now.length) :
    List.Sublist (now.drop (if all.getD j 0 = now.getD at_ 0 then at_ + 1 else at_)) (all.drop (j + 1)) := by
  have e1 : now.drop at_ = now[at_] :: now.drop (at_ + 1) := List.drop_eq_getElem_cons ha
  have e2 : all.drop j = all[j] :: all.drop (j + 1) := List.drop_eq_getElem_cons hj
  have g1 : now.getD at_ 0 = now[at_] := by simp [List.getD, ha]
  have g2 : all.getD j 0 = all[j] := by simp [List.getD, hj]
  rw [g1, g2]
  rw [e1, e2] at h
  by_cases he : all[j] = now[at_]
  · rw [if_pos he]
    rw [he] at h
    exact List.cons_sublist_cons.1 h
  · rw [if_neg he, e1]
    rcases List.sublist_cons_iff.1 h with h | ⟨r, h1, h2⟩
    · exact h
    · exact absurd (List.cons.inj h1).1.symm he
theorem sub_end {now all : List Int} {at_ j : Nat} (h : List.Sublist (now.drop at_) (all.drop j)) (hj : ¬ (j < all.length ∧ at_ < now.length)) (ha : at_ ≤ now.length) : at_ = now.length := by
  by_cases h1 : at_ < now.length
  · have : all.length ≤ j := by omega
    have hl := h.length_le
    simp at hl; omega
  · omega
end
def keyN (c : Nat) : Nat × Nat := (c % 3, if c / 3 % 6 = 5 then 0 else if c / 3 % 6 = 3 then 2 else c / 3 % 6)
theorem fmN_mod (c : Nat) : fmN c = fmN (c % 18) := by
  have e1 : c % 18 % 3 = c % 3 := by omega
  have e2 : c % 18 / 3 % 6 = c / 3 % 6 := by omega
  unfold fmN nmN atN
  rw [e1, e2]
theorem keyN_mod (c : Nat) : keyN c = keyN (c % 18) := by
  have e1 : c % 18 % 3 = c % 3 := by omega
  have e2 : c % 18 / 3 % 6 = c / 3 % 6 := by omega
  unfold keyN
  rw [e1, e2]
theorem like_key18 : ∀ a : Nat, a < 18 → ∀ b : Nat, b < 18 → likeN (fmN a) (fmN b) = decide (keyN b = keyN a) := by decide +kernel
theorem like_key (a b : Nat) : likeN (fmN a) (fmN b) = decide (keyN b = keyN a) := by
  rw [fmN_mod a, fmN_mod b, keyN_mod a, keyN_mod b]
  exact like_key18 _ (Nat.mod_lt _ (by decide)) _ (Nat.mod_lt _ (by decide))
def keyL (l : List Nat) (y : Int) : Nat × Nat := keyN (l.getD (y - 1).toNat 0)
def inK (l : List Nat) (y : Int) : Prop := 1 ≤ y ∧ y ≤ l.length
theorem nd_els {l : List Nat} {y : Int} (h : inK l y) : nd? (elsL l) y = some (fmN (l.getD (y - 1).toNat 0)) := by
  obtain ⟨h1, h2⟩ := h
  obtain ⟨k, rfl⟩ : ∃ k : Nat, y = (k : Int) + 1 := ⟨(y - 1).toNat, by omega⟩
  have hl : k < l.length := by omega
  have e1 : ((k : Int) + 1).toNat = k + 1 := by omega
  have e2 : ((k : Int) + 1 - 1).toNat = k := by omega
  unfold nd?
  rw [if_pos (by omega), e1, e2]
  simp [elsL, List.getD, hl]
theorem likeP_key {l : List Nat} {i y : Int} (hi : inK l i) (hy : inK l y) : likeP (elsL l) i y = decide (keyL l y = keyL l i) := by
  unfold likeP
  rw [nd_els hi, nd_els hy]
  exact like_key _ _
theorem kind_els {l : List Nat} {y : Int} (h : inK l y) : ((nd? (elsL l) y).getD zN).kind = 3 := by rw [nd_els h]; rfl
theorem push_els {l : List Nat} {r a m : List Int} {i : Int} (hc : Cut r a m) (hi : inK l i) (hm : ∀ y ∈ m, inK l y) (h64 : r.length < 64) :
    pushN (elsL l) r i = (a ++ pushM (fun y => decide (keyL l y = keyL l i)) m i, 0) := by
  unfold pushN
  rw [if_pos (kind_els hi), dropN_cut hc]
  have hq : ∀ y ∈ m, likeP (elsL l) i y = decide (keyL l y = keyL l i) := fun y hy => likeP_key hi (hm y hy)
  have hlen : (a ++ (if 3 ≤ m.countP (likeP (elsL l) i) then m.eraseP (likeP (elsL l) i) else m)).length < 64 := by
    refine Nat.lt_of_le_of_lt ?_ h64
    rw [hc.eq, List.length_append, List.length_append]
    split
    · have := (List.eraseP_sublist (p := likeP (elsL l) i) (l := m)).length_le; omega
    · omega
  rw [lay_end _ _ hlen, eraseP_congr hq, countP_congr' hq, List.append_assoc]
  rfl
end Go.Proofs.Ytkafpameheohdaa
end
section
set_option linter.unusedSimpArgs false
set_option linter.unusedVariables false
namespace Go.Vk
open Go
theorem LsAt.guard {w0 w w' : World} {Q Q' : Nat → Prop} {pl pa : Nat} {L : List Nd} {l : List Int} (h : LsAt w0 w Q pl pa L l) (hx : Ext w w') (hQ : ∀ b, Q' b → Q b ∨ (w.heap.size ≤ b ∧ b < w'.heap.size)) : LsAt w0 w' Q' pl pa L l := by
  obtain ⟨lv, bo, h1, h2, h3, h4, h5⟩ := h
  have hlt := blk_lt h1.head
  refine ⟨lv, bo, h1.ext hx, h2.guard hx fun b hb => ?_, h3, fun b hb => ⟨(h4 b hb).1, fun hq => ?_⟩, fun hq => ?_⟩
  · rcases hb with hb | hb | hb
    · rcases hQ b hb with h | h
      · exact .inl (.inl h)
      · exact .inr h
    · exact .inl (.inr (.inl hb))
    · exact .inl (.inr (.inr hb))
  · rcases hQ b hq with h | h
    · exact (h4 b hb).2 h
    · subst hb
      have := h1.sl.lt; omega
  · rcases hQ pl hq with h | h
    · exact h5 h
    · omega
end Go.Vk
end
section
set_option linter.unusedSimpArgs false
set_option linter.unusedVariables false
namespace Go.Vk
open Go
theorem LsAt.app {G : Nat → Prop} {w0 w w' : World} {Q Q' : Nat → Prop} {pl pa : Nat} {L : List Nd} {l : List Int} (h : LsAt w0 w Q pl pa L l) (hu : Upd G w w') (hG : ∀ b, b < w.heap.size → G b → Q b ∧ w0.heap.size ≤ b) (hQ : ∀ b, Q' b → Q b ∨ (w.heap.size ≤ b ∧ b < w'.heap.size)) : LsAt w0 w' Q' pl pa L l := by
  obtain ⟨lv, bo, h1, h2, h3, h4, h5⟩ := h
  have hlt := blk_lt h1.head
  have hng : ¬ G pl := fun hg => h5 (hG pl hlt hg).1
  refine ⟨lv, bo, h1.upd hu hng fun b hb hg => ?_, h2.app hu (fun b hb hg => ⟨.inl (hG b hb hg).1, (hG b hb hg).2⟩) fun b hb => ?_, h3, fun b hb => ⟨(h4 b hb).1, fun hq => ?_⟩, fun hq => ?_⟩
  · have hbl : b < w.heap.size := by subst hb; exact h1.sl.lt
    exact (h4 b hb).2 (hG b hbl hg).1
  · rcases hb with hb | hb | hb
    · rcases hQ b hb with h | h
      · exact .inl (.inl h)
      · exact .inr h
    · exact .inl (.inr (.inl hb))
    · exact .inl (.inr (.inr hb))
  · rcases hQ b hq with h | h
    · exact (h4 b hb).2 h
    · subst hb
      have := h1.sl.lt; omega
  · rcases hQ pl hq with h | h
    · exact h5 h
    · omega
/-- an arena's nodes, as they are read -/
theorem Ar.nodes {w : World} {pa : Nat} {L : List Nd} {F : Nat → Prop} (h : Ar w pa L F) : ∃ bn cap t, w.heap[pa]? = some (.cells #[.slice (some ⟨bn, 0, none⟩) L.length cap] t (0, 0)) ∧
    ∀ (i : Nat) (n : Nd), L[i]? = some n → ∃ m : Laid, m.nd = n ∧ m.ok w ∧ ∀ j v, m.cells[j]? = some v → cellO (w.heap[bn]?) (i * 11 + j) = some v := by
  obtain ⟨bn, cap, M, hM, rfl, _⟩ := h
  obtain ⟨t, ht⟩ := hM.hdr
  refine ⟨bn, cap, t, by rw [List.length_map]; exact ht, fun i n hn => ?_⟩
  rw [List.getElem?_map] at hn
  cases hm : M[i]? with
  | none => rw [hm] at hn; cases hn
  | some m =>
    rw [hm] at hn
    refine ⟨m, by simpa using hn, hM.sub m (List.mem_of_getElem? hm), fun j v hj => ?_⟩
    have hjl := (List.getElem?_eq_some_iff.1 hj).1
    rw [m.cells_length] at hjl
    rw [← cell_h, hM.cell hm hjl]; exact hj
theorem Laid.read {w : World} {m : Laid} {bn q : Nat} (h : ∀ j v, m.cells[j]? = some v → cellO (w.heap[bn]?) (q + j) = some v) :
    cellO (w.heap[bn]?) q = some (.int .i64 m.nd.kind) ∧ cellO (w.heap[bn]?) (q + 1) = some (.string m.nd.name) ∧ cellO (w.heap[bn]?) (q + 2) = some (.string m.nd.text) ∧ cellO (w.heap[bn]?) (q + 3) = some (.int .i64 m.nd.space) ∧ cellO (w.heap[bn]?) (q + 4) = some m.av ∧ cellO (w.heap[bn]?) (q + 5) = some (.bool m.nd.dup) ∧
    cellO (w.heap[bn]?) (q + 6) = some (.int .i64 m.nd.parent) ∧ cellO (w.heap[bn]?) (q + 7) = some (.int .i64 m.nd.content) ∧ cellO (w.heap[bn]?) (q + 8) = some m.kv ∧ cellO (w.heap[bn]?) (q + 9) = some (.int .i64 m.nd.frm) ∧ cellO (w.heap[bn]?) (q + 10) = some (.int .i64 m.nd.to) :=
  ⟨h 0 _ rfl, h 1 _ rfl, h 2 _ rfl, h 3 _ rfl, h 4 _ rfl, h 5 _ rfl, h 6 _ rfl, h 7 _ rfl, h 8 _ rfl, h 9 _ rfl, h 10 _ rfl⟩
end Go.Vk
namespace Go.Proofs.Ytkafpameheohdaa
open Go Go.Vk
theorem suffix_open {a m : List Int} (ha : a = [] ∨ ∃ r, a = r ++ [-1]) {j : Nat} (h : ∀ y ∈ (a ++ m).drop j, y ≠ -1) (hj : j ≤ (a ++ m).length) : a.length ≤ j := by
  rcases ha with rfl | ⟨r, rfl⟩
  · simp
  · apply Classical.byContradiction
    intro hlt
    simp only [List.length_append, List.length_cons, List.length_nil] at hlt
    refine h (-1) ?_ rfl
    rw [List.mem_iff_getElem?]
    refine ⟨r.length - j, ?_⟩
    rw [List.getElem?_drop, show j + (r.length - j) = r.length by omega]
    simp
theorem suffix_count {a m : List Int} (p : Int → Bool) {j : Nat} (h : a.length ≤ j) : ((a ++ m).drop j).countP p ≤ m.countP p := by
  have e : (a ++ m).drop j = m.drop (j - a.length) := by
    rw [show j = a.length + (j - a.length) by omega, List.drop_append]; simp
  rw [e]
  exact (List.drop_sublist _ _).countP_le
theorem index_push {l : List Nat} {a m : List Int} {i : Int} (hi : 0 ≤ i) : indexN (a ++ pushM (fun y => decide (keyL l y = keyL l i)) m i) i = ((a ++ pushM (fun y => decide (keyL l y = keyL l i)) m i).length : Int) - 1 := by
  unfold pushM
  rw [← List.append_assoc, indexN_last _ _ hi]
  simp only [List.length_append, List.length_cons, List.length_nil]; omega
end Go.Proofs.Ytkafpameheohdaa
end
section
set_option linter.unusedSimpArgs false
set_option linter.unusedVariables false
namespace Go.Proofs.Ytkafpameheohdaa
open Go Go.Vk
set_option maxHeartbeats 40000000
theorem pick_int1 {c n : Nat} (hc : c < 256) (hn2 : n < 1000) : IntKind.i64.wrap (c : Int) = c ∧ ((c : Int).tmod ((n : Int) + 1)) = ((c % (n + 1) : Nat) : Int) ∧ inI64 (((c % (n + 1) : Nat) : Int)) ∧ ¬ ((n : Int) + 1 = 0) ∧ inI64 ((n : Int) + 1) ∧ c % (n + 1) < n + 1 := by
  have h1 : c % (n + 1) < n + 1 := Nat.mod_lt c (Nat.succ_pos n)
  refine ⟨wrap_in (by unfold inI64; omega), ?_, ?_, by omega, by unfold inI64; omega, h1⟩
  · rw [Int.tmod_eq_emod_of_nonneg (by omega)]
    exact (Int.natCast_emod c (n + 1)).symm
  · generalize c % (n + 1) = r at *
    unfold inI64; omega
theorem formatsThree_c {w : World} {vk v1 : Value} {l push : List Nat} (hk : RdAt w 1 vk (u8Cells l)) (h1 : RdAt w 1 v1 (u8Cells push)) (b0 : ∀ c ∈ l, c < 256) (b1 : ∀ c ∈ push, c < 256) :
    Gives Try.prog 7 #[vk, v1] w fun v w' => v = .bool true ∧ Ext w w' := by
  obtain ⟨ka, kc, rfl, hkc, hcellk⟩ := u8_len hk
  obtain ⟨a1, c1, rfl, hc1, hcell1⟩ := u8_len h1
  by_cases g1 : 40 < l.length
  · have d1 : (40 : Int) < (l.length : Int) := by omega
    refine Gives.of_W Try.call7 Try.func7 rfl Try.ntmps7 (by simp) ?_; intro Z hZ
    (repeat (first | (with_reducible first | (refine hK _ _ ?_; clear hK K) | refine (show ∀ σ' w', _ → K σ' w' from by assumption) _ _ ?_ | refine W_seq_k fun K hK => ?_ | refine W_block_k fun K hK => ?_ | refine W_skip ?_ | refine W_ret ?_) | ((first | ((with_reducible refine W_id ?_); refine W_reg (by decide) (by rfl) ?_) | (with_reducible first | refine W_cond ?_ | refine hZ _ _ ?_ | refine W_exit ?_ | refine Wo_id ?_)); repeat1' simp only [push_cast, Nat.reduceBEq, Nat.reduceLT, Nat.reduceEqDiff, reduceIte, reduceCtorEq, Nat.reduceMul, Nat.reduceAdd, Nat.reduceSub, Int.reduceEq, Int.reduceLT, Int.reduceLE, Int.reduceNeg, Int.reduceAdd, Int.reduceSub, Int.reduceMul, Nat.reduceLeDiff, Int.reduceToNat, d1]) | ((repeat ((fail_if_success with_reducible refine hK _ _ ?_); clear hK K)); (with_reducible refine hK _ _ ?_); clear hK K)))
    refine active_c.mono ?_
    rintro v w3 ⟨rfl, hx3⟩
    ((repeat simp only [push_cast, Nat.reduceBEq, Nat.reduceLT, Nat.reduceEqDiff, reduceIte, reduceCtorEq, Nat.reduceMul, Nat.reduceAdd, Nat.reduceSub, Int.reduceEq, Int.reduceLT, Int.reduceLE, Int.reduceNeg, Int.reduceAdd, Int.reduceSub, Int.reduceMul, Nat.reduceLeDiff, Int.reduceToNat]); (repeat (first | (with_reducible first | (refine hK _ _ ?_; clear hK K) | refine (show ∀ σ' w', _ → K σ' w' from by assumption) _ _ ?_ | refine W_seq_k fun K hK => ?_ | refine W_block_k fun K hK => ?_ | refine W_skip ?_ | refine W_ret ?_) | ((first | ((with_reducible refine W_id ?_); refine W_reg (by decide) (by rfl) ?_) | (with_reducible first | refine W_cond ?_ | refine hZ _ _ ?_ | refine W_exit ?_ | refine Wo_id ?_)); repeat1' simp only [push_cast, Nat.reduceBEq, Nat.reduceLT, Nat.reduceEqDiff, reduceIte, reduceCtorEq, Nat.reduceMul, Nat.reduceAdd, Nat.reduceSub, Int.reduceEq, Int.reduceLT, Int.reduceLE, Int.reduceNeg, Int.reduceAdd, Int.reduceSub, Int.reduceMul, Nat.reduceLeDiff, Int.reduceToNat]) | ((repeat ((fail_if_success with_reducible refine hK _ _ ?_); clear hK K)); (with_reducible refine hK _ _ ?_); clear hK K))))
    exact hx3
  have d1 : ¬ (40 : Int) < (l.length : Int) := by omega
  by_cases g2 : l.length = 0
  · have d2 : (l.length : Int) = 0 := by omega
    refine Gives.of_W Try.call7 Try.func7 rfl Try.ntmps7 (by simp) ?_; intro Z hZ
    (repeat (first | (with_reducible first | (refine hK _ _ ?_; clear hK K) | refine (show ∀ σ' w', _ → K σ' w' from by assumption) _ _ ?_ | refine W_seq_k fun K hK => ?_ | refine W_block_k fun K hK => ?_ | refine W_skip ?_ | refine W_ret ?_) | ((first | ((with_reducible refine W_id ?_); refine W_reg (by decide) (by rfl) ?_) | (with_reducible first | refine W_cond ?_ | refine hZ _ _ ?_ | refine W_exit ?_ | refine Wo_id ?_)); repeat1' simp only [push_cast, Nat.reduceBEq, Nat.reduceLT, Nat.reduceEqDiff, reduceIte, reduceCtorEq, Nat.reduceMul, Nat.reduceAdd, Nat.reduceSub, Int.reduceEq, Int.reduceLT, Int.reduceLE, Int.reduceNeg, Int.reduceAdd, Int.reduceSub, Int.reduceMul, Nat.reduceLeDiff, Int.reduceToNat, d1, d2]) | ((repeat ((fail_if_success with_reducible refine hK _ _ ?_); clear hK K)); (with_reducible refine hK _ _ ?_); clear hK K)))
    refine active_c.mono ?_
    rintro v w3 ⟨rfl, hx3⟩
    ((repeat simp only [push_cast, Nat.reduceBEq, Nat.reduceLT, Nat.reduceEqDiff, reduceIte, reduceCtorEq, Nat.reduceMul, Nat.reduceAdd, Nat.reduceSub, Int.reduceEq, Int.reduceLT, Int.reduceLE, Int.reduceNeg, Int.reduceAdd, Int.reduceSub, Int.reduceMul, Nat.reduceLeDiff, Int.reduceToNat]); (repeat (first | (with_reducible first | (refine hK _ _ ?_; clear hK K) | refine (show ∀ σ' w', _ → K σ' w' from by assumption) _ _ ?_ | refine W_seq_k fun K hK => ?_ | refine W_block_k fun K hK => ?_ | refine W_skip ?_ | refine W_ret ?_) | ((first | ((with_reducible refine W_id ?_); refine W_reg (by decide) (by rfl) ?_) | (with_reducible first | refine W_cond ?_ | refine hZ _ _ ?_ | refine W_exit ?_ | refine Wo_id ?_)); repeat1' simp only [push_cast, Nat.reduceBEq, Nat.reduceLT, Nat.reduceEqDiff, reduceIte, reduceCtorEq, Nat.reduceMul, Nat.reduceAdd, Nat.reduceSub, Int.reduceEq, Int.reduceLT, Int.reduceLE, Int.reduceNeg, Int.reduceAdd, Int.reduceSub, Int.reduceMul, Nat.reduceLeDiff, Int.reduceToNat]) | ((repeat ((fail_if_success with_reducible refine hK _ _ ?_); clear hK K)); (with_reducible refine hK _ _ ?_); clear hK K))))
    exact hx3
  have d2 : ¬ (l.length : Int) = 0 := by omega
  by_cases g3 : 60 < push.length
  · have d3 : (60 : Int) < (push.length : Int) := by omega
    refine Gives.of_W Try.call7 Try.func7 rfl Try.ntmps7 (by simp) ?_; intro Z hZ
    (repeat (first | (with_reducible first | (refine hK _ _ ?_; clear hK K) | refine (show ∀ σ' w', _ → K σ' w' from by assumption) _ _ ?_ | refine W_seq_k fun K hK => ?_ | refine W_block_k fun K hK => ?_ | refine W_skip ?_ | refine W_ret ?_) | ((first | ((with_reducible refine W_id ?_); refine W_reg (by decide) (by rfl) ?_) | (with_reducible first | refine W_cond ?_ | refine hZ _ _ ?_ | refine W_exit ?_ | refine Wo_id ?_)); repeat1' simp only [push_cast, Nat.reduceBEq, Nat.reduceLT, Nat.reduceEqDiff, reduceIte, reduceCtorEq, Nat.reduceMul, Nat.reduceAdd, Nat.reduceSub, Int.reduceEq, Int.reduceLT, Int.reduceLE, Int.reduceNeg, Int.reduceAdd, Int.reduceSub, Int.reduceMul, Nat.reduceLeDiff, Int.reduceToNat, d1, d2, d3]) | ((repeat ((fail_if_success with_reducible refine hK _ _ ?_); clear hK K)); (with_reducible refine hK _ _ ?_); clear hK K)))
    refine active_c.mono ?_
    rintro v w3 ⟨rfl, hx3⟩
    ((repeat simp only [push_cast, Nat.reduceBEq, Nat.reduceLT, Nat.reduceEqDiff, reduceIte, reduceCtorEq, Nat.reduceMul, Nat.reduceAdd, Nat.reduceSub, Int.reduceEq, Int.reduceLT, Int.reduceLE, Int.reduceNeg, Int.reduceAdd, Int.reduceSub, Int.reduceMul, Nat.reduceLeDiff, Int.reduceToNat]); (repeat (first | (with_reducible first | (refine hK _ _ ?_; clear hK K) | refine (show ∀ σ' w', _ → K σ' w' from by assumption) _ _ ?_ | refine W_seq_k fun K hK => ?_ | refine W_block_k fun K hK => ?_ | refine W_skip ?_ | refine W_ret ?_) | ((first | ((with_reducible refine W_id ?_); refine W_reg (by decide) (by rfl) ?_) | (with_reducible first | refine W_cond ?_ | refine hZ _ _ ?_ | refine W_exit ?_ | refine Wo_id ?_)); repeat1' simp only [push_cast, Nat.reduceBEq, Nat.reduceLT, Nat.reduceEqDiff, reduceIte, reduceCtorEq, Nat.reduceMul, Nat.reduceAdd, Nat.reduceSub, Int.reduceEq, Int.reduceLT, Int.reduceLE, Int.reduceNeg, Int.reduceAdd, Int.reduceSub, Int.reduceMul, Nat.reduceLeDiff, Int.reduceToNat]) | ((repeat ((fail_if_success with_reducible refine hK _ _ ?_); clear hK K)); (with_reducible refine hK _ _ ?_); clear hK K))))
    exact hx3
  have d3 : ¬ (60 : Int) < (push.length : Int) := by omega
  have hEA := els_attrs l
  have hEL : (elsL l).length < 100000 := by rw [els_len]; omega
  have hEN : elsL l ≠ [] := by simp [elsL]
  refine Gives.of_W Try.call7 Try.func7 rfl Try.ntmps7 (by simp) ?_; intro Z hZ
  (repeat (first | (with_reducible first | (refine hK _ _ ?_; clear hK K) | refine (show ∀ σ' w', _ → K σ' w' from by assumption) _ _ ?_ | refine W_seq_k fun K hK => ?_ | refine W_block_k fun K hK => ?_ | refine W_skip ?_ | refine W_ret ?_) | ((first | ((with_reducible refine W_id ?_); refine W_reg (by decide) (by rfl) ?_) | (with_reducible first | refine W_cond ?_ | refine hZ _ _ ?_ | refine W_exit ?_ | refine Wo_id ?_)); repeat1' simp only [push_cast, Nat.reduceBEq, Nat.reduceLT, Nat.reduceEqDiff, reduceIte, reduceCtorEq, Nat.reduceMul, Nat.reduceAdd, Nat.reduceSub, Int.reduceEq, Int.reduceLT, Int.reduceLE, Int.reduceNeg, Int.reduceAdd, Int.reduceSub, Int.reduceMul, Nat.reduceLeDiff, Int.reduceToNat, d1, d2, d3]) | ((repeat ((fail_if_success with_reducible refine hK _ _ ?_); clear hK K)); (with_reducible refine hK _ _ ?_); clear hK K)))
  refine (made_c hk (by omega) b0).mono ?_
  rintro v w2 ⟨pa, pb, F, rfl, hA, hB, hF⟩
  ((repeat simp only [push_cast, Nat.reduceBEq, Nat.reduceLT, Nat.reduceEqDiff, reduceIte, reduceCtorEq, Nat.reduceMul, Nat.reduceAdd, Nat.reduceSub, Int.reduceEq, Int.reduceLT, Int.reduceLE, Int.reduceNeg, Int.reduceAdd, Int.reduceSub, Int.reduceMul, Nat.reduceLeDiff, Int.reduceToNat, extract0, extract1]); (repeat (first | (with_reducible first | (refine hK _ _ ?_; clear hK K) | refine (show ∀ σ' w', _ → K σ' w' from by assumption) _ _ ?_ | refine W_seq_k fun K hK => ?_ | refine W_block_k fun K hK => ?_ | refine W_skip ?_ | refine W_ret ?_) | ((first | ((with_reducible refine W_id ?_); refine W_reg (by decide) (by rfl) ?_) | (with_reducible first | refine W_cond ?_ | refine hZ _ _ ?_ | refine W_exit ?_ | refine Wo_id ?_)); repeat1' simp only [push_cast, Nat.reduceBEq, Nat.reduceLT, Nat.reduceEqDiff, reduceIte, reduceCtorEq, Nat.reduceMul, Nat.reduceAdd, Nat.reduceSub, Int.reduceEq, Int.reduceLT, Int.reduceLE, Int.reduceNeg, Int.reduceAdd, Int.reduceSub, Int.reduceMul, Nat.reduceLeDiff, Int.reduceToNat, extract0, extract1]) | ((repeat ((fail_if_success with_reducible refine hK _ _ ?_); clear hK K)); (with_reducible refine hK _ _ ?_); clear hK K))))
  refine (fnew_c hA hEN).mono ?_
  rintro v w3 ⟨pl, rfl, hL, hx3⟩
  ((repeat simp only [push_cast, Nat.reduceBEq, Nat.reduceLT, Nat.reduceEqDiff, reduceIte, reduceCtorEq, Nat.reduceMul, Nat.reduceAdd, Nat.reduceSub, Int.reduceEq, Int.reduceLT, Int.reduceLE, Int.reduceNeg, Int.reduceAdd, Int.reduceSub, Int.reduceMul, Nat.reduceLeDiff, Int.reduceToNat]); (repeat (first | (with_reducible first | (refine hK _ _ ?_; clear hK K) | refine (show ∀ σ' w', _ → K σ' w' from by assumption) _ _ ?_ | refine W_seq_k fun K hK => ?_ | refine W_block_k fun K hK => ?_ | refine W_skip ?_ | refine W_ret ?_) | ((first | ((with_reducible refine W_id ?_); refine W_reg (by decide) (by rfl) ?_) | (with_reducible first | refine W_cond ?_ | refine hZ _ _ ?_ | refine W_exit ?_ | refine Wo_id ?_)); repeat1' simp only [push_cast, Nat.reduceBEq, Nat.reduceLT, Nat.reduceEqDiff, reduceIte, reduceCtorEq, Nat.reduceMul, Nat.reduceAdd, Nat.reduceSub, Int.reduceEq, Int.reduceLT, Int.reduceLE, Int.reduceNeg, Int.reduceAdd, Int.reduceSub, Int.reduceMul, Nat.reduceLeDiff, Int.reduceToNat]) | ((repeat ((fail_if_success with_reducible refine hK _ _ ?_); clear hK K)); (with_reducible refine hK _ _ ?_); clear hK K))))
  refine W_loop (S := Nat × Value) (fun z => [(0, .slice ka l.length kc), (1, .slice a1 push.length c1), (5, .pointer (some ⟨pa, 0, none⟩)), (6, .pointer (some ⟨pb, 0, none⟩)), (7, .pointer (some ⟨pl, 0, none⟩)), (8, z.2), (9, .int .i64 (z.1 : Int))])
    (fun z w4 => z.1 ≤ push.length ∧ ∃ a m all bo, LsAt w w4 (fun b => F b ∨ bo = some b) pl pa (elsL l) (a ++ m) ∧ Cut (a ++ m) a m ∧ (∀ y ∈ m, inK l y) ∧ Three (keyL l) m ∧ SlAt w4 1 z.2 (intCells all) bo ∧ (∀ b, bo = some b → ¬ F b ∧ w.heap.size ≤ b) ∧ Ar w4 pb (elsL l) F ∧ (a ++ m).Sublist all ∧ all.length = z.1)
    (fun z => push.length - z.1) (0, .slice none 0 0) ?_ ?_ ?_
  · (repeat simp only [push_cast, Nat.reduceBEq, Nat.reduceLT, Nat.reduceEqDiff, reduceIte, reduceCtorEq, Nat.reduceMul, Nat.reduceAdd, Nat.reduceSub, Int.reduceEq, Int.reduceLT, Int.reduceLE, Int.reduceNeg, Int.reduceAdd, Int.reduceSub, Int.reduceMul, Nat.reduceLeDiff, Int.reduceToNat])
  · refine ⟨by omega, [], [], [], none, hL.guard (Ext.refl _) fun b hb => ?_, ⟨rfl, by simp, .inl rfl⟩, by simp, fun k => by simp, SlAt.nil _ _, (fun b hb => by cases hb), hB.ext hx3, List.Sublist.refl _, rfl⟩
    rcases hb with hb | hb
    · exact .inl hb
    · cases hb
  rintro ⟨k, va⟩ w4 ⟨hk1, a, m, all, bo, hL4, hcut, hm, hth, hsa, hbo, hB4, hsub, hlen⟩
  dsimp only at hk1 hsa hlen ⊢
  have hsl := hsub.length_le
  by_cases hkk : k < push.length
  · obtain ⟨c, hc⟩ : ∃ c, push[k]? = some c := ⟨_, List.getElem?_eq_getElem hkk⟩
    obtain ⟨b, o, e, hcl⟩ := hcell1 k c hc
    have hcl4 := cell_ext hL4.out hcl
    subst e
    have e0 : (k : Int) < (push.length : Int) := by omega
    have e1 : (0 : Int) ≤ (k : Int) := by omega
    have e2 : inI64 ((k : Int) + 1) := by unfold inI64; omega
    obtain ⟨p1, p2, p3, p4, p5, p6⟩ := pick_int1 (b1 c (List.mem_of_getElem? hc)) (n := l.length) (by omega)
    by_cases hr0 : c % (l.length + 1) = 0
    · have hz : ((c % (l.length + 1) : Nat) : Int) = 0 := by rw [hr0]; rfl
      rw [hz] at p2
      have hmk := mark_c hL4 (by omega)
      rw [lay_end (a ++ m) (-1) (by omega)] at hmk
      (repeat (first | (with_reducible first | (refine hK _ _ ?_; clear hK K) | refine (show ∀ σ' w', _ → K σ' w' from by assumption) _ _ ?_ | refine W_seq_k fun K hK => ?_ | refine W_block_k fun K hK => ?_ | refine W_skip ?_ | refine W_ret ?_) | ((first | ((with_reducible refine W_id ?_); refine W_reg (by decide) (by rfl) ?_) | (with_reducible first | refine W_cond ?_ | refine hZ _ _ ?_ | refine W_exit ?_ | refine Wo_id ?_)); repeat1' simp only [push_cast, Nat.reduceBEq, Nat.reduceLT, Nat.reduceEqDiff, reduceIte, reduceCtorEq, Nat.reduceMul, Nat.reduceAdd, Nat.reduceSub, Int.reduceEq, Int.reduceLT, Int.reduceLE, Int.reduceNeg, Int.reduceAdd, Int.reduceSub, Int.reduceMul, Nat.reduceLeDiff, Int.reduceToNat, e0, e1, hcl4, p1, p2, p4, p5]) | ((repeat ((fail_if_success with_reducible refine hK _ _ ?_); clear hK K)); (with_reducible refine hK _ _ ?_); clear hK K)))
      refine hmk.mono ?_
      rintro v w5 ⟨rfl, hL5, hu5⟩
      dsimp only at hL5
      have hs5 := hsa.upd hu5 fun b hb h => h.2 (.inr hb)
      have hB5 := hB4.frame hu5 fun b hf h => h.2 (.inl hf)
      ((repeat simp only [push_cast, Nat.reduceBEq, Nat.reduceLT, Nat.reduceEqDiff, reduceIte, reduceCtorEq, Nat.reduceMul, Nat.reduceAdd, Nat.reduceSub, Int.reduceEq, Int.reduceLT, Int.reduceLE, Int.reduceNeg, Int.reduceAdd, Int.reduceSub, Int.reduceMul, Nat.reduceLeDiff, Int.reduceToNat, not_true_eq_false]); (repeat (first | (with_reducible first | (refine hK _ _ ?_; clear hK K) | refine (show ∀ σ' w', _ → K σ' w' from by assumption) _ _ ?_ | refine W_seq_k fun K hK => ?_ | refine W_block_k fun K hK => ?_ | refine W_skip ?_ | refine W_ret ?_) | ((first | ((with_reducible refine W_id ?_); refine W_reg (by decide) (by rfl) ?_) | (with_reducible first | refine W_cond ?_ | refine hZ _ _ ?_ | refine W_exit ?_ | refine Wo_id ?_)); repeat1' simp only [push_cast, Nat.reduceBEq, Nat.reduceLT, Nat.reduceEqDiff, reduceIte, reduceCtorEq, Nat.reduceMul, Nat.reduceAdd, Nat.reduceSub, Int.reduceEq, Int.reduceLT, Int.reduceLE, Int.reduceNeg, Int.reduceAdd, Int.reduceSub, Int.reduceMul, Nat.reduceLeDiff, Int.reduceToNat, not_true_eq_false]) | ((repeat ((fail_if_success with_reducible refine hK _ _ ?_); clear hK K)); (with_reducible refine hK _ _ ?_); clear hK K))))
      refine bs_one sty28 (by decide) (by decide) (v := .int .i64 (-1)) rfl ?_
      have hx6 := Ext.alloc w5 (.cells (Value.int .i64 (-1)).cells 3)
      ((repeat simp only [push_cast, Nat.reduceBEq, Nat.reduceLT, Nat.reduceEqDiff, reduceIte, reduceCtorEq, Nat.reduceMul, Nat.reduceAdd, Nat.reduceSub, Int.reduceEq, Int.reduceLT, Int.reduceLE, Int.reduceNeg, Int.reduceAdd, Int.reduceSub, Int.reduceMul, Nat.reduceLeDiff, Int.reduceToNat]); (repeat (first | (with_reducible first | (refine hK _ _ ?_; clear hK K) | refine (show ∀ σ' w', _ → K σ' w' from by assumption) _ _ ?_ | refine W_seq_k fun K hK => ?_ | refine W_block_k fun K hK => ?_ | refine W_skip ?_ | refine W_ret ?_) | ((first | ((with_reducible refine W_id ?_); refine W_reg (by decide) (by rfl) ?_) | (with_reducible first | refine W_cond ?_ | refine hZ _ _ ?_ | refine W_exit ?_ | refine Wo_id ?_)); repeat1' simp only [push_cast, Nat.reduceBEq, Nat.reduceLT, Nat.reduceEqDiff, reduceIte, reduceCtorEq, Nat.reduceMul, Nat.reduceAdd, Nat.reduceSub, Int.reduceEq, Int.reduceLT, Int.reduceLE, Int.reduceNeg, Int.reduceAdd, Int.reduceSub, Int.reduceMul, Nat.reduceLeDiff, Int.reduceToNat]) | ((repeat ((fail_if_success with_reducible refine hK _ _ ?_); clear hK K)); (with_reducible refine hK _ _ ?_); clear hK K))))
      refine app_to sty28 sty28.und (by decide) (hs5.ext hx6) (SlAt.new w5 1 (Value.int .i64 (-1)).cells 3 1 rfl) (by rfl) (by rw [intCells_length]; simp [Value.cells]; omega) ?_
      intro v w7 bo7 s1 s2 s3
      have e5 : intCells all ++ (Value.int .i64 (-1)).cells.toList = intCells (all ++ [-1]) := by rw [intCells_append]; rfl
      rw [e5] at s1
      have hx6s := hx6.alike.size
      have hL6 := hL5.pass hx6
      have hL7 := hL6.app (Q' := fun b => F b ∨ bo7 = some b) s2 (fun b _ hb => ⟨.inr hb, (hbo b hb).2⟩) fun b hb => by
        rcases hb with hb | hb
        · exact .inl (.inl hb)
        · rcases s3 b hb with h | h
          · exact .inl (.inr h)
          · exact .inr ⟨h, by subst hb; exact s1.lt⟩
      have hB7 := (hB5.ext hx6).frame s2 fun b hf h => (hbo b h).1 hf
      have hsz5 := hL5.out.alike.size
      ((repeat simp only [push_cast, Nat.reduceBEq, Nat.reduceLT, Nat.reduceEqDiff, reduceIte, reduceCtorEq, Nat.reduceMul, Nat.reduceAdd, Nat.reduceSub, Int.reduceEq, Int.reduceLT, Int.reduceLE, Int.reduceNeg, Int.reduceAdd, Int.reduceSub, Int.reduceMul, Nat.reduceLeDiff, Int.reduceToNat, e2]); (repeat (first | (with_reducible first | (refine hK _ _ ?_; clear hK K) | refine (show ∀ σ' w', _ → K σ' w' from by assumption) _ _ ?_ | refine W_seq_k fun K hK => ?_ | refine W_block_k fun K hK => ?_ | refine W_skip ?_ | refine W_ret ?_) | ((first | ((with_reducible refine W_id ?_); refine W_reg (by decide) (by rfl) ?_) | (with_reducible first | refine W_cond ?_ | refine hZ _ _ ?_ | refine W_exit ?_ | refine Wo_id ?_)); repeat1' simp only [push_cast, Nat.reduceBEq, Nat.reduceLT, Nat.reduceEqDiff, reduceIte, reduceCtorEq, Nat.reduceMul, Nat.reduceAdd, Nat.reduceSub, Int.reduceEq, Int.reduceLT, Int.reduceLE, Int.reduceNeg, Int.reduceAdd, Int.reduceSub, Int.reduceMul, Nat.reduceLeDiff, Int.reduceToNat, e2]) | ((repeat ((fail_if_success with_reducible refine hK _ _ ?_); clear hK K)); (with_reducible refine hK _ _ ?_); clear hK K))))
      refine ⟨(k + 1, v), by simp; omega, ?_⟩
      (repeat simp only [push_cast, Nat.reduceBEq, Nat.reduceLT, Nat.reduceEqDiff, reduceIte, reduceCtorEq, Nat.reduceMul, Nat.reduceAdd, Nat.reduceSub, Int.reduceEq, Int.reduceLT, Int.reduceLE, Int.reduceNeg, Int.reduceAdd, Int.reduceSub, Int.reduceMul, Nat.reduceLeDiff, Int.reduceToNat])
      refine ⟨by omega, a ++ m ++ [-1], [], all ++ [-1], bo7, by rw [List.append_nil]; exact hL7, by rw [List.append_nil]; exact hcut.mark, by simp, fun k => by simp, s1, fun b hb => ?_, hB7, ?_, by simp; omega⟩
      · rcases s3 b hb with h | h
        · exact hbo b h
        · refine ⟨fun hf => ?_, by omega⟩
          have : b < w5.heap.size := by
            rcases hL5 with ⟨_, _, _, hA5, _⟩
            exact hA5.low b (.inl (.inl hf))
          omega
      · rw [List.append_nil]
        exact hsub.append (List.Sublist.refl _)
    · obtain ⟨i, hi⟩ : ∃ i : Nat, i = c % (l.length + 1) := ⟨_, rfl⟩
      rw [← hi] at p2 p3 p6 hr0
      have hin : inK l (i : Int) := ⟨by omega, by omega⟩
      have hpe := push_els (i := (i : Int)) hcut hin hm (by omega)
      have hpu := push_c hL4 hEL hEA (by omega) (i : Int)
      rw [hpe] at hpu
      have hcut5 := hcut.push (fun y => decide (keyL l y = keyL l i)) (i := (i : Int)) (by omega)
      have hm5 : ∀ y ∈ pushM (fun y => decide (keyL l y = keyL l i)) m (i : Int), inK l y := fun y hy => by
        rcases pushM_mem hy with h | rfl
        · exact hm y h
        · exact hin
      have hth5 := hth.push (i : Int)
      have hlen5 := pushM_len (fun y => decide (keyL l y = keyL l i)) m (i : Int)
      have hidx := index_push (l := l) (a := a) (m := m) (i := (i : Int)) (by omega)
      have hsub5 := pushM_sub (fun y => decide (keyL l y = keyL l i)) (i : Int) hsub
      have hne5 : (a ++ pushM (fun y => decide (keyL l y = keyL l i)) m (i : Int)).length ≠ 0 := by unfold pushM; simp
      have hall5 : (a ++ pushM (fun y => decide (keyL l y = keyL l i)) m (i : Int)).length < 1000 := by simp at hsl ⊢; omega
      have hir : i < (elsL l).length := by rw [els_len]; omega
      generalize pushM (fun y => decide (keyL l y = keyL l i)) m (i : Int) = m5 at *
      have i0 : ¬ ((i : Int) = 0) := by omega
      (repeat (first | (with_reducible first | (refine hK _ _ ?_; clear hK K) | refine (show ∀ σ' w', _ → K σ' w' from by assumption) _ _ ?_ | refine W_seq_k fun K hK => ?_ | refine W_block_k fun K hK => ?_ | refine W_skip ?_ | refine W_ret ?_) | ((first | ((with_reducible refine W_id ?_); refine W_reg (by decide) (by rfl) ?_) | (with_reducible first | refine W_cond ?_ | refine hZ _ _ ?_ | refine W_exit ?_ | refine Wo_id ?_)); repeat1' simp only [push_cast, Nat.reduceBEq, Nat.reduceLT, Nat.reduceEqDiff, reduceIte, reduceCtorEq, Nat.reduceMul, Nat.reduceAdd, Nat.reduceSub, Int.reduceEq, Int.reduceLT, Int.reduceLE, Int.reduceNeg, Int.reduceAdd, Int.reduceSub, Int.reduceMul, Nat.reduceLeDiff, Int.reduceToNat, e0, e1, hcl4, p1, p2, p4, p5, i0]) | ((repeat ((fail_if_success with_reducible refine hK _ _ ?_); clear hK K)); (with_reducible refine hK _ _ ?_); clear hK K)))
      refine hpu.mono ?_
      rintro v w5 ⟨rfl, hL5, hu5⟩
      dsimp only at hL5
      have hs5 := hsa.upd hu5 fun b hb h => h.2 (.inr hb)
      have hB5 := hB4.frame hu5 fun b hf h => h.2 (.inl hf)
      obtain ⟨r, hr⟩ : ∃ r : List Int, r = a ++ m5 := ⟨_, rfl⟩
      rw [← hr] at hL5 hidx hsub5 hne5 hall5 hcut5
      have hL5' := hL5
      obtain ⟨lv, bo1, hFL, _⟩ := hL5'
      ((repeat simp only [push_cast, Nat.reduceBEq, Nat.reduceLT, Nat.reduceEqDiff, reduceIte, reduceCtorEq, Nat.reduceMul, Nat.reduceAdd, Nat.reduceSub, Int.reduceEq, Int.reduceLT, Int.reduceLE, Int.reduceNeg, Int.reduceAdd, Int.reduceSub, Int.reduceMul, Nat.reduceLeDiff, Int.reduceToNat, not_true_eq_false]); (repeat (first | (with_reducible first | (refine hK _ _ ?_; clear hK K) | refine (show ∀ σ' w', _ → K σ' w' from by assumption) _ _ ?_ | refine W_seq_k fun K hK => ?_ | refine W_block_k fun K hK => ?_ | refine W_skip ?_ | refine W_ret ?_) | ((first | ((with_reducible refine W_id ?_); refine W_reg (by decide) (by rfl) ?_) | (with_reducible first | refine W_cond ?_ | refine hZ _ _ ?_ | refine W_exit ?_ | refine Wo_id ?_)); repeat1' simp only [push_cast, Nat.reduceBEq, Nat.reduceLT, Nat.reduceEqDiff, reduceIte, reduceCtorEq, Nat.reduceMul, Nat.reduceAdd, Nat.reduceSub, Int.reduceEq, Int.reduceLT, Int.reduceLE, Int.reduceNeg, Int.reduceAdd, Int.reduceSub, Int.reduceMul, Nat.reduceLeDiff, Int.reduceToNat, not_true_eq_false]) | ((repeat ((fail_if_success with_reducible refine hK _ _ ?_); clear hK K)); (with_reducible refine hK _ _ ?_); clear hK K))))
      refine (findex_c hFL (by omega) (i : Int)).mono ?_
      rintro v w6 ⟨rfl, hx6⟩
      rw [hidx]
      have s0 : inI64 ((r.length : Int) - 1) := by unfold inI64; omega
      ((repeat simp only [push_cast, Nat.reduceBEq, Nat.reduceLT, Nat.reduceEqDiff, reduceIte, reduceCtorEq, Nat.reduceMul, Nat.reduceAdd, Nat.reduceSub, Int.reduceEq, Int.reduceLT, Int.reduceLE, Int.reduceNeg, Int.reduceAdd, Int.reduceSub, Int.reduceMul, Nat.reduceLeDiff, Int.reduceToNat, not_true_eq_false]); (repeat (first | (with_reducible first | (refine hK _ _ ?_; clear hK K) | refine (show ∀ σ' w', _ → K σ' w' from by assumption) _ _ ?_ | refine W_seq_k fun K hK => ?_ | refine W_block_k fun K hK => ?_ | refine W_skip ?_ | refine W_ret ?_) | ((first | ((with_reducible refine W_id ?_); refine W_reg (by decide) (by rfl) ?_) | (with_reducible first | refine W_cond ?_ | refine hZ _ _ ?_ | refine W_exit ?_ | refine Wo_id ?_)); repeat1' simp only [push_cast, Nat.reduceBEq, Nat.reduceLT, Nat.reduceEqDiff, reduceIte, reduceCtorEq, Nat.reduceMul, Nat.reduceAdd, Nat.reduceSub, Int.reduceEq, Int.reduceLT, Int.reduceLE, Int.reduceNeg, Int.reduceAdd, Int.reduceSub, Int.reduceMul, Nat.reduceLeDiff, Int.reduceToNat, not_true_eq_false]) | ((repeat ((fail_if_success with_reducible refine hK _ _ ?_); clear hK K)); (with_reducible refine hK _ _ ?_); clear hK K))))
      refine (flen_c (hFL.ext hx6)).mono ?_
      intro v w' ⟨hv, hw⟩
      subst hv; subst w'
      ((repeat simp only [push_cast, Nat.reduceBEq, Nat.reduceLT, Nat.reduceEqDiff, reduceIte, reduceCtorEq, Nat.reduceMul, Nat.reduceAdd, Nat.reduceSub, Int.reduceEq, Int.reduceLT, Int.reduceLE, Int.reduceNeg, Int.reduceAdd, Int.reduceSub, Int.reduceMul, Nat.reduceLeDiff, Int.reduceToNat, not_true_eq_false, s0]); (repeat (first | (with_reducible first | (refine hK _ _ ?_; clear hK K) | refine (show ∀ σ' w', _ → K σ' w' from by assumption) _ _ ?_ | refine W_seq_k fun K hK => ?_ | refine W_block_k fun K hK => ?_ | refine W_skip ?_ | refine W_ret ?_) | ((first | ((with_reducible refine W_id ?_); refine W_reg (by decide) (by rfl) ?_) | (with_reducible first | refine W_cond ?_ | refine hZ _ _ ?_ | refine W_exit ?_ | refine Wo_id ?_)); repeat1' simp only [push_cast, Nat.reduceBEq, Nat.reduceLT, Nat.reduceEqDiff, reduceIte, reduceCtorEq, Nat.reduceMul, Nat.reduceAdd, Nat.reduceSub, Int.reduceEq, Int.reduceLT, Int.reduceLE, Int.reduceNeg, Int.reduceAdd, Int.reduceSub, Int.reduceMul, Nat.reduceLeDiff, Int.reduceToNat, not_true_eq_false, s0]) | ((repeat ((fail_if_success with_reducible refine hK _ _ ?_); clear hK K)); (with_reducible refine hK _ _ ?_); clear hK K))))
      refine bs_one sty28 (by decide) (by decide) (v := .int .i64 (i : Int)) rfl ?_
      have hx7 := Ext.alloc w6 (.cells (Value.int .i64 (i : Int)).cells 3)
      ((repeat simp only [push_cast, Nat.reduceBEq, Nat.reduceLT, Nat.reduceEqDiff, reduceIte, reduceCtorEq, Nat.reduceMul, Nat.reduceAdd, Nat.reduceSub, Int.reduceEq, Int.reduceLT, Int.reduceLE, Int.reduceNeg, Int.reduceAdd, Int.reduceSub, Int.reduceMul, Nat.reduceLeDiff, Int.reduceToNat]); (repeat (first | (with_reducible first | (refine hK _ _ ?_; clear hK K) | refine (show ∀ σ' w', _ → K σ' w' from by assumption) _ _ ?_ | refine W_seq_k fun K hK => ?_ | refine W_block_k fun K hK => ?_ | refine W_skip ?_ | refine W_ret ?_) | ((first | ((with_reducible refine W_id ?_); refine W_reg (by decide) (by rfl) ?_) | (with_reducible first | refine W_cond ?_ | refine hZ _ _ ?_ | refine W_exit ?_ | refine Wo_id ?_)); repeat1' simp only [push_cast, Nat.reduceBEq, Nat.reduceLT, Nat.reduceEqDiff, reduceIte, reduceCtorEq, Nat.reduceMul, Nat.reduceAdd, Nat.reduceSub, Int.reduceEq, Int.reduceLT, Int.reduceLE, Int.reduceNeg, Int.reduceAdd, Int.reduceSub, Int.reduceMul, Nat.reduceLeDiff, Int.reduceToNat]) | ((repeat ((fail_if_success with_reducible refine hK _ _ ?_); clear hK K)); (with_reducible refine hK _ _ ?_); clear hK K))))
      have hs6 := hs5.ext (hx6.trans hx7)
      refine app_to sty28 sty28.und (by decide) hs6 (SlAt.new w6 1 (Value.int .i64 (i : Int)).cells 3 1 rfl) (by rfl) (by rw [intCells_length]; simp [Value.cells]; omega) ?_
      intro v w8 bo8 s1 s2 s3
      have e5 : intCells all ++ (Value.int .i64 (i : Int)).cells.toList = intCells (all ++ [(i : Int)]) := by rw [intCells_append]; rfl
      rw [e5] at s1
      have hx67 := hx6.trans hx7
      have hx67s := hx67.alike.size
      have hL7 := hL5.pass hx67
      have hL8 := hL7.app (Q' := fun b => F b ∨ bo8 = some b) s2 (fun b _ hb => ⟨.inr hb, (hbo b hb).2⟩) fun b hb => by
        rcases hb with hb | hb
        · exact .inl (.inl hb)
        · rcases s3 b hb with h | h
          · exact .inl (.inr h)
          · exact .inr ⟨h, by subst hb; exact s1.lt⟩
      have hB8 := (hB5.ext hx67).frame s2 fun b hf h => (hbo b h).1 hf
      have hsz5 := hL5.out.alike.size
      have hbo8 : ∀ b, bo8 = some b → ¬ F b ∧ w.heap.size ≤ b := fun b hb => by
        rcases s3 b hb with h | h
        · exact hbo b h
        · refine ⟨fun hf => ?_, by omega⟩
          have : b < w5.heap.size := by
            rcases hL5 with ⟨_, _, _, hA5, _⟩
            exact hA5.low b (.inl (.inl hf))
          omega
      obtain ⟨all2, hall2⟩ : ∃ q, q = all ++ [(i : Int)] := ⟨_, rfl⟩
      have hl2 : all2.length = k + 1 := by rw [hall2]; simp; omega
      rw [← hall2] at s1 hsub5
      obtain ⟨xa, xc, e, _⟩ := s1.ints_len
      subst e
      ((repeat simp only [push_cast, Nat.reduceBEq, Nat.reduceLT, Nat.reduceEqDiff, reduceIte, reduceCtorEq, Nat.reduceMul, Nat.reduceAdd, Nat.reduceSub, Int.reduceEq, Int.reduceLT, Int.reduceLE, Int.reduceNeg, Int.reduceAdd, Int.reduceSub, Int.reduceMul, Nat.reduceLeDiff, Int.reduceToNat]); (repeat (first | (with_reducible first | (refine hK _ _ ?_; clear hK K) | refine (show ∀ σ' w', _ → K σ' w' from by assumption) _ _ ?_ | refine W_seq_k fun K hK => ?_ | refine W_block_k fun K hK => ?_ | refine W_skip ?_ | refine W_ret ?_) | ((first | ((with_reducible refine W_id ?_); refine W_reg (by decide) (by rfl) ?_) | (with_reducible first | refine W_cond ?_ | refine hZ _ _ ?_ | refine W_exit ?_ | refine Wo_id ?_)); repeat1' simp only [push_cast, Nat.reduceBEq, Nat.reduceLT, Nat.reduceEqDiff, reduceIte, reduceCtorEq, Nat.reduceMul, Nat.reduceAdd, Nat.reduceSub, Int.reduceEq, Int.reduceLT, Int.reduceLE, Int.reduceNeg, Int.reduceAdd, Int.reduceSub, Int.reduceMul, Nat.reduceLeDiff, Int.reduceToNat]) | ((repeat ((fail_if_success with_reducible refine hK _ _ ?_); clear hK K)); (with_reducible refine hK _ _ ?_); clear hK K))))
      refine (entries_c hL8 (by omega)).mono ?_
      rintro v w9 ⟨⟨bn, hsn, _⟩, hx9⟩
      have hL9 := hL8.pass hx9
      have hB9 := hB8.ext hx9
      have hs9 := s1.ext hx9
      obtain ⟨na, nc, e, _⟩ := hsn.ints_len
      subst e
      ((repeat simp only [push_cast, Nat.reduceBEq, Nat.reduceLT, Nat.reduceEqDiff, reduceIte, reduceCtorEq, Nat.reduceMul, Nat.reduceAdd, Nat.reduceSub, Int.reduceEq, Int.reduceLT, Int.reduceLE, Int.reduceNeg, Int.reduceAdd, Int.reduceSub, Int.reduceMul, Nat.reduceLeDiff, Int.reduceToNat]); (repeat (first | (with_reducible first | (refine hK _ _ ?_; clear hK K) | refine (show ∀ σ' w', _ → K σ' w' from by assumption) _ _ ?_ | refine W_seq_k fun K hK => ?_ | refine W_block_k fun K hK => ?_ | refine W_skip ?_ | refine W_ret ?_) | ((first | ((with_reducible refine W_id ?_); refine W_reg (by decide) (by rfl) ?_) | (with_reducible first | refine W_cond ?_ | refine hZ _ _ ?_ | refine W_exit ?_ | refine Wo_id ?_)); repeat1' simp only [push_cast, Nat.reduceBEq, Nat.reduceLT, Nat.reduceEqDiff, reduceIte, reduceCtorEq, Nat.reduceMul, Nat.reduceAdd, Nat.reduceSub, Int.reduceEq, Int.reduceLT, Int.reduceLE, Int.reduceNeg, Int.reduceAdd, Int.reduceSub, Int.reduceMul, Nat.reduceLeDiff, Int.reduceToNat]) | ((repeat ((fail_if_success with_reducible refine hK _ _ ?_); clear hK K)); (with_reducible refine hK _ _ ?_); clear hK K))))
      refine W_loop (S := Nat × Nat) (fun z => [(0, .slice ka l.length kc), (1, .slice (some ⟨b, o, none⟩) push.length c1), (5, .pointer (some ⟨pa, 0, none⟩)), (6, .pointer (some ⟨pb, 0, none⟩)), (7, .pointer (some ⟨pl, 0, none⟩)), (8, .slice xa all2.length xc), (9, .int .i64 (k : Int)), (10, .int .i64 (i : Int)), (11, .int .i64 (z.2 : Int)), (12, .slice na r.length nc), (13, .int .i64 (z.1 : Int))])
        (fun z w10 => z.1 ≤ all2.length ∧ z.2 ≤ r.length ∧ (r.drop z.2).Sublist (all2.drop z.1) ∧ Ext w9 w10) (fun z => all2.length - z.1) (0, 0) ?_ ?_ ?_
      · (repeat simp only [push_cast, Nat.reduceBEq, Nat.reduceLT, Nat.reduceEqDiff, reduceIte, reduceCtorEq, Nat.reduceMul, Nat.reduceAdd, Nat.reduceSub, Int.reduceEq, Int.reduceLT, Int.reduceLE, Int.reduceNeg, Int.reduceAdd, Int.reduceSub, Int.reduceMul, Nat.reduceLeDiff, Int.reduceToNat])
      · exact ⟨by omega, by omega, by simpa using hsub5, Ext.refl _⟩
      rintro ⟨j, at_⟩ w10 ⟨hj, hat, hsu, hx10⟩
      dsimp only at hj hat hsu ⊢
      have hsn10 := hsn.ext hx10
      have hs10 := hs9.ext hx10
      have t2 : inI64 ((j : Int) + 1) := by unfold inI64; omega
      have t3 : inI64 ((at_ : Int) + 1) := by unfold inI64; omega
      by_cases hin2 : j < all2.length ∧ at_ < r.length
      · have t0 : (j : Int) < (all2.length : Int) := by omega
        have t1 : (at_ : Int) < (r.length : Int) := by omega
        have t4 : (0 : Int) ≤ (j : Int) := by omega
        have t5 : (0 : Int) ≤ (at_ : Int) := by omega
        have hstep := sub_step hsu hin2.1 hin2.2
        obtain ⟨y1, hy1⟩ : ∃ y, all2[j]? = some y := ⟨_, List.getElem?_eq_getElem hin2.1⟩
        obtain ⟨y2, hy2⟩ : ∃ y, r[at_]? = some y := ⟨_, List.getElem?_eq_getElem hin2.2⟩
        rw [show all2.getD j 0 = y1 by simp [List.getD, hy1], show r.getD at_ 0 = y2 by simp [List.getD, hy2]] at hstep
        obtain ⟨u1, u2, _, _, e, _⟩ := hs10.some_of (kids_ne hin2.1)
        cases e
        obtain ⟨u3, u4, _, _, e, _⟩ := hsn10.some_of (kids_ne hin2.2)
        cases e
        have hxd := Ext.drew w10
        have f1 := (hs10.ext hxd).ints_cell hy1
        have f2 := (hsn10.ext hxd).ints_cell hy2
        rw [cell_h] at f1 f2
        (repeat (first | (with_reducible first | (refine hK _ _ ?_; clear hK K) | refine (show ∀ σ' w', _ → K σ' w' from by assumption) _ _ ?_ | refine W_seq_k fun K hK => ?_ | refine W_block_k fun K hK => ?_ | refine W_skip ?_ | refine W_ret ?_) | ((first | ((with_reducible refine W_id ?_); refine W_reg (by decide) (by rfl) ?_) | (with_reducible first | refine W_cond ?_ | refine hZ _ _ ?_ | refine W_exit ?_ | refine Wo_id ?_)); repeat1' simp only [push_cast, Nat.reduceBEq, Nat.reduceLT, Nat.reduceEqDiff, reduceIte, reduceCtorEq, Nat.reduceMul, Nat.reduceAdd, Nat.reduceSub, Int.reduceEq, Int.reduceLT, Int.reduceLE, Int.reduceNeg, Int.reduceAdd, Int.reduceSub, Int.reduceMul, Nat.reduceLeDiff, Int.reduceToNat, t0, t1]) | ((repeat ((fail_if_success with_reducible refine hK _ _ ?_); clear hK K)); (with_reducible refine hK _ _ ?_); clear hK K)))
        (refine W_draw (.pas 0 (.pas 1 (.pas 2 (.pas 3 (.pas 4 (.pas 5 (.pas 6 (.pas 7 (.pas 8 .fin))))))))) (fun _ => True) (by decide) mixed (by kernel_rfl) ?_; (repeat (first | ((first | refine pas_plain rfl ?_ | refine pas_g rfl rfl ?_ | refine act_plain rfl ?_ | refine act_g rfl rfl ?_ | refine last_plain rfl ?_ | refine tail_plain rfl ?_ | refine tail_g rfl rfl ?_); (repeat simp only [push_cast, Nat.reduceBEq, Nat.reduceLT, Nat.reduceEqDiff, reduceIte, reduceCtorEq, Nat.reduceMul, Nat.reduceAdd, Nat.reduceSub, Int.reduceEq, Int.reduceLT, Int.reduceLE, Int.reduceNeg, Int.reduceAdd, Int.reduceSub, Int.reduceMul, Nat.reduceLeDiff, Int.reduceToNat,  cell_h, cellO_cells, t0, t1, t4, t5, f1, f2])) | (refine tail_fin ?_) | (refine sch_fin ?_))); (repeat (first | (with_reducible first | (refine hK _ _ ?_; clear hK K) | refine (show ∀ σ' w', _ → K σ' w' from by assumption) _ _ ?_ | refine W_seq_k fun K hK => ?_ | refine W_block_k fun K hK => ?_ | refine W_skip ?_ | refine W_ret ?_) | ((first | ((with_reducible refine W_id ?_); refine W_reg (by decide) (by rfl) ?_) | (with_reducible first | refine W_cond ?_ | refine hZ _ _ ?_ | refine W_exit ?_ | refine Wo_id ?_)); repeat1' simp only [push_cast, Nat.reduceBEq, Nat.reduceLT, Nat.reduceEqDiff, reduceIte, reduceCtorEq, Nat.reduceMul, Nat.reduceAdd, Nat.reduceSub, Int.reduceEq, Int.reduceLT, Int.reduceLE, Int.reduceNeg, Int.reduceAdd, Int.reduceSub, Int.reduceMul, Nat.reduceLeDiff, Int.reduceToNat,  cell_h, cellO_cells, t0, t1, t4, t5, f1, f2]) | ((repeat ((fail_if_success with_reducible refine hK _ _ ?_); clear hK K)); (with_reducible refine hK _ _ ?_); clear hK K))))
        by_cases hyy : y1 = y2
        · rw [if_pos hyy] at hstep
          ((repeat simp only [push_cast, Nat.reduceBEq, Nat.reduceLT, Nat.reduceEqDiff, reduceIte, reduceCtorEq, Nat.reduceMul, Nat.reduceAdd, Nat.reduceSub, Int.reduceEq, Int.reduceLT, Int.reduceLE, Int.reduceNeg, Int.reduceAdd, Int.reduceSub, Int.reduceMul, Nat.reduceLeDiff, Int.reduceToNat, hyy, t2, t3]); (repeat (first | (with_reducible first | (refine hK _ _ ?_; clear hK K) | refine (show ∀ σ' w', _ → K σ' w' from by assumption) _ _ ?_ | refine W_seq_k fun K hK => ?_ | refine W_block_k fun K hK => ?_ | refine W_skip ?_ | refine W_ret ?_) | ((first | ((with_reducible refine W_id ?_); refine W_reg (by decide) (by rfl) ?_) | (with_reducible first | refine W_cond ?_ | refine hZ _ _ ?_ | refine W_exit ?_ | refine Wo_id ?_)); repeat1' simp only [push_cast, Nat.reduceBEq, Nat.reduceLT, Nat.reduceEqDiff, reduceIte, reduceCtorEq, Nat.reduceMul, Nat.reduceAdd, Nat.reduceSub, Int.reduceEq, Int.reduceLT, Int.reduceLE, Int.reduceNeg, Int.reduceAdd, Int.reduceSub, Int.reduceMul, Nat.reduceLeDiff, Int.reduceToNat, hyy, t2, t3]) | ((repeat ((fail_if_success with_reducible refine hK _ _ ?_); clear hK K)); (with_reducible refine hK _ _ ?_); clear hK K))))
          refine ⟨(j + 1, at_ + 1), by simp; omega, ?_⟩
          (repeat simp only [push_cast, Nat.reduceBEq, Nat.reduceLT, Nat.reduceEqDiff, reduceIte, reduceCtorEq, Nat.reduceMul, Nat.reduceAdd, Nat.reduceSub, Int.reduceEq, Int.reduceLT, Int.reduceLE, Int.reduceNeg, Int.reduceAdd, Int.reduceSub, Int.reduceMul, Nat.reduceLeDiff, Int.reduceToNat])
          exact ⟨by omega, by omega, hstep, hx10.trans hxd⟩
        · rw [if_neg hyy] at hstep
          ((repeat simp only [push_cast, Nat.reduceBEq, Nat.reduceLT, Nat.reduceEqDiff, reduceIte, reduceCtorEq, Nat.reduceMul, Nat.reduceAdd, Nat.reduceSub, Int.reduceEq, Int.reduceLT, Int.reduceLE, Int.reduceNeg, Int.reduceAdd, Int.reduceSub, Int.reduceMul, Nat.reduceLeDiff, Int.reduceToNat, hyy, t2, t3]); (repeat (first | (with_reducible first | (refine hK _ _ ?_; clear hK K) | refine (show ∀ σ' w', _ → K σ' w' from by assumption) _ _ ?_ | refine W_seq_k fun K hK => ?_ | refine W_block_k fun K hK => ?_ | refine W_skip ?_ | refine W_ret ?_) | ((first | ((with_reducible refine W_id ?_); refine W_reg (by decide) (by rfl) ?_) | (with_reducible first | refine W_cond ?_ | refine hZ _ _ ?_ | refine W_exit ?_ | refine Wo_id ?_)); repeat1' simp only [push_cast, Nat.reduceBEq, Nat.reduceLT, Nat.reduceEqDiff, reduceIte, reduceCtorEq, Nat.reduceMul, Nat.reduceAdd, Nat.reduceSub, Int.reduceEq, Int.reduceLT, Int.reduceLE, Int.reduceNeg, Int.reduceAdd, Int.reduceSub, Int.reduceMul, Nat.reduceLeDiff, Int.reduceToNat, hyy, t2, t3]) | ((repeat ((fail_if_success with_reducible refine hK _ _ ?_); clear hK K)); (with_reducible refine hK _ _ ?_); clear hK K))))
          refine ⟨(j + 1, at_), by simp; omega, ?_⟩
          (repeat simp only [push_cast, Nat.reduceBEq, Nat.reduceLT, Nat.reduceEqDiff, reduceIte, reduceCtorEq, Nat.reduceMul, Nat.reduceAdd, Nat.reduceSub, Int.reduceEq, Int.reduceLT, Int.reduceLE, Int.reduceNeg, Int.reduceAdd, Int.reduceSub, Int.reduceMul, Nat.reduceLeDiff, Int.reduceToNat])
          exact ⟨by omega, by omega, hstep, hx10.trans hxd⟩
      · have hend := sub_end hsu hin2 hat
        subst hend
        have z0 : ¬ (r.length : Int) < (r.length : Int) := by omega
        have z1 : ¬ ((r.length : Int) = 0) := by omega
        have hcase : ((j : Int) < (all2.length : Int)) = True ∨ ((j : Int) < (all2.length : Int)) = False := by
          by_cases h : (j : Int) < (all2.length : Int)
          · exact .inl (by simp only [h])
          · exact .inr (by simp only [h])
        rcases hcase with t0 | t0
        all_goals
          (repeat (first | (with_reducible first | (refine hK _ _ ?_; clear hK K) | refine (show ∀ σ' w', _ → K σ' w' from by assumption) _ _ ?_ | refine W_seq_k fun K hK => ?_ | refine W_block_k fun K hK => ?_ | refine W_skip ?_ | refine W_ret ?_) | ((first | ((with_reducible refine W_id ?_); refine W_reg (by decide) (by rfl) ?_) | (with_reducible first | refine W_cond ?_ | refine hZ _ _ ?_ | refine W_exit ?_ | refine Wo_id ?_)); repeat1' simp only [push_cast, Nat.reduceBEq, Nat.reduceLT, Nat.reduceEqDiff, reduceIte, reduceCtorEq, Nat.reduceMul, Nat.reduceAdd, Nat.reduceSub, Int.reduceEq, Int.reduceLT, Int.reduceLE, Int.reduceNeg, Int.reduceAdd, Int.reduceSub, Int.reduceMul, Nat.reduceLeDiff, Int.reduceToNat, t0, z0, z1, s0, not_true_eq_false]) | ((repeat ((fail_if_success with_reducible refine hK _ _ ?_); clear hK K)); (with_reducible refine hK _ _ ?_); clear hK K)))
          refine W_loop (S := Nat) (fun q => [(0, .slice ka l.length kc), (1, .slice (some ⟨b, o, none⟩) push.length c1), (5, .pointer (some ⟨pa, 0, none⟩)), (6, .pointer (some ⟨pb, 0, none⟩)), (7, .pointer (some ⟨pl, 0, none⟩)), (8, .slice xa all2.length xc), (9, .int .i64 (k : Int)), (10, .int .i64 (i : Int)), (12, .slice na r.length nc), (14, .int .i64 (((r.drop q).countP (fun y => decide (keyL l y = keyL l i)) : Nat) : Int)), (15, .int .i64 ((q : Int) - 1))])
            (fun q w11 => q ≤ r.length ∧ (∀ y ∈ r.drop q, y ≠ -1) ∧ Ext w10 w11) (fun q => q) r.length ?_ ?_ ?_
          · (repeat simp only [push_cast, Nat.reduceBEq, Nat.reduceLT, Nat.reduceEqDiff, reduceIte, reduceCtorEq, Nat.reduceMul, Nat.reduceAdd, Nat.reduceSub, Int.reduceEq, Int.reduceLT, Int.reduceLE, Int.reduceNeg, Int.reduceAdd, Int.reduceSub, Int.reduceMul, Nat.reduceLeDiff, Int.reduceToNat, List.drop_length, List.countP_nil])
          · exact ⟨by omega, by simp, Ext.refl _⟩
          rintro q w11 ⟨hq, hno, hx11⟩
          cases q with
          | zero =>
            have q0 : (((0 : Nat) : Int) - 1) = -1 := rfl
            rw [q0]
            have q1 : ¬ (0 : Int) ≤ -1 := by omega
            have hcnt : (r.drop 0).countP (fun y => decide (keyL l y = keyL l i)) ≤ 3 := by
              rw [hr] at hno ⊢
              exact Nat.le_trans (suffix_count _ (suffix_open hcut5.a hno (by rw [← hr]; omega))) (hth5 _)
            generalize (r.drop 0).countP (fun y => decide (keyL l y = keyL l i)) = cn at *
            have f5 : ¬ (3 : Int) < (cn : Int) := by omega
            (repeat (first | (with_reducible first | (refine hK _ _ ?_; clear hK K) | refine (show ∀ σ' w', _ → K σ' w' from by assumption) _ _ ?_ | refine W_seq_k fun K hK => ?_ | refine W_block_k fun K hK => ?_ | refine W_skip ?_ | refine W_ret ?_) | ((first | ((with_reducible refine W_id ?_); refine W_reg (by decide) (by rfl) ?_) | (with_reducible first | refine W_cond ?_ | refine hZ _ _ ?_ | refine W_exit ?_ | refine Wo_id ?_)); repeat1' simp only [push_cast, Nat.reduceBEq, Nat.reduceLT, Nat.reduceEqDiff, reduceIte, reduceCtorEq, Nat.reduceMul, Nat.reduceAdd, Nat.reduceSub, Int.reduceEq, Int.reduceLT, Int.reduceLE, Int.reduceNeg, Int.reduceAdd, Int.reduceSub, Int.reduceMul, Nat.reduceLeDiff, Int.reduceToNat, q1, f5, e2]) | ((repeat ((fail_if_success with_reducible refine hK _ _ ?_); clear hK K)); (with_reducible refine hK _ _ ?_); clear hK K)))
            refine ⟨(k + 1, .slice xa all2.length xc), by simp; omega, ?_⟩
            (repeat simp only [push_cast, Nat.reduceBEq, Nat.reduceLT, Nat.reduceEqDiff, reduceIte, reduceCtorEq, Nat.reduceMul, Nat.reduceAdd, Nat.reduceSub, Int.reduceEq, Int.reduceLT, Int.reduceLE, Int.reduceNeg, Int.reduceAdd, Int.reduceSub, Int.reduceMul, Nat.reduceLeDiff, Int.reduceToNat])
            exact ⟨by omega, a, m5, all2, bo8, by rw [← hr]; exact hL9.pass (hx10.trans hx11), by rw [← hr]; exact hcut5, hm5, hth5, hs10.ext hx11, hbo8, hB9.ext (hx10.trans hx11), by rw [← hr]; exact hsub5, hl2⟩
          | succ q =>
            have q0 : (((q + 1 : Nat) : Int) - 1) = q := by omega
            rw [q0]
            have q1 : (0 : Int) ≤ (q : Int) := by omega
            have q2 : (q : Int) < (r.length : Int) := by omega
            have hqr : q < r.length := by omega
            obtain ⟨y, hy⟩ : ∃ y, r[q]? = some y := ⟨_, List.getElem?_eq_getElem hqr⟩
            have hsn11 := hsn10.ext hx11
            obtain ⟨u3, u4, _, _, e, _⟩ := hsn11.some_of (kids_ne hqr)
            cases e
            have f2 := hsn11.ints_cell hy
            rw [cell_h] at f2
            by_cases hym : y = -1
            · subst hym
              have hcnt : (r.drop (q + 1)).countP (fun y => decide (keyL l y = keyL l i)) ≤ 3 := by
                rw [hr] at hno ⊢
                exact Nat.le_trans (suffix_count _ (suffix_open hcut5.a hno (by rw [← hr]; omega))) (hth5 _)
              generalize (r.drop (q + 1)).countP (fun y => decide (keyL l y = keyL l i)) = cn at *
              have f5 : ¬ (3 : Int) < (cn : Int) := by omega
              (repeat (first | (with_reducible first | (refine hK _ _ ?_; clear hK K) | refine (show ∀ σ' w', _ → K σ' w' from by assumption) _ _ ?_ | refine W_seq_k fun K hK => ?_ | refine W_block_k fun K hK => ?_ | refine W_skip ?_ | refine W_ret ?_) | ((first | ((with_reducible refine W_id ?_); refine W_reg (by decide) (by rfl) ?_) | (with_reducible first | refine W_cond ?_ | refine hZ _ _ ?_ | refine W_exit ?_ | refine Wo_id ?_)); repeat1' simp only [push_cast, Nat.reduceBEq, Nat.reduceLT, Nat.reduceEqDiff, reduceIte, reduceCtorEq, Nat.reduceMul, Nat.reduceAdd, Nat.reduceSub, Int.reduceEq, Int.reduceLT, Int.reduceLE, Int.reduceNeg, Int.reduceAdd, Int.reduceSub, Int.reduceMul, Nat.reduceLeDiff, Int.reduceToNat, q1, q2, f2, cell_h, cellO_cells, not_true_eq_false, eq_self, f5, e2]) | ((repeat ((fail_if_success with_reducible refine hK _ _ ?_); clear hK K)); (with_reducible refine hK _ _ ?_); clear hK K)))
              refine ⟨(k + 1, .slice xa all2.length xc), by simp; omega, ?_⟩
              (repeat simp only [push_cast, Nat.reduceBEq, Nat.reduceLT, Nat.reduceEqDiff, reduceIte, reduceCtorEq, Nat.reduceMul, Nat.reduceAdd, Nat.reduceSub, Int.reduceEq, Int.reduceLT, Int.reduceLE, Int.reduceNeg, Int.reduceAdd, Int.reduceSub, Int.reduceMul, Nat.reduceLeDiff, Int.reduceToNat])
              exact ⟨by omega, a, m5, all2, bo8, by rw [← hr]; exact hL9.pass (hx10.trans hx11), by rw [← hr]; exact hcut5, hm5, hth5, hs10.ext hx11, hbo8, hB9.ext (hx10.trans hx11), by rw [← hr]; exact hsub5, hl2⟩
            · have hnr : ∀ z ∈ r.drop q, z ≠ -1 := fun z hz => by
                rw [List.drop_eq_getElem_cons hqr] at hz
                rcases List.mem_cons.1 hz with h | h
                · have : r[q] = y := by have := List.getElem?_eq_getElem hqr; rw [hy] at this; exact (Option.some.inj this).symm
                  rw [h, this]; exact hym
                · exact hno z h
              have hle := suffix_open (m := m5) hcut5.a (j := q) (by rw [← hr]; exact hnr) (by rw [← hr]; omega)
              have hym5 : y ∈ m5 := by
                rw [hr, show q = a.length + (q - a.length) by omega, List.getElem?_append_right (by omega)] at hy
                exact List.mem_of_getElem? hy
              have hyk := hm5 y hym5
              obtain ⟨yq, rfl⟩ : ∃ yq : Nat, y = (yq : Int) := ⟨y.toNat, by have := hyk.1; omega⟩
              have hxd := Ext.drew w11
              have hB12 := (hB9.ext (hx10.trans hx11)).ext hxd
              obtain ⟨bl, cap, tt, hh, hnode⟩ := hB12.nodes
              have ei : (elsL l)[i]? = some (fmN (l.getD ((i : Int) - 1).toNat 0)) := by
                have := nd_els hin
                unfold nd? at this
                rwa [if_pos (by omega), Int.toNat_natCast] at this
              have ey : (elsL l)[yq]? = some (fmN (l.getD ((yq : Int) - 1).toNat 0)) := by
                have := nd_els hyk
                unfold nd? at this
                rwa [if_pos (by omega), Int.toNat_natCast] at this
              have hyr := (List.getElem?_eq_some_iff.1 ey).1
              obtain ⟨mi, mi1, mi2, mi3⟩ := hnode i _ ei
              obtain ⟨my, my1, my2, my3⟩ := hnode yq _ ey
              obtain ⟨c0, c1', c2, c3, c4, c5, c6, c7, c8, c9, c10⟩ := Laid.read mi3
              obtain ⟨k0, k1, k2, k3, k4, k5, k6, k7, k8, k9, k10⟩ := Laid.read my3
              have v1 : (0 : Int) ≤ (i : Int) := by omega
              have v2 : (i : Int) < ((elsL l).length : Int) := by omega
              have v3 : (0 : Int) ≤ (yq : Int) := by omega
              have v4 : (yq : Int) < ((elsL l).length : Int) := by omega
              have hlk := rlike_c (s := mi) (m := my) (w := w11.drew) mi2.attrs.rd my2.attrs.rd (by rw [mi1]; exact hEA _ (List.mem_of_getElem? ei)) (by rw [my1]; exact hEA _ (List.mem_of_getElem? ey))
              have hkey : likeR mi.nd my.nd = decide (keyL l yq = keyL l i) := by
                rw [← likeR_N (by rw [my1]; rfl), mi1, my1]
                exact like_key _ _
              rw [hkey, Laid.val_eq, Laid.val_eq] at hlk
              have f3 := ((hsn11.ext hxd).ints_cell hy)
              rw [cell_h] at f3
              have hcd : (r.drop q).countP (fun y => decide (keyL l y = keyL l i)) = (r.drop (q + 1)).countP (fun y => decide (keyL l y = keyL l i)) + (if keyL l yq = keyL l i then 1 else 0) := by
                have : r[q] = (yq : Int) := by have := List.getElem?_eq_getElem hqr; rw [hy] at this; exact (Option.some.inj this).symm
                rw [List.drop_eq_getElem_cons hqr, List.countP_cons, this]
                simp
              have hc4 : (r.drop (q + 1)).countP (fun y => decide (keyL l y = keyL l i)) ≤ 1000 := by
                refine Nat.le_trans List.countP_le_length ?_
                simp; omega
              generalize (r.drop (q + 1)).countP (fun y => decide (keyL l y = keyL l i)) = cn at *
              have v5 : inI64 ((cn : Int) + 1) := by unfold inI64; omega
              have v6 : inI64 ((q : Int) - 1) := by unfold inI64; omega
              generalize (elsL l).length = en at *
              (repeat (first | (with_reducible first | (refine hK _ _ ?_; clear hK K) | refine (show ∀ σ' w', _ → K σ' w' from by assumption) _ _ ?_ | refine W_seq_k fun K hK => ?_ | refine W_block_k fun K hK => ?_ | refine W_skip ?_ | refine W_ret ?_) | ((first | ((with_reducible refine W_id ?_); refine W_reg (by decide) (by rfl) ?_) | (with_reducible first | refine W_cond ?_ | refine hZ _ _ ?_ | refine W_exit ?_ | refine Wo_id ?_)); repeat1' simp only [push_cast, Nat.reduceBEq, Nat.reduceLT, Nat.reduceEqDiff, reduceIte, reduceCtorEq, Nat.reduceMul, Nat.reduceAdd, Nat.reduceSub, Int.reduceEq, Int.reduceLT, Int.reduceLE, Int.reduceNeg, Int.reduceAdd, Int.reduceSub, Int.reduceMul, Nat.reduceLeDiff, Int.reduceToNat, q1, q2, f2, cell_h, cellO_cells, hym, not_false_eq_true]) | ((repeat ((fail_if_success with_reducible refine hK _ _ ?_); clear hK K)); (with_reducible refine hK _ _ ?_); clear hK K)))
              (refine W_draw (.pas 0 (.pas 1 (.pas 2 (.pas 3 (.pas 4 (.pas 5 (.pas 6 (.pas 7 (.pas 8 (.pas 9 (.pas 10 (.pas 11 (.pas 12 (.pas 13 (.pas 14 (.pas 15 (.pas 16 (.act 17 .fin)))))))))))))))))) (fun b => b = pb ∨ b = u3 ∨ b = bl) (by decide) mixed (by kernel_rfl) ?_; (repeat (first | ((first | refine pas_plain rfl ?_ | refine pas_g rfl rfl ?_ | refine act_plain rfl ?_ | refine act_g rfl rfl ?_ | refine last_plain rfl ?_ | refine tail_plain rfl ?_ | refine tail_g rfl rfl ?_); (repeat simp only [push_cast, Nat.reduceBEq, Nat.reduceLT, Nat.reduceEqDiff, reduceIte, reduceCtorEq, Nat.reduceMul, Nat.reduceAdd, Nat.reduceSub, Int.reduceEq, Int.reduceLT, Int.reduceLE, Int.reduceNeg, Int.reduceAdd, Int.reduceSub, Int.reduceMul, Nat.reduceLeDiff, Int.reduceToNat,  eq_self, true_or, or_true, cell_h, cellO_cells, hh, v1, v2, v3, v4, q1, q2, f3, c0, c1', c2, c3, c4, c5, c6, c7, c8, c9, c10, k0, k1, k2, k3, k4, k5, k6, k7, k8, k9, k10])) | (refine tail_fin ?_) | (refine sch_fin ?_))); (repeat (first | (with_reducible first | (refine hK _ _ ?_; clear hK K) | refine (show ∀ σ' w', _ → K σ' w' from by assumption) _ _ ?_ | refine W_seq_k fun K hK => ?_ | refine W_block_k fun K hK => ?_ | refine W_skip ?_ | refine W_ret ?_) | ((first | ((with_reducible refine W_id ?_); refine W_reg (by decide) (by rfl) ?_) | (with_reducible first | refine W_cond ?_ | refine hZ _ _ ?_ | refine W_exit ?_ | refine Wo_id ?_)); repeat1' simp only [push_cast, Nat.reduceBEq, Nat.reduceLT, Nat.reduceEqDiff, reduceIte, reduceCtorEq, Nat.reduceMul, Nat.reduceAdd, Nat.reduceSub, Int.reduceEq, Int.reduceLT, Int.reduceLE, Int.reduceNeg, Int.reduceAdd, Int.reduceSub, Int.reduceMul, Nat.reduceLeDiff, Int.reduceToNat,  eq_self, true_or, or_true, cell_h, cellO_cells, hh, v1, v2, v3, v4, q1, q2, f3, c0, c1', c2, c3, c4, c5, c6, c7, c8, c9, c10, k0, k1, k2, k3, k4, k5, k6, k7, k8, k9, k10]) | ((repeat ((fail_if_success with_reducible refine hK _ _ ?_); clear hK K)); (with_reducible refine hK _ _ ?_); clear hK K))))
              refine hlk.mono ?_
              rintro v w12 ⟨rfl, hx12⟩
              have hx13 := hx11.trans (hxd.trans hx12)
              have hkp : kept (fun b => b = pb ∨ b = u3 ∨ b = bl) w11.drew w12 := kept_upd hx12 fun b hb => ⟨by
                have x1 := blk_lt hh
                have x2 : bl < w11.drew.heap.size := by
                  apply Classical.byContradiction
                  intro hlt
                  rw [Array.getElem?_eq_none (by omega)] at c0
                  cases c0
                have x3 : u3 < w11.drew.heap.size := by
                  apply Classical.byContradiction
                  intro hlt
                  rw [Array.getElem?_eq_none (by omega)] at f3
                  cases f3
                rcases hb with rfl | rfl | rfl <;> assumption, id⟩
              refine ⟨hkp, ?_⟩
              by_cases hke : keyL l yq = keyL l i
              · rw [if_pos hke] at hcd
                have hce : (((r.drop q).countP (fun y => decide (keyL l y = keyL l i)) : Nat) : Int) = (cn : Int) + 1 := by omega
                (repeat (first | ((first | refine pas_plain rfl ?_ | refine pas_g rfl rfl ?_ | refine act_plain rfl ?_ | refine act_g rfl rfl ?_ | refine last_plain rfl ?_ | refine tail_plain rfl ?_ | refine tail_g rfl rfl ?_); (repeat simp only [push_cast, Nat.reduceBEq, Nat.reduceLT, Nat.reduceEqDiff, reduceIte, reduceCtorEq, Nat.reduceMul, Nat.reduceAdd, Nat.reduceSub, Int.reduceEq, Int.reduceLT, Int.reduceLE, Int.reduceNeg, Int.reduceAdd, Int.reduceSub, Int.reduceMul, Nat.reduceLeDiff, Int.reduceToNat, hke, decide_true])) | (refine tail_fin ?_) | (refine sch_fin ?_)))
                (repeat (first | (with_reducible first | (refine hK _ _ ?_; clear hK K) | refine (show ∀ σ' w', _ → K σ' w' from by assumption) _ _ ?_ | refine W_seq_k fun K hK => ?_ | refine W_block_k fun K hK => ?_ | refine W_skip ?_ | refine W_ret ?_) | ((first | ((with_reducible refine W_id ?_); refine W_reg (by decide) (by rfl) ?_) | (with_reducible first | refine W_cond ?_ | refine hZ _ _ ?_ | refine W_exit ?_ | refine Wo_id ?_)); repeat1' simp only [push_cast, Nat.reduceBEq, Nat.reduceLT, Nat.reduceEqDiff, reduceIte, reduceCtorEq, Nat.reduceMul, Nat.reduceAdd, Nat.reduceSub, Int.reduceEq, Int.reduceLT, Int.reduceLE, Int.reduceNeg, Int.reduceAdd, Int.reduceSub, Int.reduceMul, Nat.reduceLeDiff, Int.reduceToNat, hke, decide_true, v5, v6]) | ((repeat ((fail_if_success with_reducible refine hK _ _ ?_); clear hK K)); (with_reducible refine hK _ _ ?_); clear hK K)))
                refine ⟨q, by omega, ?_⟩
                (repeat simp only [push_cast, Nat.reduceBEq, Nat.reduceLT, Nat.reduceEqDiff, reduceIte, reduceCtorEq, Nat.reduceMul, Nat.reduceAdd, Nat.reduceSub, Int.reduceEq, Int.reduceLT, Int.reduceLE, Int.reduceNeg, Int.reduceAdd, Int.reduceSub, Int.reduceMul, Nat.reduceLeDiff, Int.reduceToNat, hce])
                exact ⟨by omega, hnr, hx13⟩
              · rw [if_neg hke] at hcd
                have hce : (((r.drop q).countP (fun y => decide (keyL l y = keyL l i)) : Nat) : Int) = (cn : Int) := by omega
                (repeat (first | ((first | refine pas_plain rfl ?_ | refine pas_g rfl rfl ?_ | refine act_plain rfl ?_ | refine act_g rfl rfl ?_ | refine last_plain rfl ?_ | refine tail_plain rfl ?_ | refine tail_g rfl rfl ?_); (repeat simp only [push_cast, Nat.reduceBEq, Nat.reduceLT, Nat.reduceEqDiff, reduceIte, reduceCtorEq, Nat.reduceMul, Nat.reduceAdd, Nat.reduceSub, Int.reduceEq, Int.reduceLT, Int.reduceLE, Int.reduceNeg, Int.reduceAdd, Int.reduceSub, Int.reduceMul, Nat.reduceLeDiff, Int.reduceToNat, hke, decide_false])) | (refine tail_fin ?_) | (refine sch_fin ?_)))
                (repeat (first | (with_reducible first | (refine hK _ _ ?_; clear hK K) | refine (show ∀ σ' w', _ → K σ' w' from by assumption) _ _ ?_ | refine W_seq_k fun K hK => ?_ | refine W_block_k fun K hK => ?_ | refine W_skip ?_ | refine W_ret ?_) | ((first | ((with_reducible refine W_id ?_); refine W_reg (by decide) (by rfl) ?_) | (with_reducible first | refine W_cond ?_ | refine hZ _ _ ?_ | refine W_exit ?_ | refine Wo_id ?_)); repeat1' simp only [push_cast, Nat.reduceBEq, Nat.reduceLT, Nat.reduceEqDiff, reduceIte, reduceCtorEq, Nat.reduceMul, Nat.reduceAdd, Nat.reduceSub, Int.reduceEq, Int.reduceLT, Int.reduceLE, Int.reduceNeg, Int.reduceAdd, Int.reduceSub, Int.reduceMul, Nat.reduceLeDiff, Int.reduceToNat, hke, decide_false, v5, v6]) | ((repeat ((fail_if_success with_reducible refine hK _ _ ?_); clear hK K)); (with_reducible refine hK _ _ ?_); clear hK K)))
                refine ⟨q, by omega, ?_⟩
                (repeat simp only [push_cast, Nat.reduceBEq, Nat.reduceLT, Nat.reduceEqDiff, reduceIte, reduceCtorEq, Nat.reduceMul, Nat.reduceAdd, Nat.reduceSub, Int.reduceEq, Int.reduceLT, Int.reduceLE, Int.reduceNeg, Int.reduceAdd, Int.reduceSub, Int.reduceMul, Nat.reduceLeDiff, Int.reduceToNat, hce])
                exact ⟨by omega, hnr, hx13⟩
  · have hke : k = push.length := by omega
    have e0 : ¬ (k : Int) < (push.length : Int) := by omega
    (repeat (first | (with_reducible first | (refine hK _ _ ?_; clear hK K) | refine (show ∀ σ' w', _ → K σ' w' from by assumption) _ _ ?_ | refine W_seq_k fun K hK => ?_ | refine W_block_k fun K hK => ?_ | refine W_skip ?_ | refine W_ret ?_) | ((first | ((with_reducible refine W_id ?_); refine W_reg (by decide) (by rfl) ?_) | (with_reducible first | refine W_cond ?_ | refine hZ _ _ ?_ | refine W_exit ?_ | refine Wo_id ?_)); repeat1' simp only [push_cast, Nat.reduceBEq, Nat.reduceLT, Nat.reduceEqDiff, reduceIte, reduceCtorEq, Nat.reduceMul, Nat.reduceAdd, Nat.reduceSub, Int.reduceEq, Int.reduceLT, Int.reduceLE, Int.reduceNeg, Int.reduceAdd, Int.reduceSub, Int.reduceMul, Nat.reduceLeDiff, Int.reduceToNat, e0]) | ((repeat ((fail_if_success with_reducible refine hK _ _ ?_); clear hK K)); (with_reducible refine hK _ _ ?_); clear hK K)))
    refine active_c.mono ?_
    rintro v w5 ⟨rfl, hx5⟩
    ((repeat simp only [push_cast, Nat.reduceBEq, Nat.reduceLT, Nat.reduceEqDiff, reduceIte, reduceCtorEq, Nat.reduceMul, Nat.reduceAdd, Nat.reduceSub, Int.reduceEq, Int.reduceLT, Int.reduceLE, Int.reduceNeg, Int.reduceAdd, Int.reduceSub, Int.reduceMul, Nat.reduceLeDiff, Int.reduceToNat]); (repeat (first | (with_reducible first | (refine hK _ _ ?_; clear hK K) | refine (show ∀ σ' w', _ → K σ' w' from by assumption) _ _ ?_ | refine W_seq_k fun K hK => ?_ | refine W_block_k fun K hK => ?_ | refine W_skip ?_ | refine W_ret ?_) | ((first | ((with_reducible refine W_id ?_); refine W_reg (by decide) (by rfl) ?_) | (with_reducible first | refine W_cond ?_ | refine hZ _ _ ?_ | refine W_exit ?_ | refine Wo_id ?_)); repeat1' simp only [push_cast, Nat.reduceBEq, Nat.reduceLT, Nat.reduceEqDiff, reduceIte, reduceCtorEq, Nat.reduceMul, Nat.reduceAdd, Nat.reduceSub, Int.reduceEq, Int.reduceLT, Int.reduceLE, Int.reduceNeg, Int.reduceAdd, Int.reduceSub, Int.reduceMul, Nat.reduceLeDiff, Int.reduceToNat]) | ((repeat ((fail_if_success with_reducible refine hK _ _ ?_); clear hK K)); (with_reducible refine hK _ _ ?_); clear hK K))))
    exact hL4.out.trans hx5
end Go.Proofs.Ytkafpameheohdaa
end
section
set_option linter.unusedSimpArgs false
set_option linter.unusedVariables false
namespace Go.Vk
open Go Go.RowKit Go.WideShapes Go.ChangeShapes
variable {H : Type} {enc : TypeId × Value → H} {P : Program}
theorem Ext.below {w w' : World} (h : Ext w w') : Below w.heap.size w w' := ⟨h.alike.os, h.alike.tape, h.alike.output, h.alike.size, fun _ hk => h.heap hk⟩
theorem post_ext {f : Func} {s : ChangeSpec} {apart fresh handsOn again : Bool} {W W' : World} {args : Array Value} {v : Value} {ds gs : List (DataW H)} {before pa pv : List MemPlace}
    (hW : DataW.Whole enc P f.params.toList s.vars apart W args.toList ds gs before)
    (hres : ∀ (b : Nat) (sp : Nat → Bool) (hd : Bool), DataW.TrodAll enc P W' b sp hd f.resultTypes.toList (v.resultList f.resultTypes.size) (s.fn H (ds ++ gs)).results [])
    (hargs : ∀ sp : Nat → Bool, (∀ p ∈ before, sp p.block = true) → DataW.TrodAll enc P W' 0 sp true f.params.toList args.toList (s.fn H (ds ++ gs)).args pa)
    (hvars : ∀ sp : Nat → Bool, (∀ p ∈ before, sp p.block = true) → DataW.TrodVars enc P W' sp s.vars (s.fn H (ds ++ gs)).vars pv)
    (hps : before = pa ++ pv) (hx : Ext W W')
    (hok : ∀ (j : Nat) (t : TypeId) (r : Value), f.resultTypes[j]? = some t → (v.resultList f.resultTypes.size)[j]? = some r → Value.okWide P W' .any 0 t r) :
    s.post enc P f apart fresh handsOn again W args v W' := by
  subst hps
  have hb := hx.below
  have lt : ∀ p ∈ pa ++ pv, p.block < W.heap.size := fun p hp => hW.lt p hp
  have old : ∀ p ∈ pa ++ pv, (fun b => decide (b < W.heap.size)) p.block = true := fun p hp => by simpa using lt p hp
  refine ⟨ds, gs, pa ++ pv, [], pa, pv, hW, hres _ _ _, hargs _ old, hvars _ old, World.keptBut_mono (fun p hp => ⟨hp, .inr (List.mem_append.1 hp)⟩) (hb.frame (· ∈ pa ++ pv)), fun _ => ?_⟩
  obtain ⟨_, _, _, _, _, hz, hn⟩ := hW
  refine ⟨hok, _, _, ([] ++ pa) ++ pv, ⟨[] ++ pa, pv, trodAll_append (hargs _ fun _ _ => rfl) (hres _ _ _), hvars _ fun _ _ => rfl, rfl, fun b off hp => ?_, fun ha => by simpa using hn ha⟩, fun p hp _ => by simpa using hp⟩
  have hin : MemPlace.cell b off ∈ pa ++ pv := by simpa using hp
  rw [hb.frozen (lt _ hin)]
  exact hz b off hin
end Go.Vk
end
section
set_option linter.unusedSimpArgs false
set_option linter.unusedVariables false
namespace Go.Vk
open Go Go.RowKit Go.WideShapes Go.ChangeShapes
variable {H : Type} {enc : TypeId × Value → H} {P : Program}
theorem stays_all (hl : laidOutB P = true) {W W' : World} (hx : Ext W W') {sp : Nat → Bool} : ∀ {ts : List TypeId} {vs : List Value} {ds : List (DataW H)} {ps : List MemPlace},
    DataW.TrodAll enc P W 0 (fun _ => true) true ts vs ds ps → (ts.all fun t => P.readableRec t && decide (t < P.types.size)) = true → (∀ p ∈ ps, p.block < W.heap.size) → (∀ p ∈ ps, sp p.block = true) →
    DataW.TrodAll enc P W' 0 sp true ts vs ds ps
  | [], vs, ds, ps, h, _, _, _ => by
    obtain ⟨rfl, rfl, rfl⟩ := trodAll_nil h
    exact trodAll_mk0
  | t :: ts, vs, ds, ps, h, ht, hlt, hs => by
    obtain ⟨v, vs', d, ds', p, q, rfl, rfl, rfl, h0, hr⟩ := trodAll_cons h
    simp only [List.all_cons, Bool.and_eq_true, decide_eq_true_eq] at ht
    exact trodAll_cons_mk (WideElems.Trod_stays hl ht.1.1 ht.1.2 h0 (fun x hx' => hx.below.same (hlt x (by simp [hx']))) (fun x hx' => hs x (by simp [hx'])))
      (stays_all hl hx hr (by simpa using ht.2) (fun x hx' => hlt x (by simp [hx'])) (fun x hx' => hs x (by simp [hx'])))
theorem law_post {f : Func} {s : ChangeSpec} {fresh handsOn again : Bool} {W W' : World} {args : Array Value} {ds gs : List (DataW H)} {before : List MemPlace} {tb : TypeId}
    (hl : laidOutB P = true) (hts : (f.params.toList.all fun t => P.readableRec t && decide (t < P.types.size)) = true) (hb : P.underlying tb = some .bool) (hres : f.resultTypes = #[tb])
    (hvars : s.vars = []) (hfn : s.fn H (ds ++ gs) = { results := [.lit (.bool true)], args := ds })
    (hW : DataW.Whole enc P f.params.toList s.vars false W args.toList ds gs before) (hx : Ext W W') :
    s.post enc P f false fresh handsOn again W args (.bool true) W' := by
  have hlt : ∀ p ∈ before, p.block < W.heap.size := fun p hp => hW.lt p hp
  have hW' := hW
  obtain ⟨p, q, hA, hV, rfl, hfz, hnd⟩ := hW
  rw [hvars] at hV
  obtain ⟨rfl, rfl⟩ := trodVars_none hV
  rw [List.append_nil] at *
  refine post_ext (pa := p) (pv := []) hW' (fun b sp hd => ?_) (fun sp hs => ?_) (fun sp hs => ?_) (by simp) hx (fun j t r hj hv => ?_)
  · rw [hres, List.append_nil, hfn]
    exact trodAll_cons_mk (shut_bool hb _) trodAll_mk0
  · rw [List.append_nil, hfn]
    exact stays_all hl hx hA hts hlt hs
  · rw [List.append_nil, hfn, hvars]; rfl
  · rw [hres] at hj hv
    match j, hj, hv with
    | 0, hj, hv =>
      simp [Value.resultList] at hj hv
      subst hj; subst hv
      exact okWide_bool_mk hb _
/-- a slice that was handed in: what it reads -/
theorem rd_of {W : World} {a : Addr} {n c : Nat} {l : List Value} {es : Nat} (hn : n ≤ c) (hl : l.length = n * es) (hc : ∀ i, i < l.length → W.cell? (a.add i) = l[i]?) : RdAt W es (.slice (some a) n c) l := by
  refine ⟨some a, n, c, rfl, hn, hl, fun i u hu => ?_⟩
  have hi := (List.getElem?_eq_some_iff.1 hu).1
  have h0 := hc 0 (by omega)
  have hs : a.spot = none := by
    rw [List.getElem?_eq_getElem (by omega)] at h0
    simp only [Addr.add, if_pos] at h0
    cases hsp : a.spot with
    | none => rfl
    | some x =>
      exfalso
      unfold World.cell? at h0
      rw [hsp] at h0
      cases hb : W.heap[a.block]? with
      | none => rw [hb] at h0; cases h0
      | some o => rw [hb] at h0; cases o <;> simp at h0
  obtain ⟨b, o, s⟩ := a
  simp only at hs
  subst hs
  refine ⟨b, o, rfl, ?_⟩
  rw [← hu, ← hc i hi, add_mk]
end Go.Vk
end
section
set_option linter.unusedSimpArgs false
set_option linter.unusedVariables false
namespace Go.Vk
open Go Go.RowKit Go.WideShapes Go.ChangeShapes
theorem wf_u8h {n : Int} (h : (Lit.int .u8 n).wf = true) : 0 ≤ n ∧ n ≤ 255 := by
  simp only [Lit.wf, Bool.and_eq_true, decide_eq_true_eq] at h
  have e1 : IntKind.u8.min = 0 := rfl
  have e2 : IntKind.u8.max = 255 := by decide
  rw [e1, e2] at h; omega
theorem rd_u8s {H : Type} {enc : TypeId × Value → H} {P : Program} {W : World} {base : Nat} {sp : Nat → Bool} {hd : Bool} {t e : TypeId} {v : Value} {d : DataW H} {ps : List MemPlace} {r : Reach} {b0 : Nat} (ht : P.underlying t = some (.slice e)) (he : P.underlying e = some (.int .u8)) (hc : P.cellsOf e = 1)
    (hv : Value.okWide P W r b0 t v) (h : DataW.Trod enc P W base sp hd t v d ps) : ∃ l : List Nat, RdAt W 1 v (u8Cells l) ∧ ∀ c ∈ l, c < 256 := by
  obtain ⟨fuel, h⟩ := h
  obtain ⟨a0, n0, c0, rfl⟩ := okWide_slice ht hv
  rcases open_ints ht he hc h with ⟨h1, _⟩ | ⟨a, len, cap, zs, h1, h2, h3, h4, h5, h6, h7, h8⟩
  · cases h1
    exact ⟨[], ⟨none, 0, 0, rfl, Nat.le_refl _, rfl, fun i u hu => by simp [u8Cells] at hu⟩, by simp⟩
  · cases h1
    have hlm : n0 ≤ zs.length := by rw [h5]; split <;> omega
    have hz : ∀ i, i < n0 → zs.getD i 0 ∈ zs := fun i hi => by
      have hi2 : i < zs.length := by omega
      have : zs.getD i 0 = zs[i] := by simp [List.getD, hi2]
      rw [this]; exact List.getElem_mem hi2
    refine ⟨(List.range n0).map fun i => (zs.getD i 0).toNat, rd_of h3 (by simp [u8Cells]) fun i hi => ?_, fun c hc => ?_⟩
    · simp only [u8Cells, List.length_map, List.length_range] at hi
      have hw := wf_u8h (h8 _ (hz i hi))
      rw [h7 i (by omega)]
      have e : ((zs.getD i 0).toNat : Int) = zs.getD i 0 := by omega
      simp only [u8Cells, List.map_map, List.getElem?_map, List.getElem?_range hi, Option.map_some, Function.comp, e]
    · simp only [List.mem_map, List.mem_range] at hc
      obtain ⟨i, hi, rfl⟩ := hc
      have hw := wf_u8h (h8 _ (hz i hi))
      omega
structure AcF where
  kd : Int
  i : Int
  j : Int
def AcF.cells (x : AcF) : List Value := [.int .u8 x.kd, .int .i64 x.i, .int .i64 x.j]
end Go.Vk
namespace Go.Proofs.Ytkafpameheohdaa
open Go Go.Vk Go.RowKit Go.WideShapes Go.ChangeShapes
theorem h5cells : Try.prog.cellsOf 5 = 1 := by kernel_rfl
end Go.Proofs.Ytkafpameheohdaa
end
