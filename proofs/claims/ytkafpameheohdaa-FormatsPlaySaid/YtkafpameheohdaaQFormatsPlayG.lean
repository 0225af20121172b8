/- What the proof leans on, part 7 of 8. -/
import Derived.Test.YtkafpameheohdaaQFormatsPlayF
section
set_option linter.unusedSimpArgs false
set_option linter.unusedVariables false
namespace Go.Vk
open Go
theorem LsAt.app {G : Nat → Prop} {w0 w w' : World} {Q Q' : Nat → Prop} {pl pa : Nat} {L : List Nd} {l : List Int} (h : LsAt w0 w Q pl pa L l) (hu : Upd G w w') (hG : ∀ b, b < w.heap.size → G b → Q b ∧ w0.heap.size ≤ b) (hQ : ∀ b, Q' b → Q b ∨ (w.heap.size ≤ b ∧ b < w'.heap.size)) : LsAt w0 w' Q' pl pa L l := by
  obtain ⟨lv, bo, h1, h2, h3, h4, h5⟩ := h
  have hlt := blk_lt h1.head
  have hng : ¬ G pl := fun hg => h5 (hG pl hlt hg).1
  refine ⟨lv, bo, h1.upd hu hng fun b hb hg => ?_, h2.app hu (fun b hb hg => ⟨.inl (hG b hb hg).1, (hG b hb hg).2⟩) fun b hb => ?_, h3, fun b hb => ⟨(h4 b hb).1, fun hq => ?_⟩, fun hq => ?_⟩
  · have hbl : b < w.heap.size := by subst hb; exact h1.sl.lt
    exact (h4 b hb).2 (hG b hbl hg).1
  · rcases hb with hb | hb | hb
    · rcases hQ b hb with h | h
      · exact .inl (.inl h)
      · exact .inr h
    · exact .inl (.inr (.inl hb))
    · exact .inl (.inr (.inr hb))
  · rcases hQ b hq with h | h
    · exact (h4 b hb).2 h
    · subst hb
      have := h1.sl.lt; omega
  · rcases hQ pl hq with h | h
    · exact h5 h
    · omega
/-- an arena's nodes, as they are read -/
theorem Ar.nodes {w : World} {pa : Nat} {L : List Nd} {F : Nat → Prop} (h : Ar w pa L F) : ∃ bn cap t, w.heap[pa]? = some (.cells #[.slice (some ⟨bn, 0, none⟩) L.length cap] t (0, 0)) ∧
    ∀ (i : Nat) (n : Nd), L[i]? = some n → ∃ m : Laid, m.nd = n ∧ m.ok w ∧ ∀ j v, m.cells[j]? = some v → cellO (w.heap[bn]?) (i * 11 + j) = some v := by
  obtain ⟨bn, cap, M, hM, rfl, _⟩ := h
  obtain ⟨t, ht⟩ := hM.hdr
  refine ⟨bn, cap, t, by rw [List.length_map]; exact ht, fun i n hn => ?_⟩
  rw [List.getElem?_map] at hn
  cases hm : M[i]? with
  | none => rw [hm] at hn; cases hn
  | some m =>
    rw [hm] at hn
    refine ⟨m, by simpa using hn, hM.sub m (List.mem_of_getElem? hm), fun j v hj => ?_⟩
    have hjl := (List.getElem?_eq_some_iff.1 hj).1
    rw [m.cells_length] at hjl
    rw [← cell_h, hM.cell hm hjl]; exact hj
theorem Laid.read {w : World} {m : Laid} {bn q : Nat} (h : ∀ j v, m.cells[j]? = some v → cellO (w.heap[bn]?) (q + j) = some v) :
    cellO (w.heap[bn]?) q = some (.int .i64 m.nd.kind) ∧ cellO (w.heap[bn]?) (q + 1) = some (.string m.nd.name) ∧ cellO (w.heap[bn]?) (q + 2) = some (.string m.nd.text) ∧ cellO (w.heap[bn]?) (q + 3) = some (.int .i64 m.nd.space) ∧ cellO (w.heap[bn]?) (q + 4) = some m.av ∧ cellO (w.heap[bn]?) (q + 5) = some (.bool m.nd.dup) ∧
    cellO (w.heap[bn]?) (q + 6) = some (.int .i64 m.nd.parent) ∧ cellO (w.heap[bn]?) (q + 7) = some (.int .i64 m.nd.content) ∧ cellO (w.heap[bn]?) (q + 8) = some m.kv ∧ cellO (w.heap[bn]?) (q + 9) = some (.int .i64 m.nd.frm) ∧ cellO (w.heap[bn]?) (q + 10) = some (.int .i64 m.nd.to) :=
  ⟨h 0 _ rfl, h 1 _ rfl, h 2 _ rfl, h 3 _ rfl, h 4 _ rfl, h 5 _ rfl, h 6 _ rfl, h 7 _ rfl, h 8 _ rfl, h 9 _ rfl, h 10 _ rfl⟩
end Go.Vk
end
section
set_option linter.unusedSimpArgs false
set_option linter.unusedVariables false
namespace Go.Vk
open Go
def entOf (y : Int) : List Value := [.int .i64 (if y = -1 then 0 else y), .bool (decide (y = -1))]
def entCells (l : List Int) : List Value := l.flatMap entOf
theorem entCells_length (l : List Int) : (entCells l).length = l.length * 2 := by
  induction l with
  | nil => rfl
  | cons y l ih => simp only [entCells, List.flatMap_cons, List.length_append, List.length_cons] at ih ⊢; rw [ih]; simp [entOf]; omega
theorem entCells_append (a b : List Int) : entCells (a ++ b) = entCells a ++ entCells b := by simp [entCells]
theorem entCells_one (l : List Int) : (entCells l).all oneCell = true := by simp [entCells, entOf, oneCell]
theorem entCells_get : ∀ {l : List Int} {i : Nat} {y : Int}, l[i]? = some y → (entCells l)[i * 2]? = some (.int .i64 (if y = -1 then 0 else y)) ∧ (entCells l)[i * 2 + 1]? = some (.bool (decide (y = -1)))
  | [], i, y, h => by simp at h
  | z :: l, 0, y, h => by
    simp at h; subst h
    exact ⟨rfl, rfl⟩
  | z :: l, i + 1, y, h => by
    have := entCells_get (l := l) (i := i) (y := y) (by simpa using h)
    have e : entCells (z :: l) = entOf z ++ entCells l := by simp [entCells]
    rw [e, show (i + 1) * 2 = (entOf z).length + i * 2 by simp [entOf]; omega]
    refine ⟨?_, ?_⟩
    · rw [List.getElem?_append_right (by omega)]; simpa using this.1
    · rw [Nat.add_assoc, List.getElem?_append_right (by omega)]; simpa using this.2
theorem entCells_take : ∀ (l : List Int) (k : Nat), (entCells l).take (k * 2) = entCells (l.take k)
  | [], k => by simp [entCells]
  | z :: l, 0 => by simp [entCells]
  | z :: l, k + 1 => by
    have e : entCells (z :: l) = [.int .i64 (if z = -1 then 0 else z), .bool (decide (z = -1))] ++ entCells l := by simp [entCells, entOf]
    rw [List.take_succ_cons, e, show (k + 1) * 2 = k * 2 + 1 + 1 by omega]
    simp only [List.cons_append, List.nil_append, List.take_succ_cons]
    rw [entCells_take l k]
    simp [entCells, entOf]
theorem entCells_drop : ∀ (l : List Int) (k : Nat), (entCells l).drop (k * 2) = entCells (l.drop k)
  | [], k => by simp [entCells]
  | z :: l, 0 => by simp
  | z :: l, k + 1 => by
    have e : entCells (z :: l) = [.int .i64 (if z = -1 then 0 else z), .bool (decide (z = -1))] ++ entCells l := by simp [entCells, entOf]
    rw [List.drop_succ_cons, e, show (k + 1) * 2 = k * 2 + 1 + 1 by omega]
    simp only [List.cons_append, List.nil_append, List.drop_succ_cons]
    exact entCells_drop l k
structure RLs (w : World) (pr pb : Nat) (lv : Value) (l : List Int) (bo : Option Nat) : Prop where
  head : w.heap[pr]? = some (.cells #[.pointer (some ⟨pb, 0, none⟩), lv] 78 (0, 0))
  sl : SlAt w 2 lv (entCells l) bo
  ne : bo ≠ some pr
theorem RLs.upd {G : Nat → Prop} {w w' : World} {pr pb : Nat} {lv : Value} {l : List Int} {bo : Option Nat} (h : RLs w pr pb lv l bo) (hu : Upd G w w') (h1 : ¬ G pr) (h2 : ∀ b, bo = some b → ¬ G b) : RLs w' pr pb lv l bo :=
  ⟨(hu.same pr (blk_lt h.head) h1).trans h.head, h.sl.upd hu h2, h.ne⟩
theorem RLs.ext {w w' : World} {pr pb : Nat} {lv : Value} {l : List Int} {bo : Option Nat} (h : RLs w pr pb lv l bo) (hx : Ext w w') : RLs w' pr pb lv l bo := h.upd hx id fun _ _ => id
def RL (w : World) (S : Nat → Prop) (pr pb : Nat) (L : List Nd) (l : List Int) : Prop :=
  ∃ lv bo F, RLs w pr pb lv l bo ∧ Ar w pb L F ∧ (∀ b, F b → S b ∧ b ≠ pr ∧ bo ≠ some b) ∧ S pr ∧ ∀ b, bo = some b → S b
theorem RL.upd {G : Nat → Prop} {w w' : World} {S S' : Nat → Prop} {pr pb : Nat} {L : List Nd} {l : List Int} (h : RL w S pr pb L l) (hu : Upd G w w') (hG : ∀ b, S b → ¬ G b) (hS : ∀ b, S b → S' b) : RL w' S' pr pb L l := by
  obtain ⟨lv, bo, F, h1, h2, h3, h4, h5⟩ := h
  exact ⟨lv, bo, F, h1.upd hu (hG _ h4) fun b hb => hG _ (h5 b hb), h2.frame hu fun b hf => hG _ (h3 b hf).1, fun b hf => ⟨hS _ (h3 b hf).1, (h3 b hf).2⟩, hS _ h4, fun b hb => hS _ (h5 b hb)⟩
theorem RL.ext {w w' : World} {S : Nat → Prop} {pr pb : Nat} {L : List Nd} {l : List Int} (h : RL w S pr pb L l) (hx : Ext w w') : RL w' S pr pb L l := h.upd hx (fun _ _ => id) fun _ => id
/-- entries: markers, and elements -/
def okE (L : List Nd) (l : List Int) : Prop := ∀ y ∈ l, y = -1 ∨ ∃ q : Nat, y = (q : Int) ∧ ∃ n, L[q]? = some n ∧ n.kind = 3
theorem ents_len {w : World} {v : Value} {l : List Int} {bo : Option Nat} (h : SlAt w 2 v (entCells l) bo) : ∃ a c, v = .slice a l.length c ∧ l.length ≤ c ∧ ∀ (i : Nat) (y : Int), l[i]? = some y → ∃ b o, a = some ⟨b, o, none⟩ ∧ bo = some b ∧ w.cell? ⟨b, o + i * 2, none⟩ = some (.int .i64 (if y = -1 then 0 else y)) ∧ w.cell? ⟨b, o + i * 2 + 1, none⟩ = some (.bool (decide (y = -1))) := by
  obtain ⟨a, n, c, rfl, h1, h2⟩ := h.len
  rw [entCells_length] at h2
  obtain rfl : n = l.length := by omega
  refine ⟨a, c, rfl, h1, fun i y hy => ?_⟩
  have hne : entCells l ≠ [] := fun e => by
    have h3 := entCells_length l
    have h4 := (List.getElem?_eq_some_iff.1 hy).1
    rw [e] at h3; simp only [List.length_nil] at h3; omega
  obtain ⟨b, o, n', c', e, hb⟩ := h.some_of hne
  cases e
  obtain ⟨g1, g2⟩ := entCells_get hy
  exact ⟨b, o, rfl, hb, h.get g1, by rw [Nat.add_assoc]; exact h.get g2⟩
theorem lastF_congr {p q : Int → Bool} {l : List Int} {fr : Int} (h : ∀ y ∈ l, p y = q y) : ∀ k : Nat, k ≤ l.length → lastF p l fr k = lastF q l fr k
  | 0, _ => rfl
  | k + 1, hk => by
    have hm : l.getD k 0 ∈ l := by
      have : l.getD k 0 = l[k] := by simp [List.getD, (show k < l.length by omega)]
      rw [this]; exact List.getElem_mem _
    rw [lastF, lastF, h _ hm, lastF_congr h k (by omega)]
theorem lastF_after {p : Int → Bool} {l : List Int} {fr : Int} : ∀ (k j : Nat), lastF p l fr k < j → j < k → fr ≤ (j : Int) → p (l.getD j 0) = false
  | 0, j, _, h, _ => by omega
  | k + 1, j, h1, h2, h3 => by
    rw [lastF, if_neg (by omega)] at h1
    by_cases hp : p (l.getD k 0) = true
    · rw [if_pos hp] at h1; omega
    · rw [if_neg hp] at h1
      by_cases hj : j = k
      · subst hj; simpa using hp
      · exact lastF_after k j h1 (by omega) h3
end Go.Vk
namespace Go.Proofs.Ytkafpameheohdaa
open Go Go.Vk
set_option maxHeartbeats 40000000
section
variable {w : World} {pr pb : Nat} {lv : Value} {L : List Nd} {l : List Int} {bo : Option Nat} {F : Nat → Prop}
theorem rkind_c (h : Ar w pb L F) (hb : L.length < 1000000000) (i : Int) : Gives Try.prog 92 #[.pointer (some ⟨pb, 0, none⟩), .int .i64 i] w fun v w' => v = .int .i64 ((nd? L i).getD zN).kind ∧ w' = w := by
  obtain ⟨bn, cap, t, hh, hnode⟩ := h.nodes
  by_cases hi : i < 0
  · have e : nd? L i = none := by unfold nd?; rw [if_neg (by omega)]
    refine Gives.of_W Try.call92 Try.func92 rfl Try.ntmps92 (by simp) ?_; intro Z hZ
    (repeat (first | (with_reducible first | (refine hK _ _ ?_; clear hK K) | refine (show ∀ σ' w', _ → K σ' w' from by assumption) _ _ ?_ | refine W_seq_k fun K hK => ?_ | refine W_block_k fun K hK => ?_ | refine W_skip ?_ | refine W_ret ?_) | ((first | ((with_reducible refine W_id ?_); refine W_reg (by decide) (by rfl) ?_) | (with_reducible first | refine W_cond ?_ | refine hZ _ _ ?_ | refine W_exit ?_ | refine Wo_id ?_)); repeat1' simp only [push_cast, Nat.reduceBEq, Nat.reduceLT, Nat.reduceEqDiff, reduceIte, reduceCtorEq, Nat.reduceMul, Nat.reduceAdd, Nat.reduceSub, Int.reduceEq, Int.reduceLT, Int.reduceLE, Int.reduceNeg, Int.reduceAdd, Int.reduceSub, Int.reduceMul, Nat.reduceLeDiff, Int.reduceToNat, hi]) | ((repeat ((fail_if_success with_reducible refine hK _ _ ?_); clear hK K)); (with_reducible refine hK _ _ ?_); clear hK K)))
    rw [e]; rfl
  · obtain ⟨i, rfl⟩ : ∃ q : Nat, i = (q : Int) := ⟨i.toNat, by omega⟩
    have e : nd? L (i : Int) = L[i]? := by unfold nd?; rw [if_pos (by omega), Int.toNat_natCast]
    rw [e]
    have b0 : (0 : Int) ≤ (i : Int) := by omega
    by_cases hl : i < L.length
    · have b1 : ¬ (L.length : Int) ≤ (i : Int) := by omega
      have b2 : (i : Int) < (L.length : Int) := by omega
      obtain ⟨m, m1, m2, m3⟩ := hnode i _ (List.getElem?_eq_getElem hl)
      obtain ⟨c0, _⟩ := Laid.read m3
      refine Gives.of_W Try.call92 Try.func92 rfl Try.ntmps92 (by simp) ?_; intro Z hZ
      (repeat (first | (with_reducible first | (refine hK _ _ ?_; clear hK K) | refine (show ∀ σ' w', _ → K σ' w' from by assumption) _ _ ?_ | refine W_seq_k fun K hK => ?_ | refine W_block_k fun K hK => ?_ | refine W_skip ?_ | refine W_ret ?_) | ((first | ((with_reducible refine W_id ?_); refine W_reg (by decide) (by rfl) ?_) | (with_reducible first | refine W_cond ?_ | refine hZ _ _ ?_ | refine W_exit ?_ | refine Wo_id ?_)); repeat1' simp only [push_cast, Nat.reduceBEq, Nat.reduceLT, Nat.reduceEqDiff, reduceIte, reduceCtorEq, Nat.reduceMul, Nat.reduceAdd, Nat.reduceSub, Int.reduceEq, Int.reduceLT, Int.reduceLE, Int.reduceNeg, Int.reduceAdd, Int.reduceSub, Int.reduceMul, Nat.reduceLeDiff, Int.reduceToNat, hi, b0, b1, b2, cell_h, cellO_cells, hh, c0]) | ((repeat ((fail_if_success with_reducible refine hK _ _ ?_); clear hK K)); (with_reducible refine hK _ _ ?_); clear hK K)))
      rw [List.getElem?_eq_getElem hl, m1]; rfl
    · have b1 : (L.length : Int) ≤ (i : Int) := by omega
      refine Gives.of_W Try.call92 Try.func92 rfl Try.ntmps92 (by simp) ?_; intro Z hZ
      (repeat (first | (with_reducible first | (refine hK _ _ ?_; clear hK K) | refine (show ∀ σ' w', _ → K σ' w' from by assumption) _ _ ?_ | refine W_seq_k fun K hK => ?_ | refine W_block_k fun K hK => ?_ | refine W_skip ?_ | refine W_ret ?_) | ((first | ((with_reducible refine W_id ?_); refine W_reg (by decide) (by rfl) ?_) | (with_reducible first | refine W_cond ?_ | refine hZ _ _ ?_ | refine W_exit ?_ | refine Wo_id ?_)); repeat1' simp only [push_cast, Nat.reduceBEq, Nat.reduceLT, Nat.reduceEqDiff, reduceIte, reduceCtorEq, Nat.reduceMul, Nat.reduceAdd, Nat.reduceSub, Int.reduceEq, Int.reduceLT, Int.reduceLE, Int.reduceNeg, Int.reduceAdd, Int.reduceSub, Int.reduceMul, Nat.reduceLeDiff, Int.reduceToNat, hi, b0, b1, cell_h, cellO_cells, hh]) | ((repeat ((fail_if_success with_reducible refine hK _ _ ?_); clear hK K)); (with_reducible refine hK _ _ ?_); clear hK K)))
      rw [List.getElem?_eq_none (by omega)]; rfl
theorem rbehind_c (h : RLs w pr pb lv l bo) (hl : l.length < 100000) : Gives Try.prog 81 #[.pointer (some ⟨pr, 0, none⟩)] w fun v w' => v = .int .i64 (openN l) ∧ w' = w := by
  obtain ⟨a, c, rfl, _, hcell⟩ := ents_len h.sl
  have hh := h.head
  refine Gives.of_W Try.call81 Try.func81 rfl Try.ntmps81 (by simp) ?_; intro Z hZ
  (repeat (first | (with_reducible first | (refine hK _ _ ?_; clear hK K) | refine (show ∀ σ' w', _ → K σ' w' from by assumption) _ _ ?_ | refine W_seq_k fun K hK => ?_ | refine W_block_k fun K hK => ?_ | refine W_skip ?_ | refine W_ret ?_) | ((first | ((with_reducible refine W_id ?_); refine W_reg (by decide) (by rfl) ?_) | (with_reducible first | refine W_cond ?_ | refine hZ _ _ ?_ | refine W_exit ?_ | refine Wo_id ?_)); repeat1' simp only [push_cast, Nat.reduceBEq, Nat.reduceLT, Nat.reduceEqDiff, reduceIte, reduceCtorEq, Nat.reduceMul, Nat.reduceAdd, Nat.reduceSub, Int.reduceEq, Int.reduceLT, Int.reduceLE, Int.reduceNeg, Int.reduceAdd, Int.reduceSub, Int.reduceMul, Nat.reduceLeDiff, Int.reduceToNat]) | ((repeat ((fail_if_success with_reducible refine hK _ _ ?_); clear hK K)); (with_reducible refine hK _ _ ?_); clear hK K)))
  refine W_loop (S := Nat) (fun k => [(0, .pointer (some ⟨pr, 0, none⟩)), (3, .int .i64 (lastF (fun i => decide (i = -1)) l 0 k + 1)), (4, .int .i64 (k : Int))])
    (fun k w1 => k ≤ l.length ∧ w1 = w) (fun k => l.length - k) 0 ?_ ?_ ?_
  · (repeat simp only [push_cast, Nat.reduceBEq, Nat.reduceLT, Nat.reduceEqDiff, reduceIte, reduceCtorEq, Nat.reduceMul, Nat.reduceAdd, Nat.reduceSub, Int.reduceEq, Int.reduceLT, Int.reduceLE, Int.reduceNeg, Int.reduceAdd, Int.reduceSub, Int.reduceMul, Nat.reduceLeDiff, Int.reduceToNat, lastF])
  · exact ⟨by omega, rfl⟩
  rintro k w1 ⟨hk, hw⟩
  subst w1
  by_cases hkl : k < l.length
  · obtain ⟨y, hy⟩ : ∃ y, l[k]? = some y := ⟨_, List.getElem?_eq_getElem hkl⟩
    obtain ⟨b, o, rfl, _, c1, c2⟩ := hcell k y hy
    rw [cell_h] at c1 c2
    have b0 : (k : Int) < (l.length : Int) := by omega
    have b1 : (0 : Int) ≤ (k : Int) := by omega
    have b2 : inI64 ((k : Int) + 1) := by unfold inI64; omega
    have hgd : l.getD k 0 = y := by simp [List.getD, hy]
    have hst : lastF (fun i => decide (i = -1)) l 0 (k + 1) = if y = -1 then (k : Int) else lastF (fun i => decide (i = -1)) l 0 k := by
      rw [lastF, if_neg (by omega), hgd]; simp
    by_cases hym : y = -1
    · rw [if_pos hym] at hst
      (repeat (first | (with_reducible first | (refine hK _ _ ?_; clear hK K) | refine (show ∀ σ' w', _ → K σ' w' from by assumption) _ _ ?_ | refine W_seq_k fun K hK => ?_ | refine W_block_k fun K hK => ?_ | refine W_skip ?_ | refine W_ret ?_) | ((first | ((with_reducible refine W_id ?_); refine W_reg (by decide) (by rfl) ?_) | (with_reducible first | refine W_cond ?_ | refine hZ _ _ ?_ | refine W_exit ?_ | refine Wo_id ?_)); repeat1' simp only [push_cast, Nat.reduceBEq, Nat.reduceLT, Nat.reduceEqDiff, reduceIte, reduceCtorEq, Nat.reduceMul, Nat.reduceAdd, Nat.reduceSub, Int.reduceEq, Int.reduceLT, Int.reduceLE, Int.reduceNeg, Int.reduceAdd, Int.reduceSub, Int.reduceMul, Nat.reduceLeDiff, Int.reduceToNat, cell_h, cellO_cells, hh, b0, b1, b2, c1, c2, hym, decide_true]) | ((repeat ((fail_if_success with_reducible refine hK _ _ ?_); clear hK K)); (with_reducible refine hK _ _ ?_); clear hK K)))
      refine ⟨k + 1, by omega, ?_⟩
      (repeat simp only [push_cast, Nat.reduceBEq, Nat.reduceLT, Nat.reduceEqDiff, reduceIte, reduceCtorEq, Nat.reduceMul, Nat.reduceAdd, Nat.reduceSub, Int.reduceEq, Int.reduceLT, Int.reduceLE, Int.reduceNeg, Int.reduceAdd, Int.reduceSub, Int.reduceMul, Nat.reduceLeDiff, Int.reduceToNat, hst])
      omega
    · rw [if_neg hym] at hst
      (repeat (first | (with_reducible first | (refine hK _ _ ?_; clear hK K) | refine (show ∀ σ' w', _ → K σ' w' from by assumption) _ _ ?_ | refine W_seq_k fun K hK => ?_ | refine W_block_k fun K hK => ?_ | refine W_skip ?_ | refine W_ret ?_) | ((first | ((with_reducible refine W_id ?_); refine W_reg (by decide) (by rfl) ?_) | (with_reducible first | refine W_cond ?_ | refine hZ _ _ ?_ | refine W_exit ?_ | refine Wo_id ?_)); repeat1' simp only [push_cast, Nat.reduceBEq, Nat.reduceLT, Nat.reduceEqDiff, reduceIte, reduceCtorEq, Nat.reduceMul, Nat.reduceAdd, Nat.reduceSub, Int.reduceEq, Int.reduceLT, Int.reduceLE, Int.reduceNeg, Int.reduceAdd, Int.reduceSub, Int.reduceMul, Nat.reduceLeDiff, Int.reduceToNat, cell_h, cellO_cells, hh, b0, b1, b2, c1, c2, hym, decide_false]) | ((repeat ((fail_if_success with_reducible refine hK _ _ ?_); clear hK K)); (with_reducible refine hK _ _ ?_); clear hK K)))
      refine ⟨k + 1, by omega, ?_⟩
      (repeat simp only [push_cast, Nat.reduceBEq, Nat.reduceLT, Nat.reduceEqDiff, reduceIte, reduceCtorEq, Nat.reduceMul, Nat.reduceAdd, Nat.reduceSub, Int.reduceEq, Int.reduceLT, Int.reduceLE, Int.reduceNeg, Int.reduceAdd, Int.reduceSub, Int.reduceMul, Nat.reduceLeDiff, Int.reduceToNat, hst])
      omega
  · have hke : k = l.length := by omega
    subst hke
    have b0 : ¬ (l.length : Int) < (l.length : Int) := by omega
    (repeat (first | (with_reducible first | (refine hK _ _ ?_; clear hK K) | refine (show ∀ σ' w', _ → K σ' w' from by assumption) _ _ ?_ | refine W_seq_k fun K hK => ?_ | refine W_block_k fun K hK => ?_ | refine W_skip ?_ | refine W_ret ?_) | ((first | ((with_reducible refine W_id ?_); refine W_reg (by decide) (by rfl) ?_) | (with_reducible first | refine W_cond ?_ | refine hZ _ _ ?_ | refine W_exit ?_ | refine Wo_id ?_)); repeat1' simp only [push_cast, Nat.reduceBEq, Nat.reduceLT, Nat.reduceEqDiff, reduceIte, reduceCtorEq, Nat.reduceMul, Nat.reduceAdd, Nat.reduceSub, Int.reduceEq, Int.reduceLT, Int.reduceLE, Int.reduceNeg, Int.reduceAdd, Int.reduceSub, Int.reduceMul, Nat.reduceLeDiff, Int.reduceToNat, cell_h, cellO_cells, hh, b0]) | ((repeat ((fail_if_success with_reducible refine hK _ _ ?_); clear hK K)); (with_reducible refine hK _ _ ?_); clear hK K)))
    rfl
theorem rindex_c (h : RLs w pr pb lv l bo) (hl : l.length < 100000) (hv : okE L l) (i : Int) : Gives Try.prog 42 #[.pointer (some ⟨pr, 0, none⟩), .int .i64 i] w fun v w' => v = .int .i64 (indexN l i) ∧ w' = w := by
  obtain ⟨a, c, rfl, _, hcell⟩ := ents_len h.sl
  have hh := h.head
  have hres : lastF (fun y => decide (y ≠ -1 ∧ y = i)) l 0 l.length = indexN l i := by
    unfold indexN
    by_cases hi : i < 0
    · rw [if_pos hi]
      have : lastF (fun y => decide (y ≠ -1 ∧ y = i)) l 0 l.length = lastF (fun _ => false) l 0 l.length := lastF_congr (fun y hy => by
        rcases hv y hy with h | ⟨q, h, _⟩
        · simp [h]
        · simp; intro _; omega) _ (Nat.le_refl _)
      rw [this]
      have : ∀ k, lastF (fun _ => false) l 0 k = -1 := fun k => by
        induction k with
        | zero => rfl
        | succ k ih => rw [lastF, if_neg (by omega)]; simpa using ih
      exact this _
    · rw [if_neg hi]
      exact lastF_congr (fun y hy => by
        by_cases h : y = i
        · subst h; simp; omega
        · simp [h]) _ (Nat.le_refl _)
  refine Gives.of_W Try.call42 Try.func42 rfl Try.ntmps42 (by simp) ?_; intro Z hZ
  (repeat (first | (with_reducible first | (refine hK _ _ ?_; clear hK K) | refine (show ∀ σ' w', _ → K σ' w' from by assumption) _ _ ?_ | refine W_seq_k fun K hK => ?_ | refine W_block_k fun K hK => ?_ | refine W_skip ?_ | refine W_ret ?_) | ((first | ((with_reducible refine W_id ?_); refine W_reg (by decide) (by rfl) ?_) | (with_reducible first | refine W_cond ?_ | refine hZ _ _ ?_ | refine W_exit ?_ | refine Wo_id ?_)); repeat1' simp only [push_cast, Nat.reduceBEq, Nat.reduceLT, Nat.reduceEqDiff, reduceIte, reduceCtorEq, Nat.reduceMul, Nat.reduceAdd, Nat.reduceSub, Int.reduceEq, Int.reduceLT, Int.reduceLE, Int.reduceNeg, Int.reduceAdd, Int.reduceSub, Int.reduceMul, Nat.reduceLeDiff, Int.reduceToNat]) | ((repeat ((fail_if_success with_reducible refine hK _ _ ?_); clear hK K)); (with_reducible refine hK _ _ ?_); clear hK K)))
  refine W_loop (S := Nat) (fun k => [(0, .pointer (some ⟨pr, 0, none⟩)), (1, .int .i64 i), (5, .int .i64 (lastF (fun y => decide (y ≠ -1 ∧ y = i)) l 0 k)), (6, .int .i64 (k : Int))])
    (fun k w1 => k ≤ l.length ∧ w1 = w) (fun k => l.length - k) 0 ?_ ?_ ?_
  · (repeat simp only [push_cast, Nat.reduceBEq, Nat.reduceLT, Nat.reduceEqDiff, reduceIte, reduceCtorEq, Nat.reduceMul, Nat.reduceAdd, Nat.reduceSub, Int.reduceEq, Int.reduceLT, Int.reduceLE, Int.reduceNeg, Int.reduceAdd, Int.reduceSub, Int.reduceMul, Nat.reduceLeDiff, Int.reduceToNat, lastF])
  · exact ⟨by omega, rfl⟩
  rintro k w1 ⟨hk, hw⟩
  subst w1
  by_cases hkl : k < l.length
  · obtain ⟨y, hy⟩ : ∃ y, l[k]? = some y := ⟨_, List.getElem?_eq_getElem hkl⟩
    obtain ⟨b, o, rfl, _, c1, c2⟩ := hcell k y hy
    rw [cell_h] at c1 c2
    have b0 : (k : Int) < (l.length : Int) := by omega
    have b1 : (0 : Int) ≤ (k : Int) := by omega
    have b2 : inI64 ((k : Int) + 1) := by unfold inI64; omega
    have hgd : l.getD k 0 = y := by simp [List.getD, hy]
    have hst : lastF (fun y => decide (y ≠ -1 ∧ y = i)) l 0 (k + 1) = if y ≠ -1 ∧ y = i then (k : Int) else lastF (fun y => decide (y ≠ -1 ∧ y = i)) l 0 k := by
      rw [lastF, if_neg (by omega), hgd]; simp
    by_cases hym : y = -1
    · rw [if_neg (by simp [hym])] at hst
      (repeat (first | (with_reducible first | (refine hK _ _ ?_; clear hK K) | refine (show ∀ σ' w', _ → K σ' w' from by assumption) _ _ ?_ | refine W_seq_k fun K hK => ?_ | refine W_block_k fun K hK => ?_ | refine W_skip ?_ | refine W_ret ?_) | ((first | ((with_reducible refine W_id ?_); refine W_reg (by decide) (by rfl) ?_) | (with_reducible first | refine W_cond ?_ | refine hZ _ _ ?_ | refine W_exit ?_ | refine Wo_id ?_)); repeat1' simp only [push_cast, Nat.reduceBEq, Nat.reduceLT, Nat.reduceEqDiff, reduceIte, reduceCtorEq, Nat.reduceMul, Nat.reduceAdd, Nat.reduceSub, Int.reduceEq, Int.reduceLT, Int.reduceLE, Int.reduceNeg, Int.reduceAdd, Int.reduceSub, Int.reduceMul, Nat.reduceLeDiff, Int.reduceToNat, cell_h, cellO_cells, hh, b0, b1, b2, c1, c2, hym, decide_true]) | ((repeat ((fail_if_success with_reducible refine hK _ _ ?_); clear hK K)); (with_reducible refine hK _ _ ?_); clear hK K)))
      refine ⟨k + 1, by omega, ?_⟩
      (repeat simp only [push_cast, Nat.reduceBEq, Nat.reduceLT, Nat.reduceEqDiff, reduceIte, reduceCtorEq, Nat.reduceMul, Nat.reduceAdd, Nat.reduceSub, Int.reduceEq, Int.reduceLT, Int.reduceLE, Int.reduceNeg, Int.reduceAdd, Int.reduceSub, Int.reduceMul, Nat.reduceLeDiff, Int.reduceToNat, hst])
      omega
    · by_cases hyi : y = i
      · rw [if_pos ⟨hym, hyi⟩] at hst
        rw [if_neg hym] at c1
        subst hyi
        (repeat (first | (with_reducible first | (refine hK _ _ ?_; clear hK K) | refine (show ∀ σ' w', _ → K σ' w' from by assumption) _ _ ?_ | refine W_seq_k fun K hK => ?_ | refine W_block_k fun K hK => ?_ | refine W_skip ?_ | refine W_ret ?_) | ((first | ((with_reducible refine W_id ?_); refine W_reg (by decide) (by rfl) ?_) | (with_reducible first | refine W_cond ?_ | refine hZ _ _ ?_ | refine W_exit ?_ | refine Wo_id ?_)); repeat1' simp only [push_cast, Nat.reduceBEq, Nat.reduceLT, Nat.reduceEqDiff, reduceIte, reduceCtorEq, Nat.reduceMul, Nat.reduceAdd, Nat.reduceSub, Int.reduceEq, Int.reduceLT, Int.reduceLE, Int.reduceNeg, Int.reduceAdd, Int.reduceSub, Int.reduceMul, Nat.reduceLeDiff, Int.reduceToNat, cell_h, cellO_cells, hh, b0, b1, b2, c1, c2, hym, decide_false, decide_true, eq_self]) | ((repeat ((fail_if_success with_reducible refine hK _ _ ?_); clear hK K)); (with_reducible refine hK _ _ ?_); clear hK K)))
        refine ⟨k + 1, by omega, ?_⟩
        (repeat simp only [push_cast, Nat.reduceBEq, Nat.reduceLT, Nat.reduceEqDiff, reduceIte, reduceCtorEq, Nat.reduceMul, Nat.reduceAdd, Nat.reduceSub, Int.reduceEq, Int.reduceLT, Int.reduceLE, Int.reduceNeg, Int.reduceAdd, Int.reduceSub, Int.reduceMul, Nat.reduceLeDiff, Int.reduceToNat, hst])
        omega
      · rw [if_neg (fun h => hyi h.2)] at hst
        rw [if_neg hym] at c1
        (repeat (first | (with_reducible first | (refine hK _ _ ?_; clear hK K) | refine (show ∀ σ' w', _ → K σ' w' from by assumption) _ _ ?_ | refine W_seq_k fun K hK => ?_ | refine W_block_k fun K hK => ?_ | refine W_skip ?_ | refine W_ret ?_) | ((first | ((with_reducible refine W_id ?_); refine W_reg (by decide) (by rfl) ?_) | (with_reducible first | refine W_cond ?_ | refine hZ _ _ ?_ | refine W_exit ?_ | refine Wo_id ?_)); repeat1' simp only [push_cast, Nat.reduceBEq, Nat.reduceLT, Nat.reduceEqDiff, reduceIte, reduceCtorEq, Nat.reduceMul, Nat.reduceAdd, Nat.reduceSub, Int.reduceEq, Int.reduceLT, Int.reduceLE, Int.reduceNeg, Int.reduceAdd, Int.reduceSub, Int.reduceMul, Nat.reduceLeDiff, Int.reduceToNat, cell_h, cellO_cells, hh, b0, b1, b2, c1, c2, hym, hyi, decide_false]) | ((repeat ((fail_if_success with_reducible refine hK _ _ ?_); clear hK K)); (with_reducible refine hK _ _ ?_); clear hK K)))
        refine ⟨k + 1, by omega, ?_⟩
        (repeat simp only [push_cast, Nat.reduceBEq, Nat.reduceLT, Nat.reduceEqDiff, reduceIte, reduceCtorEq, Nat.reduceMul, Nat.reduceAdd, Nat.reduceSub, Int.reduceEq, Int.reduceLT, Int.reduceLE, Int.reduceNeg, Int.reduceAdd, Int.reduceSub, Int.reduceMul, Nat.reduceLeDiff, Int.reduceToNat, hst])
        omega
  · have hke : k = l.length := by omega
    subst hke
    have b0 : ¬ (l.length : Int) < (l.length : Int) := by omega
    (repeat (first | (with_reducible first | (refine hK _ _ ?_; clear hK K) | refine (show ∀ σ' w', _ → K σ' w' from by assumption) _ _ ?_ | refine W_seq_k fun K hK => ?_ | refine W_block_k fun K hK => ?_ | refine W_skip ?_ | refine W_ret ?_) | ((first | ((with_reducible refine W_id ?_); refine W_reg (by decide) (by rfl) ?_) | (with_reducible first | refine W_cond ?_ | refine hZ _ _ ?_ | refine W_exit ?_ | refine Wo_id ?_)); repeat1' simp only [push_cast, Nat.reduceBEq, Nat.reduceLT, Nat.reduceEqDiff, reduceIte, reduceCtorEq, Nat.reduceMul, Nat.reduceAdd, Nat.reduceSub, Int.reduceEq, Int.reduceLT, Int.reduceLE, Int.reduceNeg, Int.reduceAdd, Int.reduceSub, Int.reduceMul, Nat.reduceLeDiff, Int.reduceToNat, cell_h, cellO_cells, hh, b0]) | ((repeat ((fail_if_success with_reducible refine hK _ _ ?_); clear hK K)); (with_reducible refine hK _ _ ?_); clear hK K)))
    exact hres
theorem rat_c (h : RLs w pr pb lv l bo) (k : Int) : Gives Try.prog 45 #[.pointer (some ⟨pr, 0, none⟩), .int .i64 k] w fun v w' => v = .tuple #[.int .i64 (if 0 ≤ k ∧ k < l.length then l.getD k.toNat 0 else -1), .bool (decide ((0 ≤ k ∧ k < l.length) ∧ l.getD k.toNat 0 = -1))] ∧ Ext w w' := by
  obtain ⟨a, c, rfl, _, hcell⟩ := ents_len h.sl
  have hh := h.head
  have hx := Ext.drew w
  have hh2 := hx.blk hh
  by_cases hk0 : k < 0
  · have b1 : ¬ (0 ≤ k) := by omega
    rw [if_neg (fun h => b1 h.1)]
    refine Gives.of_W Try.call45 Try.func45 rfl Try.ntmps45 (by simp) ?_; intro Z hZ
    (repeat (first | (with_reducible first | (refine hK _ _ ?_; clear hK K) | refine (show ∀ σ' w', _ → K σ' w' from by assumption) _ _ ?_ | refine W_seq_k fun K hK => ?_ | refine W_block_k fun K hK => ?_ | refine W_skip ?_ | refine W_ret ?_) | ((first | ((with_reducible refine W_id ?_); refine W_reg (by decide) (by rfl) ?_) | (with_reducible first | refine W_cond ?_ | refine hZ _ _ ?_ | refine W_exit ?_ | refine Wo_id ?_)); repeat1' simp only [push_cast, Nat.reduceBEq, Nat.reduceLT, Nat.reduceEqDiff, reduceIte, reduceCtorEq, Nat.reduceMul, Nat.reduceAdd, Nat.reduceSub, Int.reduceEq, Int.reduceLT, Int.reduceLE, Int.reduceNeg, Int.reduceAdd, Int.reduceSub, Int.reduceMul, Nat.reduceLeDiff, Int.reduceToNat, hk0]) | ((repeat ((fail_if_success with_reducible refine hK _ _ ?_); clear hK K)); (with_reducible refine hK _ _ ?_); clear hK K)))
    (refine W_draw (.pas 0 (.pas 1 (.pas 2 (.pas 3 (.pas 4 (.pas 5 (.pas 6 (.pas 7 (.pas 8 (.pas 9 (.pas 10 (.pas 11 (.pas 12 .fin))))))))))))) (fun _ => True) (by decide) mixed (by kernel_rfl) ?_; (repeat (first | ((first | refine pas_plain rfl ?_ | refine pas_g rfl rfl ?_ | refine act_plain rfl ?_ | refine act_g rfl rfl ?_ | refine last_plain rfl ?_ | refine tail_plain rfl ?_ | refine tail_g rfl rfl ?_); (repeat simp only [push_cast, Nat.reduceBEq, Nat.reduceLT, Nat.reduceEqDiff, reduceIte, reduceCtorEq, Nat.reduceMul, Nat.reduceAdd, Nat.reduceSub, Int.reduceEq, Int.reduceLT, Int.reduceLE, Int.reduceNeg, Int.reduceAdd, Int.reduceSub, Int.reduceMul, Nat.reduceLeDiff, Int.reduceToNat,  b1])) | (refine tail_fin ?_) | (refine sch_fin ?_))); (repeat (first | (with_reducible first | (refine hK _ _ ?_; clear hK K) | refine (show ∀ σ' w', _ → K σ' w' from by assumption) _ _ ?_ | refine W_seq_k fun K hK => ?_ | refine W_block_k fun K hK => ?_ | refine W_skip ?_ | refine W_ret ?_) | ((first | ((with_reducible refine W_id ?_); refine W_reg (by decide) (by rfl) ?_) | (with_reducible first | refine W_cond ?_ | refine hZ _ _ ?_ | refine W_exit ?_ | refine Wo_id ?_)); repeat1' simp only [push_cast, Nat.reduceBEq, Nat.reduceLT, Nat.reduceEqDiff, reduceIte, reduceCtorEq, Nat.reduceMul, Nat.reduceAdd, Nat.reduceSub, Int.reduceEq, Int.reduceLT, Int.reduceLE, Int.reduceNeg, Int.reduceAdd, Int.reduceSub, Int.reduceMul, Nat.reduceLeDiff, Int.reduceToNat,  b1]) | ((repeat ((fail_if_success with_reducible refine hK _ _ ?_); clear hK K)); (with_reducible refine hK _ _ ?_); clear hK K))))
    exact hx
  · obtain ⟨k, rfl⟩ : ∃ q : Nat, k = (q : Int) := ⟨k.toNat, by omega⟩
    have b1 : (0 : Int) ≤ (k : Int) := by omega
    by_cases hkl : k < l.length
    · obtain ⟨y, hy⟩ : ∃ y, l[k]? = some y := ⟨_, List.getElem?_eq_getElem hkl⟩
      obtain ⟨b, o, rfl, _, c1, c2⟩ := hcell k y hy
      rw [cell_h] at c1 c2
      have b2 : ¬ (l.length : Int) ≤ (k : Int) := by omega
      have b3 : (k : Int) < (l.length : Int) := by omega
      have hgd : l.getD ((k : Int).toNat) 0 = y := by simp [List.getD, hy]
      rw [if_pos ⟨b1, b3⟩, hgd]
      by_cases hym : y = -1
      · rw [if_pos hym] at c1
        refine Gives.of_W Try.call45 Try.func45 rfl Try.ntmps45 (by simp) ?_; intro Z hZ
        (repeat (first | (with_reducible first | (refine hK _ _ ?_; clear hK K) | refine (show ∀ σ' w', _ → K σ' w' from by assumption) _ _ ?_ | refine W_seq_k fun K hK => ?_ | refine W_block_k fun K hK => ?_ | refine W_skip ?_ | refine W_ret ?_) | ((first | ((with_reducible refine W_id ?_); refine W_reg (by decide) (by rfl) ?_) | (with_reducible first | refine W_cond ?_ | refine hZ _ _ ?_ | refine W_exit ?_ | refine Wo_id ?_)); repeat1' simp only [push_cast, Nat.reduceBEq, Nat.reduceLT, Nat.reduceEqDiff, reduceIte, reduceCtorEq, Nat.reduceMul, Nat.reduceAdd, Nat.reduceSub, Int.reduceEq, Int.reduceLT, Int.reduceLE, Int.reduceNeg, Int.reduceAdd, Int.reduceSub, Int.reduceMul, Nat.reduceLeDiff, Int.reduceToNat, hk0, cell_h, cellO_cells, hh, b1, b2, b3, c1, c2, hym, decide_true]) | ((repeat ((fail_if_success with_reducible refine hK _ _ ?_); clear hK K)); (with_reducible refine hK _ _ ?_); clear hK K)))
        (refine W_draw (.pas 0 (.pas 1 (.pas 2 (.pas 3 (.pas 4 (.pas 5 (.pas 6 (.pas 7 (.pas 8 (.pas 9 (.pas 10 (.pas 11 (.pas 12 .fin))))))))))))) (fun _ => True) (by decide) mixed (by kernel_rfl) ?_; (repeat (first | ((first | refine pas_plain rfl ?_ | refine pas_g rfl rfl ?_ | refine act_plain rfl ?_ | refine act_g rfl rfl ?_ | refine last_plain rfl ?_ | refine tail_plain rfl ?_ | refine tail_g rfl rfl ?_); (repeat simp only [push_cast, Nat.reduceBEq, Nat.reduceLT, Nat.reduceEqDiff, reduceIte, reduceCtorEq, Nat.reduceMul, Nat.reduceAdd, Nat.reduceSub, Int.reduceEq, Int.reduceLT, Int.reduceLE, Int.reduceNeg, Int.reduceAdd, Int.reduceSub, Int.reduceMul, Nat.reduceLeDiff, Int.reduceToNat,  b1, b3, cell_h, cellO_cells, hh2])) | (refine tail_fin ?_) | (refine sch_fin ?_))); (repeat (first | (with_reducible first | (refine hK _ _ ?_; clear hK K) | refine (show ∀ σ' w', _ → K σ' w' from by assumption) _ _ ?_ | refine W_seq_k fun K hK => ?_ | refine W_block_k fun K hK => ?_ | refine W_skip ?_ | refine W_ret ?_) | ((first | ((with_reducible refine W_id ?_); refine W_reg (by decide) (by rfl) ?_) | (with_reducible first | refine W_cond ?_ | refine hZ _ _ ?_ | refine W_exit ?_ | refine Wo_id ?_)); repeat1' simp only [push_cast, Nat.reduceBEq, Nat.reduceLT, Nat.reduceEqDiff, reduceIte, reduceCtorEq, Nat.reduceMul, Nat.reduceAdd, Nat.reduceSub, Int.reduceEq, Int.reduceLT, Int.reduceLE, Int.reduceNeg, Int.reduceAdd, Int.reduceSub, Int.reduceMul, Nat.reduceLeDiff, Int.reduceToNat,  b1, b3, cell_h, cellO_cells, hh2]) | ((repeat ((fail_if_success with_reducible refine hK _ _ ?_); clear hK K)); (with_reducible refine hK _ _ ?_); clear hK K))))
        subst hym
        exact ⟨by simp, hx⟩
      · rw [if_neg hym] at c1
        refine Gives.of_W Try.call45 Try.func45 rfl Try.ntmps45 (by simp) ?_; intro Z hZ
        (repeat (first | (with_reducible first | (refine hK _ _ ?_; clear hK K) | refine (show ∀ σ' w', _ → K σ' w' from by assumption) _ _ ?_ | refine W_seq_k fun K hK => ?_ | refine W_block_k fun K hK => ?_ | refine W_skip ?_ | refine W_ret ?_) | ((first | ((with_reducible refine W_id ?_); refine W_reg (by decide) (by rfl) ?_) | (with_reducible first | refine W_cond ?_ | refine hZ _ _ ?_ | refine W_exit ?_ | refine Wo_id ?_)); repeat1' simp only [push_cast, Nat.reduceBEq, Nat.reduceLT, Nat.reduceEqDiff, reduceIte, reduceCtorEq, Nat.reduceMul, Nat.reduceAdd, Nat.reduceSub, Int.reduceEq, Int.reduceLT, Int.reduceLE, Int.reduceNeg, Int.reduceAdd, Int.reduceSub, Int.reduceMul, Nat.reduceLeDiff, Int.reduceToNat, hk0, cell_h, cellO_cells, hh, b1, b2, b3, c1, c2, hym, decide_false]) | ((repeat ((fail_if_success with_reducible refine hK _ _ ?_); clear hK K)); (with_reducible refine hK _ _ ?_); clear hK K)))
        exact Ext.refl _
    · have b2 : (l.length : Int) ≤ (k : Int) := by omega
      have b3 : ¬ (k : Int) < (l.length : Int) := by omega
      rw [if_neg (fun h => b3 h.2)]
      refine Gives.of_W Try.call45 Try.func45 rfl Try.ntmps45 (by simp) ?_; intro Z hZ
      (repeat (first | (with_reducible first | (refine hK _ _ ?_; clear hK K) | refine (show ∀ σ' w', _ → K σ' w' from by assumption) _ _ ?_ | refine W_seq_k fun K hK => ?_ | refine W_block_k fun K hK => ?_ | refine W_skip ?_ | refine W_ret ?_) | ((first | ((with_reducible refine W_id ?_); refine W_reg (by decide) (by rfl) ?_) | (with_reducible first | refine W_cond ?_ | refine hZ _ _ ?_ | refine W_exit ?_ | refine Wo_id ?_)); repeat1' simp only [push_cast, Nat.reduceBEq, Nat.reduceLT, Nat.reduceEqDiff, reduceIte, reduceCtorEq, Nat.reduceMul, Nat.reduceAdd, Nat.reduceSub, Int.reduceEq, Int.reduceLT, Int.reduceLE, Int.reduceNeg, Int.reduceAdd, Int.reduceSub, Int.reduceMul, Nat.reduceLeDiff, Int.reduceToNat, hk0, cell_h, cellO_cells, hh, b1, b2, b3]) | ((repeat ((fail_if_success with_reducible refine hK _ _ ?_); clear hK K)); (with_reducible refine hK _ _ ?_); clear hK K)))
      (refine W_draw (.pas 0 (.pas 1 (.pas 2 (.pas 3 (.pas 4 (.pas 5 (.pas 6 (.pas 7 (.pas 8 (.pas 9 (.pas 10 (.pas 11 (.pas 12 .fin))))))))))))) (fun _ => True) (by decide) mixed (by kernel_rfl) ?_; (repeat (first | ((first | refine pas_plain rfl ?_ | refine pas_g rfl rfl ?_ | refine act_plain rfl ?_ | refine act_g rfl rfl ?_ | refine last_plain rfl ?_ | refine tail_plain rfl ?_ | refine tail_g rfl rfl ?_); (repeat simp only [push_cast, Nat.reduceBEq, Nat.reduceLT, Nat.reduceEqDiff, reduceIte, reduceCtorEq, Nat.reduceMul, Nat.reduceAdd, Nat.reduceSub, Int.reduceEq, Int.reduceLT, Int.reduceLE, Int.reduceNeg, Int.reduceAdd, Int.reduceSub, Int.reduceMul, Nat.reduceLeDiff, Int.reduceToNat,  b1, b3, cell_h, cellO_cells, hh2])) | (refine tail_fin ?_) | (refine sch_fin ?_))); (repeat (first | (with_reducible first | (refine hK _ _ ?_; clear hK K) | refine (show ∀ σ' w', _ → K σ' w' from by assumption) _ _ ?_ | refine W_seq_k fun K hK => ?_ | refine W_block_k fun K hK => ?_ | refine W_skip ?_ | refine W_ret ?_) | ((first | ((with_reducible refine W_id ?_); refine W_reg (by decide) (by rfl) ?_) | (with_reducible first | refine W_cond ?_ | refine hZ _ _ ?_ | refine W_exit ?_ | refine Wo_id ?_)); repeat1' simp only [push_cast, Nat.reduceBEq, Nat.reduceLT, Nat.reduceEqDiff, reduceIte, reduceCtorEq, Nat.reduceMul, Nat.reduceAdd, Nat.reduceSub, Int.reduceEq, Int.reduceLT, Int.reduceLE, Int.reduceNeg, Int.reduceAdd, Int.reduceSub, Int.reduceMul, Nat.reduceLeDiff, Int.reduceToNat,  b1, b3, cell_h, cellO_cells, hh2]) | ((repeat ((fail_if_success with_reducible refine hK _ _ ?_); clear hK K)); (with_reducible refine hK _ _ ?_); clear hK K))))
      exact hx
theorem rlast_c (h : RLs w pr pb lv l bo) (ha : Ar w pb L F) (hl : l.length < 100000) (hL : L.length < 100000) (hv : okE L l) (hne : ¬ pb = pr) (s : ByteArray) : Gives Try.prog 43 #[.pointer (some ⟨pr, 0, none⟩), .string s] w fun v w' => v = .int .i64 (lastName L l s) ∧ Ext w w' := by
  obtain ⟨a, c, rfl, _, hcell⟩ := ents_len h.sl
  have hor := openN_rng l
  refine Gives.of_W Try.call43 Try.func43 rfl Try.ntmps43 (by simp) ?_; intro Z hZ
  (repeat (first | (with_reducible first | (refine hK _ _ ?_; clear hK K) | refine (show ∀ σ' w', _ → K σ' w' from by assumption) _ _ ?_ | refine W_seq_k fun K hK => ?_ | refine W_block_k fun K hK => ?_ | refine W_skip ?_ | refine W_ret ?_) | ((first | ((with_reducible refine W_id ?_); refine W_reg (by decide) (by rfl) ?_) | (with_reducible first | refine W_cond ?_ | refine hZ _ _ ?_ | refine W_exit ?_ | refine Wo_id ?_)); repeat1' simp only [push_cast, Nat.reduceBEq, Nat.reduceLT, Nat.reduceEqDiff, reduceIte, reduceCtorEq, Nat.reduceMul, Nat.reduceAdd, Nat.reduceSub, Int.reduceEq, Int.reduceLT, Int.reduceLE, Int.reduceNeg, Int.reduceAdd, Int.reduceSub, Int.reduceMul, Nat.reduceLeDiff, Int.reduceToNat]) | ((repeat ((fail_if_success with_reducible refine hK _ _ ?_); clear hK K)); (with_reducible refine hK _ _ ?_); clear hK K)))
  refine (rbehind_c h hl).mono ?_
  intro v w' ⟨hv', hw⟩
  subst hv'; subst w'
  obtain ⟨n0, hn0⟩ : ∃ n : Nat, openN l = (n : Int) := ⟨(openN l).toNat, by omega⟩
  rw [hn0]
  ((repeat simp only [push_cast, Nat.reduceBEq, Nat.reduceLT, Nat.reduceEqDiff, reduceIte, reduceCtorEq, Nat.reduceMul, Nat.reduceAdd, Nat.reduceSub, Int.reduceEq, Int.reduceLT, Int.reduceLE, Int.reduceNeg, Int.reduceAdd, Int.reduceSub, Int.reduceMul, Nat.reduceLeDiff, Int.reduceToNat]); (repeat (first | (with_reducible first | (refine hK _ _ ?_; clear hK K) | refine (show ∀ σ' w', _ → K σ' w' from by assumption) _ _ ?_ | refine W_seq_k fun K hK => ?_ | refine W_block_k fun K hK => ?_ | refine W_skip ?_ | refine W_ret ?_) | ((first | ((with_reducible refine W_id ?_); refine W_reg (by decide) (by rfl) ?_) | (with_reducible first | refine W_cond ?_ | refine hZ _ _ ?_ | refine W_exit ?_ | refine Wo_id ?_)); repeat1' simp only [push_cast, Nat.reduceBEq, Nat.reduceLT, Nat.reduceEqDiff, reduceIte, reduceCtorEq, Nat.reduceMul, Nat.reduceAdd, Nat.reduceSub, Int.reduceEq, Int.reduceLT, Int.reduceLE, Int.reduceNeg, Int.reduceAdd, Int.reduceSub, Int.reduceMul, Nat.reduceLeDiff, Int.reduceToNat]) | ((repeat ((fail_if_success with_reducible refine hK _ _ ?_); clear hK K)); (with_reducible refine hK _ _ ?_); clear hK K))))
  refine W_loop (S := Nat) (fun k => [(0, .pointer (some ⟨pr, 0, none⟩)), (1, .string s), (5, .int .i64 (if lastF (nameN L s) l (openN l) k < 0 then -1 else l.getD (lastF (nameN L s) l (openN l) k).toNat 0)), (6, .int .i64 (k : Int))])
    (fun k w1 => n0 ≤ k ∧ k ≤ l.length ∧ Ext w w1) (fun k => l.length - k) n0 ?_ ?_ ?_
  · have : lastF (nameN L s) l (openN l) n0 < 0 := by
      cases hz : n0 with
      | zero => simp [lastF]
      | succ n => rw [lastF, if_pos (by omega)]; decide
    rw [if_pos this]
    (repeat simp only [push_cast, Nat.reduceBEq, Nat.reduceLT, Nat.reduceEqDiff, reduceIte, reduceCtorEq, Nat.reduceMul, Nat.reduceAdd, Nat.reduceSub, Int.reduceEq, Int.reduceLT, Int.reduceLE, Int.reduceNeg, Int.reduceAdd, Int.reduceSub, Int.reduceMul, Nat.reduceLeDiff, Int.reduceToNat])
  · exact ⟨by omega, by omega, Ext.refl _⟩
  rintro k w1 ⟨hk0, hk, hx1⟩
  by_cases hkl : k < l.length
  · obtain ⟨y, hy⟩ : ∃ y, l[k]? = some y := ⟨_, List.getElem?_eq_getElem hkl⟩
    have hgd : l.getD k 0 = y := by simp [List.getD, hy]
    have hnm : y ≠ -1 := by
      have := lastF_after (p := fun i => decide (i = -1)) (l := l) (fr := 0) l.length k (by unfold openN at hn0; omega) hkl (by omega)
      rw [hgd] at this
      simpa using this
    obtain ⟨q, rfl, n, hn, _⟩ := (hv y (List.mem_of_getElem? hy)).resolve_left hnm
    have hxd := hx1.trans (Ext.drew w1)
    obtain ⟨b, o, rfl, _, c1, c2⟩ := hcell k _ hy
    have c1' := cell_ext hxd c1
    have c1'' := cell_ext hx1 c1
    rw [cell_h, if_neg hnm] at c1' c1''
    obtain ⟨bn, cap, t, hhd, hnode⟩ := (ha.ext hxd).nodes
    obtain ⟨m, m1, m2, m3⟩ := hnode q n hn
    obtain ⟨k0, k1, k2, k3, k4, k5, k6, k7, k8, k9, k10⟩ := Laid.read m3
    obtain ⟨xa, xn, xc, exa, _⟩ := m2.attrs.len
    obtain ⟨ya, yn, yc, eya, _⟩ := m2.kids.len
    rw [exa] at k4
    rw [eya] at k8
    have hhr := (h.ext hxd).head
    have hhr1 := (h.ext hx1).head
    have b0 : (k : Int) < (l.length : Int) := by omega
    have b1 : (0 : Int) ≤ (k : Int) := by omega
    have b2 : inI64 ((k : Int) + 1) := by unfold inI64; omega
    have b3 : (0 : Int) ≤ (q : Int) := by omega
    have b4 : (q : Int) < (L.length : Int) := by have := (List.getElem?_eq_some_iff.1 hn).1; omega
    have hname : nameN L s (q : Int) = decide (n.space = 0 ∧ n.name = s) := by
      unfold nameN nd?
      rw [if_pos (by omega), Int.toNat_natCast, hn]; rfl
    have hst : lastF (nameN L s) l (openN l) (k + 1) = if n.space = 0 ∧ n.name = s then (k : Int) else lastF (nameN L s) l (openN l) k := by
      rw [lastF, if_neg (by omega), hgd, hname]; simp
    have hgd2 : l.getD ((k : Int).toNat) 0 = (q : Int) := hgd
    generalize L.length = Ln at *
    (repeat (first | (with_reducible first | (refine hK _ _ ?_; clear hK K) | refine (show ∀ σ' w', _ → K σ' w' from by assumption) _ _ ?_ | refine W_seq_k fun K hK => ?_ | refine W_block_k fun K hK => ?_ | refine W_skip ?_ | refine W_ret ?_) | ((first | ((with_reducible refine W_id ?_); refine W_reg (by decide) (by rfl) ?_) | (with_reducible first | refine W_cond ?_ | refine hZ _ _ ?_ | refine W_exit ?_ | refine Wo_id ?_)); repeat1' simp only [push_cast, Nat.reduceBEq, Nat.reduceLT, Nat.reduceEqDiff, reduceIte, reduceCtorEq, Nat.reduceMul, Nat.reduceAdd, Nat.reduceSub, Int.reduceEq, Int.reduceLT, Int.reduceLE, Int.reduceNeg, Int.reduceAdd, Int.reduceSub, Int.reduceMul, Nat.reduceLeDiff, Int.reduceToNat, cell_h, cellO_cells, hhr1, b0]) | ((repeat ((fail_if_success with_reducible refine hK _ _ ?_); clear hK K)); (with_reducible refine hK _ _ ?_); clear hK K)))
    refine W_draw (.pas 0 (.pas 1 (.pas 2 (.pas 3 (.pas 4 (.pas 5 (.pas 6 (.pas 7 (.pas 8 (.pas 9 (.pas 10 (.pas 11 (.pas 12 (.pas 13 (.pas 14 (.pas 15 (.pas 16 (.act 17 (.last 18))))))))))))))))))) (fun b' => b' = pr ∨ b' = pb ∨ b' = b ∨ b' = bn) (by decide) mixed (by kernel_rfl) ?_
    generalize w1.drew = wd at *
    (repeat (first | ((first | refine pas_plain rfl ?_ | refine pas_g rfl rfl ?_ | refine act_plain rfl ?_ | refine act_g rfl rfl ?_ | refine last_plain rfl ?_ | refine tail_plain rfl ?_ | refine tail_g rfl rfl ?_); (repeat simp only [push_cast, Nat.reduceBEq, Nat.reduceLT, Nat.reduceEqDiff, reduceIte, reduceCtorEq, Nat.reduceMul, Nat.reduceAdd, Nat.reduceSub, Int.reduceEq, Int.reduceLT, Int.reduceLE, Int.reduceNeg, Int.reduceAdd, Int.reduceSub, Int.reduceMul, Nat.reduceLeDiff, Int.reduceToNat, eq_self, true_or, or_true, cell_h, cellO_cells, hhr, hhd, b0, b1, b3, b4, c1', k0, k1, k2, k3, k4, k5, k6, k7, k8, k9, k10])) | (refine tail_fin ?_) | (refine sch_fin ?_)))
    (repeat simp only [push_cast, Nat.reduceBEq, Nat.reduceLT, Nat.reduceEqDiff, reduceIte, reduceCtorEq, Nat.reduceMul, Nat.reduceAdd, Nat.reduceSub, Int.reduceEq, Int.reduceLT, Int.reduceLE, Int.reduceNeg, Int.reduceAdd, Int.reduceSub, Int.reduceMul, Nat.reduceLeDiff, Int.reduceToNat, RunV_zero Try.zeroValue30])
    have hlt : ∀ b', b' = pr ∨ b' = pb ∨ b' = b ∨ b' = bn → b' < wd.heap.size := by
      have x1 := blk_lt hhr
      have x2 := blk_lt hhd
      have x3 : b < wd.heap.size := by
        apply Classical.byContradiction
        intro hlt
        rw [Array.getElem?_eq_none (by omega)] at c1'
        cases c1'
      have x4 : bn < wd.heap.size := by
        apply Classical.byContradiction
        intro hlt
        rw [Array.getElem?_eq_none (by omega)] at k0
        cases k0
      rintro b' (rfl | rfl | rfl | rfl) <;> assumption
    refine ⟨kept_upd (Ext.alloc _ _) fun b' hb => ⟨hlt b' hb, id⟩, ?_⟩
    (repeat (first | ((first | refine pas_plain rfl ?_ | refine pas_g rfl rfl ?_ | refine act_plain rfl ?_ | refine act_g rfl rfl ?_ | refine last_plain rfl ?_ | refine tail_plain rfl ?_ | refine tail_g rfl rfl ?_); (repeat simp only [push_cast, Nat.reduceBEq, Nat.reduceLT, Nat.reduceEqDiff, reduceIte, reduceCtorEq, Nat.reduceMul, Nat.reduceAdd, Nat.reduceSub, Int.reduceEq, Int.reduceLT, Int.reduceLE, Int.reduceNeg, Int.reduceAdd, Int.reduceSub, Int.reduceMul, Nat.reduceLeDiff, Int.reduceToNat])) | (refine tail_fin ?_) | (refine sch_fin ?_)))
    simp only [vcells_agg, can_h, heap_alloc_h, if_true, canO_cells, List.size_toArray, List.length_cons, List.length_nil, Nat.zero_add, Nat.reduceAdd, Nat.reduceLT, true_and]
    have z6 : (wd.alloc (.cells #[.int .i64 0, .string ⟨#[]⟩, .string ⟨#[]⟩, .int .i64 0, .slice none 0 0, .bool false, .int .i64 0, .int .i64 0, .slice none 0 0, .int .i64 0, .int .i64 0] 30)).heap[wd.heap.size]? = some (.cells #[.int .i64 0, .string ⟨#[]⟩, .string ⟨#[]⟩, .int .i64 0, .slice none 0 0, .bool false, .int .i64 0, .int .i64 0, .slice none 0 0, .int .i64 0, .int .i64 0] 30 (0, 0)) := by rw [heap_alloc_h, if_pos rfl]
    have hp6 := setCells_all z6 (l := [.int .i64 m.nd.kind, .string m.nd.name, .string m.nd.text, .int .i64 m.nd.space, .slice xa xn xc, .bool m.nd.dup, .int .i64 m.nd.parent, .int .i64 m.nd.content, .slice ya yn yc, .int .i64 m.nd.frm, .int .i64 m.nd.to]) rfl
    have hx6 : Ext wd (setCells (wd.alloc (.cells #[.int .i64 0, .string ⟨#[]⟩, .string ⟨#[]⟩, .int .i64 0, .slice none 0 0, .bool false, .int .i64 0, .int .i64 0, .slice none 0 0, .int .i64 0, .int .i64 0] 30)) ⟨wd.heap.size, 0, none⟩ [.int .i64 m.nd.kind, .string m.nd.name, .string m.nd.text, .int .i64 m.nd.space, .slice xa xn xc, .bool m.nd.dup, .int .i64 m.nd.parent, .int .i64 m.nd.content, .slice ya yn yc, .int .i64 m.nd.frm, .int .i64 m.nd.to] 0) := Upd.trans (Ext.alloc wd _) (Upd.setCells (F := fun b => b = wd.heap.size) (a := ⟨wd.heap.size, 0, none⟩) _ rfl _ 0) fun i hi e => by omega
    generalize setCells (wd.alloc (.cells #[.int .i64 0, .string ⟨#[]⟩, .string ⟨#[]⟩, .int .i64 0, .slice none 0 0, .bool false, .int .i64 0, .int .i64 0, .slice none 0 0, .int .i64 0, .int .i64 0] 30)) ⟨wd.heap.size, 0, none⟩ [.int .i64 m.nd.kind, .string m.nd.name, .string m.nd.text, .int .i64 m.nd.space, .slice xa xn xc, .bool m.nd.dup, .int .i64 m.nd.parent, .int .i64 m.nd.content, .slice ya yn yc, .int .i64 m.nd.frm, .int .i64 m.nd.to] 0 = w6 at *
    obtain ⟨p8, hp8⟩ : ∃ p8, p8 = wd.heap.size := ⟨_, rfl⟩
    rw [← hp8] at hp6 ⊢
    have hx7 := hxd.trans hx6
    have hhr6 := hx6.blk hhr
    have c6 := cell_ext hx7 c1
    rw [cell_h, if_neg hnm] at c6
    by_cases hsp : n.space = 0
    · by_cases hsn : n.name = s
      · rw [if_pos ⟨hsp, hsn⟩] at hst
        have hsp' : m.nd.space = 0 := by rw [m1]; exact hsp
        have hsn' : m.nd.name = s := by rw [m1]; exact hsn
        ((repeat simp only [push_cast, Nat.reduceBEq, Nat.reduceLT, Nat.reduceEqDiff, reduceIte, reduceCtorEq, Nat.reduceMul, Nat.reduceAdd, Nat.reduceSub, Int.reduceEq, Int.reduceLT, Int.reduceLE, Int.reduceNeg, Int.reduceAdd, Int.reduceSub, Int.reduceMul, Nat.reduceLeDiff, Int.reduceToNat, cell_h, can_h, cellO_cells, canO_cells, setO_cells, heap_set_h, heap_alloc_h, size_set_h, size_alloc_h, vcells_agg, succ_ne, ne_succ, List.setIfInBounds_toArray, List.set_cons_succ, List.set_cons_zero, setCells, drew_h, hp6, hhr6, c6, b0, b1, b2, hsp', hsn', decide_true, eq_self]); (repeat (first | (with_reducible first | (refine hK _ _ ?_; clear hK K) | refine (show ∀ σ' w', _ → K σ' w' from by assumption) _ _ ?_ | refine W_seq_k fun K hK => ?_ | refine W_block_k fun K hK => ?_ | refine W_skip ?_ | refine W_ret ?_) | ((first | ((with_reducible refine W_id ?_); refine W_reg (by decide) (by rfl) ?_) | (with_reducible first | refine W_cond ?_ | refine hZ _ _ ?_ | refine W_exit ?_ | refine Wo_id ?_)); repeat1' simp only [push_cast, Nat.reduceBEq, Nat.reduceLT, Nat.reduceEqDiff, reduceIte, reduceCtorEq, Nat.reduceMul, Nat.reduceAdd, Nat.reduceSub, Int.reduceEq, Int.reduceLT, Int.reduceLE, Int.reduceNeg, Int.reduceAdd, Int.reduceSub, Int.reduceMul, Nat.reduceLeDiff, Int.reduceToNat, cell_h, can_h, cellO_cells, canO_cells, setO_cells, heap_set_h, heap_alloc_h, size_set_h, size_alloc_h, vcells_agg, succ_ne, ne_succ, List.setIfInBounds_toArray, List.set_cons_succ, List.set_cons_zero, setCells, drew_h, hp6, hhr6, c6, b0, b1, b2, hsp', hsn', decide_true, eq_self]) | ((repeat ((fail_if_success with_reducible refine hK _ _ ?_); clear hK K)); (with_reducible refine hK _ _ ?_); clear hK K))))
        refine ⟨k + 1, by omega, ?_⟩
        rw [hst, if_neg (by omega), hgd2]
        (repeat simp only [push_cast, Nat.reduceBEq, Nat.reduceLT, Nat.reduceEqDiff, reduceIte, reduceCtorEq, Nat.reduceMul, Nat.reduceAdd, Nat.reduceSub, Int.reduceEq, Int.reduceLT, Int.reduceLE, Int.reduceNeg, Int.reduceAdd, Int.reduceSub, Int.reduceMul, Nat.reduceLeDiff, Int.reduceToNat])
        exact ⟨by omega, by omega, hx7⟩
      · rw [if_neg (fun h => hsn h.2)] at hst
        have hsp' : m.nd.space = 0 := by rw [m1]; exact hsp
        have hsn' : ¬ m.nd.name = s := by rw [m1]; exact hsn
        ((repeat simp only [push_cast, Nat.reduceBEq, Nat.reduceLT, Nat.reduceEqDiff, reduceIte, reduceCtorEq, Nat.reduceMul, Nat.reduceAdd, Nat.reduceSub, Int.reduceEq, Int.reduceLT, Int.reduceLE, Int.reduceNeg, Int.reduceAdd, Int.reduceSub, Int.reduceMul, Nat.reduceLeDiff, Int.reduceToNat, cell_h, can_h, cellO_cells, canO_cells, setO_cells, heap_set_h, heap_alloc_h, size_set_h, size_alloc_h, vcells_agg, succ_ne, ne_succ, List.setIfInBounds_toArray, List.set_cons_succ, List.set_cons_zero, setCells, drew_h, hp6, hhr6, c6, b0, b1, b2, hsp', hsn', decide_true, decide_false, eq_self]); (repeat (first | (with_reducible first | (refine hK _ _ ?_; clear hK K) | refine (show ∀ σ' w', _ → K σ' w' from by assumption) _ _ ?_ | refine W_seq_k fun K hK => ?_ | refine W_block_k fun K hK => ?_ | refine W_skip ?_ | refine W_ret ?_) | ((first | ((with_reducible refine W_id ?_); refine W_reg (by decide) (by rfl) ?_) | (with_reducible first | refine W_cond ?_ | refine hZ _ _ ?_ | refine W_exit ?_ | refine Wo_id ?_)); repeat1' simp only [push_cast, Nat.reduceBEq, Nat.reduceLT, Nat.reduceEqDiff, reduceIte, reduceCtorEq, Nat.reduceMul, Nat.reduceAdd, Nat.reduceSub, Int.reduceEq, Int.reduceLT, Int.reduceLE, Int.reduceNeg, Int.reduceAdd, Int.reduceSub, Int.reduceMul, Nat.reduceLeDiff, Int.reduceToNat, cell_h, can_h, cellO_cells, canO_cells, setO_cells, heap_set_h, heap_alloc_h, size_set_h, size_alloc_h, vcells_agg, succ_ne, ne_succ, List.setIfInBounds_toArray, List.set_cons_succ, List.set_cons_zero, setCells, drew_h, hp6, hhr6, c6, b0, b1, b2, hsp', hsn', decide_true, decide_false, eq_self]) | ((repeat ((fail_if_success with_reducible refine hK _ _ ?_); clear hK K)); (with_reducible refine hK _ _ ?_); clear hK K))))
        refine ⟨k + 1, by omega, ?_⟩
        rw [hst]
        (repeat simp only [push_cast, Nat.reduceBEq, Nat.reduceLT, Nat.reduceEqDiff, reduceIte, reduceCtorEq, Nat.reduceMul, Nat.reduceAdd, Nat.reduceSub, Int.reduceEq, Int.reduceLT, Int.reduceLE, Int.reduceNeg, Int.reduceAdd, Int.reduceSub, Int.reduceMul, Nat.reduceLeDiff, Int.reduceToNat])
        exact ⟨by omega, by omega, hx7⟩
    · rw [if_neg (fun h => hsp h.1)] at hst
      have hsp' : ¬ m.nd.space = 0 := by rw [m1]; exact hsp
      ((repeat simp only [push_cast, Nat.reduceBEq, Nat.reduceLT, Nat.reduceEqDiff, reduceIte, reduceCtorEq, Nat.reduceMul, Nat.reduceAdd, Nat.reduceSub, Int.reduceEq, Int.reduceLT, Int.reduceLE, Int.reduceNeg, Int.reduceAdd, Int.reduceSub, Int.reduceMul, Nat.reduceLeDiff, Int.reduceToNat, cell_h, can_h, cellO_cells, canO_cells, setO_cells, heap_set_h, heap_alloc_h, size_set_h, size_alloc_h, vcells_agg, succ_ne, ne_succ, List.setIfInBounds_toArray, List.set_cons_succ, List.set_cons_zero, setCells, drew_h, hp6, hhr6, c6, b0, b1, b2, hsp', decide_true, decide_false, eq_self]); (repeat (first | (with_reducible first | (refine hK _ _ ?_; clear hK K) | refine (show ∀ σ' w', _ → K σ' w' from by assumption) _ _ ?_ | refine W_seq_k fun K hK => ?_ | refine W_block_k fun K hK => ?_ | refine W_skip ?_ | refine W_ret ?_) | ((first | ((with_reducible refine W_id ?_); refine W_reg (by decide) (by rfl) ?_) | (with_reducible first | refine W_cond ?_ | refine hZ _ _ ?_ | refine W_exit ?_ | refine Wo_id ?_)); repeat1' simp only [push_cast, Nat.reduceBEq, Nat.reduceLT, Nat.reduceEqDiff, reduceIte, reduceCtorEq, Nat.reduceMul, Nat.reduceAdd, Nat.reduceSub, Int.reduceEq, Int.reduceLT, Int.reduceLE, Int.reduceNeg, Int.reduceAdd, Int.reduceSub, Int.reduceMul, Nat.reduceLeDiff, Int.reduceToNat, cell_h, can_h, cellO_cells, canO_cells, setO_cells, heap_set_h, heap_alloc_h, size_set_h, size_alloc_h, vcells_agg, succ_ne, ne_succ, List.setIfInBounds_toArray, List.set_cons_succ, List.set_cons_zero, setCells, drew_h, hp6, hhr6, c6, b0, b1, b2, hsp', decide_true, decide_false, eq_self]) | ((repeat ((fail_if_success with_reducible refine hK _ _ ?_); clear hK K)); (with_reducible refine hK _ _ ?_); clear hK K))))
      refine ⟨k + 1, by omega, ?_⟩
      rw [hst]
      (repeat simp only [push_cast, Nat.reduceBEq, Nat.reduceLT, Nat.reduceEqDiff, reduceIte, reduceCtorEq, Nat.reduceMul, Nat.reduceAdd, Nat.reduceSub, Int.reduceEq, Int.reduceLT, Int.reduceLE, Int.reduceNeg, Int.reduceAdd, Int.reduceSub, Int.reduceMul, Nat.reduceLeDiff, Int.reduceToNat])
      exact ⟨by omega, by omega, hx7⟩
  · have hke : k = l.length := by omega
    subst hke
    have b0 : ¬ (l.length : Int) < (l.length : Int) := by omega
    have hhr1 := (h.ext hx1).head
    (repeat (first | (with_reducible first | (refine hK _ _ ?_; clear hK K) | refine (show ∀ σ' w', _ → K σ' w' from by assumption) _ _ ?_ | refine W_seq_k fun K hK => ?_ | refine W_block_k fun K hK => ?_ | refine W_skip ?_ | refine W_ret ?_) | ((first | ((with_reducible refine W_id ?_); refine W_reg (by decide) (by rfl) ?_) | (with_reducible first | refine W_cond ?_ | refine hZ _ _ ?_ | refine W_exit ?_ | refine Wo_id ?_)); repeat1' simp only [push_cast, Nat.reduceBEq, Nat.reduceLT, Nat.reduceEqDiff, reduceIte, reduceCtorEq, Nat.reduceMul, Nat.reduceAdd, Nat.reduceSub, Int.reduceEq, Int.reduceLT, Int.reduceLE, Int.reduceNeg, Int.reduceAdd, Int.reduceSub, Int.reduceMul, Nat.reduceLeDiff, Int.reduceToNat, cell_h, cellO_cells, hhr1, b0]) | ((repeat ((fail_if_success with_reducible refine hK _ _ ?_); clear hK K)); (with_reducible refine hK _ _ ?_); clear hK K)))
    exact ⟨rfl, hx1⟩
end
end Go.Proofs.Ytkafpameheohdaa
end
section
set_option linter.unusedSimpArgs false
set_option linter.unusedVariables false
namespace Go.Vk
open Go
def gS (S : Nat → Prop) (w w' : World) (b : Nat) : Prop := S b ∨ (w.heap.size ≤ b ∧ b < w'.heap.size)
/-- a part of a slice, as it is read -/
theorem SlAt.cut {w : World} {es b o n c : Nat} {cells : List Value} {bo : Option Nat} (h : SlAt w es (.slice (some ⟨b, o, none⟩) n c) cells bo) {lo hi : Nat} (h1 : lo ≤ hi) (h2 : hi ≤ n) {a' : Option Addr} (ha : c - lo ≠ 0 → a' = some ⟨b, o + lo * es, none⟩) :
    RdAt w es (.slice a' (hi - lo) (c - lo)) ((cells.drop (lo * es)).take ((hi - lo) * es)) := by
  obtain ⟨_, h3, h4, _⟩ := h.inv
  by_cases hc : c - lo = 0
  · have : hi - lo = 0 := by omega
    rw [this]
    exact ⟨a', 0, _, rfl, by omega, by simp, fun i u hu => by simp at hu⟩
  · have := (h.part h1 h2 (m := c) (by omega) (Nat.le_refl _)).rd
    rwa [ha hc]
theorem rl_same {w w2 : World} {S F : Nat → Prop} {pr pb : Nat} {L : List Nd} {l l' : List Int} {lv : Value} {bo : Option Nat} (h1 : RLs w pr pb lv l bo) (h2 : Ar w pb L F) (h3 : ∀ b, F b → S b ∧ b ≠ pr ∧ bo ≠ some b) (h4 : S pr) (h5 : ∀ b, bo = some b → S b)
    (g1 : SlAt w2 2 lv (entCells l') bo) (g2 : Upd (fun b => bo = some b) w w2) : RL w2 (gS S w w2) pr pb L l' ∧ Upd S w w2 :=
  ⟨⟨lv, bo, F, ⟨(g2.same pr (blk_lt h1.head) h1.ne).trans h1.head, g1, h1.ne⟩, h2.frame g2 fun b hf e => (h3 b hf).2.2 e, fun b hf => ⟨.inl (h3 b hf).1, (h3 b hf).2⟩, .inl h4, fun b hb => .inl (h5 b hb)⟩, g2.mono fun b _ e => h5 b e⟩
theorem entCells_set : ∀ (l : List Int) (k : Nat) (i : Int), i ≠ -1 → ((entCells l).set (k * 2) (.int .i64 i)).set (k * 2 + 1) (.bool false) = entCells (l.set k i)
  | [], k, i, _ => by simp [entCells]
  | z :: l, 0, i, h => by simp [entCells, entOf, h]
  | z :: l, k + 1, i, h => by
    have e : entCells (z :: l) = [.int .i64 (if z = -1 then 0 else z), .bool (decide (z = -1))] ++ entCells l := by simp [entCells, entOf]
    have e2 : entCells ((z :: l).set (k + 1) i) = [.int .i64 (if z = -1 then 0 else z), .bool (decide (z = -1))] ++ entCells (l.set k i) := by simp [entCells, entOf]
    rw [e, e2, ← entCells_set l k i h, show (k + 1) * 2 = k * 2 + 1 + 1 by omega]
    rfl
theorem SlAt.pre {w : World} {es n c : Nat} {a : Option Addr} {cells : List Value} {bo : Option Nat} (h : SlAt w es (.slice a n c) cells bo) {hi : Nat} (h2 : hi ≤ n) :
    RdAt w es (.slice (if c = 0 then a else Option.map (fun x => x.add 0) a) hi c) (cells.take (hi * es)) := by
  obtain ⟨a', n', c', e, h3, h4, h5⟩ := h.rd
  cases e
  refine ⟨_, hi, c, rfl, by omega, ?_, fun i u hu => ?_⟩
  · rw [List.length_take, h4]
    have := Nat.mul_le_mul_right es h2
    omega
  · rw [List.getElem?_take] at hu
    split at hu
    · obtain ⟨b, o, e, h6⟩ := h5 i u hu
      subst e
      refine ⟨b, o, ?_, h6⟩
      split
      · rfl
      · simp [add_mk]
    · cases hu
theorem SlAt.suf {w : World} {es n c : Nat} {a : Option Addr} {cells : List Value} {bo : Option Nat} (h : SlAt w es (.slice a n c) cells bo) {k : Nat} (hk : k ≤ n) {a' : Option Addr} (ha : c ≠ k → a' = Option.map (fun x => x.add (k * es)) a) :
    RdAt w es (.slice a' (n - k) (c - k)) (cells.drop (k * es)) := by
  obtain ⟨a0, n0, c0, e, h3, h4, h5⟩ := h.rd
  cases e
  refine ⟨a', n - k, c - k, rfl, by omega, by rw [List.length_drop, h4, Nat.sub_mul], fun i u hu => ?_⟩
  rw [List.getElem?_drop] at hu
  obtain ⟨b, o, e, h6⟩ := h5 _ u hu
  have hl := (List.getElem?_eq_some_iff.1 hu).1
  rw [h4] at hl
  have hkn : k < n := by
    apply Classical.byContradiction
    intro hge
    have := Nat.mul_le_mul_right es (show n ≤ k by omega)
    omega
  refine ⟨b, o + k * es, ?_, by rw [Nat.add_assoc]; exact h6⟩
  rw [ha (by omega), e]
  simp [add_mk]
theorem rl_put {G : Nat → Prop} {w w2 : World} {S F : Nat → Prop} {pr pb : Nat} {L : List Nd} {l l' : List Int} {lv u : Value} {bo bo' : Option Nat} (h1 : RLs w pr pb lv l bo) (h2 : Ar w pb L F) (h3 : ∀ b, F b → S b ∧ b ≠ pr ∧ bo ≠ some b) (h4 : S pr) (h5 : ∀ b, bo = some b → S b)
    (g1 : SlAt w2 2 u (entCells l') bo') (g2 : Upd G w w2) (hG : ∀ b, b < w.heap.size → G b → bo = some b) (g3 : ∀ b, bo' = some b → bo = some b ∨ w.heap.size ≤ b) :
    canStore w2 ⟨pr, 1, none⟩ ∧ RL (w2.setCell ⟨pr, 1, none⟩ u) (gS S w (w2.setCell ⟨pr, 1, none⟩ u)) pr pb L l' ∧ Upd S w (w2.setCell ⟨pr, 1, none⟩ u) := by
  have hlt := blk_lt h1.head
  have hnb : ¬ bo = some pr := h1.ne
  have hp2 := (g2.same pr hlt fun hg => hnb (hG _ hlt hg)).trans h1.head
  have hne' : bo' ≠ some pr := fun e => by
    rcases g3 pr e with h | h
    · exact hnb h
    · omega
  have up : Upd (fun b => b = pr) w2 (w2.setCell ⟨pr, 1, none⟩ u) := Upd.setCell (F := fun b => b = pr) (a := ⟨pr, 1, none⟩) w2 rfl u
  have hA := (h2.mono (G := fun b => F b ∧ b < w.heap.size) fun b hb hf => ⟨hf, hb⟩).frame g2 fun b hf hg => (h3 b hf.1).2.2 (hG b hf.2 hg)
  refine ⟨by rw [can_h, hp2, canO_cells]; exact Nat.lt_succ_self 1, ⟨u, bo', fun b => F b ∧ b < w.heap.size, ⟨?_, g1.upd up fun b hb e => hne' (by rw [hb, e]), hne'⟩, hA.frame up fun b hf e => (h3 b hf.1).2.1 e, fun b hf => ⟨.inl (h3 b hf.1).1, (h3 b hf.1).2.1, fun e => ?_⟩, .inl h4, fun b hb => ?_⟩, ?_⟩
  · rw [heap_set_h, if_pos rfl, hp2]; rfl
  · rcases g3 b e with h | h
    · exact (h3 b hf.1).2.2 h
    · have := hf.2; omega
  · rcases g3 b hb with h | h
    · exact .inl (h5 b h)
    · refine .inr ⟨h, ?_⟩
      rw [size_set_h]
      subst hb; exact g1.lt
  · exact Upd.trans (g2.mono fun b hb e => h5 b (hG b hb e)) up fun b _ e => e ▸ h4
end Go.Vk
namespace Go.Proofs.Ytkafpameheohdaa
open Go Go.Vk
theorem sty76 : STy Try.prog 76 105 2 := ⟨Try.underlying76, fun w => by simp [Try.sizeOf105, Sem.run], fun w => ⟨_, by simp [Try.typeInfo105, Sem.run]; rfl, by decide, by decide⟩, fun w => ⟨_, by simp [Try.zeroValue105, Sem.run]; rfl, by decide⟩⟩
set_option maxHeartbeats 40000000
section
variable {w : World} {S : Nat → Prop} {pr pb : Nat} {L : List Nd} {l : List Int}
theorem rwithout_c (h : RL w S pr pb L l) (hl : l.length < 100000) (k : Nat) (hk : k < l.length) : Gives Try.prog 91 #[.pointer (some ⟨pr, 0, none⟩), .int .i64 (k : Int)] w fun v w' => RL w' (gS S w w') pr pb L (l.eraseIdx k) ∧ Upd S w w' := by
  obtain ⟨lv, bo, F, h1, h2, h3, h4, h5⟩ := h
  obtain ⟨a, c, rfl, hc, hcell⟩ := ents_len h1.sl
  obtain ⟨y, hy⟩ : ∃ y, l[k]? = some y := ⟨_, List.getElem?_eq_getElem hk⟩
  obtain ⟨b, o, rfl, hbo, _, _⟩ := hcell k _ hy
  have hxd := Ext.drew w
  have hhr := (h1.ext hxd).head
  have hsl := (h1.ext hxd).sl
  have b0 : (0 : Int) ≤ (k : Int) := by omega
  have b1 : (k : Int) ≤ (c : Int) := by omega
  have b2 : inI64 ((k : Int) + 1) := by unfold inI64; omega
  have b3 : (0 : Int) ≤ (k : Int) + 1 := by omega
  have b4 : (k : Int) + 1 ≤ (l.length : Int) := by omega
  refine Gives.of_W Try.call91 Try.func91 rfl Try.ntmps91 (by simp) ?_; intro Z hZ
  refine W_draw (.pas 0 (.pas 1 (.pas 2 (.pas 3 (.pas 4 (.pas 5 (.pas 6 (.pas 8 (.pas 9 (.pas 10 (.pas 11 (.pas 12 (.pas 13 (.pas 14 (.act 7 (.act 15 (.pas 16 (.pas 17 (.last 18))))))))))))))))))) (fun b' => b' = pr) (by decide) mixed (by kernel_rfl) ?_
  generalize w.drew = wd at *
  (repeat (first | ((first | refine pas_plain rfl ?_ | refine pas_g rfl rfl ?_ | refine act_plain rfl ?_ | refine act_g rfl rfl ?_ | refine last_plain rfl ?_ | refine tail_plain rfl ?_ | refine tail_g rfl rfl ?_); (repeat simp only [push_cast, Nat.reduceBEq, Nat.reduceLT, Nat.reduceEqDiff, reduceIte, reduceCtorEq, Nat.reduceMul, Nat.reduceAdd, Nat.reduceSub, Int.reduceEq, Int.reduceLT, Int.reduceLE, Int.reduceNeg, Int.reduceAdd, Int.reduceSub, Int.reduceMul, Nat.reduceLeDiff, Int.reduceToNat, eq_self, cell_h, cellO_cells, hhr, b0, b1, b2, b3, b4])) | (refine tail_fin ?_) | (refine sch_fin ?_)))
  refine app_to_rd sty76 sty76.und (by decide) (SlAt.nil wd 2) (hsl.cut (lo := 0) (hi := k) (by omega) (by omega) fun hne => by rw [if_neg (by omega)]; simp [add_mk]) ?_ ?_ ?_
  · rw [Nat.zero_mul, List.drop_zero, Nat.sub_zero, entCells_take]; exact entCells_one _
  · simp [entCells_length]; omega
  intro v w2 bo2 g1 g2 g3
  rw [Nat.zero_mul, List.drop_zero, Nat.sub_zero, entCells_take, List.nil_append] at g1
  have hx2 : Ext wd w2 := g2.mono fun b _ e => by cases e
  have hprl := blk_lt hhr
  refine ⟨kept_upd hx2 fun b' hb => ⟨by have : b' = pr := hb; omega, id⟩, ?_⟩
  have hhr2 := hx2.blk hhr
  (repeat (first | ((first | refine pas_plain rfl ?_ | refine pas_g rfl rfl ?_ | refine act_plain rfl ?_ | refine act_g rfl rfl ?_ | refine last_plain rfl ?_ | refine tail_plain rfl ?_ | refine tail_g rfl rfl ?_); (repeat simp only [push_cast, Nat.reduceBEq, Nat.reduceLT, Nat.reduceEqDiff, reduceIte, reduceCtorEq, Nat.reduceMul, Nat.reduceAdd, Nat.reduceSub, Int.reduceEq, Int.reduceLT, Int.reduceLE, Int.reduceNeg, Int.reduceAdd, Int.reduceSub, Int.reduceMul, Nat.reduceLeDiff, Int.reduceToNat, eq_self, cell_h, cellO_cells, hhr2, b0, b1, b2, b3, b4])) | (refine tail_fin ?_) | (refine sch_fin ?_)))
  have e1 : ((k : Int) + 1).toNat = k + 1 := by omega
  rw [e1]
  have et : List.take ((l.length - (k + 1)) * 2) (entCells (l.drop (k + 1))) = entCells (l.drop (k + 1)) := List.take_of_length_le (by rw [entCells_length]; simp)
  refine app_to_rd sty76 sty76.und (by decide) g1 ((hsl.ext hx2).cut (lo := k + 1) (hi := l.length) (by omega) (by omega) fun hne => by rw [if_neg (by omega)]; simp [add_mk]) ?_ ?_ ?_
  · rw [entCells_drop, et]; exact entCells_one _
  · simp [entCells_length]; omega
  intro v' w3 bo3 k1 k2 k3
  rw [entCells_drop, et, ← entCells_append, ← List.eraseIdx_eq_take_drop_succ] at k1
  have hs2 := hxd.alike.size
  have hs3 := hx2.alike.size
  have hx3 : Ext w w3 := Upd.trans (hxd.trans hx2) k2 fun b hb e => by
    rcases g3 b e with h | h
    · cases h
    · omega
  have hprw := blk_lt h1.head
  refine ⟨kept_upd k2 fun b' hb => ⟨by have : b' = pr := hb; omega, fun e => ?_⟩, ?_⟩
  · have hb' : b' = pr := hb
    rcases g3 b' e with h | h
    · cases h
    · omega
  obtain ⟨p1, p2, p3⟩ := rl_put h1 h2 h3 h4 h5 k1 hx3 (fun b _ hf => hf.elim) fun b hb => by
    rcases k3 b hb with h | h
    · rcases g3 b h with h | h
      · cases h
      · exact .inr (by omega)
    · exact .inr (by omega)
  have hvs : ∃ x y z, v' = .slice x y z := by obtain ⟨x, y, z, e, _⟩ := k1.len; exact ⟨x, y, z, e⟩
  obtain ⟨x, y', z, e⟩ := hvs
  subst e
  (repeat (first | ((first | refine pas_plain rfl ?_ | refine pas_g rfl rfl ?_ | refine act_plain rfl ?_ | refine act_g rfl rfl ?_ | refine last_plain rfl ?_ | refine tail_plain rfl ?_ | refine tail_g rfl rfl ?_); (repeat simp only [push_cast, Nat.reduceBEq, Nat.reduceLT, Nat.reduceEqDiff, reduceIte, reduceCtorEq, Nat.reduceMul, Nat.reduceAdd, Nat.reduceSub, Int.reduceEq, Int.reduceLT, Int.reduceLE, Int.reduceNeg, Int.reduceAdd, Int.reduceSub, Int.reduceMul, Nat.reduceLeDiff, Int.reduceToNat, p1])) | (refine tail_fin ?_) | (refine sch_fin ?_)))
  ((repeat simp only [push_cast, Nat.reduceBEq, Nat.reduceLT, Nat.reduceEqDiff, reduceIte, reduceCtorEq, Nat.reduceMul, Nat.reduceAdd, Nat.reduceSub, Int.reduceEq, Int.reduceLT, Int.reduceLE, Int.reduceNeg, Int.reduceAdd, Int.reduceSub, Int.reduceMul, Nat.reduceLeDiff, Int.reduceToNat]); (repeat (first | (with_reducible first | (refine hK _ _ ?_; clear hK K) | refine (show ∀ σ' w', _ → K σ' w' from by assumption) _ _ ?_ | refine W_seq_k fun K hK => ?_ | refine W_block_k fun K hK => ?_ | refine W_skip ?_ | refine W_ret ?_) | ((first | ((with_reducible refine W_id ?_); refine W_reg (by decide) (by rfl) ?_) | (with_reducible first | refine W_cond ?_ | refine hZ _ _ ?_ | refine W_exit ?_ | refine Wo_id ?_)); repeat1' simp only [push_cast, Nat.reduceBEq, Nat.reduceLT, Nat.reduceEqDiff, reduceIte, reduceCtorEq, Nat.reduceMul, Nat.reduceAdd, Nat.reduceSub, Int.reduceEq, Int.reduceLT, Int.reduceLE, Int.reduceNeg, Int.reduceAdd, Int.reduceSub, Int.reduceMul, Nat.reduceLeDiff, Int.reduceToNat]) | ((repeat ((fail_if_success with_reducible refine hK _ _ ?_); clear hK K)); (with_reducible refine hK _ _ ?_); clear hK K))))
  exact ⟨p2, p3⟩
theorem pl105 (w : World) : ((fsOf Try.prog 105).mapM plOf).run Try.prog w = .ok #[(0,1),(1,1)] w := by
  simp [fsOf, plOf, Try.underlying105, Sem.run, Try.sizeOf3, Try.sizeOf4]
theorem un105 : Try.prog.underlying 105 = some (.struct (fsOf Try.prog 105)) := by rw [fsOf, Try.underlying105]
theorem rmark_c (h : RL w S pr pb L l) (hl : l.length < 100000) : Gives Try.prog 75 #[.pointer (some ⟨pr, 0, none⟩)] w fun v w' => v = .int .i64 (layN l l.length (-1)).2 ∧ RL w' (gS S w w') pr pb L (layN l l.length (-1)).1 ∧ Upd S w w' := by
  have hR := h
  obtain ⟨lv, bo, F, h1, h2, h3, h4, h5⟩ := h
  obtain ⟨a, c, rfl, hc, hcell⟩ := ents_len h1.sl
  have hhr := h1.head
  by_cases hb : 64 ≤ l.length
  · have b0 : (64 : Int) ≤ (l.length : Int) := by omega
    refine Gives.of_W Try.call75 Try.func75 rfl Try.ntmps75 (by simp) ?_; intro Z hZ
    (repeat (first | (with_reducible first | (refine hK _ _ ?_; clear hK K) | refine (show ∀ σ' w', _ → K σ' w' from by assumption) _ _ ?_ | refine W_seq_k fun K hK => ?_ | refine W_block_k fun K hK => ?_ | refine W_skip ?_ | refine W_ret ?_) | ((first | ((with_reducible refine W_id ?_); refine W_reg (by decide) (by rfl) ?_) | (with_reducible first | refine W_cond ?_ | refine hZ _ _ ?_ | refine W_exit ?_ | refine Wo_id ?_)); repeat1' simp only [push_cast, Nat.reduceBEq, Nat.reduceLT, Nat.reduceEqDiff, reduceIte, reduceCtorEq, Nat.reduceMul, Nat.reduceAdd, Nat.reduceSub, Int.reduceEq, Int.reduceLT, Int.reduceLE, Int.reduceNeg, Int.reduceAdd, Int.reduceSub, Int.reduceMul, Nat.reduceLeDiff, Int.reduceToNat, cell_h, cellO_cells, hhr, b0]) | ((repeat ((fail_if_success with_reducible refine hK _ _ ?_); clear hK K)); (with_reducible refine hK _ _ ?_); clear hK K)))
    unfold layN; rw [if_pos hb]
    exact ⟨rfl, hR.upd (Upd.refl none_ _) (fun _ _ => id) fun _ => .inl, Upd.refl _ _⟩
  · have b0 : ¬ (64 : Int) ≤ (l.length : Int) := by omega
    rw [lay_end _ _ (by omega)]
    refine Gives.of_W Try.call75 Try.func75 rfl Try.ntmps75 (by simp) ?_; intro Z hZ
    (repeat (first | (with_reducible first | (refine hK _ _ ?_; clear hK K) | refine (show ∀ σ' w', _ → K σ' w' from by assumption) _ _ ?_ | refine W_seq_k fun K hK => ?_ | refine W_block_k fun K hK => ?_ | refine W_skip ?_ | refine W_ret ?_) | ((first | ((with_reducible refine W_id ?_); refine W_reg (by decide) (by rfl) ?_) | (with_reducible first | refine W_cond ?_ | refine hZ _ _ ?_ | refine W_exit ?_ | refine Wo_id ?_)); repeat1' simp only [push_cast, Nat.reduceBEq, Nat.reduceLT, Nat.reduceEqDiff, reduceIte, reduceCtorEq, Nat.reduceMul, Nat.reduceAdd, Nat.reduceSub, Int.reduceEq, Int.reduceLT, Int.reduceLE, Int.reduceNeg, Int.reduceAdd, Int.reduceSub, Int.reduceMul, Nat.reduceLeDiff, Int.reduceToNat, cell_h, cellO_cells, hhr, b0]) | ((repeat ((fail_if_success with_reducible refine hK _ _ ?_); clear hK K)); (with_reducible refine hK _ _ ?_); clear hK K)))
    refine build_struct Try.zeroValue105 un105 pl105 (cs := #[.int .i64 0, .bool true]) (by rfl) ?_
    ((repeat simp only [push_cast, Nat.reduceBEq, Nat.reduceLT, Nat.reduceEqDiff, reduceIte, reduceCtorEq, Nat.reduceMul, Nat.reduceAdd, Nat.reduceSub, Int.reduceEq, Int.reduceLT, Int.reduceLE, Int.reduceNeg, Int.reduceAdd, Int.reduceSub, Int.reduceMul, Nat.reduceLeDiff, Int.reduceToNat]); (repeat (first | (with_reducible first | (refine hK _ _ ?_; clear hK K) | refine (show ∀ σ' w', _ → K σ' w' from by assumption) _ _ ?_ | refine W_seq_k fun K hK => ?_ | refine W_block_k fun K hK => ?_ | refine W_skip ?_ | refine W_ret ?_) | ((first | ((with_reducible refine W_id ?_); refine W_reg (by decide) (by rfl) ?_) | (with_reducible first | refine W_cond ?_ | refine hZ _ _ ?_ | refine W_exit ?_ | refine Wo_id ?_)); repeat1' simp only [push_cast, Nat.reduceBEq, Nat.reduceLT, Nat.reduceEqDiff, reduceIte, reduceCtorEq, Nat.reduceMul, Nat.reduceAdd, Nat.reduceSub, Int.reduceEq, Int.reduceLT, Int.reduceLE, Int.reduceNeg, Int.reduceAdd, Int.reduceSub, Int.reduceMul, Nat.reduceLeDiff, Int.reduceToNat]) | ((repeat ((fail_if_success with_reducible refine hK _ _ ?_); clear hK K)); (with_reducible refine hK _ _ ?_); clear hK K))))
    refine bs_one sty76 (by decide) (by decide) (v := .agg #[.int .i64 0, .bool true]) rfl ?_
    have hx := Ext.alloc w (.cells (Value.agg #[.int .i64 0, .bool true]).cells 105)
    ((repeat simp only [push_cast, Nat.reduceBEq, Nat.reduceLT, Nat.reduceEqDiff, reduceIte, reduceCtorEq, Nat.reduceMul, Nat.reduceAdd, Nat.reduceSub, Int.reduceEq, Int.reduceLT, Int.reduceLE, Int.reduceNeg, Int.reduceAdd, Int.reduceSub, Int.reduceMul, Nat.reduceLeDiff, Int.reduceToNat]); (repeat (first | (with_reducible first | (refine hK _ _ ?_; clear hK K) | refine (show ∀ σ' w', _ → K σ' w' from by assumption) _ _ ?_ | refine W_seq_k fun K hK => ?_ | refine W_block_k fun K hK => ?_ | refine W_skip ?_ | refine W_ret ?_) | ((first | ((with_reducible refine W_id ?_); refine W_reg (by decide) (by rfl) ?_) | (with_reducible first | refine W_cond ?_ | refine hZ _ _ ?_ | refine W_exit ?_ | refine Wo_id ?_)); repeat1' simp only [push_cast, Nat.reduceBEq, Nat.reduceLT, Nat.reduceEqDiff, reduceIte, reduceCtorEq, Nat.reduceMul, Nat.reduceAdd, Nat.reduceSub, Int.reduceEq, Int.reduceLT, Int.reduceLE, Int.reduceNeg, Int.reduceAdd, Int.reduceSub, Int.reduceMul, Nat.reduceLeDiff, Int.reduceToNat]) | ((repeat ((fail_if_success with_reducible refine hK _ _ ?_); clear hK K)); (with_reducible refine hK _ _ ?_); clear hK K))))
    refine app_to sty76 sty76.und (by decide) (h1.sl.ext hx) (SlAt.new w 2 (Value.agg #[.int .i64 0, .bool true]).cells 105 1 rfl) (by rfl) (by rw [entCells_length]; simp [vcells_agg]; omega) ?_
    intro v w3 bo3 k1 k2 k3
    have e5 : entCells l ++ (Value.agg #[.int .i64 0, .bool true]).cells.toList = entCells (l ++ [-1]) := by rw [entCells_append]; simp [vcells_agg, entCells, entOf]
    rw [e5] at k1
    obtain ⟨p1, p2, p3⟩ := rl_put h1 h2 h3 h4 h5 k1 (Upd.trans (hx.upd (F := fun b => bo = some b)) k2 fun _ _ e => e) (fun b _ hf => hf) fun b hb => by
      rcases k3 b hb with h | h
      · exact .inl h
      · have := hx.alike.size
        exact .inr (by omega)
    obtain ⟨x, y', z, e, _⟩ := k1.len
    subst e
    ((repeat simp only [push_cast, Nat.reduceBEq, Nat.reduceLT, Nat.reduceEqDiff, reduceIte, reduceCtorEq, Nat.reduceMul, Nat.reduceAdd, Nat.reduceSub, Int.reduceEq, Int.reduceLT, Int.reduceLE, Int.reduceNeg, Int.reduceAdd, Int.reduceSub, Int.reduceMul, Nat.reduceLeDiff, Int.reduceToNat, p1]); (repeat (first | (with_reducible first | (refine hK _ _ ?_; clear hK K) | refine (show ∀ σ' w', _ → K σ' w' from by assumption) _ _ ?_ | refine W_seq_k fun K hK => ?_ | refine W_block_k fun K hK => ?_ | refine W_skip ?_ | refine W_ret ?_) | ((first | ((with_reducible refine W_id ?_); refine W_reg (by decide) (by rfl) ?_) | (with_reducible first | refine W_cond ?_ | refine hZ _ _ ?_ | refine W_exit ?_ | refine Wo_id ?_)); repeat1' simp only [push_cast, Nat.reduceBEq, Nat.reduceLT, Nat.reduceEqDiff, reduceIte, reduceCtorEq, Nat.reduceMul, Nat.reduceAdd, Nat.reduceSub, Int.reduceEq, Int.reduceLT, Int.reduceLE, Int.reduceNeg, Int.reduceAdd, Int.reduceSub, Int.reduceMul, Nat.reduceLeDiff, Int.reduceToNat, p1]) | ((repeat ((fail_if_success with_reducible refine hK _ _ ?_); clear hK K)); (with_reducible refine hK _ _ ?_); clear hK K))))
    exact ⟨p2, p3⟩
theorem rclear_c (h : RL w S pr pb L l) (hl : l.length < 100000) : Gives Try.prog 76 #[.pointer (some ⟨pr, 0, none⟩)] w fun v w' => RL w' (gS S w w') pr pb L (clearN l (openN l)) ∧ Upd S w w' := by
  obtain ⟨lv, bo, F, h1, h2, h3, h4, h5⟩ := h
  have hbh := rbehind_c h1 hl
  have hor := openN_rng l
  obtain ⟨n0, hn0⟩ : ∃ n : Nat, openN l = (n : Int) := ⟨(openN l).toNat, by omega⟩
  rw [hn0] at hbh hor ⊢
  have hcl : clearN l (n0 : Int) = l.take (n0 - 1) := by unfold clearN; congr 1; omega
  rw [hcl]
  have hhr := h1.head
  obtain ⟨a, c, elv, hc, hcell⟩ := ents_len h1.sl
  subst elv
  have fin : ∀ k : Nat, k ≤ l.length → ∀ v w2 bo2, SlAt w2 2 v ([] ++ (entCells l).take (k * 2)) bo2 → Upd (fun b => (none : Option Nat) = some b) w w2 → (∀ b, bo2 = some b → (none : Option Nat) = some b ∨ w.heap.size ≤ b) →
      ∃ x y z, v = .slice x y z ∧ canStore w2 ⟨pr, 1, none⟩ ∧ RL (w2.setCell ⟨pr, 1, none⟩ v) (gS S w (w2.setCell ⟨pr, 1, none⟩ v)) pr pb L (l.take k) ∧ Upd S w (w2.setCell ⟨pr, 1, none⟩ v) := by
    intro k hk v w2 bo2 g1 g2 g3
    rw [List.nil_append, entCells_take] at g1
    obtain ⟨x, y, z, e, _⟩ := g1.len
    exact ⟨x, y, z, e, rl_put h1 h2 h3 h4 h5 g1 g2 (fun b _ e => by cases e) fun b hb => by
      rcases g3 b hb with h | h
      · cases h
      · exact .inr h⟩
  by_cases hn : n0 = 0
  · subst hn
    have b1 : (0 : Int) ≤ (c : Int) := by omega
    refine Gives.of_W Try.call76 Try.func76 rfl Try.ntmps76 (by simp) ?_; intro Z hZ
    (repeat (first | (with_reducible first | (refine hK _ _ ?_; clear hK K) | refine (show ∀ σ' w', _ → K σ' w' from by assumption) _ _ ?_ | refine W_seq_k fun K hK => ?_ | refine W_block_k fun K hK => ?_ | refine W_skip ?_ | refine W_ret ?_) | ((first | ((with_reducible refine W_id ?_); refine W_reg (by decide) (by rfl) ?_) | (with_reducible first | refine W_cond ?_ | refine hZ _ _ ?_ | refine W_exit ?_ | refine Wo_id ?_)); repeat1' simp only [push_cast, Nat.reduceBEq, Nat.reduceLT, Nat.reduceEqDiff, reduceIte, reduceCtorEq, Nat.reduceMul, Nat.reduceAdd, Nat.reduceSub, Int.reduceEq, Int.reduceLT, Int.reduceLE, Int.reduceNeg, Int.reduceAdd, Int.reduceSub, Int.reduceMul, Nat.reduceLeDiff, Int.reduceToNat]) | ((repeat ((fail_if_success with_reducible refine hK _ _ ?_); clear hK K)); (with_reducible refine hK _ _ ?_); clear hK K)))
    refine hbh.mono ?_
    intro v w' ⟨hv, hw⟩
    subst hv; subst w'
    ((repeat simp only [push_cast, Nat.reduceBEq, Nat.reduceLT, Nat.reduceEqDiff, reduceIte, reduceCtorEq, Nat.reduceMul, Nat.reduceAdd, Nat.reduceSub, Int.reduceEq, Int.reduceLT, Int.reduceLE, Int.reduceNeg, Int.reduceAdd, Int.reduceSub, Int.reduceMul, Nat.reduceLeDiff, Int.reduceToNat, cell_h, cellO_cells, hhr, b1]); (repeat (first | (with_reducible first | (refine hK _ _ ?_; clear hK K) | refine (show ∀ σ' w', _ → K σ' w' from by assumption) _ _ ?_ | refine W_seq_k fun K hK => ?_ | refine W_block_k fun K hK => ?_ | refine W_skip ?_ | refine W_ret ?_) | ((first | ((with_reducible refine W_id ?_); refine W_reg (by decide) (by rfl) ?_) | (with_reducible first | refine W_cond ?_ | refine hZ _ _ ?_ | refine W_exit ?_ | refine Wo_id ?_)); repeat1' simp only [push_cast, Nat.reduceBEq, Nat.reduceLT, Nat.reduceEqDiff, reduceIte, reduceCtorEq, Nat.reduceMul, Nat.reduceAdd, Nat.reduceSub, Int.reduceEq, Int.reduceLT, Int.reduceLE, Int.reduceNeg, Int.reduceAdd, Int.reduceSub, Int.reduceMul, Nat.reduceLeDiff, Int.reduceToNat, cell_h, cellO_cells, hhr, b1]) | ((repeat ((fail_if_success with_reducible refine hK _ _ ?_); clear hK K)); (with_reducible refine hK _ _ ?_); clear hK K))))
    simp only [Nat.sub_zero]
    refine app_to_rd sty76 sty76.und (by decide) (SlAt.nil w 2) (h1.sl.pre (hi := 0) (by omega)) ?_ ?_ ?_
    · rw [entCells_take]; exact entCells_one _
    · simp
    intro v w2 bo2 g1 g2 g3
    obtain ⟨x, y, z, e, p1, p2, p3⟩ := fin 0 (by omega) v w2 bo2 g1 g2 g3
    subst e
    ((repeat simp only [push_cast, Nat.reduceBEq, Nat.reduceLT, Nat.reduceEqDiff, reduceIte, reduceCtorEq, Nat.reduceMul, Nat.reduceAdd, Nat.reduceSub, Int.reduceEq, Int.reduceLT, Int.reduceLE, Int.reduceNeg, Int.reduceAdd, Int.reduceSub, Int.reduceMul, Nat.reduceLeDiff, Int.reduceToNat, p1]); (repeat (first | (with_reducible first | (refine hK _ _ ?_; clear hK K) | refine (show ∀ σ' w', _ → K σ' w' from by assumption) _ _ ?_ | refine W_seq_k fun K hK => ?_ | refine W_block_k fun K hK => ?_ | refine W_skip ?_ | refine W_ret ?_) | ((first | ((with_reducible refine W_id ?_); refine W_reg (by decide) (by rfl) ?_) | (with_reducible first | refine W_cond ?_ | refine hZ _ _ ?_ | refine W_exit ?_ | refine Wo_id ?_)); repeat1' simp only [push_cast, Nat.reduceBEq, Nat.reduceLT, Nat.reduceEqDiff, reduceIte, reduceCtorEq, Nat.reduceMul, Nat.reduceAdd, Nat.reduceSub, Int.reduceEq, Int.reduceLT, Int.reduceLE, Int.reduceNeg, Int.reduceAdd, Int.reduceSub, Int.reduceMul, Nat.reduceLeDiff, Int.reduceToNat, p1]) | ((repeat ((fail_if_success with_reducible refine hK _ _ ?_); clear hK K)); (with_reducible refine hK _ _ ?_); clear hK K))))
    exact ⟨p2, p3⟩
  · have b0 : (0 : Int) < (n0 : Int) := by omega
    obtain ⟨n1, rfl⟩ : ∃ n1, n0 = n1 + 1 := ⟨n0 - 1, by omega⟩
    have e1 : ((n1 + 1 : Nat) : Int) - 1 = n1 := by omega
    have b1 : (0 : Int) ≤ (n1 : Int) := by omega
    have b2 : (n1 : Int) ≤ (c : Int) := by omega
    have b3 : inI64 (n1 : Int) := by unfold inI64; omega
    refine Gives.of_W Try.call76 Try.func76 rfl Try.ntmps76 (by simp) ?_; intro Z hZ
    (repeat (first | (with_reducible first | (refine hK _ _ ?_; clear hK K) | refine (show ∀ σ' w', _ → K σ' w' from by assumption) _ _ ?_ | refine W_seq_k fun K hK => ?_ | refine W_block_k fun K hK => ?_ | refine W_skip ?_ | refine W_ret ?_) | ((first | ((with_reducible refine W_id ?_); refine W_reg (by decide) (by rfl) ?_) | (with_reducible first | refine W_cond ?_ | refine hZ _ _ ?_ | refine W_exit ?_ | refine Wo_id ?_)); repeat1' simp only [push_cast, Nat.reduceBEq, Nat.reduceLT, Nat.reduceEqDiff, reduceIte, reduceCtorEq, Nat.reduceMul, Nat.reduceAdd, Nat.reduceSub, Int.reduceEq, Int.reduceLT, Int.reduceLE, Int.reduceNeg, Int.reduceAdd, Int.reduceSub, Int.reduceMul, Nat.reduceLeDiff, Int.reduceToNat]) | ((repeat ((fail_if_success with_reducible refine hK _ _ ?_); clear hK K)); (with_reducible refine hK _ _ ?_); clear hK K)))
    refine hbh.mono ?_
    intro v w' ⟨hv, hw⟩
    subst hv; subst w'
    generalize ((n1 + 1 : Nat) : Int) = n2 at *
    ((repeat simp only [push_cast, Nat.reduceBEq, Nat.reduceLT, Nat.reduceEqDiff, reduceIte, reduceCtorEq, Nat.reduceMul, Nat.reduceAdd, Nat.reduceSub, Int.reduceEq, Int.reduceLT, Int.reduceLE, Int.reduceNeg, Int.reduceAdd, Int.reduceSub, Int.reduceMul, Nat.reduceLeDiff, Int.reduceToNat, b0, e1, b3, cell_h, cellO_cells, hhr, b1, b2]); (repeat (first | (with_reducible first | (refine hK _ _ ?_; clear hK K) | refine (show ∀ σ' w', _ → K σ' w' from by assumption) _ _ ?_ | refine W_seq_k fun K hK => ?_ | refine W_block_k fun K hK => ?_ | refine W_skip ?_ | refine W_ret ?_) | ((first | ((with_reducible refine W_id ?_); refine W_reg (by decide) (by rfl) ?_) | (with_reducible first | refine W_cond ?_ | refine hZ _ _ ?_ | refine W_exit ?_ | refine Wo_id ?_)); repeat1' simp only [push_cast, Nat.reduceBEq, Nat.reduceLT, Nat.reduceEqDiff, reduceIte, reduceCtorEq, Nat.reduceMul, Nat.reduceAdd, Nat.reduceSub, Int.reduceEq, Int.reduceLT, Int.reduceLE, Int.reduceNeg, Int.reduceAdd, Int.reduceSub, Int.reduceMul, Nat.reduceLeDiff, Int.reduceToNat, b0, e1, b3, cell_h, cellO_cells, hhr, b1, b2]) | ((repeat ((fail_if_success with_reducible refine hK _ _ ?_); clear hK K)); (with_reducible refine hK _ _ ?_); clear hK K))))
    simp only [Nat.sub_zero]
    refine app_to_rd sty76 sty76.und (by decide) (SlAt.nil w 2) (h1.sl.pre (hi := n1) (by omega)) ?_ ?_ ?_
    · rw [entCells_take]; exact entCells_one _
    · simp [entCells_length]; omega
    intro v w2 bo2 g1 g2 g3
    obtain ⟨x, y, z, e, p1, p2, p3⟩ := fin n1 (by omega) v w2 bo2 g1 g2 g3
    subst e
    ((repeat simp only [push_cast, Nat.reduceBEq, Nat.reduceLT, Nat.reduceEqDiff, reduceIte, reduceCtorEq, Nat.reduceMul, Nat.reduceAdd, Nat.reduceSub, Int.reduceEq, Int.reduceLT, Int.reduceLE, Int.reduceNeg, Int.reduceAdd, Int.reduceSub, Int.reduceMul, Nat.reduceLeDiff, Int.reduceToNat, p1]); (repeat (first | (with_reducible first | (refine hK _ _ ?_; clear hK K) | refine (show ∀ σ' w', _ → K σ' w' from by assumption) _ _ ?_ | refine W_seq_k fun K hK => ?_ | refine W_block_k fun K hK => ?_ | refine W_skip ?_ | refine W_ret ?_) | ((first | ((with_reducible refine W_id ?_); refine W_reg (by decide) (by rfl) ?_) | (with_reducible first | refine W_cond ?_ | refine hZ _ _ ?_ | refine W_exit ?_ | refine Wo_id ?_)); repeat1' simp only [push_cast, Nat.reduceBEq, Nat.reduceLT, Nat.reduceEqDiff, reduceIte, reduceCtorEq, Nat.reduceMul, Nat.reduceAdd, Nat.reduceSub, Int.reduceEq, Int.reduceLT, Int.reduceLE, Int.reduceNeg, Int.reduceAdd, Int.reduceSub, Int.reduceMul, Nat.reduceLeDiff, Int.reduceToNat, p1]) | ((repeat ((fail_if_success with_reducible refine hK _ _ ?_); clear hK K)); (with_reducible refine hK _ _ ?_); clear hK K))))
    exact ⟨p2, p3⟩
theorem rremove_c (h : RL w S pr pb L l) (hl : l.length < 10000) (hv : okE L l) (i : Int) : Gives Try.prog 77 #[.pointer (some ⟨pr, 0, none⟩), .int .i64 i] w fun v w' => v = .int .i64 (removeN l i).2 ∧ RL w' (gS S w w') pr pb L (removeN l i).1 ∧ Upd S w w' := by
  have hR := h
  obtain ⟨lv, bo, F, h1, h2, h3, h4, h5⟩ := h
  have hix := rindex_c h1 (by omega) hv i
  unfold removeN
  rcases indexN_rng l i with hlt | ⟨q, hq, hql⟩
  · rw [if_pos hlt]
    refine Gives.of_W Try.call77 Try.func77 rfl Try.ntmps77 (by simp) ?_; intro Z hZ
    (repeat (first | (with_reducible first | (refine hK _ _ ?_; clear hK K) | refine (show ∀ σ' w', _ → K σ' w' from by assumption) _ _ ?_ | refine W_seq_k fun K hK => ?_ | refine W_block_k fun K hK => ?_ | refine W_skip ?_ | refine W_ret ?_) | ((first | ((with_reducible refine W_id ?_); refine W_reg (by decide) (by rfl) ?_) | (with_reducible first | refine W_cond ?_ | refine hZ _ _ ?_ | refine W_exit ?_ | refine Wo_id ?_)); repeat1' simp only [push_cast, Nat.reduceBEq, Nat.reduceLT, Nat.reduceEqDiff, reduceIte, reduceCtorEq, Nat.reduceMul, Nat.reduceAdd, Nat.reduceSub, Int.reduceEq, Int.reduceLT, Int.reduceLE, Int.reduceNeg, Int.reduceAdd, Int.reduceSub, Int.reduceMul, Nat.reduceLeDiff, Int.reduceToNat]) | ((repeat ((fail_if_success with_reducible refine hK _ _ ?_); clear hK K)); (with_reducible refine hK _ _ ?_); clear hK K)))
    refine hix.mono ?_
    intro v w' ⟨hv, hw⟩
    subst hv; subst w'
    ((repeat simp only [push_cast, Nat.reduceBEq, Nat.reduceLT, Nat.reduceEqDiff, reduceIte, reduceCtorEq, Nat.reduceMul, Nat.reduceAdd, Nat.reduceSub, Int.reduceEq, Int.reduceLT, Int.reduceLE, Int.reduceNeg, Int.reduceAdd, Int.reduceSub, Int.reduceMul, Nat.reduceLeDiff, Int.reduceToNat, hlt]); (repeat (first | (with_reducible first | (refine hK _ _ ?_; clear hK K) | refine (show ∀ σ' w', _ → K σ' w' from by assumption) _ _ ?_ | refine W_seq_k fun K hK => ?_ | refine W_block_k fun K hK => ?_ | refine W_skip ?_ | refine W_ret ?_) | ((first | ((with_reducible refine W_id ?_); refine W_reg (by decide) (by rfl) ?_) | (with_reducible first | refine W_cond ?_ | refine hZ _ _ ?_ | refine W_exit ?_ | refine Wo_id ?_)); repeat1' simp only [push_cast, Nat.reduceBEq, Nat.reduceLT, Nat.reduceEqDiff, reduceIte, reduceCtorEq, Nat.reduceMul, Nat.reduceAdd, Nat.reduceSub, Int.reduceEq, Int.reduceLT, Int.reduceLE, Int.reduceNeg, Int.reduceAdd, Int.reduceSub, Int.reduceMul, Nat.reduceLeDiff, Int.reduceToNat, hlt]) | ((repeat ((fail_if_success with_reducible refine hK _ _ ?_); clear hK K)); (with_reducible refine hK _ _ ?_); clear hK K))))
    exact ⟨hR.upd (Upd.refl none_ _) (fun _ _ => id) fun _ => .inl, Upd.refl _ _⟩
  · rw [hq] at hix ⊢
    have b0 : ¬ (q : Int) < 0 := by omega
    rw [if_neg b0, Int.toNat_natCast]
    refine Gives.of_W Try.call77 Try.func77 rfl Try.ntmps77 (by simp) ?_; intro Z hZ
    (repeat (first | (with_reducible first | (refine hK _ _ ?_; clear hK K) | refine (show ∀ σ' w', _ → K σ' w' from by assumption) _ _ ?_ | refine W_seq_k fun K hK => ?_ | refine W_block_k fun K hK => ?_ | refine W_skip ?_ | refine W_ret ?_) | ((first | ((with_reducible refine W_id ?_); refine W_reg (by decide) (by rfl) ?_) | (with_reducible first | refine W_cond ?_ | refine hZ _ _ ?_ | refine W_exit ?_ | refine Wo_id ?_)); repeat1' simp only [push_cast, Nat.reduceBEq, Nat.reduceLT, Nat.reduceEqDiff, reduceIte, reduceCtorEq, Nat.reduceMul, Nat.reduceAdd, Nat.reduceSub, Int.reduceEq, Int.reduceLT, Int.reduceLE, Int.reduceNeg, Int.reduceAdd, Int.reduceSub, Int.reduceMul, Nat.reduceLeDiff, Int.reduceToNat]) | ((repeat ((fail_if_success with_reducible refine hK _ _ ?_); clear hK K)); (with_reducible refine hK _ _ ?_); clear hK K)))
    refine hix.mono ?_
    intro v w' ⟨hv, hw⟩
    subst hv; subst w'
    ((repeat simp only [push_cast, Nat.reduceBEq, Nat.reduceLT, Nat.reduceEqDiff, reduceIte, reduceCtorEq, Nat.reduceMul, Nat.reduceAdd, Nat.reduceSub, Int.reduceEq, Int.reduceLT, Int.reduceLE, Int.reduceNeg, Int.reduceAdd, Int.reduceSub, Int.reduceMul, Nat.reduceLeDiff, Int.reduceToNat, b0]); (repeat (first | (with_reducible first | (refine hK _ _ ?_; clear hK K) | refine (show ∀ σ' w', _ → K σ' w' from by assumption) _ _ ?_ | refine W_seq_k fun K hK => ?_ | refine W_block_k fun K hK => ?_ | refine W_skip ?_ | refine W_ret ?_) | ((first | ((with_reducible refine W_id ?_); refine W_reg (by decide) (by rfl) ?_) | (with_reducible first | refine W_cond ?_ | refine hZ _ _ ?_ | refine W_exit ?_ | refine Wo_id ?_)); repeat1' simp only [push_cast, Nat.reduceBEq, Nat.reduceLT, Nat.reduceEqDiff, reduceIte, reduceCtorEq, Nat.reduceMul, Nat.reduceAdd, Nat.reduceSub, Int.reduceEq, Int.reduceLT, Int.reduceLE, Int.reduceNeg, Int.reduceAdd, Int.reduceSub, Int.reduceMul, Nat.reduceLeDiff, Int.reduceToNat, b0]) | ((repeat ((fail_if_success with_reducible refine hK _ _ ?_); clear hK K)); (with_reducible refine hK _ _ ?_); clear hK K))))
    refine (rwithout_c hR (by omega) q hql).mono ?_
    rintro v w2 ⟨p1, p2⟩
    ((repeat simp only [push_cast, Nat.reduceBEq, Nat.reduceLT, Nat.reduceEqDiff, reduceIte, reduceCtorEq, Nat.reduceMul, Nat.reduceAdd, Nat.reduceSub, Int.reduceEq, Int.reduceLT, Int.reduceLE, Int.reduceNeg, Int.reduceAdd, Int.reduceSub, Int.reduceMul, Nat.reduceLeDiff, Int.reduceToNat]); (repeat (first | (with_reducible first | (refine hK _ _ ?_; clear hK K) | refine (show ∀ σ' w', _ → K σ' w' from by assumption) _ _ ?_ | refine W_seq_k fun K hK => ?_ | refine W_block_k fun K hK => ?_ | refine W_skip ?_ | refine W_ret ?_) | ((first | ((with_reducible refine W_id ?_); refine W_reg (by decide) (by rfl) ?_) | (with_reducible first | refine W_cond ?_ | refine hZ _ _ ?_ | refine W_exit ?_ | refine Wo_id ?_)); repeat1' simp only [push_cast, Nat.reduceBEq, Nat.reduceLT, Nat.reduceEqDiff, reduceIte, reduceCtorEq, Nat.reduceMul, Nat.reduceAdd, Nat.reduceSub, Int.reduceEq, Int.reduceLT, Int.reduceLE, Int.reduceNeg, Int.reduceAdd, Int.reduceSub, Int.reduceMul, Nat.reduceLeDiff, Int.reduceToNat]) | ((repeat ((fail_if_success with_reducible refine hK _ _ ?_); clear hK K)); (with_reducible refine hK _ _ ?_); clear hK K))))
    exact ⟨p1, p2⟩
theorem rreplace_c (h : RL w S pr pb L l) (hl : l.length < 10000) (hb : L.length < 100000) (k i : Int) : Gives Try.prog 79 #[.pointer (some ⟨pr, 0, none⟩), .int .i64 k, .int .i64 i] w fun v w' => v = .int .i64 (replN L l k i).2 ∧ RL w' (gS S w w') pr pb L (replN L l k i).1 ∧ Upd S w w' := by
  have hR := h
  obtain ⟨lv, bo, F, h1, h2, h3, h4, h5⟩ := h
  have hkd := rkind_c h2 (by omega) i
  have hhr := h1.head
  obtain ⟨a, c, elv, hc, hcell⟩ := ents_len h1.sl
  subst elv
  have no : RL w (gS S w w) pr pb L l ∧ Upd S w w := ⟨hR.upd (Upd.refl none_ _) (fun _ _ => id) fun _ => .inl, Upd.refl _ _⟩
  unfold replN
  by_cases hk3 : ((nd? L i).getD zN).kind = 3
  · rw [if_pos hk3]
    rw [hk3] at hkd
    by_cases hk0 : k < 0
    · rw [if_neg (by omega)]
      refine Gives.of_W Try.call79 Try.func79 rfl Try.ntmps79 (by simp) ?_; intro Z hZ
      (repeat (first | (with_reducible first | (refine hK _ _ ?_; clear hK K) | refine (show ∀ σ' w', _ → K σ' w' from by assumption) _ _ ?_ | refine W_seq_k fun K hK => ?_ | refine W_block_k fun K hK => ?_ | refine W_skip ?_ | refine W_ret ?_) | ((first | ((with_reducible refine W_id ?_); refine W_reg (by decide) (by rfl) ?_) | (with_reducible first | refine W_cond ?_ | refine hZ _ _ ?_ | refine W_exit ?_ | refine Wo_id ?_)); repeat1' simp only [push_cast, Nat.reduceBEq, Nat.reduceLT, Nat.reduceEqDiff, reduceIte, reduceCtorEq, Nat.reduceMul, Nat.reduceAdd, Nat.reduceSub, Int.reduceEq, Int.reduceLT, Int.reduceLE, Int.reduceNeg, Int.reduceAdd, Int.reduceSub, Int.reduceMul, Nat.reduceLeDiff, Int.reduceToNat, cell_h, cellO_cells, hhr]) | ((repeat ((fail_if_success with_reducible refine hK _ _ ?_); clear hK K)); (with_reducible refine hK _ _ ?_); clear hK K)))
      refine hkd.mono ?_
      intro v w' ⟨hv, hw⟩
      subst hv; subst w'
      ((repeat simp only [push_cast, Nat.reduceBEq, Nat.reduceLT, Nat.reduceEqDiff, reduceIte, reduceCtorEq, Nat.reduceMul, Nat.reduceAdd, Nat.reduceSub, Int.reduceEq, Int.reduceLT, Int.reduceLE, Int.reduceNeg, Int.reduceAdd, Int.reduceSub, Int.reduceMul, Nat.reduceLeDiff, Int.reduceToNat, cell_h, cellO_cells, hhr, hk0, not_true_eq_false]); (repeat (first | (with_reducible first | (refine hK _ _ ?_; clear hK K) | refine (show ∀ σ' w', _ → K σ' w' from by assumption) _ _ ?_ | refine W_seq_k fun K hK => ?_ | refine W_block_k fun K hK => ?_ | refine W_skip ?_ | refine W_ret ?_) | ((first | ((with_reducible refine W_id ?_); refine W_reg (by decide) (by rfl) ?_) | (with_reducible first | refine W_cond ?_ | refine hZ _ _ ?_ | refine W_exit ?_ | refine Wo_id ?_)); repeat1' simp only [push_cast, Nat.reduceBEq, Nat.reduceLT, Nat.reduceEqDiff, reduceIte, reduceCtorEq, Nat.reduceMul, Nat.reduceAdd, Nat.reduceSub, Int.reduceEq, Int.reduceLT, Int.reduceLE, Int.reduceNeg, Int.reduceAdd, Int.reduceSub, Int.reduceMul, Nat.reduceLeDiff, Int.reduceToNat, cell_h, cellO_cells, hhr, hk0, not_true_eq_false]) | ((repeat ((fail_if_success with_reducible refine hK _ _ ?_); clear hK K)); (with_reducible refine hK _ _ ?_); clear hK K))))
      exact no
    obtain ⟨k, rfl⟩ : ∃ q : Nat, k = (q : Int) := ⟨k.toNat, by omega⟩
    have b0 : (0 : Int) ≤ (k : Int) := by omega
    by_cases hkl : k < l.length
    · have b1 : ¬ (l.length : Int) ≤ (k : Int) := by omega
      have b2 : (k : Int) < (l.length : Int) := by omega
      rw [if_pos ⟨b0, b2⟩, Int.toNat_natCast]
      obtain ⟨y, hy⟩ : ∃ y, l[k]? = some y := ⟨_, List.getElem?_eq_getElem hkl⟩
      obtain ⟨b, o, e, hbo, _, _⟩ := hcell k _ hy
      subst e
      refine Gives.of_W Try.call79 Try.func79 rfl Try.ntmps79 (by simp) ?_; intro Z hZ
      (repeat (first | (with_reducible first | (refine hK _ _ ?_; clear hK K) | refine (show ∀ σ' w', _ → K σ' w' from by assumption) _ _ ?_ | refine W_seq_k fun K hK => ?_ | refine W_block_k fun K hK => ?_ | refine W_skip ?_ | refine W_ret ?_) | ((first | ((with_reducible refine W_id ?_); refine W_reg (by decide) (by rfl) ?_) | (with_reducible first | refine W_cond ?_ | refine hZ _ _ ?_ | refine W_exit ?_ | refine Wo_id ?_)); repeat1' simp only [push_cast, Nat.reduceBEq, Nat.reduceLT, Nat.reduceEqDiff, reduceIte, reduceCtorEq, Nat.reduceMul, Nat.reduceAdd, Nat.reduceSub, Int.reduceEq, Int.reduceLT, Int.reduceLE, Int.reduceNeg, Int.reduceAdd, Int.reduceSub, Int.reduceMul, Nat.reduceLeDiff, Int.reduceToNat, cell_h, cellO_cells, hhr]) | ((repeat ((fail_if_success with_reducible refine hK _ _ ?_); clear hK K)); (with_reducible refine hK _ _ ?_); clear hK K)))
      refine hkd.mono ?_
      intro v w' ⟨hv, hw⟩
      subst hv; subst w'
      ((repeat simp only [push_cast, Nat.reduceBEq, Nat.reduceLT, Nat.reduceEqDiff, reduceIte, reduceCtorEq, Nat.reduceMul, Nat.reduceAdd, Nat.reduceSub, Int.reduceEq, Int.reduceLT, Int.reduceLE, Int.reduceNeg, Int.reduceAdd, Int.reduceSub, Int.reduceMul, Nat.reduceLeDiff, Int.reduceToNat, cell_h, cellO_cells, hhr, hk0, b0, b1, b2, not_true_eq_false]); (repeat (first | (with_reducible first | (refine hK _ _ ?_; clear hK K) | refine (show ∀ σ' w', _ → K σ' w' from by assumption) _ _ ?_ | refine W_seq_k fun K hK => ?_ | refine W_block_k fun K hK => ?_ | refine W_skip ?_ | refine W_ret ?_) | ((first | ((with_reducible refine W_id ?_); refine W_reg (by decide) (by rfl) ?_) | (with_reducible first | refine W_cond ?_ | refine hZ _ _ ?_ | refine W_exit ?_ | refine Wo_id ?_)); repeat1' simp only [push_cast, Nat.reduceBEq, Nat.reduceLT, Nat.reduceEqDiff, reduceIte, reduceCtorEq, Nat.reduceMul, Nat.reduceAdd, Nat.reduceSub, Int.reduceEq, Int.reduceLT, Int.reduceLE, Int.reduceNeg, Int.reduceAdd, Int.reduceSub, Int.reduceMul, Nat.reduceLeDiff, Int.reduceToNat, cell_h, cellO_cells, hhr, hk0, b0, b1, b2, not_true_eq_false]) | ((repeat ((fail_if_success with_reducible refine hK _ _ ?_); clear hK K)); (with_reducible refine hK _ _ ?_); clear hK K))))
      refine build_struct Try.zeroValue105 un105 pl105 (cs := #[.int .i64 i, .bool false]) (by rfl) ?_
      have hi : i ≠ -1 := fun e => by
        subst e
        rw [show nd? L (-1) = none from rfl] at hk3
        exact absurd hk3 (by decide)
      have q1 : canStore w ⟨b, o + k * 2, none⟩ := h1.sl.can (by rw [entCells_length]; omega)
      have q2 : canStore w ⟨b, o + k * 2 + 1, none⟩ := by rw [Nat.add_assoc]; exact h1.sl.can (by rw [entCells_length]; omega)
      have s1 := h1.sl.set (i := k * 2) (by rw [entCells_length]; omega) (.int .i64 i)
      have s2 := s1.set (i := k * 2 + 1) (by rw [List.length_set, entCells_length]; omega) (.bool false)
      rw [entCells_set l k i hi, ← Nat.add_assoc] at s2
      have hu : Upd (fun b' => bo = some b') w ((w.setCell ⟨b, o + k * 2, none⟩ (.int .i64 i)).setCell ⟨b, o + k * 2 + 1, none⟩ (.bool false)) :=
        ((Upd.refl _ w).put (x := ⟨b, o + k * 2, none⟩) hbo).put (x := ⟨b, o + k * 2 + 1, none⟩) hbo
      obtain ⟨p1, p2⟩ := rl_same h1 h2 h3 h4 h5 s2 hu
      ((repeat simp only [push_cast, Nat.reduceBEq, Nat.reduceLT, Nat.reduceEqDiff, reduceIte, reduceCtorEq, Nat.reduceMul, Nat.reduceAdd, Nat.reduceSub, Int.reduceEq, Int.reduceLT, Int.reduceLE, Int.reduceNeg, Int.reduceAdd, Int.reduceSub, Int.reduceMul, Nat.reduceLeDiff, Int.reduceToNat, q1, q2, setCells]); (repeat (first | (with_reducible first | (refine hK _ _ ?_; clear hK K) | refine (show ∀ σ' w', _ → K σ' w' from by assumption) _ _ ?_ | refine W_seq_k fun K hK => ?_ | refine W_block_k fun K hK => ?_ | refine W_skip ?_ | refine W_ret ?_) | ((first | ((with_reducible refine W_id ?_); refine W_reg (by decide) (by rfl) ?_) | (with_reducible first | refine W_cond ?_ | refine hZ _ _ ?_ | refine W_exit ?_ | refine Wo_id ?_)); repeat1' simp only [push_cast, Nat.reduceBEq, Nat.reduceLT, Nat.reduceEqDiff, reduceIte, reduceCtorEq, Nat.reduceMul, Nat.reduceAdd, Nat.reduceSub, Int.reduceEq, Int.reduceLT, Int.reduceLE, Int.reduceNeg, Int.reduceAdd, Int.reduceSub, Int.reduceMul, Nat.reduceLeDiff, Int.reduceToNat, q1, q2, setCells]) | ((repeat ((fail_if_success with_reducible refine hK _ _ ?_); clear hK K)); (with_reducible refine hK _ _ ?_); clear hK K))))
      exact ⟨p1, p2⟩
    · have b1 : (l.length : Int) ≤ (k : Int) := by omega
      rw [if_neg (by omega)]
      refine Gives.of_W Try.call79 Try.func79 rfl Try.ntmps79 (by simp) ?_; intro Z hZ
      (repeat (first | (with_reducible first | (refine hK _ _ ?_; clear hK K) | refine (show ∀ σ' w', _ → K σ' w' from by assumption) _ _ ?_ | refine W_seq_k fun K hK => ?_ | refine W_block_k fun K hK => ?_ | refine W_skip ?_ | refine W_ret ?_) | ((first | ((with_reducible refine W_id ?_); refine W_reg (by decide) (by rfl) ?_) | (with_reducible first | refine W_cond ?_ | refine hZ _ _ ?_ | refine W_exit ?_ | refine Wo_id ?_)); repeat1' simp only [push_cast, Nat.reduceBEq, Nat.reduceLT, Nat.reduceEqDiff, reduceIte, reduceCtorEq, Nat.reduceMul, Nat.reduceAdd, Nat.reduceSub, Int.reduceEq, Int.reduceLT, Int.reduceLE, Int.reduceNeg, Int.reduceAdd, Int.reduceSub, Int.reduceMul, Nat.reduceLeDiff, Int.reduceToNat, cell_h, cellO_cells, hhr]) | ((repeat ((fail_if_success with_reducible refine hK _ _ ?_); clear hK K)); (with_reducible refine hK _ _ ?_); clear hK K)))
      refine hkd.mono ?_
      intro v w' ⟨hv, hw⟩
      subst hv; subst w'
      ((repeat simp only [push_cast, Nat.reduceBEq, Nat.reduceLT, Nat.reduceEqDiff, reduceIte, reduceCtorEq, Nat.reduceMul, Nat.reduceAdd, Nat.reduceSub, Int.reduceEq, Int.reduceLT, Int.reduceLE, Int.reduceNeg, Int.reduceAdd, Int.reduceSub, Int.reduceMul, Nat.reduceLeDiff, Int.reduceToNat, cell_h, cellO_cells, hhr, hk0, b0, b1, not_true_eq_false]); (repeat (first | (with_reducible first | (refine hK _ _ ?_; clear hK K) | refine (show ∀ σ' w', _ → K σ' w' from by assumption) _ _ ?_ | refine W_seq_k fun K hK => ?_ | refine W_block_k fun K hK => ?_ | refine W_skip ?_ | refine W_ret ?_) | ((first | ((with_reducible refine W_id ?_); refine W_reg (by decide) (by rfl) ?_) | (with_reducible first | refine W_cond ?_ | refine hZ _ _ ?_ | refine W_exit ?_ | refine Wo_id ?_)); repeat1' simp only [push_cast, Nat.reduceBEq, Nat.reduceLT, Nat.reduceEqDiff, reduceIte, reduceCtorEq, Nat.reduceMul, Nat.reduceAdd, Nat.reduceSub, Int.reduceEq, Int.reduceLT, Int.reduceLE, Int.reduceNeg, Int.reduceAdd, Int.reduceSub, Int.reduceMul, Nat.reduceLeDiff, Int.reduceToNat, cell_h, cellO_cells, hhr, hk0, b0, b1, not_true_eq_false]) | ((repeat ((fail_if_success with_reducible refine hK _ _ ?_); clear hK K)); (with_reducible refine hK _ _ ?_); clear hK K))))
      exact no
  · rw [if_neg hk3]
    refine Gives.of_W Try.call79 Try.func79 rfl Try.ntmps79 (by simp) ?_; intro Z hZ
    (repeat (first | (with_reducible first | (refine hK _ _ ?_; clear hK K) | refine (show ∀ σ' w', _ → K σ' w' from by assumption) _ _ ?_ | refine W_seq_k fun K hK => ?_ | refine W_block_k fun K hK => ?_ | refine W_skip ?_ | refine W_ret ?_) | ((first | ((with_reducible refine W_id ?_); refine W_reg (by decide) (by rfl) ?_) | (with_reducible first | refine W_cond ?_ | refine hZ _ _ ?_ | refine W_exit ?_ | refine Wo_id ?_)); repeat1' simp only [push_cast, Nat.reduceBEq, Nat.reduceLT, Nat.reduceEqDiff, reduceIte, reduceCtorEq, Nat.reduceMul, Nat.reduceAdd, Nat.reduceSub, Int.reduceEq, Int.reduceLT, Int.reduceLE, Int.reduceNeg, Int.reduceAdd, Int.reduceSub, Int.reduceMul, Nat.reduceLeDiff, Int.reduceToNat, cell_h, cellO_cells, hhr]) | ((repeat ((fail_if_success with_reducible refine hK _ _ ?_); clear hK K)); (with_reducible refine hK _ _ ?_); clear hK K)))
    refine hkd.mono ?_
    intro v w' ⟨hv, hw⟩
    subst hv; subst w'
    ((repeat simp only [push_cast, Nat.reduceBEq, Nat.reduceLT, Nat.reduceEqDiff, reduceIte, reduceCtorEq, Nat.reduceMul, Nat.reduceAdd, Nat.reduceSub, Int.reduceEq, Int.reduceLT, Int.reduceLE, Int.reduceNeg, Int.reduceAdd, Int.reduceSub, Int.reduceMul, Nat.reduceLeDiff, Int.reduceToNat, cell_h, cellO_cells, hhr, hk3, not_false_eq_true]); (repeat (first | (with_reducible first | (refine hK _ _ ?_; clear hK K) | refine (show ∀ σ' w', _ → K σ' w' from by assumption) _ _ ?_ | refine W_seq_k fun K hK => ?_ | refine W_block_k fun K hK => ?_ | refine W_skip ?_ | refine W_ret ?_) | ((first | ((with_reducible refine W_id ?_); refine W_reg (by decide) (by rfl) ?_) | (with_reducible first | refine W_cond ?_ | refine hZ _ _ ?_ | refine W_exit ?_ | refine Wo_id ?_)); repeat1' simp only [push_cast, Nat.reduceBEq, Nat.reduceLT, Nat.reduceEqDiff, reduceIte, reduceCtorEq, Nat.reduceMul, Nat.reduceAdd, Nat.reduceSub, Int.reduceEq, Int.reduceLT, Int.reduceLE, Int.reduceNeg, Int.reduceAdd, Int.reduceSub, Int.reduceMul, Nat.reduceLeDiff, Int.reduceToNat, cell_h, cellO_cells, hhr, hk3, not_false_eq_true]) | ((repeat ((fail_if_success with_reducible refine hK _ _ ?_); clear hK K)); (with_reducible refine hK _ _ ?_); clear hK K))))
    exact no
theorem rinsert_c (h : RL w S pr pb L l) (hl : l.length < 10000) (hb : L.length < 100000) (k i : Int) : Gives Try.prog 78 #[.pointer (some ⟨pr, 0, none⟩), .int .i64 k, .int .i64 i] w fun v w' => v = .int .i64 (insertL L l k i).2 ∧ RL w' (gS S w w') pr pb L (insertL L l k i).1 ∧ Upd S w w' := by
  have hR := h
  obtain ⟨lv, bo, F, h1, h2, h3, h4, h5⟩ := h
  have hkd := rkind_c h2 (by omega) i
  have hhr := h1.head
  obtain ⟨a, c, elv, hc, hcell⟩ := ents_len h1.sl
  subst elv
  have no : RL w (gS S w w) pr pb L l ∧ Upd S w w := ⟨hR.upd (Upd.refl none_ _) (fun _ _ => id) fun _ => .inl, Upd.refl _ _⟩
  unfold insertL
  by_cases hk3 : ((nd? L i).getD zN).kind = 3
  · rw [if_pos hk3]
    rw [hk3] at hkd
    by_cases hk0 : k < 0
    · rw [if_neg (by omega)]
      refine Gives.of_W Try.call78 Try.func78 rfl Try.ntmps78 (by simp) ?_; intro Z hZ
      (repeat (first | (with_reducible first | (refine hK _ _ ?_; clear hK K) | refine (show ∀ σ' w', _ → K σ' w' from by assumption) _ _ ?_ | refine W_seq_k fun K hK => ?_ | refine W_block_k fun K hK => ?_ | refine W_skip ?_ | refine W_ret ?_) | ((first | ((with_reducible refine W_id ?_); refine W_reg (by decide) (by rfl) ?_) | (with_reducible first | refine W_cond ?_ | refine hZ _ _ ?_ | refine W_exit ?_ | refine Wo_id ?_)); repeat1' simp only [push_cast, Nat.reduceBEq, Nat.reduceLT, Nat.reduceEqDiff, reduceIte, reduceCtorEq, Nat.reduceMul, Nat.reduceAdd, Nat.reduceSub, Int.reduceEq, Int.reduceLT, Int.reduceLE, Int.reduceNeg, Int.reduceAdd, Int.reduceSub, Int.reduceMul, Nat.reduceLeDiff, Int.reduceToNat, cell_h, cellO_cells, hhr]) | ((repeat ((fail_if_success with_reducible refine hK _ _ ?_); clear hK K)); (with_reducible refine hK _ _ ?_); clear hK K)))
      refine hkd.mono ?_
      intro v w' ⟨hv, hw⟩
      subst hv; subst w'
      ((repeat simp only [push_cast, Nat.reduceBEq, Nat.reduceLT, Nat.reduceEqDiff, reduceIte, reduceCtorEq, Nat.reduceMul, Nat.reduceAdd, Nat.reduceSub, Int.reduceEq, Int.reduceLT, Int.reduceLE, Int.reduceNeg, Int.reduceAdd, Int.reduceSub, Int.reduceMul, Nat.reduceLeDiff, Int.reduceToNat, cell_h, cellO_cells, hhr, hk0, not_true_eq_false]); (repeat (first | (with_reducible first | (refine hK _ _ ?_; clear hK K) | refine (show ∀ σ' w', _ → K σ' w' from by assumption) _ _ ?_ | refine W_seq_k fun K hK => ?_ | refine W_block_k fun K hK => ?_ | refine W_skip ?_ | refine W_ret ?_) | ((first | ((with_reducible refine W_id ?_); refine W_reg (by decide) (by rfl) ?_) | (with_reducible first | refine W_cond ?_ | refine hZ _ _ ?_ | refine W_exit ?_ | refine Wo_id ?_)); repeat1' simp only [push_cast, Nat.reduceBEq, Nat.reduceLT, Nat.reduceEqDiff, reduceIte, reduceCtorEq, Nat.reduceMul, Nat.reduceAdd, Nat.reduceSub, Int.reduceEq, Int.reduceLT, Int.reduceLE, Int.reduceNeg, Int.reduceAdd, Int.reduceSub, Int.reduceMul, Nat.reduceLeDiff, Int.reduceToNat, cell_h, cellO_cells, hhr, hk0, not_true_eq_false]) | ((repeat ((fail_if_success with_reducible refine hK _ _ ?_); clear hK K)); (with_reducible refine hK _ _ ?_); clear hK K))))
      exact no
    obtain ⟨k, rfl⟩ : ∃ q : Nat, k = (q : Int) := ⟨k.toNat, by omega⟩
    have b0 : (0 : Int) ≤ (k : Int) := by omega
    by_cases hkl : k ≤ l.length
    · have b1 : ¬ (l.length : Int) < (k : Int) := by omega
      have b2 : (k : Int) ≤ (l.length : Int) := by omega
      have b3 : (k : Int) ≤ (c : Int) := by omega
      rw [if_pos ⟨b0, b2⟩, Int.toNat_natCast]
      unfold layN
      by_cases h64 : 64 ≤ l.length
      · have b4 : (64 : Int) ≤ (l.length : Int) := by omega
        rw [if_pos h64]
        refine Gives.of_W Try.call78 Try.func78 rfl Try.ntmps78 (by simp) ?_; intro Z hZ
        (repeat (first | (with_reducible first | (refine hK _ _ ?_; clear hK K) | refine (show ∀ σ' w', _ → K σ' w' from by assumption) _ _ ?_ | refine W_seq_k fun K hK => ?_ | refine W_block_k fun K hK => ?_ | refine W_skip ?_ | refine W_ret ?_) | ((first | ((with_reducible refine W_id ?_); refine W_reg (by decide) (by rfl) ?_) | (with_reducible first | refine W_cond ?_ | refine hZ _ _ ?_ | refine W_exit ?_ | refine Wo_id ?_)); repeat1' simp only [push_cast, Nat.reduceBEq, Nat.reduceLT, Nat.reduceEqDiff, reduceIte, reduceCtorEq, Nat.reduceMul, Nat.reduceAdd, Nat.reduceSub, Int.reduceEq, Int.reduceLT, Int.reduceLE, Int.reduceNeg, Int.reduceAdd, Int.reduceSub, Int.reduceMul, Nat.reduceLeDiff, Int.reduceToNat, cell_h, cellO_cells, hhr]) | ((repeat ((fail_if_success with_reducible refine hK _ _ ?_); clear hK K)); (with_reducible refine hK _ _ ?_); clear hK K)))
        refine hkd.mono ?_
        intro v w' ⟨hv, hw⟩
        subst hv; subst w'
        ((repeat simp only [push_cast, Nat.reduceBEq, Nat.reduceLT, Nat.reduceEqDiff, reduceIte, reduceCtorEq, Nat.reduceMul, Nat.reduceAdd, Nat.reduceSub, Int.reduceEq, Int.reduceLT, Int.reduceLE, Int.reduceNeg, Int.reduceAdd, Int.reduceSub, Int.reduceMul, Nat.reduceLeDiff, Int.reduceToNat, cell_h, cellO_cells, hhr, hk0, b0, b1, b2, b4, not_true_eq_false]); (repeat (first | (with_reducible first | (refine hK _ _ ?_; clear hK K) | refine (show ∀ σ' w', _ → K σ' w' from by assumption) _ _ ?_ | refine W_seq_k fun K hK => ?_ | refine W_block_k fun K hK => ?_ | refine W_skip ?_ | refine W_ret ?_) | ((first | ((with_reducible refine W_id ?_); refine W_reg (by decide) (by rfl) ?_) | (with_reducible first | refine W_cond ?_ | refine hZ _ _ ?_ | refine W_exit ?_ | refine Wo_id ?_)); repeat1' simp only [push_cast, Nat.reduceBEq, Nat.reduceLT, Nat.reduceEqDiff, reduceIte, reduceCtorEq, Nat.reduceMul, Nat.reduceAdd, Nat.reduceSub, Int.reduceEq, Int.reduceLT, Int.reduceLE, Int.reduceNeg, Int.reduceAdd, Int.reduceSub, Int.reduceMul, Nat.reduceLeDiff, Int.reduceToNat, cell_h, cellO_cells, hhr, hk0, b0, b1, b2, b4, not_true_eq_false]) | ((repeat ((fail_if_success with_reducible refine hK _ _ ?_); clear hK K)); (with_reducible refine hK _ _ ?_); clear hK K))))
        exact no
      · have b4 : ¬ (64 : Int) ≤ (l.length : Int) := by omega
        rw [if_neg h64]
        have hi : i ≠ -1 := fun e => by
          subst e
          rw [show nd? L (-1) = none from rfl] at hk3
          exact absurd hk3 (by decide)
        have hxd := Ext.drew w
        have hhd := hxd.blk hhr
        have hsd := h1.sl.ext hxd
        have hprl := blk_lt hhr
        have hszd := hxd.alike.size
        refine Gives.of_W Try.call78 Try.func78 rfl Try.ntmps78 (by simp) ?_; intro Z hZ
        (repeat (first | (with_reducible first | (refine hK _ _ ?_; clear hK K) | refine (show ∀ σ' w', _ → K σ' w' from by assumption) _ _ ?_ | refine W_seq_k fun K hK => ?_ | refine W_block_k fun K hK => ?_ | refine W_skip ?_ | refine W_ret ?_) | ((first | ((with_reducible refine W_id ?_); refine W_reg (by decide) (by rfl) ?_) | (with_reducible first | refine W_cond ?_ | refine hZ _ _ ?_ | refine W_exit ?_ | refine Wo_id ?_)); repeat1' simp only [push_cast, Nat.reduceBEq, Nat.reduceLT, Nat.reduceEqDiff, reduceIte, reduceCtorEq, Nat.reduceMul, Nat.reduceAdd, Nat.reduceSub, Int.reduceEq, Int.reduceLT, Int.reduceLE, Int.reduceNeg, Int.reduceAdd, Int.reduceSub, Int.reduceMul, Nat.reduceLeDiff, Int.reduceToNat, cell_h, cellO_cells, hhr]) | ((repeat ((fail_if_success with_reducible refine hK _ _ ?_); clear hK K)); (with_reducible refine hK _ _ ?_); clear hK K)))
        refine hkd.mono ?_
        intro v w' ⟨hv, hw⟩
        subst hv; subst w'
        ((repeat simp only [push_cast, Nat.reduceBEq, Nat.reduceLT, Nat.reduceEqDiff, reduceIte, reduceCtorEq, Nat.reduceMul, Nat.reduceAdd, Nat.reduceSub, Int.reduceEq, Int.reduceLT, Int.reduceLE, Int.reduceNeg, Int.reduceAdd, Int.reduceSub, Int.reduceMul, Nat.reduceLeDiff, Int.reduceToNat, cell_h, cellO_cells, hhr, hk0, b0, b1, b2, b4, not_true_eq_false]); (repeat (first | (with_reducible first | (refine hK _ _ ?_; clear hK K) | refine (show ∀ σ' w', _ → K σ' w' from by assumption) _ _ ?_ | refine W_seq_k fun K hK => ?_ | refine W_block_k fun K hK => ?_ | refine W_skip ?_ | refine W_ret ?_) | ((first | ((with_reducible refine W_id ?_); refine W_reg (by decide) (by rfl) ?_) | (with_reducible first | refine W_cond ?_ | refine hZ _ _ ?_ | refine W_exit ?_ | refine Wo_id ?_)); repeat1' simp only [push_cast, Nat.reduceBEq, Nat.reduceLT, Nat.reduceEqDiff, reduceIte, reduceCtorEq, Nat.reduceMul, Nat.reduceAdd, Nat.reduceSub, Int.reduceEq, Int.reduceLT, Int.reduceLE, Int.reduceNeg, Int.reduceAdd, Int.reduceSub, Int.reduceMul, Nat.reduceLeDiff, Int.reduceToNat, cell_h, cellO_cells, hhr, hk0, b0, b1, b2, b4, not_true_eq_false]) | ((repeat ((fail_if_success with_reducible refine hK _ _ ?_); clear hK K)); (with_reducible refine hK _ _ ?_); clear hK K))))
        refine W_draw (.pas 0 (.pas 1 (.pas 2 (.pas 3 (.pas 4 (.pas 5 (.pas 6 (.pas 8 (.pas 9 (.pas 12 (.pas 13 (.pas 14 (.pas 15 (.pas 16 (.pas 17 (.two 7 (.act 10 (.act 11 (.act 18 (.pas 19 (.pas 20 (.last 21)))))) 10 (.act 7 (.act 11 (.act 18 (.pas 19 (.pas 20 (.last 21)))))))))))))))))))))) (fun b' => b' = pr) (by decide) mixed (by kernel_rfl) ?_
        generalize w.drew = wd at *
        (repeat (first | ((first | refine pas_plain rfl ?_ | refine pas_g rfl rfl ?_ | refine act_plain rfl ?_ | refine act_g rfl rfl ?_ | refine last_plain rfl ?_ | refine tail_plain rfl ?_ | refine tail_g rfl rfl ?_); (repeat simp only [push_cast, Nat.reduceBEq, Nat.reduceLT, Nat.reduceEqDiff, reduceIte, reduceCtorEq, Nat.reduceMul, Nat.reduceAdd, Nat.reduceSub, Int.reduceEq, Int.reduceLT, Int.reduceLE, Int.reduceNeg, Int.reduceAdd, Int.reduceSub, Int.reduceMul, Nat.reduceLeDiff, Int.reduceToNat, eq_self, cell_h, cellO_cells, hhd, b0, b1, b2, b3])) | (refine tail_fin ?_) | (refine sch_fin ?_)))
        refine build_struct Try.zeroValue105 un105 pl105 (cs := #[.int .i64 i, .bool false]) (by rfl) ?_
        (repeat (first | ((first | refine pas_plain rfl ?_ | refine pas_g rfl rfl ?_ | refine act_plain rfl ?_ | refine act_g rfl rfl ?_ | refine last_plain rfl ?_ | refine tail_plain rfl ?_ | refine tail_g rfl rfl ?_); (repeat simp only [push_cast, Nat.reduceBEq, Nat.reduceLT, Nat.reduceEqDiff, reduceIte, reduceCtorEq, Nat.reduceMul, Nat.reduceAdd, Nat.reduceSub, Int.reduceEq, Int.reduceLT, Int.reduceLE, Int.reduceNeg, Int.reduceAdd, Int.reduceSub, Int.reduceMul, Nat.reduceLeDiff, Int.reduceToNat, eq_self, cell_h, cellO_cells, hhd, b0, b1, b2, b3])) | (refine tail_fin ?_) | (refine sch_fin ?_)))
        have hent : (Value.agg #[.int .i64 i, .bool false]).cells.toList = entCells [i] := by simp [vcells_agg, entCells, entOf, hi]
        have hone : ((Value.agg #[.int .i64 i, .bool false]).cells.toList).all oneCell = true := by rfl
        have hlist : entCells (l.take k) ++ entCells [i] ++ entCells (l.drop k) = entCells (l.take k ++ i :: l.drop k) := by rw [← entCells_append, ← entCells_append]; simp
        have hlk : (l.take k).length = k := by simp; omega
        have hs1 : ∀ w2, Ext wd w2 → RdAt w2 2 (.slice (if c = 0 then a else Option.map (fun x => x.add 0) a) k c) ((entCells l).take (k * 2)) := fun w2 hx => (hsd.ext hx).pre hkl
        rw [entCells_take] at hs1
        have fin : ∀ v w5 bo5, SlAt w5 2 v (entCells (l.take k) ++ entCells [i] ++ entCells (l.drop k)) bo5 → Ext w w5 → (∀ b, bo5 = some b → w.heap.size ≤ b) →
            ∃ x y z, v = .slice x y z ∧ canStore w5 ⟨pr, 1, none⟩ ∧ RL (w5.setCell ⟨pr, 1, none⟩ v) (gS S w (w5.setCell ⟨pr, 1, none⟩ v)) pr pb L (l.take k ++ i :: l.drop k) ∧ Upd S w (w5.setCell ⟨pr, 1, none⟩ v) := by
          intro v w5 bo5 g1 g2 g3
          rw [hlist] at g1
          obtain ⟨x, y, z, e, _⟩ := g1.len
          exact ⟨x, y, z, e, rl_put h1 h2 h3 h4 h5 g1 g2 (fun b _ e => e.elim) fun b hb => .inr (g3 b hb)⟩
        refine two_mk ?_ ?_
        · (repeat (first | ((first | refine pas_plain rfl ?_ | refine pas_g rfl rfl ?_ | refine act_plain rfl ?_ | refine act_g rfl rfl ?_ | refine last_plain rfl ?_ | refine tail_plain rfl ?_ | refine tail_g rfl rfl ?_); (repeat simp only [push_cast, Nat.reduceBEq, Nat.reduceLT, Nat.reduceEqDiff, reduceIte, reduceCtorEq, Nat.reduceMul, Nat.reduceAdd, Nat.reduceSub, Int.reduceEq, Int.reduceLT, Int.reduceLE, Int.reduceNeg, Int.reduceAdd, Int.reduceSub, Int.reduceMul, Nat.reduceLeDiff, Int.reduceToNat])) | (refine tail_fin ?_) | (refine sch_fin ?_)))
          simp only [Nat.sub_zero]
          refine app_to_rd sty76 sty76.und (by decide) (SlAt.nil wd 2) (hs1 wd (Ext.refl _)) (entCells_one _) (by simp [entCells_length]; omega) ?_
          intro v1 w2 bo2 g1 g2 g3
          rw [List.nil_append] at g1
          have hx2 : Ext wd w2 := g2.mono fun b _ e => by cases e
          have hz2 := hx2.alike.size
          refine ⟨kept_upd hx2 fun b' hb => ⟨by have : b' = pr := hb; omega, id⟩, ?_⟩
          (repeat (first | ((first | refine pas_plain rfl ?_ | refine pas_g rfl rfl ?_ | refine act_plain rfl ?_ | refine act_g rfl rfl ?_ | refine last_plain rfl ?_ | refine tail_plain rfl ?_ | refine tail_g rfl rfl ?_); (repeat simp only [push_cast, Nat.reduceBEq, Nat.reduceLT, Nat.reduceEqDiff, reduceIte, reduceCtorEq, Nat.reduceMul, Nat.reduceAdd, Nat.reduceSub, Int.reduceEq, Int.reduceLT, Int.reduceLE, Int.reduceNeg, Int.reduceAdd, Int.reduceSub, Int.reduceMul, Nat.reduceLeDiff, Int.reduceToNat])) | (refine tail_fin ?_) | (refine sch_fin ?_)))
          refine bs_one sty76 (by decide) (by decide) (v := .agg #[.int .i64 i, .bool false]) rfl ?_
          have hx3 := Ext.alloc w2 (.cells (Value.agg #[.int .i64 i, .bool false]).cells 105)
          have hz3 := hx3.alike.size
          refine ⟨kept_upd hx3 fun b' hb => ⟨by have : b' = pr := hb; omega, id⟩, ?_⟩
          (repeat (first | ((first | refine pas_plain rfl ?_ | refine pas_g rfl rfl ?_ | refine act_plain rfl ?_ | refine act_g rfl rfl ?_ | refine last_plain rfl ?_ | refine tail_plain rfl ?_ | refine tail_g rfl rfl ?_); (repeat simp only [push_cast, Nat.reduceBEq, Nat.reduceLT, Nat.reduceEqDiff, reduceIte, reduceCtorEq, Nat.reduceMul, Nat.reduceAdd, Nat.reduceSub, Int.reduceEq, Int.reduceLT, Int.reduceLE, Int.reduceNeg, Int.reduceAdd, Int.reduceSub, Int.reduceMul, Nat.reduceLeDiff, Int.reduceToNat])) | (refine tail_fin ?_) | (refine sch_fin ?_)))
          refine app_to sty76 sty76.und (by decide) (g1.ext hx3) (SlAt.new w2 2 (Value.agg #[.int .i64 i, .bool false]).cells 105 1 rfl) hone (by rw [hent]; simp [entCells_length]; omega) ?_
          intro v2 w4 bo4 k1 k2 k3
          rw [hent] at k1
          have hb2 : ∀ b, bo2 = some b → wd.heap.size ≤ b := fun b hb => by
            rcases g3 b hb with h | h
            · cases h
            · exact h
          have hx4 : Ext wd w4 := Upd.trans (hx2.trans hx3) k2 fun b hb e => by have := hb2 b e; omega
          have hz4 := hx4.alike.size
          have hb4 : ∀ b, bo4 = some b → wd.heap.size ≤ b := fun b hb => by
            rcases k3 b hb with h | h
            · exact hb2 b h
            · omega
          refine ⟨kept_upd k2 fun b' hb => ⟨by have : b' = pr := hb; omega, fun e => by have : b' = pr := hb; have := hb2 b' e; omega⟩, ?_⟩
          (repeat (first | ((first | refine pas_plain rfl ?_ | refine pas_g rfl rfl ?_ | refine act_plain rfl ?_ | refine act_g rfl rfl ?_ | refine last_plain rfl ?_ | refine tail_plain rfl ?_ | refine tail_g rfl rfl ?_); (repeat simp only [push_cast, Nat.reduceBEq, Nat.reduceLT, Nat.reduceEqDiff, reduceIte, reduceCtorEq, Nat.reduceMul, Nat.reduceAdd, Nat.reduceSub, Int.reduceEq, Int.reduceLT, Int.reduceLE, Int.reduceNeg, Int.reduceAdd, Int.reduceSub, Int.reduceMul, Nat.reduceLeDiff, Int.reduceToNat])) | (refine tail_fin ?_) | (refine sch_fin ?_)))
          refine app_to_rd sty76 sty76.und (by decide) k1 ((hsd.ext hx4).suf (k := k) hkl fun hne => by rw [if_neg hne]) (by rw [entCells_drop]; exact entCells_one _) (by rw [entCells_drop]; simp [entCells_length]; omega) ?_
          intro v3 w5 bo5 q1 q2 q3
          rw [entCells_drop] at q1
          have hx5 : Ext wd w5 := Upd.trans hx4 q2 fun b hb e => by have := hb4 b e; omega
          obtain ⟨x, y, z, e, p1, p2, p3⟩ := fin v3 w5 bo5 q1 (hxd.trans hx5) fun b hb => by
            rcases q3 b hb with h | h
            · have := hb4 b h; omega
            · omega
          subst e
          refine ⟨kept_upd q2 fun b' hb => ⟨by have : b' = pr := hb; omega, fun e => by have : b' = pr := hb; have := hb4 b' e; omega⟩, ?_⟩
          have hh5 := hx5.blk hhd
          (repeat (first | ((first | refine pas_plain rfl ?_ | refine pas_g rfl rfl ?_ | refine act_plain rfl ?_ | refine act_g rfl rfl ?_ | refine last_plain rfl ?_ | refine tail_plain rfl ?_ | refine tail_g rfl rfl ?_); (repeat simp only [push_cast, Nat.reduceBEq, Nat.reduceLT, Nat.reduceEqDiff, reduceIte, reduceCtorEq, Nat.reduceMul, Nat.reduceAdd, Nat.reduceSub, Int.reduceEq, Int.reduceLT, Int.reduceLE, Int.reduceNeg, Int.reduceAdd, Int.reduceSub, Int.reduceMul, Nat.reduceLeDiff, Int.reduceToNat, cell_h, cellO_cells, hh5, p1])) | (refine tail_fin ?_) | (refine sch_fin ?_)))
          ((repeat simp only [push_cast, Nat.reduceBEq, Nat.reduceLT, Nat.reduceEqDiff, reduceIte, reduceCtorEq, Nat.reduceMul, Nat.reduceAdd, Nat.reduceSub, Int.reduceEq, Int.reduceLT, Int.reduceLE, Int.reduceNeg, Int.reduceAdd, Int.reduceSub, Int.reduceMul, Nat.reduceLeDiff, Int.reduceToNat]); (repeat (first | (with_reducible first | (refine hK _ _ ?_; clear hK K) | refine (show ∀ σ' w', _ → K σ' w' from by assumption) _ _ ?_ | refine W_seq_k fun K hK => ?_ | refine W_block_k fun K hK => ?_ | refine W_skip ?_ | refine W_ret ?_) | ((first | ((with_reducible refine W_id ?_); refine W_reg (by decide) (by rfl) ?_) | (with_reducible first | refine W_cond ?_ | refine hZ _ _ ?_ | refine W_exit ?_ | refine Wo_id ?_)); repeat1' simp only [push_cast, Nat.reduceBEq, Nat.reduceLT, Nat.reduceEqDiff, reduceIte, reduceCtorEq, Nat.reduceMul, Nat.reduceAdd, Nat.reduceSub, Int.reduceEq, Int.reduceLT, Int.reduceLE, Int.reduceNeg, Int.reduceAdd, Int.reduceSub, Int.reduceMul, Nat.reduceLeDiff, Int.reduceToNat]) | ((repeat ((fail_if_success with_reducible refine hK _ _ ?_); clear hK K)); (with_reducible refine hK _ _ ?_); clear hK K))))
          exact ⟨p2, p3⟩
        · (repeat (first | ((first | refine pas_plain rfl ?_ | refine pas_g rfl rfl ?_ | refine act_plain rfl ?_ | refine act_g rfl rfl ?_ | refine last_plain rfl ?_ | refine tail_plain rfl ?_ | refine tail_g rfl rfl ?_); (repeat simp only [push_cast, Nat.reduceBEq, Nat.reduceLT, Nat.reduceEqDiff, reduceIte, reduceCtorEq, Nat.reduceMul, Nat.reduceAdd, Nat.reduceSub, Int.reduceEq, Int.reduceLT, Int.reduceLE, Int.reduceNeg, Int.reduceAdd, Int.reduceSub, Int.reduceMul, Nat.reduceLeDiff, Int.reduceToNat])) | (refine tail_fin ?_) | (refine sch_fin ?_)))
          refine bs_one sty76 (by decide) (by decide) (v := .agg #[.int .i64 i, .bool false]) rfl ?_
          have hx2 := Ext.alloc wd (.cells (Value.agg #[.int .i64 i, .bool false]).cells 105)
          have hnew := SlAt.new wd 2 (Value.agg #[.int .i64 i, .bool false]).cells 105 1 rfl
          have hz2 := hx2.alike.size
          generalize wd.alloc (.cells (Value.agg #[.int .i64 i, .bool false]).cells 105) = w2 at *
          refine ⟨kept_upd hx2 fun b' hb => ⟨by have : b' = pr := hb; omega, id⟩, ?_⟩
          (repeat (first | ((first | refine pas_plain rfl ?_ | refine pas_g rfl rfl ?_ | refine act_plain rfl ?_ | refine act_g rfl rfl ?_ | refine last_plain rfl ?_ | refine tail_plain rfl ?_ | refine tail_g rfl rfl ?_); (repeat simp only [push_cast, Nat.reduceBEq, Nat.reduceLT, Nat.reduceEqDiff, reduceIte, reduceCtorEq, Nat.reduceMul, Nat.reduceAdd, Nat.reduceSub, Int.reduceEq, Int.reduceLT, Int.reduceLE, Int.reduceNeg, Int.reduceAdd, Int.reduceSub, Int.reduceMul, Nat.reduceLeDiff, Int.reduceToNat])) | (refine tail_fin ?_) | (refine sch_fin ?_)))
          simp only [Nat.sub_zero]
          refine app_to_rd sty76 sty76.und (by decide) (SlAt.nil w2 2) (hs1 w2 hx2) (entCells_one _) (by simp [entCells_length]; omega) ?_
          intro v1 w3 bo3 g1 g2 g3
          rw [List.nil_append] at g1
          have hx3 : Ext w2 w3 := g2.mono fun b _ e => by cases e
          have hz3 := hx3.alike.size
          refine ⟨kept_upd hx3 fun b' hb => ⟨by have : b' = pr := hb; omega, id⟩, ?_⟩
          (repeat (first | ((first | refine pas_plain rfl ?_ | refine pas_g rfl rfl ?_ | refine act_plain rfl ?_ | refine act_g rfl rfl ?_ | refine last_plain rfl ?_ | refine tail_plain rfl ?_ | refine tail_g rfl rfl ?_); (repeat simp only [push_cast, Nat.reduceBEq, Nat.reduceLT, Nat.reduceEqDiff, reduceIte, reduceCtorEq, Nat.reduceMul, Nat.reduceAdd, Nat.reduceSub, Int.reduceEq, Int.reduceLT, Int.reduceLE, Int.reduceNeg, Int.reduceAdd, Int.reduceSub, Int.reduceMul, Nat.reduceLeDiff, Int.reduceToNat])) | (refine tail_fin ?_) | (refine sch_fin ?_)))
          refine app_to sty76 sty76.und (by decide) g1 (hnew.ext hx3) hone (by rw [hent]; simp [entCells_length]; omega) ?_
          intro v2 w4 bo4 k1 k2 k3
          rw [hent] at k1
          have hb2 : ∀ b, bo3 = some b → wd.heap.size ≤ b := fun b hb => by
            rcases g3 b hb with h | h
            · cases h
            · omega
          have hx4 : Ext wd w4 := Upd.trans (hx2.trans hx3) k2 fun b hb e => by have := hb2 b e; omega
          have hz4 := hx4.alike.size
          have hb4 : ∀ b, bo4 = some b → wd.heap.size ≤ b := fun b hb => by
            rcases k3 b hb with h | h
            · exact hb2 b h
            · omega
          refine ⟨kept_upd k2 fun b' hb => ⟨by have : b' = pr := hb; omega, fun e => by have : b' = pr := hb; have := hb2 b' e; omega⟩, ?_⟩
          (repeat (first | ((first | refine pas_plain rfl ?_ | refine pas_g rfl rfl ?_ | refine act_plain rfl ?_ | refine act_g rfl rfl ?_ | refine last_plain rfl ?_ | refine tail_plain rfl ?_ | refine tail_g rfl rfl ?_); (repeat simp only [push_cast, Nat.reduceBEq, Nat.reduceLT, Nat.reduceEqDiff, reduceIte, reduceCtorEq, Nat.reduceMul, Nat.reduceAdd, Nat.reduceSub, Int.reduceEq, Int.reduceLT, Int.reduceLE, Int.reduceNeg, Int.reduceAdd, Int.reduceSub, Int.reduceMul, Nat.reduceLeDiff, Int.reduceToNat])) | (refine tail_fin ?_) | (refine sch_fin ?_)))
          refine app_to_rd sty76 sty76.und (by decide) k1 ((hsd.ext hx4).suf (k := k) hkl fun hne => by rw [if_neg hne]) (by rw [entCells_drop]; exact entCells_one _) (by rw [entCells_drop]; simp [entCells_length]; omega) ?_
          intro v3 w5 bo5 q1 q2 q3
          rw [entCells_drop] at q1
          have hx5 : Ext wd w5 := Upd.trans hx4 q2 fun b hb e => by have := hb4 b e; omega
          obtain ⟨x, y, z, e, p1, p2, p3⟩ := fin v3 w5 bo5 q1 (hxd.trans hx5) fun b hb => by
            rcases q3 b hb with h | h
            · have := hb4 b h; omega
            · omega
          subst e
          refine ⟨kept_upd q2 fun b' hb => ⟨by have : b' = pr := hb; omega, fun e => by have : b' = pr := hb; have := hb4 b' e; omega⟩, ?_⟩
          have hh5 := hx5.blk hhd
          (repeat (first | ((first | refine pas_plain rfl ?_ | refine pas_g rfl rfl ?_ | refine act_plain rfl ?_ | refine act_g rfl rfl ?_ | refine last_plain rfl ?_ | refine tail_plain rfl ?_ | refine tail_g rfl rfl ?_); (repeat simp only [push_cast, Nat.reduceBEq, Nat.reduceLT, Nat.reduceEqDiff, reduceIte, reduceCtorEq, Nat.reduceMul, Nat.reduceAdd, Nat.reduceSub, Int.reduceEq, Int.reduceLT, Int.reduceLE, Int.reduceNeg, Int.reduceAdd, Int.reduceSub, Int.reduceMul, Nat.reduceLeDiff, Int.reduceToNat, cell_h, cellO_cells, hh5, p1])) | (refine tail_fin ?_) | (refine sch_fin ?_)))
          ((repeat simp only [push_cast, Nat.reduceBEq, Nat.reduceLT, Nat.reduceEqDiff, reduceIte, reduceCtorEq, Nat.reduceMul, Nat.reduceAdd, Nat.reduceSub, Int.reduceEq, Int.reduceLT, Int.reduceLE, Int.reduceNeg, Int.reduceAdd, Int.reduceSub, Int.reduceMul, Nat.reduceLeDiff, Int.reduceToNat]); (repeat (first | (with_reducible first | (refine hK _ _ ?_; clear hK K) | refine (show ∀ σ' w', _ → K σ' w' from by assumption) _ _ ?_ | refine W_seq_k fun K hK => ?_ | refine W_block_k fun K hK => ?_ | refine W_skip ?_ | refine W_ret ?_) | ((first | ((with_reducible refine W_id ?_); refine W_reg (by decide) (by rfl) ?_) | (with_reducible first | refine W_cond ?_ | refine hZ _ _ ?_ | refine W_exit ?_ | refine Wo_id ?_)); repeat1' simp only [push_cast, Nat.reduceBEq, Nat.reduceLT, Nat.reduceEqDiff, reduceIte, reduceCtorEq, Nat.reduceMul, Nat.reduceAdd, Nat.reduceSub, Int.reduceEq, Int.reduceLT, Int.reduceLE, Int.reduceNeg, Int.reduceAdd, Int.reduceSub, Int.reduceMul, Nat.reduceLeDiff, Int.reduceToNat]) | ((repeat ((fail_if_success with_reducible refine hK _ _ ?_); clear hK K)); (with_reducible refine hK _ _ ?_); clear hK K))))
          exact ⟨p2, p3⟩
    · have b1 : (l.length : Int) < (k : Int) := by omega
      rw [if_neg (by omega)]
      refine Gives.of_W Try.call78 Try.func78 rfl Try.ntmps78 (by simp) ?_; intro Z hZ
      (repeat (first | (with_reducible first | (refine hK _ _ ?_; clear hK K) | refine (show ∀ σ' w', _ → K σ' w' from by assumption) _ _ ?_ | refine W_seq_k fun K hK => ?_ | refine W_block_k fun K hK => ?_ | refine W_skip ?_ | refine W_ret ?_) | ((first | ((with_reducible refine W_id ?_); refine W_reg (by decide) (by rfl) ?_) | (with_reducible first | refine W_cond ?_ | refine hZ _ _ ?_ | refine W_exit ?_ | refine Wo_id ?_)); repeat1' simp only [push_cast, Nat.reduceBEq, Nat.reduceLT, Nat.reduceEqDiff, reduceIte, reduceCtorEq, Nat.reduceMul, Nat.reduceAdd, Nat.reduceSub, Int.reduceEq, Int.reduceLT, Int.reduceLE, Int.reduceNeg, Int.reduceAdd, Int.reduceSub, Int.reduceMul, Nat.reduceLeDiff, Int.reduceToNat, cell_h, cellO_cells, hhr]) | ((repeat ((fail_if_success with_reducible refine hK _ _ ?_); clear hK K)); (with_reducible refine hK _ _ ?_); clear hK K)))
      refine hkd.mono ?_
      intro v w' ⟨hv, hw⟩
      subst hv; subst w'
      ((repeat simp only [push_cast, Nat.reduceBEq, Nat.reduceLT, Nat.reduceEqDiff, reduceIte, reduceCtorEq, Nat.reduceMul, Nat.reduceAdd, Nat.reduceSub, Int.reduceEq, Int.reduceLT, Int.reduceLE, Int.reduceNeg, Int.reduceAdd, Int.reduceSub, Int.reduceMul, Nat.reduceLeDiff, Int.reduceToNat, cell_h, cellO_cells, hhr, hk0, b0, b1, not_true_eq_false]); (repeat (first | (with_reducible first | (refine hK _ _ ?_; clear hK K) | refine (show ∀ σ' w', _ → K σ' w' from by assumption) _ _ ?_ | refine W_seq_k fun K hK => ?_ | refine W_block_k fun K hK => ?_ | refine W_skip ?_ | refine W_ret ?_) | ((first | ((with_reducible refine W_id ?_); refine W_reg (by decide) (by rfl) ?_) | (with_reducible first | refine W_cond ?_ | refine hZ _ _ ?_ | refine W_exit ?_ | refine Wo_id ?_)); repeat1' simp only [push_cast, Nat.reduceBEq, Nat.reduceLT, Nat.reduceEqDiff, reduceIte, reduceCtorEq, Nat.reduceMul, Nat.reduceAdd, Nat.reduceSub, Int.reduceEq, Int.reduceLT, Int.reduceLE, Int.reduceNeg, Int.reduceAdd, Int.reduceSub, Int.reduceMul, Nat.reduceLeDiff, Int.reduceToNat, cell_h, cellO_cells, hhr, hk0, b0, b1, not_true_eq_false]) | ((repeat ((fail_if_success with_reducible refine hK _ _ ?_); clear hK K)); (with_reducible refine hK _ _ ?_); clear hK K))))
      exact no
  · rw [if_neg hk3]
    refine Gives.of_W Try.call78 Try.func78 rfl Try.ntmps78 (by simp) ?_; intro Z hZ
    (repeat (first | (with_reducible first | (refine hK _ _ ?_; clear hK K) | refine (show ∀ σ' w', _ → K σ' w' from by assumption) _ _ ?_ | refine W_seq_k fun K hK => ?_ | refine W_block_k fun K hK => ?_ | refine W_skip ?_ | refine W_ret ?_) | ((first | ((with_reducible refine W_id ?_); refine W_reg (by decide) (by rfl) ?_) | (with_reducible first | refine W_cond ?_ | refine hZ _ _ ?_ | refine W_exit ?_ | refine Wo_id ?_)); repeat1' simp only [push_cast, Nat.reduceBEq, Nat.reduceLT, Nat.reduceEqDiff, reduceIte, reduceCtorEq, Nat.reduceMul, Nat.reduceAdd, Nat.reduceSub, Int.reduceEq, Int.reduceLT, Int.reduceLE, Int.reduceNeg, Int.reduceAdd, Int.reduceSub, Int.reduceMul, Nat.reduceLeDiff, Int.reduceToNat, cell_h, cellO_cells, hhr]) | ((repeat ((fail_if_success with_reducible refine hK _ _ ?_); clear hK K)); (with_reducible refine hK _ _ ?_); clear hK K)))
    refine hkd.mono ?_
    intro v w' ⟨hv, hw⟩
    subst hv; subst w'
    ((repeat simp only [push_cast, Nat.reduceBEq, Nat.reduceLT, Nat.reduceEqDiff, reduceIte, reduceCtorEq, Nat.reduceMul, Nat.reduceAdd, Nat.reduceSub, Int.reduceEq, Int.reduceLT, Int.reduceLE, Int.reduceNeg, Int.reduceAdd, Int.reduceSub, Int.reduceMul, Nat.reduceLeDiff, Int.reduceToNat, cell_h, cellO_cells, hhr, hk3, not_false_eq_true]); (repeat (first | (with_reducible first | (refine hK _ _ ?_; clear hK K) | refine (show ∀ σ' w', _ → K σ' w' from by assumption) _ _ ?_ | refine W_seq_k fun K hK => ?_ | refine W_block_k fun K hK => ?_ | refine W_skip ?_ | refine W_ret ?_) | ((first | ((with_reducible refine W_id ?_); refine W_reg (by decide) (by rfl) ?_) | (with_reducible first | refine W_cond ?_ | refine hZ _ _ ?_ | refine W_exit ?_ | refine Wo_id ?_)); repeat1' simp only [push_cast, Nat.reduceBEq, Nat.reduceLT, Nat.reduceEqDiff, reduceIte, reduceCtorEq, Nat.reduceMul, Nat.reduceAdd, Nat.reduceSub, Int.reduceEq, Int.reduceLT, Int.reduceLE, Int.reduceNeg, Int.reduceAdd, Int.reduceSub, Int.reduceMul, Nat.reduceLeDiff, Int.reduceToNat, cell_h, cellO_cells, hhr, hk3, not_false_eq_true]) | ((repeat ((fail_if_success with_reducible refine hK _ _ ?_); clear hK K)); (with_reducible refine hK _ _ ?_); clear hK K))))
    exact no
end
end Go.Proofs.Ytkafpameheohdaa
end
