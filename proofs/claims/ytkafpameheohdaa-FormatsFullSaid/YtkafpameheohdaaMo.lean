/- More: an element is given attributes that it has not. -/
import Derived.Test.YtkafpameheohdaaHd
import Derived.Test.YtkafpameheohdaaTl0
set_option linter.unusedSimpArgs false
set_option linter.unusedVariables false
namespace Go.Vk
theorem ArM.setAttrs {w w1 : World} {pa bn cap : Nat} {M : List Laid} (h : ArM w pa bn cap M) {p : Nat} {m : Laid} (hm : M[p]? = some m) {v : Value} {ks : List (ByteArray × ByteArray)} {bo : Option Nat} (g1 : SlAt w1 2 v (attrCells ks) bo)
    (g2 : Upd (fun b => m.ab = some b) w w1) (g3 : ∀ b, bo = some b → m.ab = some b ∨ w.heap.size ≤ b) :
    canStore w1 ⟨bn, p * 11 + 4, none⟩ ∧ ArM (w1.setCell ⟨bn, p * 11 + 4, none⟩ v) pa bn cap (M.set p { nd := Vk.setAttrs ks m.nd, av := v, kv := m.kv, ab := bo, kb := m.kb }) := by
  have hbm : ∀ b, m.ab = some b → b ∈ m.blks := fun b hb => by simp [Laid.blks, hb]
  obtain ⟨nd1, nd2, nd3⟩ := h.nd_blks (List.mem_of_getElem? hm)
  have hbody := h.body.upd g2 fun b hb e => by cases hb; exact nd3 (hbm _ e)
  refine ⟨?_, h.repl hm _ 4 v rfl (by decide) g2 (fun b _ hb => hbm b hb) ⟨g1, (h.sub m (List.mem_of_getElem? hm)).kids.upd g2 fun b hb e => by simp [Laid.blks, hb, e] at nd1⟩ (fun b hb => ?_) ?_⟩
  · have := hbody.can (i := p * 11 + 4) (by rw [flat_length]; have := (List.getElem?_eq_some_iff.1 hm).1; omega)
    simpa using this
  · simp only [Laid.blks, List.mem_append, Option.mem_toList] at hb
    rcases hb with hb | hb
    · rcases g3 b hb with h | h
      · exact .inl (hbm b h)
      · exact .inr h
    · exact .inl (by simp [Laid.blks, hb])
  · simp only [Laid.blks]
    have hkb : ∀ b, m.kb = some b → b < w.heap.size := fun b hb => (h.sub m (List.mem_of_getElem? hm)).lt (by simp [Laid.blks, hb])
    cases ha : m.kb with
    | none => cases bo <;> simp
    | some a =>
      cases hbo : bo with
      | none => simp
      | some c =>
        have : c ≠ a := fun e => by
          subst e
          rcases g3 c hbo with h | h
          · simp [Laid.blks, ha, h] at nd1
          · have := hkb c ha; omega
        simp [this]
theorem attrCells_get0 {l : List (ByteArray × ByteArray)} {i : Nat} {x : ByteArray × ByteArray} (h : l[i]? = some x) : (attrCells l)[i * 2]? = some (.string x.1) ∧ (attrCells l)[i * 2 + 1]? = some (.string x.2) := by
  induction l generalizing i with
  | nil => simp at h
  | cons y r ih =>
    cases i with
    | zero => simp only [List.getElem?_cons_zero, Option.some.injEq] at h; subst h; exact ⟨rfl, rfl⟩
    | succ i =>
      rw [List.getElem?_cons_succ] at h
      obtain ⟨h1, h2⟩ := ih h
      rw [show (i + 1) * 2 = i * 2 + 1 + 1 by omega]
      exact ⟨h1, h2⟩
theorem attrs_len {w : World} {v : Value} {l : List (ByteArray × ByteArray)} (h : RdAt w 2 v (attrCells l)) : ∃ a c, v = .slice a l.length c ∧ l.length ≤ c ∧ ∀ i x, l[i]? = some x → ∃ b o, a = some ⟨b, o, none⟩ ∧ w.cell? ⟨b, o + i * 2, none⟩ = some (.string x.1) ∧ w.cell? ⟨b, o + i * 2 + 1, none⟩ = some (.string x.2) := by
  obtain ⟨a, n, c, rfl, h2, h3, h4⟩ := h
  rw [attrCells_length] at h3
  obtain rfl : n = l.length := by omega
  refine ⟨a, c, rfl, h2, fun i x hx => ?_⟩
  obtain ⟨g1, g2⟩ := attrCells_get0 hx
  obtain ⟨b, o, rfl, k1⟩ := h4 _ _ g1
  obtain ⟨b', o', e, k2⟩ := h4 _ _ g2
  cases e
  exact ⟨b, o, rfl, k1, by rw [Nat.add_assoc]; exact k2⟩
def idxA (p : ByteArray × ByteArray → Bool) : List (ByteArray × ByteArray) → Nat → Int
  | [], _ => -1
  | y :: r, k => if p y = true then k else idxA p r (k + 1)
theorem idxA_any (p : ByteArray × ByteArray → Bool) : ∀ (l : List (ByteArray × ByteArray)) (k : Nat), decide (0 ≤ idxA p l k) = l.any p
  | [], k => by simp [idxA]
  | y :: r, k => by
    rw [idxA, List.any_cons]
    by_cases h : p y = true
    · rw [if_pos h, h]; simp
    · rw [if_neg h, idxA_any p r]; simp [h]
theorem idxA_skip (p : ByteArray × ByteArray → Bool) : ∀ (l : List (ByteArray × ByteArray)) (j k : Nat), (∀ y ∈ l.take j, p y = false) → j ≤ l.length → idxA p l k = idxA p (l.drop j) (k + j)
  | l, 0, k, _, _ => by simp
  | [], j + 1, k, _, h => by simp at h
  | y :: r, j + 1, k, h, hl => by
    rw [idxA, if_neg (by simp [h y (by simp)]), List.drop_succ_cons, idxA_skip p r j (k + 1) (fun z hz => h z (by simp [hz])) (by simpa using hl)]
    congr 1; omega
end Go.Vk
namespace Go.Proofs.Ytkafpameheohdaa
open Go.Vk
set_option maxHeartbeats 40000000
theorem more1f_c {w : World} {px : Nat} {x y : ByteArray × ByteArray} (hp : w.heap[px]? = some (.cells #[.string x.1, .string x.2] 94 (0, 0))) :
    Gives Try.prog 85 #[.agg #[.string y.1, .string y.2], .pointer (some ⟨px, 0, none⟩)] w fun v w' => v = .bool (decide (y.1 = x.1)) ∧ Ext w w' := by
  have hl := blk_lt hp
  have hne : ¬ px = w.heap.size := by omega
  refine Gives.of_W Try.call85 Try.func85 rfl Try.ntmps85 (by simp) ?_; intro Z hZ
  (repeat (first | (with_reducible first | (refine hK _ _ ?_; clear hK K) | refine (show ∀ σ' w', _ → K σ' w' from by assumption) _ _ ?_ | refine W_seq_k fun K hK => ?_ | refine W_block_k fun K hK => ?_ | refine W_skip ?_ | refine W_ret ?_) | ((first | ((with_reducible refine W_id ?_); refine W_reg (by decide) (by rfl) ?_) | (with_reducible first | refine W_cond ?_ | refine hZ _ _ ?_ | refine W_exit ?_ | refine Wo_id ?_)); repeat1' simp only [push_cast, Nat.reduceBEq, Nat.reduceLT, Nat.reduceEqDiff, reduceIte, reduceCtorEq, Nat.reduceMul, Nat.reduceAdd, Nat.reduceSub, Int.reduceEq, Int.reduceLT, Int.reduceLE, Int.reduceNeg, Int.reduceAdd, Int.reduceSub, Int.reduceMul, Nat.reduceLeDiff, Int.reduceToNat, cell_h, can_h, cellO_cells, canO_cells, setO_cells, heap_set_h, heap_alloc_h, size_set_h, size_alloc_h, vcells_agg, succ_ne, ne_succ, List.setIfInBounds_toArray, List.set_cons_succ, List.set_cons_zero, setCells, drew_h, hp, hne]) | ((repeat ((fail_if_success with_reducible refine hK _ _ ?_); clear hK K)); (with_reducible refine hK _ _ ?_); clear hK K)))
  exact Ext.alloc _ _
theorem idxf_c {w : World} {v : Value} {l : List (ByteArray × ByteArray)} (ha : RdAt w 2 v (attrCells l)) (hb : l.length < 1000000000) {px : Nat} {x : ByteArray × ByteArray} (hp : w.heap[px]? = some (.cells #[.string x.1, .string x.2] 94 (0, 0))) :
    Gives Try.prog 93 #[v, .func (.func 85) #[] #[.pointer (some ⟨px, 0, none⟩)]] w fun u w' => u = .int .i64 (idxA (fun y => decide (y.1 = x.1)) l 0) ∧ Ext w w' := by
  obtain ⟨a, c, rfl, hc, hcell⟩ := attrs_len ha
  refine Gives.of_W Try.call93 Try.func93 rfl Try.ntmps93 (by simp) ?_; intro Z hZ
  (repeat (first | (with_reducible first | (refine hK _ _ ?_; clear hK K) | refine (show ∀ σ' w', _ → K σ' w' from by assumption) _ _ ?_ | refine W_seq_k fun K hK => ?_ | refine W_block_k fun K hK => ?_ | refine W_skip ?_ | refine W_ret ?_) | ((first | ((with_reducible refine W_id ?_); refine W_reg (by decide) (by rfl) ?_) | (with_reducible first | refine W_cond ?_ | refine hZ _ _ ?_ | refine W_exit ?_ | refine Wo_id ?_)); repeat1' simp only [push_cast, Nat.reduceBEq, Nat.reduceLT, Nat.reduceEqDiff, reduceIte, reduceCtorEq, Nat.reduceMul, Nat.reduceAdd, Nat.reduceSub, Int.reduceEq, Int.reduceLT, Int.reduceLE, Int.reduceNeg, Int.reduceAdd, Int.reduceSub, Int.reduceMul, Nat.reduceLeDiff, Int.reduceToNat]) | ((repeat ((fail_if_success with_reducible refine hK _ _ ?_); clear hK K)); (with_reducible refine hK _ _ ?_); clear hK K)))
  refine W_loop (S := Nat) (fun k => [(0, .slice a l.length c), (1, .func (.func 85) #[] #[.pointer (some ⟨px, 0, none⟩)]), (7, .int .i64 (l.length : Int)), (8, .int .i64 (k : Int))])
    (fun k w2 => k ≤ l.length ∧ (∀ y ∈ l.take k, decide (y.1 = x.1) = false) ∧ Ext w w2) (fun k => l.length - k) 0 ?_ ?_ ?_
  · (repeat simp only [push_cast, Nat.reduceBEq, Nat.reduceLT, Nat.reduceEqDiff, reduceIte, reduceCtorEq, Nat.reduceMul, Nat.reduceAdd, Nat.reduceSub, Int.reduceEq, Int.reduceLT, Int.reduceLE, Int.reduceNeg, Int.reduceAdd, Int.reduceSub, Int.reduceMul, Nat.reduceLeDiff, Int.reduceToNat])
  · exact ⟨by omega, by simp, Ext.refl _⟩
  rintro k w2 ⟨hk, hn, hx⟩
  have hsk := idxA_skip (fun y => decide (y.1 = x.1)) l k 0 hn hk
  rw [Nat.zero_add] at hsk
  by_cases hkl : k < l.length
  · obtain ⟨y, hy⟩ : ∃ y, l[k]? = some y := ⟨_, List.getElem?_eq_getElem hkl⟩
    have hd : l.drop k = y :: l.drop (k + 1) := by
      rw [List.drop_eq_getElem_cons hkl]; congr 1
      rw [List.getElem?_eq_getElem hkl] at hy; exact Option.some.inj hy
    obtain ⟨a', c', e, _, hcell2⟩ := attrs_len (ha.ext hx)
    cases e
    obtain ⟨b, o, rfl, q1, q2⟩ := hcell2 k y hy
    have b0 : (k : Int) < (l.length : Int) := by omega
    have b1 : (0 : Int) ≤ (k : Int) := by omega
    have b2 : inI64 ((k : Int) + 1) := by unfold inI64; omega
    have hp2 := (hx.heap (blk_lt hp)).trans hp
    clear hcell hcell2
    (repeat (first | (with_reducible first | (refine hK _ _ ?_; clear hK K) | refine (show ∀ σ' w', _ → K σ' w' from by assumption) _ _ ?_ | refine W_seq_k fun K hK => ?_ | refine W_block_k fun K hK => ?_ | refine W_skip ?_ | refine W_ret ?_) | ((first | ((with_reducible refine W_id ?_); refine W_reg (by decide) (by rfl) ?_) | (with_reducible first | refine W_cond ?_ | refine hZ _ _ ?_ | refine W_exit ?_ | refine Wo_id ?_)); repeat1' simp only [push_cast, Nat.reduceBEq, Nat.reduceLT, Nat.reduceEqDiff, reduceIte, reduceCtorEq, Nat.reduceMul, Nat.reduceAdd, Nat.reduceSub, Int.reduceEq, Int.reduceLT, Int.reduceLE, Int.reduceNeg, Int.reduceAdd, Int.reduceSub, Int.reduceMul, Nat.reduceLeDiff, Int.reduceToNat, b0, b1, q1, q2]) | ((repeat ((fail_if_success with_reducible refine hK _ _ ?_); clear hK K)); (with_reducible refine hK _ _ ?_); clear hK K)))
    refine (more1f_c (y := y) hp2).mono ?_
    rintro v w3 ⟨rfl, hx3⟩
    rw [hd, idxA] at hsk
    by_cases hyx : decide (y.1 = x.1) = true
    · ((repeat simp only [push_cast, Nat.reduceBEq, Nat.reduceLT, Nat.reduceEqDiff, reduceIte, reduceCtorEq, Nat.reduceMul, Nat.reduceAdd, Nat.reduceSub, Int.reduceEq, Int.reduceLT, Int.reduceLE, Int.reduceNeg, Int.reduceAdd, Int.reduceSub, Int.reduceMul, Nat.reduceLeDiff, Int.reduceToNat, hyx]); (repeat (first | (with_reducible first | (refine hK _ _ ?_; clear hK K) | refine (show ∀ σ' w', _ → K σ' w' from by assumption) _ _ ?_ | refine W_seq_k fun K hK => ?_ | refine W_block_k fun K hK => ?_ | refine W_skip ?_ | refine W_ret ?_) | ((first | ((with_reducible refine W_id ?_); refine W_reg (by decide) (by rfl) ?_) | (with_reducible first | refine W_cond ?_ | refine hZ _ _ ?_ | refine W_exit ?_ | refine Wo_id ?_)); repeat1' simp only [push_cast, Nat.reduceBEq, Nat.reduceLT, Nat.reduceEqDiff, reduceIte, reduceCtorEq, Nat.reduceMul, Nat.reduceAdd, Nat.reduceSub, Int.reduceEq, Int.reduceLT, Int.reduceLE, Int.reduceNeg, Int.reduceAdd, Int.reduceSub, Int.reduceMul, Nat.reduceLeDiff, Int.reduceToNat, hyx]) | ((repeat ((fail_if_success with_reducible refine hK _ _ ?_); clear hK K)); (with_reducible refine hK _ _ ?_); clear hK K))))
      exact ⟨by rw [hsk, if_pos hyx], hx.trans hx3⟩
    · have hyx' : decide (y.1 = x.1) = false := by simpa using hyx
      ((repeat simp only [push_cast, Nat.reduceBEq, Nat.reduceLT, Nat.reduceEqDiff, reduceIte, reduceCtorEq, Nat.reduceMul, Nat.reduceAdd, Nat.reduceSub, Int.reduceEq, Int.reduceLT, Int.reduceLE, Int.reduceNeg, Int.reduceAdd, Int.reduceSub, Int.reduceMul, Nat.reduceLeDiff, Int.reduceToNat, hyx', b2]); (repeat (first | (with_reducible first | (refine hK _ _ ?_; clear hK K) | refine (show ∀ σ' w', _ → K σ' w' from by assumption) _ _ ?_ | refine W_seq_k fun K hK => ?_ | refine W_block_k fun K hK => ?_ | refine W_skip ?_ | refine W_ret ?_) | ((first | ((with_reducible refine W_id ?_); refine W_reg (by decide) (by rfl) ?_) | (with_reducible first | refine W_cond ?_ | refine hZ _ _ ?_ | refine W_exit ?_ | refine Wo_id ?_)); repeat1' simp only [push_cast, Nat.reduceBEq, Nat.reduceLT, Nat.reduceEqDiff, reduceIte, reduceCtorEq, Nat.reduceMul, Nat.reduceAdd, Nat.reduceSub, Int.reduceEq, Int.reduceLT, Int.reduceLE, Int.reduceNeg, Int.reduceAdd, Int.reduceSub, Int.reduceMul, Nat.reduceLeDiff, Int.reduceToNat, hyx', b2]) | ((repeat ((fail_if_success with_reducible refine hK _ _ ?_); clear hK K)); (with_reducible refine hK _ _ ?_); clear hK K))))
      refine ⟨k + 1, by omega, ?_⟩
      (repeat simp only [push_cast, Nat.reduceBEq, Nat.reduceLT, Nat.reduceEqDiff, reduceIte, reduceCtorEq, Nat.reduceMul, Nat.reduceAdd, Nat.reduceSub, Int.reduceEq, Int.reduceLT, Int.reduceLE, Int.reduceNeg, Int.reduceAdd, Int.reduceSub, Int.reduceMul, Nat.reduceLeDiff, Int.reduceToNat])
      refine ⟨by omega, fun z hz => ?_, hx.trans hx3⟩
      rw [List.take_add_one, hy] at hz
      simp only [Option.toList_some, List.mem_append, List.mem_singleton] at hz
      rcases hz with hz | rfl
      · exact hn z hz
      · exact hyx'
  · have hke : k = l.length := by omega
    subst hke
    have b0 : ¬ (l.length : Int) < (l.length : Int) := by omega
    rw [List.drop_length, idxA] at hsk
    (repeat (first | (with_reducible first | (refine hK _ _ ?_; clear hK K) | refine (show ∀ σ' w', _ → K σ' w' from by assumption) _ _ ?_ | refine W_seq_k fun K hK => ?_ | refine W_block_k fun K hK => ?_ | refine W_skip ?_ | refine W_ret ?_) | ((first | ((with_reducible refine W_id ?_); refine W_reg (by decide) (by rfl) ?_) | (with_reducible first | refine W_cond ?_ | refine hZ _ _ ?_ | refine W_exit ?_ | refine Wo_id ?_)); repeat1' simp only [push_cast, Nat.reduceBEq, Nat.reduceLT, Nat.reduceEqDiff, reduceIte, reduceCtorEq, Nat.reduceMul, Nat.reduceAdd, Nat.reduceSub, Int.reduceEq, Int.reduceLT, Int.reduceLE, Int.reduceNeg, Int.reduceAdd, Int.reduceSub, Int.reduceMul, Nat.reduceLeDiff, Int.reduceToNat, b0]) | ((repeat ((fail_if_success with_reducible refine hK _ _ ?_); clear hK K)); (with_reducible refine hK _ _ ?_); clear hK K)))
    exact ⟨by rw [hsk], hx⟩
theorem contains_c {w : World} {v : Value} {l : List (ByteArray × ByteArray)} (ha : RdAt w 2 v (attrCells l)) (hb : l.length < 1000000000) {px : Nat} {x : ByteArray × ByteArray} (hp : w.heap[px]? = some (.cells #[.string x.1, .string x.2] 94 (0, 0))) :
    Gives Try.prog 84 #[v, .func (.func 85) #[] #[.pointer (some ⟨px, 0, none⟩)]] w fun u w' => u = .bool (l.any fun y => decide (y.1 = x.1)) ∧ Ext w w' := by
  refine Gives.of_W Try.call84 Try.func84 rfl Try.ntmps84 (by simp) ?_; intro Z hZ
  (repeat (first | (with_reducible first | (refine hK _ _ ?_; clear hK K) | refine (show ∀ σ' w', _ → K σ' w' from by assumption) _ _ ?_ | refine W_seq_k fun K hK => ?_ | refine W_block_k fun K hK => ?_ | refine W_skip ?_ | refine W_ret ?_) | ((first | ((with_reducible refine W_id ?_); refine W_reg (by decide) (by rfl) ?_) | (with_reducible first | refine W_cond ?_ | refine hZ _ _ ?_ | refine W_exit ?_ | refine Wo_id ?_)); repeat1' simp only [push_cast, Nat.reduceBEq, Nat.reduceLT, Nat.reduceEqDiff, reduceIte, reduceCtorEq, Nat.reduceMul, Nat.reduceAdd, Nat.reduceSub, Int.reduceEq, Int.reduceLT, Int.reduceLE, Int.reduceNeg, Int.reduceAdd, Int.reduceSub, Int.reduceMul, Nat.reduceLeDiff, Int.reduceToNat]) | ((repeat ((fail_if_success with_reducible refine hK _ _ ?_); clear hK K)); (with_reducible refine hK _ _ ?_); clear hK K)))
  refine (idxf_c ha hb hp).mono ?_
  rintro v w' ⟨rfl, hx⟩
  have e := idxA_any (fun y => decide (y.1 = x.1)) l 0
  ((repeat simp only [push_cast, Nat.reduceBEq, Nat.reduceLT, Nat.reduceEqDiff, reduceIte, reduceCtorEq, Nat.reduceMul, Nat.reduceAdd, Nat.reduceSub, Int.reduceEq, Int.reduceLT, Int.reduceLE, Int.reduceNeg, Int.reduceAdd, Int.reduceSub, Int.reduceMul, Nat.reduceLeDiff, Int.reduceToNat]); (repeat (first | (with_reducible first | (refine hK _ _ ?_; clear hK K) | refine (show ∀ σ' w', _ → K σ' w' from by assumption) _ _ ?_ | refine W_seq_k fun K hK => ?_ | refine W_block_k fun K hK => ?_ | refine W_skip ?_ | refine W_ret ?_) | ((first | ((with_reducible refine W_id ?_); refine W_reg (by decide) (by rfl) ?_) | (with_reducible first | refine W_cond ?_ | refine hZ _ _ ?_ | refine W_exit ?_ | refine Wo_id ?_)); repeat1' simp only [push_cast, Nat.reduceBEq, Nat.reduceLT, Nat.reduceEqDiff, reduceIte, reduceCtorEq, Nat.reduceMul, Nat.reduceAdd, Nat.reduceSub, Int.reduceEq, Int.reduceLT, Int.reduceLE, Int.reduceNeg, Int.reduceAdd, Int.reduceSub, Int.reduceMul, Nat.reduceLeDiff, Int.reduceToNat]) | ((repeat ((fail_if_success with_reducible refine hK _ _ ?_); clear hK K)); (with_reducible refine hK _ _ ?_); clear hK K))))
  exact ⟨by rw [← e], hx⟩
theorem moreA_take {cs xs : List (ByteArray × ByteArray)} {k : Nat} {x : ByteArray × ByteArray} (h : xs[k]? = some x) : moreA cs (xs.take (k + 1)) = more1 (moreA cs (xs.take k)) x := by
  rw [List.take_add_one, h]; simp [moreA]
theorem moreA_len (cs : List (ByteArray × ByteArray)) : ∀ xs : List (ByteArray × ByteArray), (moreA cs xs).length ≤ cs.length + xs.length := by
  intro xs
  induction xs generalizing cs with
  | nil => simp [moreA]
  | cons x r ih =>
    have := ih (more1 cs x)
    simp only [moreA, List.foldl_cons] at this ⊢
    have h2 : (more1 cs x).length ≤ cs.length + 1 := by unfold more1; split <;> simp
    simp only [List.length_cons]; omega
def upA (L : List Nd) (i : Nat) (xs : List (ByteArray × ByteArray)) : List Nd := L.modify i fun n => setAttrs (moreA n.attrs xs) n
theorem upA_gd {L : List Nd} (h : Gd L) (i : Nat) (xs : List (ByteArray × ByteArray)) : Gd (upA L i xs) := h.modify fun n => ⟨rfl, rfl, rfl⟩
theorem upA_gN {L : List Nd} {i : Nat} (h : i < L.length) (xs : List (ByteArray × ByteArray)) : gN (upA L i xs) i = setAttrs (moreA (gN L i).attrs xs) (gN L i) := by
  rw [upA, gN_modify h, if_pos rfl]
theorem upA_set {L : List Nd} {i : Nat} (h : i < L.length) (xs ys : List (ByteArray × ByteArray)) (cs : List (ByteArray × ByteArray)) (e : moreA (gN L i).attrs ys = cs) : (upA L i xs).modify i (setAttrs cs) = upA L i ys := by
  apply List.ext_getElem?
  intro j
  simp only [upA, List.getElem?_modify]
  by_cases hj : i = j
  · subst hj
    rw [List.getElem?_eq_getElem h]
    have : gN L i = L[i] := gN_nat (List.getElem?_eq_getElem h)
    rw [this] at e
    simp only [if_true, Option.map_eq_map, Option.map_some]
    rw [e]; rfl
  · simp [hj]
theorem upA_congr {L : List Nd} {i : Nat} (h : i < L.length) (xs ys : List (ByteArray × ByteArray)) (e : moreA (gN L i).attrs ys = moreA (gN L i).attrs xs) : upA L i xs = upA L i ys := by
  apply List.ext_getElem?
  intro j
  simp only [upA, List.getElem?_modify]
  by_cases hj : i = j
  · subst hj
    have : gN L i = L[i] := gN_nat (List.getElem?_eq_getElem h)
    rw [this] at e
    rw [List.getElem?_eq_getElem h]
    simp only [if_true, Option.map_eq_map, Option.map_some]
    rw [e]
  · simp [hj]
theorem more_a {w0 w : World} {P : Nat → Prop} {pa : Nat} {L : List Nd} (h : At w0 w P pa L) (hb : L.length < 100000) (hab : ∀ n ∈ L, n.attrs.length < 1000000) {v0 : Value} {xs : List (ByteArray × ByteArray)} (hv : RdAt w0 2 v0 (attrCells xs)) (hxl : xs.length < 1000000) (i : Int) :
    Gives Try.prog 62 #[.pointer (some ⟨pa, 0, none⟩), .int .i64 i, v0] w fun v w' => v = .int .i64 (moreN L i xs).2 ∧ At w0 w' P pa (moreN L i xs).1 ∧ Upd (AF w0 P) w w' := by
  have no : At w0 w P pa L ∧ Upd (AF w0 P) w w := ⟨h, Upd.refl _ _⟩
  have hne := h.gd.ne
  by_cases h1 : 0 ≤ i ∧ i < L.length
  · obtain ⟨i, rfl⟩ : ∃ k : Nat, i = k := ⟨i.toNat, by omega⟩
    have hil : i < L.length := by omega
    obtain ⟨bn, cap, M, m, hM, hML, hF, hm, hmn, hl⟩ := h.ar.at (gN_some hil)
    have hh := hM.head
    have c0 := hM.cell hm (j := 0) (by decide)
    simp only [Laid.cells, List.getElem?_cons_zero, List.getElem?_cons_succ, Nat.add_zero, hmn] at c0
    have hi1 : (0 : Int) ≤ i := by omega
    have hi2 : (i : Int) < M.length := by omega
    have hi3 : (i : Int) < L.length := by omega
    by_cases h3 : (gN L i).kind = 3
    · have e : moreN L i xs = (upA L i xs, 0) := if_pos ⟨h1, h3⟩
      rw [e]
      obtain ⟨a, c, rfl, hc, hcell⟩ := attrs_len hv
      refine Gives.of_W Try.call62 Try.func62 rfl Try.ntmps62 (by simp) ?_; intro Z hZ
      (repeat (first | (with_reducible first | (refine hK _ _ ?_; clear hK K) | refine (show ∀ σ' w', _ → K σ' w' from by assumption) _ _ ?_ | refine W_seq_k fun K hK => ?_ | refine W_block_k fun K hK => ?_ | refine W_skip ?_ | refine W_ret ?_) | ((first | ((with_reducible refine W_id ?_); refine W_reg (by decide) (by rfl) ?_) | (with_reducible first | refine W_cond ?_ | refine hZ _ _ ?_ | refine W_exit ?_ | refine Wo_id ?_)); repeat1' simp only [push_cast, Nat.reduceBEq, Nat.reduceLT, Nat.reduceEqDiff, reduceIte, reduceCtorEq, Nat.reduceMul, Nat.reduceAdd, Nat.reduceSub, Int.reduceEq, Int.reduceLT, Int.reduceLE, Int.reduceNeg, Int.reduceAdd, Int.reduceSub, Int.reduceMul, Nat.reduceLeDiff, Int.reduceToNat]) | ((repeat ((fail_if_success with_reducible refine hK _ _ ?_); clear hK K)); (with_reducible refine hK _ _ ?_); clear hK K)))
      refine (none_c h.ar hne).mono ?_
      rintro v w' ⟨rfl, rfl⟩
      ((repeat simp only [push_cast, Nat.reduceBEq, Nat.reduceLT, Nat.reduceEqDiff, reduceIte, reduceCtorEq, Nat.reduceMul, Nat.reduceAdd, Nat.reduceSub, Int.reduceEq, Int.reduceLT, Int.reduceLE, Int.reduceNeg, Int.reduceAdd, Int.reduceSub, Int.reduceMul, Nat.reduceLeDiff, Int.reduceToNat]); (repeat (first | (with_reducible first | (refine hK _ _ ?_; clear hK K) | refine (show ∀ σ' w', _ → K σ' w' from by assumption) _ _ ?_ | refine W_seq_k fun K hK => ?_ | refine W_block_k fun K hK => ?_ | refine W_skip ?_ | refine W_ret ?_) | ((first | ((with_reducible refine W_id ?_); refine W_reg (by decide) (by rfl) ?_) | (with_reducible first | refine W_cond ?_ | refine hZ _ _ ?_ | refine W_exit ?_ | refine Wo_id ?_)); repeat1' simp only [push_cast, Nat.reduceBEq, Nat.reduceLT, Nat.reduceEqDiff, reduceIte, reduceCtorEq, Nat.reduceMul, Nat.reduceAdd, Nat.reduceSub, Int.reduceEq, Int.reduceLT, Int.reduceLE, Int.reduceNeg, Int.reduceAdd, Int.reduceSub, Int.reduceMul, Nat.reduceLeDiff, Int.reduceToNat]) | ((repeat ((fail_if_success with_reducible refine hK _ _ ?_); clear hK K)); (with_reducible refine hK _ _ ?_); clear hK K))))
      refine (has_c _ h.ar).mono ?_
      rintro v w' ⟨rfl, rfl⟩
      ((repeat simp only [push_cast, Nat.reduceBEq, Nat.reduceLT, Nat.reduceEqDiff, reduceIte, reduceCtorEq, Nat.reduceMul, Nat.reduceAdd, Nat.reduceSub, Int.reduceEq, Int.reduceLT, Int.reduceLE, Int.reduceNeg, Int.reduceAdd, Int.reduceSub, Int.reduceMul, Nat.reduceLeDiff, Int.reduceToNat, hi1, hi3, hh, hi2, c0, h3, not_true_eq_false]); (repeat (first | (with_reducible first | (refine hK _ _ ?_; clear hK K) | refine (show ∀ σ' w', _ → K σ' w' from by assumption) _ _ ?_ | refine W_seq_k fun K hK => ?_ | refine W_block_k fun K hK => ?_ | refine W_skip ?_ | refine W_ret ?_) | ((first | ((with_reducible refine W_id ?_); refine W_reg (by decide) (by rfl) ?_) | (with_reducible first | refine W_cond ?_ | refine hZ _ _ ?_ | refine W_exit ?_ | refine Wo_id ?_)); repeat1' simp only [push_cast, Nat.reduceBEq, Nat.reduceLT, Nat.reduceEqDiff, reduceIte, reduceCtorEq, Nat.reduceMul, Nat.reduceAdd, Nat.reduceSub, Int.reduceEq, Int.reduceLT, Int.reduceLE, Int.reduceNeg, Int.reduceAdd, Int.reduceSub, Int.reduceMul, Nat.reduceLeDiff, Int.reduceToNat, hi1, hi3, hh, hi2, c0, h3, not_true_eq_false]) | ((repeat ((fail_if_success with_reducible refine hK _ _ ?_); clear hK K)); (with_reducible refine hK _ _ ?_); clear hK K))))
      refine W_loop (S := Nat) (fun k => [(0, .pointer (some ⟨pa, 0, none⟩)), (1, .int .i64 (i : Int)), (28, .slice a xs.length c), (29, .int .i64 (xs.length : Int)), (30, .int .i64 (k : Int))])
        (fun k w2 => k ≤ xs.length ∧ At w0 w2 P pa (upA L i (xs.take k)) ∧ Upd (AF w0 P) w' w2) (fun k => xs.length - k) 0 ?_ ?_ ?_
      · (repeat simp only [push_cast, Nat.reduceBEq, Nat.reduceLT, Nat.reduceEqDiff, reduceIte, reduceCtorEq, Nat.reduceMul, Nat.reduceAdd, Nat.reduceSub, Int.reduceEq, Int.reduceLT, Int.reduceLE, Int.reduceNeg, Int.reduceAdd, Int.reduceSub, Int.reduceMul, Nat.reduceLeDiff, Int.reduceToNat])
      · refine ⟨by omega, ?_, Upd.refl _ _⟩
        have : upA L i (xs.take 0) = L := by
          rw [List.take_zero, upA]
          have e : (fun n : Nd => setAttrs (moreA n.attrs []) n) = id := by funext n; rfl
          rw [e]; exact List.modify_id ..
        rw [this]; exact h
      clear hh c0 hM hML hF hm hmn hl hi2
      rintro k w2 ⟨hk, hA, hu⟩
      by_cases hkl : k < xs.length
      · obtain ⟨x, hx⟩ : ∃ x, xs[k]? = some x := ⟨_, List.getElem?_eq_getElem hkl⟩
        obtain ⟨a', c', e, _, hcell2⟩ := attrs_len (hv.ext hA.ext)
        cases e
        obtain ⟨b, o, rfl, q1, q2⟩ := hcell2 k x hx
        rw [cell_h] at q1 q2
        have b0 : (k : Int) < (xs.length : Int) := by omega
        have b1 : (0 : Int) ≤ (k : Int) := by omega
        have b2 : inI64 ((k : Int) + 1) := by unfold inI64; omega
        clear hcell hcell2
        (repeat (first | (with_reducible first | (refine hK _ _ ?_; clear hK K) | refine (show ∀ σ' w', _ → K σ' w' from by assumption) _ _ ?_ | refine W_seq_k fun K hK => ?_ | refine W_block_k fun K hK => ?_ | refine W_skip ?_ | refine W_ret ?_) | ((first | ((with_reducible refine W_id ?_); refine W_reg (by decide) (by rfl) ?_) | (with_reducible first | refine W_cond ?_ | refine hZ _ _ ?_ | refine W_exit ?_ | refine Wo_id ?_)); repeat1' simp only [push_cast, Nat.reduceBEq, Nat.reduceLT, Nat.reduceEqDiff, reduceIte, reduceCtorEq, Nat.reduceMul, Nat.reduceAdd, Nat.reduceSub, Int.reduceEq, Int.reduceLT, Int.reduceLE, Int.reduceNeg, Int.reduceAdd, Int.reduceSub, Int.reduceMul, Nat.reduceLeDiff, Int.reduceToNat, cell_h, can_h, cellO_cells, canO_cells, setO_cells, heap_set_h, heap_alloc_h, size_set_h, size_alloc_h, vcells_agg, succ_ne, ne_succ, List.setIfInBounds_toArray, List.set_cons_succ, List.set_cons_zero, drew_h, b0, b1, q1, q2, RunV_zero Try.zeroValue94]) | ((repeat ((fail_if_success with_reducible refine hK _ _ ?_); clear hK K)); (with_reducible refine hK _ _ ?_); clear hK K)))
        have z1 : (w2.alloc (.cells #[.string ⟨#[]⟩, .string ⟨#[]⟩] 94)).heap[w2.heap.size]? = some (.cells #[.string ⟨#[]⟩, .string ⟨#[]⟩] 94 (0, 0)) := by rw [heap_alloc_h, if_pos rfl]
        have hp3 := setCells_all z1 (l := [.string x.1, .string x.2]) rfl
        have hx3 : Ext w2 (setCells (w2.alloc (.cells #[.string ⟨#[]⟩, .string ⟨#[]⟩] 94)) ⟨w2.heap.size, 0, none⟩ [.string x.1, .string x.2] 0) := Upd.trans (Ext.alloc w2 _) (Upd.setCells (F := fun b => b = w2.heap.size) (a := ⟨w2.heap.size, 0, none⟩) _ rfl _ 0) fun i hi e => by omega
        generalize setCells (w2.alloc (.cells #[.string ⟨#[]⟩, .string ⟨#[]⟩] 94)) ⟨w2.heap.size, 0, none⟩ [.string x.1, .string x.2] 0 = w3 at *
        have hpl := blk_lt hp3
        have hA3 : At w0 w3 (fun b => P b ∨ b = w2.heap.size) pa (upA L i (xs.take k)) := hA.guard hx3 fun b hb => by
          rcases hb with hb | rfl
          · exact .inl hb
          · exact .inr ⟨Nat.le_refl _, hpl⟩
        have hup := upA_gN hil (xs.take k)
        have hlen : (upA L i (xs.take k)).length = L.length := by simp [upA]
        obtain ⟨bn, cap, M, m, hM, hML, hF, hm, hmn, hl⟩ := hA3.ar.at (gN_some (L := upA L i (xs.take k)) (i := i) (by omega))
        have hh := hM.head
        have c4 := hM.cell hm (j := 4) (by decide)
        simp only [Laid.cells, List.getElem?_cons_zero, List.getElem?_cons_succ] at c4
        have hat := (hM.sub m (List.mem_of_getElem? hm)).attrs
        rw [hmn, hup] at hat
        simp only [setAttrs] at hat
        obtain ⟨ea, ec, eav, _⟩ := (attrs_len hat.rd)
        have hml := moreA_len (gN L i).attrs (xs.take k)
        have hal : (gN L i).attrs.length < 1000000 := hab _ (List.mem_of_getElem? (gN_some hil))
        have htk : (xs.take k).length ≤ xs.length := by rw [List.length_take]; omega
        have hmr : moreA (gN L i).attrs (xs.take (k + 1)) = more1 (moreA (gN L i).attrs (xs.take k)) x := moreA_take hx
        rw [cell_h] at hh c4
        rw [eav] at c4
        have hi2 : (i : Int) < M.length := by omega
        ((repeat simp only [push_cast, Nat.reduceBEq, Nat.reduceLT, Nat.reduceEqDiff, reduceIte, reduceCtorEq, Nat.reduceMul, Nat.reduceAdd, Nat.reduceSub, Int.reduceEq, Int.reduceLT, Int.reduceLE, Int.reduceNeg, Int.reduceAdd, Int.reduceSub, Int.reduceMul, Nat.reduceLeDiff, Int.reduceToNat, cell_h, hh, hi1, hi2, c4]); (repeat (first | (with_reducible first | (refine hK _ _ ?_; clear hK K) | refine (show ∀ σ' w', _ → K σ' w' from by assumption) _ _ ?_ | refine W_seq_k fun K hK => ?_ | refine W_block_k fun K hK => ?_ | refine W_skip ?_ | refine W_ret ?_) | ((first | ((with_reducible refine W_id ?_); refine W_reg (by decide) (by rfl) ?_) | (with_reducible first | refine W_cond ?_ | refine hZ _ _ ?_ | refine W_exit ?_ | refine Wo_id ?_)); repeat1' simp only [push_cast, Nat.reduceBEq, Nat.reduceLT, Nat.reduceEqDiff, reduceIte, reduceCtorEq, Nat.reduceMul, Nat.reduceAdd, Nat.reduceSub, Int.reduceEq, Int.reduceLT, Int.reduceLE, Int.reduceNeg, Int.reduceAdd, Int.reduceSub, Int.reduceMul, Nat.reduceLeDiff, Int.reduceToNat, cell_h, hh, hi1, hi2, c4]) | ((repeat ((fail_if_success with_reducible refine hK _ _ ?_); clear hK K)); (with_reducible refine hK _ _ ?_); clear hK K))))
        have hcon := contains_c (l := moreA (gN L i).attrs (xs.take k)) (by rw [eav] at hat; exact hat.rd) (by omega) hp3
        refine hcon.mono ?_
        rintro v w4 ⟨rfl, hx4⟩
        cases hany : (moreA (gN L i).attrs (xs.take k)).any (fun y => decide (y.1 = x.1)) with
        | true =>
          ((repeat simp only [push_cast, Nat.reduceBEq, Nat.reduceLT, Nat.reduceEqDiff, reduceIte, reduceCtorEq, Nat.reduceMul, Nat.reduceAdd, Nat.reduceSub, Int.reduceEq, Int.reduceLT, Int.reduceLE, Int.reduceNeg, Int.reduceAdd, Int.reduceSub, Int.reduceMul, Nat.reduceLeDiff, Int.reduceToNat, b2]); (repeat (first | (with_reducible first | (refine hK _ _ ?_; clear hK K) | refine (show ∀ σ' w', _ → K σ' w' from by assumption) _ _ ?_ | refine W_seq_k fun K hK => ?_ | refine W_block_k fun K hK => ?_ | refine W_skip ?_ | refine W_ret ?_) | ((first | ((with_reducible refine W_id ?_); refine W_reg (by decide) (by rfl) ?_) | (with_reducible first | refine W_cond ?_ | refine hZ _ _ ?_ | refine W_exit ?_ | refine Wo_id ?_)); repeat1' simp only [push_cast, Nat.reduceBEq, Nat.reduceLT, Nat.reduceEqDiff, reduceIte, reduceCtorEq, Nat.reduceMul, Nat.reduceAdd, Nat.reduceSub, Int.reduceEq, Int.reduceLT, Int.reduceLE, Int.reduceNeg, Int.reduceAdd, Int.reduceSub, Int.reduceMul, Nat.reduceLeDiff, Int.reduceToNat, b2]) | ((repeat ((fail_if_success with_reducible refine hK _ _ ?_); clear hK K)); (with_reducible refine hK _ _ ?_); clear hK K))))
          refine ⟨k + 1, by omega, ?_⟩
          (repeat simp only [push_cast, Nat.reduceBEq, Nat.reduceLT, Nat.reduceEqDiff, reduceIte, reduceCtorEq, Nat.reduceMul, Nat.reduceAdd, Nat.reduceSub, Int.reduceEq, Int.reduceLT, Int.reduceLE, Int.reduceNeg, Int.reduceAdd, Int.reduceSub, Int.reduceMul, Nat.reduceLeDiff, Int.reduceToNat])
          have e1 : upA L i (xs.take k) = upA L i (xs.take (k + 1)) := upA_congr hil _ _ (by rw [hmr, more1, if_pos hany])
          rw [← e1]
          exact ⟨by omega, (hA.pass (hx3.trans hx4)), Upd.trans hu (hx3.trans hx4) fun _ _ h => h.elim⟩
        | false =>
          have hx5 : Ext w3 w4.drew := hx4.trans (Ext.drew w4)
          have hA4 := hA3.pass hx5
          have hM4 := hM.frame hx5 fun _ _ h => h.elim
          have hh4 := hM4.head
          have c44 := hM4.cell hm (j := 4) (by decide)
          have hp4 := (hx5.heap hpl).trans hp3
          have hat4 := hat.ext hx5
          simp only [Laid.cells, List.getElem?_cons_zero, List.getElem?_cons_succ] at c44
          rw [eav] at c44 hat4
          rw [cell_h] at hh4 c44
          have hbl : ∀ b, m.ab = some b → b ∈ m.blks := fun b hb => by simp [Laid.blks, hb]
          have hin : ∀ b, b ∈ m.blks → b ∈ blocks pa bn M := fun b hb => by simp only [blocks, List.mem_cons, List.mem_flatMap]; exact .inr (.inr ⟨m, List.mem_of_getElem? hm, hb⟩)
          obtain ⟨nd1, nd2, nd3⟩ := hM.nd_blks (List.mem_of_getElem? hm)
          have hpx : ∀ b, m.ab = some b → ¬ b = w2.heap.size := fun b hb e => (hF b (hin b (hbl b hb))).2 (.inr e)
          have hs4 := hx5.alike.size
          have hpa4 : pa < w4.drew.heap.size := hM4.lt (by simp [blocks])
          have hbn4 : bn < w4.drew.heap.size := hM4.lt (by simp [blocks])
          have hne1 : (bn = pa) = False := by have := hM.own; simp [blocks] at this; exact eq_false fun e => this.1.1 e.symm
          ((repeat simp only [push_cast, Nat.reduceBEq, Nat.reduceLT, Nat.reduceEqDiff, reduceIte, reduceCtorEq, Nat.reduceMul, Nat.reduceAdd, Nat.reduceSub, Int.reduceEq, Int.reduceLT, Int.reduceLE, Int.reduceNeg, Int.reduceAdd, Int.reduceSub, Int.reduceMul, Nat.reduceLeDiff, Int.reduceToNat]); (repeat (first | (with_reducible first | (refine hK _ _ ?_; clear hK K) | refine (show ∀ σ' w', _ → K σ' w' from by assumption) _ _ ?_ | refine W_seq_k fun K hK => ?_ | refine W_block_k fun K hK => ?_ | refine W_skip ?_ | refine W_ret ?_) | ((first | ((with_reducible refine W_id ?_); refine W_reg (by decide) (by rfl) ?_) | (with_reducible first | refine W_cond ?_ | refine hZ _ _ ?_ | refine W_exit ?_ | refine Wo_id ?_)); repeat1' simp only [push_cast, Nat.reduceBEq, Nat.reduceLT, Nat.reduceEqDiff, reduceIte, reduceCtorEq, Nat.reduceMul, Nat.reduceAdd, Nat.reduceSub, Int.reduceEq, Int.reduceLT, Int.reduceLE, Int.reduceNeg, Int.reduceAdd, Int.reduceSub, Int.reduceMul, Nat.reduceLeDiff, Int.reduceToNat]) | ((repeat ((fail_if_success with_reducible refine hK _ _ ?_); clear hK K)); (with_reducible refine hK _ _ ?_); clear hK K))))
          refine W_draw (.pas 0 (.pas 1 (.pas 2 (.pas 3 (.pas 4 (.pas 5 (.pas 6 (.pas 7 (.pas 8 (.pas 9 (.pas 10 (.pas 11 (.pas 12 (.pas 13 (.act 14 (.act 15 (.pas 16 (.pas 17 (.last 18))))))))))))))))))) (fun b => b = pa ∨ b = bn ∨ b = w2.heap.size) (by decide) mixed (by kernel_rfl) ?_
          (repeat (first | ((first | refine pas_plain rfl ?_ | refine pas_g rfl rfl ?_ | refine act_plain rfl ?_ | refine act_g rfl rfl ?_ | refine last_plain rfl ?_ | refine tail_plain rfl ?_ | refine tail_g rfl rfl ?_); (repeat simp only [push_cast, Nat.reduceBEq, Nat.reduceLT, Nat.reduceEqDiff, reduceIte, reduceCtorEq, Nat.reduceMul, Nat.reduceAdd, Nat.reduceSub, Int.reduceEq, Int.reduceLT, Int.reduceLE, Int.reduceNeg, Int.reduceAdd, Int.reduceSub, Int.reduceMul, Nat.reduceLeDiff, Int.reduceToNat, cell_h, cellO_cells, hh4, hi1, hi2, c44, hp4, true_or, or_true, eq_self])) | (refine tail_fin ?_) | (refine sch_fin ?_)))
          refine bs_one sty27 (by decide) (by decide) (v := .agg #[.string x.1, .string x.2]) rfl ?_
          have hxa : Ext w4.drew (w4.drew.alloc (.cells (Value.agg #[.string x.1, .string x.2]).cells 94)) := Ext.alloc _ _
          have hsz : (w4.drew.alloc (.cells (Value.agg #[.string x.1, .string x.2]).cells 94)).heap.size = w4.drew.heap.size + 1 := size_alloc_h _ _
          have hBl : ∀ b, (b = pa ∨ b = bn ∨ b = w2.heap.size) → b < w4.drew.heap.size := fun b hb => by
            rcases hb with rfl | rfl | rfl
            · exact hpa4
            · exact hbn4
            · omega
          refine ⟨kept_upd hxa fun b hb => ⟨hBl b hb, id⟩, ?_⟩
          (repeat (first | ((first | refine pas_plain rfl ?_ | refine pas_g rfl rfl ?_ | refine act_plain rfl ?_ | refine act_g rfl rfl ?_ | refine last_plain rfl ?_ | refine tail_plain rfl ?_ | refine tail_g rfl rfl ?_); (repeat simp only [push_cast, Nat.reduceBEq, Nat.reduceLT, Nat.reduceEqDiff, reduceIte, reduceCtorEq, Nat.reduceMul, Nat.reduceAdd, Nat.reduceSub, Int.reduceEq, Int.reduceLT, Int.reduceLE, Int.reduceNeg, Int.reduceAdd, Int.reduceSub, Int.reduceMul, Nat.reduceLeDiff, Int.reduceToNat, cell_h, cellO_cells, hh4, hi1, hi2, c44, hp4, true_or, or_true, eq_self])) | (refine tail_fin ?_) | (refine sch_fin ?_)))
          have hs1 : SlAt (w4.drew.alloc (.cells (Value.agg #[.string x.1, .string x.2]).cells 94)) 2 (.slice (some ⟨w4.drew.heap.size, 0, none⟩) 1 1) (attrCells [x]) (some w4.drew.heap.size) := SlAt.new w4.drew 2 (Value.agg #[.string x.1, .string x.2]).cells 94 1 rfl
          have hM5 := hM4.frame hxa fun _ _ h => h.elim
          have hA5 := hA4.pass hxa
          refine app_to sty27 sty27.und (by decide) (hat4.ext hxa) hs1 (attrCells_one _) (by rw [attrCells_length, attrCells_length]; simp; omega) ?_
          intro v w6 bo g1 g2 g3
          rw [← attrCells_append] at g1
          refine ⟨kept_upd g2 fun b hb => ⟨by have := hBl b hb; omega, fun e => ?_⟩, ?_⟩
          · rcases hb with rfl | rfl | hb
            · exact nd2 (hbl _ e)
            · exact nd3 (hbl _ e)
            · exact hpx b e hb
          obtain ⟨k1, k2⟩ := hM5.setAttrs hm g1 g2 g3
          obtain ⟨va, vn, vc, rfl, _, _⟩ := g1.len
          have hsA5 := hA5.low
          have hFo : ∀ b, m.ab = some b → AF w0 (fun b => P b ∨ b = w2.heap.size) b := fun b hb => hF b (hin b (hbl b hb))
          have hU : Upd (AF w0 (fun b => P b ∨ b = w2.heap.size)) (w4.drew.alloc (.cells (Value.agg #[.string x.1, .string x.2]).cells 94)) (w6.setCell ⟨bn, i * 11 + 4, none⟩ (.slice va vn vc)) :=
            Upd.put (Upd.mono g2 fun b _ hb => hFo b hb) (hF bn (by simp [blocks]))
          (repeat (first | ((first | refine pas_plain rfl ?_ | refine pas_g rfl rfl ?_ | refine act_plain rfl ?_ | refine act_g rfl rfl ?_ | refine last_plain rfl ?_ | refine tail_plain rfl ?_ | refine tail_g rfl rfl ?_); (repeat simp only [push_cast, Nat.reduceBEq, Nat.reduceLT, Nat.reduceEqDiff, reduceIte, reduceCtorEq, Nat.reduceMul, Nat.reduceAdd, Nat.reduceSub, Int.reduceEq, Int.reduceLT, Int.reduceLE, Int.reduceNeg, Int.reduceAdd, Int.reduceSub, Int.reduceMul, Nat.reduceLeDiff, Int.reduceToNat, hi1, hi2, k1])) | (refine tail_fin ?_) | (refine sch_fin ?_)))
          ((repeat simp only [push_cast, Nat.reduceBEq, Nat.reduceLT, Nat.reduceEqDiff, reduceIte, reduceCtorEq, Nat.reduceMul, Nat.reduceAdd, Nat.reduceSub, Int.reduceEq, Int.reduceLT, Int.reduceLE, Int.reduceNeg, Int.reduceAdd, Int.reduceSub, Int.reduceMul, Nat.reduceLeDiff, Int.reduceToNat, b2]); (repeat (first | (with_reducible first | (refine hK _ _ ?_; clear hK K) | refine (show ∀ σ' w', _ → K σ' w' from by assumption) _ _ ?_ | refine W_seq_k fun K hK => ?_ | refine W_block_k fun K hK => ?_ | refine W_skip ?_ | refine W_ret ?_) | ((first | ((with_reducible refine W_id ?_); refine W_reg (by decide) (by rfl) ?_) | (with_reducible first | refine W_cond ?_ | refine hZ _ _ ?_ | refine W_exit ?_ | refine Wo_id ?_)); repeat1' simp only [push_cast, Nat.reduceBEq, Nat.reduceLT, Nat.reduceEqDiff, reduceIte, reduceCtorEq, Nat.reduceMul, Nat.reduceAdd, Nat.reduceSub, Int.reduceEq, Int.reduceLT, Int.reduceLE, Int.reduceNeg, Int.reduceAdd, Int.reduceSub, Int.reduceMul, Nat.reduceLeDiff, Int.reduceToNat, b2]) | ((repeat ((fail_if_success with_reducible refine hK _ _ ?_); clear hK K)); (with_reducible refine hK _ _ ?_); clear hK K))))
          refine ⟨k + 1, by omega, ?_⟩
          (repeat simp only [push_cast, Nat.reduceBEq, Nat.reduceLT, Nat.reduceEqDiff, reduceIte, reduceCtorEq, Nat.reduceMul, Nat.reduceAdd, Nat.reduceSub, Int.reduceEq, Int.reduceLT, Int.reduceLE, Int.reduceNeg, Int.reduceAdd, Int.reduceSub, Int.reduceMul, Nat.reduceLeDiff, Int.reduceToNat])
          have e1 : (upA L i (xs.take k)).modify i (setAttrs (moreA (gN L i).attrs (xs.take k) ++ [x])) = upA L i (xs.take (k + 1)) := upA_set hil _ _ _ (by rw [hmr, more1, if_neg (by rw [hany]; decide)])
          have hA7 : At w0 (w6.setCell ⟨bn, i * 11 + 4, none⟩ (.slice va vn vc)) (fun b => P b ∨ b = w2.heap.size) pa (upA L i (xs.take (k + 1))) := by
            refine hA5.next ⟨bn, cap, _, k2, ?_, fun b hb => ?_⟩ (upA_gd h.gd i _) hU
            · rw [map_set_modify (setAttrs (moreA (gN L i).attrs (xs.take k) ++ [x])) hm rfl, hML, e1]
            · rcases blocks_set hb with hb | hb
              · exact .inl (hF _ hb)
              · simp only [Laid.blks, List.mem_append, Option.mem_toList] at hb
                rcases hb with hb | hb
                · rcases g3 b hb with h' | h'
                  · exact .inl (hFo b h')
                  · exact .inr h'
                · exact .inl (hF b (hin b (by simp [Laid.blks, hb])))
          refine ⟨by omega, hA7.guard (Ext.refl _) fun b hb => .inl (.inl hb), ?_⟩
          have hx7 : Ext w2 (w4.drew.alloc (.cells (Value.agg #[.string x.1, .string x.2]).cells 94)) := hx3.trans (hx5.trans hxa)
          exact Upd.trans (Upd.trans hu hx7 fun _ _ h => h.elim) hU fun b _ hb => ⟨hb.1, fun hp => hb.2 (.inl hp)⟩
      · have hke : k = xs.length := by omega
        subst hke
        rw [List.take_length] at hA
        have b0 : ¬ (xs.length : Int) < (xs.length : Int) := by omega
        (repeat (first | (with_reducible first | (refine hK _ _ ?_; clear hK K) | refine (show ∀ σ' w', _ → K σ' w' from by assumption) _ _ ?_ | refine W_seq_k fun K hK => ?_ | refine W_block_k fun K hK => ?_ | refine W_skip ?_ | refine W_ret ?_) | ((first | ((with_reducible refine W_id ?_); refine W_reg (by decide) (by rfl) ?_) | (with_reducible first | refine W_cond ?_ | refine hZ _ _ ?_ | refine W_exit ?_ | refine Wo_id ?_)); repeat1' simp only [push_cast, Nat.reduceBEq, Nat.reduceLT, Nat.reduceEqDiff, reduceIte, reduceCtorEq, Nat.reduceMul, Nat.reduceAdd, Nat.reduceSub, Int.reduceEq, Int.reduceLT, Int.reduceLE, Int.reduceNeg, Int.reduceAdd, Int.reduceSub, Int.reduceMul, Nat.reduceLeDiff, Int.reduceToNat, b0]) | ((repeat ((fail_if_success with_reducible refine hK _ _ ?_); clear hK K)); (with_reducible refine hK _ _ ?_); clear hK K)))
        exact ⟨hA, hu⟩
    · have e : moreN L i xs = (L, 2) := if_neg (fun h => h3 h.2)
      rw [e]
      refine Gives.of_W Try.call62 Try.func62 rfl Try.ntmps62 (by simp) ?_; intro Z hZ
      (repeat (first | (with_reducible first | (refine hK _ _ ?_; clear hK K) | refine (show ∀ σ' w', _ → K σ' w' from by assumption) _ _ ?_ | refine W_seq_k fun K hK => ?_ | refine W_block_k fun K hK => ?_ | refine W_skip ?_ | refine W_ret ?_) | ((first | ((with_reducible refine W_id ?_); refine W_reg (by decide) (by rfl) ?_) | (with_reducible first | refine W_cond ?_ | refine hZ _ _ ?_ | refine W_exit ?_ | refine Wo_id ?_)); repeat1' simp only [push_cast, Nat.reduceBEq, Nat.reduceLT, Nat.reduceEqDiff, reduceIte, reduceCtorEq, Nat.reduceMul, Nat.reduceAdd, Nat.reduceSub, Int.reduceEq, Int.reduceLT, Int.reduceLE, Int.reduceNeg, Int.reduceAdd, Int.reduceSub, Int.reduceMul, Nat.reduceLeDiff, Int.reduceToNat]) | ((repeat ((fail_if_success with_reducible refine hK _ _ ?_); clear hK K)); (with_reducible refine hK _ _ ?_); clear hK K)))
      refine (none_c h.ar hne).mono ?_
      rintro v w' ⟨rfl, rfl⟩
      ((repeat simp only [push_cast, Nat.reduceBEq, Nat.reduceLT, Nat.reduceEqDiff, reduceIte, reduceCtorEq, Nat.reduceMul, Nat.reduceAdd, Nat.reduceSub, Int.reduceEq, Int.reduceLT, Int.reduceLE, Int.reduceNeg, Int.reduceAdd, Int.reduceSub, Int.reduceMul, Nat.reduceLeDiff, Int.reduceToNat]); (repeat (first | (with_reducible first | (refine hK _ _ ?_; clear hK K) | refine (show ∀ σ' w', _ → K σ' w' from by assumption) _ _ ?_ | refine W_seq_k fun K hK => ?_ | refine W_block_k fun K hK => ?_ | refine W_skip ?_ | refine W_ret ?_) | ((first | ((with_reducible refine W_id ?_); refine W_reg (by decide) (by rfl) ?_) | (with_reducible first | refine W_cond ?_ | refine hZ _ _ ?_ | refine W_exit ?_ | refine Wo_id ?_)); repeat1' simp only [push_cast, Nat.reduceBEq, Nat.reduceLT, Nat.reduceEqDiff, reduceIte, reduceCtorEq, Nat.reduceMul, Nat.reduceAdd, Nat.reduceSub, Int.reduceEq, Int.reduceLT, Int.reduceLE, Int.reduceNeg, Int.reduceAdd, Int.reduceSub, Int.reduceMul, Nat.reduceLeDiff, Int.reduceToNat]) | ((repeat ((fail_if_success with_reducible refine hK _ _ ?_); clear hK K)); (with_reducible refine hK _ _ ?_); clear hK K))))
      refine (has_c _ h.ar).mono ?_
      rintro v w' ⟨rfl, rfl⟩
      ((repeat simp only [push_cast, Nat.reduceBEq, Nat.reduceLT, Nat.reduceEqDiff, reduceIte, reduceCtorEq, Nat.reduceMul, Nat.reduceAdd, Nat.reduceSub, Int.reduceEq, Int.reduceLT, Int.reduceLE, Int.reduceNeg, Int.reduceAdd, Int.reduceSub, Int.reduceMul, Nat.reduceLeDiff, Int.reduceToNat, hi1, hi3, hh, hi2, c0, h3, not_false_eq_true]); (repeat (first | (with_reducible first | (refine hK _ _ ?_; clear hK K) | refine (show ∀ σ' w', _ → K σ' w' from by assumption) _ _ ?_ | refine W_seq_k fun K hK => ?_ | refine W_block_k fun K hK => ?_ | refine W_skip ?_ | refine W_ret ?_) | ((first | ((with_reducible refine W_id ?_); refine W_reg (by decide) (by rfl) ?_) | (with_reducible first | refine W_cond ?_ | refine hZ _ _ ?_ | refine W_exit ?_ | refine Wo_id ?_)); repeat1' simp only [push_cast, Nat.reduceBEq, Nat.reduceLT, Nat.reduceEqDiff, reduceIte, reduceCtorEq, Nat.reduceMul, Nat.reduceAdd, Nat.reduceSub, Int.reduceEq, Int.reduceLT, Int.reduceLE, Int.reduceNeg, Int.reduceAdd, Int.reduceSub, Int.reduceMul, Nat.reduceLeDiff, Int.reduceToNat, hi1, hi3, hh, hi2, c0, h3, not_false_eq_true]) | ((repeat ((fail_if_success with_reducible refine hK _ _ ?_); clear hK K)); (with_reducible refine hK _ _ ?_); clear hK K))))
      exact no
  · have e : moreN L i xs = (L, 2) := if_neg (fun h => h1 h.1)
    rw [e]
    refine Gives.of_W Try.call62 Try.func62 rfl Try.ntmps62 (by simp) ?_; intro Z hZ
    (repeat (first | (with_reducible first | (refine hK _ _ ?_; clear hK K) | refine (show ∀ σ' w', _ → K σ' w' from by assumption) _ _ ?_ | refine W_seq_k fun K hK => ?_ | refine W_block_k fun K hK => ?_ | refine W_skip ?_ | refine W_ret ?_) | ((first | ((with_reducible refine W_id ?_); refine W_reg (by decide) (by rfl) ?_) | (with_reducible first | refine W_cond ?_ | refine hZ _ _ ?_ | refine W_exit ?_ | refine Wo_id ?_)); repeat1' simp only [push_cast, Nat.reduceBEq, Nat.reduceLT, Nat.reduceEqDiff, reduceIte, reduceCtorEq, Nat.reduceMul, Nat.reduceAdd, Nat.reduceSub, Int.reduceEq, Int.reduceLT, Int.reduceLE, Int.reduceNeg, Int.reduceAdd, Int.reduceSub, Int.reduceMul, Nat.reduceLeDiff, Int.reduceToNat]) | ((repeat ((fail_if_success with_reducible refine hK _ _ ?_); clear hK K)); (with_reducible refine hK _ _ ?_); clear hK K)))
    refine (none_c h.ar hne).mono ?_
    rintro v w' ⟨rfl, rfl⟩
    ((repeat simp only [push_cast, Nat.reduceBEq, Nat.reduceLT, Nat.reduceEqDiff, reduceIte, reduceCtorEq, Nat.reduceMul, Nat.reduceAdd, Nat.reduceSub, Int.reduceEq, Int.reduceLT, Int.reduceLE, Int.reduceNeg, Int.reduceAdd, Int.reduceSub, Int.reduceMul, Nat.reduceLeDiff, Int.reduceToNat]); (repeat (first | (with_reducible first | (refine hK _ _ ?_; clear hK K) | refine (show ∀ σ' w', _ → K σ' w' from by assumption) _ _ ?_ | refine W_seq_k fun K hK => ?_ | refine W_block_k fun K hK => ?_ | refine W_skip ?_ | refine W_ret ?_) | ((first | ((with_reducible refine W_id ?_); refine W_reg (by decide) (by rfl) ?_) | (with_reducible first | refine W_cond ?_ | refine hZ _ _ ?_ | refine W_exit ?_ | refine Wo_id ?_)); repeat1' simp only [push_cast, Nat.reduceBEq, Nat.reduceLT, Nat.reduceEqDiff, reduceIte, reduceCtorEq, Nat.reduceMul, Nat.reduceAdd, Nat.reduceSub, Int.reduceEq, Int.reduceLT, Int.reduceLE, Int.reduceNeg, Int.reduceAdd, Int.reduceSub, Int.reduceMul, Nat.reduceLeDiff, Int.reduceToNat]) | ((repeat ((fail_if_success with_reducible refine hK _ _ ?_); clear hK K)); (with_reducible refine hK _ _ ?_); clear hK K))))
    refine (has_c _ h.ar).mono ?_
    rintro v w' ⟨rfl, rfl⟩
    ((repeat simp only [push_cast, Nat.reduceBEq, Nat.reduceLT, Nat.reduceEqDiff, reduceIte, reduceCtorEq, Nat.reduceMul, Nat.reduceAdd, Nat.reduceSub, Int.reduceEq, Int.reduceLT, Int.reduceLE, Int.reduceNeg, Int.reduceAdd, Int.reduceSub, Int.reduceMul, Nat.reduceLeDiff, Int.reduceToNat, h1]); (repeat (first | (with_reducible first | (refine hK _ _ ?_; clear hK K) | refine (show ∀ σ' w', _ → K σ' w' from by assumption) _ _ ?_ | refine W_seq_k fun K hK => ?_ | refine W_block_k fun K hK => ?_ | refine W_skip ?_ | refine W_ret ?_) | ((first | ((with_reducible refine W_id ?_); refine W_reg (by decide) (by rfl) ?_) | (with_reducible first | refine W_cond ?_ | refine hZ _ _ ?_ | refine W_exit ?_ | refine Wo_id ?_)); repeat1' simp only [push_cast, Nat.reduceBEq, Nat.reduceLT, Nat.reduceEqDiff, reduceIte, reduceCtorEq, Nat.reduceMul, Nat.reduceAdd, Nat.reduceSub, Int.reduceEq, Int.reduceLT, Int.reduceLE, Int.reduceNeg, Int.reduceAdd, Int.reduceSub, Int.reduceMul, Nat.reduceLeDiff, Int.reduceToNat, h1]) | ((repeat ((fail_if_success with_reducible refine hK _ _ ?_); clear hK K)); (with_reducible refine hK _ _ ?_); clear hK K))))
    exact no
end Go.Proofs.Ytkafpameheohdaa
