/- What the proof leans on, part 8 of 11. -/
import Derived.Test.YtkafpameheohdaaDoorQStackPlayG
section
set_option linter.unusedSimpArgs false
set_option linter.unusedVariables false
namespace Go.Vk
open Go
structure RSs (w : World) (pr pb : Nat) (lv : Value) (l : List Int) (bo : Option Nat) : Prop where
  head : w.heap[pr]? = some (.cells #[.pointer (some ⟨pb, 0, none⟩), lv] 65 (0, 0))
  sl : SlAt w 1 lv (intCells l) bo
  ne : bo ≠ some pr
theorem RSs.upd {G : Nat → Prop} {w w' : World} {pr pb : Nat} {lv : Value} {l : List Int} {bo : Option Nat} (h : RSs w pr pb lv l bo) (hu : Upd G w w') (h1 : ¬ G pr) (h2 : ∀ b, bo = some b → ¬ G b) : RSs w' pr pb lv l bo :=
  ⟨(hu.same pr (blk_lt h.head) h1).trans h.head, h.sl.upd hu h2, h.ne⟩
theorem RSs.ext {w w' : World} {pr pb : Nat} {lv : Value} {l : List Int} {bo : Option Nat} (h : RSs w pr pb lv l bo) (hx : Ext w w') : RSs w' pr pb lv l bo := h.upd hx id fun _ _ => id
def RS (w : World) (S : Nat → Prop) (pr pb : Nat) (L : List Nd) (l : List Int) : Prop :=
  ∃ lv bo F, RSs w pr pb lv l bo ∧ Ar w pb L F ∧ (∀ b, F b → S b ∧ b ≠ pr ∧ bo ≠ some b) ∧ S pr ∧ ∀ b, bo = some b → S b
theorem RS.upd {G : Nat → Prop} {w w' : World} {S S' : Nat → Prop} {pr pb : Nat} {L : List Nd} {l : List Int} (h : RS w S pr pb L l) (hu : Upd G w w') (hG : ∀ b, S b → ¬ G b) (hS : ∀ b, S b → S' b) : RS w' S' pr pb L l := by
  obtain ⟨lv, bo, F, h1, h2, h3, h4, h5⟩ := h
  exact ⟨lv, bo, F, h1.upd hu (hG _ h4) fun b hb => hG _ (h5 b hb), h2.frame hu fun b hf => hG _ (h3 b hf).1, fun b hf => ⟨hS _ (h3 b hf).1, (h3 b hf).2⟩, hS _ h4, fun b hb => hS _ (h5 b hb)⟩
theorem RS.ext {w w' : World} {S : Nat → Prop} {pr pb : Nat} {L : List Nd} {l : List Int} (h : RS w S pr pb L l) (hx : Ext w w') : RS w' S pr pb L l := h.upd hx (fun _ _ => id) fun _ => id
theorem ints_len2 {w : World} {v : Value} {l : List Int} {bo : Option Nat} (h : SlAt w 1 v (intCells l) bo) : ∃ a c, v = .slice a l.length c ∧ l.length ≤ c ∧ ∀ (i : Nat) (y : Int), l[i]? = some y → ∃ b o, a = some ⟨b, o, none⟩ ∧ bo = some b ∧ cellO (w.heap[b]?) (o + i) = some (.int .i64 y) := by
  obtain ⟨a, c, rfl, h1⟩ := h.ints_len
  refine ⟨a, c, rfl, h1, fun i y hy => ?_⟩
  have hne : intCells l ≠ [] := fun e => by
    have h3 := intCells_length l
    have h4 := (List.getElem?_eq_some_iff.1 hy).1
    rw [e] at h3; simp only [List.length_nil] at h3; omega
  obtain ⟨b, o, n', c', e, hb⟩ := h.some_of hne
  cases e
  exact ⟨b, o, rfl, hb, by rw [← cell_h]; exact h.ints_cell hy⟩
theorem Ar.node11 {w : World} {pa : Nat} {L : List Nd} {F : Nat → Prop} (h : Ar w pa L F) {q : Nat} (hq : q < L.length) : ∃ bn cap t xa xn xc ya yn yc, w.heap[pa]? = some (.cells #[.slice (some ⟨bn, 0, none⟩) L.length cap] t (0, 0)) ∧
    cellO (w.heap[bn]?) (q * 11) = some (.int .i64 L[q].kind) ∧ cellO (w.heap[bn]?) (q * 11 + 1) = some (.string L[q].name) ∧ cellO (w.heap[bn]?) (q * 11 + 2) = some (.string L[q].text) ∧ cellO (w.heap[bn]?) (q * 11 + 3) = some (.int .i64 L[q].space) ∧ cellO (w.heap[bn]?) (q * 11 + 4) = some (.slice xa xn xc) ∧ cellO (w.heap[bn]?) (q * 11 + 5) = some (.bool L[q].dup) ∧
    cellO (w.heap[bn]?) (q * 11 + 6) = some (.int .i64 L[q].parent) ∧ cellO (w.heap[bn]?) (q * 11 + 7) = some (.int .i64 L[q].content) ∧ cellO (w.heap[bn]?) (q * 11 + 8) = some (.slice ya yn yc) ∧ cellO (w.heap[bn]?) (q * 11 + 9) = some (.int .i64 L[q].frm) ∧ cellO (w.heap[bn]?) (q * 11 + 10) = some (.int .i64 L[q].to) := by
  obtain ⟨bn, cap, t, hh, hnode⟩ := h.nodes
  obtain ⟨m, m1, m2, m3⟩ := hnode q _ (List.getElem?_eq_getElem hq)
  obtain ⟨c0, c1, c2, c3, c4, c5, c6, c7, c8, c9, c10⟩ := Laid.read m3
  obtain ⟨xa, xn, xc, exa, _⟩ := m2.attrs.len
  obtain ⟨ya, yn, yc, eya, _⟩ := m2.kids.len
  rw [exa] at c4
  rw [eya] at c8
  rw [m1] at c0 c1 c2 c3 c5 c6 c7 c9 c10
  exact ⟨bn, cap, t, xa, xn, xc, ya, yn, yc, hh, c0, c1, c2, c3, c4, c5, c6, c7, c8, c9, c10⟩
/-- cells that are written into a new block -/
theorem newL (w : World) (zs : Array Value) (l : List Value) (t : TypeId) (hl : zs.size = l.length) : Ext w (setCells (w.alloc (.cells zs t)) ⟨w.heap.size, 0, none⟩ l 0) ∧ (setCells (w.alloc (.cells zs t)) ⟨w.heap.size, 0, none⟩ l 0).heap[w.heap.size]? = some (.cells l.toArray t (0, 0)) := by
  have z1 : (w.alloc (.cells zs t)).heap[w.heap.size]? = some (.cells zs t (0, 0)) := by rw [heap_alloc_h, if_pos rfl]
  exact ⟨Upd.trans (Ext.alloc w _) (Upd.setCells (F := fun b => b = w.heap.size) (a := ⟨w.heap.size, 0, none⟩) _ rfl _ 0) fun i hi e => by omega, setCells_all z1 hl⟩
theorem opN_at {L : List Nd} {q : Nat} (hq : q < L.length) : opN L (q : Int) = ⟨q, L[q].space, L[q].name⟩ := by
  unfold opN
  rw [nd?_nat, List.getElem?_eq_getElem hq]; rfl
def rscE (which : Int) (o : OpS) : Bool := rscopeN which o.space o.name
/-- the place up to which a scope goes, from a place on -/
def botR (p : Int → Bool) (l : List Int) : Nat → Nat
  | 0 => 0
  | k + 1 => if p (l.getD (k + 1) 0) = true then k + 1 else botR p l k
theorem cellO_lt {w : World} {b o : Nat} {v : Value} (h : cellO (w.heap[b]?) o = some v) : b < w.heap.size := by
  cases hb : w.heap[b]? with
  | none => rw [hb] at h; cases h
  | some x => exact blk_lt hb
theorem cellO_ext {w w' : World} (hx : Ext w w') {b o : Nat} {v : Value} (h : cellO (w.heap[b]?) o = some v) : cellO (w'.heap[b]?) o = some v := by
  rw [← cell_h] at h ⊢
  exact cell_ext hx h
end Go.Vk
namespace Go.Proofs.YtkafpameheohdaaDoor
open Go Go.Vk
set_option maxHeartbeats 40000000
section
variable {w : World} {pr pb : Nat} {lv : Value} {L : List Nd} {l : List Int} {bo : Option Nat} {F : Nat → Prop}
theorem rat15_c (h : RSs w pr pb lv l bo) (k : Int) : Gives Tryd.prog 34 #[.pointer (some ⟨pr, 0, none⟩), .int .i64 k] w fun v w' => v = .int .i64 (if 0 ≤ k ∧ k < l.length then l.getD k.toNat 0 else -1) ∧ w' = w := by
  obtain ⟨a, c, rfl, _, hcell⟩ := ints_len2 h.sl
  have hh := h.head
  by_cases hk0 : k < 0
  · rw [if_neg (by omega)]
    refine Gives.of_W Tryd.call34 Tryd.func34 rfl Tryd.ntmps34 (by simp) ?_; intro Z hZ
    (repeat (first | (with_reducible first | (refine hK _ _ ?_; clear hK K) | refine (show ∀ σ' w', _ → K σ' w' from by assumption) _ _ ?_ | refine W_seq_k fun K hK => ?_ | refine W_block_k fun K hK => ?_ | refine W_skip ?_ | refine W_ret ?_) | ((first | ((with_reducible refine W_id ?_); refine W_reg (by decide) (by rfl) ?_) | (with_reducible first | refine W_cond ?_ | refine hZ _ _ ?_ | refine W_exit ?_ | refine Wo_id ?_)); repeat1' simp only [push_cast, Nat.reduceBEq, Nat.reduceLT, Nat.reduceEqDiff, reduceIte, reduceCtorEq, Nat.reduceMul, Nat.reduceAdd, Nat.reduceSub, Int.reduceEq, Int.reduceLT, Int.reduceLE, Int.reduceNeg, Int.reduceAdd, Int.reduceSub, Int.reduceMul, Nat.reduceLeDiff, Int.reduceToNat, hk0]) | ((repeat ((fail_if_success with_reducible refine hK _ _ ?_); clear hK K)); (with_reducible refine hK _ _ ?_); clear hK K)))
  · obtain ⟨k, rfl⟩ : ∃ q : Nat, k = (q : Int) := ⟨k.toNat, by omega⟩
    have b1 : (0 : Int) ≤ (k : Int) := by omega
    by_cases hkl : k < l.length
    · obtain ⟨y, hy⟩ : ∃ y, l[k]? = some y := ⟨_, List.getElem?_eq_getElem hkl⟩
      obtain ⟨b, o, rfl, _, c1⟩ := hcell k y hy
      have b2 : ¬ (l.length : Int) ≤ (k : Int) := by omega
      have b3 : (k : Int) < (l.length : Int) := by omega
      have hgd : l.getD ((k : Int).toNat) 0 = y := by simp [List.getD, hy]
      rw [if_pos ⟨b1, b3⟩, hgd]
      refine Gives.of_W Tryd.call34 Tryd.func34 rfl Tryd.ntmps34 (by simp) ?_; intro Z hZ
      (repeat (first | (with_reducible first | (refine hK _ _ ?_; clear hK K) | refine (show ∀ σ' w', _ → K σ' w' from by assumption) _ _ ?_ | refine W_seq_k fun K hK => ?_ | refine W_block_k fun K hK => ?_ | refine W_skip ?_ | refine W_ret ?_) | ((first | ((with_reducible refine W_id ?_); refine W_reg (by decide) (by rfl) ?_) | (with_reducible first | refine W_cond ?_ | refine hZ _ _ ?_ | refine W_exit ?_ | refine Wo_id ?_)); repeat1' simp only [push_cast, Nat.reduceBEq, Nat.reduceLT, Nat.reduceEqDiff, reduceIte, reduceCtorEq, Nat.reduceMul, Nat.reduceAdd, Nat.reduceSub, Int.reduceEq, Int.reduceLT, Int.reduceLE, Int.reduceNeg, Int.reduceAdd, Int.reduceSub, Int.reduceMul, Nat.reduceLeDiff, Int.reduceToNat, hk0, cell_h, cellO_cells, hh, b1, b2, b3, c1]) | ((repeat ((fail_if_success with_reducible refine hK _ _ ?_); clear hK K)); (with_reducible refine hK _ _ ?_); clear hK K)))
    · have b2 : (l.length : Int) ≤ (k : Int) := by omega
      have b3 : ¬ (k : Int) < (l.length : Int) := by omega
      rw [if_neg (fun h => b3 h.2)]
      refine Gives.of_W Tryd.call34 Tryd.func34 rfl Tryd.ntmps34 (by simp) ?_; intro Z hZ
      (repeat (first | (with_reducible first | (refine hK _ _ ?_; clear hK K) | refine (show ∀ σ' w', _ → K σ' w' from by assumption) _ _ ?_ | refine W_seq_k fun K hK => ?_ | refine W_block_k fun K hK => ?_ | refine W_skip ?_ | refine W_ret ?_) | ((first | ((with_reducible refine W_id ?_); refine W_reg (by decide) (by rfl) ?_) | (with_reducible first | refine W_cond ?_ | refine hZ _ _ ?_ | refine W_exit ?_ | refine Wo_id ?_)); repeat1' simp only [push_cast, Nat.reduceBEq, Nat.reduceLT, Nat.reduceEqDiff, reduceIte, reduceCtorEq, Nat.reduceMul, Nat.reduceAdd, Nat.reduceSub, Int.reduceEq, Int.reduceLT, Int.reduceLE, Int.reduceNeg, Int.reduceAdd, Int.reduceSub, Int.reduceMul, Nat.reduceLeDiff, Int.reduceToNat, hk0, cell_h, cellO_cells, hh, b1, b2, b3]) | ((repeat ((fail_if_success with_reducible refine hK _ _ ?_); clear hK K)); (with_reducible refine hK _ _ ?_); clear hK K)))
theorem rindex15_c (h : RSs w pr pb lv l bo) (hl : l.length < 100000) (i : Int) : Gives Tryd.prog 36 #[.pointer (some ⟨pr, 0, none⟩), .int .i64 i] w fun v w' => v = .int .i64 (lastB (fun k => decide (l.getD k 0 = i)) l.length) ∧ w' = w := by
  obtain ⟨a, c, rfl, _, hcell⟩ := ints_len2 h.sl
  have hh := h.head
  refine Gives.of_W Tryd.call36 Tryd.func36 rfl Tryd.ntmps36 (by simp) ?_; intro Z hZ
  (repeat (first | (with_reducible first | (refine hK _ _ ?_; clear hK K) | refine (show ∀ σ' w', _ → K σ' w' from by assumption) _ _ ?_ | refine W_seq_k fun K hK => ?_ | refine W_block_k fun K hK => ?_ | refine W_skip ?_ | refine W_ret ?_) | ((first | ((with_reducible refine W_id ?_); refine W_reg (by decide) (by rfl) ?_) | (with_reducible first | refine W_cond ?_ | refine hZ _ _ ?_ | refine W_exit ?_ | refine Wo_id ?_)); repeat1' simp only [push_cast, Nat.reduceBEq, Nat.reduceLT, Nat.reduceEqDiff, reduceIte, reduceCtorEq, Nat.reduceMul, Nat.reduceAdd, Nat.reduceSub, Int.reduceEq, Int.reduceLT, Int.reduceLE, Int.reduceNeg, Int.reduceAdd, Int.reduceSub, Int.reduceMul, Nat.reduceLeDiff, Int.reduceToNat]) | ((repeat ((fail_if_success with_reducible refine hK _ _ ?_); clear hK K)); (with_reducible refine hK _ _ ?_); clear hK K)))
  refine W_loop (S := Nat) (fun k => [(0, .pointer (some ⟨pr, 0, none⟩)), (1, .int .i64 i), (5, .int .i64 (lastB (fun k => decide (l.getD k 0 = i)) k)), (6, .int .i64 (k : Int))])
    (fun k w1 => k ≤ l.length ∧ w1 = w) (fun k => l.length - k) 0 ?_ ?_ ?_
  · (repeat simp only [push_cast, Nat.reduceBEq, Nat.reduceLT, Nat.reduceEqDiff, reduceIte, reduceCtorEq, Nat.reduceMul, Nat.reduceAdd, Nat.reduceSub, Int.reduceEq, Int.reduceLT, Int.reduceLE, Int.reduceNeg, Int.reduceAdd, Int.reduceSub, Int.reduceMul, Nat.reduceLeDiff, Int.reduceToNat, lastB])
  · exact ⟨by omega, rfl⟩
  rintro k w1 ⟨hk, hw⟩
  subst w1
  by_cases hkl : k < l.length
  · obtain ⟨y, hy⟩ : ∃ y, l[k]? = some y := ⟨_, List.getElem?_eq_getElem hkl⟩
    obtain ⟨b, o, rfl, _, c1⟩ := hcell k y hy
    have b0 : (k : Int) < (l.length : Int) := by omega
    have b1 : (0 : Int) ≤ (k : Int) := by omega
    have b2 : inI64 ((k : Int) + 1) := by unfold inI64; omega
    have hgd : l.getD k 0 = y := by simp [List.getD, hy]
    have hst : lastB (fun k => decide (l.getD k 0 = i)) (k + 1) = if y = i then (k : Int) else lastB (fun k => decide (l.getD k 0 = i)) k := by
      rw [lastB, hgd]; simp
    by_cases hyi : y = i
    · rw [if_pos hyi] at hst
      subst hyi
      (repeat (first | (with_reducible first | (refine hK _ _ ?_; clear hK K) | refine (show ∀ σ' w', _ → K σ' w' from by assumption) _ _ ?_ | refine W_seq_k fun K hK => ?_ | refine W_block_k fun K hK => ?_ | refine W_skip ?_ | refine W_ret ?_) | ((first | ((with_reducible refine W_id ?_); refine W_reg (by decide) (by rfl) ?_) | (with_reducible first | refine W_cond ?_ | refine hZ _ _ ?_ | refine W_exit ?_ | refine Wo_id ?_)); repeat1' simp only [push_cast, Nat.reduceBEq, Nat.reduceLT, Nat.reduceEqDiff, reduceIte, reduceCtorEq, Nat.reduceMul, Nat.reduceAdd, Nat.reduceSub, Int.reduceEq, Int.reduceLT, Int.reduceLE, Int.reduceNeg, Int.reduceAdd, Int.reduceSub, Int.reduceMul, Nat.reduceLeDiff, Int.reduceToNat, cell_h, cellO_cells, hh, b0, b1, b2, c1, decide_true, eq_self]) | ((repeat ((fail_if_success with_reducible refine hK _ _ ?_); clear hK K)); (with_reducible refine hK _ _ ?_); clear hK K)))
      refine ⟨k + 1, by omega, ?_⟩
      (repeat simp only [push_cast, Nat.reduceBEq, Nat.reduceLT, Nat.reduceEqDiff, reduceIte, reduceCtorEq, Nat.reduceMul, Nat.reduceAdd, Nat.reduceSub, Int.reduceEq, Int.reduceLT, Int.reduceLE, Int.reduceNeg, Int.reduceAdd, Int.reduceSub, Int.reduceMul, Nat.reduceLeDiff, Int.reduceToNat, hst])
      omega
    · rw [if_neg hyi] at hst
      (repeat (first | (with_reducible first | (refine hK _ _ ?_; clear hK K) | refine (show ∀ σ' w', _ → K σ' w' from by assumption) _ _ ?_ | refine W_seq_k fun K hK => ?_ | refine W_block_k fun K hK => ?_ | refine W_skip ?_ | refine W_ret ?_) | ((first | ((with_reducible refine W_id ?_); refine W_reg (by decide) (by rfl) ?_) | (with_reducible first | refine W_cond ?_ | refine hZ _ _ ?_ | refine W_exit ?_ | refine Wo_id ?_)); repeat1' simp only [push_cast, Nat.reduceBEq, Nat.reduceLT, Nat.reduceEqDiff, reduceIte, reduceCtorEq, Nat.reduceMul, Nat.reduceAdd, Nat.reduceSub, Int.reduceEq, Int.reduceLT, Int.reduceLE, Int.reduceNeg, Int.reduceAdd, Int.reduceSub, Int.reduceMul, Nat.reduceLeDiff, Int.reduceToNat, cell_h, cellO_cells, hh, b0, b1, b2, c1, hyi, decide_false]) | ((repeat ((fail_if_success with_reducible refine hK _ _ ?_); clear hK K)); (with_reducible refine hK _ _ ?_); clear hK K)))
      refine ⟨k + 1, by omega, ?_⟩
      (repeat simp only [push_cast, Nat.reduceBEq, Nat.reduceLT, Nat.reduceEqDiff, reduceIte, reduceCtorEq, Nat.reduceMul, Nat.reduceAdd, Nat.reduceSub, Int.reduceEq, Int.reduceLT, Int.reduceLE, Int.reduceNeg, Int.reduceAdd, Int.reduceSub, Int.reduceMul, Nat.reduceLeDiff, Int.reduceToNat, hst])
      omega
  · have hke : k = l.length := by omega
    subst hke
    have b0 : ¬ (l.length : Int) < (l.length : Int) := by omega
    (repeat (first | (with_reducible first | (refine hK _ _ ?_; clear hK K) | refine (show ∀ σ' w', _ → K σ' w' from by assumption) _ _ ?_ | refine W_seq_k fun K hK => ?_ | refine W_block_k fun K hK => ?_ | refine W_skip ?_ | refine W_ret ?_) | ((first | ((with_reducible refine W_id ?_); refine W_reg (by decide) (by rfl) ?_) | (with_reducible first | refine W_cond ?_ | refine hZ _ _ ?_ | refine W_exit ?_ | refine Wo_id ?_)); repeat1' simp only [push_cast, Nat.reduceBEq, Nat.reduceLT, Nat.reduceEqDiff, reduceIte, reduceCtorEq, Nat.reduceMul, Nat.reduceAdd, Nat.reduceSub, Int.reduceEq, Int.reduceLT, Int.reduceLE, Int.reduceNeg, Int.reduceAdd, Int.reduceSub, Int.reduceMul, Nat.reduceLeDiff, Int.reduceToNat, cell_h, cellO_cells, hh, b0]) | ((repeat ((fail_if_success with_reducible refine hK _ _ ?_); clear hK K)); (with_reducible refine hK _ _ ?_); clear hK K)))
theorem ris_c (h : RSs w pr pb lv l bo) (ha : Ar w pb L F) {q : Nat} (hq : q < L.length) (hb : L.length < 1000000) {nv : Value} {x : List ByteArray} (hn : RdAt w 1 nv (strCells x)) (hx : x.length < 1000000000) : Gives Tryd.prog 64 #[.pointer (some ⟨pr, 0, none⟩), .int .i64 (q : Int), nv] w fun v w' => v = .bool (htmlS (opN L (q : Int)) x) ∧ Ext w w' := by
  obtain ⟨na, nc, rfl, hnc, hncell⟩ := str_len hn
  obtain ⟨bn, cap, t, xa, xn, xc, ya, yn, yc, hA, c0, c1, c2, c3, c4, c5, c6, c7, c8, c9, c10⟩ := ha.node11 hq
  have hh := h.head
  have d0 : (0 : Int) ≤ (q : Int) := by omega
  have d1 : (q : Int) < (L.length : Int) := by omega
  rw [opN_at hq]
  generalize L[q] = nd at *
  refine Gives.of_W Tryd.call64 Tryd.func64 rfl Tryd.ntmps64 (by simp) ?_; intro Z hZ
  (repeat (first | (with_reducible first | (refine hK _ _ ?_; clear hK K) | refine (show ∀ σ' w', _ → K σ' w' from by assumption) _ _ ?_ | refine W_seq_k fun K hK => ?_ | refine W_block_k fun K hK => ?_ | refine W_skip ?_ | refine W_ret ?_) | ((first | ((with_reducible refine W_id ?_); refine W_reg (by decide) (by rfl) ?_) | (with_reducible first | refine W_cond ?_ | refine hZ _ _ ?_ | refine W_exit ?_ | refine Wo_id ?_)); repeat1' simp only [push_cast, Nat.reduceBEq, Nat.reduceLT, Nat.reduceEqDiff, reduceIte, reduceCtorEq, Nat.reduceMul, Nat.reduceAdd, Nat.reduceSub, Int.reduceEq, Int.reduceLT, Int.reduceLE, Int.reduceNeg, Int.reduceAdd, Int.reduceSub, Int.reduceMul, Nat.reduceLeDiff, Int.reduceToNat, cell_h, cellO_cells, hh, hA, c0, c1, c2, c3, c4, c5, c6, c7, c8, c9, c10, d0, d1, RunV_zero Tryd.zeroValue49, vcells_agg]) | ((repeat ((fail_if_success with_reducible refine hK _ _ ?_); clear hK K)); (with_reducible refine hK _ _ ?_); clear hK K)))
  simp only [can_h, heap_alloc_h, if_true, canO_cells, List.size_toArray, List.length_cons, List.length_nil, Nat.zero_add, Nat.reduceAdd, Nat.reduceLT, true_and]
  obtain ⟨hx6, hp6⟩ := newL w #[.int .i64 0, .string ⟨#[]⟩, .string ⟨#[]⟩, .int .i64 0, .slice none 0 0, .bool false, .int .i64 0, .int .i64 0, .slice none 0 0, .int .i64 0, .int .i64 0] [.int .i64 nd.kind, .string nd.name, .string nd.text, .int .i64 nd.space, .slice xa xn xc, .bool nd.dup, .int .i64 nd.parent, .int .i64 nd.content, .slice ya yn yc, .int .i64 nd.frm, .int .i64 nd.to] 49 rfl
  generalize setCells (w.alloc (.cells #[.int .i64 0, .string ⟨#[]⟩, .string ⟨#[]⟩, .int .i64 0, .slice none 0 0, .bool false, .int .i64 0, .int .i64 0, .slice none 0 0, .int .i64 0, .int .i64 0] 49)) ⟨w.heap.size, 0, none⟩ [.int .i64 nd.kind, .string nd.name, .string nd.text, .int .i64 nd.space, .slice xa xn xc, .bool nd.dup, .int .i64 nd.parent, .int .i64 nd.content, .slice ya yn yc, .int .i64 nd.frm, .int .i64 nd.to] 0 = w6 at *
  obtain ⟨p8, hp8⟩ : ∃ p8, p8 = w.heap.size := ⟨_, rfl⟩
  rw [← hp8] at hp6 ⊢
  ((repeat simp only [push_cast, Nat.reduceBEq, Nat.reduceLT, Nat.reduceEqDiff, reduceIte, reduceCtorEq, Nat.reduceMul, Nat.reduceAdd, Nat.reduceSub, Int.reduceEq, Int.reduceLT, Int.reduceLE, Int.reduceNeg, Int.reduceAdd, Int.reduceSub, Int.reduceMul, Nat.reduceLeDiff, Int.reduceToNat]); (repeat (first | (with_reducible first | (refine hK _ _ ?_; clear hK K) | refine (show ∀ σ' w', _ → K σ' w' from by assumption) _ _ ?_ | refine W_seq_k fun K hK => ?_ | refine W_block_k fun K hK => ?_ | refine W_skip ?_ | refine W_ret ?_) | ((first | ((with_reducible refine W_id ?_); refine W_reg (by decide) (by rfl) ?_) | (with_reducible first | refine W_cond ?_ | refine hZ _ _ ?_ | refine W_exit ?_ | refine Wo_id ?_)); repeat1' simp only [push_cast, Nat.reduceBEq, Nat.reduceLT, Nat.reduceEqDiff, reduceIte, reduceCtorEq, Nat.reduceMul, Nat.reduceAdd, Nat.reduceSub, Int.reduceEq, Int.reduceLT, Int.reduceLE, Int.reduceNeg, Int.reduceAdd, Int.reduceSub, Int.reduceMul, Nat.reduceLeDiff, Int.reduceToNat]) | ((repeat ((fail_if_success with_reducible refine hK _ _ ?_); clear hK K)); (with_reducible refine hK _ _ ?_); clear hK K))))
  refine W_loop (S := Nat) (fun k => [(0, .pointer (some ⟨pr, 0, none⟩)), (2, .slice na x.length nc), (7, .pointer (some ⟨p8, 0, none⟩)), (8, .int .i64 (k : Int))])
    (fun k w1 => k ≤ x.length ∧ (nd.space = 0 → (x.take k).any (fun y => decide (nd.name = y)) = false) ∧ Ext w6 w1) (fun k => x.length - k) 0 ?_ ?_ ?_
  · (repeat simp only [push_cast, Nat.reduceBEq, Nat.reduceLT, Nat.reduceEqDiff, reduceIte, reduceCtorEq, Nat.reduceMul, Nat.reduceAdd, Nat.reduceSub, Int.reduceEq, Int.reduceLT, Int.reduceLE, Int.reduceNeg, Int.reduceAdd, Int.reduceSub, Int.reduceMul, Nat.reduceLeDiff, Int.reduceToNat])
  · exact ⟨by omega, by simp, Ext.refl _⟩
  rintro k w1 ⟨hk, ht, hx1⟩
  have hp1 := hx1.blk hp6
  have hxa := hx6.trans hx1
  by_cases hkl : k < x.length
  · have e0 : (k : Int) < (x.length : Int) := by omega
    have e1 : (0 : Int) ≤ (k : Int) := by omega
    have e2 : inI64 ((k : Int) + 1) := by unfold inI64; omega
    obtain ⟨b, o, rfl, hcl⟩ := hncell k x[k] (by simp [hkl])
    have hxd := hxa.trans (Ext.drew w1)
    have hcl := cell_ext hxd hcl
    have hpd := (Ext.drew w1).blk hp1
    have hpl := blk_lt hpd
    rw [cell_h] at hcl
    have hm : x[k] ∈ x := List.getElem_mem hkl
    have hst : ¬ nd.name = x[k] → nd.space = 0 → (x.take (k + 1)).any (fun y => decide (nd.name = y)) = false := fun hne hs => by
      rw [List.take_succ_eq_append_getElem hkl, List.any_append, ht hs]; simp [hne]
    generalize x[k] = y at *
    by_cases hs : nd.space = 0
    · by_cases hy : nd.name = y
      · rw [hy] at hpd
        (repeat (first | (with_reducible first | (refine hK _ _ ?_; clear hK K) | refine (show ∀ σ' w', _ → K σ' w' from by assumption) _ _ ?_ | refine W_seq_k fun K hK => ?_ | refine W_block_k fun K hK => ?_ | refine W_skip ?_ | refine W_ret ?_) | ((first | ((with_reducible refine W_id ?_); refine W_reg (by decide) (by rfl) ?_) | (with_reducible first | refine W_cond ?_ | refine hZ _ _ ?_ | refine W_exit ?_ | refine Wo_id ?_)); repeat1' simp only [push_cast, Nat.reduceBEq, Nat.reduceLT, Nat.reduceEqDiff, reduceIte, reduceCtorEq, Nat.reduceMul, Nat.reduceAdd, Nat.reduceSub, Int.reduceEq, Int.reduceLT, Int.reduceLE, Int.reduceNeg, Int.reduceAdd, Int.reduceSub, Int.reduceMul, Nat.reduceLeDiff, Int.reduceToNat, e0]) | ((repeat ((fail_if_success with_reducible refine hK _ _ ?_); clear hK K)); (with_reducible refine hK _ _ ?_); clear hK K)))
        refine W_draw (.pas 0 (.pas 1 (.pas 2 (.pas 3 (.pas 4 (.pas 5 (.pas 6 (.pas 7 (.pas 8 (.pas 9 (.pas 10 (.pas 11 .fin)))))))))))) (fun _ => True) (by decide) mixed (by kernel_rfl) ?_
        have hxw := Ext.drew w1
        generalize w1.drew = wd at *
        (repeat (first | ((first | refine pas_plain rfl ?_ | refine pas_g rfl rfl ?_ | refine act_plain rfl ?_ | refine act_g rfl rfl ?_ | refine last_plain rfl ?_ | refine tail_plain rfl ?_ | refine tail_g rfl rfl ?_); (repeat simp only [push_cast, Nat.reduceBEq, Nat.reduceLT, Nat.reduceEqDiff, reduceIte, reduceCtorEq, Nat.reduceMul, Nat.reduceAdd, Nat.reduceSub, Int.reduceEq, Int.reduceLT, Int.reduceLE, Int.reduceNeg, Int.reduceAdd, Int.reduceSub, Int.reduceMul, Nat.reduceLeDiff, Int.reduceToNat, cell_h, cellO_cells, hpd, hs, e0, e1, hcl, decide_true, eq_self])) | (refine tail_fin ?_) | (refine sch_fin ?_)))
        ((repeat simp only [push_cast, Nat.reduceBEq, Nat.reduceLT, Nat.reduceEqDiff, reduceIte, reduceCtorEq, Nat.reduceMul, Nat.reduceAdd, Nat.reduceSub, Int.reduceEq, Int.reduceLT, Int.reduceLE, Int.reduceNeg, Int.reduceAdd, Int.reduceSub, Int.reduceMul, Nat.reduceLeDiff, Int.reduceToNat]); (repeat (first | (with_reducible first | (refine hK _ _ ?_; clear hK K) | refine (show ∀ σ' w', _ → K σ' w' from by assumption) _ _ ?_ | refine W_seq_k fun K hK => ?_ | refine W_block_k fun K hK => ?_ | refine W_skip ?_ | refine W_ret ?_) | ((first | ((with_reducible refine W_id ?_); refine W_reg (by decide) (by rfl) ?_) | (with_reducible first | refine W_cond ?_ | refine hZ _ _ ?_ | refine W_exit ?_ | refine Wo_id ?_)); repeat1' simp only [push_cast, Nat.reduceBEq, Nat.reduceLT, Nat.reduceEqDiff, reduceIte, reduceCtorEq, Nat.reduceMul, Nat.reduceAdd, Nat.reduceSub, Int.reduceEq, Int.reduceLT, Int.reduceLE, Int.reduceNeg, Int.reduceAdd, Int.reduceSub, Int.reduceMul, Nat.reduceLeDiff, Int.reduceToNat]) | ((repeat ((fail_if_success with_reducible refine hK _ _ ?_); clear hK K)); (with_reducible refine hK _ _ ?_); clear hK K))))
        unfold htmlS
        rw [hs]
        exact ⟨by simp only [decide_true, Bool.true_and]; exact (List.any_eq_true.2 ⟨y, hm, decide_eq_true hy⟩).symm, hxd⟩
      · (repeat (first | (with_reducible first | (refine hK _ _ ?_; clear hK K) | refine (show ∀ σ' w', _ → K σ' w' from by assumption) _ _ ?_ | refine W_seq_k fun K hK => ?_ | refine W_block_k fun K hK => ?_ | refine W_skip ?_ | refine W_ret ?_) | ((first | ((with_reducible refine W_id ?_); refine W_reg (by decide) (by rfl) ?_) | (with_reducible first | refine W_cond ?_ | refine hZ _ _ ?_ | refine W_exit ?_ | refine Wo_id ?_)); repeat1' simp only [push_cast, Nat.reduceBEq, Nat.reduceLT, Nat.reduceEqDiff, reduceIte, reduceCtorEq, Nat.reduceMul, Nat.reduceAdd, Nat.reduceSub, Int.reduceEq, Int.reduceLT, Int.reduceLE, Int.reduceNeg, Int.reduceAdd, Int.reduceSub, Int.reduceMul, Nat.reduceLeDiff, Int.reduceToNat, e0]) | ((repeat ((fail_if_success with_reducible refine hK _ _ ?_); clear hK K)); (with_reducible refine hK _ _ ?_); clear hK K)))
        refine W_draw (.pas 0 (.pas 1 (.pas 2 (.pas 3 (.pas 4 (.pas 5 (.pas 6 (.pas 7 (.pas 8 (.pas 9 (.pas 10 (.pas 11 .fin)))))))))))) (fun _ => True) (by decide) mixed (by kernel_rfl) ?_
        have hxw := Ext.drew w1
        generalize w1.drew = wd at *
        (repeat (first | ((first | refine pas_plain rfl ?_ | refine pas_g rfl rfl ?_ | refine act_plain rfl ?_ | refine act_g rfl rfl ?_ | refine last_plain rfl ?_ | refine tail_plain rfl ?_ | refine tail_g rfl rfl ?_); (repeat simp only [push_cast, Nat.reduceBEq, Nat.reduceLT, Nat.reduceEqDiff, reduceIte, reduceCtorEq, Nat.reduceMul, Nat.reduceAdd, Nat.reduceSub, Int.reduceEq, Int.reduceLT, Int.reduceLE, Int.reduceNeg, Int.reduceAdd, Int.reduceSub, Int.reduceMul, Nat.reduceLeDiff, Int.reduceToNat, cell_h, cellO_cells, hpd, hs, e0, e1, hcl, hy, decide_true, decide_false, eq_self])) | (refine tail_fin ?_) | (refine sch_fin ?_)))
        ((repeat simp only [push_cast, Nat.reduceBEq, Nat.reduceLT, Nat.reduceEqDiff, reduceIte, reduceCtorEq, Nat.reduceMul, Nat.reduceAdd, Nat.reduceSub, Int.reduceEq, Int.reduceLT, Int.reduceLE, Int.reduceNeg, Int.reduceAdd, Int.reduceSub, Int.reduceMul, Nat.reduceLeDiff, Int.reduceToNat, e2]); (repeat (first | (with_reducible first | (refine hK _ _ ?_; clear hK K) | refine (show ∀ σ' w', _ → K σ' w' from by assumption) _ _ ?_ | refine W_seq_k fun K hK => ?_ | refine W_block_k fun K hK => ?_ | refine W_skip ?_ | refine W_ret ?_) | ((first | ((with_reducible refine W_id ?_); refine W_reg (by decide) (by rfl) ?_) | (with_reducible first | refine W_cond ?_ | refine hZ _ _ ?_ | refine W_exit ?_ | refine Wo_id ?_)); repeat1' simp only [push_cast, Nat.reduceBEq, Nat.reduceLT, Nat.reduceEqDiff, reduceIte, reduceCtorEq, Nat.reduceMul, Nat.reduceAdd, Nat.reduceSub, Int.reduceEq, Int.reduceLT, Int.reduceLE, Int.reduceNeg, Int.reduceAdd, Int.reduceSub, Int.reduceMul, Nat.reduceLeDiff, Int.reduceToNat, e2]) | ((repeat ((fail_if_success with_reducible refine hK _ _ ?_); clear hK K)); (with_reducible refine hK _ _ ?_); clear hK K))))
        refine ⟨k + 1, by omega, ?_⟩
        (repeat simp only [push_cast, Nat.reduceBEq, Nat.reduceLT, Nat.reduceEqDiff, reduceIte, reduceCtorEq, Nat.reduceMul, Nat.reduceAdd, Nat.reduceSub, Int.reduceEq, Int.reduceLT, Int.reduceLE, Int.reduceNeg, Int.reduceAdd, Int.reduceSub, Int.reduceMul, Nat.reduceLeDiff, Int.reduceToNat])
        exact ⟨by omega, hst hy, hx1.trans hxw⟩
    · (repeat (first | (with_reducible first | (refine hK _ _ ?_; clear hK K) | refine (show ∀ σ' w', _ → K σ' w' from by assumption) _ _ ?_ | refine W_seq_k fun K hK => ?_ | refine W_block_k fun K hK => ?_ | refine W_skip ?_ | refine W_ret ?_) | ((first | ((with_reducible refine W_id ?_); refine W_reg (by decide) (by rfl) ?_) | (with_reducible first | refine W_cond ?_ | refine hZ _ _ ?_ | refine W_exit ?_ | refine Wo_id ?_)); repeat1' simp only [push_cast, Nat.reduceBEq, Nat.reduceLT, Nat.reduceEqDiff, reduceIte, reduceCtorEq, Nat.reduceMul, Nat.reduceAdd, Nat.reduceSub, Int.reduceEq, Int.reduceLT, Int.reduceLE, Int.reduceNeg, Int.reduceAdd, Int.reduceSub, Int.reduceMul, Nat.reduceLeDiff, Int.reduceToNat, e0]) | ((repeat ((fail_if_success with_reducible refine hK _ _ ?_); clear hK K)); (with_reducible refine hK _ _ ?_); clear hK K)))
      refine W_draw (.pas 0 (.pas 1 (.pas 2 (.pas 3 (.pas 4 (.pas 5 (.pas 6 (.pas 7 (.pas 8 (.pas 9 (.pas 10 (.pas 11 .fin)))))))))))) (fun _ => True) (by decide) mixed (by kernel_rfl) ?_
      have hxw := Ext.drew w1
      generalize w1.drew = wd at *
      (repeat (first | ((first | refine pas_plain rfl ?_ | refine pas_g rfl rfl ?_ | refine act_plain rfl ?_ | refine act_g rfl rfl ?_ | refine last_plain rfl ?_ | refine tail_plain rfl ?_ | refine tail_g rfl rfl ?_); (repeat simp only [push_cast, Nat.reduceBEq, Nat.reduceLT, Nat.reduceEqDiff, reduceIte, reduceCtorEq, Nat.reduceMul, Nat.reduceAdd, Nat.reduceSub, Int.reduceEq, Int.reduceLT, Int.reduceLE, Int.reduceNeg, Int.reduceAdd, Int.reduceSub, Int.reduceMul, Nat.reduceLeDiff, Int.reduceToNat, cell_h, cellO_cells, hpd, hs, e0, e1, decide_true, decide_false, eq_self])) | (refine tail_fin ?_) | (refine sch_fin ?_)))
      ((repeat simp only [push_cast, Nat.reduceBEq, Nat.reduceLT, Nat.reduceEqDiff, reduceIte, reduceCtorEq, Nat.reduceMul, Nat.reduceAdd, Nat.reduceSub, Int.reduceEq, Int.reduceLT, Int.reduceLE, Int.reduceNeg, Int.reduceAdd, Int.reduceSub, Int.reduceMul, Nat.reduceLeDiff, Int.reduceToNat, e2]); (repeat (first | (with_reducible first | (refine hK _ _ ?_; clear hK K) | refine (show ∀ σ' w', _ → K σ' w' from by assumption) _ _ ?_ | refine W_seq_k fun K hK => ?_ | refine W_block_k fun K hK => ?_ | refine W_skip ?_ | refine W_ret ?_) | ((first | ((with_reducible refine W_id ?_); refine W_reg (by decide) (by rfl) ?_) | (with_reducible first | refine W_cond ?_ | refine hZ _ _ ?_ | refine W_exit ?_ | refine Wo_id ?_)); repeat1' simp only [push_cast, Nat.reduceBEq, Nat.reduceLT, Nat.reduceEqDiff, reduceIte, reduceCtorEq, Nat.reduceMul, Nat.reduceAdd, Nat.reduceSub, Int.reduceEq, Int.reduceLT, Int.reduceLE, Int.reduceNeg, Int.reduceAdd, Int.reduceSub, Int.reduceMul, Nat.reduceLeDiff, Int.reduceToNat, e2]) | ((repeat ((fail_if_success with_reducible refine hK _ _ ?_); clear hK K)); (with_reducible refine hK _ _ ?_); clear hK K))))
      refine ⟨k + 1, by omega, ?_⟩
      (repeat simp only [push_cast, Nat.reduceBEq, Nat.reduceLT, Nat.reduceEqDiff, reduceIte, reduceCtorEq, Nat.reduceMul, Nat.reduceAdd, Nat.reduceSub, Int.reduceEq, Int.reduceLT, Int.reduceLE, Int.reduceNeg, Int.reduceAdd, Int.reduceSub, Int.reduceMul, Nat.reduceLeDiff, Int.reduceToNat])
      exact ⟨by omega, fun h => absurd h hs, hx1.trans hxw⟩
  · obtain rfl : k = x.length := by omega
    have e0 : ¬ (x.length : Int) < (x.length : Int) := by omega
    rw [List.take_length] at ht
    (repeat (first | (with_reducible first | (refine hK _ _ ?_; clear hK K) | refine (show ∀ σ' w', _ → K σ' w' from by assumption) _ _ ?_ | refine W_seq_k fun K hK => ?_ | refine W_block_k fun K hK => ?_ | refine W_skip ?_ | refine W_ret ?_) | ((first | ((with_reducible refine W_id ?_); refine W_reg (by decide) (by rfl) ?_) | (with_reducible first | refine W_cond ?_ | refine hZ _ _ ?_ | refine W_exit ?_ | refine Wo_id ?_)); repeat1' simp only [push_cast, Nat.reduceBEq, Nat.reduceLT, Nat.reduceEqDiff, reduceIte, reduceCtorEq, Nat.reduceMul, Nat.reduceAdd, Nat.reduceSub, Int.reduceEq, Int.reduceLT, Int.reduceLE, Int.reduceNeg, Int.reduceAdd, Int.reduceSub, Int.reduceMul, Nat.reduceLeDiff, Int.reduceToNat, e0]) | ((repeat ((fail_if_success with_reducible refine hK _ _ ?_); clear hK K)); (with_reducible refine hK _ _ ?_); clear hK K)))
    unfold htmlS
    refine ⟨?_, hxa⟩
    by_cases hs : nd.space = 0
    · simp only [hs, decide_true, Bool.true_and]; exact (ht hs).symm
    · simp [hs]
theorem rbottom_c (h : RSs w pr pb lv l bo) (ha : Ar w pb L F) (hl : l.length < 100000) (hb : L.length < 1000000) (hok : ∀ y ∈ l, ∃ q : Nat, y = (q : Int) ∧ q < L.length) (which : Int) : Gives Tryd.prog 63 #[.pointer (some ⟨pr, 0, none⟩), .int .i64 which] w fun v w' => v = .int .i64 (botR (fun y => rscE which (opN L y)) l (l.length - 1) : Int) ∧ Ext w w' := by
  obtain ⟨a, c, rfl, hlc, hcell⟩ := ints_len2 h.sl
  have hh := h.head
  by_cases hl0 : l.length = 0
  · have d0 : (l.length : Int) = 0 := by omega
    have b0 : ¬ (0 : Int) < -1 := by omega
    have s0 : inI64 (-1) := by unfold inI64; omega
    rw [hl0]
    refine Gives.of_W Tryd.call63 Tryd.func63 rfl Tryd.ntmps63 (by simp) ?_; intro Z hZ
    (repeat (first | (with_reducible first | (refine hK _ _ ?_; clear hK K) | refine (show ∀ σ' w', _ → K σ' w' from by assumption) _ _ ?_ | refine W_seq_k fun K hK => ?_ | refine W_block_k fun K hK => ?_ | refine W_skip ?_ | refine W_ret ?_) | ((first | ((with_reducible refine W_id ?_); refine W_reg (by decide) (by rfl) ?_) | (with_reducible first | refine W_cond ?_ | refine hZ _ _ ?_ | refine W_exit ?_ | refine Wo_id ?_)); repeat1' simp only [push_cast, Nat.reduceBEq, Nat.reduceLT, Nat.reduceEqDiff, reduceIte, reduceCtorEq, Nat.reduceMul, Nat.reduceAdd, Nat.reduceSub, Int.reduceEq, Int.reduceLT, Int.reduceLE, Int.reduceNeg, Int.reduceAdd, Int.reduceSub, Int.reduceMul, Nat.reduceLeDiff, Int.reduceToNat, cell_h, cellO_cells, hh, d0, s0]) | ((repeat ((fail_if_success with_reducible refine hK _ _ ?_); clear hK K)); (with_reducible refine hK _ _ ?_); clear hK K)))
    refine W_loop (S := Unit) (fun _ => [(5, .int .i64 (-1))]) (fun _ w1 => w1 = w) (fun _ => 0) () ?_ ?_ ?_
    · (repeat simp only [push_cast, Nat.reduceBEq, Nat.reduceLT, Nat.reduceEqDiff, reduceIte, reduceCtorEq, Nat.reduceMul, Nat.reduceAdd, Nat.reduceSub, Int.reduceEq, Int.reduceLT, Int.reduceLE, Int.reduceNeg, Int.reduceAdd, Int.reduceSub, Int.reduceMul, Nat.reduceLeDiff, Int.reduceToNat])
    · rfl
    rintro _ w1 hw
    subst w1
    (repeat (first | (with_reducible first | (refine hK _ _ ?_; clear hK K) | refine (show ∀ σ' w', _ → K σ' w' from by assumption) _ _ ?_ | refine W_seq_k fun K hK => ?_ | refine W_block_k fun K hK => ?_ | refine W_skip ?_ | refine W_ret ?_) | ((first | ((with_reducible refine W_id ?_); refine W_reg (by decide) (by rfl) ?_) | (with_reducible first | refine W_cond ?_ | refine hZ _ _ ?_ | refine W_exit ?_ | refine Wo_id ?_)); repeat1' simp only [push_cast, Nat.reduceBEq, Nat.reduceLT, Nat.reduceEqDiff, reduceIte, reduceCtorEq, Nat.reduceMul, Nat.reduceAdd, Nat.reduceSub, Int.reduceEq, Int.reduceLT, Int.reduceLE, Int.reduceNeg, Int.reduceAdd, Int.reduceSub, Int.reduceMul, Nat.reduceLeDiff, Int.reduceToNat, b0]) | ((repeat ((fail_if_success with_reducible refine hK _ _ ?_); clear hK K)); (with_reducible refine hK _ _ ?_); clear hK K)))
    exact ⟨rfl, Ext.refl _⟩
  have s0 : inI64 ((l.length : Int) - 1) := by unfold inI64; omega
  refine Gives.of_W Tryd.call63 Tryd.func63 rfl Tryd.ntmps63 (by simp) ?_; intro Z hZ
  (repeat (first | (with_reducible first | (refine hK _ _ ?_; clear hK K) | refine (show ∀ σ' w', _ → K σ' w' from by assumption) _ _ ?_ | refine W_seq_k fun K hK => ?_ | refine W_block_k fun K hK => ?_ | refine W_skip ?_ | refine W_ret ?_) | ((first | ((with_reducible refine W_id ?_); refine W_reg (by decide) (by rfl) ?_) | (with_reducible first | refine W_cond ?_ | refine hZ _ _ ?_ | refine W_exit ?_ | refine Wo_id ?_)); repeat1' simp only [push_cast, Nat.reduceBEq, Nat.reduceLT, Nat.reduceEqDiff, reduceIte, reduceCtorEq, Nat.reduceMul, Nat.reduceAdd, Nat.reduceSub, Int.reduceEq, Int.reduceLT, Int.reduceLE, Int.reduceNeg, Int.reduceAdd, Int.reduceSub, Int.reduceMul, Nat.reduceLeDiff, Int.reduceToNat, cell_h, cellO_cells, hh, s0]) | ((repeat ((fail_if_success with_reducible refine hK _ _ ?_); clear hK K)); (with_reducible refine hK _ _ ?_); clear hK K)))
  refine W_loop (S := Nat) (fun k => [(0, .pointer (some ⟨pr, 0, none⟩)), (1, .int .i64 which), (5, .int .i64 (k : Int))])
    (fun k w1 => k ≤ l.length - 1 ∧ botR (fun y => rscE which (opN L y)) l (l.length - 1) = botR (fun y => rscE which (opN L y)) l k ∧ Ext w w1) (fun k => k) (l.length - 1) ?_ ?_ ?_
  · (repeat simp only [push_cast, Nat.reduceBEq, Nat.reduceLT, Nat.reduceEqDiff, reduceIte, reduceCtorEq, Nat.reduceMul, Nat.reduceAdd, Nat.reduceSub, Int.reduceEq, Int.reduceLT, Int.reduceLE, Int.reduceNeg, Int.reduceAdd, Int.reduceSub, Int.reduceMul, Nat.reduceLeDiff, Int.reduceToNat])
    omega
  · exact ⟨Nat.le_refl _, rfl, Ext.refl _⟩
  rintro k w1 ⟨hk, he, hx1⟩
  have hh1 := hx1.blk hh
  cases k with
  | zero =>
    have b0 : ¬ (0 : Int) < ((0 : Nat) : Int) := by omega
    (repeat (first | (with_reducible first | (refine hK _ _ ?_; clear hK K) | refine (show ∀ σ' w', _ → K σ' w' from by assumption) _ _ ?_ | refine W_seq_k fun K hK => ?_ | refine W_block_k fun K hK => ?_ | refine W_skip ?_ | refine W_ret ?_) | ((first | ((with_reducible refine W_id ?_); refine W_reg (by decide) (by rfl) ?_) | (with_reducible first | refine W_cond ?_ | refine hZ _ _ ?_ | refine W_exit ?_ | refine Wo_id ?_)); repeat1' simp only [push_cast, Nat.reduceBEq, Nat.reduceLT, Nat.reduceEqDiff, reduceIte, reduceCtorEq, Nat.reduceMul, Nat.reduceAdd, Nat.reduceSub, Int.reduceEq, Int.reduceLT, Int.reduceLE, Int.reduceNeg, Int.reduceAdd, Int.reduceSub, Int.reduceMul, Nat.reduceLeDiff, Int.reduceToNat, b0]) | ((repeat ((fail_if_success with_reducible refine hK _ _ ?_); clear hK K)); (with_reducible refine hK _ _ ?_); clear hK K)))
    rw [he]
    exact ⟨rfl, hx1⟩
  | succ k =>
    rw [botR] at he
    generalize hkk : k + 1 = k1 at *
    have b0 : (0 : Int) < (k1 : Int) := by omega
    have b1 : (0 : Int) ≤ (k1 : Int) := by omega
    have b2 : (k1 : Int) < (l.length : Int) := by omega
    have b3 : ((k1 : Int) - 1) = (k : Int) := by omega
    have b4 : inI64 (k : Int) := by unfold inI64; omega
    obtain ⟨y, hy⟩ : ∃ y, l[k1]? = some y := ⟨_, List.getElem?_eq_getElem (by omega)⟩
    have hgd : l.getD k1 0 = y := by simp [List.getD, hy]
    rw [hgd] at he
    obtain ⟨b, o, rfl, _, cy⟩ := hcell k1 y hy
    obtain ⟨q, rfl, hq⟩ := hok y (List.mem_of_getElem? hy)
    have d0 : (0 : Int) ≤ (q : Int) := by omega
    have d1 : (q : Int) < (L.length : Int) := by omega
    rw [opN_at hq] at he
    have hxd := hx1.trans (Ext.drew w1)
    obtain ⟨bn, cap, t, xa, xn, xc, ya, yn, yc, hA, c0, c1, c2, c3, c4, c5, c6, c7, c8, c9, c10⟩ := (ha.ext hxd).node11 hq
    have hhd := hxd.blk hh
    have cy := cellO_ext hxd cy
    generalize L[q] = nd at *
    (repeat (first | (with_reducible first | (refine hK _ _ ?_; clear hK K) | refine (show ∀ σ' w', _ → K σ' w' from by assumption) _ _ ?_ | refine W_seq_k fun K hK => ?_ | refine W_block_k fun K hK => ?_ | refine W_skip ?_ | refine W_ret ?_) | ((first | ((with_reducible refine W_id ?_); refine W_reg (by decide) (by rfl) ?_) | (with_reducible first | refine W_cond ?_ | refine hZ _ _ ?_ | refine W_exit ?_ | refine Wo_id ?_)); repeat1' simp only [push_cast, Nat.reduceBEq, Nat.reduceLT, Nat.reduceEqDiff, reduceIte, reduceCtorEq, Nat.reduceMul, Nat.reduceAdd, Nat.reduceSub, Int.reduceEq, Int.reduceLT, Int.reduceLE, Int.reduceNeg, Int.reduceAdd, Int.reduceSub, Int.reduceMul, Nat.reduceLeDiff, Int.reduceToNat, b0]) | ((repeat ((fail_if_success with_reducible refine hK _ _ ?_); clear hK K)); (with_reducible refine hK _ _ ?_); clear hK K)))
    refine W_draw (.pas 0 (.pas 1 (.pas 2 (.pas 3 (.pas 4 (.pas 5 (.pas 6 (.pas 7 (.pas 8 (.pas 9 (.pas 10 (.pas 11 (.pas 12 (.pas 13 (.pas 14 (.pas 15 (.act 16 (.last 17)))))))))))))))))) (fun q => q < w1.heap.size) (by decide) mixed (by kernel_rfl) ?_
    have hszd : w1.heap.size = w1.drew.heap.size := (drew_size w1).symm
    generalize w1.drew = wd at *
    have l1 : pr < w1.heap.size := by rw [hszd]; exact blk_lt hhd
    have l2 : pb < w1.heap.size := by rw [hszd]; exact blk_lt hA
    have l3 : bn < w1.heap.size := by rw [hszd]; exact cellO_lt c0
    have l4 : b < w1.heap.size := by rw [hszd]; exact cellO_lt cy
    (repeat (first | ((first | refine pas_plain rfl ?_ | refine pas_g rfl rfl ?_ | refine act_plain rfl ?_ | refine act_g rfl rfl ?_ | refine last_plain rfl ?_ | refine tail_plain rfl ?_ | refine tail_g rfl rfl ?_); (repeat simp only [push_cast, Nat.reduceBEq, Nat.reduceLT, Nat.reduceEqDiff, reduceIte, reduceCtorEq, Nat.reduceMul, Nat.reduceAdd, Nat.reduceSub, Int.reduceEq, Int.reduceLT, Int.reduceLE, Int.reduceNeg, Int.reduceAdd, Int.reduceSub, Int.reduceMul, Nat.reduceLeDiff, Int.reduceToNat, cell_h, cellO_cells, hhd, hA, c0, c1, c2, c3, c4, c5, c6, c7, c8, c9, c10, cy, b0, b1, b2, d0, d1, l1, l2, l3, l4, RunV_zero Tryd.zeroValue49, vcells_agg])) | (refine tail_fin ?_) | (refine sch_fin ?_)))
    refine ⟨kept_upd (Ext.alloc wd _) fun q hq => ⟨by have : q < w1.heap.size := hq; omega, id⟩, ?_⟩
    (repeat (first | ((first | refine pas_plain rfl ?_ | refine pas_g rfl rfl ?_ | refine act_plain rfl ?_ | refine act_g rfl rfl ?_ | refine last_plain rfl ?_ | refine tail_plain rfl ?_ | refine tail_g rfl rfl ?_); (repeat simp only [push_cast, Nat.reduceBEq, Nat.reduceLT, Nat.reduceEqDiff, reduceIte, reduceCtorEq, Nat.reduceMul, Nat.reduceAdd, Nat.reduceSub, Int.reduceEq, Int.reduceLT, Int.reduceLE, Int.reduceNeg, Int.reduceAdd, Int.reduceSub, Int.reduceMul, Nat.reduceLeDiff, Int.reduceToNat, cell_h, cellO_cells, vcells_agg])) | (refine tail_fin ?_) | (refine sch_fin ?_)))
    simp only [can_h, heap_alloc_h, if_true, canO_cells, List.size_toArray, List.length_cons, List.length_nil, Nat.zero_add, Nat.reduceAdd, Nat.reduceLT, true_and]
    obtain ⟨hx6, hp6⟩ := newL wd #[.int .i64 0, .string ⟨#[]⟩, .string ⟨#[]⟩, .int .i64 0, .slice none 0 0, .bool false, .int .i64 0, .int .i64 0, .slice none 0 0, .int .i64 0, .int .i64 0] [.int .i64 nd.kind, .string nd.name, .string nd.text, .int .i64 nd.space, .slice xa xn xc, .bool nd.dup, .int .i64 nd.parent, .int .i64 nd.content, .slice ya yn yc, .int .i64 nd.frm, .int .i64 nd.to] 49 rfl
    generalize setCells (wd.alloc (.cells #[.int .i64 0, .string ⟨#[]⟩, .string ⟨#[]⟩, .int .i64 0, .slice none 0 0, .bool false, .int .i64 0, .int .i64 0, .slice none 0 0, .int .i64 0, .int .i64 0] 49)) ⟨wd.heap.size, 0, none⟩ [.int .i64 nd.kind, .string nd.name, .string nd.text, .int .i64 nd.space, .slice xa xn xc, .bool nd.dup, .int .i64 nd.parent, .int .i64 nd.content, .slice ya yn yc, .int .i64 nd.frm, .int .i64 nd.to] 0 = w6 at *
    obtain ⟨p8, hp8⟩ : ∃ p8, p8 = wd.heap.size := ⟨_, rfl⟩
    rw [← hp8] at hp6 ⊢
    ((repeat simp only [push_cast, Nat.reduceBEq, Nat.reduceLT, Nat.reduceEqDiff, reduceIte, reduceCtorEq, Nat.reduceMul, Nat.reduceAdd, Nat.reduceSub, Int.reduceEq, Int.reduceLT, Int.reduceLE, Int.reduceNeg, Int.reduceAdd, Int.reduceSub, Int.reduceMul, Nat.reduceLeDiff, Int.reduceToNat, cell_h, cellO_cells, hp6]); (repeat (first | (with_reducible first | (refine hK _ _ ?_; clear hK K) | refine (show ∀ σ' w', _ → K σ' w' from by assumption) _ _ ?_ | refine W_seq_k fun K hK => ?_ | refine W_block_k fun K hK => ?_ | refine W_skip ?_ | refine W_ret ?_) | ((first | ((with_reducible refine W_id ?_); refine W_reg (by decide) (by rfl) ?_) | (with_reducible first | refine W_cond ?_ | refine hZ _ _ ?_ | refine W_exit ?_ | refine Wo_id ?_)); repeat1' simp only [push_cast, Nat.reduceBEq, Nat.reduceLT, Nat.reduceEqDiff, reduceIte, reduceCtorEq, Nat.reduceMul, Nat.reduceAdd, Nat.reduceSub, Int.reduceEq, Int.reduceLT, Int.reduceLE, Int.reduceNeg, Int.reduceAdd, Int.reduceSub, Int.reduceMul, Nat.reduceLeDiff, Int.reduceToNat, cell_h, cellO_cells, hp6]) | ((repeat ((fail_if_success with_reducible refine hK _ _ ?_); clear hK K)); (with_reducible refine hK _ _ ?_); clear hK K))))
    refine (rscope_c which nd.space nd.name).mono ?_
    rintro v w7 ⟨rfl, hx7⟩
    have he2 : rscE which ⟨(q : Int), nd.space, nd.name⟩ = rscopeN which nd.space nd.name := rfl
    rw [he2] at he
    cases hb2 : rscopeN which nd.space nd.name
    · rw [hb2, if_neg (by decide)] at he
      ((repeat simp only [push_cast, Nat.reduceBEq, Nat.reduceLT, Nat.reduceEqDiff, reduceIte, reduceCtorEq, Nat.reduceMul, Nat.reduceAdd, Nat.reduceSub, Int.reduceEq, Int.reduceLT, Int.reduceLE, Int.reduceNeg, Int.reduceAdd, Int.reduceSub, Int.reduceMul, Nat.reduceLeDiff, Int.reduceToNat, b3, b4]); (repeat (first | (with_reducible first | (refine hK _ _ ?_; clear hK K) | refine (show ∀ σ' w', _ → K σ' w' from by assumption) _ _ ?_ | refine W_seq_k fun K hK => ?_ | refine W_block_k fun K hK => ?_ | refine W_skip ?_ | refine W_ret ?_) | ((first | ((with_reducible refine W_id ?_); refine W_reg (by decide) (by rfl) ?_) | (with_reducible first | refine W_cond ?_ | refine hZ _ _ ?_ | refine W_exit ?_ | refine Wo_id ?_)); repeat1' simp only [push_cast, Nat.reduceBEq, Nat.reduceLT, Nat.reduceEqDiff, reduceIte, reduceCtorEq, Nat.reduceMul, Nat.reduceAdd, Nat.reduceSub, Int.reduceEq, Int.reduceLT, Int.reduceLE, Int.reduceNeg, Int.reduceAdd, Int.reduceSub, Int.reduceMul, Nat.reduceLeDiff, Int.reduceToNat, b3, b4]) | ((repeat ((fail_if_success with_reducible refine hK _ _ ?_); clear hK K)); (with_reducible refine hK _ _ ?_); clear hK K))))
      refine ⟨k, by omega, ?_⟩
      (repeat simp only [push_cast, Nat.reduceBEq, Nat.reduceLT, Nat.reduceEqDiff, reduceIte, reduceCtorEq, Nat.reduceMul, Nat.reduceAdd, Nat.reduceSub, Int.reduceEq, Int.reduceLT, Int.reduceLE, Int.reduceNeg, Int.reduceAdd, Int.reduceSub, Int.reduceMul, Nat.reduceLeDiff, Int.reduceToNat])
      exact ⟨by omega, he, (hxd.trans hx6).trans hx7⟩
    · rw [hb2, if_pos rfl] at he
      ((repeat simp only [push_cast, Nat.reduceBEq, Nat.reduceLT, Nat.reduceEqDiff, reduceIte, reduceCtorEq, Nat.reduceMul, Nat.reduceAdd, Nat.reduceSub, Int.reduceEq, Int.reduceLT, Int.reduceLE, Int.reduceNeg, Int.reduceAdd, Int.reduceSub, Int.reduceMul, Nat.reduceLeDiff, Int.reduceToNat]); (repeat (first | (with_reducible first | (refine hK _ _ ?_; clear hK K) | refine (show ∀ σ' w', _ → K σ' w' from by assumption) _ _ ?_ | refine W_seq_k fun K hK => ?_ | refine W_block_k fun K hK => ?_ | refine W_skip ?_ | refine W_ret ?_) | ((first | ((with_reducible refine W_id ?_); refine W_reg (by decide) (by rfl) ?_) | (with_reducible first | refine W_cond ?_ | refine hZ _ _ ?_ | refine W_exit ?_ | refine Wo_id ?_)); repeat1' simp only [push_cast, Nat.reduceBEq, Nat.reduceLT, Nat.reduceEqDiff, reduceIte, reduceCtorEq, Nat.reduceMul, Nat.reduceAdd, Nat.reduceSub, Int.reduceEq, Int.reduceLT, Int.reduceLE, Int.reduceNeg, Int.reduceAdd, Int.reduceSub, Int.reduceMul, Nat.reduceLeDiff, Int.reduceToNat]) | ((repeat ((fail_if_success with_reducible refine hK _ _ ?_); clear hK K)); (with_reducible refine hK _ _ ?_); clear hK K))))
      exact ⟨by rw [he], (hxd.trans hx6).trans hx7⟩
end
end Go.Proofs.YtkafpameheohdaaDoor
end
section
set_option linter.unusedSimpArgs false
set_option linter.unusedVariables false
namespace Go.Vk
open Go
theorem lastB_some {p : Nat → Bool} {q : Nat} : ∀ {k : Nat}, q < k → p q = true → (q : Int) ≤ lastB p k
  | 0, h, _ => by omega
  | k + 1, h, hq => by
    rw [lastB]
    split
    · omega
    · rename_i hk
      by_cases e : q = k
      · subst e; exact absurd hq hk
      · exact lastB_some (by omega) hq
theorem lastB_congr {p p' : Nat → Bool} : ∀ {k : Nat}, (∀ j, j < k → p j = p' j) → lastB p k = lastB p' k
  | 0, _ => rfl
  | k + 1, h => by rw [lastB, lastB, h k (by omega), lastB_congr fun j hj => h j (by omega)]
theorem getD_lt {s : List OpS} {j : Nat} (h : j < s.length) : s.getD j zS = s[j] := by simp [List.getD, h]
end Go.Vk
end
section
set_option linter.unusedSimpArgs false
set_option linter.unusedVariables false
namespace Go.Proofs.YtkafpameheohdaaDoor
open Go Go.Vk
set_option maxHeartbeats 40000000
theorem great_c {w : World} {v1 v2 : Value} {l1 l2 : List Nat} (h1 : RdAt w 1 v1 (u8Cells l1)) (h2 : RdAt w 1 v2 (u8Cells l2)) :
    Gives Tryd.prog 8 #[.agg #[v1, v2]] w fun v w' => v = .bool (decide (60 < l1.length ∨ 60 < l2.length)) ∧ Ext w w' := by
  obtain ⟨a1, c1, rfl, hc1, hcell1⟩ := u8_len h1
  obtain ⟨a2, c2, rfl, hc2, hcell2⟩ := u8_len h2
  have hx1 := Ext.alloc w (.cells #[.slice a1 l1.length c1, .slice a2 l2.length c2] 24)
  by_cases g1 : 60 < l1.length
  · have d1 : (60 : Int) < (l1.length : Int) := by omega
    refine Gives.of_W Tryd.call8 Tryd.func8 rfl Tryd.ntmps8 (by simp) ?_; intro Z hZ
    (repeat (first | (with_reducible first | (refine hK _ _ ?_; clear hK K) | refine (show ∀ σ' w', _ → K σ' w' from by assumption) _ _ ?_ | refine W_seq_k fun K hK => ?_ | refine W_block_k fun K hK => ?_ | refine W_skip ?_ | refine W_ret ?_) | ((first | ((with_reducible refine W_id ?_); refine W_reg (by decide) (by rfl) ?_) | (with_reducible first | refine W_cond ?_ | refine hZ _ _ ?_ | refine W_exit ?_ | refine Wo_id ?_)); repeat1' simp only [push_cast, Nat.reduceBEq, Nat.reduceLT, Nat.reduceEqDiff, reduceIte, reduceCtorEq, Nat.reduceMul, Nat.reduceAdd, Nat.reduceSub, Int.reduceEq, Int.reduceLT, Int.reduceLE, Int.reduceNeg, Int.reduceAdd, Int.reduceSub, Int.reduceMul, Nat.reduceLeDiff, Int.reduceToNat, vcells_agg, cell_h, can_h, cellO_cells, canO_cells, setO_cells, heap_set_h, heap_alloc_h, size_set_h, size_alloc_h, vcells_agg, succ_ne, ne_succ, List.setIfInBounds_toArray, List.set_cons_succ, List.set_cons_zero, setCells, drew_h, d1, decide_true]) | ((repeat ((fail_if_success with_reducible refine hK _ _ ?_); clear hK K)); (with_reducible refine hK _ _ ?_); clear hK K)))
    exact ⟨by simp [g1], hx1⟩
  · have d1 : ¬ (60 : Int) < (l1.length : Int) := by omega
    by_cases g2 : 60 < l2.length
    · have d2 : (60 : Int) < (l2.length : Int) := by omega
      refine Gives.of_W Tryd.call8 Tryd.func8 rfl Tryd.ntmps8 (by simp) ?_; intro Z hZ
      (repeat (first | (with_reducible first | (refine hK _ _ ?_; clear hK K) | refine (show ∀ σ' w', _ → K σ' w' from by assumption) _ _ ?_ | refine W_seq_k fun K hK => ?_ | refine W_block_k fun K hK => ?_ | refine W_skip ?_ | refine W_ret ?_) | ((first | ((with_reducible refine W_id ?_); refine W_reg (by decide) (by rfl) ?_) | (with_reducible first | refine W_cond ?_ | refine hZ _ _ ?_ | refine W_exit ?_ | refine Wo_id ?_)); repeat1' simp only [push_cast, Nat.reduceBEq, Nat.reduceLT, Nat.reduceEqDiff, reduceIte, reduceCtorEq, Nat.reduceMul, Nat.reduceAdd, Nat.reduceSub, Int.reduceEq, Int.reduceLT, Int.reduceLE, Int.reduceNeg, Int.reduceAdd, Int.reduceSub, Int.reduceMul, Nat.reduceLeDiff, Int.reduceToNat, vcells_agg, cell_h, can_h, cellO_cells, canO_cells, setO_cells, heap_set_h, heap_alloc_h, size_set_h, size_alloc_h, vcells_agg, succ_ne, ne_succ, List.setIfInBounds_toArray, List.set_cons_succ, List.set_cons_zero, setCells, drew_h, d1, d2, decide_true, decide_false]) | ((repeat ((fail_if_success with_reducible refine hK _ _ ?_); clear hK K)); (with_reducible refine hK _ _ ?_); clear hK K)))
      exact ⟨by simp [g1, g2], hx1⟩
    · have d2 : ¬ (60 : Int) < (l2.length : Int) := by omega
      refine Gives.of_W Tryd.call8 Tryd.func8 rfl Tryd.ntmps8 (by simp) ?_; intro Z hZ
      (repeat (first | (with_reducible first | (refine hK _ _ ?_; clear hK K) | refine (show ∀ σ' w', _ → K σ' w' from by assumption) _ _ ?_ | refine W_seq_k fun K hK => ?_ | refine W_block_k fun K hK => ?_ | refine W_skip ?_ | refine W_ret ?_) | ((first | ((with_reducible refine W_id ?_); refine W_reg (by decide) (by rfl) ?_) | (with_reducible first | refine W_cond ?_ | refine hZ _ _ ?_ | refine W_exit ?_ | refine Wo_id ?_)); repeat1' simp only [push_cast, Nat.reduceBEq, Nat.reduceLT, Nat.reduceEqDiff, reduceIte, reduceCtorEq, Nat.reduceMul, Nat.reduceAdd, Nat.reduceSub, Int.reduceEq, Int.reduceLT, Int.reduceLE, Int.reduceNeg, Int.reduceAdd, Int.reduceSub, Int.reduceMul, Nat.reduceLeDiff, Int.reduceToNat, vcells_agg, cell_h, can_h, cellO_cells, canO_cells, setO_cells, heap_set_h, heap_alloc_h, size_set_h, size_alloc_h, vcells_agg, succ_ne, ne_succ, List.setIfInBounds_toArray, List.set_cons_succ, List.set_cons_zero, setCells, drew_h, d1, d2, decide_false]) | ((repeat ((fail_if_success with_reducible refine hK _ _ ?_); clear hK K)); (with_reducible refine hK _ _ ?_); clear hK K)))
      exact ⟨by simp [g1, g2], hx1⟩
end Go.Proofs.YtkafpameheohdaaDoor
end
section
set_option linter.unusedSimpArgs false
set_option linter.unusedVariables false
namespace Go.Vk
open Go
def hasW (w : Int) (s : List OpS) (p : OpS → Bool) : Bool := (scp (scE w) s s.length).any p
end Go.Vk
end
section
set_option linter.unusedSimpArgs false
set_option linter.unusedVariables false
namespace Go.Vk
open Go
theorem hK_cut {P : Program} {n : Nat} {K K0 : Regs → World → Prop} {X : Outs} {x y : Code} (hK : ∀ σ' w', W P n σ' w' (.seq x y) K0 X → K σ' w') (τ : Regs) (I : World → Prop) (h2 : ∀ w', I w' → W P n τ w' y K0 X) :
    ∀ σ' w', W P n σ' w' x (fun σ'' w'' => Sub τ σ'' ∧ I w'') X → K σ' w' :=
  fun σ' w' h => hK σ' w' (W_seq (h.mono fun _ w'' ⟨hs, hi⟩ => (h2 w'' hi).sub hs))
end Go.Vk
end
section
set_option linter.unusedSimpArgs false
set_option linter.unusedVariables false
namespace Go.Vk
open Go
/-- a stack whose blocks are among O: all others that came since w0 are not its own -/
def Ow (w0 w : World) (O : Nat → Prop) (ps : Nat) (L : List Nd) (s : List OpS) : Prop :=
  ∃ pa Q, StAt w0 w Q ps pa L s ∧ (∀ b, w0.heap.size ≤ b → b < w.heap.size → ¬ O b → Q b) ∧ ∀ b, O b → w0.heap.size ≤ b ∧ b < w.heap.size
section
variable {w0 w w' : World} {O : Nat → Prop} {ps : Nat} {L : List Nd} {s : List OpS}
theorem Ow.other {G : Nat → Prop} (h : Ow w0 w O ps L s) (hu : Upd G w w') (hG : ∀ b, G b → w0.heap.size ≤ b ∧ ¬ O b) : Ow w0 w' O ps L s := by
  obtain ⟨pa, Q, h1, h2, h3⟩ := h
  have hs := hu.alike.size
  refine ⟨pa, fun b => Q b ∨ (w.heap.size ≤ b ∧ b < w'.heap.size), h1.app hu (fun b hb hg => ⟨h2 b (hG b hg).1 hb (hG b hg).2, (hG b hg).1⟩) fun b hb => hb, fun b hb hb' ho => ?_, fun b hb => ?_⟩
  · by_cases hl : b < w.heap.size
    · exact .inl (h2 b hb hl ho)
    · exact .inr ⟨by omega, hb'⟩
  · have := h3 b hb; omega
theorem Ow.pass (h : Ow w0 w O ps L s) (hx : Ext w w') : Ow w0 w' O ps L s := h.other hx fun _ h => h.elim
theorem Ow.out (h : Ow w0 w O ps L s) : Ext w0 w := let ⟨_, _, h1, _⟩ := h; h1.out
theorem Ow.op {s' : List OpS} {pa : Nat} {Q : Nat → Prop} (h0 : ∀ b, w0.heap.size ≤ b → b < w.heap.size → ¬ O b → Q b) (h3 : ∀ b, O b → w0.heap.size ≤ b ∧ b < w.heap.size) (h : StAt w0 w' Q ps pa L s') (hu : Upd (AF w0 Q) w w') (h00 : w0.heap.size ≤ w.heap.size) :
    Ow w0 w' (fun b => O b ∨ (w.heap.size ≤ b ∧ b < w'.heap.size)) ps L s' ∧ Upd O w w' := by
  have hs := hu.alike.size
  refine ⟨⟨pa, Q, h, fun b hb hb' ho => ?_, fun b hb => ?_⟩, hu.mono fun b hb hf => ?_⟩
  · by_cases hl : b < w.heap.size
    · exact h0 b hb hl fun h => ho (.inl h)
    · exact absurd (.inr ⟨by omega, hb'⟩) ho
  · rcases hb with hb | hb
    · have := h3 b hb; omega
    · omega
  · exact Classical.byContradiction fun ho => hf.2 (h0 b hf.1 hb ho)
theorem StAt.base {w1 : World} {Q : Nat → Prop} {pa : Nat} (h : StAt w1 w Q ps pa L s) (hx : Ext w0 w1) : StAt w0 w (fun b => Q b ∨ b < w1.heap.size) ps pa L s := by
  obtain ⟨sv, bo, h1, h2, h3, h4, h5⟩ := h
  have hs := hx.alike.size
  refine ⟨sv, bo, h1, h2.base hx fun b hb => ?_, by omega, fun b hb => ⟨by have := (h4 b hb).1; omega, fun hq => ?_⟩, fun hq => ?_⟩
  · rcases hb with (hb | hb) | hb | hb
    · exact .inl (.inl hb)
    · exact .inr hb
    · exact .inl (.inr (.inl hb))
    · exact .inl (.inr (.inr hb))
  · rcases hq with hq | hq
    · exact (h4 b hb).2 hq
    · have := (h4 b hb).1; omega
  · rcases hq with hq | hq
    · exact h5 hq
    · omega
theorem Ow.first {w1 : World} {Q : Nat → Prop} {pa : Nat} (h : StAt w1 w Q ps pa L s) (hx : Ext w0 w1) : Ow w0 w (fun b => w1.heap.size ≤ b ∧ b < w.heap.size ∧ ¬ Q b) ps L s := by
  have hs := hx.alike.size
  refine ⟨pa, _, h.base hx, fun b hb hb' ho => ?_, fun b hb => ⟨by omega, hb.2.1⟩⟩
  by_cases hl : b < w1.heap.size
  · exact .inr hl
  · exact .inl (Classical.byContradiction fun hq => ho ⟨by omega, hb', hq⟩)
end
end Go.Vk
end
section
set_option linter.unusedSimpArgs false
set_option linter.unusedVariables false
namespace Go.Vk
open Go
def BkR (w0 w : World) (pt pu pv : Nat) (Ot Ou Ov : Nat → Prop) (L : List Nd) (s1 s2 s3 : List OpS) (V : Value) (l : List Int) (bo : Option Nat) : Prop :=
  Ow w0 w Ot pt L s1 ∧ Ow w0 w Ou pu L s2 ∧ Ow w0 w Ov pv L s3 ∧ SlAt w 1 V (intCells l) bo
def RB (Ot Ou Ov : Nat → Prop) (bo : Option Nat) (b : Nat) : Prop := Ot b ∨ Ou b ∨ Ov b ∨ bo = some b
theorem BkR.upd {w0 w w' : World} {pt pu pv : Nat} {Ot Ou Ov O : Nat → Prop} {L : List Nd} {s1 s2 s3 : List OpS} {V : Value} {l : List Int} {bo : Option Nat} (h : BkR w0 w pt pu pv Ot Ou Ov L s1 s2 s3 V l bo) (hu : Upd O w w') (hO : ∀ b, O b → w0.heap.size ≤ b ∧ ¬ RB Ot Ou Ov bo b) :
    BkR w0 w' pt pu pv Ot Ou Ov L s1 s2 s3 V l bo :=
  ⟨h.1.other hu fun b hb => ⟨(hO b hb).1, fun h => (hO b hb).2 (.inl h)⟩, h.2.1.other hu fun b hb => ⟨(hO b hb).1, fun h => (hO b hb).2 (.inr (.inl h))⟩,
    h.2.2.1.other hu fun b hb => ⟨(hO b hb).1, fun h => (hO b hb).2 (.inr (.inr (.inl h)))⟩, h.2.2.2.upd hu fun b hb hg => (hO b hg).2 (.inr (.inr (.inr hb)))⟩
theorem SlAt.preS {w : World} {es n c : Nat} {a : Option Addr} {cells : List Value} {bo : Option Nat} (h : SlAt w es (.slice a n c) cells bo) {hi : Nat} (h2 : hi ≤ n) :
    SlAt w es (.slice (if c = 0 then a else Option.map (fun x => x.add 0) a) (hi - 0) (c - 0)) (cells.take (hi * es)) bo := by
  rw [Nat.sub_zero, Nat.sub_zero]
  rcases h with ⟨h1, h3, h4⟩ | ⟨b, o, n', c', cs, t, h1, h3, h4, h5, h6, h7, h8⟩
  · cases h3; cases h4
    obtain rfl : hi = 0 := by omega
    exact .inl ⟨h1, rfl, by simp⟩
  · cases h3
    have hm := Nat.mul_le_mul_right es h2
    refine .inr ⟨b, o, hi, c, cs, t, h1, ?_, by omega, by rw [List.length_take]; omega, h6, h7, fun i hi' => ?_⟩
    · split
      · rfl
      · simp [add_mk]
    · rw [List.length_take] at hi'
      rw [List.getElem?_take, if_pos (by omega)]
      exact h8 i (by omega)
end Go.Vk
end
section
set_option linter.unusedSimpArgs false
set_option linter.unusedVariables false
namespace Go.Vk
open Go
theorem rs_put {G : Nat → Prop} {w w2 : World} {S F : Nat → Prop} {pr pb : Nat} {L : List Nd} {l l' : List Int} {lv u : Value} {bo bo' : Option Nat} (h1 : RSs w pr pb lv l bo) (h2 : Ar w pb L F) (h3 : ∀ b, F b → S b ∧ b ≠ pr ∧ bo ≠ some b) (h4 : S pr) (h5 : ∀ b, bo = some b → S b)
    (g1 : SlAt w2 1 u (intCells l') bo') (g2 : Upd G w w2) (hG : ∀ b, b < w.heap.size → G b → bo = some b) (g3 : ∀ b, bo' = some b → bo = some b ∨ w.heap.size ≤ b) :
    canStore w2 ⟨pr, 1, none⟩ ∧ RS (w2.setCell ⟨pr, 1, none⟩ u) (gS S w (w2.setCell ⟨pr, 1, none⟩ u)) pr pb L l' ∧ Upd S w (w2.setCell ⟨pr, 1, none⟩ u) := by
  have hlt := blk_lt h1.head
  have hnb : ¬ bo = some pr := h1.ne
  have hp2 := (g2.same pr hlt fun hg => hnb (hG _ hlt hg)).trans h1.head
  have hne' : bo' ≠ some pr := fun e => by
    rcases g3 pr e with h | h
    · exact hnb h
    · omega
  have up : Upd (fun b => b = pr) w2 (w2.setCell ⟨pr, 1, none⟩ u) := Upd.setCell (F := fun b => b = pr) (a := ⟨pr, 1, none⟩) w2 rfl u
  have hA := (h2.mono (G := fun b => F b ∧ b < w.heap.size) fun b hb hf => ⟨hf, hb⟩).frame g2 fun b hf hg => (h3 b hf.1).2.2 (hG b hf.2 hg)
  refine ⟨by rw [can_h, hp2, canO_cells]; exact Nat.lt_succ_self 1, ⟨u, bo', fun b => F b ∧ b < w.heap.size, ⟨?_, g1.upd up fun b hb e => hne' (by rw [hb, e]), hne'⟩, hA.frame up fun b hf e => (h3 b hf.1).2.1 e, fun b hf => ⟨.inl (h3 b hf.1).1, (h3 b hf.1).2.1, fun e => ?_⟩, .inl h4, fun b hb => ?_⟩, ?_⟩
  · rw [heap_set_h, if_pos rfl, hp2]; rfl
  · rcases g3 b e with h | h
    · exact (h3 b hf.1).2.2 h
    · have := hf.2; omega
  · rcases g3 b hb with h | h
    · exact .inl (h5 b h)
    · refine .inr ⟨h, ?_⟩
      rw [size_set_h]
      subst hb; exact g1.lt
  · exact Upd.trans (g2.mono fun b hb e => h5 b (hG b hb e)) up fun b _ e => e ▸ h4
theorem RS.to {w : World} {S S' : Nat → Prop} {pr pb : Nat} {L : List Nd} {l : List Int} (h : RS w S pr pb L l) (hS : ∀ b, S b → S' b) : RS w S' pr pb L l := h.upd (Upd.refl none_ w) (fun _ _ => id) hS
theorem RS.no {w w' : World} {S : Nat → Prop} {pr pb : Nat} {L : List Nd} {l : List Int} (h : RS w S pr pb L l) (hx : Ext w w') : RS w' (gS S w w') pr pb L l ∧ Upd S w w' := ⟨(h.ext hx).to fun _ => .inl, hx.upd⟩
def okR (L : List Nd) (l : List Int) : Prop := ∀ y ∈ l, ∃ q : Nat, y = (q : Int) ∧ q < L.length
def untR (L : List Nd) (l : List Int) (x : List ByteArray) : List Int × Int :=
  if lastB (fun k => htmlS (opN L (l.getD k 0)) x) l.length < 0 then (l, 4) else (l.take (lastB (fun k => htmlS (opN L (l.getD k 0)) x) l.length).toNat, 0)
def rgoN (but : ByteArray) (th : Bool) (x : ByteArray) : Bool := if th = true then rthoN x else amongN im13 x && !decide (x = but)
def rdropK (p : Int → Bool) (l : List Int) : Nat → Nat
  | 0 => 0
  | k + 1 => if p (l.getD k 0) = true then rdropK p l k else k + 1
def rgoP (L : List Nd) (but : ByteArray) (th : Bool) (y : Int) : Bool := decide ((opN L y).space = 0) && rgoN but th (opN L y).name
def rdropR (L : List Nd) (l : List Int) (but : ByteArray) (th : Bool) : List Int := l.take (rdropK (rgoP L but th) l l.length)
def botN (L : List Nd) (which : Int) (l : List Int) : Nat := botR (fun y => rscE which (opN L y)) l (l.length - 1)
theorem botR_le (p : Int → Bool) (l : List Int) : ∀ k : Nat, botR p l k ≤ k
  | 0 => Nat.le_refl _
  | k + 1 => by
    have := botR_le p l k
    rw [botR]; split <;> omega
end Go.Vk
namespace Go.Proofs.YtkafpameheohdaaDoor
open Go Go.Vk
set_option maxHeartbeats 40000000
section
variable {w : World} {pr pb : Nat} {lv : Value} {L : List Nd} {l : List Int} {bo : Option Nat} {F : Nat → Prop} {S : Nat → Prop}
theorem rhas15_c (h : RSs w pr pb lv l bo) (ha : Ar w pb L F) (hl : l.length < 100000) (hb : L.length < 1000000) (hok : okR L l) (which : Int) {nv : Value} {x : List ByteArray} (hn : RdAt w 1 nv (strCells x)) (hx : x.length < 1000000000) : Gives Tryd.prog 37 #[.pointer (some ⟨pr, 0, none⟩), .int .i64 which, nv] w fun v w' => v = .bool ((l.drop (botN L which l)).any fun y => htmlS (opN L y) x) ∧ Ext w w' := by
  obtain ⟨a, c, rfl, hlc, hcell⟩ := ints_len2 h.sl
  obtain ⟨na, nc, rfl, _⟩ := str_len hn
  have hh := h.head
  have hbl := botR_le (fun y => rscE which (opN L y)) l (l.length - 1)
  have hbm := rbottom_c h ha hl hb hok which
  unfold botN
  generalize botR (fun y => rscE which (opN L y)) l (l.length - 1) = bt at *
  refine Gives.of_W Tryd.call37 Tryd.func37 rfl Tryd.ntmps37 (by simp) ?_; intro Z hZ
  (repeat (first | (with_reducible first | (refine hK _ _ ?_; clear hK K) | refine (show ∀ σ' w', _ → K σ' w' from by assumption) _ _ ?_ | refine W_seq_k fun K hK => ?_ | refine W_block_k fun K hK => ?_ | refine W_skip ?_ | refine W_ret ?_) | ((first | ((with_reducible refine W_id ?_); refine W_reg (by decide) (by rfl) ?_) | (with_reducible first | refine W_cond ?_ | refine hZ _ _ ?_ | refine W_exit ?_ | refine Wo_id ?_)); repeat1' simp only [push_cast, Nat.reduceBEq, Nat.reduceLT, Nat.reduceEqDiff, reduceIte, reduceCtorEq, Nat.reduceMul, Nat.reduceAdd, Nat.reduceSub, Int.reduceEq, Int.reduceLT, Int.reduceLE, Int.reduceNeg, Int.reduceAdd, Int.reduceSub, Int.reduceMul, Nat.reduceLeDiff, Int.reduceToNat]) | ((repeat ((fail_if_success with_reducible refine hK _ _ ?_); clear hK K)); (with_reducible refine hK _ _ ?_); clear hK K)))
  refine hbm.mono ?_
  rintro v w1 ⟨rfl, hx1⟩
  ((repeat simp only [push_cast, Nat.reduceBEq, Nat.reduceLT, Nat.reduceEqDiff, reduceIte, reduceCtorEq, Nat.reduceMul, Nat.reduceAdd, Nat.reduceSub, Int.reduceEq, Int.reduceLT, Int.reduceLE, Int.reduceNeg, Int.reduceAdd, Int.reduceSub, Int.reduceMul, Nat.reduceLeDiff, Int.reduceToNat]); (repeat (first | (with_reducible first | (refine hK _ _ ?_; clear hK K) | refine (show ∀ σ' w', _ → K σ' w' from by assumption) _ _ ?_ | refine W_seq_k fun K hK => ?_ | refine W_block_k fun K hK => ?_ | refine W_skip ?_ | refine W_ret ?_) | ((first | ((with_reducible refine W_id ?_); refine W_reg (by decide) (by rfl) ?_) | (with_reducible first | refine W_cond ?_ | refine hZ _ _ ?_ | refine W_exit ?_ | refine Wo_id ?_)); repeat1' simp only [push_cast, Nat.reduceBEq, Nat.reduceLT, Nat.reduceEqDiff, reduceIte, reduceCtorEq, Nat.reduceMul, Nat.reduceAdd, Nat.reduceSub, Int.reduceEq, Int.reduceLT, Int.reduceLE, Int.reduceNeg, Int.reduceAdd, Int.reduceSub, Int.reduceMul, Nat.reduceLeDiff, Int.reduceToNat]) | ((repeat ((fail_if_success with_reducible refine hK _ _ ?_); clear hK K)); (with_reducible refine hK _ _ ?_); clear hK K))))
  refine W_loop (S := Nat) (fun k => [(0, .pointer (some ⟨pr, 0, none⟩)), (1, .int .i64 which), (2, .slice na x.length nc), (7, .int .i64 (k : Int))])
    (fun k w2 => bt ≤ k ∧ k ≤ l.length ∧ (l.drop bt).any (fun y => htmlS (opN L y) x) = (l.drop k).any (fun y => htmlS (opN L y) x) ∧ Ext w w2) (fun k => l.length - k) bt ?_ ?_ ?_
  · (repeat simp only [push_cast, Nat.reduceBEq, Nat.reduceLT, Nat.reduceEqDiff, reduceIte, reduceCtorEq, Nat.reduceMul, Nat.reduceAdd, Nat.reduceSub, Int.reduceEq, Int.reduceLT, Int.reduceLE, Int.reduceNeg, Int.reduceAdd, Int.reduceSub, Int.reduceMul, Nat.reduceLeDiff, Int.reduceToNat])
  · exact ⟨Nat.le_refl _, by omega, rfl, hx1⟩
  rintro k w2 ⟨hkb, hk, he, hx2⟩
  have hh2 := hx2.blk hh
  by_cases hkl : k < l.length
  · obtain ⟨y, hy⟩ : ∃ y, l[k]? = some y := ⟨_, List.getElem?_eq_getElem hkl⟩
    obtain ⟨b, o, rfl, _, c1⟩ := hcell k y hy
    have c1 := cellO_ext hx2 c1
    obtain ⟨q, rfl, hq⟩ := hok y (List.mem_of_getElem? hy)
    have b0 : (k : Int) < (l.length : Int) := by omega
    have b1 : (0 : Int) ≤ (k : Int) := by omega
    have b2 : inI64 ((k : Int) + 1) := by unfold inI64; omega
    have e2 : (l.drop k).any (fun y => htmlS (opN L y) x) = (htmlS (opN L (q : Int)) x || (l.drop (k + 1)).any (fun y => htmlS (opN L y) x)) := by
      rw [List.drop_eq_getElem_cons hkl, List.any_cons, show l[k] = (q : Int) from Option.some.inj ((List.getElem?_eq_getElem hkl).symm.trans hy)]
    rw [e2] at he
    (repeat (first | (with_reducible first | (refine hK _ _ ?_; clear hK K) | refine (show ∀ σ' w', _ → K σ' w' from by assumption) _ _ ?_ | refine W_seq_k fun K hK => ?_ | refine W_block_k fun K hK => ?_ | refine W_skip ?_ | refine W_ret ?_) | ((first | ((with_reducible refine W_id ?_); refine W_reg (by decide) (by rfl) ?_) | (with_reducible first | refine W_cond ?_ | refine hZ _ _ ?_ | refine W_exit ?_ | refine Wo_id ?_)); repeat1' simp only [push_cast, Nat.reduceBEq, Nat.reduceLT, Nat.reduceEqDiff, reduceIte, reduceCtorEq, Nat.reduceMul, Nat.reduceAdd, Nat.reduceSub, Int.reduceEq, Int.reduceLT, Int.reduceLE, Int.reduceNeg, Int.reduceAdd, Int.reduceSub, Int.reduceMul, Nat.reduceLeDiff, Int.reduceToNat, cell_h, cellO_cells, hh2, b0, b1, c1]) | ((repeat ((fail_if_success with_reducible refine hK _ _ ?_); clear hK K)); (with_reducible refine hK _ _ ?_); clear hK K)))
    refine (ris_c (h.ext hx2) (ha.ext hx2) hq hb (hn.ext hx2) hx).mono ?_
    rintro v w3 ⟨rfl, hx3⟩
    cases hz : htmlS (opN L (q : Int)) x
    · rw [hz, Bool.false_or] at he
      ((repeat simp only [push_cast, Nat.reduceBEq, Nat.reduceLT, Nat.reduceEqDiff, reduceIte, reduceCtorEq, Nat.reduceMul, Nat.reduceAdd, Nat.reduceSub, Int.reduceEq, Int.reduceLT, Int.reduceLE, Int.reduceNeg, Int.reduceAdd, Int.reduceSub, Int.reduceMul, Nat.reduceLeDiff, Int.reduceToNat, b2]); (repeat (first | (with_reducible first | (refine hK _ _ ?_; clear hK K) | refine (show ∀ σ' w', _ → K σ' w' from by assumption) _ _ ?_ | refine W_seq_k fun K hK => ?_ | refine W_block_k fun K hK => ?_ | refine W_skip ?_ | refine W_ret ?_) | ((first | ((with_reducible refine W_id ?_); refine W_reg (by decide) (by rfl) ?_) | (with_reducible first | refine W_cond ?_ | refine hZ _ _ ?_ | refine W_exit ?_ | refine Wo_id ?_)); repeat1' simp only [push_cast, Nat.reduceBEq, Nat.reduceLT, Nat.reduceEqDiff, reduceIte, reduceCtorEq, Nat.reduceMul, Nat.reduceAdd, Nat.reduceSub, Int.reduceEq, Int.reduceLT, Int.reduceLE, Int.reduceNeg, Int.reduceAdd, Int.reduceSub, Int.reduceMul, Nat.reduceLeDiff, Int.reduceToNat, b2]) | ((repeat ((fail_if_success with_reducible refine hK _ _ ?_); clear hK K)); (with_reducible refine hK _ _ ?_); clear hK K))))
      refine ⟨k + 1, by omega, ?_⟩
      (repeat simp only [push_cast, Nat.reduceBEq, Nat.reduceLT, Nat.reduceEqDiff, reduceIte, reduceCtorEq, Nat.reduceMul, Nat.reduceAdd, Nat.reduceSub, Int.reduceEq, Int.reduceLT, Int.reduceLE, Int.reduceNeg, Int.reduceAdd, Int.reduceSub, Int.reduceMul, Nat.reduceLeDiff, Int.reduceToNat])
      exact ⟨by omega, by omega, he, hx2.trans hx3⟩
    · rw [hz, Bool.true_or] at he
      ((repeat simp only [push_cast, Nat.reduceBEq, Nat.reduceLT, Nat.reduceEqDiff, reduceIte, reduceCtorEq, Nat.reduceMul, Nat.reduceAdd, Nat.reduceSub, Int.reduceEq, Int.reduceLT, Int.reduceLE, Int.reduceNeg, Int.reduceAdd, Int.reduceSub, Int.reduceMul, Nat.reduceLeDiff, Int.reduceToNat]); (repeat (first | (with_reducible first | (refine hK _ _ ?_; clear hK K) | refine (show ∀ σ' w', _ → K σ' w' from by assumption) _ _ ?_ | refine W_seq_k fun K hK => ?_ | refine W_block_k fun K hK => ?_ | refine W_skip ?_ | refine W_ret ?_) | ((first | ((with_reducible refine W_id ?_); refine W_reg (by decide) (by rfl) ?_) | (with_reducible first | refine W_cond ?_ | refine hZ _ _ ?_ | refine W_exit ?_ | refine Wo_id ?_)); repeat1' simp only [push_cast, Nat.reduceBEq, Nat.reduceLT, Nat.reduceEqDiff, reduceIte, reduceCtorEq, Nat.reduceMul, Nat.reduceAdd, Nat.reduceSub, Int.reduceEq, Int.reduceLT, Int.reduceLE, Int.reduceNeg, Int.reduceAdd, Int.reduceSub, Int.reduceMul, Nat.reduceLeDiff, Int.reduceToNat]) | ((repeat ((fail_if_success with_reducible refine hK _ _ ?_); clear hK K)); (with_reducible refine hK _ _ ?_); clear hK K))))
      exact ⟨he.symm, hx2.trans hx3⟩
  · obtain rfl : k = l.length := by omega
    have b0 : ¬ (l.length : Int) < (l.length : Int) := by omega
    (repeat (first | (with_reducible first | (refine hK _ _ ?_; clear hK K) | refine (show ∀ σ' w', _ → K σ' w' from by assumption) _ _ ?_ | refine W_seq_k fun K hK => ?_ | refine W_block_k fun K hK => ?_ | refine W_skip ?_ | refine W_ret ?_) | ((first | ((with_reducible refine W_id ?_); refine W_reg (by decide) (by rfl) ?_) | (with_reducible first | refine W_cond ?_ | refine hZ _ _ ?_ | refine W_exit ?_ | refine Wo_id ?_)); repeat1' simp only [push_cast, Nat.reduceBEq, Nat.reduceLT, Nat.reduceEqDiff, reduceIte, reduceCtorEq, Nat.reduceMul, Nat.reduceAdd, Nat.reduceSub, Int.reduceEq, Int.reduceLT, Int.reduceLE, Int.reduceNeg, Int.reduceAdd, Int.reduceSub, Int.reduceMul, Nat.reduceLeDiff, Int.reduceToNat, cell_h, cellO_cells, hh2, b0]) | ((repeat ((fail_if_success with_reducible refine hK _ _ ?_); clear hK K)); (with_reducible refine hK _ _ ?_); clear hK K)))
    rw [he]
    exact ⟨by simp, hx2⟩
theorem rhasn15_c (h : RSs w pr pb lv l bo) (ha : Ar w pb L F) (hl : l.length < 100000) (hb : L.length < 1000000) (hok : okR L l) (which i : Int) : Gives Tryd.prog 38 #[.pointer (some ⟨pr, 0, none⟩), .int .i64 which, .int .i64 i] w fun v w' => v = .bool (decide ((botN L which l : Int) ≤ lastB (fun k => decide (l.getD k 0 = i)) l.length)) ∧ Ext w w' := by
  refine Gives.of_W Tryd.call38 Tryd.func38 rfl Tryd.ntmps38 (by simp) ?_; intro Z hZ
  (repeat (first | (with_reducible first | (refine hK _ _ ?_; clear hK K) | refine (show ∀ σ' w', _ → K σ' w' from by assumption) _ _ ?_ | refine W_seq_k fun K hK => ?_ | refine W_block_k fun K hK => ?_ | refine W_skip ?_ | refine W_ret ?_) | ((first | ((with_reducible refine W_id ?_); refine W_reg (by decide) (by rfl) ?_) | (with_reducible first | refine W_cond ?_ | refine hZ _ _ ?_ | refine W_exit ?_ | refine Wo_id ?_)); repeat1' simp only [push_cast, Nat.reduceBEq, Nat.reduceLT, Nat.reduceEqDiff, reduceIte, reduceCtorEq, Nat.reduceMul, Nat.reduceAdd, Nat.reduceSub, Int.reduceEq, Int.reduceLT, Int.reduceLE, Int.reduceNeg, Int.reduceAdd, Int.reduceSub, Int.reduceMul, Nat.reduceLeDiff, Int.reduceToNat]) | ((repeat ((fail_if_success with_reducible refine hK _ _ ?_); clear hK K)); (with_reducible refine hK _ _ ?_); clear hK K)))
  refine (rindex15_c h hl i).mono ?_
  intro v w' ⟨hv, hw⟩
  subst hv; subst w'
  ((repeat simp only [push_cast, Nat.reduceBEq, Nat.reduceLT, Nat.reduceEqDiff, reduceIte, reduceCtorEq, Nat.reduceMul, Nat.reduceAdd, Nat.reduceSub, Int.reduceEq, Int.reduceLT, Int.reduceLE, Int.reduceNeg, Int.reduceAdd, Int.reduceSub, Int.reduceMul, Nat.reduceLeDiff, Int.reduceToNat]); (repeat (first | (with_reducible first | (refine hK _ _ ?_; clear hK K) | refine (show ∀ σ' w', _ → K σ' w' from by assumption) _ _ ?_ | refine W_seq_k fun K hK => ?_ | refine W_block_k fun K hK => ?_ | refine W_skip ?_ | refine W_ret ?_) | ((first | ((with_reducible refine W_id ?_); refine W_reg (by decide) (by rfl) ?_) | (with_reducible first | refine W_cond ?_ | refine hZ _ _ ?_ | refine W_exit ?_ | refine Wo_id ?_)); repeat1' simp only [push_cast, Nat.reduceBEq, Nat.reduceLT, Nat.reduceEqDiff, reduceIte, reduceCtorEq, Nat.reduceMul, Nat.reduceAdd, Nat.reduceSub, Int.reduceEq, Int.reduceLT, Int.reduceLE, Int.reduceNeg, Int.reduceAdd, Int.reduceSub, Int.reduceMul, Nat.reduceLeDiff, Int.reduceToNat]) | ((repeat ((fail_if_success with_reducible refine hK _ _ ?_); clear hK K)); (with_reducible refine hK _ _ ?_); clear hK K))))
  refine (rbottom_c h ha hl hb hok which).mono ?_
  rintro v w1 ⟨rfl, hx1⟩
  ((repeat simp only [push_cast, Nat.reduceBEq, Nat.reduceLT, Nat.reduceEqDiff, reduceIte, reduceCtorEq, Nat.reduceMul, Nat.reduceAdd, Nat.reduceSub, Int.reduceEq, Int.reduceLT, Int.reduceLE, Int.reduceNeg, Int.reduceAdd, Int.reduceSub, Int.reduceMul, Nat.reduceLeDiff, Int.reduceToNat]); (repeat (first | (with_reducible first | (refine hK _ _ ?_; clear hK K) | refine (show ∀ σ' w', _ → K σ' w' from by assumption) _ _ ?_ | refine W_seq_k fun K hK => ?_ | refine W_block_k fun K hK => ?_ | refine W_skip ?_ | refine W_ret ?_) | ((first | ((with_reducible refine W_id ?_); refine W_reg (by decide) (by rfl) ?_) | (with_reducible first | refine W_cond ?_ | refine hZ _ _ ?_ | refine W_exit ?_ | refine Wo_id ?_)); repeat1' simp only [push_cast, Nat.reduceBEq, Nat.reduceLT, Nat.reduceEqDiff, reduceIte, reduceCtorEq, Nat.reduceMul, Nat.reduceAdd, Nat.reduceSub, Int.reduceEq, Int.reduceLT, Int.reduceLE, Int.reduceNeg, Int.reduceAdd, Int.reduceSub, Int.reduceMul, Nat.reduceLeDiff, Int.reduceToNat]) | ((repeat ((fail_if_success with_reducible refine hK _ _ ?_); clear hK K)); (with_reducible refine hK _ _ ?_); clear hK K))))
  exact ⟨rfl, hx1⟩
theorem runtil15_c (h : RS w S pr pb L l) (hl : l.length < 100000) (hb : L.length < 1000000) (hok : okR L l) {nv : Value} {x : List ByteArray} (hn : RdAt w 1 nv (strCells x)) (hx : x.length < 1000000000) : Gives Tryd.prog 60 #[.pointer (some ⟨pr, 0, none⟩), nv] w fun v w' => v = .int .i64 (untR L l x).2 ∧ RS w' (gS S w w') pr pb L (untR L l x).1 ∧ Upd S w w' := by
  have hR := h
  obtain ⟨lv, bo, F, h1, h2, h3, h4, h5⟩ := h
  obtain ⟨a, c, rfl, hlc, hcell⟩ := ints_len2 h1.sl
  obtain ⟨na, nc, rfl, _⟩ := str_len hn
  have hh := h1.head
  have hrng := lastB_rng (fun k => htmlS (opN L (l.getD k 0)) x) l.length
  refine Gives.of_W Tryd.call60 Tryd.func60 rfl Tryd.ntmps60 (by simp) ?_; intro Z hZ
  (repeat (first | (with_reducible first | (refine hK _ _ ?_; clear hK K) | refine (show ∀ σ' w', _ → K σ' w' from by assumption) _ _ ?_ | refine W_seq_k fun K hK => ?_ | refine W_block_k fun K hK => ?_ | refine W_skip ?_ | refine W_ret ?_) | ((first | ((with_reducible refine W_id ?_); refine W_reg (by decide) (by rfl) ?_) | (with_reducible first | refine W_cond ?_ | refine hZ _ _ ?_ | refine W_exit ?_ | refine Wo_id ?_)); repeat1' simp only [push_cast, Nat.reduceBEq, Nat.reduceLT, Nat.reduceEqDiff, reduceIte, reduceCtorEq, Nat.reduceMul, Nat.reduceAdd, Nat.reduceSub, Int.reduceEq, Int.reduceLT, Int.reduceLE, Int.reduceNeg, Int.reduceAdd, Int.reduceSub, Int.reduceMul, Nat.reduceLeDiff, Int.reduceToNat]) | ((repeat ((fail_if_success with_reducible refine hK _ _ ?_); clear hK K)); (with_reducible refine hK _ _ ?_); clear hK K)))
  refine W_loop (S := Nat) (fun k => [(0, .pointer (some ⟨pr, 0, none⟩)), (1, .slice na x.length nc), (5, .int .i64 (lastB (fun k => htmlS (opN L (l.getD k 0)) x) k)), (6, .int .i64 (k : Int))])
    (fun k w2 => k ≤ l.length ∧ Ext w w2) (fun k => l.length - k) 0 ?_ ?_ ?_
  · (repeat simp only [push_cast, Nat.reduceBEq, Nat.reduceLT, Nat.reduceEqDiff, reduceIte, reduceCtorEq, Nat.reduceMul, Nat.reduceAdd, Nat.reduceSub, Int.reduceEq, Int.reduceLT, Int.reduceLE, Int.reduceNeg, Int.reduceAdd, Int.reduceSub, Int.reduceMul, Nat.reduceLeDiff, Int.reduceToNat, lastB])
  · exact ⟨by omega, Ext.refl _⟩
  rintro k w2 ⟨hk, hx2⟩
  have hh2 := hx2.blk hh
  by_cases hkl : k < l.length
  · obtain ⟨y, hy⟩ : ∃ y, l[k]? = some y := ⟨_, List.getElem?_eq_getElem hkl⟩
    obtain ⟨b, o, rfl, _, c1⟩ := hcell k y hy
    have c1 := cellO_ext hx2 c1
    obtain ⟨q, rfl, hq⟩ := hok y (List.mem_of_getElem? hy)
    have b0 : (k : Int) < (l.length : Int) := by omega
    have b1 : (0 : Int) ≤ (k : Int) := by omega
    have b2 : inI64 ((k : Int) + 1) := by unfold inI64; omega
    have hgd : l.getD k 0 = (q : Int) := by simp [List.getD, hy]
    have hst : lastB (fun k => htmlS (opN L (l.getD k 0)) x) (k + 1) = if htmlS (opN L (q : Int)) x = true then (k : Int) else lastB (fun k => htmlS (opN L (l.getD k 0)) x) k := by
      rw [lastB, hgd]
    (repeat (first | (with_reducible first | (refine hK _ _ ?_; clear hK K) | refine (show ∀ σ' w', _ → K σ' w' from by assumption) _ _ ?_ | refine W_seq_k fun K hK => ?_ | refine W_block_k fun K hK => ?_ | refine W_skip ?_ | refine W_ret ?_) | ((first | ((with_reducible refine W_id ?_); refine W_reg (by decide) (by rfl) ?_) | (with_reducible first | refine W_cond ?_ | refine hZ _ _ ?_ | refine W_exit ?_ | refine Wo_id ?_)); repeat1' simp only [push_cast, Nat.reduceBEq, Nat.reduceLT, Nat.reduceEqDiff, reduceIte, reduceCtorEq, Nat.reduceMul, Nat.reduceAdd, Nat.reduceSub, Int.reduceEq, Int.reduceLT, Int.reduceLE, Int.reduceNeg, Int.reduceAdd, Int.reduceSub, Int.reduceMul, Nat.reduceLeDiff, Int.reduceToNat, cell_h, cellO_cells, hh2, b0, b1, c1]) | ((repeat ((fail_if_success with_reducible refine hK _ _ ?_); clear hK K)); (with_reducible refine hK _ _ ?_); clear hK K)))
    refine (ris_c (h1.ext hx2) (h2.ext hx2) hq hb (hn.ext hx2) hx).mono ?_
    rintro v w3 ⟨rfl, hx3⟩
    cases hz : htmlS (opN L (q : Int)) x
    · rw [hz, if_neg (by decide)] at hst
      ((repeat simp only [push_cast, Nat.reduceBEq, Nat.reduceLT, Nat.reduceEqDiff, reduceIte, reduceCtorEq, Nat.reduceMul, Nat.reduceAdd, Nat.reduceSub, Int.reduceEq, Int.reduceLT, Int.reduceLE, Int.reduceNeg, Int.reduceAdd, Int.reduceSub, Int.reduceMul, Nat.reduceLeDiff, Int.reduceToNat, b2]); (repeat (first | (with_reducible first | (refine hK _ _ ?_; clear hK K) | refine (show ∀ σ' w', _ → K σ' w' from by assumption) _ _ ?_ | refine W_seq_k fun K hK => ?_ | refine W_block_k fun K hK => ?_ | refine W_skip ?_ | refine W_ret ?_) | ((first | ((with_reducible refine W_id ?_); refine W_reg (by decide) (by rfl) ?_) | (with_reducible first | refine W_cond ?_ | refine hZ _ _ ?_ | refine W_exit ?_ | refine Wo_id ?_)); repeat1' simp only [push_cast, Nat.reduceBEq, Nat.reduceLT, Nat.reduceEqDiff, reduceIte, reduceCtorEq, Nat.reduceMul, Nat.reduceAdd, Nat.reduceSub, Int.reduceEq, Int.reduceLT, Int.reduceLE, Int.reduceNeg, Int.reduceAdd, Int.reduceSub, Int.reduceMul, Nat.reduceLeDiff, Int.reduceToNat, b2]) | ((repeat ((fail_if_success with_reducible refine hK _ _ ?_); clear hK K)); (with_reducible refine hK _ _ ?_); clear hK K))))
      refine ⟨k + 1, by omega, ?_⟩
      (repeat simp only [push_cast, Nat.reduceBEq, Nat.reduceLT, Nat.reduceEqDiff, reduceIte, reduceCtorEq, Nat.reduceMul, Nat.reduceAdd, Nat.reduceSub, Int.reduceEq, Int.reduceLT, Int.reduceLE, Int.reduceNeg, Int.reduceAdd, Int.reduceSub, Int.reduceMul, Nat.reduceLeDiff, Int.reduceToNat, hst])
      exact ⟨by omega, hx2.trans hx3⟩
    · rw [hz, if_pos rfl] at hst
      ((repeat simp only [push_cast, Nat.reduceBEq, Nat.reduceLT, Nat.reduceEqDiff, reduceIte, reduceCtorEq, Nat.reduceMul, Nat.reduceAdd, Nat.reduceSub, Int.reduceEq, Int.reduceLT, Int.reduceLE, Int.reduceNeg, Int.reduceAdd, Int.reduceSub, Int.reduceMul, Nat.reduceLeDiff, Int.reduceToNat, b2]); (repeat (first | (with_reducible first | (refine hK _ _ ?_; clear hK K) | refine (show ∀ σ' w', _ → K σ' w' from by assumption) _ _ ?_ | refine W_seq_k fun K hK => ?_ | refine W_block_k fun K hK => ?_ | refine W_skip ?_ | refine W_ret ?_) | ((first | ((with_reducible refine W_id ?_); refine W_reg (by decide) (by rfl) ?_) | (with_reducible first | refine W_cond ?_ | refine hZ _ _ ?_ | refine W_exit ?_ | refine Wo_id ?_)); repeat1' simp only [push_cast, Nat.reduceBEq, Nat.reduceLT, Nat.reduceEqDiff, reduceIte, reduceCtorEq, Nat.reduceMul, Nat.reduceAdd, Nat.reduceSub, Int.reduceEq, Int.reduceLT, Int.reduceLE, Int.reduceNeg, Int.reduceAdd, Int.reduceSub, Int.reduceMul, Nat.reduceLeDiff, Int.reduceToNat, b2]) | ((repeat ((fail_if_success with_reducible refine hK _ _ ?_); clear hK K)); (with_reducible refine hK _ _ ?_); clear hK K))))
      refine ⟨k + 1, by omega, ?_⟩
      (repeat simp only [push_cast, Nat.reduceBEq, Nat.reduceLT, Nat.reduceEqDiff, reduceIte, reduceCtorEq, Nat.reduceMul, Nat.reduceAdd, Nat.reduceSub, Int.reduceEq, Int.reduceLT, Int.reduceLE, Int.reduceNeg, Int.reduceAdd, Int.reduceSub, Int.reduceMul, Nat.reduceLeDiff, Int.reduceToNat, hst])
      exact ⟨by omega, hx2.trans hx3⟩
  · obtain rfl : k = l.length := by omega
    have b0 : ¬ (l.length : Int) < (l.length : Int) := by omega
    by_cases hneg : lastB (fun k => htmlS (opN L (l.getD k 0)) x) l.length < 0
    · have eU : untR L l x = (l, 4) := by unfold untR; rw [if_pos hneg]
      (repeat (first | (with_reducible first | (refine hK _ _ ?_; clear hK K) | refine (show ∀ σ' w', _ → K σ' w' from by assumption) _ _ ?_ | refine W_seq_k fun K hK => ?_ | refine W_block_k fun K hK => ?_ | refine W_skip ?_ | refine W_ret ?_) | ((first | ((with_reducible refine W_id ?_); refine W_reg (by decide) (by rfl) ?_) | (with_reducible first | refine W_cond ?_ | refine hZ _ _ ?_ | refine W_exit ?_ | refine Wo_id ?_)); repeat1' simp only [push_cast, Nat.reduceBEq, Nat.reduceLT, Nat.reduceEqDiff, reduceIte, reduceCtorEq, Nat.reduceMul, Nat.reduceAdd, Nat.reduceSub, Int.reduceEq, Int.reduceLT, Int.reduceLE, Int.reduceNeg, Int.reduceAdd, Int.reduceSub, Int.reduceMul, Nat.reduceLeDiff, Int.reduceToNat, cell_h, cellO_cells, hh2, b0, hneg]) | ((repeat ((fail_if_success with_reducible refine hK _ _ ?_); clear hK K)); (with_reducible refine hK _ _ ?_); clear hK K)))
      rw [eU]
      exact ⟨rfl, hR.no hx2⟩
    · have eU : untR L l x = (l.take (lastB (fun k => htmlS (opN L (l.getD k 0)) x) l.length).toNat, 0) := by unfold untR; rw [if_neg hneg]
      obtain ⟨m, hm⟩ : ∃ m : Nat, lastB (fun k => htmlS (opN L (l.getD k 0)) x) l.length = (m : Int) := ⟨(lastB (fun k => htmlS (opN L (l.getD k 0)) x) l.length).toNat, by omega⟩
      rw [hm, Int.toNat_natCast] at eU
      rw [hm] at hrng hneg ⊢
      have d0 : (0 : Int) ≤ (m : Int) := by omega
      have d1 : (m : Int) ≤ (c : Int) := by omega
      have d2 : ¬ (m : Int) < 0 := by omega
      have hP := ((h1.sl.ext hx2).preS (hi := m) (by omega))
      have eP : (intCells l).take (m * 1) = intCells (l.take m) := by unfold intCells; rw [Nat.mul_one, List.map_take]
      rw [eP] at hP
      obtain ⟨k1, k2, k3⟩ := rs_put h1 h2 h3 h4 h5 hP hx2 (fun _ _ h => h.elim) fun b hb => .inl hb
      (repeat (first | (with_reducible first | (refine hK _ _ ?_; clear hK K) | refine (show ∀ σ' w', _ → K σ' w' from by assumption) _ _ ?_ | refine W_seq_k fun K hK => ?_ | refine W_block_k fun K hK => ?_ | refine W_skip ?_ | refine W_ret ?_) | ((first | ((with_reducible refine W_id ?_); refine W_reg (by decide) (by rfl) ?_) | (with_reducible first | refine W_cond ?_ | refine hZ _ _ ?_ | refine W_exit ?_ | refine Wo_id ?_)); repeat1' simp only [push_cast, Nat.reduceBEq, Nat.reduceLT, Nat.reduceEqDiff, reduceIte, reduceCtorEq, Nat.reduceMul, Nat.reduceAdd, Nat.reduceSub, Int.reduceEq, Int.reduceLT, Int.reduceLE, Int.reduceNeg, Int.reduceAdd, Int.reduceSub, Int.reduceMul, Nat.reduceLeDiff, Int.reduceToNat, cell_h, cellO_cells, hh2, b0, d0, d1, d2, k1]) | ((repeat ((fail_if_success with_reducible refine hK _ _ ?_); clear hK K)); (with_reducible refine hK _ _ ?_); clear hK K)))
      rw [eU]
      exact ⟨rfl, k2, k3⟩
end
end Go.Proofs.YtkafpameheohdaaDoor
end
