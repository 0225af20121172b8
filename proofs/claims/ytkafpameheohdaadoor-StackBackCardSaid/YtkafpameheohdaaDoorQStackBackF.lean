/- What the proof leans on, part 6 of 7. -/
import Derived.Test.YtkafpameheohdaaDoorQStackBackE
section
set_option linter.unusedSimpArgs false
set_option linter.unusedVariables false
namespace Go.Vk
open Go Go.RowKit
theorem SK.keep {w w' : World} {ps : Nat} {ap sv : Value} {s : List OpS} {bo : Option Nat} (h : SK w ps ap sv s bo) (hk : Keep w w') : SK w' ps ap sv s bo :=
  h.upd hk (nc_not h.head rfl) fun b hb => by
    have hs := h.sl
    rcases hs with ⟨e, _⟩ | ⟨b', o, n, c, cs, t, e, _, _, _, hh, _⟩
    · rw [hb] at e; cases e
    · rw [hb] at e; cases e
      obtain ⟨f, _, hh⟩ := hh
      exact nc_not hh rfl
/-- from the top on, up to the first that ends it -/
def scp (e : OpS → Bool) (s : List OpS) : Nat → List OpS
  | 0 => []
  | k + 1 => s.getD k zS :: if e (s.getD k zS) = true then [] else scp e s k
def scE (which : Int) (o : OpS) : Bool := scopeN which o.space o.name
end Go.Vk
namespace Go.Proofs.YtkafpameheohdaaDoor
open Go Go.Vk Go.RowKit
theorem GL.keep {w w' : World} (h : GL w) (hx : Keep w w') : GL w' := ⟨let ⟨m, h⟩ := h.max; ⟨m, hx.cell h⟩, let ⟨t, f, h⟩ := h.sc; ⟨t, f, hx.blk h⟩⟩
set_option maxHeartbeats 40000000
section
variable {W : World} {ps : Nat} {ap sv : Value} {s : List OpS} {bo : Option Nat}
theorem scope1_c {l bs bw : Nat} {which : Int} {J Jx : List OpS → World → Prop} (hs : s.length < 10000) (hz : ∀ o ∈ s, o.name.size < 4294967281)
    (hg : GL W) (hS : SK W ps ap sv s bo) (h1 : W.heap[bs]? = some (.cells #[.pointer (some ⟨ps, 0, none⟩)] 26 (0, 0))) (h2 : W.heap[bw]? = some (.cells #[.int .i64 which] 3 (0, 0)))
    (hJ : ∀ pre W1 W2, J pre W1 → Ext W1 W2 → J pre W2) (hJx : ∀ pre W1 W2, Jx pre W1 → Ext W1 W2 → Jx pre W2)
    (hY : ∀ pre (x : OpS) W1, J pre W1 → pre.length < s.length → YieldAt Fence.wide 0 Tryd.prog l #[.agg x.row] W1 fun e W' => (e = .returned (.bool true) ∧ J (pre ++ [x]) W' ∧ Keep W1 W') ∨ (e = .returned (.bool false) ∧ Jx (pre ++ [x]) W'))
    (h0 : J [] W) : Gives Tryd.prog 68 #[.func (.yield l) #[] #[], .pointer (some ⟨bs, 0, none⟩), .pointer (some ⟨bw, 0, none⟩)] W fun _ w' =>
      (∃ xs, xs = scp (scE which) s s.length ∧ J xs w') ∨ ∃ pre, pre <+: scp (scE which) s s.length ∧ Jx pre w' := by
  have s0 : inI64 ((s.length : Int) - 1) := by unfold inI64; omega
  refine Gives.of_W Tryd.call68 Tryd.func68 rfl Tryd.ntmps68 (by simp) ?_; intro Z hZ
  (repeat (first | (with_reducible first | (refine hK _ _ ?_; clear hK K) | refine (show ∀ σ' w', _ → K σ' w' from by assumption) _ _ ?_ | refine W_seq_k fun K hK => ?_ | refine W_block_k fun K hK => ?_ | refine W_skip ?_ | refine W_ret ?_) | ((first | ((with_reducible refine W_id ?_); refine W_reg (by decide) (by rfl) ?_) | (with_reducible first | refine W_cond ?_ | refine hZ _ _ ?_ | refine W_exit ?_ | refine Wo_id ?_)); repeat1' simp only [push_cast, Nat.reduceBEq, Nat.reduceLT, Nat.reduceEqDiff, reduceIte, reduceCtorEq, Nat.reduceMul, Nat.reduceAdd, Nat.reduceSub, Int.reduceEq, Int.reduceLT, Int.reduceLE, Int.reduceNeg, Int.reduceAdd, Int.reduceSub, Int.reduceMul, Nat.reduceLeDiff, Int.reduceToNat, cell_h, cellO_cells, h1]) | ((repeat ((fail_if_success with_reducible refine hK _ _ ?_); clear hK K)); (with_reducible refine hK _ _ ?_); clear hK K)))
  refine (slen_c hS).mono ?_
  intro v w' ⟨hv, hw⟩
  subst hv; subst w'
  ((repeat simp only [push_cast, Nat.reduceBEq, Nat.reduceLT, Nat.reduceEqDiff, reduceIte, reduceCtorEq, Nat.reduceMul, Nat.reduceAdd, Nat.reduceSub, Int.reduceEq, Int.reduceLT, Int.reduceLE, Int.reduceNeg, Int.reduceAdd, Int.reduceSub, Int.reduceMul, Nat.reduceLeDiff, Int.reduceToNat, s0]); (repeat (first | (with_reducible first | (refine hK _ _ ?_; clear hK K) | refine (show ∀ σ' w', _ → K σ' w' from by assumption) _ _ ?_ | refine W_seq_k fun K hK => ?_ | refine W_block_k fun K hK => ?_ | refine W_skip ?_ | refine W_ret ?_) | ((first | ((with_reducible refine W_id ?_); refine W_reg (by decide) (by rfl) ?_) | (with_reducible first | refine W_cond ?_ | refine hZ _ _ ?_ | refine W_exit ?_ | refine Wo_id ?_)); repeat1' simp only [push_cast, Nat.reduceBEq, Nat.reduceLT, Nat.reduceEqDiff, reduceIte, reduceCtorEq, Nat.reduceMul, Nat.reduceAdd, Nat.reduceSub, Int.reduceEq, Int.reduceLT, Int.reduceLE, Int.reduceNeg, Int.reduceAdd, Int.reduceSub, Int.reduceMul, Nat.reduceLeDiff, Int.reduceToNat, s0]) | ((repeat ((fail_if_success with_reducible refine hK _ _ ?_); clear hK K)); (with_reducible refine hK _ _ ?_); clear hK K))))
  refine W_loop (S := Nat × List OpS) (fun z => [(0, .func (.yield l) #[] #[]), (1, .pointer (some ⟨bs, 0, none⟩)), (2, .pointer (some ⟨bw, 0, none⟩)), (4, .int .i64 ((z.1 : Int) - 1))])
    (fun z w2 => z.2.length + z.1 = s.length ∧ z.2 ++ scp (scE which) s z.1 = scp (scE which) s s.length ∧ Keep W w2 ∧ J z.2 w2) (fun z => z.1) (s.length, []) ?_ ?_ ?_
  · (repeat simp only [push_cast, Nat.reduceBEq, Nat.reduceLT, Nat.reduceEqDiff, reduceIte, reduceCtorEq, Nat.reduceMul, Nat.reduceAdd, Nat.reduceSub, Int.reduceEq, Int.reduceLT, Int.reduceLE, Int.reduceNeg, Int.reduceAdd, Int.reduceSub, Int.reduceMul, Nat.reduceLeDiff, Int.reduceToNat])
  · exact ⟨by simp, rfl, (Ext.refl W).keep, h0⟩
  rintro ⟨k, pre⟩ w2 ⟨hk, he, hx, hj⟩
  dsimp only at hk he hj ⊢
  have hS2 := hS.keep hx
  have h12 := hx.blk h1
  have h22 := hx.blk h2
  have h02 := hS2.head
  cases k with
  | zero =>
    have e0 : (((0 : Nat) : Int) - 1) = -1 := rfl
    rw [e0]
    have b0 : ¬ (0 : Int) ≤ -1 := by omega
    (repeat (first | (with_reducible first | (refine hK _ _ ?_; clear hK K) | refine (show ∀ σ' w', _ → K σ' w' from by assumption) _ _ ?_ | refine W_seq_k fun K hK => ?_ | refine W_block_k fun K hK => ?_ | refine W_skip ?_ | refine W_ret ?_) | ((first | ((with_reducible refine W_id ?_); refine W_reg (by decide) (by rfl) ?_) | (with_reducible first | refine W_cond ?_ | refine hZ _ _ ?_ | refine W_exit ?_ | refine Wo_id ?_)); repeat1' simp only [push_cast, Nat.reduceBEq, Nat.reduceLT, Nat.reduceEqDiff, reduceIte, reduceCtorEq, Nat.reduceMul, Nat.reduceAdd, Nat.reduceSub, Int.reduceEq, Int.reduceLT, Int.reduceLE, Int.reduceNeg, Int.reduceAdd, Int.reduceSub, Int.reduceMul, Nat.reduceLeDiff, Int.reduceToNat, b0]) | ((repeat ((fail_if_success with_reducible refine hK _ _ ?_); clear hK K)); (with_reducible refine hK _ _ ?_); clear hK K)))
    rw [scp, List.append_nil] at he
    exact .inl ⟨pre, he, hj⟩
  | succ k =>
    have e0 : (((k + 1 : Nat) : Int) - 1) = k := by omega
    rw [e0]
    rw [scp] at he
    have b2 : inI64 ((k : Int) - 1) := by unfold inI64; omega
    have b0 : (0 : Int) ≤ (k : Int) := by omega
    have hkl : k < s.length := by omega
    have b3 : (k : Int) < (s.length : Int) := by omega
    obtain ⟨y, hy⟩ : ∃ y, s[k]? = some y := ⟨_, List.getElem?_eq_getElem hkl⟩
    have hgd : s.getD k zS = y := by simp [List.getD, hy]
    rw [hgd] at he
    obtain ⟨b, o, c, rfl, hbo1, c1, c2, c3⟩ := ops_cell hS2.sl hy
    (repeat (first | (with_reducible first | (refine hK _ _ ?_; clear hK K) | refine (show ∀ σ' w', _ → K σ' w' from by assumption) _ _ ?_ | refine W_seq_k fun K hK => ?_ | refine W_block_k fun K hK => ?_ | refine W_skip ?_ | refine W_ret ?_) | ((first | ((with_reducible refine W_id ?_); refine W_reg (by decide) (by rfl) ?_) | (with_reducible first | refine W_cond ?_ | refine hZ _ _ ?_ | refine W_exit ?_ | refine Wo_id ?_)); repeat1' simp only [push_cast, Nat.reduceBEq, Nat.reduceLT, Nat.reduceEqDiff, reduceIte, reduceCtorEq, Nat.reduceMul, Nat.reduceAdd, Nat.reduceSub, Int.reduceEq, Int.reduceLT, Int.reduceLE, Int.reduceNeg, Int.reduceAdd, Int.reduceSub, Int.reduceMul, Nat.reduceLeDiff, Int.reduceToNat, b0, b3, cell_h, cellO_cells, h02, h12, c1, c2, c3, RunV_zero Tryd.zeroValue79, vcells_agg]) | ((repeat ((fail_if_success with_reducible refine hK _ _ ?_); clear hK K)); (with_reducible refine hK _ _ ?_); clear hK K)))
    obtain ⟨hx3, z3, hs3⟩ := new3 w2 (.int .i64 0) (.int .i64 0) (.string ⟨#[]⟩) (.int .i64 y.node) (.int .i64 y.space) (.string y.name) 79
    simp only [can_h, heap_alloc_h, if_true, canO_cells, List.size_toArray, List.length_cons, List.length_nil, Nat.zero_add, Nat.reduceAdd, Nat.reduceLT, true_and]
    generalize setCells (w2.alloc (.cells #[.int .i64 0, .int .i64 0, .string ⟨#[]⟩] 79)) ⟨w2.heap.size, 0, none⟩ [.int .i64 y.node, .int .i64 y.space, .string y.name] 0 = w3 at *
    obtain ⟨p5, hp5⟩ : ∃ p5, p5 = w2.heap.size := ⟨_, rfl⟩
    rw [← hp5] at z3 hs3 ⊢
    refine hK _ _ ?_
    clear hK K
    refine W_seq_k fun K hK => ?_
    refine W_yield (by decide) [_, _] [_, _, _, _, _, _, _, _, _] 22 _ _ _ _ _ rfl (by decide) (by decide) rfl ?_
    have hj3 := hJ _ _ _ hj hx3
    have hy3 := hY pre y w3 hj3 (by omega)
    (repeat simp only [push_cast, Nat.reduceBEq, Nat.reduceLT, Nat.reduceEqDiff, reduceIte, reduceCtorEq, Nat.reduceMul, Nat.reduceAdd, Nat.reduceSub, Int.reduceEq, Int.reduceLT, Int.reduceLE, Int.reduceNeg, Int.reduceAdd, Int.reduceSub, Int.reduceMul, Nat.reduceLeDiff, Int.reduceToNat, cell_h, cellO_cells, z3])
    refine ⟨l, rfl, YieldAt.mono hy3 ?_⟩
    rintro e w4 (⟨rfl, hj4, hk4⟩ | ⟨rfl, hjx⟩)
    · refine ⟨_, rfl, ?_⟩
      have hx4 := (hx.trans hx3.keep).trans hk4
      have z4 := hk4.blk z3
      have h24 := hx4.blk h2
      ((repeat simp only [push_cast, Nat.reduceBEq, Nat.reduceLT, Nat.reduceEqDiff, reduceIte, reduceCtorEq, Nat.reduceMul, Nat.reduceAdd, Nat.reduceSub, Int.reduceEq, Int.reduceLT, Int.reduceLE, Int.reduceNeg, Int.reduceAdd, Int.reduceSub, Int.reduceMul, Nat.reduceLeDiff, Int.reduceToNat, cell_h, cellO_cells, z4, h24]); (repeat (first | (with_reducible first | (refine hK _ _ ?_; clear hK K) | refine (show ∀ σ' w', _ → K σ' w' from by assumption) _ _ ?_ | refine W_seq_k fun K hK => ?_ | refine W_block_k fun K hK => ?_ | refine W_skip ?_ | refine W_ret ?_) | ((first | ((with_reducible refine W_id ?_); refine W_reg (by decide) (by rfl) ?_) | (with_reducible first | refine W_cond ?_ | refine hZ _ _ ?_ | refine W_exit ?_ | refine Wo_id ?_)); repeat1' simp only [push_cast, Nat.reduceBEq, Nat.reduceLT, Nat.reduceEqDiff, reduceIte, reduceCtorEq, Nat.reduceMul, Nat.reduceAdd, Nat.reduceSub, Int.reduceEq, Int.reduceLT, Int.reduceLE, Int.reduceNeg, Int.reduceAdd, Int.reduceSub, Int.reduceMul, Nat.reduceLeDiff, Int.reduceToNat, cell_h, cellO_cells, z4, h24]) | ((repeat ((fail_if_success with_reducible refine hK _ _ ?_); clear hK K)); (with_reducible refine hK _ _ ?_); clear hK K))))
      refine (scope_c which y.space y.name (hg.keep hx4) (hz y (List.mem_of_getElem? hy))).mono ?_
      intro v w' ⟨hv, hw⟩
      subst hv; subst w'
      cases hb : scopeN which y.space y.name
      · rw [if_neg (by unfold scE; rw [hb]; decide)] at he
        ((repeat simp only [push_cast, Nat.reduceBEq, Nat.reduceLT, Nat.reduceEqDiff, reduceIte, reduceCtorEq, Nat.reduceMul, Nat.reduceAdd, Nat.reduceSub, Int.reduceEq, Int.reduceLT, Int.reduceLE, Int.reduceNeg, Int.reduceAdd, Int.reduceSub, Int.reduceMul, Nat.reduceLeDiff, Int.reduceToNat, b2]); (repeat (first | (with_reducible first | (refine hK _ _ ?_; clear hK K) | refine (show ∀ σ' w', _ → K σ' w' from by assumption) _ _ ?_ | refine W_seq_k fun K hK => ?_ | refine W_block_k fun K hK => ?_ | refine W_skip ?_ | refine W_ret ?_) | ((first | ((with_reducible refine W_id ?_); refine W_reg (by decide) (by rfl) ?_) | (with_reducible first | refine W_cond ?_ | refine hZ _ _ ?_ | refine W_exit ?_ | refine Wo_id ?_)); repeat1' simp only [push_cast, Nat.reduceBEq, Nat.reduceLT, Nat.reduceEqDiff, reduceIte, reduceCtorEq, Nat.reduceMul, Nat.reduceAdd, Nat.reduceSub, Int.reduceEq, Int.reduceLT, Int.reduceLE, Int.reduceNeg, Int.reduceAdd, Int.reduceSub, Int.reduceMul, Nat.reduceLeDiff, Int.reduceToNat, b2]) | ((repeat ((fail_if_success with_reducible refine hK _ _ ?_); clear hK K)); (with_reducible refine hK _ _ ?_); clear hK K))))
        refine ⟨(k, pre ++ [y]), by omega, ?_⟩
        (repeat simp only [push_cast, Nat.reduceBEq, Nat.reduceLT, Nat.reduceEqDiff, reduceIte, reduceCtorEq, Nat.reduceMul, Nat.reduceAdd, Nat.reduceSub, Int.reduceEq, Int.reduceLT, Int.reduceLE, Int.reduceNeg, Int.reduceAdd, Int.reduceSub, Int.reduceMul, Nat.reduceLeDiff, Int.reduceToNat])
        refine ⟨by simp; omega, ?_, hx4, hj4⟩
        rw [List.append_assoc]
        exact he
      · rw [if_pos (by unfold scE; rw [hb])] at he
        ((repeat simp only [push_cast, Nat.reduceBEq, Nat.reduceLT, Nat.reduceEqDiff, reduceIte, reduceCtorEq, Nat.reduceMul, Nat.reduceAdd, Nat.reduceSub, Int.reduceEq, Int.reduceLT, Int.reduceLE, Int.reduceNeg, Int.reduceAdd, Int.reduceSub, Int.reduceMul, Nat.reduceLeDiff, Int.reduceToNat]); (repeat (first | (with_reducible first | (refine hK _ _ ?_; clear hK K) | refine (show ∀ σ' w', _ → K σ' w' from by assumption) _ _ ?_ | refine W_seq_k fun K hK => ?_ | refine W_block_k fun K hK => ?_ | refine W_skip ?_ | refine W_ret ?_) | ((first | ((with_reducible refine W_id ?_); refine W_reg (by decide) (by rfl) ?_) | (with_reducible first | refine W_cond ?_ | refine hZ _ _ ?_ | refine W_exit ?_ | refine Wo_id ?_)); repeat1' simp only [push_cast, Nat.reduceBEq, Nat.reduceLT, Nat.reduceEqDiff, reduceIte, reduceCtorEq, Nat.reduceMul, Nat.reduceAdd, Nat.reduceSub, Int.reduceEq, Int.reduceLT, Int.reduceLE, Int.reduceNeg, Int.reduceAdd, Int.reduceSub, Int.reduceMul, Nat.reduceLeDiff, Int.reduceToNat]) | ((repeat ((fail_if_success with_reducible refine hK _ _ ?_); clear hK K)); (with_reducible refine hK _ _ ?_); clear hK K))))
        exact .inl ⟨_, he, hj4⟩
    · refine ⟨_, rfl, ?_⟩
      ((repeat simp only [push_cast, Nat.reduceBEq, Nat.reduceLT, Nat.reduceEqDiff, reduceIte, reduceCtorEq, Nat.reduceMul, Nat.reduceAdd, Nat.reduceSub, Int.reduceEq, Int.reduceLT, Int.reduceLE, Int.reduceNeg, Int.reduceAdd, Int.reduceSub, Int.reduceMul, Nat.reduceLeDiff, Int.reduceToNat]); (repeat (first | (with_reducible first | (refine hK _ _ ?_; clear hK K) | refine (show ∀ σ' w', _ → K σ' w' from by assumption) _ _ ?_ | refine W_seq_k fun K hK => ?_ | refine W_block_k fun K hK => ?_ | refine W_skip ?_ | refine W_ret ?_) | ((first | ((with_reducible refine W_id ?_); refine W_reg (by decide) (by rfl) ?_) | (with_reducible first | refine W_cond ?_ | refine hZ _ _ ?_ | refine W_exit ?_ | refine Wo_id ?_)); repeat1' simp only [push_cast, Nat.reduceBEq, Nat.reduceLT, Nat.reduceEqDiff, reduceIte, reduceCtorEq, Nat.reduceMul, Nat.reduceAdd, Nat.reduceSub, Int.reduceEq, Int.reduceLT, Int.reduceLE, Int.reduceNeg, Int.reduceAdd, Int.reduceSub, Int.reduceMul, Nat.reduceLeDiff, Int.reduceToNat]) | ((repeat ((fail_if_success with_reducible refine hK _ _ ?_); clear hK K)); (with_reducible refine hK _ _ ?_); clear hK K))))
      refine .inr ⟨_, ?_, hjx⟩
      rw [← he]
      exact ⟨if scE which y = true then [] else scp (scE which) s k, by simp⟩
end
end Go.Proofs.YtkafpameheohdaaDoor
end
section
set_option linter.unusedSimpArgs false
set_option linter.unusedVariables false
namespace Go.Vk
open Go Go.RowKit
def Mark (D : Nat) : Deferred := { target := .collected D, args := #[] }
theorem vc_bool (b : Bool) : (Value.bool b).cells = #[.bool b] := rfl
theorem grown_cells {A B : World} {row : Option Nat} {b : Nat} {cs : Array Value} {t : TypeId} {f : Nat × Nat} (h : A.heap[b]? = some (.cells cs t f)) (hg : A.grownBy B row) (hr : ∀ r, row = some r → ∃ o : Obj, A.heap[r]? = some o ∧ o.isCells = false) : B.heap[b]? = some (.cells cs t f) :=
  (hg.block b (blk_lt h) fun e => by
    obtain ⟨o, h1, h2⟩ := hr b e.symm
    rw [h] at h1; cases h1; cases h2).trans h
theorem set_any (a : Act) (v : Value) : ((#[11].zip #[v]).foldl (fun t (x : Nat × Value) => t.setIfInBounds x.1 x.2) a.tmps) = a.tmps.setIfInBounds 11 v := by simp
/-- 'for o := range seq { if p(o) { return true } }', and what is behind it -/
theorem range_any {P : Program} {n gf : Nat} {lb : Array Value} {g : Operand} {assign body : Code} {Q : Exit → Act → World → Prop} {a : Act} {W0 : World} {σ : Regs} (hk : Kn n σ a) (hn : 11 < n) (hg : evO σ g = some (.func (.func gf) #[] lb)) (eg : Enters P gf)
    {N : Nat} {Ls : List OpS} (p : OpS → Bool) {T t p6 : Nat} (h6 : W0.heap[p6]? = some (.cells #[.bool false] t (0, 0)))
    (hseq : SeqStopsK Fence.wide 0 P gf lb (fun o : OpS => #[.agg o.row]) Keep (fun xs => xs = Ls) (fun pre => pre <+: Ls) N W0)
    (ha : ∀ (l : Nat) (x : OpS) (a' : Act) (W : World) (K : Act → World → Prop), Ext W0 W → Kn n (put σ (some 11) (.agg x.row)) a' → a'.defers = [] →
      (∀ (a'' : Act) (W' : World) (p7 : Nat), Ext W W' → W'.heap[p7]? = some (.cells x.row T (0, 0)) → W.heap.size ≤ p7 → Kn n (put σ (some 7) (.pointer (some ⟨p7, 0, none⟩))) a'' → a''.defers = [] → K a'' W') → assign.wpIn (Rd (some l)) 0 P (Exit.then K fun _ _ _ => False) a' W)
    (hb : ∀ (l : Nat) (x : OpS) (a' : Act) (W : World) (p7 : Nat), Ext W0 W → W.heap[p7]? = some (.cells x.row T (0, 0)) → W0.heap.size ≤ p7 → Kn n (put σ (some 7) (.pointer (some ⟨p7, 0, none⟩))) a' → a'.defers = [] →
      body.wpIn (Rd (some l)) 0 P (fun e _ W' => (e = .normal ∧ p x = false ∧ Ext W W') ∨ (e = .ret ∧ p x = true ∧ ∃ W1, Ext W W1 ∧ W' = W1.setCell ⟨p6, 0, none⟩ (.bool true))) a' W)
    (hd : ∀ (D : Nat) (W : World), W0.heap.size ≤ D → Ls.any p = false → Ext W0 W → W.heap[D]? = some (.deferred (some [])) → Q .normal { a with defers := Mark D :: a.defers } W)
    (hs : ∀ (D : Nat) (W : World), W0.heap.size ≤ D → Ls.any p = true → Upd (fun b => b = p6) W0 W → W.heap[p6]? = some (.cells #[.bool true] t (0, 0)) → W.heap[D]? = some (.deferred (some [])) → Q .ret { a with defers := Mark D :: a.defers } W) :
    (Code.rangeFunc g #[11] assign body).wpIn Fence.wide 1 P Q a W0 := by
  have hev : a.eval g = .func (.func gf) #[] lb := hk.ev hg
  have hp6 := blk_lt h6
  refine wpIn_rangeFunc_ownH (F := Fence.wide) (n := 1) rfl (Nat.le_refl _) hev trivial eg hseq (fun h k => Keep.trans h k) (fun W l o o' _ h hc _ => Keep.putObj W l o o' h hc) (Below.refl _ _) (fun _ => rfl)
    (fun pre W => Ext W0 W ∧ pre.any p = false) (fun c pre W => c = .ret ∧ pre.any p = true ∧ Upd (fun b => b = p6) W0 W ∧ W.heap[p6]? = some (.cells #[.bool true] t (0, 0))) ?_ ?_ ⟨Ext.refl _, rfl⟩
    (fun x a' W => ∃ p7, W.heap[p7]? = some (.cells x.row T (0, 0)) ∧ W0.heap.size ≤ p7 ∧ Kn n (put σ (some 7) (.pointer (some ⟨p7, 0, none⟩))) a' ∧ a'.defers = []) ?_ ?_ ?_ ?_ ?_
  · rintro pre A B row ⟨h1, h2⟩ hgr hr
    exact ⟨Upd.grown h1 hgr fun r e => (hr r e).1, h2⟩
  · rintro c pre A B row ⟨h1, h2, h3, h4⟩ hgr hr
    exact ⟨h1, h2, Upd.grown h3 hgr fun r e => (hr r e).1, grown_cells h4 hgr fun r e => (hr r e).2⟩
  · rintro x a' _ A B row ⟨p7, h1, h2, h3⟩ hgr hr
    exact ⟨p7, grown_cells h1 hgr fun r e => (hr r e).2, h2, h3⟩
  · rintro l pre x W K ⟨hx, hp⟩ hK
    refine ha l x _ W K hx ?_ rfl fun a'' W' p7 h1 h2 h3 h4 h5 => hK a'' W' (h1.keepsFrom _) h1.keep ⟨hx.trans h1, hp⟩ ⟨p7, h2, Nat.le_trans hx.alike.size h3, h4, h5⟩
    have := Known.put hk (d := some 11) hn (.agg x.row)
    rw [set_any]
    exact this
  · rintro l pre x a' W hl _ ⟨hx, hp⟩ ⟨p7, h1, h2, h3, h4⟩ _
    refine wpIn_mono (hb l x a' W p7 hx h1 h2 h3 h4) ?_
    rintro e a3 W3 (⟨rfl, q1, q2⟩ | ⟨rfl, q1, W1, q2, rfl⟩)
    · refine ⟨q2.keepsFrom _, q2.keep, hx.trans q2, ?_⟩
      rw [List.any_append, hp]; simp [q1]
    · refine ⟨(q2.keepsFrom _).trans ((KeepsOthers.setCell _ _ _).from _), rfl, ?_, ?_, ?_⟩
      · rw [List.any_append]; simp [q1]
      · exact Upd.trans (hx.trans q2).upd (Upd.setCell (F := fun b => b = p6) (a := ⟨p6, 0, none⟩) W1 rfl _) fun _ _ h => h
      · rw [heap_set_h, if_pos rfl, (hx.trans q2).blk h6]; rfl
  · rintro D xs W hD rfl ⟨hx, hp⟩ hK
    exact hd D W hD hp hx hK
  · rintro D c pre W hD hpre ⟨rfl, hp, hx, h6'⟩ hK
    refine wpIn_ret (hs D W hD ?_ hx h6' hK)
    obtain ⟨t, ht⟩ := hpre
    rw [← ht, List.any_append, hp, Bool.true_or]
theorem kn_args {n : Nat} {args : Array Value} (ha : args.size ≤ n) : Kn n (argR 0 args.toList) { tmps := args ++ Array.replicate (n - args.size) undef, defers := [] } := by
  refine ⟨rfl, by simp; omega, fun t v hv => ?_⟩
  obtain ⟨_, h2⟩ := argR_find _ _ _ _ hv
  have hlt : t < args.size := by
    have := (List.getElem?_eq_some_iff.1 h2).1
    simpa using this
  rw [Array.getElem?_append_left hlt]
  simpa using h2
theorem leaves_mark {P : Program} {fn : Func} {n : Nat} {σ : Regs} {a : Act} {D : Nat} {w : World} {R : Value → World → Prop} (hk : Kn n σ a) (hd : a.defers = [Mark D]) (hD : w.heap[D]? = some (.deferred (some [])))
    (h : resL P σ (w.putObj D (.deferred none)) fn.results.toList fun vs => R (resV vs) (w.putObj D (.deferred none))) : LeavesInM Fence.wide 1 P fn a.tmps (fun e w' => ∃ v, e = .returned v ∧ R v w') a.defers .returning w := by
  rw [hd]
  refine ⟨by simp, .inl ⟨D, _, rfl, run_takeDeferred hD, ?_⟩⟩
  obtain ⟨v, hr, hR⟩ := results_run (k := fun v => R v (w.putObj D (.deferred none))) hk h
  exact ⟨v, hr, v, rfl, hR⟩
end Go.Vk
namespace Go.Proofs.YtkafpameheohdaaDoor
open Go Go.Vk Go.RowKit
set_option maxHeartbeats 40000000
section
variable {w : World} {ps : Nat} {ap sv : Value} {s : List OpS} {bo : Option Nat}
theorem sscope_c (pv : Option Addr) (which : Int) : Gives Tryd.prog 41 #[.pointer pv, .int .i64 which] w fun v w' => ∃ bs bw, v = .func (.func 68) #[] #[.pointer (some ⟨bs, 0, none⟩), .pointer (some ⟨bw, 0, none⟩)] ∧ w'.heap[bs]? = some (.cells #[.pointer pv] 26 (0, 0)) ∧ w'.heap[bw]? = some (.cells #[.int .i64 which] 3 (0, 0)) ∧ Ext w w' := by
  refine Gives.of_W Tryd.call41 Tryd.func41 rfl Tryd.ntmps41 (by simp) ?_; intro Z hZ
  (repeat (first | (with_reducible first | (refine hK _ _ ?_; clear hK K) | refine (show ∀ σ' w', _ → K σ' w' from by assumption) _ _ ?_ | refine W_seq_k fun K hK => ?_ | refine W_block_k fun K hK => ?_ | refine W_skip ?_ | refine W_ret ?_) | ((first | ((with_reducible refine W_id ?_); refine W_reg (by decide) (by rfl) ?_) | (with_reducible first | refine W_cond ?_ | refine hZ _ _ ?_ | refine W_exit ?_ | refine Wo_id ?_)); repeat1' simp only [push_cast, Nat.reduceBEq, Nat.reduceLT, Nat.reduceEqDiff, reduceIte, reduceCtorEq, Nat.reduceMul, Nat.reduceAdd, Nat.reduceSub, Int.reduceEq, Int.reduceLT, Int.reduceLE, Int.reduceNeg, Int.reduceAdd, Int.reduceSub, Int.reduceMul, Nat.reduceLeDiff, Int.reduceToNat, vc_ptr, vc_int]) | ((repeat ((fail_if_success with_reducible refine hK _ _ ?_); clear hK K)); (with_reducible refine hK _ _ ?_); clear hK K)))
  have hx := (Ext.alloc w (.cells #[.pointer pv] 26)).trans (Ext.alloc _ (.cells #[.int .i64 which] 3))
  refine ⟨_, _, rfl, ?_, ?_, hx⟩
  · rw [heap_alloc_h, if_neg (by rw [size_alloc_h]; omega), heap_alloc_h, if_pos rfl]
  · rw [heap_alloc_h, if_pos (by rw [size_alloc_h])]
theorem scope_stops {which : Int} {bs bw : Nat} (hs : s.length < 10000) (hz : ∀ o ∈ s, o.name.size < 4294967281)
    (hg : GL w) (hS : SK w ps ap sv s bo) (h1 : w.heap[bs]? = some (.cells #[.pointer (some ⟨ps, 0, none⟩)] 26 (0, 0))) (h2 : w.heap[bw]? = some (.cells #[.int .i64 which] 3 (0, 0))) :
    SeqStopsK Fence.wide 0 Tryd.prog 68 #[.pointer (some ⟨bs, 0, none⟩), .pointer (some ⟨bw, 0, none⟩)] (fun o : OpS => #[.agg o.row]) Keep (fun xs => xs = scp (scE which) s s.length) (fun pre => pre <+: scp (scE which) s s.length) s.length w := by
  intro l J Jx W hW hJ hJx hY h0
  have hu : Ext w W := ⟨⟨hW.os, hW.tape, hW.output, hW.size⟩, fun b hb _ => hW.block b hb⟩
  refine (callsIn_wide (n := 0)).2 ((Gives.calls Tryd.call68 (scope1_c (l := l) (bs := bs) (bw := bw) (which := which) (J := J) (Jx := Jx) hs hz (hg.ext hu) (hS.ext hu) (hu.blk h1) (hu.blk h2)
    (fun pre W1 W2 h hx => hJ pre W1 W2 none h hx.grown fun r e => by cases e) (fun pre W1 W2 h hx => hJx pre W1 W2 none h hx.grown fun r e => by cases e) hY h0)).mono ?_)
  rintro e w' ⟨v, rfl, h⟩
  exact ⟨⟨v, rfl⟩, h⟩
theorem shas_cg {pv : Option Addr} {which : Int} {xa : Option Addr} {xn xc : Nat} {l0 : List ByteArray} (hn : RdAt w 1 (.slice xa xn xc) (strCells l0)) (hl : l0.length < 1000000000) {Ls : List OpS} {N : Nat}
    (hst : ∀ w2 bs bw, Ext w w2 → w2.heap[bs]? = some (.cells #[.pointer pv] 26 (0, 0)) → w2.heap[bw]? = some (.cells #[.int .i64 which] 3 (0, 0)) →
      SeqStopsK Fence.wide 0 Tryd.prog 68 #[.pointer (some ⟨bs, 0, none⟩), .pointer (some ⟨bw, 0, none⟩)] (fun o : OpS => #[.agg o.row]) Keep (fun xs => xs = Ls) (fun pre => pre <+: Ls) N w2) :
    Gives Tryd.prog 17 #[.pointer pv, .int .i64 which, .slice xa xn xc] w fun v w' => v = .bool (Ls.any fun o => htmlS o l0) ∧ Ext w w' := by
  refine .inl ⟨Tryd.call17, (callsIn_wide (n := 1)).1 (callsIn_of_wp_marks Tryd.func17 rfl trivial ?_ rfl)⟩
  
  rw [Tryd.ntmps17]
  refine wpIn_seq ?_
  refine reg_rd (r := none) (n := 15) (by decide) (kn_args (by simp)) (by decide) (by decide) ?_
  (repeat simp only [push_cast, Nat.reduceBEq, Nat.reduceLT, Nat.reduceEqDiff, reduceIte, reduceCtorEq, Nat.reduceMul, Nat.reduceAdd, Nat.reduceSub, Int.reduceEq, Int.reduceLT, Int.reduceLE, Int.reduceNeg, Int.reduceAdd, Int.reduceSub, Int.reduceMul, Nat.reduceLeDiff, Int.reduceToNat, vc_sl, RunV_zero Tryd.zeroValue4, vc_bool])
  have hx1 := (Ext.alloc w (.cells #[.slice xa xn xc] 66)).trans (Ext.alloc _ (.cells #[.bool false] 4))
  have z5 : ((w.alloc (.cells #[.slice xa xn xc] 66)).alloc (.cells #[.bool false] 4)).heap[w.heap.size]? = some (.cells #[.slice xa xn xc] 66 (0, 0)) := by rw [heap_alloc_h, if_neg (by rw [size_alloc_h]; omega), heap_alloc_h, if_pos rfl]
  have z6 : ((w.alloc (.cells #[.slice xa xn xc] 66)).alloc (.cells #[.bool false] 4)).heap[w.heap.size + 1]? = some (.cells #[.bool false] 4 (0, 0)) := by rw [heap_alloc_h, if_pos (by rw [size_alloc_h])]
  try simp only [size_alloc_h]
  generalize (w.alloc (.cells #[.slice xa xn xc] 66)).alloc (.cells #[.bool false] 4) = w1 at *
  obtain ⟨p5, hp5⟩ : ∃ p5, p5 = w.heap.size := ⟨_, rfl⟩
  obtain ⟨p6, hp6⟩ : ∃ p6, p6 = w.heap.size + 1 := ⟨_, rfl⟩
  rw [← hp6] at z6 ⊢
  rw [← hp5] at z5 ⊢
  intro a1 hk1 hd1
  refine wpIn_seq ?_
  refine wpIn_seq ?_
  refine reg_rd (r := none) (n := 15) (by decide) hk1 (by decide) (by decide) ?_
  (repeat simp only [push_cast, Nat.reduceBEq, Nat.reduceLT, Nat.reduceEqDiff, reduceIte, reduceCtorEq, Nat.reduceMul, Nat.reduceAdd, Nat.reduceSub, Int.reduceEq, Int.reduceLT, Int.reduceLE, Int.reduceNeg, Int.reduceAdd, Int.reduceSub, Int.reduceMul, Nat.reduceLeDiff, Int.reduceToNat])
  refine (sscope_c pv which).mono ?_
  rintro v w2 ⟨bs, bw, rfl, g1, g2, hx2⟩
  (repeat simp only [push_cast, Nat.reduceBEq, Nat.reduceLT, Nat.reduceEqDiff, reduceIte, reduceCtorEq, Nat.reduceMul, Nat.reduceAdd, Nat.reduceSub, Int.reduceEq, Int.reduceLT, Int.reduceLE, Int.reduceNeg, Int.reduceAdd, Int.reduceSub, Int.reduceMul, Nat.reduceLeDiff, Int.reduceToNat])
  intro a2 hk2 hd2
  have hx02 := hx1.trans hx2
  have z62 := hx2.blk z6
  have hl2 := hx02.alike.size
  refine wpIn_block ?_
  refine range_any (T := 79) hk2 (by decide) rfl Tryd.call68 (fun o => htmlS o l0) z62 (hst w2 bs bw hx02 g1 g2) ?_ ?_ ?_ ?_
  · intro l x a' W K hxW hk' hd' hK
    unfold OpS.row at hk' hK
    refine reg_rd (r := some l) (n := 15) (by decide) hk' (by decide) (by decide) ?_
    (repeat simp only [push_cast, Nat.reduceBEq, Nat.reduceLT, Nat.reduceEqDiff, reduceIte, reduceCtorEq, Nat.reduceMul, Nat.reduceAdd, Nat.reduceSub, Int.reduceEq, Int.reduceLT, Int.reduceLE, Int.reduceNeg, Int.reduceAdd, Int.reduceSub, Int.reduceMul, Nat.reduceLeDiff, Int.reduceToNat, RunV_zero Tryd.zeroValue79, vcells_agg])
    obtain ⟨hx3, z3, hs3⟩ := new3 W (.int .i64 0) (.int .i64 0) (.string ⟨#[]⟩) (.int .i64 x.node) (.int .i64 x.space) (.string x.name) 79
    simp only [can_h, heap_alloc_h, if_true, canO_cells, List.size_toArray, List.length_cons, List.length_nil, Nat.zero_add, Nat.reduceAdd, Nat.reduceLT, true_and]
    intro a3 hk3 hd3
    refine hK a3 _ _ hx3 z3 (Nat.le_refl _) (Known.sub hk3 ?_) (hd3.trans hd')
    (repeat simp only [push_cast, Nat.reduceBEq, Nat.reduceLT, Nat.reduceEqDiff, reduceIte, reduceCtorEq, Nat.reduceMul, Nat.reduceAdd, Nat.reduceSub, Int.reduceEq, Int.reduceLT, Int.reduceLE, Int.reduceNeg, Int.reduceAdd, Int.reduceSub, Int.reduceMul, Nat.reduceLeDiff, Int.reduceToNat])
  · intro l x a' W p7 hxW z7 hp7 hk' hd'
    have z5W := (hx2.trans hxW).blk z5
    have z6W := (hx2.trans hxW).blk z6
    unfold OpS.row at z7
    refine wpIn_block (wpIn_seq ?_)
    refine reg_rd (r := some l) (n := 15) (by decide) hk' (by decide) (by decide) ?_
    (repeat simp only [push_cast, Nat.reduceBEq, Nat.reduceLT, Nat.reduceEqDiff, reduceIte, reduceCtorEq, Nat.reduceMul, Nat.reduceAdd, Nat.reduceSub, Int.reduceEq, Int.reduceLT, Int.reduceLE, Int.reduceNeg, Int.reduceAdd, Int.reduceSub, Int.reduceMul, Nat.reduceLeDiff, Int.reduceToNat, cell_h, cellO_cells, z7, z5W])
    refine (html_c (o := x) ((hn.ext hx02).ext hxW) hl).mono ?_
    rintro v w4 ⟨rfl, hx4⟩
    (repeat simp only [push_cast, Nat.reduceBEq, Nat.reduceLT, Nat.reduceEqDiff, reduceIte, reduceCtorEq, Nat.reduceMul, Nat.reduceAdd, Nat.reduceSub, Int.reduceEq, Int.reduceLT, Int.reduceLE, Int.reduceNeg, Int.reduceAdd, Int.reduceSub, Int.reduceMul, Nat.reduceLeDiff, Int.reduceToNat])
    intro a4 hk4 hd4

    refine cond_rd hk4 (b := htmlS x l0) rfl (fun hpx => ?_) (fun hpx => ?_)
    · refine wpIn_seq (reg_rd (r := some l) (n := 15) (by decide) hk4 (by decide) (by decide) ?_)
      have z64 := hx4.blk z6W
      (repeat simp only [push_cast, Nat.reduceBEq, Nat.reduceLT, Nat.reduceEqDiff, reduceIte, reduceCtorEq, Nat.reduceMul, Nat.reduceAdd, Nat.reduceSub, Int.reduceEq, Int.reduceLT, Int.reduceLE, Int.reduceNeg, Int.reduceAdd, Int.reduceSub, Int.reduceMul, Nat.reduceLeDiff, Int.reduceToNat, cell_h, can_h, canO_cells, z64])
      intro a5 hk5 hd5
      exact wpIn_ret (.inr ⟨rfl, hpx, _, hx4, rfl⟩)
    · exact wpIn_skip (.inl ⟨rfl, hpx, hx4⟩)
  · intro D W hD hany hxW hdD
    rw [hany]
    refine wpIn_seq (reg_rd (r := none) (n := 15) (by decide) (show Kn _ _ _ from hk2) (by decide) (by decide) ?_)
    have z6W := hxW.blk z62
    (repeat simp only [push_cast, Nat.reduceBEq, Nat.reduceLT, Nat.reduceEqDiff, reduceIte, reduceCtorEq, Nat.reduceMul, Nat.reduceAdd, Nat.reduceSub, Int.reduceEq, Int.reduceLT, Int.reduceLE, Int.reduceNeg, Int.reduceAdd, Int.reduceSub, Int.reduceMul, Nat.reduceLeDiff, Int.reduceToNat, cell_h, can_h, canO_cells, z6W])
    intro a5 hk5 hd5
    have hneD : D ≠ p6 := fun e => by rw [e] at hdD; rw [z6W] at hdD; cases hdD
    refine wpIn_ret (leaves_mark (D := D) hk5 (hd5.trans (by rw [hd2, hd1])) ?_ ?_)
    · rw [heap_set_h, if_neg (by exact hneD)]; exact hdD
    have hu9 : Ext w ((W.setCell ⟨p6, 0, none⟩ (.bool false)).putObj D (.deferred none)) := by
      refine Upd.grown (Upd.trans (hx02.trans hxW) (Upd.setCell (F := fun b => b = p6) (a := ⟨p6, 0, none⟩) W rfl (.bool false)) fun b hb e => by omega) (grownBy_putObj' _ D _) fun r e => by cases e; omega
    have z9 : ((W.setCell ⟨p6, 0, none⟩ (.bool false)).putObj D (.deferred none)).heap[p6]? = some (.cells #[.bool false] 4 (0, 0)) := by
      rw [World.putObj_heap_other (by omega), heap_set_h, if_pos rfl, z6W]; rfl
    generalize (W.setCell ⟨p6, 0, none⟩ (.bool false)).putObj D (.deferred none) = w9 at *
    (repeat simp only [push_cast, Nat.reduceBEq, Nat.reduceLT, Nat.reduceEqDiff, reduceIte, reduceCtorEq, Nat.reduceMul, Nat.reduceAdd, Nat.reduceSub, Int.reduceEq, Int.reduceLT, Int.reduceLE, Int.reduceNeg, Int.reduceAdd, Int.reduceSub, Int.reduceMul, Nat.reduceLeDiff, Int.reduceToNat, cell_h, cellO_cells, z9])
    exact hu9
  · intro D W hD hany hxW z6W hdD
    rw [hany]
    have hneD : D ≠ p6 := fun e => by rw [e] at hdD; rw [z6W] at hdD; cases hdD
    refine leaves_mark (D := D) (show Kn _ _ _ from hk2) (by rw [hd2, hd1]) hdD ?_
    have hu9 : Ext w (W.putObj D (.deferred none)) := by
      refine Upd.grown (Upd.trans hx02 hxW fun b hb e => by omega) (grownBy_putObj' _ D _) fun r e => by cases e; omega
    have z9 : (W.putObj D (.deferred none)).heap[p6]? = some (.cells #[.bool true] 4 (0, 0)) := by
      rw [World.putObj_heap_other (by omega), z6W]
    generalize W.putObj D (.deferred none) = w9 at *
    (repeat simp only [push_cast, Nat.reduceBEq, Nat.reduceLT, Nat.reduceEqDiff, reduceIte, reduceCtorEq, Nat.reduceMul, Nat.reduceAdd, Nat.reduceSub, Int.reduceEq, Int.reduceLT, Int.reduceLE, Int.reduceNeg, Int.reduceAdd, Int.reduceSub, Int.reduceMul, Nat.reduceLeDiff, Int.reduceToNat, cell_h, cellO_cells, z9])
    exact hu9
theorem shas_c {which : Int} {xa : Option Addr} {xn xc : Nat} {l0 : List ByteArray} (hn : RdAt w 1 (.slice xa xn xc) (strCells l0)) (hl : l0.length < 1000000000) (hs : s.length < 10000) (hz : ∀ o ∈ s, o.name.size < 4294967281) (hg : GL w) (hS : SK w ps ap sv s bo) :
    Gives Tryd.prog 17 #[.pointer (some ⟨ps, 0, none⟩), .int .i64 which, .slice xa xn xc] w fun v w' => v = .bool ((scp (scE which) s s.length).any fun o => htmlS o l0) ∧ Ext w w' :=
  shas_cg hn hl (N := s.length) fun w2 bs bw hx g1 g2 => scope_stops hs hz (hg.ext hx) (hS.ext hx) g1 g2
end
end Go.Proofs.YtkafpameheohdaaDoor
end
section
set_option linter.unusedSimpArgs false
set_option linter.unusedVariables false
namespace Go.Vk
open Go
def u8Cells (l : List Nat) : List Value := l.map fun n : Nat => Value.int .u8 (n : Int)
theorem u8Cells_length (l : List Nat) : (u8Cells l).length = l.length := by simp [u8Cells]
theorem u8_len {w : World} {v : Value} {l : List Nat} (h : RdAt w 1 v (u8Cells l)) : ∃ a c, v = .slice a l.length c ∧ l.length ≤ c ∧ ∀ (i : Nat) (x : Nat), l[i]? = some x → ∃ b o, a = some ⟨b, o, none⟩ ∧ w.cell? ⟨b, o + i, none⟩ = some (.int .u8 (x : Int)) := by
  obtain ⟨a, n, c, rfl, h1, h2, h3⟩ := h
  rw [u8Cells_length] at h2
  have : n = l.length := by omega
  subst this
  refine ⟨a, c, rfl, h1, fun i x hx => ?_⟩
  obtain ⟨b, o, e1, e2⟩ := h3 i (.int .u8 (x : Int)) (by simp [u8Cells, hx])
  exact ⟨b, o, e1, e2⟩
theorem build_arr {P : Program} {t e n : Nat} {z : Value} (hz : ∀ w, (zeroValue t).run P w = .ok z w) (hu : P.underlying t = some (.array n e)) (hs : ∀ w, (sizeOf e).run P w = .ok 1 w)
    {parts : List (Nat × Value)} {cs : Array Value} (hf : Instr.fill (fun i => some (i * 1, 1)) z.cells parts = some cs) {w : World} {K : Value → World → Prop} (h : K (.agg cs) w) : Pure1 P (Instr.build t parts.toArray) w K := by
  refine ⟨_, fun w => ?_, h⟩
  simp only [Instr.build, Sem.run_bind, hz w, Result.andThen, run_underlying hu w, hs w, hf]
  rfl
theorem agg_index {P : Program} {t e n : Nat} (hu : P.underlying t = some (.array n e)) {d : TypeDesc} (he : P.underlying e = some d) (hd : aggD d = false) (hs : ∀ w, (sizeOf e).run P w = .ok 1 w) {k : IntKind} {l : List Value} {i : Int} {v : Value}
    (h0 : 0 ≤ i) (hn : i < n) (hc : l[i.toNat]? = some v) (w : World) (K : Value → World → Prop) :
    Pure1 P (Instr.index t (.agg l.toArray) (.int k i)) w K = K v w := by
  refine Pure1_eq (fun w => ?_) w K
  simp [Instr.index, asIntOf, run_underlying hu, h0, hn, hs, part, run_isAgg he, hd, hc]
end Go.Vk
end
section
set_option linter.unusedSimpArgs false
set_option linter.unusedVariables false
namespace Go.Vk
open Go
def pN : Nat → ByteArray
  | 0 => ⟨#[104, 116, 109, 108]⟩
  | 1 => ⟨#[116, 97, 98, 108, 101]⟩
  | 2 => ⟨#[116, 100]⟩
  | _ => ⟨#[112]⟩
def pS (k : Nat) : List OpS := (List.range k).map fun (j : Nat) => ⟨(j : Int) + 1, 0, pN j⟩
def pL (k : Nat) : List Nd := docN :: (List.range k).map fun (j : Nat) => bareN (elN (pN j))
end Go.Vk
namespace Go.Proofs.YtkafpameheohdaaDoor
open Go Go.Vk
set_option maxHeartbeats 40000000
section
variable {w0 w : World} {Q : Nat → Prop} {ps pa : Nat} {L : List Nd} {s : List OpS}
theorem sadd_c (h : StAt w0 w Q ps pa L s) (hb : L.length < 100000) {m : Laid} (hm : RdAt w 2 m.av (attrCells m.nd.attrs)) (hmb : m.nd.attrs.length < 1000000) :
    Gives Tryd.prog 25 #[.pointer (some ⟨pa, 0, none⟩), m.val] w fun v w' => v = .int .i64 (addN L m.nd).2 ∧ StAt w0 w' Q ps pa (addN L m.nd).1 s ∧ Upd (AF w0 Q) w w' := by
  obtain ⟨sv, bo, hF, hA, hpl, hbo, hQ⟩ := h
  refine (add_a hA hb hm hmb).mono ?_
  rintro v w' ⟨h1, h2, h3⟩
  exact ⟨h1, ⟨sv, bo, hF.upd h3 (fun hf => hf.2 (.inr (.inl rfl))) (fun b hb hf => hf.2 (.inr (.inr hb))), h2, hpl, hbo, hQ⟩, h3.mono fun b _ hf => ⟨hf.1, fun hq => hf.2 (.inl hq)⟩⟩
theorem pN_i {k : Nat} (hk : k < 4) : insS (pL (k + 1)) (pS k) (pS k).length ((k : Int) + 1) = (pS (k + 1), 0) := by
  obtain rfl | rfl | rfl | rfl : k = 0 ∨ k = 1 ∨ k = 2 ∨ k = 3 := by omega
  all_goals kernel_rfl
theorem pN_a {k : Nat} (hk : k < 4) : addN (pL k) (elN (pN k)) = (pL (k + 1), (k : Int) + 1) := by
  obtain rfl | rfl | rfl | rfl : k = 0 ∨ k = 1 ∨ k = 2 ∨ k = 3 := by omega
  all_goals kernel_rfl
theorem pL_len (k : Nat) : (pL k).length = k + 1 := by simp [pL]
theorem pS_len (k : Nat) : (pS k).length = k := by simp [pS]
theorem styS : STy Tryd.prog 66 9 1 := ⟨Tryd.underlying66, Tryd.sizeOf9, fun w => ⟨_, by simp [Tryd.typeInfo9, Sem.run]; rfl, by decide, by decide⟩, fun w => ⟨_, by simp [Tryd.zeroValue9, Sem.run]; rfl, by decide⟩⟩
theorem names1 (w : World) (x : ByteArray) : RdAt (w.alloc (.cells #[.string x] 9)) 1 (.slice (some ⟨w.heap.size, 0, none⟩) 1 1) (strCells [x]) :=
  ⟨_, 1, 1, rfl, Nat.le_refl _, rfl, fun i u hi => ⟨w.heap.size, 0, rfl, by
    cases i with
    | zero =>
      simp only [strCells, List.map_cons, List.map_nil, List.getElem?_cons_zero] at hi
      cases hi
      rw [cell_h, heap_alloc_h, if_pos rfl]; rfl
    | succ i => simp [strCells] at hi⟩⟩
theorem has_s (h : StAt w0 w Q ps pa L s) (hg : GL w0) (hs : s.length < 10000) (hz : ∀ o ∈ s, o.name.size < 4294967281) (which : Int) {xa : Option Addr} {xn xc : Nat} {l0 : List ByteArray} (hn : RdAt w 1 (.slice xa xn xc) (strCells l0)) (hl : l0.length < 1000000000) :
    Gives Tryd.prog 17 #[.pointer (some ⟨ps, 0, none⟩), .int .i64 which, .slice xa xn xc] w fun v w' => v = .bool ((scp (scE which) s s.length).any fun o => htmlS o l0) ∧ Ext w w' := by
  obtain ⟨sv, bo, hF, _⟩ := id h
  exact shas_c hn hl hs hz (hg.ext h.out) hF
theorem len_s (h : StAt w0 w Q ps pa L s) : Gives Tryd.prog 16 #[.pointer (some ⟨ps, 0, none⟩)] w fun v w' => v = .int .i64 (s.length : Int) ∧ w' = w := by
  obtain ⟨sv, bo, hF, _⟩ := id h
  exact slen_c hF
theorem at_s (h : StAt w0 w Q ps pa L s) (k : Int) : Gives Tryd.prog 35 #[.pointer (some ⟨ps, 0, none⟩), .int .i64 k] w fun v w' => v = .int .i64 (atS s k) ∧ w' = w := by
  obtain ⟨sv, bo, hF, _⟩ := id h
  exact sat_c hF k
theorem top_s (h : StAt w0 w Q ps pa L s) (hs : s.length < 10000) : Gives Tryd.prog 13 #[.pointer (some ⟨ps, 0, none⟩)] w fun v w' => v = .int .i64 (topS s) ∧ w' = w := by
  obtain ⟨sv, bo, hF, _⟩ := id h
  exact stop_c hF (by omega)
theorem index_s (h : StAt w0 w Q ps pa L s) (hs : s.length < 10000) (i : Int) : Gives Tryd.prog 14 #[.pointer (some ⟨ps, 0, none⟩), .int .i64 i] w fun v w' => v = .int .i64 (indexS s i) ∧ w' = w := by
  obtain ⟨sv, bo, hF, _⟩ := id h
  exact sindex_c hF (by omega) i
theorem pS4 : ∀ o ∈ pS 4, o.name.size < 4294967281 := of_decide_eq_true (by kernel_rfl)
theorem p_h1 : (scp (scE 0) (pS 4) (pS 4).length).any (fun o => htmlS o [⟨#[112]⟩]) = true := by kernel_rfl
theorem p_h2 : (scp (scE 0) (pS 4) (pS 4).length).any (fun o => htmlS o [⟨#[116, 97, 98, 108, 101]⟩]) = false := by kernel_rfl
theorem p_h3 : (scp (scE 3) (pS 4) (pS 4).length).any (fun o => htmlS o [⟨#[116, 100]⟩]) = true := by kernel_rfl
theorem p_i0 : insS (pL 4) (pS 4) (pS 4).length 0 = (pS 4, 2) := by kernel_rfl
theorem p_u : untS (pS 4) [⟨#[116, 100]⟩] = (pS 2, 0) := by kernel_rfl
theorem p_d : dropS (butN ⟨#[]⟩) (pS 2) = pS 2 := by kernel_rfl
theorem pL_at : ∀ (k : Nat), ∀ n ∈ pL k, n.attrs.length < 1000000 := fun k n hn => by
  simp only [pL, List.mem_cons, List.mem_map] at hn
  rcases hn with rfl | ⟨j, _, rfl⟩ <;> exact (by decide : (0 : Nat) < 1000000)
theorem pile_c (hg : GL w) : Gives Tryd.prog 9 #[] w fun v w' => v = .bool true ∧ Ext w w' := by
  refine Gives.of_W Tryd.call9 Tryd.func9 rfl Tryd.ntmps9 (by simp) ?_; intro Z hZ
  (repeat (first | (with_reducible first | (refine hK _ _ ?_; clear hK K) | refine (show ∀ σ' w', _ → K σ' w' from by assumption) _ _ ?_ | refine W_seq_k fun K hK => ?_ | refine W_block_k fun K hK => ?_ | refine W_skip ?_ | refine W_ret ?_) | ((first | ((with_reducible refine W_id ?_); refine W_reg (by decide) (by rfl) ?_) | (with_reducible first | refine W_cond ?_ | refine hZ _ _ ?_ | refine W_exit ?_ | refine Wo_id ?_)); repeat1' simp only [push_cast, Nat.reduceBEq, Nat.reduceLT, Nat.reduceEqDiff, reduceIte, reduceCtorEq, Nat.reduceMul, Nat.reduceAdd, Nat.reduceSub, Int.reduceEq, Int.reduceLT, Int.reduceLE, Int.reduceNeg, Int.reduceAdd, Int.reduceSub, Int.reduceMul, Nat.reduceLeDiff, Int.reduceToNat]) | ((repeat ((fail_if_success with_reducible refine hK _ _ ?_); clear hK K)); (with_reducible refine hK _ _ ?_); clear hK K)))
  refine new_a.mono ?_
  rintro v w1 ⟨pa, rfl, h1⟩
  ((repeat simp only [push_cast, Nat.reduceBEq, Nat.reduceLT, Nat.reduceEqDiff, reduceIte, reduceCtorEq, Nat.reduceMul, Nat.reduceAdd, Nat.reduceSub, Int.reduceEq, Int.reduceLT, Int.reduceLE, Int.reduceNeg, Int.reduceAdd, Int.reduceSub, Int.reduceMul, Nat.reduceLeDiff, Int.reduceToNat]); (repeat (first | (with_reducible first | (refine hK _ _ ?_; clear hK K) | refine (show ∀ σ' w', _ → K σ' w' from by assumption) _ _ ?_ | refine W_seq_k fun K hK => ?_ | refine W_block_k fun K hK => ?_ | refine W_skip ?_ | refine W_ret ?_) | ((first | ((with_reducible refine W_id ?_); refine W_reg (by decide) (by rfl) ?_) | (with_reducible first | refine W_cond ?_ | refine hZ _ _ ?_ | refine W_exit ?_ | refine Wo_id ?_)); repeat1' simp only [push_cast, Nat.reduceBEq, Nat.reduceLT, Nat.reduceEqDiff, reduceIte, reduceCtorEq, Nat.reduceMul, Nat.reduceAdd, Nat.reduceSub, Int.reduceEq, Int.reduceLT, Int.reduceLE, Int.reduceNeg, Int.reduceAdd, Int.reduceSub, Int.reduceMul, Nat.reduceLeDiff, Int.reduceToNat]) | ((repeat ((fail_if_success with_reducible refine hK _ _ ?_); clear hK K)); (with_reducible refine hK _ _ ?_); clear hK K))))
  refine (snew_c h1 (by decide)).mono ?_
  rintro v w2 ⟨ps, rfl, h2, _⟩
  ((repeat simp only [push_cast, Nat.reduceBEq, Nat.reduceLT, Nat.reduceEqDiff, reduceIte, reduceCtorEq, Nat.reduceMul, Nat.reduceAdd, Nat.reduceSub, Int.reduceEq, Int.reduceLT, Int.reduceLE, Int.reduceNeg, Int.reduceAdd, Int.reduceSub, Int.reduceMul, Nat.reduceLeDiff, Int.reduceToNat]); (repeat (first | (with_reducible first | (refine hK _ _ ?_; clear hK K) | refine (show ∀ σ' w', _ → K σ' w' from by assumption) _ _ ?_ | refine W_seq_k fun K hK => ?_ | refine W_block_k fun K hK => ?_ | refine W_skip ?_ | refine W_ret ?_) | ((first | ((with_reducible refine W_id ?_); refine W_reg (by decide) (by rfl) ?_) | (with_reducible first | refine W_cond ?_ | refine hZ _ _ ?_ | refine W_exit ?_ | refine Wo_id ?_)); repeat1' simp only [push_cast, Nat.reduceBEq, Nat.reduceLT, Nat.reduceEqDiff, reduceIte, reduceCtorEq, Nat.reduceMul, Nat.reduceAdd, Nat.reduceSub, Int.reduceEq, Int.reduceLT, Int.reduceLE, Int.reduceNeg, Int.reduceAdd, Int.reduceSub, Int.reduceMul, Nat.reduceLeDiff, Int.reduceToNat]) | ((repeat ((fail_if_success with_reducible refine hK _ _ ?_); clear hK K)); (with_reducible refine hK _ _ ?_); clear hK K))))
  refine build_arr Tryd.zeroValue76 Tryd.underlying76 Tryd.sizeOf9 (cs := #[.string (pN 0), .string (pN 1), .string (pN 2), .string (pN 3)]) (by rfl) ?_
  ((repeat simp only [push_cast, Nat.reduceBEq, Nat.reduceLT, Nat.reduceEqDiff, reduceIte, reduceCtorEq, Nat.reduceMul, Nat.reduceAdd, Nat.reduceSub, Int.reduceEq, Int.reduceLT, Int.reduceLE, Int.reduceNeg, Int.reduceAdd, Int.reduceSub, Int.reduceMul, Nat.reduceLeDiff, Int.reduceToNat]); (repeat (first | (with_reducible first | (refine hK _ _ ?_; clear hK K) | refine (show ∀ σ' w', _ → K σ' w' from by assumption) _ _ ?_ | refine W_seq_k fun K hK => ?_ | refine W_block_k fun K hK => ?_ | refine W_skip ?_ | refine W_ret ?_) | ((first | ((with_reducible refine W_id ?_); refine W_reg (by decide) (by rfl) ?_) | (with_reducible first | refine W_cond ?_ | refine hZ _ _ ?_ | refine W_exit ?_ | refine Wo_id ?_)); repeat1' simp only [push_cast, Nat.reduceBEq, Nat.reduceLT, Nat.reduceEqDiff, reduceIte, reduceCtorEq, Nat.reduceMul, Nat.reduceAdd, Nat.reduceSub, Int.reduceEq, Int.reduceLT, Int.reduceLE, Int.reduceNeg, Int.reduceAdd, Int.reduceSub, Int.reduceMul, Nat.reduceLeDiff, Int.reduceToNat]) | ((repeat ((fail_if_success with_reducible refine hK _ _ ?_); clear hK K)); (with_reducible refine hK _ _ ?_); clear hK K))))
  refine W_loop (S := Nat) (fun k => [(1, .pointer (some ⟨pa, 0, none⟩)), (2, .pointer (some ⟨ps, 0, none⟩)), (8, .agg #[.string (pN 0), .string (pN 1), .string (pN 2), .string (pN 3)]), (9, .int .i64 (k : Int))])
    (fun k w3 => k ≤ 4 ∧ StAt w w3 noP ps pa (pL k) (pS k)) (fun k => 4 - k) 0 ?_ ?_ ?_
  · (repeat simp only [push_cast, Nat.reduceBEq, Nat.reduceLT, Nat.reduceEqDiff, reduceIte, reduceCtorEq, Nat.reduceMul, Nat.reduceAdd, Nat.reduceSub, Int.reduceEq, Int.reduceLT, Int.reduceLE, Int.reduceNeg, Int.reduceAdd, Int.reduceSub, Int.reduceMul, Nat.reduceLeDiff, Int.reduceToNat])
  · exact ⟨by decide, h2⟩
  rintro k w3 ⟨hk, h3⟩
  by_cases hk4 : k < 4
  · have b0 : (k : Int) < 4 := by omega
    have b2 : inI64 ((k : Int) + 1) := by unfold inI64; omega
    have hix : ∀ (w : World) (K : Value → World → Prop), Pure1 Tryd.prog (Instr.index 76 (.agg #[.string (pN 0), .string (pN 1), .string (pN 2), .string (pN 3)]) (.int .i64 (k : Int))) w K = K (.string (pN k)) w := by
      refine agg_index (l := [.string (pN 0), .string (pN 1), .string (pN 2), .string (pN 3)]) Tryd.underlying76 Tryd.underlying9 rfl Tryd.sizeOf9 (by omega) (by omega) ?_
      rw [Int.toNat_natCast]
      obtain rfl | rfl | rfl | rfl : k = 0 ∨ k = 1 ∨ k = 2 ∨ k = 3 := by omega
      all_goals rfl
    have eA := pN_a hk4
    have eI := pN_i hk4
    (repeat (first | (with_reducible first | (refine hK _ _ ?_; clear hK K) | refine (show ∀ σ' w', _ → K σ' w' from by assumption) _ _ ?_ | refine W_seq_k fun K hK => ?_ | refine W_block_k fun K hK => ?_ | refine W_skip ?_ | refine W_ret ?_) | ((first | ((with_reducible refine W_id ?_); refine W_reg (by decide) (by rfl) ?_) | (with_reducible first | refine W_cond ?_ | refine hZ _ _ ?_ | refine W_exit ?_ | refine Wo_id ?_)); repeat1' simp only [push_cast, Nat.reduceBEq, Nat.reduceLT, Nat.reduceEqDiff, reduceIte, reduceCtorEq, Nat.reduceMul, Nat.reduceAdd, Nat.reduceSub, Int.reduceEq, Int.reduceLT, Int.reduceLE, Int.reduceNeg, Int.reduceAdd, Int.reduceSub, Int.reduceMul, Nat.reduceLeDiff, Int.reduceToNat, b0, hix]) | ((repeat ((fail_if_success with_reducible refine hK _ _ ?_); clear hK K)); (with_reducible refine hK _ _ ?_); clear hK K)))
    refine build_struct Tryd.zeroValue49 un30 pl30 (cs := #[.int .i64 3, .string (pN k), .string ⟨#[]⟩, .int .i64 0, .slice none 0 0, .bool false, .int .i64 0, .int .i64 0, .slice none 0 0, .int .i64 0, .int .i64 0]) (by rfl) ?_
    ((repeat simp only [push_cast, Nat.reduceBEq, Nat.reduceLT, Nat.reduceEqDiff, reduceIte, reduceCtorEq, Nat.reduceMul, Nat.reduceAdd, Nat.reduceSub, Int.reduceEq, Int.reduceLT, Int.reduceLE, Int.reduceNeg, Int.reduceAdd, Int.reduceSub, Int.reduceMul, Nat.reduceLeDiff, Int.reduceToNat]); (repeat (first | (with_reducible first | (refine hK _ _ ?_; clear hK K) | refine (show ∀ σ' w', _ → K σ' w' from by assumption) _ _ ?_ | refine W_seq_k fun K hK => ?_ | refine W_block_k fun K hK => ?_ | refine W_skip ?_ | refine W_ret ?_) | ((first | ((with_reducible refine W_id ?_); refine W_reg (by decide) (by rfl) ?_) | (with_reducible first | refine W_cond ?_ | refine hZ _ _ ?_ | refine W_exit ?_ | refine Wo_id ?_)); repeat1' simp only [push_cast, Nat.reduceBEq, Nat.reduceLT, Nat.reduceEqDiff, reduceIte, reduceCtorEq, Nat.reduceMul, Nat.reduceAdd, Nat.reduceSub, Int.reduceEq, Int.reduceLT, Int.reduceLE, Int.reduceNeg, Int.reduceAdd, Int.reduceSub, Int.reduceMul, Nat.reduceLeDiff, Int.reduceToNat]) | ((repeat ((fail_if_success with_reducible refine hK _ _ ?_); clear hK K)); (with_reducible refine hK _ _ ?_); clear hK K))))
    refine (sadd_c h3 (by rw [pL_len]; omega) (m := ⟨elN (pN k), .slice none 0 0, .slice none 0 0, none, none⟩) (SlAt.nil _ _).rd (show (0 : Nat) < 1000000 by decide)).mono ?_
    rintro v w4 ⟨rfl, h4, _⟩
    rw [eA] at h4 ⊢
    ((repeat simp only [push_cast, Nat.reduceBEq, Nat.reduceLT, Nat.reduceEqDiff, reduceIte, reduceCtorEq, Nat.reduceMul, Nat.reduceAdd, Nat.reduceSub, Int.reduceEq, Int.reduceLT, Int.reduceLE, Int.reduceNeg, Int.reduceAdd, Int.reduceSub, Int.reduceMul, Nat.reduceLeDiff, Int.reduceToNat, b2, not_true_eq_false, eq_self]); (repeat (first | (with_reducible first | (refine hK _ _ ?_; clear hK K) | refine (show ∀ σ' w', _ → K σ' w' from by assumption) _ _ ?_ | refine W_seq_k fun K hK => ?_ | refine W_block_k fun K hK => ?_ | refine W_skip ?_ | refine W_ret ?_) | ((first | ((with_reducible refine W_id ?_); refine W_reg (by decide) (by rfl) ?_) | (with_reducible first | refine W_cond ?_ | refine hZ _ _ ?_ | refine W_exit ?_ | refine Wo_id ?_)); repeat1' simp only [push_cast, Nat.reduceBEq, Nat.reduceLT, Nat.reduceEqDiff, reduceIte, reduceCtorEq, Nat.reduceMul, Nat.reduceAdd, Nat.reduceSub, Int.reduceEq, Int.reduceLT, Int.reduceLE, Int.reduceNeg, Int.reduceAdd, Int.reduceSub, Int.reduceMul, Nat.reduceLeDiff, Int.reduceToNat, b2, not_true_eq_false, eq_self]) | ((repeat ((fail_if_success with_reducible refine hK _ _ ?_); clear hK K)); (with_reducible refine hK _ _ ?_); clear hK K))))
    refine (spush_c h4 (by rw [pL_len]; omega) (pL_at _) (by rw [pS_len]; omega) _).mono ?_
    rintro v w5 ⟨rfl, h5, _⟩
    rw [eI] at h5 ⊢
    ((repeat simp only [push_cast, Nat.reduceBEq, Nat.reduceLT, Nat.reduceEqDiff, reduceIte, reduceCtorEq, Nat.reduceMul, Nat.reduceAdd, Nat.reduceSub, Int.reduceEq, Int.reduceLT, Int.reduceLE, Int.reduceNeg, Int.reduceAdd, Int.reduceSub, Int.reduceMul, Nat.reduceLeDiff, Int.reduceToNat, b2, not_true_eq_false, eq_self]); (repeat (first | (with_reducible first | (refine hK _ _ ?_; clear hK K) | refine (show ∀ σ' w', _ → K σ' w' from by assumption) _ _ ?_ | refine W_seq_k fun K hK => ?_ | refine W_block_k fun K hK => ?_ | refine W_skip ?_ | refine W_ret ?_) | ((first | ((with_reducible refine W_id ?_); refine W_reg (by decide) (by rfl) ?_) | (with_reducible first | refine W_cond ?_ | refine hZ _ _ ?_ | refine W_exit ?_ | refine Wo_id ?_)); repeat1' simp only [push_cast, Nat.reduceBEq, Nat.reduceLT, Nat.reduceEqDiff, reduceIte, reduceCtorEq, Nat.reduceMul, Nat.reduceAdd, Nat.reduceSub, Int.reduceEq, Int.reduceLT, Int.reduceLE, Int.reduceNeg, Int.reduceAdd, Int.reduceSub, Int.reduceMul, Nat.reduceLeDiff, Int.reduceToNat, b2, not_true_eq_false, eq_self]) | ((repeat ((fail_if_success with_reducible refine hK _ _ ?_); clear hK K)); (with_reducible refine hK _ _ ?_); clear hK K))))
    refine ⟨k + 1, by omega, ?_⟩
    (repeat simp only [push_cast, Nat.reduceBEq, Nat.reduceLT, Nat.reduceEqDiff, reduceIte, reduceCtorEq, Nat.reduceMul, Nat.reduceAdd, Nat.reduceSub, Int.reduceEq, Int.reduceLT, Int.reduceLE, Int.reduceNeg, Int.reduceAdd, Int.reduceSub, Int.reduceMul, Nat.reduceLeDiff, Int.reduceToNat])
    exact ⟨by omega, h5⟩
  · obtain rfl : k = 4 := by omega
    have b0 : ¬ ((4 : Nat) : Int) < 4 := by omega
    (repeat (first | (with_reducible first | (refine hK _ _ ?_; clear hK K) | refine (show ∀ σ' w', _ → K σ' w' from by assumption) _ _ ?_ | refine W_seq_k fun K hK => ?_ | refine W_block_k fun K hK => ?_ | refine W_skip ?_ | refine W_ret ?_) | ((first | ((with_reducible refine W_id ?_); refine W_reg (by decide) (by rfl) ?_) | (with_reducible first | refine W_cond ?_ | refine hZ _ _ ?_ | refine W_exit ?_ | refine Wo_id ?_)); repeat1' simp only [push_cast, Nat.reduceBEq, Nat.reduceLT, Nat.reduceEqDiff, reduceIte, reduceCtorEq, Nat.reduceMul, Nat.reduceAdd, Nat.reduceSub, Int.reduceEq, Int.reduceLT, Int.reduceLE, Int.reduceNeg, Int.reduceAdd, Int.reduceSub, Int.reduceMul, Nat.reduceLeDiff, Int.reduceToNat, b0]) | ((repeat ((fail_if_success with_reducible refine hK _ _ ?_); clear hK K)); (with_reducible refine hK _ _ ?_); clear hK K)))
    refine bs_one styS (by decide) (by decide) (v := .string ⟨#[112]⟩) rfl ?_
    rw [vc_str]
    have n1 := names1 w3 ⟨#[112]⟩
    have h4 := h3.pass (Ext.alloc w3 (.cells #[.string ⟨#[112]⟩] 9))
    generalize w3.alloc (.cells #[.string ⟨#[112]⟩] 9) = w4 at *
    refine (has_s h4 hg (by decide) pS4 0 n1 (by decide)).mono ?_
    rintro v w5 ⟨rfl, hx5⟩
    have h5 := h4.pass hx5
    rw [p_h1]
    ((repeat simp only [push_cast, Nat.reduceBEq, Nat.reduceLT, Nat.reduceEqDiff, reduceIte, reduceCtorEq, Nat.reduceMul, Nat.reduceAdd, Nat.reduceSub, Int.reduceEq, Int.reduceLT, Int.reduceLE, Int.reduceNeg, Int.reduceAdd, Int.reduceSub, Int.reduceMul, Nat.reduceLeDiff, Int.reduceToNat]); (repeat (first | (with_reducible first | (refine hK _ _ ?_; clear hK K) | refine (show ∀ σ' w', _ → K σ' w' from by assumption) _ _ ?_ | refine W_seq_k fun K hK => ?_ | refine W_block_k fun K hK => ?_ | refine W_skip ?_ | refine W_ret ?_) | ((first | ((with_reducible refine W_id ?_); refine W_reg (by decide) (by rfl) ?_) | (with_reducible first | refine W_cond ?_ | refine hZ _ _ ?_ | refine W_exit ?_ | refine Wo_id ?_)); repeat1' simp only [push_cast, Nat.reduceBEq, Nat.reduceLT, Nat.reduceEqDiff, reduceIte, reduceCtorEq, Nat.reduceMul, Nat.reduceAdd, Nat.reduceSub, Int.reduceEq, Int.reduceLT, Int.reduceLE, Int.reduceNeg, Int.reduceAdd, Int.reduceSub, Int.reduceMul, Nat.reduceLeDiff, Int.reduceToNat]) | ((repeat ((fail_if_success with_reducible refine hK _ _ ?_); clear hK K)); (with_reducible refine hK _ _ ?_); clear hK K))))
    have hw5 := h5
    clear n1
    refine bs_one styS (by decide) (by decide) (v := .string ⟨#[116, 97, 98, 108, 101]⟩) rfl ?_
    rw [vc_str]
    have n1 := names1 w5 ⟨#[116, 97, 98, 108, 101]⟩
    have hw6 := hw5.pass (Ext.alloc w5 (.cells #[.string ⟨#[116, 97, 98, 108, 101]⟩] 9))
    generalize w5.alloc (.cells #[.string ⟨#[116, 97, 98, 108, 101]⟩] 9) = w6 at *
    refine (has_s hw6 hg (by decide) pS4 0 n1 (by decide)).mono ?_
    rintro v w7 ⟨rfl, hx⟩
    have hw7 := hw6.pass hx
    rw [p_h2]
    ((repeat simp only [push_cast, Nat.reduceBEq, Nat.reduceLT, Nat.reduceEqDiff, reduceIte, reduceCtorEq, Nat.reduceMul, Nat.reduceAdd, Nat.reduceSub, Int.reduceEq, Int.reduceLT, Int.reduceLE, Int.reduceNeg, Int.reduceAdd, Int.reduceSub, Int.reduceMul, Nat.reduceLeDiff, Int.reduceToNat]); (repeat (first | (with_reducible first | (refine hK _ _ ?_; clear hK K) | refine (show ∀ σ' w', _ → K σ' w' from by assumption) _ _ ?_ | refine W_seq_k fun K hK => ?_ | refine W_block_k fun K hK => ?_ | refine W_skip ?_ | refine W_ret ?_) | ((first | ((with_reducible refine W_id ?_); refine W_reg (by decide) (by rfl) ?_) | (with_reducible first | refine W_cond ?_ | refine hZ _ _ ?_ | refine W_exit ?_ | refine Wo_id ?_)); repeat1' simp only [push_cast, Nat.reduceBEq, Nat.reduceLT, Nat.reduceEqDiff, reduceIte, reduceCtorEq, Nat.reduceMul, Nat.reduceAdd, Nat.reduceSub, Int.reduceEq, Int.reduceLT, Int.reduceLE, Int.reduceNeg, Int.reduceAdd, Int.reduceSub, Int.reduceMul, Nat.reduceLeDiff, Int.reduceToNat]) | ((repeat ((fail_if_success with_reducible refine hK _ _ ?_); clear hK K)); (with_reducible refine hK _ _ ?_); clear hK K))))
    clear n1
    refine bs_one styS (by decide) (by decide) (v := .string ⟨#[116, 100]⟩) rfl ?_
    rw [vc_str]
    have n1 := names1 w7 ⟨#[116, 100]⟩
    have hw8 := hw7.pass (Ext.alloc w7 (.cells #[.string ⟨#[116, 100]⟩] 9))
    generalize w7.alloc (.cells #[.string ⟨#[116, 100]⟩] 9) = w8 at *
    refine (has_s hw8 hg (by decide) pS4 3 n1 (by decide)).mono ?_
    rintro v w9 ⟨rfl, hx⟩
    have hw9 := hw8.pass hx
    rw [p_h3]
    ((repeat simp only [push_cast, Nat.reduceBEq, Nat.reduceLT, Nat.reduceEqDiff, reduceIte, reduceCtorEq, Nat.reduceMul, Nat.reduceAdd, Nat.reduceSub, Int.reduceEq, Int.reduceLT, Int.reduceLE, Int.reduceNeg, Int.reduceAdd, Int.reduceSub, Int.reduceMul, Nat.reduceLeDiff, Int.reduceToNat]); (repeat (first | (with_reducible first | (refine hK _ _ ?_; clear hK K) | refine (show ∀ σ' w', _ → K σ' w' from by assumption) _ _ ?_ | refine W_seq_k fun K hK => ?_ | refine W_block_k fun K hK => ?_ | refine W_skip ?_ | refine W_ret ?_) | ((first | ((with_reducible refine W_id ?_); refine W_reg (by decide) (by rfl) ?_) | (with_reducible first | refine W_cond ?_ | refine hZ _ _ ?_ | refine W_exit ?_ | refine Wo_id ?_)); repeat1' simp only [push_cast, Nat.reduceBEq, Nat.reduceLT, Nat.reduceEqDiff, reduceIte, reduceCtorEq, Nat.reduceMul, Nat.reduceAdd, Nat.reduceSub, Int.reduceEq, Int.reduceLT, Int.reduceLE, Int.reduceNeg, Int.reduceAdd, Int.reduceSub, Int.reduceMul, Nat.reduceLeDiff, Int.reduceToNat]) | ((repeat ((fail_if_success with_reducible refine hK _ _ ?_); clear hK K)); (with_reducible refine hK _ _ ?_); clear hK K))))
    refine (spush_c hw9 (by decide) (pL_at _) (by decide) 0).mono ?_
    rintro v w10 ⟨rfl, hw10, _⟩
    rw [p_i0] at hw10 ⊢
    ((repeat simp only [push_cast, Nat.reduceBEq, Nat.reduceLT, Nat.reduceEqDiff, reduceIte, reduceCtorEq, Nat.reduceMul, Nat.reduceAdd, Nat.reduceSub, Int.reduceEq, Int.reduceLT, Int.reduceLE, Int.reduceNeg, Int.reduceAdd, Int.reduceSub, Int.reduceMul, Nat.reduceLeDiff, Int.reduceToNat, not_true_eq_false]); (repeat (first | (with_reducible first | (refine hK _ _ ?_; clear hK K) | refine (show ∀ σ' w', _ → K σ' w' from by assumption) _ _ ?_ | refine W_seq_k fun K hK => ?_ | refine W_block_k fun K hK => ?_ | refine W_skip ?_ | refine W_ret ?_) | ((first | ((with_reducible refine W_id ?_); refine W_reg (by decide) (by rfl) ?_) | (with_reducible first | refine W_cond ?_ | refine hZ _ _ ?_ | refine W_exit ?_ | refine Wo_id ?_)); repeat1' simp only [push_cast, Nat.reduceBEq, Nat.reduceLT, Nat.reduceEqDiff, reduceIte, reduceCtorEq, Nat.reduceMul, Nat.reduceAdd, Nat.reduceSub, Int.reduceEq, Int.reduceLT, Int.reduceLE, Int.reduceNeg, Int.reduceAdd, Int.reduceSub, Int.reduceMul, Nat.reduceLeDiff, Int.reduceToNat, not_true_eq_false]) | ((repeat ((fail_if_success with_reducible refine hK _ _ ?_); clear hK K)); (with_reducible refine hK _ _ ?_); clear hK K))))
    refine bs_one styS (by decide) (by decide) (v := .string ⟨#[116, 100]⟩) rfl ?_
    rw [vc_str]
    have n2 := names1 w10 ⟨#[116, 100]⟩
    have hw11 := hw10.pass (Ext.alloc w10 (.cells #[.string ⟨#[116, 100]⟩] 9))
    generalize w10.alloc (.cells #[.string ⟨#[116, 100]⟩] 9) = w11 at *
    refine (suntil_c hw11 (by decide) n2 (by decide)).mono ?_
    rintro v w12 ⟨rfl, hw12, _⟩
    rw [p_u] at hw12 ⊢
    ((repeat simp only [push_cast, Nat.reduceBEq, Nat.reduceLT, Nat.reduceEqDiff, reduceIte, reduceCtorEq, Nat.reduceMul, Nat.reduceAdd, Nat.reduceSub, Int.reduceEq, Int.reduceLT, Int.reduceLE, Int.reduceNeg, Int.reduceAdd, Int.reduceSub, Int.reduceMul, Nat.reduceLeDiff, Int.reduceToNat, not_true_eq_false]); (repeat (first | (with_reducible first | (refine hK _ _ ?_; clear hK K) | refine (show ∀ σ' w', _ → K σ' w' from by assumption) _ _ ?_ | refine W_seq_k fun K hK => ?_ | refine W_block_k fun K hK => ?_ | refine W_skip ?_ | refine W_ret ?_) | ((first | ((with_reducible refine W_id ?_); refine W_reg (by decide) (by rfl) ?_) | (with_reducible first | refine W_cond ?_ | refine hZ _ _ ?_ | refine W_exit ?_ | refine Wo_id ?_)); repeat1' simp only [push_cast, Nat.reduceBEq, Nat.reduceLT, Nat.reduceEqDiff, reduceIte, reduceCtorEq, Nat.reduceMul, Nat.reduceAdd, Nat.reduceSub, Int.reduceEq, Int.reduceLT, Int.reduceLE, Int.reduceNeg, Int.reduceAdd, Int.reduceSub, Int.reduceMul, Nat.reduceLeDiff, Int.reduceToNat, not_true_eq_false]) | ((repeat ((fail_if_success with_reducible refine hK _ _ ?_); clear hK K)); (with_reducible refine hK _ _ ?_); clear hK K))))
    refine (simp_c hw12 (by decide) hg.max (fun o ho => pS4 o (List.mem_of_mem_take (i := 2) (by exact ho))) ⟨#[]⟩).mono ?_
    rintro v w13 ⟨hw13, _⟩
    rw [p_d] at hw13
    ((repeat simp only [push_cast, Nat.reduceBEq, Nat.reduceLT, Nat.reduceEqDiff, reduceIte, reduceCtorEq, Nat.reduceMul, Nat.reduceAdd, Nat.reduceSub, Int.reduceEq, Int.reduceLT, Int.reduceLE, Int.reduceNeg, Int.reduceAdd, Int.reduceSub, Int.reduceMul, Nat.reduceLeDiff, Int.reduceToNat]); (repeat (first | (with_reducible first | (refine hK _ _ ?_; clear hK K) | refine (show ∀ σ' w', _ → K σ' w' from by assumption) _ _ ?_ | refine W_seq_k fun K hK => ?_ | refine W_block_k fun K hK => ?_ | refine W_skip ?_ | refine W_ret ?_) | ((first | ((with_reducible refine W_id ?_); refine W_reg (by decide) (by rfl) ?_) | (with_reducible first | refine W_cond ?_ | refine hZ _ _ ?_ | refine W_exit ?_ | refine Wo_id ?_)); repeat1' simp only [push_cast, Nat.reduceBEq, Nat.reduceLT, Nat.reduceEqDiff, reduceIte, reduceCtorEq, Nat.reduceMul, Nat.reduceAdd, Nat.reduceSub, Int.reduceEq, Int.reduceLT, Int.reduceLE, Int.reduceNeg, Int.reduceAdd, Int.reduceSub, Int.reduceMul, Nat.reduceLeDiff, Int.reduceToNat]) | ((repeat ((fail_if_success with_reducible refine hK _ _ ?_); clear hK K)); (with_reducible refine hK _ _ ?_); clear hK K))))
    refine (len_s hw13).mono ?_
    intro v w' ⟨hv, hw⟩
    subst hv; subst w'
    ((repeat simp only [push_cast, Nat.reduceBEq, Nat.reduceLT, Nat.reduceEqDiff, reduceIte, reduceCtorEq, Nat.reduceMul, Nat.reduceAdd, Nat.reduceSub, Int.reduceEq, Int.reduceLT, Int.reduceLE, Int.reduceNeg, Int.reduceAdd, Int.reduceSub, Int.reduceMul, Nat.reduceLeDiff, Int.reduceToNat, eq_self, show (pS 2).length = 2 from rfl]); (repeat (first | (with_reducible first | (refine hK _ _ ?_; clear hK K) | refine (show ∀ σ' w', _ → K σ' w' from by assumption) _ _ ?_ | refine W_seq_k fun K hK => ?_ | refine W_block_k fun K hK => ?_ | refine W_skip ?_ | refine W_ret ?_) | ((first | ((with_reducible refine W_id ?_); refine W_reg (by decide) (by rfl) ?_) | (with_reducible first | refine W_cond ?_ | refine hZ _ _ ?_ | refine W_exit ?_ | refine Wo_id ?_)); repeat1' simp only [push_cast, Nat.reduceBEq, Nat.reduceLT, Nat.reduceEqDiff, reduceIte, reduceCtorEq, Nat.reduceMul, Nat.reduceAdd, Nat.reduceSub, Int.reduceEq, Int.reduceLT, Int.reduceLE, Int.reduceNeg, Int.reduceAdd, Int.reduceSub, Int.reduceMul, Nat.reduceLeDiff, Int.reduceToNat, eq_self, show (pS 2).length = 2 from rfl]) | ((repeat ((fail_if_success with_reducible refine hK _ _ ?_); clear hK K)); (with_reducible refine hK _ _ ?_); clear hK K))))
    refine (top_s hw13 (by decide)).mono ?_
    intro v w' ⟨hv, hw⟩
    subst hv; subst w'
    ((repeat simp only [push_cast, Nat.reduceBEq, Nat.reduceLT, Nat.reduceEqDiff, reduceIte, reduceCtorEq, Nat.reduceMul, Nat.reduceAdd, Nat.reduceSub, Int.reduceEq, Int.reduceLT, Int.reduceLE, Int.reduceNeg, Int.reduceAdd, Int.reduceSub, Int.reduceMul, Nat.reduceLeDiff, Int.reduceToNat, eq_self, show topS (pS 2) = 2 from by kernel_rfl]); (repeat (first | (with_reducible first | (refine hK _ _ ?_; clear hK K) | refine (show ∀ σ' w', _ → K σ' w' from by assumption) _ _ ?_ | refine W_seq_k fun K hK => ?_ | refine W_block_k fun K hK => ?_ | refine W_skip ?_ | refine W_ret ?_) | ((first | ((with_reducible refine W_id ?_); refine W_reg (by decide) (by rfl) ?_) | (with_reducible first | refine W_cond ?_ | refine hZ _ _ ?_ | refine W_exit ?_ | refine Wo_id ?_)); repeat1' simp only [push_cast, Nat.reduceBEq, Nat.reduceLT, Nat.reduceEqDiff, reduceIte, reduceCtorEq, Nat.reduceMul, Nat.reduceAdd, Nat.reduceSub, Int.reduceEq, Int.reduceLT, Int.reduceLE, Int.reduceNeg, Int.reduceAdd, Int.reduceSub, Int.reduceMul, Nat.reduceLeDiff, Int.reduceToNat, eq_self, show topS (pS 2) = 2 from by kernel_rfl]) | ((repeat ((fail_if_success with_reducible refine hK _ _ ?_); clear hK K)); (with_reducible refine hK _ _ ?_); clear hK K))))
    refine (at_s hw13 0).mono ?_
    intro v w' ⟨hv, hw⟩
    subst hv; subst w'
    ((repeat simp only [push_cast, Nat.reduceBEq, Nat.reduceLT, Nat.reduceEqDiff, reduceIte, reduceCtorEq, Nat.reduceMul, Nat.reduceAdd, Nat.reduceSub, Int.reduceEq, Int.reduceLT, Int.reduceLE, Int.reduceNeg, Int.reduceAdd, Int.reduceSub, Int.reduceMul, Nat.reduceLeDiff, Int.reduceToNat, eq_self, show atS (pS 2) 0 = 1 from by kernel_rfl]); (repeat (first | (with_reducible first | (refine hK _ _ ?_; clear hK K) | refine (show ∀ σ' w', _ → K σ' w' from by assumption) _ _ ?_ | refine W_seq_k fun K hK => ?_ | refine W_block_k fun K hK => ?_ | refine W_skip ?_ | refine W_ret ?_) | ((first | ((with_reducible refine W_id ?_); refine W_reg (by decide) (by rfl) ?_) | (with_reducible first | refine W_cond ?_ | refine hZ _ _ ?_ | refine W_exit ?_ | refine Wo_id ?_)); repeat1' simp only [push_cast, Nat.reduceBEq, Nat.reduceLT, Nat.reduceEqDiff, reduceIte, reduceCtorEq, Nat.reduceMul, Nat.reduceAdd, Nat.reduceSub, Int.reduceEq, Int.reduceLT, Int.reduceLE, Int.reduceNeg, Int.reduceAdd, Int.reduceSub, Int.reduceMul, Nat.reduceLeDiff, Int.reduceToNat, eq_self, show atS (pS 2) 0 = 1 from by kernel_rfl]) | ((repeat ((fail_if_success with_reducible refine hK _ _ ?_); clear hK K)); (with_reducible refine hK _ _ ?_); clear hK K))))
    refine (spop_c hw13 (by decide)).mono ?_
    rintro v w14 ⟨rfl, hw14, _⟩
    ((repeat simp only [push_cast, Nat.reduceBEq, Nat.reduceLT, Nat.reduceEqDiff, reduceIte, reduceCtorEq, Nat.reduceMul, Nat.reduceAdd, Nat.reduceSub, Int.reduceEq, Int.reduceLT, Int.reduceLE, Int.reduceNeg, Int.reduceAdd, Int.reduceSub, Int.reduceMul, Nat.reduceLeDiff, Int.reduceToNat, eq_self, show topS (pS 2) = 2 from by kernel_rfl]); (repeat (first | (with_reducible first | (refine hK _ _ ?_; clear hK K) | refine (show ∀ σ' w', _ → K σ' w' from by assumption) _ _ ?_ | refine W_seq_k fun K hK => ?_ | refine W_block_k fun K hK => ?_ | refine W_skip ?_ | refine W_ret ?_) | ((first | ((with_reducible refine W_id ?_); refine W_reg (by decide) (by rfl) ?_) | (with_reducible first | refine W_cond ?_ | refine hZ _ _ ?_ | refine W_exit ?_ | refine Wo_id ?_)); repeat1' simp only [push_cast, Nat.reduceBEq, Nat.reduceLT, Nat.reduceEqDiff, reduceIte, reduceCtorEq, Nat.reduceMul, Nat.reduceAdd, Nat.reduceSub, Int.reduceEq, Int.reduceLT, Int.reduceLE, Int.reduceNeg, Int.reduceAdd, Int.reduceSub, Int.reduceMul, Nat.reduceLeDiff, Int.reduceToNat, eq_self, show topS (pS 2) = 2 from by kernel_rfl]) | ((repeat ((fail_if_success with_reducible refine hK _ _ ?_); clear hK K)); (with_reducible refine hK _ _ ?_); clear hK K))))
    refine (index_s hw14 (by decide) 2).mono ?_
    intro v w' ⟨hv, hw⟩
    subst hv; subst w'
    ((repeat simp only [push_cast, Nat.reduceBEq, Nat.reduceLT, Nat.reduceEqDiff, reduceIte, reduceCtorEq, Nat.reduceMul, Nat.reduceAdd, Nat.reduceSub, Int.reduceEq, Int.reduceLT, Int.reduceLE, Int.reduceNeg, Int.reduceAdd, Int.reduceSub, Int.reduceMul, Nat.reduceLeDiff, Int.reduceToNat, eq_self, show indexS (pS 2).dropLast 2 = -1 from by kernel_rfl]); (repeat (first | (with_reducible first | (refine hK _ _ ?_; clear hK K) | refine (show ∀ σ' w', _ → K σ' w' from by assumption) _ _ ?_ | refine W_seq_k fun K hK => ?_ | refine W_block_k fun K hK => ?_ | refine W_skip ?_ | refine W_ret ?_) | ((first | ((with_reducible refine W_id ?_); refine W_reg (by decide) (by rfl) ?_) | (with_reducible first | refine W_cond ?_ | refine hZ _ _ ?_ | refine W_exit ?_ | refine Wo_id ?_)); repeat1' simp only [push_cast, Nat.reduceBEq, Nat.reduceLT, Nat.reduceEqDiff, reduceIte, reduceCtorEq, Nat.reduceMul, Nat.reduceAdd, Nat.reduceSub, Int.reduceEq, Int.reduceLT, Int.reduceLE, Int.reduceNeg, Int.reduceAdd, Int.reduceSub, Int.reduceMul, Nat.reduceLeDiff, Int.reduceToNat, eq_self, show indexS (pS 2).dropLast 2 = -1 from by kernel_rfl]) | ((repeat ((fail_if_success with_reducible refine hK _ _ ?_); clear hK K)); (with_reducible refine hK _ _ ?_); clear hK K))))
    exact hw14.out
end
end Go.Proofs.YtkafpameheohdaaDoor
end
section
set_option linter.unusedSimpArgs false
set_option linter.unusedVariables false
namespace Go.Vk
open Go
def nmL : List ByteArray := [⟨#[104, 116, 109, 108]⟩, ⟨#[98, 111, 100, 121]⟩, ⟨#[112]⟩, ⟨#[100, 105, 118]⟩, ⟨#[97]⟩, ⟨#[98]⟩, ⟨#[116, 97, 98, 108, 101]⟩, ⟨#[116, 98, 111, 100, 121]⟩, ⟨#[116, 114]⟩, ⟨#[116, 100]⟩, ⟨#[116, 104]⟩, ⟨#[99, 97, 112, 116, 105, 111, 110]⟩, ⟨#[116, 101, 109, 112, 108, 97, 116, 101]⟩, ⟨#[108, 105]⟩, ⟨#[117, 108]⟩, ⟨#[111, 108]⟩, ⟨#[98, 117, 116, 116, 111, 110]⟩, ⟨#[111, 112, 116, 105, 111, 110]⟩, ⟨#[111, 112, 116, 103, 114, 111, 117, 112]⟩, ⟨#[114, 116]⟩, ⟨#[100, 100]⟩, ⟨#[100, 116]⟩, ⟨#[111, 98, 106, 101, 99, 116]⟩, ⟨#[109, 105]⟩, ⟨#[116, 105, 116, 108, 101]⟩, ⟨#[100, 101, 115, 99]⟩, ⟨#[102, 111, 114, 101, 105, 103, 110, 111, 98, 106, 101, 99, 116]⟩, ⟨#[115, 101, 108, 101, 99, 116]⟩, ⟨#[115, 112, 97, 110]⟩, ⟨#[101, 109]⟩]
def nmT (n : Nat) : ByteArray := nmL.getD (n % 30) ⟨#[]⟩
theorem nmT_mem (n : Nat) : nmT n ∈ nmL := by
  have h : n % 30 < nmL.length := Nat.mod_lt n (by decide)
  unfold nmT
  rw [List.getD, List.getElem?_eq_getElem h]
  exact List.getElem_mem h
theorem nmT_get (n : Nat) : (nmL.map Value.string)[n % 30]? = some (.string (nmT n)) := by
  have h : n % 30 < nmL.length := Nat.mod_lt n (by decide)
  unfold nmT
  rw [List.getElem?_map, List.getD, List.getElem?_eq_getElem h]; rfl
end Go.Vk
namespace Go.Proofs.YtkafpameheohdaaDoor
open Go Go.Vk
set_option maxHeartbeats 40000000
theorem name_c {w : World} (n : Nat) (hn : n < 256) : Gives Tryd.prog 18 #[.int .u8 (n : Int)] w fun v w' => v = .string (nmT n) ∧ Ext w w' := by
  have ax : IntKind.i64.wrap (n : Int) = n := wrap_in (by unfold inI64; omega)
  have ar : ((n : Int).tmod 30) = ((n % 30 : Nat) : Int) := by rw [Int.tmod_eq_emod_of_nonneg (by omega)]; omega
  have n30 : ¬ ((30 : Int) = 0) := by omega
  have b1 : inI64 (((n % 30 : Nat) : Int)) := by unfold inI64; omega
  have b2 : (0 : Int) ≤ ((n % 30 : Nat) : Int) := by omega
  have b3 : ((n % 30 : Nat) : Int) < 30 := by omega
  have hg := nmT_get n
  generalize n % 30 = q at *
  refine Gives.of_W Tryd.call18 Tryd.func18 rfl Tryd.ntmps18 (by simp) ?_; intro Z hZ
  (repeat (first | (with_reducible first | (refine hK _ _ ?_; clear hK K) | refine (show ∀ σ' w', _ → K σ' w' from by assumption) _ _ ?_ | refine W_seq_k fun K hK => ?_ | refine W_block_k fun K hK => ?_ | refine W_skip ?_ | refine W_ret ?_) | ((first | ((with_reducible refine W_id ?_); refine W_reg (by decide) (by rfl) ?_) | (with_reducible first | refine W_cond ?_ | refine hZ _ _ ?_ | refine W_exit ?_ | refine Wo_id ?_)); repeat1' simp only [push_cast, Nat.reduceBEq, Nat.reduceLT, Nat.reduceEqDiff, reduceIte, reduceCtorEq, Nat.reduceMul, Nat.reduceAdd, Nat.reduceSub, Int.reduceEq, Int.reduceLT, Int.reduceLE, Int.reduceNeg, Int.reduceAdd, Int.reduceSub, Int.reduceMul, Nat.reduceLeDiff, Int.reduceToNat]) | ((repeat ((fail_if_success with_reducible refine hK _ _ ?_); clear hK K)); (with_reducible refine hK _ _ ?_); clear hK K)))
  refine build_arr Tryd.zeroValue84 Tryd.underlying84 Tryd.sizeOf9 (cs := #[.string ⟨#[104, 116, 109, 108]⟩, .string ⟨#[98, 111, 100, 121]⟩, .string ⟨#[112]⟩, .string ⟨#[100, 105, 118]⟩, .string ⟨#[97]⟩, .string ⟨#[98]⟩, .string ⟨#[116, 97, 98, 108, 101]⟩, .string ⟨#[116, 98, 111, 100, 121]⟩, .string ⟨#[116, 114]⟩, .string ⟨#[116, 100]⟩, .string ⟨#[116, 104]⟩, .string ⟨#[99, 97, 112, 116, 105, 111, 110]⟩, .string ⟨#[116, 101, 109, 112, 108, 97, 116, 101]⟩, .string ⟨#[108, 105]⟩, .string ⟨#[117, 108]⟩, .string ⟨#[111, 108]⟩, .string ⟨#[98, 117, 116, 116, 111, 110]⟩, .string ⟨#[111, 112, 116, 105, 111, 110]⟩, .string ⟨#[111, 112, 116, 103, 114, 111, 117, 112]⟩, .string ⟨#[114, 116]⟩, .string ⟨#[100, 100]⟩, .string ⟨#[100, 116]⟩, .string ⟨#[111, 98, 106, 101, 99, 116]⟩, .string ⟨#[109, 105]⟩, .string ⟨#[116, 105, 116, 108, 101]⟩, .string ⟨#[100, 101, 115, 99]⟩, .string ⟨#[102, 111, 114, 101, 105, 103, 110, 111, 98, 106, 101, 99, 116]⟩, .string ⟨#[115, 101, 108, 101, 99, 116]⟩, .string ⟨#[115, 112, 97, 110]⟩, .string ⟨#[101, 109]⟩]) (by rfl) ?_
  (repeat simp only [push_cast, Nat.reduceBEq, Nat.reduceLT, Nat.reduceEqDiff, reduceIte, reduceCtorEq, Nat.reduceMul, Nat.reduceAdd, Nat.reduceSub, Int.reduceEq, Int.reduceLT, Int.reduceLE, Int.reduceNeg, Int.reduceAdd, Int.reduceSub, Int.reduceMul, Nat.reduceLeDiff, Int.reduceToNat, RunV_zero Tryd.zeroValue84])
  simp only [vcells_agg, can_h, heap_alloc_h, if_true, canO_cells, List.size_toArray, List.length_cons, List.length_nil, Nat.zero_add, Nat.reduceAdd, Nat.reduceLT, true_and]
  have z1 : (w.alloc (.cells #[.string ⟨#[]⟩, .string ⟨#[]⟩, .string ⟨#[]⟩, .string ⟨#[]⟩, .string ⟨#[]⟩, .string ⟨#[]⟩, .string ⟨#[]⟩, .string ⟨#[]⟩, .string ⟨#[]⟩, .string ⟨#[]⟩, .string ⟨#[]⟩, .string ⟨#[]⟩, .string ⟨#[]⟩, .string ⟨#[]⟩, .string ⟨#[]⟩, .string ⟨#[]⟩, .string ⟨#[]⟩, .string ⟨#[]⟩, .string ⟨#[]⟩, .string ⟨#[]⟩, .string ⟨#[]⟩, .string ⟨#[]⟩, .string ⟨#[]⟩, .string ⟨#[]⟩, .string ⟨#[]⟩, .string ⟨#[]⟩, .string ⟨#[]⟩, .string ⟨#[]⟩, .string ⟨#[]⟩, .string ⟨#[]⟩] 84)).heap[w.heap.size]? = some (.cells #[.string ⟨#[]⟩, .string ⟨#[]⟩, .string ⟨#[]⟩, .string ⟨#[]⟩, .string ⟨#[]⟩, .string ⟨#[]⟩, .string ⟨#[]⟩, .string ⟨#[]⟩, .string ⟨#[]⟩, .string ⟨#[]⟩, .string ⟨#[]⟩, .string ⟨#[]⟩, .string ⟨#[]⟩, .string ⟨#[]⟩, .string ⟨#[]⟩, .string ⟨#[]⟩, .string ⟨#[]⟩, .string ⟨#[]⟩, .string ⟨#[]⟩, .string ⟨#[]⟩, .string ⟨#[]⟩, .string ⟨#[]⟩, .string ⟨#[]⟩, .string ⟨#[]⟩, .string ⟨#[]⟩, .string ⟨#[]⟩, .string ⟨#[]⟩, .string ⟨#[]⟩, .string ⟨#[]⟩, .string ⟨#[]⟩] 84 (0, 0)) := by rw [heap_alloc_h, if_pos rfl]
  have hpn := setCells_all z1 (l := [.string ⟨#[104, 116, 109, 108]⟩, .string ⟨#[98, 111, 100, 121]⟩, .string ⟨#[112]⟩, .string ⟨#[100, 105, 118]⟩, .string ⟨#[97]⟩, .string ⟨#[98]⟩, .string ⟨#[116, 97, 98, 108, 101]⟩, .string ⟨#[116, 98, 111, 100, 121]⟩, .string ⟨#[116, 114]⟩, .string ⟨#[116, 100]⟩, .string ⟨#[116, 104]⟩, .string ⟨#[99, 97, 112, 116, 105, 111, 110]⟩, .string ⟨#[116, 101, 109, 112, 108, 97, 116, 101]⟩, .string ⟨#[108, 105]⟩, .string ⟨#[117, 108]⟩, .string ⟨#[111, 108]⟩, .string ⟨#[98, 117, 116, 116, 111, 110]⟩, .string ⟨#[111, 112, 116, 105, 111, 110]⟩, .string ⟨#[111, 112, 116, 103, 114, 111, 117, 112]⟩, .string ⟨#[114, 116]⟩, .string ⟨#[100, 100]⟩, .string ⟨#[100, 116]⟩, .string ⟨#[111, 98, 106, 101, 99, 116]⟩, .string ⟨#[109, 105]⟩, .string ⟨#[116, 105, 116, 108, 101]⟩, .string ⟨#[100, 101, 115, 99]⟩, .string ⟨#[102, 111, 114, 101, 105, 103, 110, 111, 98, 106, 101, 99, 116]⟩, .string ⟨#[115, 101, 108, 101, 99, 116]⟩, .string ⟨#[115, 112, 97, 110]⟩, .string ⟨#[101, 109]⟩]) rfl
  have hx4 : Ext w (setCells (w.alloc (.cells #[.string ⟨#[]⟩, .string ⟨#[]⟩, .string ⟨#[]⟩, .string ⟨#[]⟩, .string ⟨#[]⟩, .string ⟨#[]⟩, .string ⟨#[]⟩, .string ⟨#[]⟩, .string ⟨#[]⟩, .string ⟨#[]⟩, .string ⟨#[]⟩, .string ⟨#[]⟩, .string ⟨#[]⟩, .string ⟨#[]⟩, .string ⟨#[]⟩, .string ⟨#[]⟩, .string ⟨#[]⟩, .string ⟨#[]⟩, .string ⟨#[]⟩, .string ⟨#[]⟩, .string ⟨#[]⟩, .string ⟨#[]⟩, .string ⟨#[]⟩, .string ⟨#[]⟩, .string ⟨#[]⟩, .string ⟨#[]⟩, .string ⟨#[]⟩, .string ⟨#[]⟩, .string ⟨#[]⟩, .string ⟨#[]⟩] 84)) ⟨w.heap.size, 0, none⟩ [.string ⟨#[104, 116, 109, 108]⟩, .string ⟨#[98, 111, 100, 121]⟩, .string ⟨#[112]⟩, .string ⟨#[100, 105, 118]⟩, .string ⟨#[97]⟩, .string ⟨#[98]⟩, .string ⟨#[116, 97, 98, 108, 101]⟩, .string ⟨#[116, 98, 111, 100, 121]⟩, .string ⟨#[116, 114]⟩, .string ⟨#[116, 100]⟩, .string ⟨#[116, 104]⟩, .string ⟨#[99, 97, 112, 116, 105, 111, 110]⟩, .string ⟨#[116, 101, 109, 112, 108, 97, 116, 101]⟩, .string ⟨#[108, 105]⟩, .string ⟨#[117, 108]⟩, .string ⟨#[111, 108]⟩, .string ⟨#[98, 117, 116, 116, 111, 110]⟩, .string ⟨#[111, 112, 116, 105, 111, 110]⟩, .string ⟨#[111, 112, 116, 103, 114, 111, 117, 112]⟩, .string ⟨#[114, 116]⟩, .string ⟨#[100, 100]⟩, .string ⟨#[100, 116]⟩, .string ⟨#[111, 98, 106, 101, 99, 116]⟩, .string ⟨#[109, 105]⟩, .string ⟨#[116, 105, 116, 108, 101]⟩, .string ⟨#[100, 101, 115, 99]⟩, .string ⟨#[102, 111, 114, 101, 105, 103, 110, 111, 98, 106, 101, 99, 116]⟩, .string ⟨#[115, 101, 108, 101, 99, 116]⟩, .string ⟨#[115, 112, 97, 110]⟩, .string ⟨#[101, 109]⟩] 0) := Upd.trans (Ext.alloc w _) (Upd.setCells (F := fun b => b = w.heap.size) (a := ⟨w.heap.size, 0, none⟩) _ rfl _ 0) fun i hi e => by omega
  generalize setCells (w.alloc (.cells #[.string ⟨#[]⟩, .string ⟨#[]⟩, .string ⟨#[]⟩, .string ⟨#[]⟩, .string ⟨#[]⟩, .string ⟨#[]⟩, .string ⟨#[]⟩, .string ⟨#[]⟩, .string ⟨#[]⟩, .string ⟨#[]⟩, .string ⟨#[]⟩, .string ⟨#[]⟩, .string ⟨#[]⟩, .string ⟨#[]⟩, .string ⟨#[]⟩, .string ⟨#[]⟩, .string ⟨#[]⟩, .string ⟨#[]⟩, .string ⟨#[]⟩, .string ⟨#[]⟩, .string ⟨#[]⟩, .string ⟨#[]⟩, .string ⟨#[]⟩, .string ⟨#[]⟩, .string ⟨#[]⟩, .string ⟨#[]⟩, .string ⟨#[]⟩, .string ⟨#[]⟩, .string ⟨#[]⟩, .string ⟨#[]⟩] 84)) ⟨w.heap.size, 0, none⟩ [.string ⟨#[104, 116, 109, 108]⟩, .string ⟨#[98, 111, 100, 121]⟩, .string ⟨#[112]⟩, .string ⟨#[100, 105, 118]⟩, .string ⟨#[97]⟩, .string ⟨#[98]⟩, .string ⟨#[116, 97, 98, 108, 101]⟩, .string ⟨#[116, 98, 111, 100, 121]⟩, .string ⟨#[116, 114]⟩, .string ⟨#[116, 100]⟩, .string ⟨#[116, 104]⟩, .string ⟨#[99, 97, 112, 116, 105, 111, 110]⟩, .string ⟨#[116, 101, 109, 112, 108, 97, 116, 101]⟩, .string ⟨#[108, 105]⟩, .string ⟨#[117, 108]⟩, .string ⟨#[111, 108]⟩, .string ⟨#[98, 117, 116, 116, 111, 110]⟩, .string ⟨#[111, 112, 116, 105, 111, 110]⟩, .string ⟨#[111, 112, 116, 103, 114, 111, 117, 112]⟩, .string ⟨#[114, 116]⟩, .string ⟨#[100, 100]⟩, .string ⟨#[100, 116]⟩, .string ⟨#[111, 98, 106, 101, 99, 116]⟩, .string ⟨#[109, 105]⟩, .string ⟨#[116, 105, 116, 108, 101]⟩, .string ⟨#[100, 101, 115, 99]⟩, .string ⟨#[102, 111, 114, 101, 105, 103, 110, 111, 98, 106, 101, 99, 116]⟩, .string ⟨#[115, 101, 108, 101, 99, 116]⟩, .string ⟨#[115, 112, 97, 110]⟩, .string ⟨#[101, 109]⟩] 0 = w4 at *
  have hc : cellO (w4.heap[w.heap.size]?) q = some (.string (nmT n)) := by
    rw [hpn, cellO_cells]
    rw [← Array.getElem?_toList]
    exact hg
  ((repeat simp only [push_cast, Nat.reduceBEq, Nat.reduceLT, Nat.reduceEqDiff, reduceIte, reduceCtorEq, Nat.reduceMul, Nat.reduceAdd, Nat.reduceSub, Int.reduceEq, Int.reduceLT, Int.reduceLE, Int.reduceNeg, Int.reduceAdd, Int.reduceSub, Int.reduceMul, Nat.reduceLeDiff, Int.reduceToNat, ax, ar, n30, b1, b2, b3, cell_h, hc]); (repeat (first | (with_reducible first | (refine hK _ _ ?_; clear hK K) | refine (show ∀ σ' w', _ → K σ' w' from by assumption) _ _ ?_ | refine W_seq_k fun K hK => ?_ | refine W_block_k fun K hK => ?_ | refine W_skip ?_ | refine W_ret ?_) | ((first | ((with_reducible refine W_id ?_); refine W_reg (by decide) (by rfl) ?_) | (with_reducible first | refine W_cond ?_ | refine hZ _ _ ?_ | refine W_exit ?_ | refine Wo_id ?_)); repeat1' simp only [push_cast, Nat.reduceBEq, Nat.reduceLT, Nat.reduceEqDiff, reduceIte, reduceCtorEq, Nat.reduceMul, Nat.reduceAdd, Nat.reduceSub, Int.reduceEq, Int.reduceLT, Int.reduceLE, Int.reduceNeg, Int.reduceAdd, Int.reduceSub, Int.reduceMul, Nat.reduceLeDiff, Int.reduceToNat, ax, ar, n30, b1, b2, b3, cell_h, hc]) | ((repeat ((fail_if_success with_reducible refine hK _ _ ?_); clear hK K)); (with_reducible refine hK _ _ ?_); clear hK K))))
  exact hx4
end Go.Proofs.YtkafpameheohdaaDoor
end
section
set_option linter.unusedSimpArgs false
set_option linter.unusedVariables false
namespace Go.Vk
open Go
/-- an element of a kit -/
def kitN (l2 : List Nat) (i c : Nat) : Nd := { zN with kind := 3, name := nmT c, space := if i < l2.length ∧ 1 < l2.getD i 0 % 4 then ((l2.getD i 0 % 4 : Nat) : Int) - 1 else 0 }
def kitLd (l2 : List Nat) (i c : Nat) : Laid := ⟨kitN l2 i c, .slice none 0 0, .slice none 0 0, none, none⟩
def tN : Nd := { zN with kind := 4, text := ⟨#[116]⟩ }
def cN : Nd := { zN with kind := 5, text := ⟨#[99]⟩ }
def kitK (l2 : List Nat) : List Nat → Nat → List Nd → List Nd
  | [], _, L => L
  | c :: r, i, L => kitK l2 r (i + 1) (addN L (kitN l2 i c)).1
def kit0 : List Nd := [docN, bareN tN, bareN cN]
def kitL (l1 l2 : List Nat) : List Nd := kitK l2 l1 0 kit0
theorem kitK_snoc (l2 : List Nat) (x : Nat) : ∀ (r : List Nat) (i : Nat) (L : List Nd), kitK l2 (r ++ [x]) i L = (addN (kitK l2 r i L) (kitN l2 (i + r.length) x)).1
  | [], i, L => rfl
  | c :: r, i, L => by
    rw [List.cons_append, kitK, kitK_snoc l2 x r]
    simp only [kitK, List.length_cons]
    rw [show i + 1 + r.length = i + (r.length + 1) by omega]
theorem kitL_take {l1 l2 : List Nat} {k c : Nat} (h : l1[k]? = some c) : kitL (l1.take (k + 1)) l2 = (addN (kitL (l1.take k) l2) (kitN l2 k c)).1 := by
  have hk := (List.getElem?_eq_some_iff.1 h).1
  unfold kitL
  rw [List.take_add_one, h, Option.toList_some, kitK_snoc, List.length_take, Nat.zero_add, Nat.min_eq_left (by omega)]
theorem addN_len (L : List Nd) (n : Nd) : (addN L n).1.length ≤ L.length + 2 := by
  unfold addN
  split
  · split <;> simp
  · simp
theorem kitK_len (l2 : List Nat) : ∀ (r : List Nat) (i : Nat) (L : List Nd), (kitK l2 r i L).length ≤ L.length + 2 * r.length
  | [], _, L => by simp [kitK]
  | c :: r, i, L => by
    have h1 := kitK_len l2 r (i + 1) (addN L (kitN l2 i c)).1
    have h2 := addN_len L (kitN l2 i c)
    rw [kitK, List.length_cons]; omega
theorem kitL_len (l1 l2 : List Nat) : (kitL l1 l2).length ≤ 3 + 2 * l1.length := kitK_len l2 l1 0 kit0
end Go.Vk
end
section
set_option linter.unusedSimpArgs false
set_option linter.unusedVariables false
namespace Go.Vk
open Go
theorem build_arrW {P : Program} {t e n es : Nat} {z : Value} (hz : ∀ w, (zeroValue t).run P w = .ok z w) (hu : P.underlying t = some (.array n e)) (hs : ∀ w, (sizeOf e).run P w = .ok es w)
    {parts : List (Nat × Value)} {cs : Array Value} (hf : Instr.fill (fun i => some (i * es, es)) z.cells parts = some cs) {w : World} {K : Value → World → Prop} (h : K (.agg cs) w) : Pure1 P (Instr.build t parts.toArray) w K := by
  refine ⟨_, fun w => ?_, h⟩
  simp only [Instr.build, Sem.run_bind, hz w, Result.andThen, run_underlying hu w, hs w, hf]
  rfl
theorem At.base {w0 w1 w : World} {P P' : Nat → Prop} {pa : Nat} {L : List Nd} (h : At w1 w P pa L) (hx : Ext w0 w1) (hP : ∀ b, P' b → P b ∨ b < w1.heap.size) : At w0 w P' pa L :=
  ⟨h.ar.mono fun b _ hf => ⟨Nat.le_trans hx.alike.size hf.1, fun hp => by
    rcases hP b hp with h | h
    · exact hf.2 h
    · have := hf.1; omega⟩, h.gd, hx.trans h.ext, fun b hp => by
    rcases hP b hp with h' | h'
    · exact h.low b h'
    · have := h.ext.alike.size; omega⟩
def kitM (k : Nat) : Laid := ⟨if k = 0 then tN else cN, .slice none 0 0, .slice none 0 0, none, none⟩
theorem kit0_add {k : Nat} (hk : k < 2) : addN (kit0.take (k + 1)) (kitM k).nd = (kit0.take (k + 2), (k : Int) + 1) := by
  obtain rfl | rfl : k = 0 ∨ k = 1 := by omega
  all_goals rfl
end Go.Vk
namespace Go.Proofs.YtkafpameheohdaaDoor
open Go Go.Vk
set_option maxHeartbeats 40000000
theorem made15_c {w : World} {v1 v2 : Value} {l1 l2 : List Nat} (h1 : RdAt w 1 v1 (u8Cells l1)) (h2 : RdAt w 1 v2 (u8Cells l2)) (hl1 : l1.length < 1000) (b1 : ∀ c ∈ l1, c < 256) (b2 : ∀ c ∈ l2, c < 256) (hl2 : l2.length < 1000000) :
    Gives Tryd.prog 30 #[.agg #[v1, v2]] w fun v w' => ∃ pa pb, v = .tuple #[.pointer (some ⟨pa, 0, none⟩), .pointer (some ⟨pb, 0, none⟩)] ∧ Half w w' noP pa pb (kitL l1 l2) (kitL l1 l2) := by
  obtain ⟨a1, c1, rfl, hc1, hcell1⟩ := u8_len h1
  obtain ⟨a2, c2, rfl, hc2, hcell2⟩ := u8_len h2
  refine Gives.of_W Tryd.call30 Tryd.func30 rfl Tryd.ntmps30 (by simp) ?_; intro Z hZ
  (repeat (first | (with_reducible first | (refine hK _ _ ?_; clear hK K) | refine (show ∀ σ' w', _ → K σ' w' from by assumption) _ _ ?_ | refine W_seq_k fun K hK => ?_ | refine W_block_k fun K hK => ?_ | refine W_skip ?_ | refine W_ret ?_) | ((first | ((with_reducible refine W_id ?_); refine W_reg (by decide) (by rfl) ?_) | (with_reducible first | refine W_cond ?_ | refine hZ _ _ ?_ | refine W_exit ?_ | refine Wo_id ?_)); repeat1' simp only [push_cast, Nat.reduceBEq, Nat.reduceLT, Nat.reduceEqDiff, reduceIte, reduceCtorEq, Nat.reduceMul, Nat.reduceAdd, Nat.reduceSub, Int.reduceEq, Int.reduceLT, Int.reduceLE, Int.reduceNeg, Int.reduceAdd, Int.reduceSub, Int.reduceMul, Nat.reduceLeDiff, Int.reduceToNat, vcells_agg]) | ((repeat ((fail_if_success with_reducible refine hK _ _ ?_); clear hK K)); (with_reducible refine hK _ _ ?_); clear hK K)))
  have hx1 := Ext.alloc w (.cells #[.slice a1 l1.length c1, .slice a2 l2.length c2] 24)
  have z1 : (w.alloc (.cells #[.slice a1 l1.length c1, .slice a2 l2.length c2] 24)).heap[w.heap.size]? = some (.cells #[.slice a1 l1.length c1, .slice a2 l2.length c2] 24 (0, 0)) := by rw [heap_alloc_h, if_pos rfl]
  generalize w.alloc (.cells #[.slice a1 l1.length c1, .slice a2 l2.length c2] 24) = w1 at *
  obtain ⟨p1, hp1⟩ : ∃ p1, p1 = w.heap.size := ⟨_, rfl⟩
  rw [← hp1] at z1 ⊢
  refine new_a.mono ?_
  rintro v w2 ⟨pa, rfl, hA2⟩
  refine rnew_c.mono ?_
  rintro v w3 ⟨pb, rfl, hB3, hx3⟩
  ((repeat simp only [push_cast, Nat.reduceBEq, Nat.reduceLT, Nat.reduceEqDiff, reduceIte, reduceCtorEq, Nat.reduceMul, Nat.reduceAdd, Nat.reduceSub, Int.reduceEq, Int.reduceLT, Int.reduceLE, Int.reduceNeg, Int.reduceAdd, Int.reduceSub, Int.reduceMul, Nat.reduceLeDiff, Int.reduceToNat]); (repeat (first | (with_reducible first | (refine hK _ _ ?_; clear hK K) | refine (show ∀ σ' w', _ → K σ' w' from by assumption) _ _ ?_ | refine W_seq_k fun K hK => ?_ | refine W_block_k fun K hK => ?_ | refine W_skip ?_ | refine W_ret ?_) | ((first | ((with_reducible refine W_id ?_); refine W_reg (by decide) (by rfl) ?_) | (with_reducible first | refine W_cond ?_ | refine hZ _ _ ?_ | refine W_exit ?_ | refine Wo_id ?_)); repeat1' simp only [push_cast, Nat.reduceBEq, Nat.reduceLT, Nat.reduceEqDiff, reduceIte, reduceCtorEq, Nat.reduceMul, Nat.reduceAdd, Nat.reduceSub, Int.reduceEq, Int.reduceLT, Int.reduceLE, Int.reduceNeg, Int.reduceAdd, Int.reduceSub, Int.reduceMul, Nat.reduceLeDiff, Int.reduceToNat]) | ((repeat ((fail_if_success with_reducible refine hK _ _ ?_); clear hK K)); (with_reducible refine hK _ _ ?_); clear hK K))))
  refine build_struct Tryd.zeroValue49 un30 pl30 (cs := #[.int .i64 4, .string ⟨#[]⟩, .string ⟨#[116]⟩, .int .i64 0, .slice none 0 0, .bool false, .int .i64 0, .int .i64 0, .slice none 0 0, .int .i64 0, .int .i64 0]) (by rfl) ?_
  refine build_struct Tryd.zeroValue49 un30 pl30 (cs := #[.int .i64 5, .string ⟨#[]⟩, .string ⟨#[99]⟩, .int .i64 0, .slice none 0 0, .bool false, .int .i64 0, .int .i64 0, .slice none 0 0, .int .i64 0, .int .i64 0]) (by rfl) ?_
  refine build_arrW Tryd.zeroValue94 Tryd.underlying94 Tryd.sizeOf49 (cs := #[.int .i64 4, .string ⟨#[]⟩, .string ⟨#[116]⟩, .int .i64 0, .slice none 0 0, .bool false, .int .i64 0, .int .i64 0, .slice none 0 0, .int .i64 0, .int .i64 0, .int .i64 5, .string ⟨#[]⟩, .string ⟨#[99]⟩, .int .i64 0, .slice none 0 0, .bool false, .int .i64 0, .int .i64 0, .slice none 0 0, .int .i64 0, .int .i64 0]) (by rfl) ?_
  (repeat simp only [push_cast, Nat.reduceBEq, Nat.reduceLT, Nat.reduceEqDiff, reduceIte, reduceCtorEq, Nat.reduceMul, Nat.reduceAdd, Nat.reduceSub, Int.reduceEq, Int.reduceLT, Int.reduceLE, Int.reduceNeg, Int.reduceAdd, Int.reduceSub, Int.reduceMul, Nat.reduceLeDiff, Int.reduceToNat, RunV_zero Tryd.zeroValue94])
  simp only [vcells_agg, can_h, heap_alloc_h, if_true, canO_cells, List.size_toArray, List.length_cons, List.length_nil, Nat.zero_add, Nat.reduceAdd, Nat.reduceLT, true_and]
  have z6 : (w3.alloc (.cells #[.int .i64 0, .string ⟨#[]⟩, .string ⟨#[]⟩, .int .i64 0, .slice none 0 0, .bool false, .int .i64 0, .int .i64 0, .slice none 0 0, .int .i64 0, .int .i64 0, .int .i64 0, .string ⟨#[]⟩, .string ⟨#[]⟩, .int .i64 0, .slice none 0 0, .bool false, .int .i64 0, .int .i64 0, .slice none 0 0, .int .i64 0, .int .i64 0] 94)).heap[w3.heap.size]? = some (.cells #[.int .i64 0, .string ⟨#[]⟩, .string ⟨#[]⟩, .int .i64 0, .slice none 0 0, .bool false, .int .i64 0, .int .i64 0, .slice none 0 0, .int .i64 0, .int .i64 0, .int .i64 0, .string ⟨#[]⟩, .string ⟨#[]⟩, .int .i64 0, .slice none 0 0, .bool false, .int .i64 0, .int .i64 0, .slice none 0 0, .int .i64 0, .int .i64 0] 94 (0, 0)) := by rw [heap_alloc_h, if_pos rfl]
  have hp6 := setCells_all z6 (l := [.int .i64 4, .string ⟨#[]⟩, .string ⟨#[116]⟩, .int .i64 0, .slice none 0 0, .bool false, .int .i64 0, .int .i64 0, .slice none 0 0, .int .i64 0, .int .i64 0, .int .i64 5, .string ⟨#[]⟩, .string ⟨#[99]⟩, .int .i64 0, .slice none 0 0, .bool false, .int .i64 0, .int .i64 0, .slice none 0 0, .int .i64 0, .int .i64 0]) rfl
  have hx6 : Ext w3 (setCells (w3.alloc (.cells #[.int .i64 0, .string ⟨#[]⟩, .string ⟨#[]⟩, .int .i64 0, .slice none 0 0, .bool false, .int .i64 0, .int .i64 0, .slice none 0 0, .int .i64 0, .int .i64 0, .int .i64 0, .string ⟨#[]⟩, .string ⟨#[]⟩, .int .i64 0, .slice none 0 0, .bool false, .int .i64 0, .int .i64 0, .slice none 0 0, .int .i64 0, .int .i64 0] 94)) ⟨w3.heap.size, 0, none⟩ [.int .i64 4, .string ⟨#[]⟩, .string ⟨#[116]⟩, .int .i64 0, .slice none 0 0, .bool false, .int .i64 0, .int .i64 0, .slice none 0 0, .int .i64 0, .int .i64 0, .int .i64 5, .string ⟨#[]⟩, .string ⟨#[99]⟩, .int .i64 0, .slice none 0 0, .bool false, .int .i64 0, .int .i64 0, .slice none 0 0, .int .i64 0, .int .i64 0] 0) := Upd.trans (Ext.alloc w3 _) (Upd.setCells (F := fun b => b = w3.heap.size) (a := ⟨w3.heap.size, 0, none⟩) _ rfl _ 0) fun i hi e => by omega
  generalize setCells (w3.alloc (.cells #[.int .i64 0, .string ⟨#[]⟩, .string ⟨#[]⟩, .int .i64 0, .slice none 0 0, .bool false, .int .i64 0, .int .i64 0, .slice none 0 0, .int .i64 0, .int .i64 0, .int .i64 0, .string ⟨#[]⟩, .string ⟨#[]⟩, .int .i64 0, .slice none 0 0, .bool false, .int .i64 0, .int .i64 0, .slice none 0 0, .int .i64 0, .int .i64 0] 94)) ⟨w3.heap.size, 0, none⟩ [.int .i64 4, .string ⟨#[]⟩, .string ⟨#[116]⟩, .int .i64 0, .slice none 0 0, .bool false, .int .i64 0, .int .i64 0, .slice none 0 0, .int .i64 0, .int .i64 0, .int .i64 5, .string ⟨#[]⟩, .string ⟨#[99]⟩, .int .i64 0, .slice none 0 0, .bool false, .int .i64 0, .int .i64 0, .slice none 0 0, .int .i64 0, .int .i64 0] 0 = w6 at *
  have hs1 := blk_lt z1
  have hs2 := hA2.ext.alike.size
  have hs3 := hx3.alike.size
  have hs6 := hx6.alike.size
  have z12 := hA2.ext.blk z1
  obtain ⟨p6, hp6e⟩ : ∃ p6, p6 = w3.heap.size := ⟨_, rfl⟩
  have hlt6 := blk_lt hp6
  rw [← hp6e] at hp6 hlt6 ⊢
  have z16 := hx6.blk (hx3.blk z12)
  have hH : Half w w6 (fun b => b = p1 ∨ b = p6) pa pb (kit0.take 1) (kit0.take 1) := by
    refine ⟨fun b => w2.heap.size ≤ b ∧ b < w3.heap.size, (hA2.base (P' := fun b => b = p1) hx1 fun b hb => .inr (by omega)).guard (hx3.trans hx6) fun b hb => ?_, (hB3.mono fun b hb hw => ⟨hw, hb⟩).ext hx6, fun b hb => ?_, fun b hb hf => ?_⟩
    · rcases hb with hb | hb | hb
      · exact .inr ⟨hb.1, by omega⟩
      · exact .inl hb
      · exact .inr ⟨by omega, by omega⟩
    · have := hx1.alike.size; omega
    · rcases hb with hb | hb <;> omega
  ((repeat simp only [push_cast, Nat.reduceBEq, Nat.reduceLT, Nat.reduceEqDiff, reduceIte, reduceCtorEq, Nat.reduceMul, Nat.reduceAdd, Nat.reduceSub, Int.reduceEq, Int.reduceLT, Int.reduceLE, Int.reduceNeg, Int.reduceAdd, Int.reduceSub, Int.reduceMul, Nat.reduceLeDiff, Int.reduceToNat]); (repeat (first | (with_reducible first | (refine hK _ _ ?_; clear hK K) | refine (show ∀ σ' w', _ → K σ' w' from by assumption) _ _ ?_ | refine W_seq_k fun K hK => ?_ | refine W_block_k fun K hK => ?_ | refine W_skip ?_ | refine W_ret ?_) | ((first | ((with_reducible refine W_id ?_); refine W_reg (by decide) (by rfl) ?_) | (with_reducible first | refine W_cond ?_ | refine hZ _ _ ?_ | refine W_exit ?_ | refine Wo_id ?_)); repeat1' simp only [push_cast, Nat.reduceBEq, Nat.reduceLT, Nat.reduceEqDiff, reduceIte, reduceCtorEq, Nat.reduceMul, Nat.reduceAdd, Nat.reduceSub, Int.reduceEq, Int.reduceLT, Int.reduceLE, Int.reduceNeg, Int.reduceAdd, Int.reduceSub, Int.reduceMul, Nat.reduceLeDiff, Int.reduceToNat]) | ((repeat ((fail_if_success with_reducible refine hK _ _ ?_); clear hK K)); (with_reducible refine hK _ _ ?_); clear hK K))))
  refine W_loop (S := Nat) (fun k => [(1, .pointer (some ⟨p1, 0, none⟩)), (4, .pointer (some ⟨pa, 0, none⟩)), (5, .pointer (some ⟨pb, 0, none⟩)), (6, .pointer (some ⟨p6, 0, none⟩)), (7, .int .i64 (k : Int))])
    (fun k w7 => k ≤ 2 ∧ Half w w7 (fun b => b = p1 ∨ b = p6) pa pb (kit0.take (k + 1)) (kit0.take (k + 1)) ∧ Upd (Ours w (fun b => b = p1 ∨ b = p6)) w6 w7) (fun k => 2 - k) 0 ?_ ?_ ?_
  · (repeat simp only [push_cast, Nat.reduceBEq, Nat.reduceLT, Nat.reduceEqDiff, reduceIte, reduceCtorEq, Nat.reduceMul, Nat.reduceAdd, Nat.reduceSub, Int.reduceEq, Int.reduceLT, Int.reduceLE, Int.reduceNeg, Int.reduceAdd, Int.reduceSub, Int.reduceMul, Nat.reduceLeDiff, Int.reduceToNat])
  · exact ⟨by decide, hH, Upd.refl _ _⟩
  rintro k w7 ⟨hk, hH7, hu7⟩
  have z67 : w7.heap[p6]? = w6.heap[p6]? := hu7.same p6 hlt6 fun hf => hf.2 (.inr rfl)
  rw [hp6] at z67
  by_cases hk2 : k < 2
  · have d0 : (k : Int) < 2 := by omega
    have d2 : inI64 ((k : Int) + 1) := by unfold inI64; omega
    have d3 : (0 : Int) ≤ (k : Int) := by omega
    have hlen : (kit0.take (k + 1)).length < 100000 := by simp [kit0]; omega
    obtain rfl | rfl : k = 0 ∨ k = 1 := by omega
    · (repeat (first | (with_reducible first | (refine hK _ _ ?_; clear hK K) | refine (show ∀ σ' w', _ → K σ' w' from by assumption) _ _ ?_ | refine W_seq_k fun K hK => ?_ | refine W_block_k fun K hK => ?_ | refine W_skip ?_ | refine W_ret ?_) | ((first | ((with_reducible refine W_id ?_); refine W_reg (by decide) (by rfl) ?_) | (with_reducible first | refine W_cond ?_ | refine hZ _ _ ?_ | refine W_exit ?_ | refine Wo_id ?_)); repeat1' simp only [push_cast, Nat.reduceBEq, Nat.reduceLT, Nat.reduceEqDiff, reduceIte, reduceCtorEq, Nat.reduceMul, Nat.reduceAdd, Nat.reduceSub, Int.reduceEq, Int.reduceLT, Int.reduceLE, Int.reduceNeg, Int.reduceAdd, Int.reduceSub, Int.reduceMul, Nat.reduceLeDiff, Int.reduceToNat, d0, cell_h, can_h, cellO_cells, canO_cells, setO_cells, heap_set_h, heap_alloc_h, size_set_h, size_alloc_h, vcells_agg, succ_ne, ne_succ, List.setIfInBounds_toArray, List.set_cons_succ, List.set_cons_zero, setCells, drew_h, z67]) | ((repeat ((fail_if_success with_reducible refine hK _ _ ?_); clear hK K)); (with_reducible refine hK _ _ ?_); clear hK K)))
      refine (two_a hH7 hlen (m := kitM 0) (SlAt.nil _ _).rd (by decide)).mono ?_
      rintro v w8 ⟨rfl, hH8, hu8⟩
      have z68 := (hu8.same p6 (blk_lt z67) fun hf => hf.2 (.inr rfl)).trans z67
      have hu68 := Upd.trans hu7 hu8 fun _ _ h => h
      ((repeat simp only [push_cast, Nat.reduceBEq, Nat.reduceLT, Nat.reduceEqDiff, reduceIte, reduceCtorEq, Nat.reduceMul, Nat.reduceAdd, Nat.reduceSub, Int.reduceEq, Int.reduceLT, Int.reduceLE, Int.reduceNeg, Int.reduceAdd, Int.reduceSub, Int.reduceMul, Nat.reduceLeDiff, Int.reduceToNat, cell_h, can_h, cellO_cells, canO_cells, setO_cells, heap_set_h, heap_alloc_h, size_set_h, size_alloc_h, vcells_agg, succ_ne, ne_succ, List.setIfInBounds_toArray, List.set_cons_succ, List.set_cons_zero, setCells, drew_h, z68]); (repeat (first | (with_reducible first | (refine hK _ _ ?_; clear hK K) | refine (show ∀ σ' w', _ → K σ' w' from by assumption) _ _ ?_ | refine W_seq_k fun K hK => ?_ | refine W_block_k fun K hK => ?_ | refine W_skip ?_ | refine W_ret ?_) | ((first | ((with_reducible refine W_id ?_); refine W_reg (by decide) (by rfl) ?_) | (with_reducible first | refine W_cond ?_ | refine hZ _ _ ?_ | refine W_exit ?_ | refine Wo_id ?_)); repeat1' simp only [push_cast, Nat.reduceBEq, Nat.reduceLT, Nat.reduceEqDiff, reduceIte, reduceCtorEq, Nat.reduceMul, Nat.reduceAdd, Nat.reduceSub, Int.reduceEq, Int.reduceLT, Int.reduceLE, Int.reduceNeg, Int.reduceAdd, Int.reduceSub, Int.reduceMul, Nat.reduceLeDiff, Int.reduceToNat, cell_h, can_h, cellO_cells, canO_cells, setO_cells, heap_set_h, heap_alloc_h, size_set_h, size_alloc_h, vcells_agg, succ_ne, ne_succ, List.setIfInBounds_toArray, List.set_cons_succ, List.set_cons_zero, setCells, drew_h, z68]) | ((repeat ((fail_if_success with_reducible refine hK _ _ ?_); clear hK K)); (with_reducible refine hK _ _ ?_); clear hK K))))
      refine (two_b hH8 hlen (m := kitM 0) rfl (fun b hb => ?_) (SlAt.nil _ _).rd (by decide)).mono ?_
      · have := blk_lt z68
        have h9 := hu68.alike.size
        have h16 := blk_lt z16
        rcases hb with rfl | rfl <;> omega
      rintro v w9 ⟨rfl, hH9, hu9⟩
      rw [kit0_add (by decide)] at hH9
      ((repeat simp only [push_cast, Nat.reduceBEq, Nat.reduceLT, Nat.reduceEqDiff, reduceIte, reduceCtorEq, Nat.reduceMul, Nat.reduceAdd, Nat.reduceSub, Int.reduceEq, Int.reduceLT, Int.reduceLE, Int.reduceNeg, Int.reduceAdd, Int.reduceSub, Int.reduceMul, Nat.reduceLeDiff, Int.reduceToNat, (show inI64 1 by unfold inI64; omega)]); (repeat (first | (with_reducible first | (refine hK _ _ ?_; clear hK K) | refine (show ∀ σ' w', _ → K σ' w' from by assumption) _ _ ?_ | refine W_seq_k fun K hK => ?_ | refine W_block_k fun K hK => ?_ | refine W_skip ?_ | refine W_ret ?_) | ((first | ((with_reducible refine W_id ?_); refine W_reg (by decide) (by rfl) ?_) | (with_reducible first | refine W_cond ?_ | refine hZ _ _ ?_ | refine W_exit ?_ | refine Wo_id ?_)); repeat1' simp only [push_cast, Nat.reduceBEq, Nat.reduceLT, Nat.reduceEqDiff, reduceIte, reduceCtorEq, Nat.reduceMul, Nat.reduceAdd, Nat.reduceSub, Int.reduceEq, Int.reduceLT, Int.reduceLE, Int.reduceNeg, Int.reduceAdd, Int.reduceSub, Int.reduceMul, Nat.reduceLeDiff, Int.reduceToNat, (show inI64 1 by unfold inI64; omega)]) | ((repeat ((fail_if_success with_reducible refine hK _ _ ?_); clear hK K)); (with_reducible refine hK _ _ ?_); clear hK K))))
      refine ⟨1, by omega, ?_⟩
      (repeat simp only [push_cast, Nat.reduceBEq, Nat.reduceLT, Nat.reduceEqDiff, reduceIte, reduceCtorEq, Nat.reduceMul, Nat.reduceAdd, Nat.reduceSub, Int.reduceEq, Int.reduceLT, Int.reduceLE, Int.reduceNeg, Int.reduceAdd, Int.reduceSub, Int.reduceMul, Nat.reduceLeDiff, Int.reduceToNat])
      exact ⟨hH9, Upd.trans hu68 hu9 fun _ _ h => h⟩
    · (repeat (first | (with_reducible first | (refine hK _ _ ?_; clear hK K) | refine (show ∀ σ' w', _ → K σ' w' from by assumption) _ _ ?_ | refine W_seq_k fun K hK => ?_ | refine W_block_k fun K hK => ?_ | refine W_skip ?_ | refine W_ret ?_) | ((first | ((with_reducible refine W_id ?_); refine W_reg (by decide) (by rfl) ?_) | (with_reducible first | refine W_cond ?_ | refine hZ _ _ ?_ | refine W_exit ?_ | refine Wo_id ?_)); repeat1' simp only [push_cast, Nat.reduceBEq, Nat.reduceLT, Nat.reduceEqDiff, reduceIte, reduceCtorEq, Nat.reduceMul, Nat.reduceAdd, Nat.reduceSub, Int.reduceEq, Int.reduceLT, Int.reduceLE, Int.reduceNeg, Int.reduceAdd, Int.reduceSub, Int.reduceMul, Nat.reduceLeDiff, Int.reduceToNat, d0, cell_h, can_h, cellO_cells, canO_cells, setO_cells, heap_set_h, heap_alloc_h, size_set_h, size_alloc_h, vcells_agg, succ_ne, ne_succ, List.setIfInBounds_toArray, List.set_cons_succ, List.set_cons_zero, setCells, drew_h, z67]) | ((repeat ((fail_if_success with_reducible refine hK _ _ ?_); clear hK K)); (with_reducible refine hK _ _ ?_); clear hK K)))
      refine (two_a hH7 hlen (m := kitM 1) (SlAt.nil _ _).rd (by decide)).mono ?_
      rintro v w8 ⟨rfl, hH8, hu8⟩
      have z68 := (hu8.same p6 (blk_lt z67) fun hf => hf.2 (.inr rfl)).trans z67
      have hu68 := Upd.trans hu7 hu8 fun _ _ h => h
      ((repeat simp only [push_cast, Nat.reduceBEq, Nat.reduceLT, Nat.reduceEqDiff, reduceIte, reduceCtorEq, Nat.reduceMul, Nat.reduceAdd, Nat.reduceSub, Int.reduceEq, Int.reduceLT, Int.reduceLE, Int.reduceNeg, Int.reduceAdd, Int.reduceSub, Int.reduceMul, Nat.reduceLeDiff, Int.reduceToNat, cell_h, can_h, cellO_cells, canO_cells, setO_cells, heap_set_h, heap_alloc_h, size_set_h, size_alloc_h, vcells_agg, succ_ne, ne_succ, List.setIfInBounds_toArray, List.set_cons_succ, List.set_cons_zero, setCells, drew_h, z68]); (repeat (first | (with_reducible first | (refine hK _ _ ?_; clear hK K) | refine (show ∀ σ' w', _ → K σ' w' from by assumption) _ _ ?_ | refine W_seq_k fun K hK => ?_ | refine W_block_k fun K hK => ?_ | refine W_skip ?_ | refine W_ret ?_) | ((first | ((with_reducible refine W_id ?_); refine W_reg (by decide) (by rfl) ?_) | (with_reducible first | refine W_cond ?_ | refine hZ _ _ ?_ | refine W_exit ?_ | refine Wo_id ?_)); repeat1' simp only [push_cast, Nat.reduceBEq, Nat.reduceLT, Nat.reduceEqDiff, reduceIte, reduceCtorEq, Nat.reduceMul, Nat.reduceAdd, Nat.reduceSub, Int.reduceEq, Int.reduceLT, Int.reduceLE, Int.reduceNeg, Int.reduceAdd, Int.reduceSub, Int.reduceMul, Nat.reduceLeDiff, Int.reduceToNat, cell_h, can_h, cellO_cells, canO_cells, setO_cells, heap_set_h, heap_alloc_h, size_set_h, size_alloc_h, vcells_agg, succ_ne, ne_succ, List.setIfInBounds_toArray, List.set_cons_succ, List.set_cons_zero, setCells, drew_h, z68]) | ((repeat ((fail_if_success with_reducible refine hK _ _ ?_); clear hK K)); (with_reducible refine hK _ _ ?_); clear hK K))))
      refine (two_b hH8 hlen (m := kitM 1) rfl (fun b hb => ?_) (SlAt.nil _ _).rd (by decide)).mono ?_
      · have := blk_lt z68
        have h9 := hu68.alike.size
        have h16 := blk_lt z16
        rcases hb with rfl | rfl <;> omega
      rintro v w9 ⟨rfl, hH9, hu9⟩
      rw [kit0_add (by decide)] at hH9
      ((repeat simp only [push_cast, Nat.reduceBEq, Nat.reduceLT, Nat.reduceEqDiff, reduceIte, reduceCtorEq, Nat.reduceMul, Nat.reduceAdd, Nat.reduceSub, Int.reduceEq, Int.reduceLT, Int.reduceLE, Int.reduceNeg, Int.reduceAdd, Int.reduceSub, Int.reduceMul, Nat.reduceLeDiff, Int.reduceToNat, (show inI64 2 by unfold inI64; omega)]); (repeat (first | (with_reducible first | (refine hK _ _ ?_; clear hK K) | refine (show ∀ σ' w', _ → K σ' w' from by assumption) _ _ ?_ | refine W_seq_k fun K hK => ?_ | refine W_block_k fun K hK => ?_ | refine W_skip ?_ | refine W_ret ?_) | ((first | ((with_reducible refine W_id ?_); refine W_reg (by decide) (by rfl) ?_) | (with_reducible first | refine W_cond ?_ | refine hZ _ _ ?_ | refine W_exit ?_ | refine Wo_id ?_)); repeat1' simp only [push_cast, Nat.reduceBEq, Nat.reduceLT, Nat.reduceEqDiff, reduceIte, reduceCtorEq, Nat.reduceMul, Nat.reduceAdd, Nat.reduceSub, Int.reduceEq, Int.reduceLT, Int.reduceLE, Int.reduceNeg, Int.reduceAdd, Int.reduceSub, Int.reduceMul, Nat.reduceLeDiff, Int.reduceToNat, (show inI64 2 by unfold inI64; omega)]) | ((repeat ((fail_if_success with_reducible refine hK _ _ ?_); clear hK K)); (with_reducible refine hK _ _ ?_); clear hK K))))
      refine ⟨2, by omega, ?_⟩
      (repeat simp only [push_cast, Nat.reduceBEq, Nat.reduceLT, Nat.reduceEqDiff, reduceIte, reduceCtorEq, Nat.reduceMul, Nat.reduceAdd, Nat.reduceSub, Int.reduceEq, Int.reduceLT, Int.reduceLE, Int.reduceNeg, Int.reduceAdd, Int.reduceSub, Int.reduceMul, Nat.reduceLeDiff, Int.reduceToNat])
      exact ⟨hH9, Upd.trans hu68 hu9 fun _ _ h => h⟩
  · obtain rfl : k = 2 := by omega
    have d0 : ¬ ((2 : Nat) : Int) < 2 := by omega
    (repeat (first | (with_reducible first | (refine hK _ _ ?_; clear hK K) | refine (show ∀ σ' w', _ → K σ' w' from by assumption) _ _ ?_ | refine W_seq_k fun K hK => ?_ | refine W_block_k fun K hK => ?_ | refine W_skip ?_ | refine W_ret ?_) | ((first | ((with_reducible refine W_id ?_); refine W_reg (by decide) (by rfl) ?_) | (with_reducible first | refine W_cond ?_ | refine hZ _ _ ?_ | refine W_exit ?_ | refine Wo_id ?_)); repeat1' simp only [push_cast, Nat.reduceBEq, Nat.reduceLT, Nat.reduceEqDiff, reduceIte, reduceCtorEq, Nat.reduceMul, Nat.reduceAdd, Nat.reduceSub, Int.reduceEq, Int.reduceLT, Int.reduceLE, Int.reduceNeg, Int.reduceAdd, Int.reduceSub, Int.reduceMul, Nat.reduceLeDiff, Int.reduceToNat, d0]) | ((repeat ((fail_if_success with_reducible refine hK _ _ ?_); clear hK K)); (with_reducible refine hK _ _ ?_); clear hK K)))
    have z17 : w7.heap[p1]? = _ := (hu7.same p1 (blk_lt z16) fun hf => hf.2 (.inl rfl)).trans z16
    have hL0 : kit0.take (2 + 1) = kitL (l1.take 0) l2 := by simp [kitL, kitK, kit0]
    rw [hL0] at hH7
    clear hH z67 z6 hp6 hx6
    have hH8 := hH7.pass (Q := fun b => b = p1) (Ext.refl w7) fun b hb => .inl (.inl hb)
    refine W_loop (S := Nat) (fun k => [(1, .pointer (some ⟨p1, 0, none⟩)), (4, .pointer (some ⟨pa, 0, none⟩)), (5, .pointer (some ⟨pb, 0, none⟩)), (8, .int .i64 (k : Int))])
      (fun k w8 => k ≤ l1.length ∧ Half w w8 (fun b => b = p1) pa pb (kitL (l1.take k) l2) (kitL (l1.take k) l2) ∧ w8.heap[p1]? = some (.cells #[.slice a1 l1.length c1, .slice a2 l2.length c2] 24 (0, 0))) (fun k => l1.length - k) 0 ?_ ?_ ?_
    · (repeat simp only [push_cast, Nat.reduceBEq, Nat.reduceLT, Nat.reduceEqDiff, reduceIte, reduceCtorEq, Nat.reduceMul, Nat.reduceAdd, Nat.reduceSub, Int.reduceEq, Int.reduceLT, Int.reduceLE, Int.reduceNeg, Int.reduceAdd, Int.reduceSub, Int.reduceMul, Nat.reduceLeDiff, Int.reduceToNat])
    · exact ⟨by omega, hH8, z17⟩
    rintro k w8 ⟨hk, hH8, z18⟩
    have hxw : Ext w w8 := by obtain ⟨F, hA, _⟩ := id hH8; exact hA.ext
    by_cases hkl : k < l1.length
    · obtain ⟨c, hc⟩ : ∃ c, l1[k]? = some c := ⟨_, List.getElem?_eq_getElem hkl⟩
      have hcb := b1 c (List.mem_of_getElem? hc)
      obtain ⟨b, o, rfl, hcl⟩ := hcell1 k c hc
      have hcl8 := cell_ext hxw hcl
      rw [cell_h] at hcl8
      have d0 : (k : Int) < (l1.length : Int) := by omega
      have d1 : (0 : Int) ≤ (k : Int) := by omega
      have d2 : inI64 ((k : Int) + 1) := by unfold inI64; omega
      (repeat (first | (with_reducible first | (refine hK _ _ ?_; clear hK K) | refine (show ∀ σ' w', _ → K σ' w' from by assumption) _ _ ?_ | refine W_seq_k fun K hK => ?_ | refine W_block_k fun K hK => ?_ | refine W_skip ?_ | refine W_ret ?_) | ((first | ((with_reducible refine W_id ?_); refine W_reg (by decide) (by rfl) ?_) | (with_reducible first | refine W_cond ?_ | refine hZ _ _ ?_ | refine W_exit ?_ | refine Wo_id ?_)); repeat1' simp only [push_cast, Nat.reduceBEq, Nat.reduceLT, Nat.reduceEqDiff, reduceIte, reduceCtorEq, Nat.reduceMul, Nat.reduceAdd, Nat.reduceSub, Int.reduceEq, Int.reduceLT, Int.reduceLE, Int.reduceNeg, Int.reduceAdd, Int.reduceSub, Int.reduceMul, Nat.reduceLeDiff, Int.reduceToNat, d0, d1, cell_h, cellO_cells, z18, hcl8]) | ((repeat ((fail_if_success with_reducible refine hK _ _ ?_); clear hK K)); (with_reducible refine hK _ _ ?_); clear hK K)))
      refine (name_c c hcb).mono ?_
      rintro v w9 ⟨rfl, hx9⟩
      refine build_struct Tryd.zeroValue49 un30 pl30 (cs := #[.int .i64 3, .string (nmT c), .string ⟨#[]⟩, .int .i64 0, .slice none 0 0, .bool false, .int .i64 0, .int .i64 0, .slice none 0 0, .int .i64 0, .int .i64 0]) (by rfl) ?_
      (repeat simp only [push_cast, Nat.reduceBEq, Nat.reduceLT, Nat.reduceEqDiff, reduceIte, reduceCtorEq, Nat.reduceMul, Nat.reduceAdd, Nat.reduceSub, Int.reduceEq, Int.reduceLT, Int.reduceLE, Int.reduceNeg, Int.reduceAdd, Int.reduceSub, Int.reduceMul, Nat.reduceLeDiff, Int.reduceToNat, RunV_zero Tryd.zeroValue49])
      simp only [vcells_agg, can_h, heap_alloc_h, if_true, canO_cells, List.size_toArray, List.length_cons, List.length_nil, Nat.zero_add, Nat.reduceAdd, Nat.reduceLT, true_and]
      have y6 : (w9.alloc (.cells #[.int .i64 0, .string ⟨#[]⟩, .string ⟨#[]⟩, .int .i64 0, .slice none 0 0, .bool false, .int .i64 0, .int .i64 0, .slice none 0 0, .int .i64 0, .int .i64 0] 49)).heap[w9.heap.size]? = some (.cells #[.int .i64 0, .string ⟨#[]⟩, .string ⟨#[]⟩, .int .i64 0, .slice none 0 0, .bool false, .int .i64 0, .int .i64 0, .slice none 0 0, .int .i64 0, .int .i64 0] 49 (0, 0)) := by rw [heap_alloc_h, if_pos rfl]
      have yp := setCells_all y6 (l := [.int .i64 3, .string (nmT c), .string ⟨#[]⟩, .int .i64 0, .slice none 0 0, .bool false, .int .i64 0, .int .i64 0, .slice none 0 0, .int .i64 0, .int .i64 0]) rfl
      have yx : Ext w9 (setCells (w9.alloc (.cells #[.int .i64 0, .string ⟨#[]⟩, .string ⟨#[]⟩, .int .i64 0, .slice none 0 0, .bool false, .int .i64 0, .int .i64 0, .slice none 0 0, .int .i64 0, .int .i64 0] 49)) ⟨w9.heap.size, 0, none⟩ [.int .i64 3, .string (nmT c), .string ⟨#[]⟩, .int .i64 0, .slice none 0 0, .bool false, .int .i64 0, .int .i64 0, .slice none 0 0, .int .i64 0, .int .i64 0] 0) := Upd.trans (Ext.alloc w9 _) (Upd.setCells (F := fun b => b = w9.heap.size) (a := ⟨w9.heap.size, 0, none⟩) _ rfl _ 0) fun i hi e => by omega
      generalize setCells (w9.alloc (.cells #[.int .i64 0, .string ⟨#[]⟩, .string ⟨#[]⟩, .int .i64 0, .slice none 0 0, .bool false, .int .i64 0, .int .i64 0, .slice none 0 0, .int .i64 0, .int .i64 0] 49)) ⟨w9.heap.size, 0, none⟩ [.int .i64 3, .string (nmT c), .string ⟨#[]⟩, .int .i64 0, .slice none 0 0, .bool false, .int .i64 0, .int .i64 0, .slice none 0 0, .int .i64 0, .int .i64 0] 0 = w10 at *
      obtain ⟨p9, hp9⟩ : ∃ p9, p9 = w9.heap.size := ⟨_, rfl⟩
      rw [← hp9] at yp ⊢
      have y18 := hx9.blk z18
      have y1 := yx.blk y18
      have hl18 := blk_lt y18
      have hne : ¬ p9 = p1 := by omega
      have hne' : ¬ p1 = p9 := by omega
      have hl9 := blk_lt yp
      have hs9 := hx9.alike.size
      have hlen : (kitL (l1.take k) l2).length < 100000 := by
        have := kitL_len (l1.take k) l2
        rw [List.length_take] at this; omega
      have eT := kitL_take (l2 := l2) hc
      have hout : ∀ w11, w11.heap[p9]?.isSome → Ext w9 w11 → Half w w11 (fun b => b = p1 ∨ b = p9) pa pb (kitL (l1.take k) l2) (kitL (l1.take k) l2) := fun w11 hy hx11 => hH8.pass (hx9.trans hx11) fun b hb => by
        rcases hb with hb | hb
        · exact .inl hb
        · refine .inr ⟨by omega, ?_⟩
          rw [hb]
          obtain ⟨o, ho⟩ := Option.isSome_iff_exists.1 hy
          exact blk_lt ho
      clear hH8 hH7 hu7
      by_cases hs : k < l2.length
      · obtain ⟨c', hc'⟩ : ∃ c', l2[k]? = some c' := ⟨_, List.getElem?_eq_getElem hs⟩
        have hcb' := b2 c' (List.mem_of_getElem? hc')
        obtain ⟨b', o', e2, hcl2⟩ := hcell2 k c' hc'
        rw [e2] at y1
        have hcl9 := cell_ext ((hxw.trans hx9).trans yx) hcl2
        rw [cell_h] at hcl9
        have d3 : (k : Int) < (l2.length : Int) := by omega
        have ar : ((c' : Int).tmod 4) = ((c' % 4 : Nat) : Int) := by rw [Int.tmod_eq_emod_of_nonneg (by omega)]; omega
        have n4 : ¬ ((4 : Int) = 0) := by omega
        have hgd : l2.getD k 0 = c' := by simp [List.getD, hc']
        have hrl : c' % 4 < 4 := Nat.mod_lt _ (by decide)
        by_cases hg : 1 < c' % 4
        · have hval : (kitLd l2 k c).val = .agg #[.int .i64 3, .string (nmT c), .string ⟨#[]⟩, .int .i64 (((c' % 4 : Nat) : Int) - 1), .slice none 0 0, .bool false, .int .i64 0, .int .i64 0, .slice none 0 0, .int .i64 0, .int .i64 0] := by
            rw [Laid.val_eq]
            simp only [kitLd, kitN, hgd, zN]
            rw [if_pos ⟨hs, hg⟩]
          obtain ⟨r, hr⟩ : ∃ r, r = c' % 4 := ⟨_, rfl⟩
          rw [← hr] at ar hrl hg hval
          have d4 : (1 : Int) < (r : Int) := by omega
          have d5 : IntKind.i64.wrap (r : Int) = r := wrap_in (by unfold inI64; omega)
          have d6 : inI64 ((r : Int) - 1) := by unfold inI64; omega
          ((repeat simp only [push_cast, Nat.reduceBEq, Nat.reduceLT, Nat.reduceEqDiff, reduceIte, reduceCtorEq, Nat.reduceMul, Nat.reduceAdd, Nat.reduceSub, Int.reduceEq, Int.reduceLT, Int.reduceLE, Int.reduceNeg, Int.reduceAdd, Int.reduceSub, Int.reduceMul, Nat.reduceLeDiff, Int.reduceToNat, d0, d1, d3, d4, d5, d6, ar, n4, cell_h, can_h, cellO_cells, canO_cells, setO_cells, heap_set_h, heap_alloc_h, size_set_h, size_alloc_h, vcells_agg, succ_ne, ne_succ, List.setIfInBounds_toArray, List.set_cons_succ, List.set_cons_zero, setCells, drew_h, y1, yp, hcl9, hne, hne']); (repeat (first | (with_reducible first | (refine hK _ _ ?_; clear hK K) | refine (show ∀ σ' w', _ → K σ' w' from by assumption) _ _ ?_ | refine W_seq_k fun K hK => ?_ | refine W_block_k fun K hK => ?_ | refine W_skip ?_ | refine W_ret ?_) | ((first | ((with_reducible refine W_id ?_); refine W_reg (by decide) (by rfl) ?_) | (with_reducible first | refine W_cond ?_ | refine hZ _ _ ?_ | refine W_exit ?_ | refine Wo_id ?_)); repeat1' simp only [push_cast, Nat.reduceBEq, Nat.reduceLT, Nat.reduceEqDiff, reduceIte, reduceCtorEq, Nat.reduceMul, Nat.reduceAdd, Nat.reduceSub, Int.reduceEq, Int.reduceLT, Int.reduceLE, Int.reduceNeg, Int.reduceAdd, Int.reduceSub, Int.reduceMul, Nat.reduceLeDiff, Int.reduceToNat, d0, d1, d3, d4, d5, d6, ar, n4, cell_h, can_h, cellO_cells, canO_cells, setO_cells, heap_set_h, heap_alloc_h, size_set_h, size_alloc_h, vcells_agg, succ_ne, ne_succ, List.setIfInBounds_toArray, List.set_cons_succ, List.set_cons_zero, setCells, drew_h, y1, yp, hcl9, hne, hne']) | ((repeat ((fail_if_success with_reducible refine hK _ _ ?_); clear hK K)); (with_reducible refine hK _ _ ?_); clear hK K))))
          have y11 : (w10.setCell ⟨p9, 3, none⟩ (.int .i64 ((r : Int) - 1))).heap[p9]? = some (.cells #[.int .i64 3, .string (nmT c), .string ⟨#[]⟩, .int .i64 ((r : Int) - 1), .slice none 0 0, .bool false, .int .i64 0, .int .i64 0, .slice none 0 0, .int .i64 0, .int .i64 0] 49 (0, 0)) := by rw [heap_set_h, if_pos rfl, yp]; rfl
          have yx11 : Ext w9 (w10.setCell ⟨p9, 3, none⟩ (.int .i64 ((r : Int) - 1))) := Upd.trans yx (Upd.setCell (F := fun b => b = p9) (a := ⟨p9, 3, none⟩) w10 rfl _) fun i hi e => by omega
          rw [← hval]
          have hH11 := hout _ (by rw [y11]; rfl) yx11
          generalize w10.setCell ⟨p9, 3, none⟩ (.int .i64 ((r : Int) - 1)) = w11 at *
          refine (two_a hH11 hlen (m := kitLd l2 k c) (SlAt.nil _ _).rd (show (0 : Nat) < 1000000 by decide)).mono ?_
          rintro v w12 ⟨rfl, hH12, hu12⟩
          have y12 := (hu12.same p9 (blk_lt y11) fun hf => hf.2 (.inr rfl)).trans y11
          ((repeat simp only [push_cast, Nat.reduceBEq, Nat.reduceLT, Nat.reduceEqDiff, reduceIte, reduceCtorEq, Nat.reduceMul, Nat.reduceAdd, Nat.reduceSub, Int.reduceEq, Int.reduceLT, Int.reduceLE, Int.reduceNeg, Int.reduceAdd, Int.reduceSub, Int.reduceMul, Nat.reduceLeDiff, Int.reduceToNat, cell_h, can_h, cellO_cells, canO_cells, setO_cells, heap_set_h, heap_alloc_h, size_set_h, size_alloc_h, vcells_agg, succ_ne, ne_succ, List.setIfInBounds_toArray, List.set_cons_succ, List.set_cons_zero, setCells, drew_h, y12]); (repeat (first | (with_reducible first | (refine hK _ _ ?_; clear hK K) | refine (show ∀ σ' w', _ → K σ' w' from by assumption) _ _ ?_ | refine W_seq_k fun K hK => ?_ | refine W_block_k fun K hK => ?_ | refine W_skip ?_ | refine W_ret ?_) | ((first | ((with_reducible refine W_id ?_); refine W_reg (by decide) (by rfl) ?_) | (with_reducible first | refine W_cond ?_ | refine hZ _ _ ?_ | refine W_exit ?_ | refine Wo_id ?_)); repeat1' simp only [push_cast, Nat.reduceBEq, Nat.reduceLT, Nat.reduceEqDiff, reduceIte, reduceCtorEq, Nat.reduceMul, Nat.reduceAdd, Nat.reduceSub, Int.reduceEq, Int.reduceLT, Int.reduceLE, Int.reduceNeg, Int.reduceAdd, Int.reduceSub, Int.reduceMul, Nat.reduceLeDiff, Int.reduceToNat, cell_h, can_h, cellO_cells, canO_cells, setO_cells, heap_set_h, heap_alloc_h, size_set_h, size_alloc_h, vcells_agg, succ_ne, ne_succ, List.setIfInBounds_toArray, List.set_cons_succ, List.set_cons_zero, setCells, drew_h, y12]) | ((repeat ((fail_if_success with_reducible refine hK _ _ ?_); clear hK K)); (with_reducible refine hK _ _ ?_); clear hK K))))
          rw [← hval]
          refine (two_b hH12 hlen (m := kitLd l2 k c) rfl (fun b hb => ?_) (SlAt.nil _ _).rd (show (0 : Nat) < 1000000 by decide)).mono ?_
          · have h1 := blk_lt y12
            have h2 := hu12.alike.size
            rcases hb with rfl | rfl <;> omega
          rintro v w13 ⟨rfl, hH13, hu13⟩
          have y13 := (hu13.same p1 (by have := hu12.alike.size; have := yx11.alike.size; omega) fun hf => hf.2 (.inl rfl)).trans ((hu12.same p1 (by have := yx11.alike.size; omega) fun hf => hf.2 (.inl rfl)).trans (yx11.blk y18))
          ((repeat simp only [push_cast, Nat.reduceBEq, Nat.reduceLT, Nat.reduceEqDiff, reduceIte, reduceCtorEq, Nat.reduceMul, Nat.reduceAdd, Nat.reduceSub, Int.reduceEq, Int.reduceLT, Int.reduceLE, Int.reduceNeg, Int.reduceAdd, Int.reduceSub, Int.reduceMul, Nat.reduceLeDiff, Int.reduceToNat, d2]); (repeat (first | (with_reducible first | (refine hK _ _ ?_; clear hK K) | refine (show ∀ σ' w', _ → K σ' w' from by assumption) _ _ ?_ | refine W_seq_k fun K hK => ?_ | refine W_block_k fun K hK => ?_ | refine W_skip ?_ | refine W_ret ?_) | ((first | ((with_reducible refine W_id ?_); refine W_reg (by decide) (by rfl) ?_) | (with_reducible first | refine W_cond ?_ | refine hZ _ _ ?_ | refine W_exit ?_ | refine Wo_id ?_)); repeat1' simp only [push_cast, Nat.reduceBEq, Nat.reduceLT, Nat.reduceEqDiff, reduceIte, reduceCtorEq, Nat.reduceMul, Nat.reduceAdd, Nat.reduceSub, Int.reduceEq, Int.reduceLT, Int.reduceLE, Int.reduceNeg, Int.reduceAdd, Int.reduceSub, Int.reduceMul, Nat.reduceLeDiff, Int.reduceToNat, d2]) | ((repeat ((fail_if_success with_reducible refine hK _ _ ?_); clear hK K)); (with_reducible refine hK _ _ ?_); clear hK K))))
          refine ⟨k + 1, by omega, ?_⟩
          (repeat simp only [push_cast, Nat.reduceBEq, Nat.reduceLT, Nat.reduceEqDiff, reduceIte, reduceCtorEq, Nat.reduceMul, Nat.reduceAdd, Nat.reduceSub, Int.reduceEq, Int.reduceLT, Int.reduceLE, Int.reduceNeg, Int.reduceAdd, Int.reduceSub, Int.reduceMul, Nat.reduceLeDiff, Int.reduceToNat])
          rw [eT]
          exact ⟨by omega, hH13.pass (Ext.refl _) fun b hb => .inl (.inl hb), y13⟩
        · have hval : (kitLd l2 k c).val = .agg #[.int .i64 3, .string (nmT c), .string ⟨#[]⟩, .int .i64 0, .slice none 0 0, .bool false, .int .i64 0, .int .i64 0, .slice none 0 0, .int .i64 0, .int .i64 0] := by
            rw [Laid.val_eq]
            simp only [kitLd, kitN, hgd, zN]
            rw [if_neg (fun h => hg h.2)]
          obtain ⟨r, hr⟩ : ∃ r, r = c' % 4 := ⟨_, rfl⟩
          rw [← hr] at ar hrl hg
          have d4 : ¬ (1 : Int) < (r : Int) := by omega
          ((repeat simp only [push_cast, Nat.reduceBEq, Nat.reduceLT, Nat.reduceEqDiff, reduceIte, reduceCtorEq, Nat.reduceMul, Nat.reduceAdd, Nat.reduceSub, Int.reduceEq, Int.reduceLT, Int.reduceLE, Int.reduceNeg, Int.reduceAdd, Int.reduceSub, Int.reduceMul, Nat.reduceLeDiff, Int.reduceToNat, d0, d1, d3, d4, ar, n4, cell_h, can_h, cellO_cells, canO_cells, setO_cells, heap_set_h, heap_alloc_h, size_set_h, size_alloc_h, vcells_agg, succ_ne, ne_succ, List.setIfInBounds_toArray, List.set_cons_succ, List.set_cons_zero, setCells, drew_h, y1, yp, hcl9, hne, hne']); (repeat (first | (with_reducible first | (refine hK _ _ ?_; clear hK K) | refine (show ∀ σ' w', _ → K σ' w' from by assumption) _ _ ?_ | refine W_seq_k fun K hK => ?_ | refine W_block_k fun K hK => ?_ | refine W_skip ?_ | refine W_ret ?_) | ((first | ((with_reducible refine W_id ?_); refine W_reg (by decide) (by rfl) ?_) | (with_reducible first | refine W_cond ?_ | refine hZ _ _ ?_ | refine W_exit ?_ | refine Wo_id ?_)); repeat1' simp only [push_cast, Nat.reduceBEq, Nat.reduceLT, Nat.reduceEqDiff, reduceIte, reduceCtorEq, Nat.reduceMul, Nat.reduceAdd, Nat.reduceSub, Int.reduceEq, Int.reduceLT, Int.reduceLE, Int.reduceNeg, Int.reduceAdd, Int.reduceSub, Int.reduceMul, Nat.reduceLeDiff, Int.reduceToNat, d0, d1, d3, d4, ar, n4, cell_h, can_h, cellO_cells, canO_cells, setO_cells, heap_set_h, heap_alloc_h, size_set_h, size_alloc_h, vcells_agg, succ_ne, ne_succ, List.setIfInBounds_toArray, List.set_cons_succ, List.set_cons_zero, setCells, drew_h, y1, yp, hcl9, hne, hne']) | ((repeat ((fail_if_success with_reducible refine hK _ _ ?_); clear hK K)); (with_reducible refine hK _ _ ?_); clear hK K))))
          rw [← hval]
          have hH11 := hout _ (by rw [yp]; rfl) yx
          generalize w10 = w11 at *
          refine (two_a hH11 hlen (m := kitLd l2 k c) (SlAt.nil _ _).rd (show (0 : Nat) < 1000000 by decide)).mono ?_
          rintro v w12 ⟨rfl, hH12, hu12⟩
          have y12 := (hu12.same p9 (blk_lt yp) fun hf => hf.2 (.inr rfl)).trans yp
          ((repeat simp only [push_cast, Nat.reduceBEq, Nat.reduceLT, Nat.reduceEqDiff, reduceIte, reduceCtorEq, Nat.reduceMul, Nat.reduceAdd, Nat.reduceSub, Int.reduceEq, Int.reduceLT, Int.reduceLE, Int.reduceNeg, Int.reduceAdd, Int.reduceSub, Int.reduceMul, Nat.reduceLeDiff, Int.reduceToNat, cell_h, can_h, cellO_cells, canO_cells, setO_cells, heap_set_h, heap_alloc_h, size_set_h, size_alloc_h, vcells_agg, succ_ne, ne_succ, List.setIfInBounds_toArray, List.set_cons_succ, List.set_cons_zero, setCells, drew_h, y12]); (repeat (first | (with_reducible first | (refine hK _ _ ?_; clear hK K) | refine (show ∀ σ' w', _ → K σ' w' from by assumption) _ _ ?_ | refine W_seq_k fun K hK => ?_ | refine W_block_k fun K hK => ?_ | refine W_skip ?_ | refine W_ret ?_) | ((first | ((with_reducible refine W_id ?_); refine W_reg (by decide) (by rfl) ?_) | (with_reducible first | refine W_cond ?_ | refine hZ _ _ ?_ | refine W_exit ?_ | refine Wo_id ?_)); repeat1' simp only [push_cast, Nat.reduceBEq, Nat.reduceLT, Nat.reduceEqDiff, reduceIte, reduceCtorEq, Nat.reduceMul, Nat.reduceAdd, Nat.reduceSub, Int.reduceEq, Int.reduceLT, Int.reduceLE, Int.reduceNeg, Int.reduceAdd, Int.reduceSub, Int.reduceMul, Nat.reduceLeDiff, Int.reduceToNat, cell_h, can_h, cellO_cells, canO_cells, setO_cells, heap_set_h, heap_alloc_h, size_set_h, size_alloc_h, vcells_agg, succ_ne, ne_succ, List.setIfInBounds_toArray, List.set_cons_succ, List.set_cons_zero, setCells, drew_h, y12]) | ((repeat ((fail_if_success with_reducible refine hK _ _ ?_); clear hK K)); (with_reducible refine hK _ _ ?_); clear hK K))))
          rw [← hval]
          refine (two_b hH12 hlen (m := kitLd l2 k c) rfl (fun b hb => ?_) (SlAt.nil _ _).rd (show (0 : Nat) < 1000000 by decide)).mono ?_
          · have h1 := blk_lt y12
            have h2 := hu12.alike.size
            rcases hb with rfl | rfl <;> omega
          rintro v w13 ⟨rfl, hH13, hu13⟩
          have y13 := (hu13.same p1 (by have := hu12.alike.size; have := yx.alike.size; omega) fun hf => hf.2 (.inl rfl)).trans ((hu12.same p1 (by have := yx.alike.size; omega) fun hf => hf.2 (.inl rfl)).trans (yx.blk y18))
          ((repeat simp only [push_cast, Nat.reduceBEq, Nat.reduceLT, Nat.reduceEqDiff, reduceIte, reduceCtorEq, Nat.reduceMul, Nat.reduceAdd, Nat.reduceSub, Int.reduceEq, Int.reduceLT, Int.reduceLE, Int.reduceNeg, Int.reduceAdd, Int.reduceSub, Int.reduceMul, Nat.reduceLeDiff, Int.reduceToNat, d2]); (repeat (first | (with_reducible first | (refine hK _ _ ?_; clear hK K) | refine (show ∀ σ' w', _ → K σ' w' from by assumption) _ _ ?_ | refine W_seq_k fun K hK => ?_ | refine W_block_k fun K hK => ?_ | refine W_skip ?_ | refine W_ret ?_) | ((first | ((with_reducible refine W_id ?_); refine W_reg (by decide) (by rfl) ?_) | (with_reducible first | refine W_cond ?_ | refine hZ _ _ ?_ | refine W_exit ?_ | refine Wo_id ?_)); repeat1' simp only [push_cast, Nat.reduceBEq, Nat.reduceLT, Nat.reduceEqDiff, reduceIte, reduceCtorEq, Nat.reduceMul, Nat.reduceAdd, Nat.reduceSub, Int.reduceEq, Int.reduceLT, Int.reduceLE, Int.reduceNeg, Int.reduceAdd, Int.reduceSub, Int.reduceMul, Nat.reduceLeDiff, Int.reduceToNat, d2]) | ((repeat ((fail_if_success with_reducible refine hK _ _ ?_); clear hK K)); (with_reducible refine hK _ _ ?_); clear hK K))))
          refine ⟨k + 1, by omega, ?_⟩
          (repeat simp only [push_cast, Nat.reduceBEq, Nat.reduceLT, Nat.reduceEqDiff, reduceIte, reduceCtorEq, Nat.reduceMul, Nat.reduceAdd, Nat.reduceSub, Int.reduceEq, Int.reduceLT, Int.reduceLE, Int.reduceNeg, Int.reduceAdd, Int.reduceSub, Int.reduceMul, Nat.reduceLeDiff, Int.reduceToNat])
          rw [eT]
          exact ⟨by omega, hH13.pass (Ext.refl _) fun b hb => .inl (.inl hb), y13⟩
      · have hval : (kitLd l2 k c).val = .agg #[.int .i64 3, .string (nmT c), .string ⟨#[]⟩, .int .i64 0, .slice none 0 0, .bool false, .int .i64 0, .int .i64 0, .slice none 0 0, .int .i64 0, .int .i64 0] := by
          rw [Laid.val_eq]
          simp only [kitLd, kitN, zN]
          rw [if_neg (fun h => hs h.1)]
        have d3 : ¬ (k : Int) < (l2.length : Int) := by omega
        ((repeat simp only [push_cast, Nat.reduceBEq, Nat.reduceLT, Nat.reduceEqDiff, reduceIte, reduceCtorEq, Nat.reduceMul, Nat.reduceAdd, Nat.reduceSub, Int.reduceEq, Int.reduceLT, Int.reduceLE, Int.reduceNeg, Int.reduceAdd, Int.reduceSub, Int.reduceMul, Nat.reduceLeDiff, Int.reduceToNat, d0, d1, d3, cell_h, can_h, cellO_cells, canO_cells, setO_cells, heap_set_h, heap_alloc_h, size_set_h, size_alloc_h, vcells_agg, succ_ne, ne_succ, List.setIfInBounds_toArray, List.set_cons_succ, List.set_cons_zero, setCells, drew_h, y1, yp, hne, hne']); (repeat (first | (with_reducible first | (refine hK _ _ ?_; clear hK K) | refine (show ∀ σ' w', _ → K σ' w' from by assumption) _ _ ?_ | refine W_seq_k fun K hK => ?_ | refine W_block_k fun K hK => ?_ | refine W_skip ?_ | refine W_ret ?_) | ((first | ((with_reducible refine W_id ?_); refine W_reg (by decide) (by rfl) ?_) | (with_reducible first | refine W_cond ?_ | refine hZ _ _ ?_ | refine W_exit ?_ | refine Wo_id ?_)); repeat1' simp only [push_cast, Nat.reduceBEq, Nat.reduceLT, Nat.reduceEqDiff, reduceIte, reduceCtorEq, Nat.reduceMul, Nat.reduceAdd, Nat.reduceSub, Int.reduceEq, Int.reduceLT, Int.reduceLE, Int.reduceNeg, Int.reduceAdd, Int.reduceSub, Int.reduceMul, Nat.reduceLeDiff, Int.reduceToNat, d0, d1, d3, cell_h, can_h, cellO_cells, canO_cells, setO_cells, heap_set_h, heap_alloc_h, size_set_h, size_alloc_h, vcells_agg, succ_ne, ne_succ, List.setIfInBounds_toArray, List.set_cons_succ, List.set_cons_zero, setCells, drew_h, y1, yp, hne, hne']) | ((repeat ((fail_if_success with_reducible refine hK _ _ ?_); clear hK K)); (with_reducible refine hK _ _ ?_); clear hK K))))
        rw [← hval]
        have hH11 := hout _ (by rw [yp]; rfl) yx
        generalize w10 = w11 at *
        refine (two_a hH11 hlen (m := kitLd l2 k c) (SlAt.nil _ _).rd (show (0 : Nat) < 1000000 by decide)).mono ?_
        rintro v w12 ⟨rfl, hH12, hu12⟩
        have y12 := (hu12.same p9 (blk_lt yp) fun hf => hf.2 (.inr rfl)).trans yp
        ((repeat simp only [push_cast, Nat.reduceBEq, Nat.reduceLT, Nat.reduceEqDiff, reduceIte, reduceCtorEq, Nat.reduceMul, Nat.reduceAdd, Nat.reduceSub, Int.reduceEq, Int.reduceLT, Int.reduceLE, Int.reduceNeg, Int.reduceAdd, Int.reduceSub, Int.reduceMul, Nat.reduceLeDiff, Int.reduceToNat, cell_h, can_h, cellO_cells, canO_cells, setO_cells, heap_set_h, heap_alloc_h, size_set_h, size_alloc_h, vcells_agg, succ_ne, ne_succ, List.setIfInBounds_toArray, List.set_cons_succ, List.set_cons_zero, setCells, drew_h, y12]); (repeat (first | (with_reducible first | (refine hK _ _ ?_; clear hK K) | refine (show ∀ σ' w', _ → K σ' w' from by assumption) _ _ ?_ | refine W_seq_k fun K hK => ?_ | refine W_block_k fun K hK => ?_ | refine W_skip ?_ | refine W_ret ?_) | ((first | ((with_reducible refine W_id ?_); refine W_reg (by decide) (by rfl) ?_) | (with_reducible first | refine W_cond ?_ | refine hZ _ _ ?_ | refine W_exit ?_ | refine Wo_id ?_)); repeat1' simp only [push_cast, Nat.reduceBEq, Nat.reduceLT, Nat.reduceEqDiff, reduceIte, reduceCtorEq, Nat.reduceMul, Nat.reduceAdd, Nat.reduceSub, Int.reduceEq, Int.reduceLT, Int.reduceLE, Int.reduceNeg, Int.reduceAdd, Int.reduceSub, Int.reduceMul, Nat.reduceLeDiff, Int.reduceToNat, cell_h, can_h, cellO_cells, canO_cells, setO_cells, heap_set_h, heap_alloc_h, size_set_h, size_alloc_h, vcells_agg, succ_ne, ne_succ, List.setIfInBounds_toArray, List.set_cons_succ, List.set_cons_zero, setCells, drew_h, y12]) | ((repeat ((fail_if_success with_reducible refine hK _ _ ?_); clear hK K)); (with_reducible refine hK _ _ ?_); clear hK K))))
        rw [← hval]
        refine (two_b hH12 hlen (m := kitLd l2 k c) rfl (fun b hb => ?_) (SlAt.nil _ _).rd (show (0 : Nat) < 1000000 by decide)).mono ?_
        · have h1 := blk_lt y12
          have h2 := hu12.alike.size
          rcases hb with rfl | rfl <;> omega
        rintro v w13 ⟨rfl, hH13, hu13⟩
        have y13 := (hu13.same p1 (by have := hu12.alike.size; have := yx.alike.size; omega) fun hf => hf.2 (.inl rfl)).trans ((hu12.same p1 (by have := yx.alike.size; omega) fun hf => hf.2 (.inl rfl)).trans (yx.blk y18))
        ((repeat simp only [push_cast, Nat.reduceBEq, Nat.reduceLT, Nat.reduceEqDiff, reduceIte, reduceCtorEq, Nat.reduceMul, Nat.reduceAdd, Nat.reduceSub, Int.reduceEq, Int.reduceLT, Int.reduceLE, Int.reduceNeg, Int.reduceAdd, Int.reduceSub, Int.reduceMul, Nat.reduceLeDiff, Int.reduceToNat, d2]); (repeat (first | (with_reducible first | (refine hK _ _ ?_; clear hK K) | refine (show ∀ σ' w', _ → K σ' w' from by assumption) _ _ ?_ | refine W_seq_k fun K hK => ?_ | refine W_block_k fun K hK => ?_ | refine W_skip ?_ | refine W_ret ?_) | ((first | ((with_reducible refine W_id ?_); refine W_reg (by decide) (by rfl) ?_) | (with_reducible first | refine W_cond ?_ | refine hZ _ _ ?_ | refine W_exit ?_ | refine Wo_id ?_)); repeat1' simp only [push_cast, Nat.reduceBEq, Nat.reduceLT, Nat.reduceEqDiff, reduceIte, reduceCtorEq, Nat.reduceMul, Nat.reduceAdd, Nat.reduceSub, Int.reduceEq, Int.reduceLT, Int.reduceLE, Int.reduceNeg, Int.reduceAdd, Int.reduceSub, Int.reduceMul, Nat.reduceLeDiff, Int.reduceToNat, d2]) | ((repeat ((fail_if_success with_reducible refine hK _ _ ?_); clear hK K)); (with_reducible refine hK _ _ ?_); clear hK K))))
        refine ⟨k + 1, by omega, ?_⟩
        (repeat simp only [push_cast, Nat.reduceBEq, Nat.reduceLT, Nat.reduceEqDiff, reduceIte, reduceCtorEq, Nat.reduceMul, Nat.reduceAdd, Nat.reduceSub, Int.reduceEq, Int.reduceLT, Int.reduceLE, Int.reduceNeg, Int.reduceAdd, Int.reduceSub, Int.reduceMul, Nat.reduceLeDiff, Int.reduceToNat])
        rw [eT]
        exact ⟨by omega, hH13.pass (Ext.refl _) fun b hb => .inl (.inl hb), y13⟩
    · obtain rfl : k = l1.length := by omega
      have d0 : ¬ (l1.length : Int) < (l1.length : Int) := by omega
      rw [List.take_length] at hH8
      (repeat (first | (with_reducible first | (refine hK _ _ ?_; clear hK K) | refine (show ∀ σ' w', _ → K σ' w' from by assumption) _ _ ?_ | refine W_seq_k fun K hK => ?_ | refine W_block_k fun K hK => ?_ | refine W_skip ?_ | refine W_ret ?_) | ((first | ((with_reducible refine W_id ?_); refine W_reg (by decide) (by rfl) ?_) | (with_reducible first | refine W_cond ?_ | refine hZ _ _ ?_ | refine W_exit ?_ | refine Wo_id ?_)); repeat1' simp only [push_cast, Nat.reduceBEq, Nat.reduceLT, Nat.reduceEqDiff, reduceIte, reduceCtorEq, Nat.reduceMul, Nat.reduceAdd, Nat.reduceSub, Int.reduceEq, Int.reduceLT, Int.reduceLE, Int.reduceNeg, Int.reduceAdd, Int.reduceSub, Int.reduceMul, Nat.reduceLeDiff, Int.reduceToNat, d0, cell_h, cellO_cells, z18]) | ((repeat ((fail_if_success with_reducible refine hK _ _ ?_); clear hK K)); (with_reducible refine hK _ _ ?_); clear hK K)))
      exact ⟨pa, pb, rfl, hH8.pass (Ext.refl _) fun b hb => hb.elim⟩
end Go.Proofs.YtkafpameheohdaaDoor
end
section
set_option linter.unusedSimpArgs false
set_option linter.unusedVariables false
namespace Go.Vk
open Go
def isE (L : List Nd) (n : Nat) : Prop := 3 ≤ n ∧ ((nd? L (n : Int)).getD zN).kind = 3
instance (L : List Nd) (n : Nat) : Decidable (isE L n) := inferInstanceAs (Decidable (_ ∧ _))
def elS (L : List Nd) : Nat → List OpS
  | 0 => []
  | n + 1 => if isE L n then elS L n ++ [opN L (n : Int)] else elS L n
theorem elS_mem {L : List Nd} : ∀ {n : Nat} {o : OpS}, o ∈ elS L n → ∃ k, isE L k ∧ k < n ∧ o = opN L (k : Int)
  | 0, o, h => by simp [elS] at h
  | n + 1, o, h => by
    rw [elS] at h
    split at h
    · rename_i he
      rcases List.mem_append.1 h with h | h
      · obtain ⟨k, h1, h2, h3⟩ := elS_mem h; exact ⟨k, h1, by omega, h3⟩
      · rw [List.mem_singleton] at h; exact ⟨n, he, by omega, h⟩
    · obtain ⟨k, h1, h2, h3⟩ := elS_mem h; exact ⟨k, h1, by omega, h3⟩
theorem elS_len (L : List Nd) : ∀ n : Nat, (elS L n).length ≤ n
  | 0 => by simp [elS]
  | n + 1 => by
    have := elS_len L n
    rw [elS]; split
    · simp; omega
    · omega
theorem elS_inc (L : List Nd) : ∀ n : Nat, (elS L n).Pairwise fun a b => a.node < b.node
  | 0 => by simp [elS]
  | n + 1 => by
    have h1 := elS_inc L n
    rw [elS]; split
    · refine List.pairwise_append.2 ⟨h1, by simp, fun a ha b hb => ?_⟩
      obtain ⟨k, _, h3, rfl⟩ := elS_mem ha
      rw [List.mem_singleton] at hb
      subst hb
      show (k : Int) < (n : Int)
      omega
    · exact h1
theorem ins_end {L : List Nd} {s : List OpS} {i : Int} (hs : s.length < 512) (hk : ((nd? L i).getD zN).kind = 3) : insS L s s.length i = (s ++ [opN L i], 0) := by
  unfold insS
  rw [if_pos hk, if_pos ⟨by omega, by omega⟩, if_neg (by omega)]
  simp
/-- elements have names of the list, and no attributes -/
def okN (n : Nd) : Prop := (n.kind = 3 → n.name ∈ nmL) ∧ n.attrs.length < 1000000
theorem addN_ok {L : List Nd} {n : Nd} (h : ∀ x ∈ L, okN x) (hn : okN n) : ∀ x ∈ (addN L n).1, okN x := by
  intro x hx
  unfold addN at hx
  have hc : okN contN := ⟨fun h => absurd h (by decide), by decide⟩
  split at hx
  · split at hx
    · simp only [List.mem_append, List.mem_cons, List.not_mem_nil, or_false] at hx
      rcases hx with hx | rfl | rfl
      · exact h x hx
      · exact hn
      · exact hc
    · simp only [List.mem_append, List.mem_cons, List.not_mem_nil, or_false] at hx
      rcases hx with hx | rfl
      · exact h x hx
      · exact hn
  · exact h x hx
theorem kitK_ok (l2 : List Nat) : ∀ (r : List Nat) (i : Nat) (L : List Nd), (∀ x ∈ L, okN x) → ∀ x ∈ kitK l2 r i L, okN x
  | [], _, L, h => h
  | c :: r, i, L, h => kitK_ok l2 r (i + 1) _ (addN_ok h ⟨fun _ => nmT_mem c, show (0 : Nat) < 1000000 by decide⟩)
theorem kitL_ok (l1 l2 : List Nat) : ∀ x ∈ kitL l1 l2, okN x := kitK_ok l2 l1 0 kit0 (by
  intro x hx
  simp only [kit0, List.mem_cons, List.not_mem_nil, or_false] at hx
  rcases hx with rfl | rfl | rfl <;> exact ⟨fun h => absurd h (by decide), by decide⟩)
theorem elS_nm {l1 l2 : List Nat} {n : Nat} : ∀ o ∈ elS (kitL l1 l2) n, o.name ∈ nmL := fun o ho => by
  obtain ⟨k, h1, _, rfl⟩ := elS_mem ho
  have h2 := h1.2
  show ((nd? (kitL l1 l2) (k : Int)).getD zN).name ∈ nmL
  cases hx : nd? (kitL l1 l2) (k : Int) with
  | none => rw [hx] at h2; exact absurd h2 (by decide)
  | some x =>
    rw [hx] at h2
    rw [nd?_nat] at hx
    exact (kitL_ok l1 l2 x (List.mem_of_getElem? hx)).1 h2
theorem nm_size : ∀ x ∈ nmL, x.size < 4294967281 := of_decide_eq_true (by kernel_rfl)
theorem kitK_ne (l2 : List Nat) : ∀ (r : List Nat) (i : Nat) (L : List Nd), L.length ≤ (kitK l2 r i L).length
  | [], _, L => Nat.le_refl _
  | c :: r, i, L => Nat.le_trans (by unfold addN; split; split <;> simp; exact Nat.le_refl _) (kitK_ne l2 r (i + 1) _)
theorem kitL_ge (l1 l2 : List Nat) : 3 ≤ (kitL l1 l2).length := kitK_ne l2 l1 0 kit0
end Go.Vk
end
section
set_option linter.unusedSimpArgs false
set_option linter.unusedVariables false
namespace Go.Vk
open Go
theorem lastB_eq {p : Nat → Bool} {q : Nat} : ∀ {k : Nat}, q < k → p q = true → (∀ j, q < j → j < k → p j = false) → lastB p k = q
  | 0, h, _, _ => by omega
  | k + 1, h, hq, hj => by
    rw [lastB]
    by_cases e : q = k
    · subst e; rw [if_pos hq]
    · rw [if_neg (by rw [hj k (by omega) (by omega)]; decide)]
      exact lastB_eq (by omega) hq fun j h1 h2 => hj j h1 (by omega)
theorem lastB_some {p : Nat → Bool} {q : Nat} : ∀ {k : Nat}, q < k → p q = true → (q : Int) ≤ lastB p k
  | 0, h, _ => by omega
  | k + 1, h, hq => by
    rw [lastB]
    split
    · omega
    · rename_i hk
      by_cases e : q = k
      · subst e; exact absurd hq hk
      · exact lastB_some (by omega) hq
theorem getD_lt {s : List OpS} {j : Nat} (h : j < s.length) : s.getD j zS = s[j] := by simp [List.getD, h]
end Go.Vk
end
