/- The reference's product. -/
import Derived.Test.YtjkdpnkbdfnokaaDoorR1
set_option linter.unusedSimpArgs false
set_option linter.unusedVariables false
namespace Go.Rm
/-- behind i digits of a and k of b are gone through: what the digits so far and the carry come to -/
structure Mul (a b : List Nat) (i k c : Nat) (l : List Nat) : Prop where
  len : l.length = a.length + b.length
  dg : Dg l
  carry : c < 65536
  zero : ∀ j, i + b.length ≤ j → l.getD j 0 = 0
  val : V l + c * 65536 ^ (i + k) = V (a.take i) * V b + a.getD i 0 * 65536 ^ i * V (b.take k)
theorem getD_set (l : List Nat) (i j d : Nat) (h : i ≠ j) : (l.set i d).getD j 0 = l.getD j 0 := by
  simp [List.getD_eq_getElem?_getD, List.getElem?_set_ne h]
theorem Mul.step {a b l : List Nat} {i k c : Nat} (h : Mul a b i k c l) (ha : Dg a) (hb : Dg b) (hi : i < a.length) (hk : k < b.length) :
    Mul a b i (k + 1) ((l.getD (i + k) 0 + a.getD i 0 * b.getD k 0 + c) / 65536) (l.set (i + k) ((l.getD (i + k) 0 + a.getD i 0 * b.getD k 0 + c) % 65536)) := by
  have hs := V_set l (i + k) ((l.getD (i + k) 0 + a.getD i 0 * b.getD k 0 + c) % 65536) (by rw [h.len]; omega)
  have hm := mul_step (n := l.getD (i + k) 0 + a.getD i 0 * b.getD k 0 + c) (B := 65536 ^ (i + k)) rfl
  have hv := h.val
  have ht := V_take_succ b k hk
  refine ⟨by simpa using h.len, Dg_set h.dg (Nat.mod_lt _ (by decide)), carry_lt (Dg_get h.dg _) (Dg_get ha i) (Dg_get hb k) h.carry rfl, fun j hj => ?_, ?_⟩
  · rw [getD_set _ _ _ _ (by omega)]; exact h.zero j hj
  · rw [ht]
    have e1 : a.getD i 0 * 65536 ^ i * (V (b.take k) + b.getD k 0 * 65536 ^ k) = a.getD i 0 * 65536 ^ i * V (b.take k) + a.getD i 0 * b.getD k 0 * 65536 ^ (i + k) := by
      rw [Nat.mul_add, Nat.pow_add]; congr 1; ac_rfl
    have e2 : 65536 ^ (i + (k + 1)) = 65536 * 65536 ^ (i + k) := by rw [← Nat.add_assoc, Nat.pow_succ, Nat.mul_comm]
    rw [e1, e2]
    generalize (65536 : Nat) ^ (i + k) = B at *
    generalize V (a.take i) * V b = Q at *
    generalize a.getD i 0 * 65536 ^ i * V (b.take k) = R at *
    generalize a.getD i 0 * b.getD k 0 = P at *
    generalize l.getD (i + k) 0 = x at *
    generalize V (l.set (i + k) ((x + P + c) % 65536)) = Y at *
    rw [Nat.add_mul, Nat.add_mul] at hm
    omega
theorem Mul.last {a b l : List Nat} {i c : Nat} (h : Mul a b i b.length c l) (hi : i < a.length) : Mul a b (i + 1) 0 0 (l.set (i + b.length) c) := by
  have hs := V_set l (i + b.length) c (by rw [h.len]; omega)
  rw [h.zero _ (Nat.le_refl _)] at hs
  have hv := h.val
  refine ⟨by simpa using h.len, Dg_set h.dg h.carry, by decide, fun j hj => ?_, ?_⟩
  · rw [getD_set _ _ _ _ (by omega)]; exact h.zero j (by omega)
  · rw [List.take_of_length_le (Nat.le_refl _)] at hv
    rw [V_take_succ a i hi, List.take_zero, V, Nat.mul_zero, Nat.zero_mul, Nat.add_mul]
    omega
theorem Mul.start (a b : List Nat) : Mul a b 0 0 0 (List.replicate (a.length + b.length) 0) := by
  refine ⟨by simp, Dg_zeros _, by decide, fun j _ => ?_, by simp [V_zeros, V]⟩
  rw [List.getD_eq_getElem?_getD]
  by_cases h : j < a.length + b.length
  · simp [h]
  · rw [List.getElem?_eq_none (by simp; omega)]; rfl
theorem Mul.done {a b l : List Nat} (h : Mul a b a.length 0 0 l) : V l = V a * V b := by
  have := h.val
  rw [List.take_of_length_le (Nat.le_refl _), List.take_zero, V] at this
  omega
theorem Mul.begin {a b l : List Nat} {i : Nat} (h : Mul a b i 0 0 l) : Mul a b i 0 0 l := h
end Go.Rm
namespace Go.Proofs.YtjkdpnkbdfnokaaDoor
open Go.Vk
set_option maxHeartbeats 40000000
set_option linter.unusedSimpArgs false
set_option linter.unusedVariables false
attribute [local push_cast] Wo_nil Wo_plain Wo_on Wo_off gtmp Option.bind_some Option.bind_none vcOp on_some evO_tmp evO_const evO_global evO_func find_hit find_miss put_some put_none only_true vcNil loadD onCells allStore vcBin vcInt arith vcStr isPtr isSlice isBool vcUn vcConv vcField vcIndex vcIdx vcLoad vcLen vcBuiltin vcCall vcPas Bool.not_true Bool.not_false cond_true cond_false Bool.cond_false_right Bool.cond_true_left Bool.cond_true_right Bool.cond_false_left Bool.not_not Bool.and_true Bool.true_and Bool.and_false Bool.false_and Bool.or_false Bool.false_or Bool.or_true Bool.true_or  and_assoc add_mk Nat.zero_add Nat.add_zero Int.toNat_natCast undef onL onO onP pickV withSz oneCell bnd vcBounds vcSlice List.size_toArray List.length_cons List.length_nil List.all_cons List.all_nil pureSem Option.some.injEq Value.pointer.injEq Value.int.injEq Value.bool.injEq Value.slice.injEq Value.string.injEq Value.agg.injEq Value.tuple.injEq Value.func.injEq exists_eq_left' and_true true_and Bool.not_eq_true Option.isNone_some Option.isNone_none Bool.false_eq_true false_and and_false false_implies true_implies implies_true decide_true decide_false forall_const List.getElem?_toArray List.getElem?_cons_succ List.getElem?_cons_zero ne_eq not_false_eq_true exists_and_left List.nil_append List.append_nil exists_const and_self Option.isSome_none Option.isSome_some Nat.mul_one Nat.one_mul Nat.zero_mul vcStore argR Go.Vk.Sub resL resV Func.results List.toList_toArray if_true if_false
attribute [local push_cast] Tryd.underlying0 Tryd.sizeOf0 Tryd.underlying1 Tryd.sizeOf1 Tryd.underlying2 Tryd.sizeOf2 Tryd.underlying3 Tryd.sizeOf3 Tryd.underlying4 Tryd.sizeOf4 Tryd.underlying5 Tryd.sizeOf5 Tryd.underlying6 Tryd.sizeOf6 Tryd.underlying7 Tryd.sizeOf7 Tryd.underlying8 Tryd.sizeOf8 Tryd.underlying9 Tryd.sizeOf9 Tryd.underlying10 Tryd.sizeOf10 Tryd.underlying11 Tryd.sizeOf11 Tryd.underlying12 Tryd.sizeOf12 Tryd.underlying13 Tryd.sizeOf13 Tryd.underlying14 Tryd.sizeOf14 Tryd.underlying15 Tryd.sizeOf15 Tryd.underlying16 Tryd.sizeOf16 Tryd.underlying17 Tryd.sizeOf17 Tryd.underlying18 Tryd.sizeOf18 Tryd.underlying19 Tryd.sizeOf19 Tryd.underlying20 Tryd.sizeOf20 Tryd.underlying21 Tryd.sizeOf21 Tryd.underlying22 Tryd.sizeOf22 Tryd.underlying23 Tryd.sizeOf23 Tryd.underlying24 Tryd.sizeOf24 Tryd.underlying25 Tryd.sizeOf25 Tryd.underlying26 Tryd.sizeOf26 Tryd.underlying27 Tryd.sizeOf27 Tryd.underlying28 Tryd.sizeOf28 Tryd.underlying29 Tryd.sizeOf29 Tryd.underlying30 Tryd.sizeOf30 Tryd.underlying31 Tryd.sizeOf31 Tryd.underlying32 Tryd.sizeOf32 Tryd.underlying33 Tryd.sizeOf33 Tryd.underlying34 Tryd.sizeOf34 Tryd.underlying35 Tryd.sizeOf35 Tryd.underlying36 Tryd.sizeOf36 Tryd.underlying37 Tryd.sizeOf37 Tryd.underlying38 Tryd.sizeOf38 Tryd.underlying39 Tryd.sizeOf39 Tryd.underlying40 Tryd.sizeOf40 Tryd.underlying41 Tryd.sizeOf41 Tryd.underlying42 Tryd.sizeOf42 Tryd.underlying43 Tryd.sizeOf43 Tryd.underlying44 Tryd.sizeOf44 Tryd.underlying45 Tryd.sizeOf45 Tryd.underlying46 Tryd.sizeOf46 Tryd.underlying47 Tryd.sizeOf47 Tryd.underlying48 Tryd.sizeOf48 Tryd.underlying49 Tryd.sizeOf49 Tryd.underlying50 Tryd.sizeOf50 Tryd.underlying51 Tryd.sizeOf51 Tryd.underlying52 Tryd.sizeOf52 Tryd.underlying53 Tryd.sizeOf53 Tryd.underlying54 Tryd.sizeOf54 Tryd.underlying55 Tryd.sizeOf55 Tryd.underlying56 Tryd.sizeOf56 Tryd.underlying57 Tryd.sizeOf57 Tryd.underlying58 Tryd.sizeOf58 Tryd.underlying59 Tryd.sizeOf59 Tryd.underlying60 Tryd.sizeOf60 Tryd.underlying61 Tryd.sizeOf61 Tryd.underlying62 Tryd.sizeOf62 Tryd.underlying63 Tryd.sizeOf63 Tryd.underlying64 Tryd.sizeOf64 Tryd.underlying65 Tryd.sizeOf65 Tryd.underlying66 Tryd.sizeOf66 Tryd.underlying67 Tryd.sizeOf67 Tryd.underlying68 Tryd.sizeOf68 Tryd.underlying69 Tryd.sizeOf69 Tryd.underlying70 Tryd.sizeOf70 Tryd.underlying71 Tryd.sizeOf71 Tryd.underlying72 Tryd.sizeOf72 Tryd.underlying73 Tryd.sizeOf73 Tryd.underlying74 Tryd.sizeOf74 Tryd.underlying75 Tryd.sizeOf75
attribute [local push_cast] Tryd.results0 Tryd.results1 Tryd.results2 Tryd.results3 Tryd.results4 Tryd.results5 Tryd.results6 Tryd.results7 Tryd.results8 Tryd.results9 Tryd.results10 Tryd.results11 Tryd.results12 Tryd.results13 Tryd.results14 Tryd.results15 Tryd.results16 Tryd.results17 Tryd.results18 Tryd.results19 Tryd.results20 Tryd.results21 Tryd.results22 Tryd.results23 Tryd.results24 Tryd.results25 Tryd.results26 Tryd.results27 Tryd.results28 Tryd.results29 Tryd.results30 Tryd.results31 Tryd.results32 Tryd.results33 Tryd.results34 Tryd.results35 Tryd.results36 Tryd.results37 Tryd.results38 Tryd.results39 Tryd.results40 Tryd.results41 Tryd.results42 Tryd.results43 Tryd.results44 Tryd.results45 Tryd.results46 Tryd.results47 Tryd.results48 Tryd.results49 Tryd.results50 Tryd.results51 Tryd.results52 Tryd.results53 Tryd.results54 Tryd.results55 Tryd.results56 Tryd.results57 Tryd.results58 Tryd.results59
structure TimI (a b : List Nat) (i k c : Nat) (l : List Nat) (pv : Value) (B : Nat) (w0 w : World) : Prop where
  mul : Rm.Mul a b i k c l
  at_ : SlAt w 1 pv (natCells l) (some B)
  ext : Upd (fun i => i = B) w0 w
theorem times_c {w : World} {va vb : Value} {a b : List Nat} {ba bb : Option Nat} (ha : SlAt w 1 va (natCells a) ba) (hb : SlAt w 1 vb (natCells b) bb) (ha0 : 0 < a.length) (hb0 : 0 < b.length) (hal : a.length ≤ 1000) (hbl : b.length ≤ 1000) (da : Rm.Dg a) (db : Rm.Dg b) :
    Gives Tryd.prog 30 #[va, vb] w fun u w' => ∃ l B, SlAt w' 1 u (natCells l) (some B) ∧ w.heap.size ≤ B ∧ l.length = a.length + b.length ∧ Rm.Dg l ∧ Rm.V l = Rm.V a * Rm.V b ∧ Ext w w' := by
  obtain ⟨p1, o1, c1, rfl, rfl⟩ := ha.nat_some ha0
  obtain ⟨p2, o2, c2, rfl, rfl⟩ := hb.nat_some hb0
  obtain ⟨n, hn⟩ : ∃ n, n = a.length + b.length := ⟨_, rfl⟩
  have e1 : (a.length : Int) + (b.length : Int) = (n : Int) := by omega
  have e2 : inI64 (n : Int) := by unfold inI64; omega
  refine Gives.of_W Tryd.call30 Tryd.func30 rfl Tryd.ntmps30 (by simp) ?_; intro Z hZ
  (repeat (first | ((with_reducible refine hK _ _ ?_); clear hK K) | (with_reducible refine (show ∀ σ' w', _ → K σ' w' from by assumption) _ _ ?_) | (with_reducible refine W_seq_k fun K hK => ?_) | (with_reducible refine W_block_k fun K hK => ?_) | (with_reducible refine W_skip ?_) | (with_reducible refine W_ret ?_) | ((first | ((with_reducible refine W_id ?_); refine W_reg (by decide) (by rfl) ?_) | (with_reducible refine W_cond ?_) | (with_reducible refine hZ _ _ ?_)); (repeat simp only [push_cast, Nat.reduceBEq, Nat.reduceLT, Nat.reduceEqDiff, reduceIte, reduceCtorEq, Nat.reduceMul, Nat.reduceAdd, Nat.reduceSub, Int.reduceEq, Int.reduceLT, Int.reduceLE, Int.reduceNeg, Int.reduceAdd, Int.reduceSub, Int.reduceMul, Nat.reduceLeDiff, Int.reduceToNat, e1, e2])) | ((with_reducible refine W_exit ?_); (repeat simp only [push_cast, Nat.reduceBEq, Nat.reduceLT, Nat.reduceEqDiff, reduceIte, reduceCtorEq, Nat.reduceMul, Nat.reduceAdd, Nat.reduceSub, Int.reduceEq, Int.reduceLT, Int.reduceLE, Int.reduceNeg, Int.reduceAdd, Int.reduceSub, Int.reduceMul, Nat.reduceLeDiff, Int.reduceToNat]); clear hK K; (first | ((with_reducible refine hK _ _ ?_); clear hK K) | (clear hK K; (with_reducible refine hK _ _ ?_); clear hK K) | (clear hK K; clear hK K; (with_reducible refine hK _ _ ?_); clear hK K) | (clear hK K; clear hK K; clear hK K; (with_reducible refine hK _ _ ?_); clear hK K) | (clear hK K; clear hK K; clear hK K; clear hK K; (with_reducible refine hK _ _ ?_); clear hK K) | (clear hK K; clear hK K; clear hK K; clear hK K; clear hK K; (with_reducible refine hK _ _ ?_); clear hK K) | (clear hK K; clear hK K; clear hK K; clear hK K; clear hK K; clear hK K; (with_reducible refine hK _ _ ?_); clear hK K))) | ((with_reducible refine Wo_id ?_); simp only [push_cast, Nat.reduceBEq, Nat.reduceLT, Nat.reduceEqDiff, reduceIte, reduceCtorEq, Nat.reduceMul, Nat.reduceAdd, Nat.reduceSub, Int.reduceEq, Int.reduceLT, Int.reduceLE, Int.reduceNeg, Int.reduceAdd, Int.reduceSub, Int.reduceMul, Nat.reduceLeDiff, Int.reduceToNat, e1, e2])))
  refine make_zero Tryd.underlying35 ety3 rfl (by omega) ?_
  intro v w1 hS hx1 hv _
  have hs1 := hx1.alike.size
  subst hv
  rw [natCells_zeros] at hS
  have hp1 := ha.lt
  have hp2 := hb.lt
  have hz1 : w.heap.size < w1.heap.size := hS.lt
  ((repeat simp only [push_cast, Nat.reduceBEq, Nat.reduceLT, Nat.reduceEqDiff, reduceIte, reduceCtorEq, Nat.reduceMul, Nat.reduceAdd, Nat.reduceSub, Int.reduceEq, Int.reduceLT, Int.reduceLE, Int.reduceNeg, Int.reduceAdd, Int.reduceSub, Int.reduceMul, Nat.reduceLeDiff, Int.reduceToNat]); (repeat (first | ((with_reducible refine hK _ _ ?_); clear hK K) | (with_reducible refine (show ∀ σ' w', _ → K σ' w' from by assumption) _ _ ?_) | (with_reducible refine W_seq_k fun K hK => ?_) | (with_reducible refine W_block_k fun K hK => ?_) | (with_reducible refine W_skip ?_) | (with_reducible refine W_ret ?_) | ((first | ((with_reducible refine W_id ?_); refine W_reg (by decide) (by rfl) ?_) | (with_reducible refine W_cond ?_) | (with_reducible refine hZ _ _ ?_)); (repeat simp only [push_cast, Nat.reduceBEq, Nat.reduceLT, Nat.reduceEqDiff, reduceIte, reduceCtorEq, Nat.reduceMul, Nat.reduceAdd, Nat.reduceSub, Int.reduceEq, Int.reduceLT, Int.reduceLE, Int.reduceNeg, Int.reduceAdd, Int.reduceSub, Int.reduceMul, Nat.reduceLeDiff, Int.reduceToNat])) | ((with_reducible refine W_exit ?_); (repeat simp only [push_cast, Nat.reduceBEq, Nat.reduceLT, Nat.reduceEqDiff, reduceIte, reduceCtorEq, Nat.reduceMul, Nat.reduceAdd, Nat.reduceSub, Int.reduceEq, Int.reduceLT, Int.reduceLE, Int.reduceNeg, Int.reduceAdd, Int.reduceSub, Int.reduceMul, Nat.reduceLeDiff, Int.reduceToNat]); clear hK K; (first | ((with_reducible refine hK _ _ ?_); clear hK K) | (clear hK K; (with_reducible refine hK _ _ ?_); clear hK K) | (clear hK K; clear hK K; (with_reducible refine hK _ _ ?_); clear hK K) | (clear hK K; clear hK K; clear hK K; (with_reducible refine hK _ _ ?_); clear hK K) | (clear hK K; clear hK K; clear hK K; clear hK K; (with_reducible refine hK _ _ ?_); clear hK K) | (clear hK K; clear hK K; clear hK K; clear hK K; clear hK K; (with_reducible refine hK _ _ ?_); clear hK K) | (clear hK K; clear hK K; clear hK K; clear hK K; clear hK K; clear hK K; (with_reducible refine hK _ _ ?_); clear hK K))) | ((with_reducible refine Wo_id ?_); simp only [push_cast, Nat.reduceBEq, Nat.reduceLT, Nat.reduceEqDiff, reduceIte, reduceCtorEq, Nat.reduceMul, Nat.reduceAdd, Nat.reduceSub, Int.reduceEq, Int.reduceLT, Int.reduceLE, Int.reduceNeg, Int.reduceAdd, Int.reduceSub, Int.reduceMul, Nat.reduceLeDiff, Int.reduceToNat]))))
  refine W_loop (S := Nat × List Nat) (fun s => [(0, .slice (some ⟨p1, o1, none⟩) a.length c1), (1, .slice (some ⟨p2, o2, none⟩) b.length c2), (5, .slice (some ⟨w.heap.size, 0, none⟩) n n), (6, .int .i64 (s.1 : Int))])
    (fun s w' => s.1 ≤ a.length ∧ TimI a b s.1 0 0 s.2 (.slice (some ⟨w.heap.size, 0, none⟩) n n) w.heap.size w1 w') (fun s => a.length - s.1) (0, List.replicate n 0) ?_ ?_ ?_
  · (repeat simp only [push_cast, Nat.reduceBEq, Nat.reduceLT, Nat.reduceEqDiff, reduceIte, reduceCtorEq, Nat.reduceMul, Nat.reduceAdd, Nat.reduceSub, Int.reduceEq, Int.reduceLT, Int.reduceLE, Int.reduceNeg, Int.reduceAdd, Int.reduceSub, Int.reduceMul, Nat.reduceLeDiff, Int.reduceToNat])
  · exact ⟨by omega, by rw [hn]; exact Rm.Mul.start a b, hS, Upd.refl _ _⟩
  rintro ⟨i, l⟩ w2 ⟨hi, hI⟩
  simp only at hi hI ⊢
  by_cases h : i < a.length
  · have b0 : (i : Int) < (a.length : Int) := by omega
    have b1 : inI64 ((i : Int) + 1) := by unfold inI64; omega
    have b2 : (0 : Int) ≤ (i : Int) := by omega
    (repeat (first | ((with_reducible refine hK _ _ ?_); clear hK K) | (with_reducible refine (show ∀ σ' w', _ → K σ' w' from by assumption) _ _ ?_) | (with_reducible refine W_seq_k fun K hK => ?_) | (with_reducible refine W_block_k fun K hK => ?_) | (with_reducible refine W_skip ?_) | (with_reducible refine W_ret ?_) | ((first | ((with_reducible refine W_id ?_); refine W_reg (by decide) (by rfl) ?_) | (with_reducible refine W_cond ?_) | (with_reducible refine hZ _ _ ?_)); (repeat simp only [push_cast, Nat.reduceBEq, Nat.reduceLT, Nat.reduceEqDiff, reduceIte, reduceCtorEq, Nat.reduceMul, Nat.reduceAdd, Nat.reduceSub, Int.reduceEq, Int.reduceLT, Int.reduceLE, Int.reduceNeg, Int.reduceAdd, Int.reduceSub, Int.reduceMul, Nat.reduceLeDiff, Int.reduceToNat, b0])) | ((with_reducible refine W_exit ?_); (repeat simp only [push_cast, Nat.reduceBEq, Nat.reduceLT, Nat.reduceEqDiff, reduceIte, reduceCtorEq, Nat.reduceMul, Nat.reduceAdd, Nat.reduceSub, Int.reduceEq, Int.reduceLT, Int.reduceLE, Int.reduceNeg, Int.reduceAdd, Int.reduceSub, Int.reduceMul, Nat.reduceLeDiff, Int.reduceToNat]); clear hK K; (first | ((with_reducible refine hK _ _ ?_); clear hK K) | (clear hK K; (with_reducible refine hK _ _ ?_); clear hK K) | (clear hK K; clear hK K; (with_reducible refine hK _ _ ?_); clear hK K) | (clear hK K; clear hK K; clear hK K; (with_reducible refine hK _ _ ?_); clear hK K) | (clear hK K; clear hK K; clear hK K; clear hK K; (with_reducible refine hK _ _ ?_); clear hK K) | (clear hK K; clear hK K; clear hK K; clear hK K; clear hK K; (with_reducible refine hK _ _ ?_); clear hK K) | (clear hK K; clear hK K; clear hK K; clear hK K; clear hK K; clear hK K; (with_reducible refine hK _ _ ?_); clear hK K))) | ((with_reducible refine Wo_id ?_); simp only [push_cast, Nat.reduceBEq, Nat.reduceLT, Nat.reduceEqDiff, reduceIte, reduceCtorEq, Nat.reduceMul, Nat.reduceAdd, Nat.reduceSub, Int.reduceEq, Int.reduceLT, Int.reduceLE, Int.reduceNeg, Int.reduceAdd, Int.reduceSub, Int.reduceMul, Nat.reduceLeDiff, Int.reduceToNat, b0])))
    refine W_loop (S := Nat × Nat × List Nat) (fun s => [(0, .slice (some ⟨p1, o1, none⟩) a.length c1), (1, .slice (some ⟨p2, o2, none⟩) b.length c2), (5, .slice (some ⟨w.heap.size, 0, none⟩) n n), (6, .int .i64 (i : Int)), (7, .int .i64 (s.2.1 : Int)), (8, .int .i64 (s.1 : Int))])
      (fun s w' => s.1 ≤ b.length ∧ TimI a b i s.1 s.2.1 s.2.2 (.slice (some ⟨w.heap.size, 0, none⟩) n n) w.heap.size w1 w') (fun s => b.length - s.1) (0, 0, l) ?_ ?_ ?_
    · (repeat simp only [push_cast, Nat.reduceBEq, Nat.reduceLT, Nat.reduceEqDiff, reduceIte, reduceCtorEq, Nat.reduceMul, Nat.reduceAdd, Nat.reduceSub, Int.reduceEq, Int.reduceLT, Int.reduceLE, Int.reduceNeg, Int.reduceAdd, Int.reduceSub, Int.reduceMul, Nat.reduceLeDiff, Int.reduceToNat])
    · exact ⟨by omega, hI⟩
    rintro ⟨k, c, l2⟩ w3 ⟨hk, hJ⟩
    simp only at hk hJ ⊢
    have hll := hJ.mul.len
    by_cases h2 : k < b.length
    · have d0 : (k : Int) < (b.length : Int) := by omega
      have d1 : inI64 ((k : Int) + 1) := by unfold inI64; omega
      have d2 : (0 : Int) ≤ (k : Int) := by omega
      obtain ⟨j, hj⟩ : ∃ j, j = i + k := ⟨_, rfl⟩
      have d3 : (i : Int) + (k : Int) = (j : Int) := by omega
      have d4 : inI64 (j : Int) := by unfold inI64; omega
      have d5 : (0 : Int) ≤ (j : Int) := by omega
      have d6 : (j : Int) < (n : Int) := by omega
      have hstep := hJ.mul.step da db h h2
      have g1 := Rm.Dg_get hJ.mul.dg (i + k)
      have g2 := Rm.Dg_get da i
      have g3 := Rm.Dg_get db k
      have g4 := hJ.mul.carry
      have x0 := hJ.at_.nat_cell (i := i + k) (by omega)
      have x1 := (ha.upd hx1 (fun _ _ h => h.elim)).upd hJ.ext (fun q hq e => by cases hq; omega) |>.nat_cell h
      have x2 := (hb.upd hx1 (fun _ _ h => h.elim)).upd hJ.ext (fun q hq e => by cases hq; omega) |>.nat_cell h2
      have hcan := hJ.at_.can (i := i + k) (by rw [natCells_length]; omega)
      have hset := fun d : Nat => (hJ.at_.ext (Ext.drew w3)).set (i := i + k) (by rw [natCells_length]; omega) (.int .i64 (d : Int))
      rw [← hj] at x0 hcan hset hstep g1
      simp only [Nat.zero_add] at x0 hcan hset
      generalize l2.getD j 0 = y0 at *
      generalize a.getD i 0 = y1 at *
      generalize b.getD k 0 = y2 at *
      obtain ⟨pr, hpr⟩ : ∃ pr, pr = y1 * y2 := ⟨_, rfl⟩
      have hprl : pr ≤ 65535 * 65535 := by rw [hpr]; exact Nat.mul_le_mul (by omega) (by omega)
      rw [← hpr] at hstep
      obtain ⟨s, hs⟩ : ∃ s, s = y0 + pr + c := ⟨_, rfl⟩
      rw [← hs] at hstep
      have f1 : (y1 : Int) * (y2 : Int) = (pr : Int) := by rw [hpr]; exact (Int.natCast_mul _ _).symm
      have f2 : inI64 (pr : Int) := by unfold inI64; omega
      obtain ⟨t, ht⟩ : ∃ t, t = y0 + pr := ⟨_, rfl⟩
      have f3 : (y0 : Int) + (pr : Int) = (t : Int) := by omega
      have f4 : inI64 (t : Int) := by unfold inI64; omega
      have f5 : (t : Int) + (c : Int) = (s : Int) := by omega
      have f6 : inI64 (s : Int) := by unfold inI64; omega
      obtain ⟨r, hr⟩ : ∃ r, r = s % 65536 := ⟨_, rfl⟩
      obtain ⟨q, hq⟩ : ∃ q, q = s / 65536 := ⟨_, rfl⟩
      rw [← hr, ← hq] at hstep
      have f7 : (s : Int).tmod 65536 = (r : Int) := by rw [hr]; exact tmod_nat s 65536
      have f8 : (s : Int).tdiv 65536 = (q : Int) := by rw [hq]; exact tdiv_nat s 65536
      have f9 : inI64 (q : Int) := by unfold inI64; omega
      have hsr := hset r
      rw [natCells_set] at hsr
      have hcan' : canStore w3.drew ⟨w.heap.size, j, none⟩ := by
        obtain ⟨⟨u, hu⟩, hf⟩ := hcan
        exact ⟨⟨u, by rw [← hu]; rfl⟩, by rw [← hf]; rfl⟩
      replace x0 : w3.drew.cell? ⟨w.heap.size, j, none⟩ = some (.int .i64 (y0 : Int)) := x0
      replace x1 : w3.drew.cell? ⟨p1, o1 + i, none⟩ = some (.int .i64 (y1 : Int)) := x1
      replace x2 : w3.drew.cell? ⟨p2, o2 + k, none⟩ = some (.int .i64 (y2 : Int)) := x2
      (repeat (first | ((with_reducible refine hK _ _ ?_); clear hK K) | (with_reducible refine (show ∀ σ' w', _ → K σ' w' from by assumption) _ _ ?_) | (with_reducible refine W_seq_k fun K hK => ?_) | (with_reducible refine W_block_k fun K hK => ?_) | (with_reducible refine W_skip ?_) | (with_reducible refine W_ret ?_) | ((first | ((with_reducible refine W_id ?_); refine W_reg (by decide) (by rfl) ?_) | (with_reducible refine W_cond ?_) | (with_reducible refine hZ _ _ ?_)); (repeat simp only [push_cast, Nat.reduceBEq, Nat.reduceLT, Nat.reduceEqDiff, reduceIte, reduceCtorEq, Nat.reduceMul, Nat.reduceAdd, Nat.reduceSub, Int.reduceEq, Int.reduceLT, Int.reduceLE, Int.reduceNeg, Int.reduceAdd, Int.reduceSub, Int.reduceMul, Nat.reduceLeDiff, Int.reduceToNat, d0])) | ((with_reducible refine W_exit ?_); (repeat simp only [push_cast, Nat.reduceBEq, Nat.reduceLT, Nat.reduceEqDiff, reduceIte, reduceCtorEq, Nat.reduceMul, Nat.reduceAdd, Nat.reduceSub, Int.reduceEq, Int.reduceLT, Int.reduceLE, Int.reduceNeg, Int.reduceAdd, Int.reduceSub, Int.reduceMul, Nat.reduceLeDiff, Int.reduceToNat]); clear hK K; (first | ((with_reducible refine hK _ _ ?_); clear hK K) | (clear hK K; (with_reducible refine hK _ _ ?_); clear hK K) | (clear hK K; clear hK K; (with_reducible refine hK _ _ ?_); clear hK K) | (clear hK K; clear hK K; clear hK K; (with_reducible refine hK _ _ ?_); clear hK K) | (clear hK K; clear hK K; clear hK K; clear hK K; (with_reducible refine hK _ _ ?_); clear hK K) | (clear hK K; clear hK K; clear hK K; clear hK K; clear hK K; (with_reducible refine hK _ _ ?_); clear hK K) | (clear hK K; clear hK K; clear hK K; clear hK K; clear hK K; clear hK K; (with_reducible refine hK _ _ ?_); clear hK K))) | ((with_reducible refine Wo_id ?_); simp only [push_cast, Nat.reduceBEq, Nat.reduceLT, Nat.reduceEqDiff, reduceIte, reduceCtorEq, Nat.reduceMul, Nat.reduceAdd, Nat.reduceSub, Int.reduceEq, Int.reduceLT, Int.reduceLE, Int.reduceNeg, Int.reduceAdd, Int.reduceSub, Int.reduceMul, Nat.reduceLeDiff, Int.reduceToNat, d0])))
      (refine W_draw (.pas 0 (.pas 1 (.pas 2 (.pas 3 (.pas 4 (.pas 5 (.pas 6 (.pas 7 (.pas 8 (.pas 9 (.pas 10 (.pas 11 (.pas 12 (.pas 13 (.pas 14 (.pas 15 (.pas 16 (.pas 17 (.pas 18 .fin))))))))))))))))))) (fun i => i = w.heap.size ∨ i = p1 ∨ i = p2) (by decide) mixed (by kernel_rfl) ?_; (repeat (first | ((first | refine pas_plain rfl ?_ | refine pas_on rfl rfl (by simp only [find_hit, find_miss, Nat.reduceBEq, Bool.not_true, Bool.not_false]) ?_ | refine pas_off rfl rfl (by simp only [find_hit, find_miss, Nat.reduceBEq, Bool.not_true, Bool.not_false]) ?_ | refine act_plain rfl ?_ | refine act_on rfl rfl (by simp only [find_hit, find_miss, Nat.reduceBEq, Bool.not_true, Bool.not_false]) ?_ | refine act_off rfl rfl (by simp only [find_hit, find_miss, Nat.reduceBEq, Bool.not_true, Bool.not_false]) ?_ | refine last_plain rfl ?_ | refine tail_plain rfl ?_ | refine tail_on rfl rfl (by simp only [find_hit, find_miss, Nat.reduceBEq, Bool.not_true, Bool.not_false]) ?_ | refine tail_off rfl rfl (by simp only [find_hit, find_miss, Nat.reduceBEq, Bool.not_true, Bool.not_false]) ?_); (repeat simp only [push_cast, Nat.reduceBEq, Nat.reduceLT, Nat.reduceEqDiff, reduceIte, reduceCtorEq, Nat.reduceMul, Nat.reduceAdd, Nat.reduceSub, Int.reduceEq, Int.reduceLT, Int.reduceLE, Int.reduceNeg, Int.reduceAdd, Int.reduceSub, Int.reduceMul, Nat.reduceLeDiff, Int.reduceToNat,  true_or, or_true, x0, x1, x2, d2, d3, d4, d5, d6, b0, b2, d0, f1, f2, f3, f4, f5, f6, f7, f8, f9, hcan', d1, x0, x1, x2])) | (refine tail_fin ?_) | (refine sch_fin ?_))); (repeat (first | ((with_reducible refine hK _ _ ?_); clear hK K) | (with_reducible refine (show ∀ σ' w', _ → K σ' w' from by assumption) _ _ ?_) | (with_reducible refine W_seq_k fun K hK => ?_) | (with_reducible refine W_block_k fun K hK => ?_) | (with_reducible refine W_skip ?_) | (with_reducible refine W_ret ?_) | ((first | ((with_reducible refine W_id ?_); refine W_reg (by decide) (by rfl) ?_) | (with_reducible refine W_cond ?_) | (with_reducible refine hZ _ _ ?_)); (repeat simp only [push_cast, Nat.reduceBEq, Nat.reduceLT, Nat.reduceEqDiff, reduceIte, reduceCtorEq, Nat.reduceMul, Nat.reduceAdd, Nat.reduceSub, Int.reduceEq, Int.reduceLT, Int.reduceLE, Int.reduceNeg, Int.reduceAdd, Int.reduceSub, Int.reduceMul, Nat.reduceLeDiff, Int.reduceToNat,  true_or, or_true, x0, x1, x2, d2, d3, d4, d5, d6, b0, b2, d0, f1, f2, f3, f4, f5, f6, f7, f8, f9, hcan', d1, x0, x1, x2])) | ((with_reducible refine W_exit ?_); (repeat simp only [push_cast, Nat.reduceBEq, Nat.reduceLT, Nat.reduceEqDiff, reduceIte, reduceCtorEq, Nat.reduceMul, Nat.reduceAdd, Nat.reduceSub, Int.reduceEq, Int.reduceLT, Int.reduceLE, Int.reduceNeg, Int.reduceAdd, Int.reduceSub, Int.reduceMul, Nat.reduceLeDiff, Int.reduceToNat]); clear hK K; (first | ((with_reducible refine hK _ _ ?_); clear hK K) | (clear hK K; (with_reducible refine hK _ _ ?_); clear hK K) | (clear hK K; clear hK K; (with_reducible refine hK _ _ ?_); clear hK K) | (clear hK K; clear hK K; clear hK K; (with_reducible refine hK _ _ ?_); clear hK K) | (clear hK K; clear hK K; clear hK K; clear hK K; (with_reducible refine hK _ _ ?_); clear hK K) | (clear hK K; clear hK K; clear hK K; clear hK K; clear hK K; (with_reducible refine hK _ _ ?_); clear hK K) | (clear hK K; clear hK K; clear hK K; clear hK K; clear hK K; clear hK K; (with_reducible refine hK _ _ ?_); clear hK K))) | ((with_reducible refine Wo_id ?_); simp only [push_cast, Nat.reduceBEq, Nat.reduceLT, Nat.reduceEqDiff, reduceIte, reduceCtorEq, Nat.reduceMul, Nat.reduceAdd, Nat.reduceSub, Int.reduceEq, Int.reduceLT, Int.reduceLE, Int.reduceNeg, Int.reduceAdd, Int.reduceSub, Int.reduceMul, Nat.reduceLeDiff, Int.reduceToNat,  true_or, or_true, x0, x1, x2, d2, d3, d4, d5, d6, b0, b2, d0, f1, f2, f3, f4, f5, f6, f7, f8, f9, hcan', d1, x0, x1, x2]))))
      refine ⟨(k + 1, q, l2.set j r), by simp only; omega, ?_⟩
      (repeat simp only [push_cast, Nat.reduceBEq, Nat.reduceLT, Nat.reduceEqDiff, reduceIte, reduceCtorEq, Nat.reduceMul, Nat.reduceAdd, Nat.reduceSub, Int.reduceEq, Int.reduceLT, Int.reduceLE, Int.reduceNeg, Int.reduceAdd, Int.reduceSub, Int.reduceMul, Nat.reduceLeDiff, Int.reduceToNat])
      exact ⟨by omega, hstep, hsr, hJ.ext.drewR.put2 fun _ => rfl⟩
    · have hkb : k = b.length := by omega
      subst hkb
      have d0 : ¬ (b.length : Int) < (b.length : Int) := by omega
      obtain ⟨j, hj⟩ : ∃ j, j = i + b.length := ⟨_, rfl⟩
      have d3 : (i : Int) + (b.length : Int) = (j : Int) := by omega
      have d4 : inI64 (j : Int) := by unfold inI64; omega
      have d5 : (0 : Int) ≤ (j : Int) := by omega
      have d6 : (j : Int) < (n : Int) := by omega
      have hlast := hJ.mul.last h
      have hcan := hJ.at_.can (i := i + b.length) (by rw [natCells_length]; omega)
      have hset := hJ.at_.set (i := i + b.length) (by rw [natCells_length]; omega) (.int .i64 (c : Int))
      rw [natCells_set] at hset
      rw [← hj] at hcan hset hlast
      simp only [Nat.zero_add] at hcan hset
      (repeat (first | ((with_reducible refine hK _ _ ?_); clear hK K) | (with_reducible refine (show ∀ σ' w', _ → K σ' w' from by assumption) _ _ ?_) | (with_reducible refine W_seq_k fun K hK => ?_) | (with_reducible refine W_block_k fun K hK => ?_) | (with_reducible refine W_skip ?_) | (with_reducible refine W_ret ?_) | ((first | ((with_reducible refine W_id ?_); refine W_reg (by decide) (by rfl) ?_) | (with_reducible refine W_cond ?_) | (with_reducible refine hZ _ _ ?_)); (repeat simp only [push_cast, Nat.reduceBEq, Nat.reduceLT, Nat.reduceEqDiff, reduceIte, reduceCtorEq, Nat.reduceMul, Nat.reduceAdd, Nat.reduceSub, Int.reduceEq, Int.reduceLT, Int.reduceLE, Int.reduceNeg, Int.reduceAdd, Int.reduceSub, Int.reduceMul, Nat.reduceLeDiff, Int.reduceToNat, d0, d3, d4, d5, d6, hcan, b1])) | ((with_reducible refine W_exit ?_); (repeat simp only [push_cast, Nat.reduceBEq, Nat.reduceLT, Nat.reduceEqDiff, reduceIte, reduceCtorEq, Nat.reduceMul, Nat.reduceAdd, Nat.reduceSub, Int.reduceEq, Int.reduceLT, Int.reduceLE, Int.reduceNeg, Int.reduceAdd, Int.reduceSub, Int.reduceMul, Nat.reduceLeDiff, Int.reduceToNat]); clear hK K; (first | ((with_reducible refine hK _ _ ?_); clear hK K) | (clear hK K; (with_reducible refine hK _ _ ?_); clear hK K) | (clear hK K; clear hK K; (with_reducible refine hK _ _ ?_); clear hK K) | (clear hK K; clear hK K; clear hK K; (with_reducible refine hK _ _ ?_); clear hK K) | (clear hK K; clear hK K; clear hK K; clear hK K; (with_reducible refine hK _ _ ?_); clear hK K) | (clear hK K; clear hK K; clear hK K; clear hK K; clear hK K; (with_reducible refine hK _ _ ?_); clear hK K) | (clear hK K; clear hK K; clear hK K; clear hK K; clear hK K; clear hK K; (with_reducible refine hK _ _ ?_); clear hK K))) | ((with_reducible refine Wo_id ?_); simp only [push_cast, Nat.reduceBEq, Nat.reduceLT, Nat.reduceEqDiff, reduceIte, reduceCtorEq, Nat.reduceMul, Nat.reduceAdd, Nat.reduceSub, Int.reduceEq, Int.reduceLT, Int.reduceLE, Int.reduceNeg, Int.reduceAdd, Int.reduceSub, Int.reduceMul, Nat.reduceLeDiff, Int.reduceToNat, d0, d3, d4, d5, d6, hcan, b1])))
      refine ⟨(i + 1, l2.set j c), by simp only; omega, ?_, ⟨by simp only; omega, hlast, hset, hJ.ext.put2 fun _ => rfl⟩⟩
      (repeat simp only [push_cast, Nat.reduceBEq, Nat.reduceLT, Nat.reduceEqDiff, reduceIte, reduceCtorEq, Nat.reduceMul, Nat.reduceAdd, Nat.reduceSub, Int.reduceEq, Int.reduceLT, Int.reduceLE, Int.reduceNeg, Int.reduceAdd, Int.reduceSub, Int.reduceMul, Nat.reduceLeDiff, Int.reduceToNat])
  · have hia : i = a.length := by omega
    subst hia
    have b0 : ¬ (a.length : Int) < (a.length : Int) := by omega
    (repeat (first | ((with_reducible refine hK _ _ ?_); clear hK K) | (with_reducible refine (show ∀ σ' w', _ → K σ' w' from by assumption) _ _ ?_) | (with_reducible refine W_seq_k fun K hK => ?_) | (with_reducible refine W_block_k fun K hK => ?_) | (with_reducible refine W_skip ?_) | (with_reducible refine W_ret ?_) | ((first | ((with_reducible refine W_id ?_); refine W_reg (by decide) (by rfl) ?_) | (with_reducible refine W_cond ?_) | (with_reducible refine hZ _ _ ?_)); (repeat simp only [push_cast, Nat.reduceBEq, Nat.reduceLT, Nat.reduceEqDiff, reduceIte, reduceCtorEq, Nat.reduceMul, Nat.reduceAdd, Nat.reduceSub, Int.reduceEq, Int.reduceLT, Int.reduceLE, Int.reduceNeg, Int.reduceAdd, Int.reduceSub, Int.reduceMul, Nat.reduceLeDiff, Int.reduceToNat, b0])) | ((with_reducible refine W_exit ?_); (repeat simp only [push_cast, Nat.reduceBEq, Nat.reduceLT, Nat.reduceEqDiff, reduceIte, reduceCtorEq, Nat.reduceMul, Nat.reduceAdd, Nat.reduceSub, Int.reduceEq, Int.reduceLT, Int.reduceLE, Int.reduceNeg, Int.reduceAdd, Int.reduceSub, Int.reduceMul, Nat.reduceLeDiff, Int.reduceToNat]); clear hK K; (first | ((with_reducible refine hK _ _ ?_); clear hK K) | (clear hK K; (with_reducible refine hK _ _ ?_); clear hK K) | (clear hK K; clear hK K; (with_reducible refine hK _ _ ?_); clear hK K) | (clear hK K; clear hK K; clear hK K; (with_reducible refine hK _ _ ?_); clear hK K) | (clear hK K; clear hK K; clear hK K; clear hK K; (with_reducible refine hK _ _ ?_); clear hK K) | (clear hK K; clear hK K; clear hK K; clear hK K; clear hK K; (with_reducible refine hK _ _ ?_); clear hK K) | (clear hK K; clear hK K; clear hK K; clear hK K; clear hK K; clear hK K; (with_reducible refine hK _ _ ?_); clear hK K))) | ((with_reducible refine Wo_id ?_); simp only [push_cast, Nat.reduceBEq, Nat.reduceLT, Nat.reduceEqDiff, reduceIte, reduceCtorEq, Nat.reduceMul, Nat.reduceAdd, Nat.reduceSub, Int.reduceEq, Int.reduceLT, Int.reduceLE, Int.reduceNeg, Int.reduceAdd, Int.reduceSub, Int.reduceMul, Nat.reduceLeDiff, Int.reduceToNat, b0])))
    exact ⟨l, w.heap.size, hI.at_, Nat.le_refl _, hI.mul.len, hI.mul.dg, hI.mul.done, Upd.trans hx1 hI.ext fun i hi e => by omega⟩
end Go.Proofs.YtjkdpnkbdfnokaaDoor
