/- ArenaTree: true. -/
import Derived.Test.YtkafpameheohdaaTt0
import Derived.Test.YtkafpameheohdaaSo
import Derived.Test.YtkafpameheohdaaGr
set_option linter.unusedSimpArgs false
set_option linter.unusedVariables false
namespace Go.Vk
/-- the blocks of a slice of nodes -/
def NB (T : List Laid) (bo : Option Nat) (b : Nat) : Prop := bo = some b ∨ ∃ m ∈ T, b ∈ m.blks
theorem NdsAt.lt {w : World} {v : Value} {T : List Laid} {bo : Option Nat} (h : NdsAt w v T bo) {b : Nat} (hb : NB T bo b) : b < w.heap.size := by
  rcases hb with rfl | ⟨m, hm, hb⟩
  · exact h.sl.lt
  · exact (h.ok m hm).lt hb
end Go.Vk
namespace Go.Proofs.Ytkafpameheohdaa
open Go.Vk
set_option maxHeartbeats 40000000
set_option linter.unusedSimpArgs false
set_option linter.unusedVariables false
attribute [local push_cast] Wo_nil Wo_plain Wo_on Wo_off Wo_skip guardV_t guardV_f guardV_tf guardV_ft guardV_u gtmp Option.bind_some Option.bind_none vcOp on_some evO_tmp evO_const evO_global evO_func find_hit find_miss put_some put_none only_true vcNil loadD onCells allStore vcBin vcInt arith vcStr isPtr isSlice isBool vcUn vcConv vcField vcIndex vcIdx vcLoad vcLen vcBuiltin vcCall vcPas Bool.not_true Bool.not_false cond_true cond_false Bool.cond_false_right Bool.cond_true_left Bool.cond_true_right Bool.cond_false_left Bool.not_not Bool.and_true Bool.true_and Bool.and_false Bool.false_and Bool.or_false Bool.false_or Bool.or_true Bool.true_or  and_assoc add_mk Nat.zero_add Nat.add_zero Int.toNat_natCast undef onL onO onP pickV withSz oneCell bnd vcBounds vcSlice List.size_toArray List.length_cons List.length_nil List.all_cons List.all_nil pureSem Option.some.injEq Value.pointer.injEq Value.int.injEq Value.bool.injEq Value.slice.injEq Value.string.injEq Value.agg.injEq Value.tuple.injEq Value.func.injEq exists_eq_left' and_true true_and Bool.not_eq_true Option.isNone_some Option.isNone_none Bool.false_eq_true false_and and_false false_implies true_implies implies_true decide_true decide_false forall_const List.getElem?_toArray List.getElem?_cons_succ List.getElem?_cons_zero ne_eq not_false_eq_true exists_and_left List.nil_append List.append_nil exists_const and_self Option.isSome_none Option.isSome_some Nat.mul_one Nat.one_mul Nat.zero_mul vcStore argR Go.Vk.Sub resL resV Func.results List.toList_toArray if_true if_false
attribute [local push_cast] Try.underlying0 Try.sizeOf0 Try.underlying1 Try.sizeOf1 Try.underlying2 Try.sizeOf2 Try.underlying3 Try.sizeOf3 Try.underlying4 Try.sizeOf4 Try.underlying5 Try.sizeOf5 Try.underlying6 Try.sizeOf6 Try.underlying7 Try.sizeOf7 Try.underlying8 Try.sizeOf8 Try.underlying9 Try.sizeOf9 Try.underlying10 Try.sizeOf10 Try.underlying11 Try.sizeOf11 Try.underlying12 Try.sizeOf12 Try.underlying13 Try.sizeOf13 Try.underlying14 Try.sizeOf14 Try.underlying15 Try.sizeOf15 Try.underlying16 Try.sizeOf16 Try.underlying17 Try.sizeOf17 Try.underlying18 Try.sizeOf18 Try.underlying19 Try.sizeOf19 Try.underlying20 Try.sizeOf20 Try.underlying21 Try.sizeOf21 Try.underlying22 Try.sizeOf22 Try.underlying23 Try.sizeOf23 Try.underlying24 Try.sizeOf24 Try.underlying25 Try.sizeOf25 Try.underlying26 Try.sizeOf26 Try.underlying27 Try.sizeOf27 Try.underlying28 Try.sizeOf28 Try.underlying29 Try.sizeOf29 Try.underlying30 Try.sizeOf30 Try.underlying31 Try.sizeOf31 Try.underlying32 Try.sizeOf32 Try.underlying33 Try.sizeOf33 Try.underlying34 Try.sizeOf34 Try.underlying35 Try.sizeOf35 Try.underlying36 Try.sizeOf36 Try.underlying37 Try.sizeOf37 Try.underlying38 Try.sizeOf38 Try.underlying39 Try.sizeOf39 Try.underlying40 Try.sizeOf40 Try.underlying41 Try.sizeOf41 Try.underlying42 Try.sizeOf42 Try.underlying43 Try.sizeOf43 Try.underlying44 Try.sizeOf44 Try.underlying45 Try.sizeOf45 Try.underlying46 Try.sizeOf46 Try.underlying47 Try.sizeOf47 Try.underlying48 Try.sizeOf48 Try.underlying49 Try.sizeOf49 Try.underlying50 Try.sizeOf50 Try.underlying51 Try.sizeOf51 Try.underlying52 Try.sizeOf52 Try.underlying53 Try.sizeOf53 Try.underlying54 Try.sizeOf54 Try.underlying55 Try.sizeOf55 Try.underlying56 Try.sizeOf56 Try.underlying57 Try.sizeOf57 Try.underlying58 Try.sizeOf58 Try.underlying59 Try.sizeOf59 Try.underlying60 Try.sizeOf60 Try.underlying61 Try.sizeOf61 Try.underlying62 Try.sizeOf62 Try.underlying63 Try.sizeOf63 Try.underlying64 Try.sizeOf64 Try.underlying65 Try.sizeOf65 Try.underlying66 Try.sizeOf66 Try.underlying67 Try.sizeOf67 Try.underlying68 Try.sizeOf68 Try.underlying69 Try.sizeOf69 Try.underlying70 Try.sizeOf70 Try.underlying71 Try.sizeOf71 Try.underlying72 Try.sizeOf72 Try.underlying73 Try.sizeOf73 Try.underlying74 Try.sizeOf74 Try.underlying75 Try.sizeOf75 Try.underlying76 Try.sizeOf76 Try.underlying77 Try.sizeOf77 Try.underlying78 Try.sizeOf78 Try.underlying79 Try.sizeOf79 Try.underlying80 Try.sizeOf80 Try.underlying81 Try.sizeOf81 Try.underlying82 Try.sizeOf82 Try.underlying83 Try.sizeOf83 Try.underlying84 Try.sizeOf84 Try.underlying85 Try.sizeOf85 Try.underlying86 Try.sizeOf86 Try.underlying87 Try.sizeOf87 Try.underlying88 Try.sizeOf88 Try.underlying89 Try.sizeOf89 Try.underlying90 Try.sizeOf90 Try.underlying91 Try.sizeOf91 Try.underlying92 Try.sizeOf92 Try.underlying93 Try.sizeOf93 Try.underlying94 Try.sizeOf94 Try.underlying95 Try.sizeOf95 Try.underlying96 Try.sizeOf96 Try.underlying97 Try.sizeOf97 Try.underlying98 Try.sizeOf98 Try.underlying99 Try.sizeOf99 Try.underlying100 Try.sizeOf100 Try.underlying101 Try.sizeOf101 Try.underlying102 Try.sizeOf102 Try.underlying103 Try.sizeOf103 Try.underlying104 Try.sizeOf104 Try.underlying105 Try.sizeOf105 Try.underlying106 Try.sizeOf106 Try.underlying107 Try.sizeOf107 Try.underlying108 Try.sizeOf108 Try.underlying109 Try.sizeOf109 Try.underlying110 Try.sizeOf110 Try.underlying111 Try.sizeOf111 Try.underlying112 Try.sizeOf112 Try.underlying113 Try.sizeOf113 Try.underlying114 Try.sizeOf114 Try.underlying115 Try.sizeOf115 Try.underlying116 Try.sizeOf116 Try.underlying117 Try.sizeOf117 Try.underlying118 Try.sizeOf118 Try.underlying119 Try.sizeOf119 Try.underlying120 Try.sizeOf120 Try.underlying121 Try.sizeOf121 Try.underlying122 Try.sizeOf122 Try.underlying123 Try.sizeOf123 Try.underlying124 Try.sizeOf124 Try.underlying125 Try.sizeOf125 Try.underlying126 Try.sizeOf126 Try.underlying127 Try.sizeOf127 Try.underlying128 Try.sizeOf128 Try.underlying129 Try.sizeOf129 Try.underlying130 Try.sizeOf130
attribute [local push_cast] Try.results0 Try.results1 Try.results2 Try.results3 Try.results4 Try.results5 Try.results6 Try.results7 Try.results8 Try.results9 Try.results10 Try.results11 Try.results12 Try.results13 Try.results14 Try.results15 Try.results16 Try.results17 Try.results18 Try.results19 Try.results20 Try.results21 Try.results22 Try.results23 Try.results24 Try.results25 Try.results26 Try.results27 Try.results28 Try.results29 Try.results30 Try.results31 Try.results32 Try.results33 Try.results34 Try.results35 Try.results36 Try.results37 Try.results38 Try.results39 Try.results40 Try.results41 Try.results42 Try.results43 Try.results44 Try.results45 Try.results46 Try.results47 Try.results48 Try.results49 Try.results50 Try.results51 Try.results52 Try.results53 Try.results54 Try.results55 Try.results56 Try.results57 Try.results58 Try.results59 Try.results60 Try.results61 Try.results62 Try.results63 Try.results64 Try.results65 Try.results66 Try.results67 Try.results68 Try.results69 Try.results70 Try.results71 Try.results72 Try.results73 Try.results74 Try.results75 Try.results76 Try.results77 Try.results78 Try.results79 Try.results80 Try.results81 Try.results82 Try.results83 Try.results84 Try.results85 Try.results86 Try.results87 Try.results88 Try.results89 Try.results90 Try.results91 Try.results92 Try.results93 Try.results94 Try.results95 Try.results96 Try.results97 Try.results98 Try.results99 Try.results100 Try.results101 Try.results102 Try.results103 Try.results104 Try.results105 Try.results106 Try.results107 Try.results108 Try.results109 Try.results110 Try.results111 Try.results112 Try.results113 Try.results114 Try.results115 Try.results116
theorem done_a {w0 w : World} {P : Nat → Prop} {pa : Nat} {L : List Nd} (h : At w0 w P pa L) {k : Nat} (hs : Sz L k) (hk : k ≤ 200) (x : ActD) (hx : x.m.nd.attrs.length ≤ 8 ∧ x.m.nd.text.size ≤ 200) (hkd : 0 ≤ x.kd) (hat : RdAt w0 2 x.m.av (attrCells x.m.nd.attrs)) :
    Gives Try.prog 24 #[.pointer (some ⟨pa, 0, none⟩), x.val] w fun v w' => v = .int .i64 (doneN L x).2 ∧ At w0 w' P pa (doneN L x).1 ∧ Upd (AF w0 P) w w' := by
  have hl := hs.len
  have hb : L.length < 100000 := by omega
  have up : ∀ {w1 w2 : World}, Ext w w1 → Upd (AF w0 P) w1 w2 → Upd (AF w0 P) w w2 := fun h1 h2 => Upd.trans h1.upd h2 fun _ _ h => h
  refine done_g x hkd ?_ ?_ ?_ ?_ ?_ ?_ ?_
  · intro e w1 hx1
    have ed : doneN L x = appendN L x.i x.j := if_pos e
    rw [ed]
    exact (append_a (h.pass hx1) hb _ _).mono fun v w' ⟨h1, h2, h3⟩ => ⟨h1, h2, up hx1 h3⟩
  · intro e w1 hx1
    have ed : doneN L x = beforeN L x.i x.j := by unfold doneN; rw [if_neg (by omega), if_pos e]
    rw [ed]
    exact (before_a (h.pass hx1) hb _ _).mono fun v w' ⟨h1, h2, h3⟩ => ⟨h1, h2, up hx1 h3⟩
  · intro e w1 hx1
    have ed : doneN L x = detachN L x.i := by unfold doneN; rw [if_neg (by omega), if_neg (by omega), if_pos e]
    rw [ed]
    exact (detach_a (h.pass hx1) hb _).mono fun v w' ⟨h1, h2, h3⟩ => ⟨h1, h2, up hx1 h3⟩
  · intro e w1 hx1
    have ed : doneN L x = moveN L x.i x.j := by unfold doneN; rw [if_neg (by omega), if_neg (by omega), if_neg (by omega), if_pos e]
    rw [ed]
    exact (move_a (h.pass hx1) hb _ _).mono fun v w' ⟨h1, h2, h3⟩ => ⟨h1, h2, up hx1 h3⟩
  · intro e w1 hx1
    have ed : doneN L x = textN L x.i x.j x.m.nd.text := by unfold doneN; rw [if_neg (by omega), if_neg (by omega), if_neg (by omega), if_neg (by omega), if_pos e]
    rw [ed]
    exact (text_a (h.pass hx1) hb _ _ _ (by omega) fun n hn => by have := (hs.mem hn).1; omega).mono fun v w' ⟨h1, h2, h3⟩ => ⟨h1, h2, up hx1 h3⟩
  · intro e w1 hx1
    have ed : doneN L x = moreN L x.i x.m.nd.attrs := by unfold doneN; rw [if_neg (by omega), if_neg (by omega), if_neg (by omega), if_neg (by omega), if_neg (by omega), if_pos e]
    rw [ed]
    exact (more_a (h.pass hx1) hb (fun n hn => by have := (hs.mem hn).2; omega) hat (by omega) _).mono fun v w' ⟨h1, h2, h3⟩ => ⟨h1, h2, up hx1 h3⟩
  · intro e w1 hx1
    have ed : doneN L x = addN L x.m.nd := by unfold doneN; rw [if_neg (by omega), if_neg (by omega), if_neg (by omega), if_neg (by omega), if_neg (by omega), if_neg (by omega)]
    rw [ed]
    exact (add_a (h.pass hx1) hb (hat.ext (h.ext.trans hx1)) (by omega)).mono fun v w' ⟨h1, h2, h3⟩ => ⟨h1, h2, up hx1 h3⟩
set_option maxRecDepth 10000 in
theorem arenaTree_c {w0 : World} {v0 : Value} {l : List ActD} (hv : ActsAt w0 v0 l) (hl : l.length ≤ 9223372036854775807) (hkd : ∀ x ∈ l, 0 ≤ x.kd) :
    Gives Try.prog 6 #[v0] w0 fun v w' => v = .bool true ∧ Ext w0 w' := by
  have n11 : ((11 : Int) = 0) = False := by decide
  refine Gives.of_W Try.call6 Try.func6 rfl Try.ntmps6 (by simp) ?_; intro Z hZ
  (repeat (first | (with_reducible first | (refine hK _ _ ?_; clear hK K) | refine (show ∀ σ' w', _ → K σ' w' from by assumption) _ _ ?_ | refine W_seq_k fun K hK => ?_ | refine W_block_k fun K hK => ?_ | refine W_skip ?_ | refine W_ret ?_) | ((first | ((with_reducible refine W_id ?_); refine W_reg (by decide) (by rfl) ?_) | (with_reducible first | refine W_cond ?_ | refine hZ _ _ ?_ | refine W_exit ?_ | refine Wo_id ?_)); repeat1' simp only [push_cast, Nat.reduceBEq, Nat.reduceLT, Nat.reduceEqDiff, reduceIte, reduceCtorEq, Nat.reduceMul, Nat.reduceAdd, Nat.reduceSub, Int.reduceEq, Int.reduceLT, Int.reduceLE, Int.reduceNeg, Int.reduceAdd, Int.reduceSub, Int.reduceMul, Nat.reduceLeDiff, Int.reduceToNat]) | ((repeat ((fail_if_success with_reducible refine hK _ _ ?_); clear hK K)); (with_reducible refine hK _ _ ?_); clear hK K)))
  refine (great_c hv 120 hl).mono ?_
  rintro v w1 ⟨g, rfl, hx1, hg⟩
  cases g with
  | true =>
    ((repeat simp only [push_cast, Nat.reduceBEq, Nat.reduceLT, Nat.reduceEqDiff, reduceIte, reduceCtorEq, Nat.reduceMul, Nat.reduceAdd, Nat.reduceSub, Int.reduceEq, Int.reduceLT, Int.reduceLE, Int.reduceNeg, Int.reduceAdd, Int.reduceSub, Int.reduceMul, Nat.reduceLeDiff, Int.reduceToNat]); (repeat (first | (with_reducible first | (refine hK _ _ ?_; clear hK K) | refine (show ∀ σ' w', _ → K σ' w' from by assumption) _ _ ?_ | refine W_seq_k fun K hK => ?_ | refine W_block_k fun K hK => ?_ | refine W_skip ?_ | refine W_ret ?_) | ((first | ((with_reducible refine W_id ?_); refine W_reg (by decide) (by rfl) ?_) | (with_reducible first | refine W_cond ?_ | refine hZ _ _ ?_ | refine W_exit ?_ | refine Wo_id ?_)); repeat1' simp only [push_cast, Nat.reduceBEq, Nat.reduceLT, Nat.reduceEqDiff, reduceIte, reduceCtorEq, Nat.reduceMul, Nat.reduceAdd, Nat.reduceSub, Int.reduceEq, Int.reduceLT, Int.reduceLE, Int.reduceNeg, Int.reduceAdd, Int.reduceSub, Int.reduceMul, Nat.reduceLeDiff, Int.reduceToNat]) | ((repeat ((fail_if_success with_reducible refine hK _ _ ?_); clear hK K)); (with_reducible refine hK _ _ ?_); clear hK K))))
    refine grove_c.mono ?_
    rintro v w' ⟨rfl, hgr⟩
    ((repeat simp only [push_cast, Nat.reduceBEq, Nat.reduceLT, Nat.reduceEqDiff, reduceIte, reduceCtorEq, Nat.reduceMul, Nat.reduceAdd, Nat.reduceSub, Int.reduceEq, Int.reduceLT, Int.reduceLE, Int.reduceNeg, Int.reduceAdd, Int.reduceSub, Int.reduceMul, Nat.reduceLeDiff, Int.reduceToNat]); (repeat (first | (with_reducible first | (refine hK _ _ ?_; clear hK K) | refine (show ∀ σ' w', _ → K σ' w' from by assumption) _ _ ?_ | refine W_seq_k fun K hK => ?_ | refine W_block_k fun K hK => ?_ | refine W_skip ?_ | refine W_ret ?_) | ((first | ((with_reducible refine W_id ?_); refine W_reg (by decide) (by rfl) ?_) | (with_reducible first | refine W_cond ?_ | refine hZ _ _ ?_ | refine W_exit ?_ | refine Wo_id ?_)); repeat1' simp only [push_cast, Nat.reduceBEq, Nat.reduceLT, Nat.reduceEqDiff, reduceIte, reduceCtorEq, Nat.reduceMul, Nat.reduceAdd, Nat.reduceSub, Int.reduceEq, Int.reduceLT, Int.reduceLE, Int.reduceNeg, Int.reduceAdd, Int.reduceSub, Int.reduceMul, Nat.reduceLeDiff, Int.reduceToNat]) | ((repeat ((fail_if_success with_reducible refine hK _ _ ?_); clear hK K)); (with_reducible refine hK _ _ ?_); clear hK K))))
    exact hx1.trans hgr
  | false =>
    obtain ⟨hn, hok⟩ := hg rfl
    have hv1 := hv.ext hx1
    obtain ⟨a, c, rfl, hc, _⟩ := hv
    ((repeat simp only [push_cast, Nat.reduceBEq, Nat.reduceLT, Nat.reduceEqDiff, reduceIte, reduceCtorEq, Nat.reduceMul, Nat.reduceAdd, Nat.reduceSub, Int.reduceEq, Int.reduceLT, Int.reduceLE, Int.reduceNeg, Int.reduceAdd, Int.reduceSub, Int.reduceMul, Nat.reduceLeDiff, Int.reduceToNat]); (repeat (first | (with_reducible first | (refine hK _ _ ?_; clear hK K) | refine (show ∀ σ' w', _ → K σ' w' from by assumption) _ _ ?_ | refine W_seq_k fun K hK => ?_ | refine W_block_k fun K hK => ?_ | refine W_skip ?_ | refine W_ret ?_) | ((first | ((with_reducible refine W_id ?_); refine W_reg (by decide) (by rfl) ?_) | (with_reducible first | refine W_cond ?_ | refine hZ _ _ ?_ | refine W_exit ?_ | refine Wo_id ?_)); repeat1' simp only [push_cast, Nat.reduceBEq, Nat.reduceLT, Nat.reduceEqDiff, reduceIte, reduceCtorEq, Nat.reduceMul, Nat.reduceAdd, Nat.reduceSub, Int.reduceEq, Int.reduceLT, Int.reduceLE, Int.reduceNeg, Int.reduceAdd, Int.reduceSub, Int.reduceMul, Nat.reduceLeDiff, Int.reduceToNat]) | ((repeat ((fail_if_success with_reducible refine hK _ _ ?_); clear hK K)); (with_reducible refine hK _ _ ?_); clear hK K))))
    refine new_a.mono ?_
    rintro v w2 ⟨pa, rfl, h2⟩
    ((repeat simp only [push_cast, Nat.reduceBEq, Nat.reduceLT, Nat.reduceEqDiff, reduceIte, reduceCtorEq, Nat.reduceMul, Nat.reduceAdd, Nat.reduceSub, Int.reduceEq, Int.reduceLT, Int.reduceLE, Int.reduceNeg, Int.reduceAdd, Int.reduceSub, Int.reduceMul, Nat.reduceLeDiff, Int.reduceToNat]); (repeat (first | (with_reducible first | (refine hK _ _ ?_; clear hK K) | refine (show ∀ σ' w', _ → K σ' w' from by assumption) _ _ ?_ | refine W_seq_k fun K hK => ?_ | refine W_block_k fun K hK => ?_ | refine W_skip ?_ | refine W_ret ?_) | ((first | ((with_reducible refine W_id ?_); refine W_reg (by decide) (by rfl) ?_) | (with_reducible first | refine W_cond ?_ | refine hZ _ _ ?_ | refine W_exit ?_ | refine Wo_id ?_)); repeat1' simp only [push_cast, Nat.reduceBEq, Nat.reduceLT, Nat.reduceEqDiff, reduceIte, reduceCtorEq, Nat.reduceMul, Nat.reduceAdd, Nat.reduceSub, Int.reduceEq, Int.reduceLT, Int.reduceLE, Int.reduceNeg, Int.reduceAdd, Int.reduceSub, Int.reduceMul, Nat.reduceLeDiff, Int.reduceToNat]) | ((repeat ((fail_if_success with_reducible refine hK _ _ ?_); clear hK K)); (with_reducible refine hK _ _ ?_); clear hK K))))
    refine (tree_a h2 (by decide) (by decide)).mono ?_
    rintro v w3 ⟨T0, b0, hT0, hm0, hx3, hf0, hf0'⟩
    have hNB : ∀ {T : List Laid} {bo : Option Nat} {w : World}, (∀ b, bo = some b → w.heap.size ≤ b) → (∀ m ∈ T, ∀ b ∈ m.blks, w.heap.size ≤ b) → ∀ b, NB T bo b → w.heap.size ≤ b := fun h1 h2 b hb => by
      rcases hb with hb | ⟨m, hm, hb⟩
      · exact h1 b hb
      · exact h2 m hm b hb
    have h3 : At w1 w3 (NB T0 b0) pa [docN] := h2.guard hx3 fun b hb => .inr ⟨hNB hf0 hf0' b hb, hT0.lt hb⟩
    ((repeat simp only [push_cast, Nat.reduceBEq, Nat.reduceLT, Nat.reduceEqDiff, reduceIte, reduceCtorEq, Nat.reduceMul, Nat.reduceAdd, Nat.reduceSub, Int.reduceEq, Int.reduceLT, Int.reduceLE, Int.reduceNeg, Int.reduceAdd, Int.reduceSub, Int.reduceMul, Nat.reduceLeDiff, Int.reduceToNat]); (repeat (first | (with_reducible first | (refine hK _ _ ?_; clear hK K) | refine (show ∀ σ' w', _ → K σ' w' from by assumption) _ _ ?_ | refine W_seq_k fun K hK => ?_ | refine W_block_k fun K hK => ?_ | refine W_skip ?_ | refine W_ret ?_) | ((first | ((with_reducible refine W_id ?_); refine W_reg (by decide) (by rfl) ?_) | (with_reducible first | refine W_cond ?_ | refine hZ _ _ ?_ | refine W_exit ?_ | refine Wo_id ?_)); repeat1' simp only [push_cast, Nat.reduceBEq, Nat.reduceLT, Nat.reduceEqDiff, reduceIte, reduceCtorEq, Nat.reduceMul, Nat.reduceAdd, Nat.reduceSub, Int.reduceEq, Int.reduceLT, Int.reduceLE, Int.reduceNeg, Int.reduceAdd, Int.reduceSub, Int.reduceMul, Nat.reduceLeDiff, Int.reduceToNat]) | ((repeat ((fail_if_success with_reducible refine hK _ _ ?_); clear hK K)); (with_reducible refine hK _ _ ?_); clear hK K))))
    refine W_loop (S := Nat × Value × List Nd × List Laid × Option Nat) (fun s => [(0, .slice a l.length c), (3, .pointer (some ⟨pa, 0, none⟩)), (4, s.2.1), (5, .int .i64 (s.1 : Int))])
      (fun s w4 => s.1 ≤ l.length ∧ At w1 w4 (NB s.2.2.2.1 s.2.2.2.2) pa s.2.2.1 ∧ NdsAt w4 s.2.1 s.2.2.2.1 s.2.2.2.2 ∧ s.2.2.2.1.map Laid.nd = s.2.2.1 ∧ Sz s.2.2.1 s.1) (fun s => l.length - s.1) (0, v, [docN], T0, b0) ?_ ?_ ?_
    · (repeat simp only [push_cast, Nat.reduceBEq, Nat.reduceLT, Nat.reduceEqDiff, reduceIte, reduceCtorEq, Nat.reduceMul, Nat.reduceAdd, Nat.reduceSub, Int.reduceEq, Int.reduceLT, Int.reduceLE, Int.reduceNeg, Int.reduceAdd, Int.reduceSub, Int.reduceMul, Nat.reduceLeDiff, Int.reduceToNat])
    · refine ⟨by simp, h3, hT0, hm0, ⟨Nat.le_refl 1, fun t => ?_, fun t => ?_⟩⟩
      · by_cases ht : t = 0
        · subst ht; exact Nat.le_refl 0
        · rw [gN_none (by simp; omega)]; exact Nat.le_refl 0
      · by_cases ht : t = 0
        · subst ht; exact Nat.le_refl 0
        · rw [gN_none (by simp; omega)]; exact Nat.le_refl 0
    rintro ⟨i, vw, L, T, bo⟩ w4 ⟨hi, hA, hT, hm, hs⟩
    simp only at hi hA hT hm hs ⊢
    by_cases hil : i < l.length
    · obtain ⟨x, hxi⟩ : ∃ x, l[i]? = some x := ⟨_, List.getElem?_eq_getElem hil⟩
      have hxl : x ∈ l := List.mem_of_getElem? hxi
      obtain ⟨_, _, e, _, hA2⟩ := hv1.ext hA.ext
      cases e
      obtain ⟨b, o, rfl, hcell, hat, ka, kn, kc, ekv⟩ := hA2 i x hxi
      have hv1c := hv1
      obtain ⟨_, _, e', _, hA1⟩ := hv1c
      cases e'
      obtain ⟨_, _, _, _, hat1, _⟩ := hA1 i x hxi
      obtain ⟨ea, ec, eav, _, _⟩ := attrs_len hat
      have c0 := hcell 0 (by decide)
      have c1 := hcell 1 (by decide)
      have c2 := hcell 2 (by decide)
      have c3 := hcell 3 (by decide)
      have c4 := hcell 4 (by decide)
      have c5 := hcell 5 (by decide)
      have c6 := hcell 6 (by decide)
      have c7 := hcell 7 (by decide)
      have c8 := hcell 8 (by decide)
      have c9 := hcell 9 (by decide)
      have c10 := hcell 10 (by decide)
      have c11 := hcell 11 (by decide)
      have c12 := hcell 12 (by decide)
      have c13 := hcell 13 (by decide)
      simp only [ActD.cells, List.getElem?_cons_zero, List.getElem?_cons_succ, Nat.add_zero] at c0 c1 c2 c3 c4 c5 c6 c7 c8 c9 c10 c11 c12 c13
      have d0 : (i : Int) < (l.length : Int) := by omega
      have d1 : (0 : Int) ≤ (i : Int) := by omega
      have d2 : inI64 ((i : Int) + 1) := by unfold inI64; omega
      obtain ⟨hgd, hkp, hsz, href⟩ := doneN_ok hA.gd hs x ⟨(hok x hxl).1, (hok x hxl).2.1⟩ (hkd x hxl)
      have hdone := done_a hA hs (by omega) x ⟨(hok x hxl).1, (hok x hxl).2.1⟩ (hkd x hxl) hat1
      clear hA2 hcell hA1
      (repeat (first | (with_reducible first | (refine hK _ _ ?_; clear hK K) | refine (show ∀ σ' w', _ → K σ' w' from by assumption) _ _ ?_ | refine W_seq_k fun K hK => ?_ | refine W_block_k fun K hK => ?_ | refine W_skip ?_ | refine W_ret ?_) | ((first | ((with_reducible refine W_id ?_); refine W_reg (by decide) (by rfl) ?_) | (with_reducible first | refine W_cond ?_ | refine hZ _ _ ?_ | refine W_exit ?_ | refine Wo_id ?_)); repeat1' simp only [push_cast, Nat.reduceBEq, Nat.reduceLT, Nat.reduceEqDiff, reduceIte, reduceCtorEq, Nat.reduceMul, Nat.reduceAdd, Nat.reduceSub, Int.reduceEq, Int.reduceLT, Int.reduceLE, Int.reduceNeg, Int.reduceAdd, Int.reduceSub, Int.reduceMul, Nat.reduceLeDiff, Int.reduceToNat, d0, d1, c0, c1, c2, c3, c4, c5, c6, c7, c8, c9, c10, c11, c12, c13]) | ((repeat ((fail_if_success with_reducible refine hK _ _ ?_); clear hK K)); (with_reducible refine hK _ _ ?_); clear hK K)))
      refine hdone.mono ?_
      rintro v w5 ⟨rfl, h5, hu5⟩
      have hT5 : NdsAt w5 vw T bo := hT.upd hu5 (fun b hb e => e.2 (.inl hb)) (fun m hm b hb e => e.2 (.inr ⟨m, hm, hb⟩))
      generalize hdr : doneN L x = r at *
      obtain ⟨L', ev⟩ := r
      simp only at hgd hkp hsz href h5 ⊢
      have hsl := hsz.len
      ((repeat simp only [push_cast, Nat.reduceBEq, Nat.reduceLT, Nat.reduceEqDiff, reduceIte, reduceCtorEq, Nat.reduceMul, Nat.reduceAdd, Nat.reduceSub, Int.reduceEq, Int.reduceLT, Int.reduceLE, Int.reduceNeg, Int.reduceAdd, Int.reduceSub, Int.reduceMul, Nat.reduceLeDiff, Int.reduceToNat]); (repeat (first | (with_reducible first | (refine hK _ _ ?_; clear hK K) | refine (show ∀ σ' w', _ → K σ' w' from by assumption) _ _ ?_ | refine W_seq_k fun K hK => ?_ | refine W_block_k fun K hK => ?_ | refine W_skip ?_ | refine W_ret ?_) | ((first | ((with_reducible refine W_id ?_); refine W_reg (by decide) (by rfl) ?_) | (with_reducible first | refine W_cond ?_ | refine hZ _ _ ?_ | refine W_exit ?_ | refine Wo_id ?_)); repeat1' simp only [push_cast, Nat.reduceBEq, Nat.reduceLT, Nat.reduceEqDiff, reduceIte, reduceCtorEq, Nat.reduceMul, Nat.reduceAdd, Nat.reduceSub, Int.reduceEq, Int.reduceLT, Int.reduceLE, Int.reduceNeg, Int.reduceAdd, Int.reduceSub, Int.reduceMul, Nat.reduceLeDiff, Int.reduceToNat]) | ((repeat ((fail_if_success with_reducible refine hK _ _ ?_); clear hK K)); (with_reducible refine hK _ _ ?_); clear hK K))))
      refine (tree_a h5 (by omega) fun n hn => by have := (hsz.mem hn).2; omega).mono ?_
      rintro v w6 ⟨T', bo', hT', hm', hx6, hf6, hf6'⟩
      have h6 : At w1 w6 (NB T' bo') pa L' := h5.guard hx6 fun b hb => .inr ⟨hNB hf6 hf6' b hb, hT'.lt hb⟩
      have hT6 := hT5.ext hx6
      obtain ⟨_, _, e, _, hA6⟩ := hv1.ext h6.ext
      cases e
      obtain ⟨_, _, e', hcell6, _⟩ := hA6 i x hxi
      cases e'
      have c0' := hcell6 0 (by decide)
      simp only [ActD.cells, List.getElem?_cons_zero, Nat.add_zero] at c0'
      have hTl : T.length = L.length := by rw [← hm]; simp
      have hTl' : T'.length = L'.length := by rw [← hm']; simp
      obtain ⟨aw, cw, rfl, _⟩ := hT6.len
      obtain ⟨an, cn, rfl, _⟩ := hT'.len
      have g0 : ¬ (T'.length : Int) < (T.length : Int) := by have := hkp.len; omega
      have hkl0 := hkp.len
      have hsLn := hs.len
      have qs : ∀ w9, Ext w6 w9 → ∀ k, k < T.length → ∃ b1 o1 b2 o2, an = some ⟨b1, o1, none⟩ ∧ aw = some ⟨b2, o2, none⟩ ∧ w9.cell? ⟨b1, o1 + k * 11, none⟩ = some (.int .i64 (gN L k).kind) ∧ w9.cell? ⟨b1, o1 + k * 11 + 1, none⟩ = some (.string (gN L k).name) ∧ w9.cell? ⟨b1, o1 + k * 11 + 7, none⟩ = some (.int .i64 (gN L k).content) ∧ w9.cell? ⟨b2, o2 + k * 11, none⟩ = some (.int .i64 (gN L k).kind) ∧ w9.cell? ⟨b2, o2 + k * 11 + 1, none⟩ = some (.string (gN L k).name) ∧ w9.cell? ⟨b2, o2 + k * 11 + 7, none⟩ = some (.int .i64 (gN L k).content) := by
        intro w9 hx9 k hk
        obtain ⟨b1, o1, _, _, e1, _⟩ := hT'.sl.some_of (by intro e; have := flat_length T'; rw [e] at this; simp at this; omega)
        obtain ⟨b2, o2, _, _, e2, _⟩ := hT6.sl.some_of (by intro e; have := flat_length T; rw [e] at this; simp at this; omega)
        cases e1; cases e2
        have e1 : T'[k]? = some (T'[k]'(by omega)) := List.getElem?_eq_getElem _
        have e2 : T[k]? = some T[k] := List.getElem?_eq_getElem _
        have n1 : (T'[k]'(by omega)).nd = gN L' k := by
          have : L'[k]? = some (T'[k]'(by omega)).nd := by rw [← hm', List.getElem?_map, e1]; rfl
          rw [gN_nat this]
        have n2 : T[k].nd = gN L k := by
          have : L[k]? = some T[k].nd := by rw [← hm, List.getElem?_map, e2]; rfl
          rw [gN_nat this]
        obtain ⟨p0, p1, _, _, _, _, _, p7, _⟩ := nds_all (hT'.ext hx9) e1
        obtain ⟨q0, q1, _, _, _, _, _, q7, _⟩ := nds_all (hT6.ext hx9) e2
        rw [n1] at p0 p1 p7
        rw [n2] at q0 q1 q7
        rw [hkp.kind k (by omega)] at p0
        rw [hkp.name k (by omega)] at p1
        rw [hkp.cont k (by omega)] at p7
        exact ⟨b1, o1, b2, o2, rfl, rfl, p0, p1, p7, q0, q1, q7⟩
      have hgs : Gd (T'.map Laid.nd) := by rw [hm']; exact hgd
      ((repeat simp only [push_cast, Nat.reduceBEq, Nat.reduceLT, Nat.reduceEqDiff, reduceIte, reduceCtorEq, Nat.reduceMul, Nat.reduceAdd, Nat.reduceSub, Int.reduceEq, Int.reduceLT, Int.reduceLE, Int.reduceNeg, Int.reduceAdd, Int.reduceSub, Int.reduceMul, Nat.reduceLeDiff, Int.reduceToNat, d0, d1, c0', n11, not_false_eq_true]); (repeat (first | (with_reducible first | (refine hK _ _ ?_; clear hK K) | refine (show ∀ σ' w', _ → K σ' w' from by assumption) _ _ ?_ | refine W_seq_k fun K hK => ?_ | refine W_block_k fun K hK => ?_ | refine W_skip ?_ | refine W_ret ?_) | ((first | ((with_reducible refine W_id ?_); refine W_reg (by decide) (by rfl) ?_) | (with_reducible first | refine W_cond ?_ | refine hZ _ _ ?_ | refine W_exit ?_ | refine Wo_id ?_)); repeat1' simp only [push_cast, Nat.reduceBEq, Nat.reduceLT, Nat.reduceEqDiff, reduceIte, reduceCtorEq, Nat.reduceMul, Nat.reduceAdd, Nat.reduceSub, Int.reduceEq, Int.reduceLT, Int.reduceLE, Int.reduceNeg, Int.reduceAdd, Int.reduceSub, Int.reduceMul, Nat.reduceLeDiff, Int.reduceToNat, d0, d1, c0', n11, not_false_eq_true]) | ((repeat ((fail_if_success with_reducible refine hK _ _ ?_); clear hK K)); (with_reducible refine hK _ _ ?_); clear hK K))))
      refine (sound_c hT' hgs (by omega)).mono ?_
      rintro v w7 ⟨rfl, hx7⟩
      by_cases hadd : x.kd.tmod 11 < 3
      · by_cases hev : ev < 0
        · have hL : L' = L := href (.inl ⟨hadd, hev⟩)
          ((repeat simp only [push_cast, Nat.reduceBEq, Nat.reduceLT, Nat.reduceEqDiff, reduceIte, reduceCtorEq, Nat.reduceMul, Nat.reduceAdd, Nat.reduceSub, Int.reduceEq, Int.reduceLT, Int.reduceLE, Int.reduceNeg, Int.reduceAdd, Int.reduceSub, Int.reduceMul, Nat.reduceLeDiff, Int.reduceToNat, g0, hadd, hev]); (repeat (first | (with_reducible first | (refine hK _ _ ?_; clear hK K) | refine (show ∀ σ' w', _ → K σ' w' from by assumption) _ _ ?_ | refine W_seq_k fun K hK => ?_ | refine W_block_k fun K hK => ?_ | refine W_skip ?_ | refine W_ret ?_) | ((first | ((with_reducible refine W_id ?_); refine W_reg (by decide) (by rfl) ?_) | (with_reducible first | refine W_cond ?_ | refine hZ _ _ ?_ | refine W_exit ?_ | refine Wo_id ?_)); repeat1' simp only [push_cast, Nat.reduceBEq, Nat.reduceLT, Nat.reduceEqDiff, reduceIte, reduceCtorEq, Nat.reduceMul, Nat.reduceAdd, Nat.reduceSub, Int.reduceEq, Int.reduceLT, Int.reduceLE, Int.reduceNeg, Int.reduceAdd, Int.reduceSub, Int.reduceMul, Nat.reduceLeDiff, Int.reduceToNat, g0, hadd, hev]) | ((repeat ((fail_if_success with_reducible refine hK _ _ ?_); clear hK K)); (with_reducible refine hK _ _ ?_); clear hK K))))
          refine (nodes_c (hT'.ext hx7) (hT6.ext hx7) (by rw [hm', hm, hL]) (by omega) (fun m hmm => by
            have hin : m.nd ∈ L' := by rw [← hm']; exact List.mem_map_of_mem hmm
            obtain ⟨q, hq⟩ := List.getElem?_of_mem hin
            have hfew := hgd.few q
            rw [gN_nat hq] at hfew
            have := (hsz.mem hin).2
            exact ⟨by omega, by omega⟩)).mono ?_
          rintro v w8 ⟨rfl, hx8⟩
          have hxW := hx7.trans hx8
          ((repeat simp only [push_cast, Nat.reduceBEq, Nat.reduceLT, Nat.reduceEqDiff, reduceIte, reduceCtorEq, Nat.reduceMul, Nat.reduceAdd, Nat.reduceSub, Int.reduceEq, Int.reduceLT, Int.reduceLE, Int.reduceNeg, Int.reduceAdd, Int.reduceSub, Int.reduceMul, Nat.reduceLeDiff, Int.reduceToNat, not_true_eq_false]); (repeat (first | (with_reducible first | (refine hK _ _ ?_; clear hK K) | refine (show ∀ σ' w', _ → K σ' w' from by assumption) _ _ ?_ | refine W_seq_k fun K hK => ?_ | refine W_block_k fun K hK => ?_ | refine W_skip ?_ | refine W_ret ?_) | ((first | ((with_reducible refine W_id ?_); refine W_reg (by decide) (by rfl) ?_) | (with_reducible first | refine W_cond ?_ | refine hZ _ _ ?_ | refine W_exit ?_ | refine Wo_id ?_)); repeat1' simp only [push_cast, Nat.reduceBEq, Nat.reduceLT, Nat.reduceEqDiff, reduceIte, reduceCtorEq, Nat.reduceMul, Nat.reduceAdd, Nat.reduceSub, Int.reduceEq, Int.reduceLT, Int.reduceLE, Int.reduceNeg, Int.reduceAdd, Int.reduceSub, Int.reduceMul, Nat.reduceLeDiff, Int.reduceToNat, not_true_eq_false]) | ((repeat ((fail_if_success with_reducible refine hK _ _ ?_); clear hK K)); (with_reducible refine hK _ _ ?_); clear hK K))))
          refine W_loop (S := Nat) (fun k => [(0, .slice (some ⟨b, o, none⟩) l.length c), (3, .pointer (some ⟨pa, 0, none⟩)), (4, .slice aw T.length cw), (5, .int .i64 (i : Int)), (7, .slice an T'.length cn), (9, .int .i64 (k : Int))])
            (fun k w9 => k ≤ T.length ∧ Ext w8 w9) (fun k => T.length - k) 0 ?_ ?_ ?_
          · (repeat simp only [push_cast, Nat.reduceBEq, Nat.reduceLT, Nat.reduceEqDiff, reduceIte, reduceCtorEq, Nat.reduceMul, Nat.reduceAdd, Nat.reduceSub, Int.reduceEq, Int.reduceLT, Int.reduceLE, Int.reduceNeg, Int.reduceAdd, Int.reduceSub, Int.reduceMul, Nat.reduceLeDiff, Int.reduceToNat])
          · exact ⟨by omega, Ext.refl _⟩
          rintro k w9 ⟨hk, hx9⟩
          by_cases hkl : k < T.length
          · obtain ⟨b1, o1, b2, o2, rfl, rfl, p0, p1, p7, q0, q1, q7⟩ := qs w9.drew (hxW.trans (hx9.trans (Ext.drew _))) k hkl
            have f0 : (k : Int) < (T.length : Int) := by omega
            have f1 : (0 : Int) ≤ (k : Int) := by omega
            have f2 : inI64 ((k : Int) + 1) := by unfold inI64; omega
            have f3 : (k : Int) < (T'.length : Int) := by omega
            (repeat (first | (with_reducible first | (refine hK _ _ ?_; clear hK K) | refine (show ∀ σ' w', _ → K σ' w' from by assumption) _ _ ?_ | refine W_seq_k fun K hK => ?_ | refine W_block_k fun K hK => ?_ | refine W_skip ?_ | refine W_ret ?_) | ((first | ((with_reducible refine W_id ?_); refine W_reg (by decide) (by rfl) ?_) | (with_reducible first | refine W_cond ?_ | refine hZ _ _ ?_ | refine W_exit ?_ | refine Wo_id ?_)); repeat1' simp only [push_cast, Nat.reduceBEq, Nat.reduceLT, Nat.reduceEqDiff, reduceIte, reduceCtorEq, Nat.reduceMul, Nat.reduceAdd, Nat.reduceSub, Int.reduceEq, Int.reduceLT, Int.reduceLE, Int.reduceNeg, Int.reduceAdd, Int.reduceSub, Int.reduceMul, Nat.reduceLeDiff, Int.reduceToNat, f0, f1]) | ((repeat ((fail_if_success with_reducible refine hK _ _ ?_); clear hK K)); (with_reducible refine hK _ _ ?_); clear hK K)))
            refine W_draw (.pas 0 (.pas 1 (.pas 2 (.pas 3 (.pas 4 (.pas 5 (.pas 6 (.pas 7 (.pas 8 (.pas 9 (.pas 10 (.pas 11 (.pas 12 (.pas 13 (.pas 14 (.pas 15 (.pas 16 (.pas 17 (.pas 18 (.pas 19 (.pas 20 (.pas 21 (.pas 22 (.pas 23 (.pas 24 (.pas 25 (.pas 26 (.pas 27 (.pas 28 (.pas 29 (.pas 30 (.pas 31 (.pas 32 (.pas 33 (.pas 34 (.pas 35 (.pas 36 .fin))))))))))))))))))))))))))))))))))))) (fun _ => True) (by decide) mixed (by kernel_rfl) ?_
            (repeat (first | ((first | refine pas_plain rfl ?_ | refine pas_g rfl rfl ?_ | refine act_plain rfl ?_ | refine act_g rfl rfl ?_ | refine last_plain rfl ?_ | refine tail_plain rfl ?_ | refine tail_g rfl rfl ?_); (repeat simp only [push_cast, Nat.reduceBEq, Nat.reduceLT, Nat.reduceEqDiff, reduceIte, reduceCtorEq, Nat.reduceMul, Nat.reduceAdd, Nat.reduceSub, Int.reduceEq, Int.reduceLT, Int.reduceLE, Int.reduceNeg, Int.reduceAdd, Int.reduceSub, Int.reduceMul, Nat.reduceLeDiff, Int.reduceToNat, f0, f1, f3, p0, p1, p7, q0, q1, q7, not_true_eq_false])) | (refine tail_fin ?_) | (refine sch_fin ?_)))
            ((repeat simp only [push_cast, Nat.reduceBEq, Nat.reduceLT, Nat.reduceEqDiff, reduceIte, reduceCtorEq, Nat.reduceMul, Nat.reduceAdd, Nat.reduceSub, Int.reduceEq, Int.reduceLT, Int.reduceLE, Int.reduceNeg, Int.reduceAdd, Int.reduceSub, Int.reduceMul, Nat.reduceLeDiff, Int.reduceToNat, f2]); (repeat (first | (with_reducible first | (refine hK _ _ ?_; clear hK K) | refine (show ∀ σ' w', _ → K σ' w' from by assumption) _ _ ?_ | refine W_seq_k fun K hK => ?_ | refine W_block_k fun K hK => ?_ | refine W_skip ?_ | refine W_ret ?_) | ((first | ((with_reducible refine W_id ?_); refine W_reg (by decide) (by rfl) ?_) | (with_reducible first | refine W_cond ?_ | refine hZ _ _ ?_ | refine W_exit ?_ | refine Wo_id ?_)); repeat1' simp only [push_cast, Nat.reduceBEq, Nat.reduceLT, Nat.reduceEqDiff, reduceIte, reduceCtorEq, Nat.reduceMul, Nat.reduceAdd, Nat.reduceSub, Int.reduceEq, Int.reduceLT, Int.reduceLE, Int.reduceNeg, Int.reduceAdd, Int.reduceSub, Int.reduceMul, Nat.reduceLeDiff, Int.reduceToNat, f2]) | ((repeat ((fail_if_success with_reducible refine hK _ _ ?_); clear hK K)); (with_reducible refine hK _ _ ?_); clear hK K))))
            refine ⟨k + 1, by omega, ?_⟩
            (repeat simp only [push_cast, Nat.reduceBEq, Nat.reduceLT, Nat.reduceEqDiff, reduceIte, reduceCtorEq, Nat.reduceMul, Nat.reduceAdd, Nat.reduceSub, Int.reduceEq, Int.reduceLT, Int.reduceLE, Int.reduceNeg, Int.reduceAdd, Int.reduceSub, Int.reduceMul, Nat.reduceLeDiff, Int.reduceToNat])
            exact ⟨by omega, hx9.trans (Ext.drew _)⟩
          · have hke : k = T.length := by omega
            subst hke
            have f0 : ¬ (T.length : Int) < (T.length : Int) := by omega
            (repeat (first | (with_reducible first | (refine hK _ _ ?_; clear hK K) | refine (show ∀ σ' w', _ → K σ' w' from by assumption) _ _ ?_ | refine W_seq_k fun K hK => ?_ | refine W_block_k fun K hK => ?_ | refine W_skip ?_ | refine W_ret ?_) | ((first | ((with_reducible refine W_id ?_); refine W_reg (by decide) (by rfl) ?_) | (with_reducible first | refine W_cond ?_ | refine hZ _ _ ?_ | refine W_exit ?_ | refine Wo_id ?_)); repeat1' simp only [push_cast, Nat.reduceBEq, Nat.reduceLT, Nat.reduceEqDiff, reduceIte, reduceCtorEq, Nat.reduceMul, Nat.reduceAdd, Nat.reduceSub, Int.reduceEq, Int.reduceLT, Int.reduceLE, Int.reduceNeg, Int.reduceAdd, Int.reduceSub, Int.reduceMul, Nat.reduceLeDiff, Int.reduceToNat, f0, d2]) | ((repeat ((fail_if_success with_reducible refine hK _ _ ?_); clear hK K)); (with_reducible refine hK _ _ ?_); clear hK K)))
            refine ⟨(i + 1, .slice an T'.length cn, L', T', bo'), by simp only; omega, ?_⟩
            (repeat simp only [push_cast, Nat.reduceBEq, Nat.reduceLT, Nat.reduceEqDiff, reduceIte, reduceCtorEq, Nat.reduceMul, Nat.reduceAdd, Nat.reduceSub, Int.reduceEq, Int.reduceLT, Int.reduceLE, Int.reduceNeg, Int.reduceAdd, Int.reduceSub, Int.reduceMul, Nat.reduceLeDiff, Int.reduceToNat])
            exact ⟨by omega, h6.pass (hxW.trans hx9), hT'.ext (hxW.trans hx9), hm', hsz⟩
        · ((repeat simp only [push_cast, Nat.reduceBEq, Nat.reduceLT, Nat.reduceEqDiff, reduceIte, reduceCtorEq, Nat.reduceMul, Nat.reduceAdd, Nat.reduceSub, Int.reduceEq, Int.reduceLT, Int.reduceLE, Int.reduceNeg, Int.reduceAdd, Int.reduceSub, Int.reduceMul, Nat.reduceLeDiff, Int.reduceToNat, g0, hadd, hev]); (repeat (first | (with_reducible first | (refine hK _ _ ?_; clear hK K) | refine (show ∀ σ' w', _ → K σ' w' from by assumption) _ _ ?_ | refine W_seq_k fun K hK => ?_ | refine W_block_k fun K hK => ?_ | refine W_skip ?_ | refine W_ret ?_) | ((first | ((with_reducible refine W_id ?_); refine W_reg (by decide) (by rfl) ?_) | (with_reducible first | refine W_cond ?_ | refine hZ _ _ ?_ | refine W_exit ?_ | refine Wo_id ?_)); repeat1' simp only [push_cast, Nat.reduceBEq, Nat.reduceLT, Nat.reduceEqDiff, reduceIte, reduceCtorEq, Nat.reduceMul, Nat.reduceAdd, Nat.reduceSub, Int.reduceEq, Int.reduceLT, Int.reduceLE, Int.reduceNeg, Int.reduceAdd, Int.reduceSub, Int.reduceMul, Nat.reduceLeDiff, Int.reduceToNat, g0, hadd, hev]) | ((repeat ((fail_if_success with_reducible refine hK _ _ ?_); clear hK K)); (with_reducible refine hK _ _ ?_); clear hK K))))
          have hxW := hx7
          refine W_loop (S := Nat) (fun k => [(0, .slice (some ⟨b, o, none⟩) l.length c), (3, .pointer (some ⟨pa, 0, none⟩)), (4, .slice aw T.length cw), (5, .int .i64 (i : Int)), (7, .slice an T'.length cn), (9, .int .i64 (k : Int))])
            (fun k w9 => k ≤ T.length ∧ Ext w7 w9) (fun k => T.length - k) 0 ?_ ?_ ?_
          · (repeat simp only [push_cast, Nat.reduceBEq, Nat.reduceLT, Nat.reduceEqDiff, reduceIte, reduceCtorEq, Nat.reduceMul, Nat.reduceAdd, Nat.reduceSub, Int.reduceEq, Int.reduceLT, Int.reduceLE, Int.reduceNeg, Int.reduceAdd, Int.reduceSub, Int.reduceMul, Nat.reduceLeDiff, Int.reduceToNat])
          · exact ⟨by omega, Ext.refl _⟩
          rintro k w9 ⟨hk, hx9⟩
          by_cases hkl : k < T.length
          · obtain ⟨b1, o1, b2, o2, rfl, rfl, p0, p1, p7, q0, q1, q7⟩ := qs w9.drew (hxW.trans (hx9.trans (Ext.drew _))) k hkl
            have f0 : (k : Int) < (T.length : Int) := by omega
            have f1 : (0 : Int) ≤ (k : Int) := by omega
            have f2 : inI64 ((k : Int) + 1) := by unfold inI64; omega
            have f3 : (k : Int) < (T'.length : Int) := by omega
            (repeat (first | (with_reducible first | (refine hK _ _ ?_; clear hK K) | refine (show ∀ σ' w', _ → K σ' w' from by assumption) _ _ ?_ | refine W_seq_k fun K hK => ?_ | refine W_block_k fun K hK => ?_ | refine W_skip ?_ | refine W_ret ?_) | ((first | ((with_reducible refine W_id ?_); refine W_reg (by decide) (by rfl) ?_) | (with_reducible first | refine W_cond ?_ | refine hZ _ _ ?_ | refine W_exit ?_ | refine Wo_id ?_)); repeat1' simp only [push_cast, Nat.reduceBEq, Nat.reduceLT, Nat.reduceEqDiff, reduceIte, reduceCtorEq, Nat.reduceMul, Nat.reduceAdd, Nat.reduceSub, Int.reduceEq, Int.reduceLT, Int.reduceLE, Int.reduceNeg, Int.reduceAdd, Int.reduceSub, Int.reduceMul, Nat.reduceLeDiff, Int.reduceToNat, f0, f1]) | ((repeat ((fail_if_success with_reducible refine hK _ _ ?_); clear hK K)); (with_reducible refine hK _ _ ?_); clear hK K)))
            refine W_draw (.pas 0 (.pas 1 (.pas 2 (.pas 3 (.pas 4 (.pas 5 (.pas 6 (.pas 7 (.pas 8 (.pas 9 (.pas 10 (.pas 11 (.pas 12 (.pas 13 (.pas 14 (.pas 15 (.pas 16 (.pas 17 (.pas 18 (.pas 19 (.pas 20 (.pas 21 (.pas 22 (.pas 23 (.pas 24 (.pas 25 (.pas 26 (.pas 27 (.pas 28 (.pas 29 (.pas 30 (.pas 31 (.pas 32 (.pas 33 (.pas 34 (.pas 35 (.pas 36 .fin))))))))))))))))))))))))))))))))))))) (fun _ => True) (by decide) mixed (by kernel_rfl) ?_
            (repeat (first | ((first | refine pas_plain rfl ?_ | refine pas_g rfl rfl ?_ | refine act_plain rfl ?_ | refine act_g rfl rfl ?_ | refine last_plain rfl ?_ | refine tail_plain rfl ?_ | refine tail_g rfl rfl ?_); (repeat simp only [push_cast, Nat.reduceBEq, Nat.reduceLT, Nat.reduceEqDiff, reduceIte, reduceCtorEq, Nat.reduceMul, Nat.reduceAdd, Nat.reduceSub, Int.reduceEq, Int.reduceLT, Int.reduceLE, Int.reduceNeg, Int.reduceAdd, Int.reduceSub, Int.reduceMul, Nat.reduceLeDiff, Int.reduceToNat, f0, f1, f3, p0, p1, p7, q0, q1, q7, not_true_eq_false])) | (refine tail_fin ?_) | (refine sch_fin ?_)))
            ((repeat simp only [push_cast, Nat.reduceBEq, Nat.reduceLT, Nat.reduceEqDiff, reduceIte, reduceCtorEq, Nat.reduceMul, Nat.reduceAdd, Nat.reduceSub, Int.reduceEq, Int.reduceLT, Int.reduceLE, Int.reduceNeg, Int.reduceAdd, Int.reduceSub, Int.reduceMul, Nat.reduceLeDiff, Int.reduceToNat, f2]); (repeat (first | (with_reducible first | (refine hK _ _ ?_; clear hK K) | refine (show ∀ σ' w', _ → K σ' w' from by assumption) _ _ ?_ | refine W_seq_k fun K hK => ?_ | refine W_block_k fun K hK => ?_ | refine W_skip ?_ | refine W_ret ?_) | ((first | ((with_reducible refine W_id ?_); refine W_reg (by decide) (by rfl) ?_) | (with_reducible first | refine W_cond ?_ | refine hZ _ _ ?_ | refine W_exit ?_ | refine Wo_id ?_)); repeat1' simp only [push_cast, Nat.reduceBEq, Nat.reduceLT, Nat.reduceEqDiff, reduceIte, reduceCtorEq, Nat.reduceMul, Nat.reduceAdd, Nat.reduceSub, Int.reduceEq, Int.reduceLT, Int.reduceLE, Int.reduceNeg, Int.reduceAdd, Int.reduceSub, Int.reduceMul, Nat.reduceLeDiff, Int.reduceToNat, f2]) | ((repeat ((fail_if_success with_reducible refine hK _ _ ?_); clear hK K)); (with_reducible refine hK _ _ ?_); clear hK K))))
            refine ⟨k + 1, by omega, ?_⟩
            (repeat simp only [push_cast, Nat.reduceBEq, Nat.reduceLT, Nat.reduceEqDiff, reduceIte, reduceCtorEq, Nat.reduceMul, Nat.reduceAdd, Nat.reduceSub, Int.reduceEq, Int.reduceLT, Int.reduceLE, Int.reduceNeg, Int.reduceAdd, Int.reduceSub, Int.reduceMul, Nat.reduceLeDiff, Int.reduceToNat])
            exact ⟨by omega, hx9.trans (Ext.drew _)⟩
          · have hke : k = T.length := by omega
            subst hke
            have f0 : ¬ (T.length : Int) < (T.length : Int) := by omega
            (repeat (first | (with_reducible first | (refine hK _ _ ?_; clear hK K) | refine (show ∀ σ' w', _ → K σ' w' from by assumption) _ _ ?_ | refine W_seq_k fun K hK => ?_ | refine W_block_k fun K hK => ?_ | refine W_skip ?_ | refine W_ret ?_) | ((first | ((with_reducible refine W_id ?_); refine W_reg (by decide) (by rfl) ?_) | (with_reducible first | refine W_cond ?_ | refine hZ _ _ ?_ | refine W_exit ?_ | refine Wo_id ?_)); repeat1' simp only [push_cast, Nat.reduceBEq, Nat.reduceLT, Nat.reduceEqDiff, reduceIte, reduceCtorEq, Nat.reduceMul, Nat.reduceAdd, Nat.reduceSub, Int.reduceEq, Int.reduceLT, Int.reduceLE, Int.reduceNeg, Int.reduceAdd, Int.reduceSub, Int.reduceMul, Nat.reduceLeDiff, Int.reduceToNat, f0, d2]) | ((repeat ((fail_if_success with_reducible refine hK _ _ ?_); clear hK K)); (with_reducible refine hK _ _ ?_); clear hK K)))
            refine ⟨(i + 1, .slice an T'.length cn, L', T', bo'), by simp only; omega, ?_⟩
            (repeat simp only [push_cast, Nat.reduceBEq, Nat.reduceLT, Nat.reduceEqDiff, reduceIte, reduceCtorEq, Nat.reduceMul, Nat.reduceAdd, Nat.reduceSub, Int.reduceEq, Int.reduceLT, Int.reduceLE, Int.reduceNeg, Int.reduceAdd, Int.reduceSub, Int.reduceMul, Nat.reduceLeDiff, Int.reduceToNat])
            exact ⟨by omega, h6.pass (hxW.trans hx9), hT'.ext (hxW.trans hx9), hm', hsz⟩
      · by_cases hev : ev = 0
        · ((repeat simp only [push_cast, Nat.reduceBEq, Nat.reduceLT, Nat.reduceEqDiff, reduceIte, reduceCtorEq, Nat.reduceMul, Nat.reduceAdd, Nat.reduceSub, Int.reduceEq, Int.reduceLT, Int.reduceLE, Int.reduceNeg, Int.reduceAdd, Int.reduceSub, Int.reduceMul, Nat.reduceLeDiff, Int.reduceToNat, g0, hadd, hev, not_true_eq_false]); (repeat (first | (with_reducible first | (refine hK _ _ ?_; clear hK K) | refine (show ∀ σ' w', _ → K σ' w' from by assumption) _ _ ?_ | refine W_seq_k fun K hK => ?_ | refine W_block_k fun K hK => ?_ | refine W_skip ?_ | refine W_ret ?_) | ((first | ((with_reducible refine W_id ?_); refine W_reg (by decide) (by rfl) ?_) | (with_reducible first | refine W_cond ?_ | refine hZ _ _ ?_ | refine W_exit ?_ | refine Wo_id ?_)); repeat1' simp only [push_cast, Nat.reduceBEq, Nat.reduceLT, Nat.reduceEqDiff, reduceIte, reduceCtorEq, Nat.reduceMul, Nat.reduceAdd, Nat.reduceSub, Int.reduceEq, Int.reduceLT, Int.reduceLE, Int.reduceNeg, Int.reduceAdd, Int.reduceSub, Int.reduceMul, Nat.reduceLeDiff, Int.reduceToNat, g0, hadd, hev, not_true_eq_false]) | ((repeat ((fail_if_success with_reducible refine hK _ _ ?_); clear hK K)); (with_reducible refine hK _ _ ?_); clear hK K))))
          have hxW := hx7
          refine W_loop (S := Nat) (fun k => [(0, .slice (some ⟨b, o, none⟩) l.length c), (3, .pointer (some ⟨pa, 0, none⟩)), (4, .slice aw T.length cw), (5, .int .i64 (i : Int)), (7, .slice an T'.length cn), (9, .int .i64 (k : Int))])
            (fun k w9 => k ≤ T.length ∧ Ext w7 w9) (fun k => T.length - k) 0 ?_ ?_ ?_
          · (repeat simp only [push_cast, Nat.reduceBEq, Nat.reduceLT, Nat.reduceEqDiff, reduceIte, reduceCtorEq, Nat.reduceMul, Nat.reduceAdd, Nat.reduceSub, Int.reduceEq, Int.reduceLT, Int.reduceLE, Int.reduceNeg, Int.reduceAdd, Int.reduceSub, Int.reduceMul, Nat.reduceLeDiff, Int.reduceToNat])
          · exact ⟨by omega, Ext.refl _⟩
          rintro k w9 ⟨hk, hx9⟩
          by_cases hkl : k < T.length
          · obtain ⟨b1, o1, b2, o2, rfl, rfl, p0, p1, p7, q0, q1, q7⟩ := qs w9.drew (hxW.trans (hx9.trans (Ext.drew _))) k hkl
            have f0 : (k : Int) < (T.length : Int) := by omega
            have f1 : (0 : Int) ≤ (k : Int) := by omega
            have f2 : inI64 ((k : Int) + 1) := by unfold inI64; omega
            have f3 : (k : Int) < (T'.length : Int) := by omega
            (repeat (first | (with_reducible first | (refine hK _ _ ?_; clear hK K) | refine (show ∀ σ' w', _ → K σ' w' from by assumption) _ _ ?_ | refine W_seq_k fun K hK => ?_ | refine W_block_k fun K hK => ?_ | refine W_skip ?_ | refine W_ret ?_) | ((first | ((with_reducible refine W_id ?_); refine W_reg (by decide) (by rfl) ?_) | (with_reducible first | refine W_cond ?_ | refine hZ _ _ ?_ | refine W_exit ?_ | refine Wo_id ?_)); repeat1' simp only [push_cast, Nat.reduceBEq, Nat.reduceLT, Nat.reduceEqDiff, reduceIte, reduceCtorEq, Nat.reduceMul, Nat.reduceAdd, Nat.reduceSub, Int.reduceEq, Int.reduceLT, Int.reduceLE, Int.reduceNeg, Int.reduceAdd, Int.reduceSub, Int.reduceMul, Nat.reduceLeDiff, Int.reduceToNat, f0, f1]) | ((repeat ((fail_if_success with_reducible refine hK _ _ ?_); clear hK K)); (with_reducible refine hK _ _ ?_); clear hK K)))
            refine W_draw (.pas 0 (.pas 1 (.pas 2 (.pas 3 (.pas 4 (.pas 5 (.pas 6 (.pas 7 (.pas 8 (.pas 9 (.pas 10 (.pas 11 (.pas 12 (.pas 13 (.pas 14 (.pas 15 (.pas 16 (.pas 17 (.pas 18 (.pas 19 (.pas 20 (.pas 21 (.pas 22 (.pas 23 (.pas 24 (.pas 25 (.pas 26 (.pas 27 (.pas 28 (.pas 29 (.pas 30 (.pas 31 (.pas 32 (.pas 33 (.pas 34 (.pas 35 (.pas 36 .fin))))))))))))))))))))))))))))))))))))) (fun _ => True) (by decide) mixed (by kernel_rfl) ?_
            (repeat (first | ((first | refine pas_plain rfl ?_ | refine pas_g rfl rfl ?_ | refine act_plain rfl ?_ | refine act_g rfl rfl ?_ | refine last_plain rfl ?_ | refine tail_plain rfl ?_ | refine tail_g rfl rfl ?_); (repeat simp only [push_cast, Nat.reduceBEq, Nat.reduceLT, Nat.reduceEqDiff, reduceIte, reduceCtorEq, Nat.reduceMul, Nat.reduceAdd, Nat.reduceSub, Int.reduceEq, Int.reduceLT, Int.reduceLE, Int.reduceNeg, Int.reduceAdd, Int.reduceSub, Int.reduceMul, Nat.reduceLeDiff, Int.reduceToNat, f0, f1, f3, p0, p1, p7, q0, q1, q7, not_true_eq_false])) | (refine tail_fin ?_) | (refine sch_fin ?_)))
            ((repeat simp only [push_cast, Nat.reduceBEq, Nat.reduceLT, Nat.reduceEqDiff, reduceIte, reduceCtorEq, Nat.reduceMul, Nat.reduceAdd, Nat.reduceSub, Int.reduceEq, Int.reduceLT, Int.reduceLE, Int.reduceNeg, Int.reduceAdd, Int.reduceSub, Int.reduceMul, Nat.reduceLeDiff, Int.reduceToNat, f2]); (repeat (first | (with_reducible first | (refine hK _ _ ?_; clear hK K) | refine (show ∀ σ' w', _ → K σ' w' from by assumption) _ _ ?_ | refine W_seq_k fun K hK => ?_ | refine W_block_k fun K hK => ?_ | refine W_skip ?_ | refine W_ret ?_) | ((first | ((with_reducible refine W_id ?_); refine W_reg (by decide) (by rfl) ?_) | (with_reducible first | refine W_cond ?_ | refine hZ _ _ ?_ | refine W_exit ?_ | refine Wo_id ?_)); repeat1' simp only [push_cast, Nat.reduceBEq, Nat.reduceLT, Nat.reduceEqDiff, reduceIte, reduceCtorEq, Nat.reduceMul, Nat.reduceAdd, Nat.reduceSub, Int.reduceEq, Int.reduceLT, Int.reduceLE, Int.reduceNeg, Int.reduceAdd, Int.reduceSub, Int.reduceMul, Nat.reduceLeDiff, Int.reduceToNat, f2]) | ((repeat ((fail_if_success with_reducible refine hK _ _ ?_); clear hK K)); (with_reducible refine hK _ _ ?_); clear hK K))))
            refine ⟨k + 1, by omega, ?_⟩
            (repeat simp only [push_cast, Nat.reduceBEq, Nat.reduceLT, Nat.reduceEqDiff, reduceIte, reduceCtorEq, Nat.reduceMul, Nat.reduceAdd, Nat.reduceSub, Int.reduceEq, Int.reduceLT, Int.reduceLE, Int.reduceNeg, Int.reduceAdd, Int.reduceSub, Int.reduceMul, Nat.reduceLeDiff, Int.reduceToNat])
            exact ⟨by omega, hx9.trans (Ext.drew _)⟩
          · have hke : k = T.length := by omega
            subst hke
            have f0 : ¬ (T.length : Int) < (T.length : Int) := by omega
            (repeat (first | (with_reducible first | (refine hK _ _ ?_; clear hK K) | refine (show ∀ σ' w', _ → K σ' w' from by assumption) _ _ ?_ | refine W_seq_k fun K hK => ?_ | refine W_block_k fun K hK => ?_ | refine W_skip ?_ | refine W_ret ?_) | ((first | ((with_reducible refine W_id ?_); refine W_reg (by decide) (by rfl) ?_) | (with_reducible first | refine W_cond ?_ | refine hZ _ _ ?_ | refine W_exit ?_ | refine Wo_id ?_)); repeat1' simp only [push_cast, Nat.reduceBEq, Nat.reduceLT, Nat.reduceEqDiff, reduceIte, reduceCtorEq, Nat.reduceMul, Nat.reduceAdd, Nat.reduceSub, Int.reduceEq, Int.reduceLT, Int.reduceLE, Int.reduceNeg, Int.reduceAdd, Int.reduceSub, Int.reduceMul, Nat.reduceLeDiff, Int.reduceToNat, f0, d2]) | ((repeat ((fail_if_success with_reducible refine hK _ _ ?_); clear hK K)); (with_reducible refine hK _ _ ?_); clear hK K)))
            refine ⟨(i + 1, .slice an T'.length cn, L', T', bo'), by simp only; omega, ?_⟩
            (repeat simp only [push_cast, Nat.reduceBEq, Nat.reduceLT, Nat.reduceEqDiff, reduceIte, reduceCtorEq, Nat.reduceMul, Nat.reduceAdd, Nat.reduceSub, Int.reduceEq, Int.reduceLT, Int.reduceLE, Int.reduceNeg, Int.reduceAdd, Int.reduceSub, Int.reduceMul, Nat.reduceLeDiff, Int.reduceToNat])
            exact ⟨by omega, h6.pass (hxW.trans hx9), hT'.ext (hxW.trans hx9), hm', hsz⟩
        · have hL : L' = L := href (.inr ⟨hadd, hev⟩)
          ((repeat simp only [push_cast, Nat.reduceBEq, Nat.reduceLT, Nat.reduceEqDiff, reduceIte, reduceCtorEq, Nat.reduceMul, Nat.reduceAdd, Nat.reduceSub, Int.reduceEq, Int.reduceLT, Int.reduceLE, Int.reduceNeg, Int.reduceAdd, Int.reduceSub, Int.reduceMul, Nat.reduceLeDiff, Int.reduceToNat, g0, hadd, hev, not_false_eq_true]); (repeat (first | (with_reducible first | (refine hK _ _ ?_; clear hK K) | refine (show ∀ σ' w', _ → K σ' w' from by assumption) _ _ ?_ | refine W_seq_k fun K hK => ?_ | refine W_block_k fun K hK => ?_ | refine W_skip ?_ | refine W_ret ?_) | ((first | ((with_reducible refine W_id ?_); refine W_reg (by decide) (by rfl) ?_) | (with_reducible first | refine W_cond ?_ | refine hZ _ _ ?_ | refine W_exit ?_ | refine Wo_id ?_)); repeat1' simp only [push_cast, Nat.reduceBEq, Nat.reduceLT, Nat.reduceEqDiff, reduceIte, reduceCtorEq, Nat.reduceMul, Nat.reduceAdd, Nat.reduceSub, Int.reduceEq, Int.reduceLT, Int.reduceLE, Int.reduceNeg, Int.reduceAdd, Int.reduceSub, Int.reduceMul, Nat.reduceLeDiff, Int.reduceToNat, g0, hadd, hev, not_false_eq_true]) | ((repeat ((fail_if_success with_reducible refine hK _ _ ?_); clear hK K)); (with_reducible refine hK _ _ ?_); clear hK K))))
          refine (nodes_c (hT'.ext hx7) (hT6.ext hx7) (by rw [hm', hm, hL]) (by omega) (fun m hmm => by
            have hin : m.nd ∈ L' := by rw [← hm']; exact List.mem_map_of_mem hmm
            obtain ⟨q, hq⟩ := List.getElem?_of_mem hin
            have hfew := hgd.few q
            rw [gN_nat hq] at hfew
            have := (hsz.mem hin).2
            exact ⟨by omega, by omega⟩)).mono ?_
          rintro v w8 ⟨rfl, hx8⟩
          have hxW := hx7.trans hx8
          ((repeat simp only [push_cast, Nat.reduceBEq, Nat.reduceLT, Nat.reduceEqDiff, reduceIte, reduceCtorEq, Nat.reduceMul, Nat.reduceAdd, Nat.reduceSub, Int.reduceEq, Int.reduceLT, Int.reduceLE, Int.reduceNeg, Int.reduceAdd, Int.reduceSub, Int.reduceMul, Nat.reduceLeDiff, Int.reduceToNat, not_true_eq_false]); (repeat (first | (with_reducible first | (refine hK _ _ ?_; clear hK K) | refine (show ∀ σ' w', _ → K σ' w' from by assumption) _ _ ?_ | refine W_seq_k fun K hK => ?_ | refine W_block_k fun K hK => ?_ | refine W_skip ?_ | refine W_ret ?_) | ((first | ((with_reducible refine W_id ?_); refine W_reg (by decide) (by rfl) ?_) | (with_reducible first | refine W_cond ?_ | refine hZ _ _ ?_ | refine W_exit ?_ | refine Wo_id ?_)); repeat1' simp only [push_cast, Nat.reduceBEq, Nat.reduceLT, Nat.reduceEqDiff, reduceIte, reduceCtorEq, Nat.reduceMul, Nat.reduceAdd, Nat.reduceSub, Int.reduceEq, Int.reduceLT, Int.reduceLE, Int.reduceNeg, Int.reduceAdd, Int.reduceSub, Int.reduceMul, Nat.reduceLeDiff, Int.reduceToNat, not_true_eq_false]) | ((repeat ((fail_if_success with_reducible refine hK _ _ ?_); clear hK K)); (with_reducible refine hK _ _ ?_); clear hK K))))
          refine W_loop (S := Nat) (fun k => [(0, .slice (some ⟨b, o, none⟩) l.length c), (3, .pointer (some ⟨pa, 0, none⟩)), (4, .slice aw T.length cw), (5, .int .i64 (i : Int)), (7, .slice an T'.length cn), (9, .int .i64 (k : Int))])
            (fun k w9 => k ≤ T.length ∧ Ext w8 w9) (fun k => T.length - k) 0 ?_ ?_ ?_
          · (repeat simp only [push_cast, Nat.reduceBEq, Nat.reduceLT, Nat.reduceEqDiff, reduceIte, reduceCtorEq, Nat.reduceMul, Nat.reduceAdd, Nat.reduceSub, Int.reduceEq, Int.reduceLT, Int.reduceLE, Int.reduceNeg, Int.reduceAdd, Int.reduceSub, Int.reduceMul, Nat.reduceLeDiff, Int.reduceToNat])
          · exact ⟨by omega, Ext.refl _⟩
          rintro k w9 ⟨hk, hx9⟩
          by_cases hkl : k < T.length
          · obtain ⟨b1, o1, b2, o2, rfl, rfl, p0, p1, p7, q0, q1, q7⟩ := qs w9.drew (hxW.trans (hx9.trans (Ext.drew _))) k hkl
            have f0 : (k : Int) < (T.length : Int) := by omega
            have f1 : (0 : Int) ≤ (k : Int) := by omega
            have f2 : inI64 ((k : Int) + 1) := by unfold inI64; omega
            have f3 : (k : Int) < (T'.length : Int) := by omega
            (repeat (first | (with_reducible first | (refine hK _ _ ?_; clear hK K) | refine (show ∀ σ' w', _ → K σ' w' from by assumption) _ _ ?_ | refine W_seq_k fun K hK => ?_ | refine W_block_k fun K hK => ?_ | refine W_skip ?_ | refine W_ret ?_) | ((first | ((with_reducible refine W_id ?_); refine W_reg (by decide) (by rfl) ?_) | (with_reducible first | refine W_cond ?_ | refine hZ _ _ ?_ | refine W_exit ?_ | refine Wo_id ?_)); repeat1' simp only [push_cast, Nat.reduceBEq, Nat.reduceLT, Nat.reduceEqDiff, reduceIte, reduceCtorEq, Nat.reduceMul, Nat.reduceAdd, Nat.reduceSub, Int.reduceEq, Int.reduceLT, Int.reduceLE, Int.reduceNeg, Int.reduceAdd, Int.reduceSub, Int.reduceMul, Nat.reduceLeDiff, Int.reduceToNat, f0, f1]) | ((repeat ((fail_if_success with_reducible refine hK _ _ ?_); clear hK K)); (with_reducible refine hK _ _ ?_); clear hK K)))
            refine W_draw (.pas 0 (.pas 1 (.pas 2 (.pas 3 (.pas 4 (.pas 5 (.pas 6 (.pas 7 (.pas 8 (.pas 9 (.pas 10 (.pas 11 (.pas 12 (.pas 13 (.pas 14 (.pas 15 (.pas 16 (.pas 17 (.pas 18 (.pas 19 (.pas 20 (.pas 21 (.pas 22 (.pas 23 (.pas 24 (.pas 25 (.pas 26 (.pas 27 (.pas 28 (.pas 29 (.pas 30 (.pas 31 (.pas 32 (.pas 33 (.pas 34 (.pas 35 (.pas 36 .fin))))))))))))))))))))))))))))))))))))) (fun _ => True) (by decide) mixed (by kernel_rfl) ?_
            (repeat (first | ((first | refine pas_plain rfl ?_ | refine pas_g rfl rfl ?_ | refine act_plain rfl ?_ | refine act_g rfl rfl ?_ | refine last_plain rfl ?_ | refine tail_plain rfl ?_ | refine tail_g rfl rfl ?_); (repeat simp only [push_cast, Nat.reduceBEq, Nat.reduceLT, Nat.reduceEqDiff, reduceIte, reduceCtorEq, Nat.reduceMul, Nat.reduceAdd, Nat.reduceSub, Int.reduceEq, Int.reduceLT, Int.reduceLE, Int.reduceNeg, Int.reduceAdd, Int.reduceSub, Int.reduceMul, Nat.reduceLeDiff, Int.reduceToNat, f0, f1, f3, p0, p1, p7, q0, q1, q7, not_true_eq_false])) | (refine tail_fin ?_) | (refine sch_fin ?_)))
            ((repeat simp only [push_cast, Nat.reduceBEq, Nat.reduceLT, Nat.reduceEqDiff, reduceIte, reduceCtorEq, Nat.reduceMul, Nat.reduceAdd, Nat.reduceSub, Int.reduceEq, Int.reduceLT, Int.reduceLE, Int.reduceNeg, Int.reduceAdd, Int.reduceSub, Int.reduceMul, Nat.reduceLeDiff, Int.reduceToNat, f2]); (repeat (first | (with_reducible first | (refine hK _ _ ?_; clear hK K) | refine (show ∀ σ' w', _ → K σ' w' from by assumption) _ _ ?_ | refine W_seq_k fun K hK => ?_ | refine W_block_k fun K hK => ?_ | refine W_skip ?_ | refine W_ret ?_) | ((first | ((with_reducible refine W_id ?_); refine W_reg (by decide) (by rfl) ?_) | (with_reducible first | refine W_cond ?_ | refine hZ _ _ ?_ | refine W_exit ?_ | refine Wo_id ?_)); repeat1' simp only [push_cast, Nat.reduceBEq, Nat.reduceLT, Nat.reduceEqDiff, reduceIte, reduceCtorEq, Nat.reduceMul, Nat.reduceAdd, Nat.reduceSub, Int.reduceEq, Int.reduceLT, Int.reduceLE, Int.reduceNeg, Int.reduceAdd, Int.reduceSub, Int.reduceMul, Nat.reduceLeDiff, Int.reduceToNat, f2]) | ((repeat ((fail_if_success with_reducible refine hK _ _ ?_); clear hK K)); (with_reducible refine hK _ _ ?_); clear hK K))))
            refine ⟨k + 1, by omega, ?_⟩
            (repeat simp only [push_cast, Nat.reduceBEq, Nat.reduceLT, Nat.reduceEqDiff, reduceIte, reduceCtorEq, Nat.reduceMul, Nat.reduceAdd, Nat.reduceSub, Int.reduceEq, Int.reduceLT, Int.reduceLE, Int.reduceNeg, Int.reduceAdd, Int.reduceSub, Int.reduceMul, Nat.reduceLeDiff, Int.reduceToNat])
            exact ⟨by omega, hx9.trans (Ext.drew _)⟩
          · have hke : k = T.length := by omega
            subst hke
            have f0 : ¬ (T.length : Int) < (T.length : Int) := by omega
            (repeat (first | (with_reducible first | (refine hK _ _ ?_; clear hK K) | refine (show ∀ σ' w', _ → K σ' w' from by assumption) _ _ ?_ | refine W_seq_k fun K hK => ?_ | refine W_block_k fun K hK => ?_ | refine W_skip ?_ | refine W_ret ?_) | ((first | ((with_reducible refine W_id ?_); refine W_reg (by decide) (by rfl) ?_) | (with_reducible first | refine W_cond ?_ | refine hZ _ _ ?_ | refine W_exit ?_ | refine Wo_id ?_)); repeat1' simp only [push_cast, Nat.reduceBEq, Nat.reduceLT, Nat.reduceEqDiff, reduceIte, reduceCtorEq, Nat.reduceMul, Nat.reduceAdd, Nat.reduceSub, Int.reduceEq, Int.reduceLT, Int.reduceLE, Int.reduceNeg, Int.reduceAdd, Int.reduceSub, Int.reduceMul, Nat.reduceLeDiff, Int.reduceToNat, f0, d2]) | ((repeat ((fail_if_success with_reducible refine hK _ _ ?_); clear hK K)); (with_reducible refine hK _ _ ?_); clear hK K)))
            refine ⟨(i + 1, .slice an T'.length cn, L', T', bo'), by simp only; omega, ?_⟩
            (repeat simp only [push_cast, Nat.reduceBEq, Nat.reduceLT, Nat.reduceEqDiff, reduceIte, reduceCtorEq, Nat.reduceMul, Nat.reduceAdd, Nat.reduceSub, Int.reduceEq, Int.reduceLT, Int.reduceLE, Int.reduceNeg, Int.reduceAdd, Int.reduceSub, Int.reduceMul, Nat.reduceLeDiff, Int.reduceToNat])
            exact ⟨by omega, h6.pass (hxW.trans hx9), hT'.ext (hxW.trans hx9), hm', hsz⟩
    · have hie : i = l.length := by omega
      subst hie
      have d0 : ¬ (l.length : Int) < (l.length : Int) := by omega
      (repeat (first | (with_reducible first | (refine hK _ _ ?_; clear hK K) | refine (show ∀ σ' w', _ → K σ' w' from by assumption) _ _ ?_ | refine W_seq_k fun K hK => ?_ | refine W_block_k fun K hK => ?_ | refine W_skip ?_ | refine W_ret ?_) | ((first | ((with_reducible refine W_id ?_); refine W_reg (by decide) (by rfl) ?_) | (with_reducible first | refine W_cond ?_ | refine hZ _ _ ?_ | refine W_exit ?_ | refine Wo_id ?_)); repeat1' simp only [push_cast, Nat.reduceBEq, Nat.reduceLT, Nat.reduceEqDiff, reduceIte, reduceCtorEq, Nat.reduceMul, Nat.reduceAdd, Nat.reduceSub, Int.reduceEq, Int.reduceLT, Int.reduceLE, Int.reduceNeg, Int.reduceAdd, Int.reduceSub, Int.reduceMul, Nat.reduceLeDiff, Int.reduceToNat, d0]) | ((repeat ((fail_if_success with_reducible refine hK _ _ ?_); clear hK K)); (with_reducible refine hK _ _ ?_); clear hK K)))
      refine grove_c.mono ?_
      rintro v w' ⟨rfl, hgr⟩
      ((repeat simp only [push_cast, Nat.reduceBEq, Nat.reduceLT, Nat.reduceEqDiff, reduceIte, reduceCtorEq, Nat.reduceMul, Nat.reduceAdd, Nat.reduceSub, Int.reduceEq, Int.reduceLT, Int.reduceLE, Int.reduceNeg, Int.reduceAdd, Int.reduceSub, Int.reduceMul, Nat.reduceLeDiff, Int.reduceToNat]); (repeat (first | (with_reducible first | (refine hK _ _ ?_; clear hK K) | refine (show ∀ σ' w', _ → K σ' w' from by assumption) _ _ ?_ | refine W_seq_k fun K hK => ?_ | refine W_block_k fun K hK => ?_ | refine W_skip ?_ | refine W_ret ?_) | ((first | ((with_reducible refine W_id ?_); refine W_reg (by decide) (by rfl) ?_) | (with_reducible first | refine W_cond ?_ | refine hZ _ _ ?_ | refine W_exit ?_ | refine Wo_id ?_)); repeat1' simp only [push_cast, Nat.reduceBEq, Nat.reduceLT, Nat.reduceEqDiff, reduceIte, reduceCtorEq, Nat.reduceMul, Nat.reduceAdd, Nat.reduceSub, Int.reduceEq, Int.reduceLT, Int.reduceLE, Int.reduceNeg, Int.reduceAdd, Int.reduceSub, Int.reduceMul, Nat.reduceLeDiff, Int.reduceToNat]) | ((repeat ((fail_if_success with_reducible refine hK _ _ ?_); clear hK K)); (with_reducible refine hK _ _ ?_); clear hK K))))
      exact (hx1.trans hA.ext).trans hgr
end Go.Proofs.Ytkafpameheohdaa
