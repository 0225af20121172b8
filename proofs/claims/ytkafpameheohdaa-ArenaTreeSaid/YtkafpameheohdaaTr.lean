/- Tree: all nodes, in memory of their own. -/
import Derived.Test.YtkafpameheohdaaTl0
set_option linter.unusedSimpArgs false
set_option linter.unusedVariables false
namespace Go.Vk
/-- a slice of nodes -/
structure NdsAt (w : World) (v : Value) (T : List Laid) (bo : Option Nat) : Prop where
  sl : SlAt w 11 v (flat T) bo
  ok : ∀ m ∈ T, m.ok w
  apart : ∀ m ∈ T, ∀ b ∈ m.blks, bo ≠ some b
theorem NdsAt.upd {G : Nat → Prop} {w w' : World} {v : Value} {T : List Laid} {bo : Option Nat} (h : NdsAt w v T bo) (hu : Upd G w w') (h1 : ∀ b, bo = some b → ¬ G b) (h2 : ∀ m ∈ T, ∀ b ∈ m.blks, ¬ G b) : NdsAt w' v T bo :=
  ⟨h.sl.upd hu h1, fun m hm => (h.ok m hm).upd hu (h2 m hm), h.apart⟩
theorem NdsAt.ext {w w' : World} {v : Value} {T : List Laid} {bo : Option Nat} (h : NdsAt w v T bo) (hu : Ext w w') : NdsAt w' v T bo := h.upd hu (fun _ _ h => h) (fun _ _ _ _ h => h)
theorem NdsAt.len {w : World} {v : Value} {T : List Laid} {bo : Option Nat} (h : NdsAt w v T bo) : ∃ a c, v = .slice a T.length c ∧ T.length ≤ c := by
  obtain ⟨a, n, c, rfl, h1, h2⟩ := h.sl.len
  rw [flat_length] at h2
  have : n = T.length := by omega
  subst this
  exact ⟨a, c, rfl, h1⟩
theorem flat_append (A B : List Laid) : flat (A ++ B) = flat A ++ flat B := by simp [flat]
theorem flat_one (T : List Laid) (h : ∀ m ∈ T, m.cells.all oneCell = true) : (flat T).all oneCell = true := by
  induction T with
  | nil => rfl
  | cons m r ih =>
    have := ih fun x hx => h x (by simp [hx])
    simp only [flat, List.flatMap_cons, List.all_append, Bool.and_eq_true] at this ⊢
    exact ⟨h m (by simp), this⟩
end Go.Vk
namespace Go.Proofs.Ytkafpameheohdaa
open Go.Vk
set_option maxHeartbeats 40000000
set_option linter.unusedSimpArgs false
set_option linter.unusedVariables false
attribute [local push_cast] Wo_nil Wo_plain Wo_on Wo_off Wo_skip guardV_t guardV_f guardV_tf guardV_ft guardV_u gtmp Option.bind_some Option.bind_none vcOp on_some evO_tmp evO_const evO_global evO_func find_hit find_miss put_some put_none only_true vcNil loadD onCells allStore vcBin vcInt arith vcStr isPtr isSlice isBool vcUn vcConv vcField vcIndex vcIdx vcLoad vcLen vcBuiltin vcCall vcPas Bool.not_true Bool.not_false cond_true cond_false Bool.cond_false_right Bool.cond_true_left Bool.cond_true_right Bool.cond_false_left Bool.not_not Bool.and_true Bool.true_and Bool.and_false Bool.false_and Bool.or_false Bool.false_or Bool.or_true Bool.true_or  and_assoc add_mk Nat.zero_add Nat.add_zero Int.toNat_natCast undef onL onO onP pickV withSz oneCell bnd vcBounds vcSlice List.size_toArray List.length_cons List.length_nil List.all_cons List.all_nil pureSem Option.some.injEq Value.pointer.injEq Value.int.injEq Value.bool.injEq Value.slice.injEq Value.string.injEq Value.agg.injEq Value.tuple.injEq Value.func.injEq exists_eq_left' and_true true_and Bool.not_eq_true Option.isNone_some Option.isNone_none Bool.false_eq_true false_and and_false false_implies true_implies implies_true decide_true decide_false forall_const List.getElem?_toArray List.getElem?_cons_succ List.getElem?_cons_zero ne_eq not_false_eq_true exists_and_left List.nil_append List.append_nil exists_const and_self Option.isSome_none Option.isSome_some Nat.mul_one Nat.one_mul Nat.zero_mul vcStore argR Go.Vk.Sub resL resV Func.results List.toList_toArray if_true if_false
attribute [local push_cast] Try.underlying0 Try.sizeOf0 Try.underlying1 Try.sizeOf1 Try.underlying2 Try.sizeOf2 Try.underlying3 Try.sizeOf3 Try.underlying4 Try.sizeOf4 Try.underlying5 Try.sizeOf5 Try.underlying6 Try.sizeOf6 Try.underlying7 Try.sizeOf7 Try.underlying8 Try.sizeOf8 Try.underlying9 Try.sizeOf9 Try.underlying10 Try.sizeOf10 Try.underlying11 Try.sizeOf11 Try.underlying12 Try.sizeOf12 Try.underlying13 Try.sizeOf13 Try.underlying14 Try.sizeOf14 Try.underlying15 Try.sizeOf15 Try.underlying16 Try.sizeOf16 Try.underlying17 Try.sizeOf17 Try.underlying18 Try.sizeOf18 Try.underlying19 Try.sizeOf19 Try.underlying20 Try.sizeOf20 Try.underlying21 Try.sizeOf21 Try.underlying22 Try.sizeOf22 Try.underlying23 Try.sizeOf23 Try.underlying24 Try.sizeOf24 Try.underlying25 Try.sizeOf25 Try.underlying26 Try.sizeOf26 Try.underlying27 Try.sizeOf27 Try.underlying28 Try.sizeOf28 Try.underlying29 Try.sizeOf29 Try.underlying30 Try.sizeOf30 Try.underlying31 Try.sizeOf31 Try.underlying32 Try.sizeOf32 Try.underlying33 Try.sizeOf33 Try.underlying34 Try.sizeOf34 Try.underlying35 Try.sizeOf35 Try.underlying36 Try.sizeOf36 Try.underlying37 Try.sizeOf37 Try.underlying38 Try.sizeOf38 Try.underlying39 Try.sizeOf39 Try.underlying40 Try.sizeOf40 Try.underlying41 Try.sizeOf41 Try.underlying42 Try.sizeOf42 Try.underlying43 Try.sizeOf43 Try.underlying44 Try.sizeOf44 Try.underlying45 Try.sizeOf45 Try.underlying46 Try.sizeOf46 Try.underlying47 Try.sizeOf47 Try.underlying48 Try.sizeOf48 Try.underlying49 Try.sizeOf49 Try.underlying50 Try.sizeOf50 Try.underlying51 Try.sizeOf51 Try.underlying52 Try.sizeOf52 Try.underlying53 Try.sizeOf53 Try.underlying54 Try.sizeOf54 Try.underlying55 Try.sizeOf55 Try.underlying56 Try.sizeOf56 Try.underlying57 Try.sizeOf57 Try.underlying58 Try.sizeOf58 Try.underlying59 Try.sizeOf59 Try.underlying60 Try.sizeOf60 Try.underlying61 Try.sizeOf61 Try.underlying62 Try.sizeOf62 Try.underlying63 Try.sizeOf63 Try.underlying64 Try.sizeOf64 Try.underlying65 Try.sizeOf65 Try.underlying66 Try.sizeOf66 Try.underlying67 Try.sizeOf67 Try.underlying68 Try.sizeOf68 Try.underlying69 Try.sizeOf69 Try.underlying70 Try.sizeOf70 Try.underlying71 Try.sizeOf71 Try.underlying72 Try.sizeOf72 Try.underlying73 Try.sizeOf73 Try.underlying74 Try.sizeOf74 Try.underlying75 Try.sizeOf75 Try.underlying76 Try.sizeOf76 Try.underlying77 Try.sizeOf77 Try.underlying78 Try.sizeOf78 Try.underlying79 Try.sizeOf79 Try.underlying80 Try.sizeOf80 Try.underlying81 Try.sizeOf81 Try.underlying82 Try.sizeOf82 Try.underlying83 Try.sizeOf83 Try.underlying84 Try.sizeOf84 Try.underlying85 Try.sizeOf85 Try.underlying86 Try.sizeOf86 Try.underlying87 Try.sizeOf87 Try.underlying88 Try.sizeOf88 Try.underlying89 Try.sizeOf89 Try.underlying90 Try.sizeOf90 Try.underlying91 Try.sizeOf91 Try.underlying92 Try.sizeOf92 Try.underlying93 Try.sizeOf93 Try.underlying94 Try.sizeOf94 Try.underlying95 Try.sizeOf95 Try.underlying96 Try.sizeOf96 Try.underlying97 Try.sizeOf97 Try.underlying98 Try.sizeOf98 Try.underlying99 Try.sizeOf99 Try.underlying100 Try.sizeOf100 Try.underlying101 Try.sizeOf101 Try.underlying102 Try.sizeOf102 Try.underlying103 Try.sizeOf103 Try.underlying104 Try.sizeOf104 Try.underlying105 Try.sizeOf105 Try.underlying106 Try.sizeOf106 Try.underlying107 Try.sizeOf107 Try.underlying108 Try.sizeOf108 Try.underlying109 Try.sizeOf109 Try.underlying110 Try.sizeOf110 Try.underlying111 Try.sizeOf111 Try.underlying112 Try.sizeOf112 Try.underlying113 Try.sizeOf113 Try.underlying114 Try.sizeOf114 Try.underlying115 Try.sizeOf115 Try.underlying116 Try.sizeOf116 Try.underlying117 Try.sizeOf117 Try.underlying118 Try.sizeOf118 Try.underlying119 Try.sizeOf119 Try.underlying120 Try.sizeOf120 Try.underlying121 Try.sizeOf121 Try.underlying122 Try.sizeOf122 Try.underlying123 Try.sizeOf123 Try.underlying124 Try.sizeOf124 Try.underlying125 Try.sizeOf125 Try.underlying126 Try.sizeOf126 Try.underlying127 Try.sizeOf127 Try.underlying128 Try.sizeOf128 Try.underlying129 Try.sizeOf129 Try.underlying130 Try.sizeOf130
attribute [local push_cast] Try.results0 Try.results1 Try.results2 Try.results3 Try.results4 Try.results5 Try.results6 Try.results7 Try.results8 Try.results9 Try.results10 Try.results11 Try.results12 Try.results13 Try.results14 Try.results15 Try.results16 Try.results17 Try.results18 Try.results19 Try.results20 Try.results21 Try.results22 Try.results23 Try.results24 Try.results25 Try.results26 Try.results27 Try.results28 Try.results29 Try.results30 Try.results31 Try.results32 Try.results33 Try.results34 Try.results35 Try.results36 Try.results37 Try.results38 Try.results39 Try.results40 Try.results41 Try.results42 Try.results43 Try.results44 Try.results45 Try.results46 Try.results47 Try.results48 Try.results49 Try.results50 Try.results51 Try.results52 Try.results53 Try.results54 Try.results55 Try.results56 Try.results57 Try.results58 Try.results59 Try.results60 Try.results61 Try.results62 Try.results63 Try.results64 Try.results65 Try.results66 Try.results67 Try.results68 Try.results69 Try.results70 Try.results71 Try.results72 Try.results73 Try.results74 Try.results75 Try.results76 Try.results77 Try.results78 Try.results79 Try.results80 Try.results81 Try.results82 Try.results83 Try.results84 Try.results85 Try.results86 Try.results87 Try.results88 Try.results89 Try.results90 Try.results91 Try.results92 Try.results93 Try.results94 Try.results95 Try.results96 Try.results97 Try.results98 Try.results99 Try.results100 Try.results101 Try.results102 Try.results103 Try.results104 Try.results105 Try.results106 Try.results107 Try.results108 Try.results109 Try.results110 Try.results111 Try.results112 Try.results113 Try.results114 Try.results115 Try.results116
theorem tree_a {w0 w : World} {P : Nat → Prop} {pa : Nat} {L : List Nd} (h : At w0 w P pa L) (hb : L.length < 100000) (hab : ∀ n ∈ L, n.attrs.length < 1000000) :
    Gives Try.prog 22 #[.pointer (some ⟨pa, 0, none⟩)] w fun v w' => ∃ T bo, NdsAt w' v T bo ∧ T.map Laid.nd = L ∧ Ext w w' ∧ (∀ b, bo = some b → w.heap.size ≤ b) ∧ ∀ m ∈ T, ∀ b ∈ m.blks, w.heap.size ≤ b := by
  refine Gives.of_W Try.call22 Try.func22 rfl Try.ntmps22 (by simp) ?_; intro Z hZ
  (repeat (first | (with_reducible first | (refine hK _ _ ?_; clear hK K) | refine (show ∀ σ' w', _ → K σ' w' from by assumption) _ _ ?_ | refine W_seq_k fun K hK => ?_ | refine W_block_k fun K hK => ?_ | refine W_skip ?_ | refine W_ret ?_) | ((first | ((with_reducible refine W_id ?_); refine W_reg (by decide) (by rfl) ?_) | (with_reducible first | refine W_cond ?_ | refine hZ _ _ ?_ | refine W_exit ?_ | refine Wo_id ?_)); repeat1' simp only [push_cast, Nat.reduceBEq, Nat.reduceLT, Nat.reduceEqDiff, reduceIte, reduceCtorEq, Nat.reduceMul, Nat.reduceAdd, Nat.reduceSub, Int.reduceEq, Int.reduceLT, Int.reduceLE, Int.reduceNeg, Int.reduceAdd, Int.reduceSub, Int.reduceMul, Nat.reduceLeDiff, Int.reduceToNat]) | ((repeat ((fail_if_success with_reducible refine hK _ _ ?_); clear hK K)); (with_reducible refine hK _ _ ?_); clear hK K)))
  refine (len_a h).mono ?_
  rintro v w' ⟨rfl, rfl⟩
  ((repeat simp only [push_cast, Nat.reduceBEq, Nat.reduceLT, Nat.reduceEqDiff, reduceIte, reduceCtorEq, Nat.reduceMul, Nat.reduceAdd, Nat.reduceSub, Int.reduceEq, Int.reduceLT, Int.reduceLE, Int.reduceNeg, Int.reduceAdd, Int.reduceSub, Int.reduceMul, Nat.reduceLeDiff, Int.reduceToNat]); (repeat (first | (with_reducible first | (refine hK _ _ ?_; clear hK K) | refine (show ∀ σ' w', _ → K σ' w' from by assumption) _ _ ?_ | refine W_seq_k fun K hK => ?_ | refine W_block_k fun K hK => ?_ | refine W_skip ?_ | refine W_ret ?_) | ((first | ((with_reducible refine W_id ?_); refine W_reg (by decide) (by rfl) ?_) | (with_reducible first | refine W_cond ?_ | refine hZ _ _ ?_ | refine W_exit ?_ | refine Wo_id ?_)); repeat1' simp only [push_cast, Nat.reduceBEq, Nat.reduceLT, Nat.reduceEqDiff, reduceIte, reduceCtorEq, Nat.reduceMul, Nat.reduceAdd, Nat.reduceSub, Int.reduceEq, Int.reduceLT, Int.reduceLE, Int.reduceNeg, Int.reduceAdd, Int.reduceSub, Int.reduceMul, Nat.reduceLeDiff, Int.reduceToNat]) | ((repeat ((fail_if_success with_reducible refine hK _ _ ?_); clear hK K)); (with_reducible refine hK _ _ ?_); clear hK K))))
  refine W_loop (S := Value × Nat × List Laid × Option Nat) (fun s => [(0, .pointer (some ⟨pa, 0, none⟩)), (3, s.1), (6, .int .i64 (L.length : Int)), (7, .int .i64 (s.2.1 : Int))])
    (fun s w2 => s.2.1 ≤ L.length ∧ NdsAt w2 s.1 s.2.2.1 s.2.2.2 ∧ s.2.2.1.map Laid.nd = L.take s.2.1 ∧ Ext w' w2 ∧ (∀ b, s.2.2.2 = some b → w'.heap.size ≤ b) ∧ ∀ m ∈ s.2.2.1, ∀ b ∈ m.blks, w'.heap.size ≤ b) (fun s => L.length - s.2.1) (.slice none 0 0, 0, [], none) ?_ ?_ ?_
  · (repeat simp only [push_cast, Nat.reduceBEq, Nat.reduceLT, Nat.reduceEqDiff, reduceIte, reduceCtorEq, Nat.reduceMul, Nat.reduceAdd, Nat.reduceSub, Int.reduceEq, Int.reduceLT, Int.reduceLE, Int.reduceNeg, Int.reduceAdd, Int.reduceSub, Int.reduceMul, Nat.reduceLeDiff, Int.reduceToNat])
  · exact ⟨by simp, ⟨SlAt.nil _ _, by simp, by simp⟩, rfl, Ext.refl _, by simp, by simp⟩
  rintro ⟨vo, k, T, bo⟩ w2 ⟨hk, hT, hmap, hx, hf, hf2⟩
  simp only at hk hT hmap hf hf2 ⊢
  by_cases hkl : k < L.length
  · have hTl : T.length = k := by
      have := congrArg List.length hmap
      simpa [List.length_take, Nat.min_eq_left hk] using this
    have b0 : (k : Int) < (L.length : Int) := by omega
    have b2 : inI64 ((k : Int) + 1) := by unfold inI64; omega
    (repeat (first | (with_reducible first | (refine hK _ _ ?_; clear hK K) | refine (show ∀ σ' w', _ → K σ' w' from by assumption) _ _ ?_ | refine W_seq_k fun K hK => ?_ | refine W_block_k fun K hK => ?_ | refine W_skip ?_ | refine W_ret ?_) | ((first | ((with_reducible refine W_id ?_); refine W_reg (by decide) (by rfl) ?_) | (with_reducible first | refine W_cond ?_ | refine hZ _ _ ?_ | refine W_exit ?_ | refine Wo_id ?_)); repeat1' simp only [push_cast, Nat.reduceBEq, Nat.reduceLT, Nat.reduceEqDiff, reduceIte, reduceCtorEq, Nat.reduceMul, Nat.reduceAdd, Nat.reduceSub, Int.reduceEq, Int.reduceLT, Int.reduceLE, Int.reduceNeg, Int.reduceAdd, Int.reduceSub, Int.reduceMul, Nat.reduceLeDiff, Int.reduceToNat, b0]) | ((repeat ((fail_if_success with_reducible refine hK _ _ ?_); clear hK K)); (with_reducible refine hK _ _ ?_); clear hK K)))
    refine (node_a (h.pass hx) hb hab k).mono ?_
    rintro v w3 ⟨m, rfl, em, hok, _, hx3, hfr, hnd⟩
    ((repeat simp only [push_cast, Nat.reduceBEq, Nat.reduceLT, Nat.reduceEqDiff, reduceIte, reduceCtorEq, Nat.reduceMul, Nat.reduceAdd, Nat.reduceSub, Int.reduceEq, Int.reduceLT, Int.reduceLE, Int.reduceNeg, Int.reduceAdd, Int.reduceSub, Int.reduceMul, Nat.reduceLeDiff, Int.reduceToNat]); (repeat (first | (with_reducible first | (refine hK _ _ ?_; clear hK K) | refine (show ∀ σ' w', _ → K σ' w' from by assumption) _ _ ?_ | refine W_seq_k fun K hK => ?_ | refine W_block_k fun K hK => ?_ | refine W_skip ?_ | refine W_ret ?_) | ((first | ((with_reducible refine W_id ?_); refine W_reg (by decide) (by rfl) ?_) | (with_reducible first | refine W_cond ?_ | refine hZ _ _ ?_ | refine W_exit ?_ | refine Wo_id ?_)); repeat1' simp only [push_cast, Nat.reduceBEq, Nat.reduceLT, Nat.reduceEqDiff, reduceIte, reduceCtorEq, Nat.reduceMul, Nat.reduceAdd, Nat.reduceSub, Int.reduceEq, Int.reduceLT, Int.reduceLE, Int.reduceNeg, Int.reduceAdd, Int.reduceSub, Int.reduceMul, Nat.reduceLeDiff, Int.reduceToNat]) | ((repeat ((fail_if_success with_reducible refine hK _ _ ?_); clear hK K)); (with_reducible refine hK _ _ ?_); clear hK K))))
    refine bs_one sty39 (by decide) (by decide) (v := m.val) rfl ?_
    have hx4 : Ext w2 (w3.alloc (.cells m.val.cells 30)) := hx3.trans (Ext.alloc _ _)
    have hok4 : m.ok (w3.alloc (.cells m.val.cells 30)) := hok.upd (Ext.alloc _ _) fun _ _ h => h
    have hs4 : SlAt (w3.alloc (.cells m.val.cells 30)) 11 (.slice (some ⟨w3.heap.size, 0, none⟩) 1 1) m.cells (some w3.heap.size) := SlAt.new w3 11 m.val.cells 30 1 rfl
    have hT4 := hT.ext hx4
    have hml : m.cells.length = 11 := rfl
    have hsz : (w3.alloc (.cells m.val.cells 30)).heap.size = w3.heap.size + 1 := size_alloc_h _ _
    have hsx := hx.alike.size
    have hsx3 := hx3.alike.size
    refine app_to sty39 sty39.und (by decide) hT4.sl hs4 hok.one (by rw [flat_length, hml]; omega) ?_
    intro v w5 bo5 g1 g2 g3
    have e5 : flat T ++ m.cells = flat (T ++ [m]) := by simp [flat]
    rw [e5] at g1
    have hnd? : (nd? L k).getD zN = L[k] := by rw [nd?_nat, List.getElem?_eq_getElem hkl]; rfl
    have hbo : ∀ b, bo = some b → b < w2.heap.size := fun b hb => by have := hT.sl; rw [hb] at this; exact this.lt
    ((repeat simp only [push_cast, Nat.reduceBEq, Nat.reduceLT, Nat.reduceEqDiff, reduceIte, reduceCtorEq, Nat.reduceMul, Nat.reduceAdd, Nat.reduceSub, Int.reduceEq, Int.reduceLT, Int.reduceLE, Int.reduceNeg, Int.reduceAdd, Int.reduceSub, Int.reduceMul, Nat.reduceLeDiff, Int.reduceToNat, b2]); (repeat (first | (with_reducible first | (refine hK _ _ ?_; clear hK K) | refine (show ∀ σ' w', _ → K σ' w' from by assumption) _ _ ?_ | refine W_seq_k fun K hK => ?_ | refine W_block_k fun K hK => ?_ | refine W_skip ?_ | refine W_ret ?_) | ((first | ((with_reducible refine W_id ?_); refine W_reg (by decide) (by rfl) ?_) | (with_reducible first | refine W_cond ?_ | refine hZ _ _ ?_ | refine W_exit ?_ | refine Wo_id ?_)); repeat1' simp only [push_cast, Nat.reduceBEq, Nat.reduceLT, Nat.reduceEqDiff, reduceIte, reduceCtorEq, Nat.reduceMul, Nat.reduceAdd, Nat.reduceSub, Int.reduceEq, Int.reduceLT, Int.reduceLE, Int.reduceNeg, Int.reduceAdd, Int.reduceSub, Int.reduceMul, Nat.reduceLeDiff, Int.reduceToNat, b2]) | ((repeat ((fail_if_success with_reducible refine hK _ _ ?_); clear hK K)); (with_reducible refine hK _ _ ?_); clear hK K))))
    refine ⟨(v, k + 1, T ++ [m], bo5), by simp only; omega, ?_⟩
    (repeat simp only [push_cast, Nat.reduceBEq, Nat.reduceLT, Nat.reduceEqDiff, reduceIte, reduceCtorEq, Nat.reduceMul, Nat.reduceAdd, Nat.reduceSub, Int.reduceEq, Int.reduceLT, Int.reduceLE, Int.reduceNeg, Int.reduceAdd, Int.reduceSub, Int.reduceMul, Nat.reduceLeDiff, Int.reduceToNat])
    refine ⟨by omega, ⟨g1, fun x hx' => ?_, fun x hx' b hb e => ?_⟩, ?_, ?_, fun b hb => ?_, fun x hx' b hb => ?_⟩
    · simp only [List.mem_append, List.mem_singleton] at hx'
      rcases hx' with hx' | rfl
      · exact (hT4.ok x hx').upd g2 fun b hb e => hT.apart x hx' b hb e
      · exact hok4.upd g2 fun b hb e => by have := hfr b hb; have := hbo b e; omega
    · simp only [List.mem_append, List.mem_singleton] at hx'
      rcases g3 b e with h' | h'
      · rcases hx' with hx' | rfl
        · exact hT.apart x hx' b hb h'
        · have := hfr b hb; have := hbo b h'; omega
      · rcases hx' with hx' | rfl
        · have := (hT4.ok x hx').lt hb; omega
        · have := hok4.lt hb; omega
    · rw [List.map_append, hmap, List.take_add_one, List.getElem?_eq_getElem hkl]
      simp [em, hnd?]
    · exact Upd.trans (hx.trans hx4) g2 fun b hb e => by have := hf b e; omega
    · rcases g3 b hb with h' | h'
      · exact hf b h'
      · omega
    · simp only [List.mem_append, List.mem_singleton] at hx'
      rcases hx' with hx' | rfl
      · exact hf2 x hx' b hb
      · have := hfr b hb; omega
  · have hke : k = L.length := by omega
    subst hke
    rw [List.take_length] at hmap
    have b0 : ¬ (L.length : Int) < (L.length : Int) := by omega
    (repeat (first | (with_reducible first | (refine hK _ _ ?_; clear hK K) | refine (show ∀ σ' w', _ → K σ' w' from by assumption) _ _ ?_ | refine W_seq_k fun K hK => ?_ | refine W_block_k fun K hK => ?_ | refine W_skip ?_ | refine W_ret ?_) | ((first | ((with_reducible refine W_id ?_); refine W_reg (by decide) (by rfl) ?_) | (with_reducible first | refine W_cond ?_ | refine hZ _ _ ?_ | refine W_exit ?_ | refine Wo_id ?_)); repeat1' simp only [push_cast, Nat.reduceBEq, Nat.reduceLT, Nat.reduceEqDiff, reduceIte, reduceCtorEq, Nat.reduceMul, Nat.reduceAdd, Nat.reduceSub, Int.reduceEq, Int.reduceLT, Int.reduceLE, Int.reduceNeg, Int.reduceAdd, Int.reduceSub, Int.reduceMul, Nat.reduceLeDiff, Int.reduceToNat, b0]) | ((repeat ((fail_if_success with_reducible refine hK _ _ ?_); clear hK K)); (with_reducible refine hK _ _ ?_); clear hK K)))
    exact ⟨T, bo, hT, hmap, hx, hf, hf2⟩
end Go.Proofs.Ytkafpameheohdaa
