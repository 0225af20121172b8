/- free: a node is taken from its parent. -/
import Derived.Test.YtkafpameheohdaaAdd
set_option linter.unusedSimpArgs false
set_option linter.unusedVariables false
namespace Go.Vk
def unkid (x : Int) (q : Nd) : Nd := { q with kids := q.kids.erase x }
def setPar (p : Int) (n : Nd) : Nd := { n with parent := p }
def freeN (L : List Nd) (i : Nat) : List Nd := match L[i]? with
  | none => L
  | some n => if n.parent < 0 then L else (L.modify n.parent.toNat (unkid i)).modify i (setPar (-1))
theorem SlAt.part1 {w : World} {b o n c : Nat} {cells : List Value} {bo : Option Nat} (h : SlAt w 1 (.slice (some ⟨b, o, none⟩) n c) cells bo) {l k m : Nat} (h1 : l ≤ k) (h2 : k ≤ n) (h3 : k ≤ m) (h4 : m ≤ c) :
    SlAt w 1 (.slice (if m = l then some ⟨b, o, none⟩ else Option.map (fun x : Addr => x.add l) (some ⟨b, o, none⟩)) (k - l) (m - l)) ((cells.drop l).take (k - l)) bo := by
  have hp := h.part (l := l) (k := k) (m := m) h1 h2 h3 h4
  simp only [Nat.mul_one] at hp
  by_cases e : m = l
  · rw [if_pos e]
    have e1 : k - l = 0 := by omega
    have e2 : m - l = 0 := by omega
    rw [e1, e2]
    obtain ⟨g1, g3, g4, cs, t, g5, g6, g7⟩ := h.inv
    exact .inr ⟨b, o, 0, 0, cs, t, g1, rfl, Nat.le_refl _, by simp, g5, by omega, fun i hi => by simp at hi⟩
  · rw [if_neg e, Option.map_some, add_mk]
    exact hp
theorem map_set_modify {M : List Laid} {p : Nat} {m m' : Laid} (f : Nd → Nd) (h : M[p]? = some m) (hf : m'.nd = f m.nd) : (M.set p m').map Laid.nd = (M.map Laid.nd).modify p f := by
  apply List.ext_getElem?
  intro k
  rw [List.getElem?_map, List.getElem?_modify, List.getElem?_map, List.getElem?_set]
  by_cases e : p = k
  · subst e
    rw [if_pos rfl, if_pos (List.getElem?_eq_some_iff.1 h).1, h]
    simp [hf]
  · simp [e]
theorem blocks_set {pa bn : Nat} {M : List Laid} {p : Nat} {m' : Laid} {b : Nat} (h : b ∈ blocks pa bn (M.set p m')) : b ∈ blocks pa bn M ∨ b ∈ m'.blks := by
  simp only [blocks, List.mem_cons, List.mem_flatMap] at h ⊢
  rcases h with h | h | ⟨x, hx, hb⟩
  · exact .inl (.inl h)
  · exact .inl (.inr (.inl h))
  · rcases List.mem_or_eq_of_mem_set hx with hx | rfl
    · exact .inl (.inr (.inr ⟨x, hx, hb⟩))
    · exact .inr hb
theorem ArM.nd_blks {w : World} {pa bn cap : Nat} {M : List Laid} (h : ArM w pa bn cap M) {m : Laid} (hm : m ∈ M) : m.blks.Nodup ∧ pa ∉ m.blks ∧ bn ∉ m.blks := by
  have own := h.own
  simp only [blocks, List.nodup_cons, List.mem_cons, List.mem_flatMap, not_or] at own
  obtain ⟨⟨_, o2⟩, o3, o4⟩ := own
  refine ⟨?_, fun hin => o2 ⟨m, hm, hin⟩, fun hin => o3 ⟨m, hm, hin⟩⟩
  obtain ⟨A, B, rfl⟩ := List.append_of_mem hm
  rw [List.flatMap_append, List.flatMap_cons, List.nodup_append] at o4
  exact (List.nodup_append.1 o4.2.1).1
theorem idxF_mem (x : Int) : ∀ (l : List Int) (k : Nat), x ∈ l → ∃ j : Nat, idxF x l k = (k + j : Nat) ∧ j < l.length ∧ l.take j ++ l.drop (j + 1) = l.erase x ∧ l[j]? = some x
  | [], _, h => by simp at h
  | y :: r, k, h => by
    by_cases e : x = y
    · subst e
      exact ⟨0, by simp [idxF], by simp, by simp, by simp⟩
    · obtain ⟨j, h1, h2, h3, h4⟩ := idxF_mem x r (k + 1) (by simpa [e] using h)
      refine ⟨j + 1, by rw [idxF, if_neg e, h1]; simp; omega, by simpa using h2, ?_, by simpa using h4⟩
      have e' : (y == x) = false := by simp [Ne.symm e]
      rw [List.erase_cons, if_neg (by simp [e'])]
      simpa using h3
end Go.Vk
namespace Go.Proofs.Ytkafpameheohdaa
open Go.Vk
set_option maxHeartbeats 40000000
set_option linter.unusedSimpArgs false
set_option linter.unusedVariables false
attribute [local push_cast] Wo_nil Wo_plain Wo_on Wo_off Wo_skip guardV_t guardV_f guardV_tf guardV_ft guardV_u gtmp Option.bind_some Option.bind_none vcOp on_some evO_tmp evO_const evO_global evO_func find_hit find_miss put_some put_none only_true vcNil loadD onCells allStore vcBin vcInt arith vcStr isPtr isSlice isBool vcUn vcConv vcField vcIndex vcIdx vcLoad vcLen vcBuiltin vcCall vcPas Bool.not_true Bool.not_false cond_true cond_false Bool.cond_false_right Bool.cond_true_left Bool.cond_true_right Bool.cond_false_left Bool.not_not Bool.and_true Bool.true_and Bool.and_false Bool.false_and Bool.or_false Bool.false_or Bool.or_true Bool.true_or  and_assoc add_mk Nat.zero_add Nat.add_zero Int.toNat_natCast undef onL onO onP pickV withSz oneCell bnd vcBounds vcSlice List.size_toArray List.length_cons List.length_nil List.all_cons List.all_nil pureSem Option.some.injEq Value.pointer.injEq Value.int.injEq Value.bool.injEq Value.slice.injEq Value.string.injEq Value.agg.injEq Value.tuple.injEq Value.func.injEq exists_eq_left' and_true true_and Bool.not_eq_true Option.isNone_some Option.isNone_none Bool.false_eq_true false_and and_false false_implies true_implies implies_true decide_true decide_false forall_const List.getElem?_toArray List.getElem?_cons_succ List.getElem?_cons_zero ne_eq not_false_eq_true exists_and_left List.nil_append List.append_nil exists_const and_self Option.isSome_none Option.isSome_some Nat.mul_one Nat.one_mul Nat.zero_mul vcStore argR Go.Vk.Sub resL resV Func.results List.toList_toArray if_true if_false
attribute [local push_cast] Try.underlying0 Try.sizeOf0 Try.underlying1 Try.sizeOf1 Try.underlying2 Try.sizeOf2 Try.underlying3 Try.sizeOf3 Try.underlying4 Try.sizeOf4 Try.underlying5 Try.sizeOf5 Try.underlying6 Try.sizeOf6 Try.underlying7 Try.sizeOf7 Try.underlying8 Try.sizeOf8 Try.underlying9 Try.sizeOf9 Try.underlying10 Try.sizeOf10 Try.underlying11 Try.sizeOf11 Try.underlying12 Try.sizeOf12 Try.underlying13 Try.sizeOf13 Try.underlying14 Try.sizeOf14 Try.underlying15 Try.sizeOf15 Try.underlying16 Try.sizeOf16 Try.underlying17 Try.sizeOf17 Try.underlying18 Try.sizeOf18 Try.underlying19 Try.sizeOf19 Try.underlying20 Try.sizeOf20 Try.underlying21 Try.sizeOf21 Try.underlying22 Try.sizeOf22 Try.underlying23 Try.sizeOf23 Try.underlying24 Try.sizeOf24 Try.underlying25 Try.sizeOf25 Try.underlying26 Try.sizeOf26 Try.underlying27 Try.sizeOf27 Try.underlying28 Try.sizeOf28 Try.underlying29 Try.sizeOf29 Try.underlying30 Try.sizeOf30 Try.underlying31 Try.sizeOf31 Try.underlying32 Try.sizeOf32 Try.underlying33 Try.sizeOf33 Try.underlying34 Try.sizeOf34 Try.underlying35 Try.sizeOf35 Try.underlying36 Try.sizeOf36 Try.underlying37 Try.sizeOf37 Try.underlying38 Try.sizeOf38 Try.underlying39 Try.sizeOf39 Try.underlying40 Try.sizeOf40 Try.underlying41 Try.sizeOf41 Try.underlying42 Try.sizeOf42 Try.underlying43 Try.sizeOf43 Try.underlying44 Try.sizeOf44 Try.underlying45 Try.sizeOf45 Try.underlying46 Try.sizeOf46 Try.underlying47 Try.sizeOf47 Try.underlying48 Try.sizeOf48 Try.underlying49 Try.sizeOf49 Try.underlying50 Try.sizeOf50 Try.underlying51 Try.sizeOf51 Try.underlying52 Try.sizeOf52 Try.underlying53 Try.sizeOf53 Try.underlying54 Try.sizeOf54 Try.underlying55 Try.sizeOf55 Try.underlying56 Try.sizeOf56 Try.underlying57 Try.sizeOf57 Try.underlying58 Try.sizeOf58 Try.underlying59 Try.sizeOf59 Try.underlying60 Try.sizeOf60 Try.underlying61 Try.sizeOf61 Try.underlying62 Try.sizeOf62 Try.underlying63 Try.sizeOf63 Try.underlying64 Try.sizeOf64 Try.underlying65 Try.sizeOf65 Try.underlying66 Try.sizeOf66 Try.underlying67 Try.sizeOf67 Try.underlying68 Try.sizeOf68 Try.underlying69 Try.sizeOf69 Try.underlying70 Try.sizeOf70 Try.underlying71 Try.sizeOf71 Try.underlying72 Try.sizeOf72 Try.underlying73 Try.sizeOf73 Try.underlying74 Try.sizeOf74 Try.underlying75 Try.sizeOf75 Try.underlying76 Try.sizeOf76 Try.underlying77 Try.sizeOf77 Try.underlying78 Try.sizeOf78 Try.underlying79 Try.sizeOf79 Try.underlying80 Try.sizeOf80 Try.underlying81 Try.sizeOf81 Try.underlying82 Try.sizeOf82 Try.underlying83 Try.sizeOf83 Try.underlying84 Try.sizeOf84 Try.underlying85 Try.sizeOf85 Try.underlying86 Try.sizeOf86 Try.underlying87 Try.sizeOf87 Try.underlying88 Try.sizeOf88 Try.underlying89 Try.sizeOf89 Try.underlying90 Try.sizeOf90 Try.underlying91 Try.sizeOf91 Try.underlying92 Try.sizeOf92 Try.underlying93 Try.sizeOf93 Try.underlying94 Try.sizeOf94 Try.underlying95 Try.sizeOf95 Try.underlying96 Try.sizeOf96 Try.underlying97 Try.sizeOf97 Try.underlying98 Try.sizeOf98 Try.underlying99 Try.sizeOf99 Try.underlying100 Try.sizeOf100 Try.underlying101 Try.sizeOf101 Try.underlying102 Try.sizeOf102 Try.underlying103 Try.sizeOf103 Try.underlying104 Try.sizeOf104 Try.underlying105 Try.sizeOf105 Try.underlying106 Try.sizeOf106 Try.underlying107 Try.sizeOf107 Try.underlying108 Try.sizeOf108 Try.underlying109 Try.sizeOf109 Try.underlying110 Try.sizeOf110 Try.underlying111 Try.sizeOf111 Try.underlying112 Try.sizeOf112 Try.underlying113 Try.sizeOf113 Try.underlying114 Try.sizeOf114 Try.underlying115 Try.sizeOf115 Try.underlying116 Try.sizeOf116 Try.underlying117 Try.sizeOf117 Try.underlying118 Try.sizeOf118 Try.underlying119 Try.sizeOf119 Try.underlying120 Try.sizeOf120 Try.underlying121 Try.sizeOf121 Try.underlying122 Try.sizeOf122 Try.underlying123 Try.sizeOf123 Try.underlying124 Try.sizeOf124 Try.underlying125 Try.sizeOf125 Try.underlying126 Try.sizeOf126 Try.underlying127 Try.sizeOf127 Try.underlying128 Try.sizeOf128 Try.underlying129 Try.sizeOf129 Try.underlying130 Try.sizeOf130
attribute [local push_cast] Try.results0 Try.results1 Try.results2 Try.results3 Try.results4 Try.results5 Try.results6 Try.results7 Try.results8 Try.results9 Try.results10 Try.results11 Try.results12 Try.results13 Try.results14 Try.results15 Try.results16 Try.results17 Try.results18 Try.results19 Try.results20 Try.results21 Try.results22 Try.results23 Try.results24 Try.results25 Try.results26 Try.results27 Try.results28 Try.results29 Try.results30 Try.results31 Try.results32 Try.results33 Try.results34 Try.results35 Try.results36 Try.results37 Try.results38 Try.results39 Try.results40 Try.results41 Try.results42 Try.results43 Try.results44 Try.results45 Try.results46 Try.results47 Try.results48 Try.results49 Try.results50 Try.results51 Try.results52 Try.results53 Try.results54 Try.results55 Try.results56 Try.results57 Try.results58 Try.results59 Try.results60 Try.results61 Try.results62 Try.results63 Try.results64 Try.results65 Try.results66 Try.results67 Try.results68 Try.results69 Try.results70 Try.results71 Try.results72 Try.results73 Try.results74 Try.results75 Try.results76 Try.results77 Try.results78 Try.results79 Try.results80 Try.results81 Try.results82 Try.results83 Try.results84 Try.results85 Try.results86 Try.results87 Try.results88 Try.results89 Try.results90 Try.results91 Try.results92 Try.results93 Try.results94 Try.results95 Try.results96 Try.results97 Try.results98 Try.results99 Try.results100 Try.results101 Try.results102 Try.results103 Try.results104 Try.results105 Try.results106 Try.results107 Try.results108 Try.results109 Try.results110 Try.results111 Try.results112 Try.results113 Try.results114 Try.results115 Try.results116
theorem free_c {pa : Nat} {L : List Nd} {F : Nat → Prop} {w : World} (h : Ar w pa L F) (hb : L.length < 1000000) {i : Nat} {n : Nd} (hn : L[i]? = some n)
    (hp : 0 ≤ n.parent → ∃ q, nd? L n.parent = some q ∧ (i : Int) ∈ q.kids ∧ q.kids.length < 1000000 ∧ n.parent ≠ i) :
    Gives Try.prog 83 #[.pointer (some ⟨pa, 0, none⟩), .int .i64 i] w fun v w' => v = .tuple #[] ∧ Ar w' pa (freeN L i) (fun b => F b ∨ w.heap.size ≤ b) ∧ Upd F w w' := by
  obtain ⟨bn, cap, M, m, hM, rfl, hF, hm, rfl, hl⟩ := h.at hn
  have hh := hM.head
  have c6 := hM.cell hm (j := 6) (by decide)
  simp only [Laid.cells, List.getElem?_cons_zero, List.getElem?_cons_succ, Nat.add_zero] at c6
  have hk := (List.getElem?_eq_some_iff.1 hm).1
  have hi1 : (0 : Int) ≤ i := by omega
  have hi2 : (i : Int) < M.length := by omega
  by_cases h0 : m.nd.parent < 0
  · refine Gives.of_W Try.call83 Try.func83 rfl Try.ntmps83 (by simp) ?_; intro Z hZ
    (repeat (first | (with_reducible first | (refine hK _ _ ?_; clear hK K) | refine (show ∀ σ' w', _ → K σ' w' from by assumption) _ _ ?_ | refine W_seq_k fun K hK => ?_ | refine W_block_k fun K hK => ?_ | refine W_skip ?_ | refine W_ret ?_) | ((first | ((with_reducible refine W_id ?_); refine W_reg (by decide) (by rfl) ?_) | (with_reducible first | refine W_cond ?_ | refine hZ _ _ ?_ | refine W_exit ?_ | refine Wo_id ?_)); repeat1' simp only [push_cast, Nat.reduceBEq, Nat.reduceLT, Nat.reduceEqDiff, reduceIte, reduceCtorEq, Nat.reduceMul, Nat.reduceAdd, Nat.reduceSub, Int.reduceEq, Int.reduceLT, Int.reduceLE, Int.reduceNeg, Int.reduceAdd, Int.reduceSub, Int.reduceMul, Nat.reduceLeDiff, Int.reduceToNat, hh, hi1, hi2, c6, h0]) | ((repeat ((fail_if_success with_reducible refine hK _ _ ?_); clear hK K)); (with_reducible refine hK _ _ ?_); clear hK K)))
    have e : freeN (M.map Laid.nd) i = M.map Laid.nd := by simp only [freeN, hn]; rw [if_pos h0]
    rw [e]
    exact ⟨h.mono fun b _ hb => .inl hb, Upd.refl _ _⟩
  · obtain ⟨q, hq, hiq, hqb, hne⟩ := hp (by omega)
    obtain ⟨p, hpp, hp1, hp2⟩ := nd?_some hq
    obtain ⟨j, j1, j2, j3, j4⟩ := idxF_mem i q.kids 0 hiq
    rw [List.getElem?_map] at hp1
    obtain ⟨mq, hmq, rfl⟩ := Option.map_eq_some_iff.1 hp1
    have d8 := hM.cell hmq (j := 8) (by decide)
    simp only [Laid.cells, List.getElem?_cons_zero, List.getElem?_cons_succ] at d8
    have hkids := (hM.sub mq (List.mem_of_getElem? hmq)).kids
    obtain ⟨ka, kn, kc, ekv, hkc, hkl⟩ := hkids.len
    obtain ⟨kb, ko, kn', kc', ekv', hkb⟩ := hkids.some_of (by simp [intCells]; intro e; rw [e] at hiq; simp at hiq)
    rw [ekv] at d8 hkids ekv'
    cases ekv'
    rw [intCells_length, Nat.mul_one] at hkl
    have hp3 : (0 : Int) ≤ p := by omega
    have hp0 : ¬ (p : Int) < 0 := by omega
    have hp4 : (p : Int) < M.length := by have := (List.getElem?_eq_some_iff.1 hmq).1; omega
    refine Gives.of_W Try.call83 Try.func83 rfl Try.ntmps83 (by simp) ?_; intro Z hZ
    (repeat (first | (with_reducible first | (refine hK _ _ ?_; clear hK K) | refine (show ∀ σ' w', _ → K σ' w' from by assumption) _ _ ?_ | refine W_seq_k fun K hK => ?_ | refine W_block_k fun K hK => ?_ | refine W_skip ?_ | refine W_ret ?_) | ((first | ((with_reducible refine W_id ?_); refine W_reg (by decide) (by rfl) ?_) | (with_reducible first | refine W_cond ?_ | refine hZ _ _ ?_ | refine W_exit ?_ | refine Wo_id ?_)); repeat1' simp only [push_cast, Nat.reduceBEq, Nat.reduceLT, Nat.reduceEqDiff, reduceIte, reduceCtorEq, Nat.reduceMul, Nat.reduceAdd, Nat.reduceSub, Int.reduceEq, Int.reduceLT, Int.reduceLE, Int.reduceNeg, Int.reduceAdd, Int.reduceSub, Int.reduceMul, Nat.reduceLeDiff, Int.reduceToNat, hh, hi1, hi2, c6, hp0, hpp, hp3, hp4, d8]) | ((repeat ((fail_if_success with_reducible refine hK _ _ ?_); clear hK K)); (with_reducible refine hK _ _ ?_); clear hK K)))
    refine (index_c (i : Int) hkids hqb).mono ?_
    rintro v w' ⟨rfl, rfl⟩
    rw [j1]
    ((repeat simp only [push_cast, Nat.reduceBEq, Nat.reduceLT, Nat.reduceEqDiff, reduceIte, reduceCtorEq, Nat.reduceMul, Nat.reduceAdd, Nat.reduceSub, Int.reduceEq, Int.reduceLT, Int.reduceLE, Int.reduceNeg, Int.reduceAdd, Int.reduceSub, Int.reduceMul, Nat.reduceLeDiff, Int.reduceToNat]); (repeat (first | (with_reducible first | (refine hK _ _ ?_; clear hK K) | refine (show ∀ σ' w', _ → K σ' w' from by assumption) _ _ ?_ | refine W_seq_k fun K hK => ?_ | refine W_block_k fun K hK => ?_ | refine W_skip ?_ | refine W_ret ?_) | ((first | ((with_reducible refine W_id ?_); refine W_reg (by decide) (by rfl) ?_) | (with_reducible first | refine W_cond ?_ | refine hZ _ _ ?_ | refine W_exit ?_ | refine Wo_id ?_)); repeat1' simp only [push_cast, Nat.reduceBEq, Nat.reduceLT, Nat.reduceEqDiff, reduceIte, reduceCtorEq, Nat.reduceMul, Nat.reduceAdd, Nat.reduceSub, Int.reduceEq, Int.reduceLT, Int.reduceLE, Int.reduceNeg, Int.reduceAdd, Int.reduceSub, Int.reduceMul, Nat.reduceLeDiff, Int.reduceToNat]) | ((repeat ((fail_if_success with_reducible refine hK _ _ ?_); clear hK K)); (with_reducible refine hK _ _ ?_); clear hK K))))
    refine W_draw (.pas 0 (.pas 1 (.pas 2 (.pas 3 (.pas 4 (.pas 5 (.pas 6 (.pas 7 (.pas 8 (.pas 9 (.pas 10 (.pas 11 (.pas 12 (.act 13 (.pas 14 (.pas 15 (.last 16))))))))))))))))) (fun b => b = pa) (by decide) mixed (by kernel_rfl) ?_
    obtain ⟨t, ht⟩ := hM.hdr
    have s1 : (0 : Int) ≤ j := by omega
    have s2 : (j : Int) ≤ kc := by omega
    have s3 : (j : Int) + 1 ≤ kn := by omega
    have s4 : (kn : Int) ≤ kc := by omega
    have s5 : (0 : Int) ≤ (j : Int) + 1 := by omega
    have s6 : inI64 ((j : Int) + 1) := by unfold inI64; omega
    have s7 : ((j : Int) + 1).toNat = j + 1 := by omega
    have s8 : (j : Int) + 1 ≤ kc := by omega
    (repeat (first | ((first | refine pas_plain rfl ?_ | refine pas_g rfl rfl ?_ | refine act_plain rfl ?_ | refine act_g rfl rfl ?_ | refine last_plain rfl ?_ | refine tail_plain rfl ?_ | refine tail_g rfl rfl ?_); (repeat simp only [push_cast, Nat.reduceBEq, Nat.reduceLT, Nat.reduceEqDiff, reduceIte, reduceCtorEq, Nat.reduceMul, Nat.reduceAdd, Nat.reduceSub, Int.reduceEq, Int.reduceLT, Int.reduceLE, Int.reduceNeg, Int.reduceAdd, Int.reduceSub, Int.reduceMul, Nat.reduceLeDiff, Int.reduceToNat, cell_h, can_h, cellO_cells, canO_cells, setO_cells, heap_set_h, heap_alloc_h, size_set_h, size_alloc_h, vcells_agg, succ_ne, ne_succ, List.setIfInBounds_toArray, List.set_cons_succ, List.set_cons_zero, setCells, drew_h, true_or, or_true, ht, s1, s2, s3, s4, s5, s6, s7, s8, Int.le_refl])) | (refine tail_fin ?_) | (refine sch_fin ?_)))
    have hkd := hkids.ext (Ext.drew w')
    have x1 := hkd.part1 (l := 0) (k := j) (m := j) (by omega) (by omega) (by omega) (by omega)
    have x2 := hkd.part1 (l := j + 1) (k := kn) (m := kc) (by omega) (by omega) (by omega) (by omega)
    have hkk : ((intCells mq.nd.kids).drop 0).take (j - 0) ++ ((intCells mq.nd.kids).drop (j + 1)).take (kn - (j + 1)) = intCells (mq.nd.kids.erase i) := by
      rw [← j3, intCells_append]
      simp only [intCells, List.drop_zero, Nat.sub_zero, List.map_take, List.map_drop]
      congr 1
      rw [List.take_of_length_le]; simp; omega
    have hAd : ArM w'.drew pa bn cap M := hM.frame (Ext.drew w') fun _ _ h => h.elim
    have hkb' : mq.kb = some kb := hkb
    have hbm : ∀ b, mq.kb = some b → b ∈ mq.blks := fun b hb => by simp [Laid.blks, hb]
    have hpk : pa ∉ mq.blks := fun hin => by
      have := hM.own
      simp only [blocks, List.nodup_cons, List.mem_cons, List.mem_flatMap, not_or] at this
      exact this.1.2 ⟨mq, List.mem_of_getElem? hmq, hin⟩
    refine app_to sty28 sty28.und (by decide) x1 x2 (by simp only [List.all_eq_true]; intro x hx; have := intCells_one mq.nd.kids; rw [List.all_eq_true] at this; exact this x (List.mem_of_mem_drop (List.mem_of_mem_take hx))) (by simp [intCells]; omega) ?_
    intro v w1 bo g1 g2 g3
    rw [hkk] at g1
    refine ⟨kept_upd g2 fun b hb => ⟨?_, ?_⟩, ?_⟩
    · have : b = pa := hb
      subst this; rw [drew_size]; exact blk_lt ht
    · have : b = pa := hb
      subst this; intro e; exact hpk (hbm _ e)
    obtain ⟨va, vn, vc, rfl, _, _⟩ := g1.len
    obtain ⟨nd1, nd2, nd3⟩ := hM.nd_blks (List.mem_of_getElem? hmq)
    have hbody := hAd.body.upd g2 fun b hb e => by cases hb; exact nd3 (hbm _ e)
    have hcan : canO (w1.heap[bn]?) (p * 11 + 8) := by
      rw [← can_h]
      have := hbody.can (i := p * 11 + 8) (by rw [flat_length]; have := (List.getElem?_eq_some_iff.1 hmq).1; omega)
      simpa using this
    (repeat (first | ((first | refine pas_plain rfl ?_ | refine pas_g rfl rfl ?_ | refine act_plain rfl ?_ | refine act_g rfl rfl ?_ | refine last_plain rfl ?_ | refine tail_plain rfl ?_ | refine tail_g rfl rfl ?_); (repeat simp only [push_cast, Nat.reduceBEq, Nat.reduceLT, Nat.reduceEqDiff, reduceIte, reduceCtorEq, Nat.reduceMul, Nat.reduceAdd, Nat.reduceSub, Int.reduceEq, Int.reduceLT, Int.reduceLE, Int.reduceNeg, Int.reduceAdd, Int.reduceSub, Int.reduceMul, Nat.reduceLeDiff, Int.reduceToNat, cell_h, can_h, cellO_cells, canO_cells, setO_cells, heap_set_h, heap_alloc_h, size_set_h, size_alloc_h, vcells_agg, succ_ne, ne_succ, List.setIfInBounds_toArray, List.set_cons_succ, List.set_cons_zero, setCells, drew_h, true_or, or_true, ht, hp3, hp4, hcan])) | (refine tail_fin ?_) | (refine sch_fin ?_)))
    have hA2 := hAd.repl (i := p) (m := mq) hmq { nd := unkid i mq.nd, av := mq.av, kv := .slice va vn vc, ab := mq.ab, kb := bo } 8 (.slice va vn vc) rfl (by decide) g2 (fun b _ hb => hbm b hb)
      ⟨(hAd.sub mq (List.mem_of_getElem? hmq)).attrs.upd g2 fun b hb e => by simp [Laid.blks, hb, e] at nd1, g1⟩
      (fun b hb => by
        simp only [Laid.blks, List.mem_append, Option.mem_toList] at hb
        rcases hb with hb | hb
        · exact .inl (by simp [Laid.blks, hb])
        · rcases g3 b hb with h | h
          · exact .inl (hbm b h)
          · exact .inr h)
      (by
        simp only [Laid.blks]
        have hab : ∀ b, mq.ab = some b → b < w'.drew.heap.size := fun b hb => (hAd.sub mq (List.mem_of_getElem? hmq)).lt (by simp [Laid.blks, hb])
        cases ha : mq.ab with
        | none => cases bo <;> simp
        | some a =>
          cases hbo : bo with
          | none => simp
          | some c =>
            have : a ≠ c := fun e => by
              subst e
              rcases g3 a hbo with h | h
              · simp [Laid.blks, ha, h] at nd1
              · have := hab a ha; omega
            simp [this])
    have hu2 : Upd F w' (w1.setCell ⟨bn, p * 11 + 8, none⟩ (.slice va vn vc)) :=
      (Upd.trans ((Ext.drew w').upd (F := F)) g2 fun b hb e => hF b (by simp only [blocks, List.mem_cons, List.mem_flatMap]; exact .inr (.inr ⟨mq, List.mem_of_getElem? hmq, hbm b e⟩))).put (hF _ (by simp [blocks]))
    generalize w1.setCell ⟨bn, p * 11 + 8, none⟩ (.slice va vn vc) = w2 at *
    obtain ⟨t2, ht2⟩ := hA2.hdr
    rw [List.length_set] at ht2
    have hcan2 : canO (w2.heap[bn]?) (i * 11 + 6) := by rw [← can_h]; exact hA2.can (i := i) (by rw [List.length_set]; exact hk) (by decide)
    have hpi : p ≠ i := fun e => hne (by rw [hpp, e])
    have hm2 : (M.set p { nd := unkid i mq.nd, av := mq.av, kv := .slice va vn vc, ab := mq.ab, kb := bo })[i]? = some m := by rw [List.getElem?_set_ne hpi]; exact hm
    have hA3 := hA2.repl (i := i) (m := m) hm2 { m with nd := setPar (-1) m.nd } 6 (.int .i64 (-1)) rfl (by decide) (Upd.refl none_ w2) (fun _ _ h => h.elim)
      ⟨(hA2.sub m (List.mem_of_getElem? hm2)).attrs, (hA2.sub m (List.mem_of_getElem? hm2)).kids⟩ (fun b hb => .inl hb) (hM.nd_blks (List.mem_of_getElem? hm)).1
    ((repeat simp only [push_cast, Nat.reduceBEq, Nat.reduceLT, Nat.reduceEqDiff, reduceIte, reduceCtorEq, Nat.reduceMul, Nat.reduceAdd, Nat.reduceSub, Int.reduceEq, Int.reduceLT, Int.reduceLE, Int.reduceNeg, Int.reduceAdd, Int.reduceSub, Int.reduceMul, Nat.reduceLeDiff, Int.reduceToNat, cell_h, can_h, cellO_cells, canO_cells, setO_cells, heap_set_h, heap_alloc_h, size_set_h, size_alloc_h, vcells_agg, succ_ne, ne_succ, List.setIfInBounds_toArray, List.set_cons_succ, List.set_cons_zero, setCells, drew_h, ht2, hi1, hi2, hcan2]); (repeat (first | (with_reducible first | (refine hK _ _ ?_; clear hK K) | refine (show ∀ σ' w', _ → K σ' w' from by assumption) _ _ ?_ | refine W_seq_k fun K hK => ?_ | refine W_block_k fun K hK => ?_ | refine W_skip ?_ | refine W_ret ?_) | ((first | ((with_reducible refine W_id ?_); refine W_reg (by decide) (by rfl) ?_) | (with_reducible first | refine W_cond ?_ | refine hZ _ _ ?_ | refine W_exit ?_ | refine Wo_id ?_)); repeat1' simp only [push_cast, Nat.reduceBEq, Nat.reduceLT, Nat.reduceEqDiff, reduceIte, reduceCtorEq, Nat.reduceMul, Nat.reduceAdd, Nat.reduceSub, Int.reduceEq, Int.reduceLT, Int.reduceLE, Int.reduceNeg, Int.reduceAdd, Int.reduceSub, Int.reduceMul, Nat.reduceLeDiff, Int.reduceToNat, cell_h, can_h, cellO_cells, canO_cells, setO_cells, heap_set_h, heap_alloc_h, size_set_h, size_alloc_h, vcells_agg, succ_ne, ne_succ, List.setIfInBounds_toArray, List.set_cons_succ, List.set_cons_zero, setCells, drew_h, ht2, hi1, hi2, hcan2]) | ((repeat ((fail_if_success with_reducible refine hK _ _ ?_); clear hK K)); (with_reducible refine hK _ _ ?_); clear hK K))))
    have e : freeN (M.map Laid.nd) i = ((M.map Laid.nd).modify p (unkid i)).modify i (setPar (-1)) := by
      simp only [freeN, hn]; rw [if_neg h0, hpp]; simp
    rw [e]
    refine ⟨⟨bn, cap, _, hA3, ?_, fun b hb => ?_⟩, hu2.put (hF _ (by simp [blocks]))⟩
    · rw [map_set_modify (setPar (-1)) hm2 rfl, map_set_modify (unkid i) hmq rfl]
    · have hbM : ∀ b, b ∈ blocks pa bn M → F b ∨ w'.heap.size ≤ b := fun b hb => .inl (hF b hb)
      have inM : ∀ x ∈ M, ∀ b ∈ x.blks, b ∈ blocks pa bn M := fun x hx b hb => by simp only [blocks, List.mem_cons, List.mem_flatMap]; exact .inr (.inr ⟨x, hx, hb⟩)
      rcases blocks_set hb with hb | hb
      · rcases blocks_set hb with hb | hb
        · exact hbM b hb
        · simp only [Laid.blks, List.mem_append, Option.mem_toList] at hb
          rcases hb with hb | hb
          · exact hbM b (inM mq (List.mem_of_getElem? hmq) b (by simp [Laid.blks, hb]))
          · rcases g3 b hb with h | h
            · exact hbM b (inM mq (List.mem_of_getElem? hmq) b (hbm b h))
            · rw [drew_size] at h; exact .inr h
      · exact hbM b (inM m (List.mem_of_getElem? hm) b hb)
end Go.Proofs.Ytkafpameheohdaa
