/- free: a node is taken from its parent. -/
import Derived.Test.YtkafpameheohdaaHd
import Derived.Test.YtkafpameheohdaaAdd
set_option linter.unusedSimpArgs false
set_option linter.unusedVariables false
namespace Go.Vk
def unkid (x : Int) (q : Nd) : Nd := { q with kids := q.kids.erase x }
def setPar (p : Int) (n : Nd) : Nd := { n with parent := p }
def freeN (L : List Nd) (i : Nat) : List Nd := match L[i]? with
  | none => L
  | some n => if n.parent < 0 then L else (L.modify n.parent.toNat (unkid i)).modify i (setPar (-1))
theorem SlAt.part1 {w : World} {b o n c : Nat} {cells : List Value} {bo : Option Nat} (h : SlAt w 1 (.slice (some ⟨b, o, none⟩) n c) cells bo) {l k m : Nat} (h1 : l ≤ k) (h2 : k ≤ n) (h3 : k ≤ m) (h4 : m ≤ c) :
    SlAt w 1 (.slice (if m = l then some ⟨b, o, none⟩ else Option.map (fun x : Addr => x.add l) (some ⟨b, o, none⟩)) (k - l) (m - l)) ((cells.drop l).take (k - l)) bo := by
  have hp := h.part (l := l) (k := k) (m := m) h1 h2 h3 h4
  simp only [Nat.mul_one] at hp
  by_cases e : m = l
  · rw [if_pos e]
    have e1 : k - l = 0 := by omega
    have e2 : m - l = 0 := by omega
    rw [e1, e2]
    obtain ⟨g1, g3, g4, cs, t, g5, g6, g7⟩ := h.inv
    exact .inr ⟨b, o, 0, 0, cs, t, g1, rfl, Nat.le_refl _, by simp, g5, by omega, fun i hi => by simp at hi⟩
  · rw [if_neg e, Option.map_some, add_mk]
    exact hp
theorem map_set_modify {M : List Laid} {p : Nat} {m m' : Laid} (f : Nd → Nd) (h : M[p]? = some m) (hf : m'.nd = f m.nd) : (M.set p m').map Laid.nd = (M.map Laid.nd).modify p f := by
  apply List.ext_getElem?
  intro k
  rw [List.getElem?_map, List.getElem?_modify, List.getElem?_map, List.getElem?_set]
  by_cases e : p = k
  · subst e
    rw [if_pos rfl, if_pos (List.getElem?_eq_some_iff.1 h).1, h]
    simp [hf]
  · simp [e]
theorem blocks_set {pa bn : Nat} {M : List Laid} {p : Nat} {m' : Laid} {b : Nat} (h : b ∈ blocks pa bn (M.set p m')) : b ∈ blocks pa bn M ∨ b ∈ m'.blks := by
  simp only [blocks, List.mem_cons, List.mem_flatMap] at h ⊢
  rcases h with h | h | ⟨x, hx, hb⟩
  · exact .inl (.inl h)
  · exact .inl (.inr (.inl h))
  · rcases List.mem_or_eq_of_mem_set hx with hx | rfl
    · exact .inl (.inr (.inr ⟨x, hx, hb⟩))
    · exact .inr hb
theorem ArM.nd_blks {w : World} {pa bn cap : Nat} {M : List Laid} (h : ArM w pa bn cap M) {m : Laid} (hm : m ∈ M) : m.blks.Nodup ∧ pa ∉ m.blks ∧ bn ∉ m.blks := by
  have own := h.own
  simp only [blocks, List.nodup_cons, List.mem_cons, List.mem_flatMap, not_or] at own
  obtain ⟨⟨_, o2⟩, o3, o4⟩ := own
  refine ⟨?_, fun hin => o2 ⟨m, hm, hin⟩, fun hin => o3 ⟨m, hm, hin⟩⟩
  obtain ⟨A, B, rfl⟩ := List.append_of_mem hm
  rw [List.flatMap_append, List.flatMap_cons, List.nodup_append] at o4
  exact (List.nodup_append.1 o4.2.1).1
theorem idxF_mem (x : Int) : ∀ (l : List Int) (k : Nat), x ∈ l → ∃ j : Nat, idxF x l k = (k + j : Nat) ∧ j < l.length ∧ l.take j ++ l.drop (j + 1) = l.erase x ∧ l[j]? = some x
  | [], _, h => by simp at h
  | y :: r, k, h => by
    by_cases e : x = y
    · subst e
      exact ⟨0, by simp [idxF], by simp, by simp, by simp⟩
    · obtain ⟨j, h1, h2, h3, h4⟩ := idxF_mem x r (k + 1) (by simpa [e] using h)
      refine ⟨j + 1, by rw [idxF, if_neg e, h1]; simp; omega, by simpa using h2, ?_, by simpa using h4⟩
      have e' : (y == x) = false := by simp [Ne.symm e]
      rw [List.erase_cons, if_neg (by simp [e'])]
      simpa using h3
end Go.Vk
namespace Go.Proofs.Ytkafpameheohdaa
open Go.Vk
set_option maxHeartbeats 40000000
theorem free_c {pa : Nat} {L : List Nd} {F : Nat → Prop} {w : World} (h : Ar w pa L F) (hb : L.length < 1000000) {i : Nat} {n : Nd} (hn : L[i]? = some n)
    (hp : 0 ≤ n.parent → ∃ q, nd? L n.parent = some q ∧ (i : Int) ∈ q.kids ∧ q.kids.length < 1000000 ∧ n.parent ≠ i) :
    Gives Try.prog 83 #[.pointer (some ⟨pa, 0, none⟩), .int .i64 i] w fun v w' => v = .tuple #[] ∧ Ar w' pa (freeN L i) (fun b => F b ∨ w.heap.size ≤ b) ∧ Upd F w w' := by
  obtain ⟨bn, cap, M, m, hM, rfl, hF, hm, rfl, hl⟩ := h.at hn
  have hh := hM.head
  have c6 := hM.cell hm (j := 6) (by decide)
  simp only [Laid.cells, List.getElem?_cons_zero, List.getElem?_cons_succ, Nat.add_zero] at c6
  have hk := (List.getElem?_eq_some_iff.1 hm).1
  have hi1 : (0 : Int) ≤ i := by omega
  have hi2 : (i : Int) < M.length := by omega
  by_cases h0 : m.nd.parent < 0
  · refine Gives.of_W Try.call83 Try.func83 rfl Try.ntmps83 (by simp) ?_; intro Z hZ
    (repeat (first | (with_reducible first | (refine hK _ _ ?_; clear hK K) | refine (show ∀ σ' w', _ → K σ' w' from by assumption) _ _ ?_ | refine W_seq_k fun K hK => ?_ | refine W_block_k fun K hK => ?_ | refine W_skip ?_ | refine W_ret ?_) | ((first | ((with_reducible refine W_id ?_); refine W_reg (by decide) (by rfl) ?_) | (with_reducible first | refine W_cond ?_ | refine hZ _ _ ?_ | refine W_exit ?_ | refine Wo_id ?_)); repeat1' simp only [push_cast, Nat.reduceBEq, Nat.reduceLT, Nat.reduceEqDiff, reduceIte, reduceCtorEq, Nat.reduceMul, Nat.reduceAdd, Nat.reduceSub, Int.reduceEq, Int.reduceLT, Int.reduceLE, Int.reduceNeg, Int.reduceAdd, Int.reduceSub, Int.reduceMul, Nat.reduceLeDiff, Int.reduceToNat, hh, hi1, hi2, c6, h0]) | ((repeat ((fail_if_success with_reducible refine hK _ _ ?_); clear hK K)); (with_reducible refine hK _ _ ?_); clear hK K)))
    have e : freeN (M.map Laid.nd) i = M.map Laid.nd := by simp only [freeN, hn]; rw [if_pos h0]
    rw [e]
    exact ⟨h.mono fun b _ hb => .inl hb, Upd.refl _ _⟩
  · obtain ⟨q, hq, hiq, hqb, hne⟩ := hp (by omega)
    obtain ⟨p, hpp, hp1, hp2⟩ := nd?_some hq
    obtain ⟨j, j1, j2, j3, j4⟩ := idxF_mem i q.kids 0 hiq
    rw [List.getElem?_map] at hp1
    obtain ⟨mq, hmq, rfl⟩ := Option.map_eq_some_iff.1 hp1
    have d8 := hM.cell hmq (j := 8) (by decide)
    simp only [Laid.cells, List.getElem?_cons_zero, List.getElem?_cons_succ] at d8
    have hkids := (hM.sub mq (List.mem_of_getElem? hmq)).kids
    obtain ⟨ka, kn, kc, ekv, hkc, hkl⟩ := hkids.len
    obtain ⟨kb, ko, kn', kc', ekv', hkb⟩ := hkids.some_of (by simp [intCells]; intro e; rw [e] at hiq; simp at hiq)
    rw [ekv] at d8 hkids ekv'
    cases ekv'
    rw [intCells_length, Nat.mul_one] at hkl
    have hp3 : (0 : Int) ≤ p := by omega
    have hp0 : ¬ (p : Int) < 0 := by omega
    have hp4 : (p : Int) < M.length := by have := (List.getElem?_eq_some_iff.1 hmq).1; omega
    refine Gives.of_W Try.call83 Try.func83 rfl Try.ntmps83 (by simp) ?_; intro Z hZ
    (repeat (first | (with_reducible first | (refine hK _ _ ?_; clear hK K) | refine (show ∀ σ' w', _ → K σ' w' from by assumption) _ _ ?_ | refine W_seq_k fun K hK => ?_ | refine W_block_k fun K hK => ?_ | refine W_skip ?_ | refine W_ret ?_) | ((first | ((with_reducible refine W_id ?_); refine W_reg (by decide) (by rfl) ?_) | (with_reducible first | refine W_cond ?_ | refine hZ _ _ ?_ | refine W_exit ?_ | refine Wo_id ?_)); repeat1' simp only [push_cast, Nat.reduceBEq, Nat.reduceLT, Nat.reduceEqDiff, reduceIte, reduceCtorEq, Nat.reduceMul, Nat.reduceAdd, Nat.reduceSub, Int.reduceEq, Int.reduceLT, Int.reduceLE, Int.reduceNeg, Int.reduceAdd, Int.reduceSub, Int.reduceMul, Nat.reduceLeDiff, Int.reduceToNat, hh, hi1, hi2, c6, hp0, hpp, hp3, hp4, d8]) | ((repeat ((fail_if_success with_reducible refine hK _ _ ?_); clear hK K)); (with_reducible refine hK _ _ ?_); clear hK K)))
    refine (index_c (i : Int) hkids hqb).mono ?_
    rintro v w' ⟨rfl, rfl⟩
    rw [j1]
    ((repeat simp only [push_cast, Nat.reduceBEq, Nat.reduceLT, Nat.reduceEqDiff, reduceIte, reduceCtorEq, Nat.reduceMul, Nat.reduceAdd, Nat.reduceSub, Int.reduceEq, Int.reduceLT, Int.reduceLE, Int.reduceNeg, Int.reduceAdd, Int.reduceSub, Int.reduceMul, Nat.reduceLeDiff, Int.reduceToNat]); (repeat (first | (with_reducible first | (refine hK _ _ ?_; clear hK K) | refine (show ∀ σ' w', _ → K σ' w' from by assumption) _ _ ?_ | refine W_seq_k fun K hK => ?_ | refine W_block_k fun K hK => ?_ | refine W_skip ?_ | refine W_ret ?_) | ((first | ((with_reducible refine W_id ?_); refine W_reg (by decide) (by rfl) ?_) | (with_reducible first | refine W_cond ?_ | refine hZ _ _ ?_ | refine W_exit ?_ | refine Wo_id ?_)); repeat1' simp only [push_cast, Nat.reduceBEq, Nat.reduceLT, Nat.reduceEqDiff, reduceIte, reduceCtorEq, Nat.reduceMul, Nat.reduceAdd, Nat.reduceSub, Int.reduceEq, Int.reduceLT, Int.reduceLE, Int.reduceNeg, Int.reduceAdd, Int.reduceSub, Int.reduceMul, Nat.reduceLeDiff, Int.reduceToNat]) | ((repeat ((fail_if_success with_reducible refine hK _ _ ?_); clear hK K)); (with_reducible refine hK _ _ ?_); clear hK K))))
    refine W_draw (.pas 0 (.pas 1 (.pas 2 (.pas 3 (.pas 4 (.pas 5 (.pas 6 (.pas 7 (.pas 8 (.pas 9 (.pas 10 (.pas 11 (.pas 12 (.act 13 (.pas 14 (.pas 15 (.last 16))))))))))))))))) (fun b => b = pa) (by decide) mixed (by kernel_rfl) ?_
    obtain ⟨t, ht⟩ := hM.hdr
    have s1 : (0 : Int) ≤ j := by omega
    have s2 : (j : Int) ≤ kc := by omega
    have s3 : (j : Int) + 1 ≤ kn := by omega
    have s4 : (kn : Int) ≤ kc := by omega
    have s5 : (0 : Int) ≤ (j : Int) + 1 := by omega
    have s6 : inI64 ((j : Int) + 1) := by unfold inI64; omega
    have s7 : ((j : Int) + 1).toNat = j + 1 := by omega
    have s8 : (j : Int) + 1 ≤ kc := by omega
    (repeat (first | ((first | refine pas_plain rfl ?_ | refine pas_g rfl rfl ?_ | refine act_plain rfl ?_ | refine act_g rfl rfl ?_ | refine last_plain rfl ?_ | refine tail_plain rfl ?_ | refine tail_g rfl rfl ?_); (repeat simp only [push_cast, Nat.reduceBEq, Nat.reduceLT, Nat.reduceEqDiff, reduceIte, reduceCtorEq, Nat.reduceMul, Nat.reduceAdd, Nat.reduceSub, Int.reduceEq, Int.reduceLT, Int.reduceLE, Int.reduceNeg, Int.reduceAdd, Int.reduceSub, Int.reduceMul, Nat.reduceLeDiff, Int.reduceToNat, cell_h, can_h, cellO_cells, canO_cells, setO_cells, heap_set_h, heap_alloc_h, size_set_h, size_alloc_h, vcells_agg, succ_ne, ne_succ, List.setIfInBounds_toArray, List.set_cons_succ, List.set_cons_zero, setCells, drew_h, true_or, or_true, ht, s1, s2, s3, s4, s5, s6, s7, s8, Int.le_refl])) | (refine tail_fin ?_) | (refine sch_fin ?_)))
    have hkd := hkids.ext (Ext.drew w')
    have x1 := hkd.part1 (l := 0) (k := j) (m := j) (by omega) (by omega) (by omega) (by omega)
    have x2 := hkd.part1 (l := j + 1) (k := kn) (m := kc) (by omega) (by omega) (by omega) (by omega)
    have hkk : ((intCells mq.nd.kids).drop 0).take (j - 0) ++ ((intCells mq.nd.kids).drop (j + 1)).take (kn - (j + 1)) = intCells (mq.nd.kids.erase i) := by
      rw [← j3, intCells_append]
      simp only [intCells, List.drop_zero, Nat.sub_zero, List.map_take, List.map_drop]
      congr 1
      rw [List.take_of_length_le]; simp; omega
    have hAd : ArM w'.drew pa bn cap M := hM.frame (Ext.drew w') fun _ _ h => h.elim
    have hkb' : mq.kb = some kb := hkb
    have hbm : ∀ b, mq.kb = some b → b ∈ mq.blks := fun b hb => by simp [Laid.blks, hb]
    have hpk : pa ∉ mq.blks := fun hin => by
      have := hM.own
      simp only [blocks, List.nodup_cons, List.mem_cons, List.mem_flatMap, not_or] at this
      exact this.1.2 ⟨mq, List.mem_of_getElem? hmq, hin⟩
    refine app_to sty28 sty28.und (by decide) x1 x2 (by simp only [List.all_eq_true]; intro x hx; have := intCells_one mq.nd.kids; rw [List.all_eq_true] at this; exact this x (List.mem_of_mem_drop (List.mem_of_mem_take hx))) (by simp [intCells]; omega) ?_
    intro v w1 bo g1 g2 g3
    rw [hkk] at g1
    refine ⟨kept_upd g2 fun b hb => ⟨?_, ?_⟩, ?_⟩
    · have : b = pa := hb
      subst this; rw [drew_size]; exact blk_lt ht
    · have : b = pa := hb
      subst this; intro e; exact hpk (hbm _ e)
    obtain ⟨va, vn, vc, rfl, _, _⟩ := g1.len
    obtain ⟨nd1, nd2, nd3⟩ := hM.nd_blks (List.mem_of_getElem? hmq)
    have hbody := hAd.body.upd g2 fun b hb e => by cases hb; exact nd3 (hbm _ e)
    have hcan : canO (w1.heap[bn]?) (p * 11 + 8) := by
      rw [← can_h]
      have := hbody.can (i := p * 11 + 8) (by rw [flat_length]; have := (List.getElem?_eq_some_iff.1 hmq).1; omega)
      simpa using this
    (repeat (first | ((first | refine pas_plain rfl ?_ | refine pas_g rfl rfl ?_ | refine act_plain rfl ?_ | refine act_g rfl rfl ?_ | refine last_plain rfl ?_ | refine tail_plain rfl ?_ | refine tail_g rfl rfl ?_); (repeat simp only [push_cast, Nat.reduceBEq, Nat.reduceLT, Nat.reduceEqDiff, reduceIte, reduceCtorEq, Nat.reduceMul, Nat.reduceAdd, Nat.reduceSub, Int.reduceEq, Int.reduceLT, Int.reduceLE, Int.reduceNeg, Int.reduceAdd, Int.reduceSub, Int.reduceMul, Nat.reduceLeDiff, Int.reduceToNat, cell_h, can_h, cellO_cells, canO_cells, setO_cells, heap_set_h, heap_alloc_h, size_set_h, size_alloc_h, vcells_agg, succ_ne, ne_succ, List.setIfInBounds_toArray, List.set_cons_succ, List.set_cons_zero, setCells, drew_h, true_or, or_true, ht, hp3, hp4, hcan])) | (refine tail_fin ?_) | (refine sch_fin ?_)))
    have hA2 := hAd.repl (i := p) (m := mq) hmq { nd := unkid i mq.nd, av := mq.av, kv := .slice va vn vc, ab := mq.ab, kb := bo } 8 (.slice va vn vc) rfl (by decide) g2 (fun b _ hb => hbm b hb)
      ⟨(hAd.sub mq (List.mem_of_getElem? hmq)).attrs.upd g2 fun b hb e => by simp [Laid.blks, hb, e] at nd1, g1⟩
      (fun b hb => by
        simp only [Laid.blks, List.mem_append, Option.mem_toList] at hb
        rcases hb with hb | hb
        · exact .inl (by simp [Laid.blks, hb])
        · rcases g3 b hb with h | h
          · exact .inl (hbm b h)
          · exact .inr h)
      (by
        simp only [Laid.blks]
        have hab : ∀ b, mq.ab = some b → b < w'.drew.heap.size := fun b hb => (hAd.sub mq (List.mem_of_getElem? hmq)).lt (by simp [Laid.blks, hb])
        cases ha : mq.ab with
        | none => cases bo <;> simp
        | some a =>
          cases hbo : bo with
          | none => simp
          | some c =>
            have : a ≠ c := fun e => by
              subst e
              rcases g3 a hbo with h | h
              · simp [Laid.blks, ha, h] at nd1
              · have := hab a ha; omega
            simp [this])
    have hu2 : Upd F w' (w1.setCell ⟨bn, p * 11 + 8, none⟩ (.slice va vn vc)) :=
      (Upd.trans ((Ext.drew w').upd (F := F)) g2 fun b hb e => hF b (by simp only [blocks, List.mem_cons, List.mem_flatMap]; exact .inr (.inr ⟨mq, List.mem_of_getElem? hmq, hbm b e⟩))).put (hF _ (by simp [blocks]))
    generalize w1.setCell ⟨bn, p * 11 + 8, none⟩ (.slice va vn vc) = w2 at *
    obtain ⟨t2, ht2⟩ := hA2.hdr
    rw [List.length_set] at ht2
    have hcan2 : canO (w2.heap[bn]?) (i * 11 + 6) := by rw [← can_h]; exact hA2.can (i := i) (by rw [List.length_set]; exact hk) (by decide)
    have hpi : p ≠ i := fun e => hne (by rw [hpp, e])
    have hm2 : (M.set p { nd := unkid i mq.nd, av := mq.av, kv := .slice va vn vc, ab := mq.ab, kb := bo })[i]? = some m := by rw [List.getElem?_set_ne hpi]; exact hm
    have hA3 := hA2.repl (i := i) (m := m) hm2 { m with nd := setPar (-1) m.nd } 6 (.int .i64 (-1)) rfl (by decide) (Upd.refl none_ w2) (fun _ _ h => h.elim)
      ⟨(hA2.sub m (List.mem_of_getElem? hm2)).attrs, (hA2.sub m (List.mem_of_getElem? hm2)).kids⟩ (fun b hb => .inl hb) (hM.nd_blks (List.mem_of_getElem? hm)).1
    ((repeat simp only [push_cast, Nat.reduceBEq, Nat.reduceLT, Nat.reduceEqDiff, reduceIte, reduceCtorEq, Nat.reduceMul, Nat.reduceAdd, Nat.reduceSub, Int.reduceEq, Int.reduceLT, Int.reduceLE, Int.reduceNeg, Int.reduceAdd, Int.reduceSub, Int.reduceMul, Nat.reduceLeDiff, Int.reduceToNat, cell_h, can_h, cellO_cells, canO_cells, setO_cells, heap_set_h, heap_alloc_h, size_set_h, size_alloc_h, vcells_agg, succ_ne, ne_succ, List.setIfInBounds_toArray, List.set_cons_succ, List.set_cons_zero, setCells, drew_h, ht2, hi1, hi2, hcan2]); (repeat (first | (with_reducible first | (refine hK _ _ ?_; clear hK K) | refine (show ∀ σ' w', _ → K σ' w' from by assumption) _ _ ?_ | refine W_seq_k fun K hK => ?_ | refine W_block_k fun K hK => ?_ | refine W_skip ?_ | refine W_ret ?_) | ((first | ((with_reducible refine W_id ?_); refine W_reg (by decide) (by rfl) ?_) | (with_reducible first | refine W_cond ?_ | refine hZ _ _ ?_ | refine W_exit ?_ | refine Wo_id ?_)); repeat1' simp only [push_cast, Nat.reduceBEq, Nat.reduceLT, Nat.reduceEqDiff, reduceIte, reduceCtorEq, Nat.reduceMul, Nat.reduceAdd, Nat.reduceSub, Int.reduceEq, Int.reduceLT, Int.reduceLE, Int.reduceNeg, Int.reduceAdd, Int.reduceSub, Int.reduceMul, Nat.reduceLeDiff, Int.reduceToNat, cell_h, can_h, cellO_cells, canO_cells, setO_cells, heap_set_h, heap_alloc_h, size_set_h, size_alloc_h, vcells_agg, succ_ne, ne_succ, List.setIfInBounds_toArray, List.set_cons_succ, List.set_cons_zero, setCells, drew_h, ht2, hi1, hi2, hcan2]) | ((repeat ((fail_if_success with_reducible refine hK _ _ ?_); clear hK K)); (with_reducible refine hK _ _ ?_); clear hK K))))
    have e : freeN (M.map Laid.nd) i = ((M.map Laid.nd).modify p (unkid i)).modify i (setPar (-1)) := by
      simp only [freeN, hn]; rw [if_neg h0, hpp]; simp
    rw [e]
    refine ⟨⟨bn, cap, _, hA3, ?_, fun b hb => ?_⟩, hu2.put (hF _ (by simp [blocks]))⟩
    · rw [map_set_modify (setPar (-1)) hm2 rfl, map_set_modify (unkid i) hmq rfl]
    · have hbM : ∀ b, b ∈ blocks pa bn M → F b ∨ w'.heap.size ≤ b := fun b hb => .inl (hF b hb)
      have inM : ∀ x ∈ M, ∀ b ∈ x.blks, b ∈ blocks pa bn M := fun x hx b hb => by simp only [blocks, List.mem_cons, List.mem_flatMap]; exact .inr (.inr ⟨x, hx, hb⟩)
      rcases blocks_set hb with hb | hb
      · rcases blocks_set hb with hb | hb
        · exact hbM b hb
        · simp only [Laid.blks, List.mem_append, Option.mem_toList] at hb
          rcases hb with hb | hb
          · exact hbM b (inM mq (List.mem_of_getElem? hmq) b (by simp [Laid.blks, hb]))
          · rcases g3 b hb with h | h
            · exact hbM b (inM mq (List.mem_of_getElem? hmq) b (hbm b h))
            · rw [drew_size] at h; exact .inr h
      · exact hbM b (inM m (List.mem_of_getElem? hm) b hb)
end Go.Proofs.Ytkafpameheohdaa
