/- What the proof leans on,part 3 of 15. -/
import Derived.Test.YtgnnlaeikcnhcaaGreatDoorQHeadsPlayB
set_option linter.unusedSimpArgs false
set_option linter.unusedVariables false
section
namespace Go.Vk
def unkid (x : Int) (q : Nd) : Nd := { q with kids := q.kids.erase x }
def setPar (p : Int) (n : Nd) : Nd := { n with parent := p }
def freeN (L : List Nd) (i : Nat) : List Nd := match L[i]? with
  | none => L
  | some n => if n.parent < 0 then L else (L.modify n.parent.toNat (unkid i)).modify i (setPar (-1))
theorem SlAt.part1 {w : World} {b o n c : Nat} {cells : List Value} {bo : Option Nat} (h : SlAt w 1 (.slice (some ⟨b,o,none⟩) n c) cells bo) {l k m : Nat} (h1 : l ≤ k) (h2 : k ≤ n) (h3 : k ≤ m) (h4 : m ≤ c) :
    SlAt w 1 (.slice (if m = l then some ⟨b,o,none⟩ else Option.map (fun x : Addr => x.add l) (some ⟨b,o,none⟩)) (k - l) (m - l)) ((cells.drop l).take (k - l)) bo := by
  have hp := h.part (l := l) (k := k) (m := m) h1 h2 h3 h4
  simp only [Nat.mul_one] at hp
  by_cases e : m = l
  · rw [if_pos e]
    have e1 : k - l = 0 := by omega
    have e2 : m - l = 0 := by omega
    rw [e1,e2]
    obtain ⟨g1,g3,g4,cs,t,g5,g6,g7⟩ := h.inv
    exact .inr ⟨b,o,0,0,cs,t,g1,rfl,Nat.le_refl _,by simp,g5,by omega,fun i hi => by simp at hi⟩
  · rw [if_neg e, Option.map_some, add_mk]
    exact hp
theorem map_set_modify {M : List Laid} {p : Nat} {m m' : Laid} (f : Nd → Nd) (h : M[p]? = some m) (hf : m'.nd = f m.nd) : (M.set p m').map Laid.nd = (M.map Laid.nd).modify p f := by
  apply List.ext_getElem?
  intro k
  rw [List.getElem?_map,List.getElem?_modify,List.getElem?_map,List.getElem?_set]
  by_cases e : p = k
  · subst e
    rw [if_pos rfl,if_pos (List.getElem?_eq_some_iff.1 h).1,h]
    simp [hf]
  · simp [e]
theorem blocks_set {pa bn : Nat} {M : List Laid} {p : Nat} {m' : Laid} {b : Nat} (h : b ∈ blocks pa bn (M.set p m')) : b ∈ blocks pa bn M ∨ b ∈ m'.blks := by
  simp only [blocks,List.mem_cons,List.mem_flatMap] at h ⊢
  rcases h with h | h | ⟨x,hx,hb⟩
  · exact .inl (.inl h)
  · exact .inl (.inr (.inl h))
  · rcases List.mem_or_eq_of_mem_set hx with hx | rfl
    · exact .inl (.inr (.inr ⟨x,hx,hb⟩))
    · exact .inr hb
theorem ArM.nd_blks {w : World} {pa bn cap : Nat} {M : List Laid} (h : ArM w pa bn cap M) {m : Laid} (hm : m ∈ M) : m.blks.Nodup ∧ pa ∉ m.blks ∧ bn ∉ m.blks := by
  have own := h.own
  simp only [blocks,List.nodup_cons,List.mem_cons,List.mem_flatMap,not_or] at own
  obtain ⟨⟨_,o2⟩,o3,o4⟩ := own
  refine ⟨?_,fun hin => o2 ⟨m,hm,hin⟩,fun hin => o3 ⟨m,hm,hin⟩⟩
  obtain ⟨A,B,rfl⟩ := List.append_of_mem hm
  rw [List.flatMap_append,List.flatMap_cons,List.nodup_append] at o4
  exact (List.nodup_append.1 o4.2.1).1
theorem idxF_mem (x : Int) : ∀ (l : List Int) (k : Nat), x ∈ l → ∃ j : Nat, idxF x l k = (k + j : Nat) ∧ j < l.length ∧ l.take j ++ l.drop (j + 1) = l.erase x ∧ l[j]? = some x
  | [],_,h => by simp at h
  | y :: r,k,h => by
    by_cases e : x = y
    · subst e
      exact ⟨0,by simp [idxF],by simp,by simp,by simp⟩
    · obtain ⟨j, h1, h2, h3, h4⟩ := idxF_mem x r (k + 1) (by simpa [e] using h)
      refine ⟨j + 1,by rw [idxF,if_neg e,h1]; simp; omega,by simpa using h2,?_,by simpa using h4⟩
      have e' : (y == x) = false := by simp [Ne.symm e]
      rw [List.erase_cons,if_neg (by simp [e'])]
      simpa using h3
end Go.Vk
namespace Go.Proofs.YtgnnlaeikcnhcaaGreatDoor
open Go.Vk
set_option maxHeartbeats 40000000
theorem free_c {pa : Nat} {L : List Nd} {F : Nat → Prop} {w : World} (h : Ar w pa L F) (hb : L.length < 1000000) {i : Nat} {n : Nd} (hn : L[i]? = some n)
    (hp : 0 ≤ n.parent → ∃ q,nd? L n.parent = some q ∧ (i : Int) ∈ q.kids ∧ q.kids.length < 1000000 ∧ n.parent ≠ i) :
    Gives Tryz.prog 203 #[.pointer (some ⟨pa,0,none⟩),.int .i64 i] w fun v w' => v = .tuple #[] ∧ Ar w' pa (freeN L i) (fun b => F b ∨ w.heap.size ≤ b) ∧ Upd F w w' := by
  obtain ⟨bn,cap,M,m,hM,rfl,hF,hm,rfl,hl⟩ := h.at hn
  have hh := hM.head
  have c6 := hM.cell hm (j := 6) (by decide)
  simp only [Laid.cells,List.getElem?_cons_zero,List.getElem?_cons_succ,Nat.add_zero] at c6
  have hk := (List.getElem?_eq_some_iff.1 hm).1
  have hi1 : (0 : Int) ≤ i := by omega
  have hi2 : (i : Int) < M.length := by omega
  by_cases h0 : m.nd.parent < 0
  · refine Gives.of_W Tryz.call203 Tryz.func203 rfl Tryz.ntmps203 (by simp) ?_; intro Z hZ
    (repeat revert hK K);refine W5 @hh @hi1 @hi2 @c6 @h0 ?_;repeat with_reducible intro K hK
    have e : freeN (M.map Laid.nd) i = M.map Laid.nd := by simp only [freeN,hn]; rw [if_pos h0]
    rw [e]
    exact ⟨h.mono fun b _ hb => .inl hb,Upd.refl _ _⟩
  · obtain ⟨q, hq, hiq, hqb, hne⟩ := hp (by omega)
    obtain ⟨p,hpp,hp1,hp2⟩ := nd?_some hq
    obtain ⟨j,j1,j2,j3,j4⟩ := idxF_mem i q.kids 0 hiq
    rw [List.getElem?_map] at hp1
    obtain ⟨mq,hmq,rfl⟩ := Option.map_eq_some_iff.1 hp1
    have d8 := hM.cell hmq (j := 8) (by decide)
    simp only [Laid.cells,List.getElem?_cons_zero,List.getElem?_cons_succ] at d8
    have hkids := (hM.sub mq (List.mem_of_getElem? hmq)).kids
    obtain ⟨ka,kn,kc,ekv,hkc,hkl⟩ := hkids.len
    obtain ⟨kb,ko,kn',kc',ekv',hkb⟩ := hkids.some_of (by simp [intCells]; intro e; rw [e] at hiq; simp at hiq)
    rw [ekv] at d8 hkids ekv'
    cases ekv'
    rw [intCells_length,Nat.mul_one] at hkl
    have hp3 : (0 : Int) ≤ p := by omega
    have hp0 : ¬ (p : Int) < 0 := by omega
    have hp4 : (p : Int) < M.length := by have := (List.getElem?_eq_some_iff.1 hmq).1; omega
    refine Gives.of_W Tryz.call203 Tryz.func203 rfl Tryz.ntmps203 (by simp) ?_; intro Z hZ
    (repeat first|(with_reducible first|(refine hK _ _ ?_;clear hK K)|refine ‹∀σ w,_→K σ w› _ _ ?_|(refine W_st ?_;constructor;try intro K hK))|((with_reducible first|refine hZ _ _ ?_|refine W_rg ?_|skip);repeat1' simp only[push_cast,seval,-Nat.reduceSubDiff,hh,hi1,hi2,c6,hp0,hpp,hp3,hp4,d8])|((repeat((fail_if_success with_reducible refine hK _ _ ?_);clear hK K));with_reducible refine hK _ _ ?_;clear hK K))
    refine (index_c (i : Int) hkids hqb).mono ?_
    rintro v w' ⟨rfl,rfl⟩
    rw [j1]
    (repeat revert hK K);refine W0 ?_;repeat with_reducible intro K hK
    refine W_draw (.pas 0 (.pas 1 (.pas 2 (.pas 3 (.pas 4 (.pas 5 (.pas 6 (.pas 7 (.pas 8 (.pas 9 (.pas 10 (.pas 11 (.pas 12 (.act 13 (.pas 14 (.pas 15 (.last 16))))))))))))))))) (fun b => b = pa) (by decide) mixed (by kernel_rfl) ?_
    obtain ⟨t,ht⟩ := hM.hdr
    have s1 : (0 : Int) ≤ j := by omega
    have s2 : (j : Int) ≤ kc := by omega
    have s3 : (j : Int) + 1 ≤ kn := by omega
    have s4 : (kn : Int) ≤ kc := by omega
    have s5 : (0 : Int) ≤ (j : Int) + 1 := by omega
    have s6 : inI64 ((j : Int) + 1) := by unfold inI64; omega
    have s7 : ((j : Int) + 1).toNat = j + 1 := by omega
    have s8 : (j : Int) + 1 ≤ kc := by omega
    (repeat (first | ((first | refine pas_plain rfl ?_ | refine pas_g rfl rfl ?_ | refine act_plain rfl ?_ | refine act_g rfl rfl ?_ | refine last_plain rfl ?_ | refine tail_plain rfl ?_ | refine tail_g rfl rfl ?_); (repeat simp only [push_cast,seval,-Nat.reduceSubDiff,cell_h,can_h,cellO_cells,canO_cells,setO_cells,heap_set_h,heap_alloc_h,size_set_h,size_alloc_h,vcells_agg,succ_ne,ne_succ,List.setIfInBounds_toArray,List.set_cons_succ,List.set_cons_zero,setCells,drew_h,true_or,or_true,ht,s1,s2,s3,s4,s5,s6,s7,s8,Int.le_refl])) | (refine tail_fin ?_) | (refine sch_fin ?_)))
    have hkd := hkids.ext (Ext.drew w')
    have x1 := hkd.part1 (l := 0) (k := j) (m := j) (by omega) (by omega) (by omega) (by omega)
    have x2 := hkd.part1 (l := j + 1) (k := kn) (m := kc) (by omega) (by omega) (by omega) (by omega)
    have hkk : ((intCells mq.nd.kids).drop 0).take (j - 0) ++ ((intCells mq.nd.kids).drop (j + 1)).take (kn - (j + 1)) = intCells (mq.nd.kids.erase i) := by
      rw [← j3,intCells_append]
      simp only [intCells,List.drop_zero,Nat.sub_zero,List.map_take,List.map_drop]
      congr 1
      rw [List.take_of_length_le]; simp; omega
    have hAd : ArM w'.drew pa bn cap M := hM.frame (Ext.drew w') fun _ _ h => h.elim
    have hkb' : mq.kb = some kb := hkb
    have hbm : ∀ b,mq.kb = some b → b ∈ mq.blks := fun b hb => by simp [Laid.blks,hb]
    have hpk : pa ∉ mq.blks := fun hin => by
      have := hM.own
      simp only [blocks,List.nodup_cons,List.mem_cons,List.mem_flatMap,not_or] at this
      exact this.1.2 ⟨mq,List.mem_of_getElem? hmq,hin⟩
    refine app_to sty28 sty28.und (by decide) x1 x2 (by simp only [List.all_eq_true]; intro x hx; have := intCells_one mq.nd.kids; rw [List.all_eq_true] at this; exact this x (List.mem_of_mem_drop (List.mem_of_mem_take hx))) (by simp [intCells]; omega) ?_
    intro v w1 bo g1 g2 g3
    rw [hkk] at g1
    refine ⟨kept_upd g2 fun b hb => ⟨?_,?_⟩,?_⟩
    · have : b = pa := hb
      subst this; rw [drew_size]; exact blk_lt ht
    · have : b = pa := hb
      subst this; intro e; exact hpk (hbm _ e)
    obtain ⟨va,vn,vc,rfl,_,_⟩ := g1.len
    obtain ⟨nd1,nd2,nd3⟩ := hM.nd_blks (List.mem_of_getElem? hmq)
    have hbody := hAd.body.upd g2 fun b hb e => by cases hb; exact nd3 (hbm _ e)
    have hcan : canO (w1.heap[bn]?) (p * 11 + 8) := by
      rw [← can_h]
      have := hbody.can (i := p * 11 + 8) (by rw [flat_length]; have := (List.getElem?_eq_some_iff.1 hmq).1; omega)
      simpa using this
    (repeat (first | ((first | refine pas_plain rfl ?_ | refine pas_g rfl rfl ?_ | refine act_plain rfl ?_ | refine act_g rfl rfl ?_ | refine last_plain rfl ?_ | refine tail_plain rfl ?_ | refine tail_g rfl rfl ?_); (repeat simp only [push_cast,seval,-Nat.reduceSubDiff,cell_h,can_h,cellO_cells,canO_cells,setO_cells,heap_set_h,heap_alloc_h,size_set_h,size_alloc_h,vcells_agg,succ_ne,ne_succ,List.setIfInBounds_toArray,List.set_cons_succ,List.set_cons_zero,setCells,drew_h,true_or,or_true,ht,hp3,hp4,hcan])) | (refine tail_fin ?_) | (refine sch_fin ?_)))
    have hA2 := hAd.repl (i := p) (m := mq) hmq { nd := unkid i mq.nd, av := mq.av, kv := .slice va vn vc, ab := mq.ab, kb := bo } 8 (.slice va vn vc) rfl (by decide) g2 (fun b _ hb => hbm b hb)
      ⟨(hAd.sub mq (List.mem_of_getElem? hmq)).attrs.upd g2 fun b hb e => by simp [Laid.blks,hb,e] at nd1,g1⟩
      (fun b hb => by
        simp only [Laid.blks,List.mem_append,Option.mem_toList] at hb
        rcases hb with hb | hb
        · exact .inl (by simp [Laid.blks,hb])
        · rcases g3 b hb with h | h
          · exact .inl (hbm b h)
          · exact .inr h)
      (by
        simp only [Laid.blks]
        have hab : ∀ b,mq.ab = some b → b < w'.drew.heap.size := fun b hb => (hAd.sub mq (List.mem_of_getElem? hmq)).lt (by simp [Laid.blks,hb])
        cases ha : mq.ab with
        | none => cases bo <;> simp
        | some a =>
          cases hbo : bo with
          | none => simp
          | some c =>
            have : a ≠ c := fun e => by
              subst e
              rcases g3 a hbo with h | h
              · simp [Laid.blks,ha,h] at nd1
              · have := hab a ha; omega
            simp [this])
    have hu2 : Upd F w' (w1.setCell ⟨bn,p * 11 + 8,none⟩ (.slice va vn vc)) :=
      (Upd.trans ((Ext.drew w').upd (F := F)) g2 fun b hb e => hF b (by simp only [blocks,List.mem_cons,List.mem_flatMap]; exact .inr (.inr ⟨mq,List.mem_of_getElem? hmq,hbm b e⟩))).put (hF _ (by simp [blocks]))
    generalize w1.setCell ⟨bn,p * 11 + 8,none⟩ (.slice va vn vc) = w2 at *
    obtain ⟨t2,ht2⟩ := hA2.hdr
    rw [List.length_set] at ht2
    have hcan2 : canO (w2.heap[bn]?) (i * 11 + 6) := by rw [← can_h]; exact hA2.can (i := i) (by rw [List.length_set]; exact hk) (by decide)
    have hpi : p ≠ i := fun e => hne (by rw [hpp,e])
    have hm2 : (M.set p { nd := unkid i mq.nd,av := mq.av,kv := .slice va vn vc,ab := mq.ab,kb := bo })[i]? = some m := by rw [List.getElem?_set_ne hpi]; exact hm
    have hA3 := hA2.repl (i := i) (m := m) hm2 { m with nd := setPar (-1) m.nd } 6 (.int .i64 (-1)) rfl (by decide) (Upd.refl none_ w2) (fun _ _ h => h.elim)
      ⟨(hA2.sub m (List.mem_of_getElem? hm2)).attrs,(hA2.sub m (List.mem_of_getElem? hm2)).kids⟩ (fun b hb => .inl hb) (hM.nd_blks (List.mem_of_getElem? hm)).1
    (repeat first|(with_reducible first|(refine hK _ _ ?_;clear hK K)|refine ‹∀σ w,_→K σ w› _ _ ?_|(refine W_st ?_;constructor;try intro K hK))|((with_reducible first|refine hZ _ _ ?_|refine W_rg ?_|skip);repeat1' simp only[push_cast,seval,-Nat.reduceSubDiff,cell_h,can_h,cellO_cells,canO_cells,setO_cells,heap_set_h,heap_alloc_h,size_set_h,size_alloc_h,vcells_agg,succ_ne,ne_succ,List.setIfInBounds_toArray,List.set_cons_succ,List.set_cons_zero,setCells,drew_h,ht2,hi1,hi2,hcan2])|((repeat((fail_if_success with_reducible refine hK _ _ ?_);clear hK K));with_reducible refine hK _ _ ?_;clear hK K))
    have e : freeN (M.map Laid.nd) i = ((M.map Laid.nd).modify p (unkid i)).modify i (setPar (-1)) := by
      simp only [freeN,hn]; rw [if_neg h0,hpp]; simp
    rw [e]
    refine ⟨⟨bn,cap,_,hA3,?_,fun b hb => ?_⟩,hu2.put (hF _ (by simp [blocks]))⟩
    · rw [map_set_modify (setPar (-1)) hm2 rfl,map_set_modify (unkid i) hmq rfl]
    · have hbM : ∀ b, b ∈ blocks pa bn M → F b ∨ w'.heap.size ≤ b := fun b hb => .inl (hF b hb)
      have inM : ∀ x ∈ M,∀ b ∈ x.blks,b ∈ blocks pa bn M := fun x hx b hb => by simp only [blocks,List.mem_cons,List.mem_flatMap]; exact .inr (.inr ⟨x,hx,hb⟩)
      rcases blocks_set hb with hb | hb
      · rcases blocks_set hb with hb | hb
        · exact hbM b hb
        · simp only [Laid.blks, List.mem_append, Option.mem_toList] at hb
          rcases hb with hb | hb
          · exact hbM b (inM mq (List.mem_of_getElem? hmq) b (by simp [Laid.blks,hb]))
          · rcases g3 b hb with h | h
            · exact hbM b (inM mq (List.mem_of_getElem? hmq) b (hbm b h))
            · rw [drew_size] at h; exact .inr h
      · exact hbM b (inM m (List.mem_of_getElem? hm) b hb)
end Go.Proofs.YtgnnlaeikcnhcaaGreatDoor
end
section
namespace Go.Vk
def setKids (ks : List Int) (q : Nd) : Nd := { q with kids := ks }
theorem ArM.setKids {w w1 : World} {pa bn cap : Nat} {M : List Laid} (h : ArM w pa bn cap M) {p : Nat} {m : Laid} (hm : M[p]? = some m) {v : Value} {ks : List Int} {bo : Option Nat} (g1 : SlAt w1 1 v (intCells ks) bo)
    (g2 : Upd (fun b => m.kb = some b) w w1) (g3 : ∀ b,bo = some b → m.kb = some b ∨ w.heap.size ≤ b) :
    canO (w1.heap[bn]?) (p * 11 + 8) ∧ ArM (w1.setCell ⟨bn,p * 11 + 8,none⟩ v) pa bn cap (M.set p { nd := Vk.setKids ks m.nd,av := m.av,kv := v,ab := m.ab,kb := bo }) := by
  have hbm : ∀ b,m.kb = some b → b ∈ m.blks := fun b hb => by simp [Laid.blks,hb]
  obtain ⟨nd1,nd2,nd3⟩ := h.nd_blks (List.mem_of_getElem? hm)
  have hbody := h.body.upd g2 fun b hb e => by cases hb; exact nd3 (hbm _ e)
  refine ⟨?_,h.repl hm _ 8 v rfl (by decide) g2 (fun b _ hb => hbm b hb) ⟨(h.sub m (List.mem_of_getElem? hm)).attrs.upd g2 fun b hb e => by simp [Laid.blks,hb,e] at nd1,g1⟩ (fun b hb => ?_) ?_⟩
  · rw [← can_h]
    have := hbody.can (i := p * 11 + 8) (by rw [flat_length]; have := (List.getElem?_eq_some_iff.1 hm).1; omega)
    simpa using this
  · simp only [Laid.blks, List.mem_append, Option.mem_toList] at hb
    rcases hb with hb | hb
    · exact .inl (by simp [Laid.blks,hb])
    · rcases g3 b hb with h | h
      · exact .inl (hbm b h)
      · exact .inr h
  · simp only [Laid.blks]
    have hab : ∀ b,m.ab = some b → b < w.heap.size := fun b hb => (h.sub m (List.mem_of_getElem? hm)).lt (by simp [Laid.blks,hb])
    cases ha : m.ab with
    | none => cases bo <;> simp
    | some a =>
      cases hbo : bo with
      | none => simp
      | some c =>
        have : a ≠ c := fun e => by
          subst e
          rcases g3 a hbo with h | h
          · simp [Laid.blks,ha,h] at nd1
          · have := hab a ha; omega
        simp [this]
def insB (r x : Int) : List Int → List Int
  | [] => [x]
  | y :: l => if r = y then x :: y :: l else y :: insB r x l
def addKid (r x : Int) (q : Nd) : Nd := setKids (if r < 0 then q.kids ++ [x] else insB r x q.kids) q
def hangN (L : List Nd) (p : Nat) (r : Int) (i : Nat) : List Nd := ((freeN L i).modify p (addKid r i)).modify i (setPar p)
theorem insB_mem (r x : Int) : ∀ (l : List Int) (k : Nat), r ∈ l → ∃ j : Nat, idxF r l k = (k + j : Nat) ∧ j < l.length ∧ l.take j ++ [x] ++ l.drop j = insB r x l
  | [],_,h => by simp at h
  | y :: l,k,h => by
    by_cases e : r = y
    · subst e
      exact ⟨0,by simp [idxF],by simp,by simp [insB]⟩
    · obtain ⟨j, h1, h2, h3⟩ := insB_mem r x l (k + 1) (by simpa [e] using h)
      refine ⟨j + 1,by rw [idxF,if_neg e,h1]; simp; omega,by simpa using h2,?_⟩
      rw [insB,if_neg e,← h3]; simp
end Go.Vk
end
section
namespace Go.Proofs.YtgnnlaeikcnhcaaGreatDoor
open Go.Vk
set_option maxHeartbeats 40000000
theorem hang_c {pa : Nat} {L : List Nd} {F : Nat → Prop} {w : World} (h : Ar w pa L F) (hb : L.length < 1000000) {i p : Nat} {r : Int} {n : Nd} (hn : L[i]? = some n)
    (hp : 0 ≤ n.parent → ∃ q,nd? L n.parent = some q ∧ (i : Int) ∈ q.kids ∧ q.kids.length < 1000000 ∧ n.parent ≠ i)
    {q : Nd} (hq : (freeN L i)[p]? = some q) (hqb : q.kids.length < 1000000) (hr : 0 ≤ r → r ∈ q.kids) (hpi : p ≠ i) (hi : i < (freeN L i).length) (hl : (freeN L i).length = L.length) :
    Gives Tryz.prog 158 #[.pointer (some ⟨pa,0,none⟩),.int .i64 p,.int .i64 r,.int .i64 i] w fun v w' => v = .tuple #[] ∧ Ar w' pa (hangN L p r i) (fun b => F b ∨ w.heap.size ≤ b) ∧ Upd F w w' := by
  refine Gives.of_W Tryz.call158 Tryz.func158 rfl Tryz.ntmps158 (by simp) ?_; intro Z hZ
  (repeat revert hK K);refine W0 ?_;repeat with_reducible intro K hK
  refine (free_c h hb hn hp).mono ?_
  rintro v w1 ⟨rfl,hA,hu⟩
  unfold hangN at hZ
  generalize freeN L i = L1 at *
  obtain ⟨bn,cap,M,m,hM,rfl,hF,hm,rfl,hlM⟩ := hA.at hq
  obtain ⟨mi,hmi⟩ : ∃ mi,M[i]? = some mi := ⟨M[i]'(by omega),List.getElem?_eq_getElem _⟩
  have hh := hM.head
  have hp1 : (0 : Int) ≤ p := by omega
  have hp2 : (p : Int) < M.length := by have := (List.getElem?_eq_some_iff.1 hm).1; omega
  have hi1 : (0 : Int) ≤ i := by omega
  have hi2 : (i : Int) < M.length := by omega
  have d8 := hM.cell hm (j := 8) (by decide)
  simp only [Laid.cells,List.getElem?_cons_zero,List.getElem?_cons_succ] at d8
  have hkids := (hM.sub m (List.mem_of_getElem? hm)).kids
  obtain ⟨ka,kn,kc,ekv,hkc,hkl⟩ := hkids.len
  rw [ekv] at d8 hkids
  rw [intCells_length,Nat.mul_one] at hkl
  obtain ⟨t,ht⟩ := hM.hdr
  have hpa : pa < w1.heap.size := blk_lt ht
  have hpk : ∀ b,m.kb = some b → b ≠ pa := fun b hb e => by
    subst e; exact (hM.nd_blks (List.mem_of_getElem? hm)).2.1 (by simp [Laid.blks,hb])
  have fin : ∀ (w2 : World) (v : Value) (bo : Option Nat) (ks : List Int) ,SlAt w2 1 v (intCells ks) bo → Upd (fun b => m.kb = some b) w1 w2 → (∀ b,bo = some b → m.kb = some b ∨ w1.heap.size ≤ b) → setKids ks m.nd = addKid r i m.nd →
      canO (w2.heap[bn]?) (p * 11 + 8) ∧ (∃ t,(w2.setCell ⟨bn,p * 11 + 8,none⟩ v).heap[pa]? = some (.cells #[.slice (some ⟨bn,0,none⟩) M.length cap] t (0,0))) ∧ canO ((w2.setCell ⟨bn,p * 11 + 8,none⟩ v).heap[bn]?) (i * 11 + 6) ∧
      (Ar ((w2.setCell ⟨bn,p * 11 + 8,none⟩ v).setCell ⟨bn,i * 11 + 6,none⟩ (.int .i64 p)) pa (((M.map Laid.nd).modify p (addKid r i)).modify i (setPar p)) (fun b => F b ∨ w.heap.size ≤ b)) ∧ Upd F w ((w2.setCell ⟨bn,p * 11 + 8,none⟩ v).setCell ⟨bn,i * 11 + 6,none⟩ (.int .i64 p)) := by
    intro w2 v bo ks g1 g2 g3 hks
    obtain ⟨c1,hA2⟩ := hM.setKids hm g1 g2 g3
    obtain ⟨t2,ht2⟩ := hA2.hdr
    rw [List.length_set] at ht2
    have hm2 : (M.set p { nd := setKids ks m.nd,av := m.av,kv := v,ab := m.ab,kb := bo })[i]? = some mi := by rw [List.getElem?_set_ne hpi]; exact hmi
    have hA3 := hA2.repl (i := i) (m := mi) hm2 { mi with nd := setPar p mi.nd } 6 (.int .i64 p) rfl (by decide) (Upd.refl none_ _) (fun _ _ h => h.elim)
      ⟨(hA2.sub mi (List.mem_of_getElem? hm2)).attrs,(hA2.sub mi (List.mem_of_getElem? hm2)).kids⟩ (fun b hb => .inl hb) (hM.nd_blks (List.mem_of_getElem? hmi)).1
    have inM : ∀ x ∈ M,∀ b ∈ x.blks,b ∈ blocks pa bn M := fun x hx b hb => by simp only [blocks,List.mem_cons,List.mem_flatMap]; exact .inr (.inr ⟨x,hx,hb⟩)
    have hsz := hu.alike.size
    refine ⟨c1,⟨t2,ht2⟩,by rw [← can_h]; exact hA2.can (i := i) (by rw [List.length_set]; omega) (by decide),⟨bn,cap,_,hA3,?_,fun b hb => ?_⟩,?_⟩
    · rw [map_set_modify (setPar p) hm2 rfl,map_set_modify (addKid r i) hm hks]
    · rcases blocks_set hb with hb | hb
      · rcases blocks_set hb with hb | hb
        · exact hF b hb
        · simp only [Laid.blks, List.mem_append, Option.mem_toList] at hb
          rcases hb with hb | hb
          · exact hF b (inM m (List.mem_of_getElem? hm) b (by simp [Laid.blks,hb]))
          · rcases g3 b hb with h | h
            · exact hF b (inM m (List.mem_of_getElem? hm) b (by simp [Laid.blks,h]))
            · exact .inr (by omega)
      · exact hF b (inM mi (List.mem_of_getElem? hmi) b hb)
    · have hFo : ∀ b,b < w.heap.size → b ∈ blocks pa bn M → F b := fun b hl hb => by
        rcases hF b hb with h | h
        · exact h
        · omega
      refine ((Upd.trans hu g2 fun b hl e => hFo b hl (inM m (List.mem_of_getElem? hm) b (by simp [Laid.blks,e]))).put2 ?_).put2 ?_
      · exact fun hl => hFo _ hl (by simp [blocks])
      · exact fun hl => hFo _ hl (by simp [blocks])
  by_cases hr0 : r < 0
  · (repeat revert hK K);refine W5 @hh @hp1 @hp2 @d8 @hr0 ?_;repeat with_reducible intro K hK
    refine W_draw (.pas 0 (.pas 1 (.pas 2 (.pas 3 (.pas 4 (.pas 5 (.pas 6 (.act 7 (.act 8 (.pas 9 (.pas 10 (.last 11)))))))))))) (fun b => b = pa) (by decide) mixed (by kernel_rfl) ?_
    (repeat (first | ((first | refine pas_plain rfl ?_ | refine pas_g rfl rfl ?_ | refine act_plain rfl ?_ | refine act_g rfl rfl ?_ | refine last_plain rfl ?_ | refine tail_plain rfl ?_ | refine tail_g rfl rfl ?_); (repeat simp only [push_cast,seval,-Nat.reduceSubDiff,cell_h,can_h,cellO_cells,canO_cells,setO_cells,heap_set_h,heap_alloc_h,size_set_h,size_alloc_h,vcells_agg,succ_ne,ne_succ,List.setIfInBounds_toArray,List.set_cons_succ,List.set_cons_zero,setCells,drew_h,true_or,or_true,ht])) | (refine tail_fin ?_) | (refine sch_fin ?_)))
    refine bs_one sty28 (by decide) (by decide) (v := .int .i64 i) rfl ?_
    refine ⟨kept_upd (Ext.alloc _ _) fun b hb => ⟨by have : b = pa := hb; subst this; rw [drew_size]; exact hpa,id⟩,?_⟩
    (repeat (first | ((first | refine pas_plain rfl ?_ | refine pas_g rfl rfl ?_ | refine act_plain rfl ?_ | refine act_g rfl rfl ?_ | refine last_plain rfl ?_ | refine tail_plain rfl ?_ | refine tail_g rfl rfl ?_); (repeat simp only [push_cast,seval,-Nat.reduceSubDiff,cell_h,can_h,cellO_cells,canO_cells,setO_cells,heap_set_h,heap_alloc_h,size_set_h,size_alloc_h,vcells_agg,succ_ne,ne_succ,List.setIfInBounds_toArray,List.set_cons_succ,List.set_cons_zero,setCells,drew_h,true_or,or_true,ht])) | (refine tail_fin ?_) | (refine sch_fin ?_)))
    have hxa : Ext w1 (w1.drew.alloc (.cells (Value.int .i64 i).cells 3)) := (Ext.drew w1).trans (Ext.alloc _ _)
    have hs1 : SlAt (w1.drew.alloc (.cells (Value.int .i64 i).cells 3)) 1 (.slice (some ⟨w1.drew.heap.size,0,none⟩) 1 1) (intCells [(i : Int)]) (some w1.drew.heap.size) := SlAt.new w1.drew 1 (Value.int .i64 i).cells 3 1 rfl
    refine app_to sty28 sty28.und (by decide) (hkids.ext hxa) hs1 (intCells_one _) (by simp [intCells]; omega) ?_
    intro v w2 bo g1 g2 g3
    rw [← intCells_append] at g1
    have hsa := hxa.alike.size
    refine ⟨kept_upd g2 fun b hb => ⟨by have : b = pa := hb; subst this; omega,fun e => hpk b e hb⟩,?_⟩
    obtain ⟨c1,⟨t2,c2⟩,c3,c4,c5⟩ := fin w2 v bo _ g1 (Upd.trans (hxa.upd (F := fun b => m.kb = some b)) g2 fun _ _ h => h) (fun b hb => by
      rcases g3 b hb with h | h
      · exact .inl h
      · exact .inr (by omega)) (by simp [addKid,hr0])
    obtain ⟨va,vn,vc,rfl,_,_⟩ := g1.len
    (repeat (first | ((first | refine pas_plain rfl ?_ | refine pas_g rfl rfl ?_ | refine act_plain rfl ?_ | refine act_g rfl rfl ?_ | refine last_plain rfl ?_ | refine tail_plain rfl ?_ | refine tail_g rfl rfl ?_); (repeat simp only [push_cast,seval,-Nat.reduceSubDiff,cell_h,can_h,cellO_cells,canO_cells,setO_cells,heap_set_h,heap_alloc_h,size_set_h,size_alloc_h,vcells_agg,succ_ne,ne_succ,List.setIfInBounds_toArray,List.set_cons_succ,List.set_cons_zero,setCells,drew_h,true_or,or_true,ht,hp1,hp2,c1])) | (refine tail_fin ?_) | (refine sch_fin ?_)))
    generalize w2.setCell ⟨bn,p * 11 + 8,none⟩ (.slice va vn vc) = w3 at *
    (repeat first|(with_reducible first|(refine hK _ _ ?_;clear hK K)|refine ‹∀σ w,_→K σ w› _ _ ?_|(refine W_st ?_;constructor;try intro K hK))|((with_reducible first|refine hZ _ _ ?_|refine W_rg ?_|skip);repeat1' simp only[push_cast,seval,-Nat.reduceSubDiff,cell_h,can_h,cellO_cells,canO_cells,setO_cells,heap_set_h,heap_alloc_h,size_set_h,size_alloc_h,vcells_agg,succ_ne,ne_succ,List.setIfInBounds_toArray,List.set_cons_succ,List.set_cons_zero,setCells,drew_h,c2,hi1,hi2,c3])|((repeat((fail_if_success with_reducible refine hK _ _ ?_);clear hK K));with_reducible refine hK _ _ ?_;clear hK K))
    exact ⟨c4,c5⟩
  · have hrq : r ∈ m.nd.kids := hr (by omega)
    obtain ⟨j,j1,j2,j3⟩ := insB_mem r i m.nd.kids 0 hrq
    obtain ⟨kb,ko,kn',kc',ekv',hkb⟩ := hkids.some_of (by simp [intCells]; intro e; rw [e] at hrq; simp at hrq)
    cases ekv'
    (repeat revert hK K);refine W5 @hh @hp1 @hp2 @d8 @hr0 ?_;repeat with_reducible intro K hK
    refine (index_c r hkids hqb).mono ?_
    rintro v w' ⟨rfl,rfl⟩
    rw [j1]
    (repeat revert hK K);refine W0 ?_;repeat with_reducible intro K hK
    have s1 : (0 : Int) ≤ j := by omega
    have s2 : (j : Int) ≤ kc := by omega
    have s3 : (j : Int) ≤ kn := by omega
    have s4 : (kn : Int) ≤ kc := by omega
    refine W_draw (.pas 0 (.pas 1 (.pas 2 (.pas 3 (.pas 4 (.pas 5 (.pas 6 (.pas 7 (.pas 8 (.pas 9 (.pas 12 (.pas 13 (.pas 14 (.act 10 (.act 11 (.act 15 (.pas 16 (.pas 17 (.last 18))))))))))))))))))) (fun b => b = pa) (by decide) mixed (by kernel_rfl) ?_
    (repeat (first | ((first | refine pas_plain rfl ?_ | refine pas_g rfl rfl ?_ | refine act_plain rfl ?_ | refine act_g rfl rfl ?_ | refine last_plain rfl ?_ | refine tail_plain rfl ?_ | refine tail_g rfl rfl ?_); (repeat simp only [push_cast,seval,-Nat.reduceSubDiff,cell_h,can_h,cellO_cells,canO_cells,setO_cells,heap_set_h,heap_alloc_h,size_set_h,size_alloc_h,vcells_agg,succ_ne,ne_succ,List.setIfInBounds_toArray,List.set_cons_succ,List.set_cons_zero,setCells,drew_h,true_or,or_true,ht,s1,s2,s3,s4,Int.le_refl])) | (refine tail_fin ?_) | (refine sch_fin ?_)))
    have hkd := hkids.ext (Ext.drew w')
    have x1 := hkd.part1 (l := 0) (k := j) (m := j) (by omega) (by omega) (by omega) (by omega)
    refine bs_one sty28 (by decide) (by decide) (v := .int .i64 i) rfl ?_
    refine ⟨kept_upd (Ext.alloc _ _) fun b hb => ⟨by have : b = pa := hb; subst this; rw [drew_size]; exact hpa,id⟩,?_⟩
    (repeat (first | ((first | refine pas_plain rfl ?_ | refine pas_g rfl rfl ?_ | refine act_plain rfl ?_ | refine act_g rfl rfl ?_ | refine last_plain rfl ?_ | refine tail_plain rfl ?_ | refine tail_g rfl rfl ?_); (repeat simp only [push_cast,seval,-Nat.reduceSubDiff,cell_h,can_h,cellO_cells,canO_cells,setO_cells,heap_set_h,heap_alloc_h,size_set_h,size_alloc_h,vcells_agg,succ_ne,ne_succ,List.setIfInBounds_toArray,List.set_cons_succ,List.set_cons_zero,setCells,drew_h,true_or,or_true,ht,s1,s2,s3,s4,Int.le_refl])) | (refine tail_fin ?_) | (refine sch_fin ?_)))
    have hxa : Ext w' (w'.drew.alloc (.cells (Value.int .i64 i).cells 3)) := (Ext.drew w').trans (Ext.alloc _ _)
    have hs1 : SlAt (w'.drew.alloc (.cells (Value.int .i64 i).cells 3)) 1 (.slice (some ⟨w'.drew.heap.size,0,none⟩) 1 1) (intCells [(i : Int)]) (some w'.drew.heap.size) := SlAt.new w'.drew 1 (Value.int .i64 i).cells 3 1 rfl
    refine app_spec sty28 sty28.und (by decide) (x1.ext (Ext.alloc _ _)) hs1 (intCells_one _) (by simp [intCells]; omega) ?_ ?_
    · rintro v w2 g1 g2 _ _ ⟨a, n1, c1, m1, e1, rfl, e2, e3⟩
      cases e1
      simp [intCells] at e3
      omega
    intro v w2 g1 g2 _ _ _
    have hsa := hxa.alike.size
    refine ⟨kept_upd g2 fun b hb => ⟨by have : b = pa := hb; subst this; omega,id⟩,?_⟩
    obtain ⟨va,vn,vc,rfl,_,_⟩ := g1.len
    (repeat (first | ((first | refine pas_plain rfl ?_ | refine pas_g rfl rfl ?_ | refine act_plain rfl ?_ | refine act_g rfl rfl ?_ | refine last_plain rfl ?_ | refine tail_plain rfl ?_ | refine tail_g rfl rfl ?_); (repeat simp only [push_cast,seval,-Nat.reduceSubDiff,cell_h,can_h,cellO_cells,canO_cells,setO_cells,heap_set_h,heap_alloc_h,size_set_h,size_alloc_h,vcells_agg,succ_ne,ne_succ,List.setIfInBounds_toArray,List.set_cons_succ,List.set_cons_zero,setCells,drew_h,true_or,or_true,ht,s1,s2,s3,s4,Int.le_refl])) | (refine tail_fin ?_) | (refine sch_fin ?_)))
    have x2 := (hkd.part1 (l := j) (k := kn) (m := kc) (by omega) (by omega) (by omega) (by omega)).ext ((Ext.alloc _ _).trans g2)
    have hkk : (((intCells m.nd.kids).drop 0).take (j - 0) ++ intCells [(i : Int)]) ++ ((intCells m.nd.kids).drop j).take (kn - j) = intCells (insB r i m.nd.kids) := by
      rw [← j3,intCells_append,intCells_append]
      simp only [intCells,List.drop_zero,Nat.sub_zero,List.map_take,List.map_drop]
      congr 1
      rw [List.take_of_length_le]; simp; omega
    refine app_to sty28 sty28.und (by decide) g1 x2 (by simp only [List.all_eq_true]; intro x hx; have := intCells_one m.nd.kids; rw [List.all_eq_true] at this; exact this x (List.mem_of_mem_drop (List.mem_of_mem_take hx))) (by simp [intCells]; omega) ?_
    intro v w3 bo q1 q2 q3
    rw [hkk] at q1
    have hsb := g2.alike.size
    refine ⟨kept_upd q2 fun b hb => ⟨by have : b = pa := hb; subst this; omega,fun e => by have : b = pa := hb; subst this; cases e; omega⟩,?_⟩
    obtain ⟨c1,⟨t2,c2⟩,c3,c4,c5⟩ := fin w3 v bo _ q1 (Upd.trans ((hxa.trans g2).upd (F := fun b => m.kb = some b)) q2 fun b hb e => by cases e; omega) (fun b hb => by
      rcases q3 b hb with h | h
      · cases h; exact .inr (by omega)
      · exact .inr (by omega)) (by simp [addKid,hr0])
    obtain ⟨va',vn',vc',rfl,_,_⟩ := q1.len
    (repeat (first | ((first | refine pas_plain rfl ?_ | refine pas_g rfl rfl ?_ | refine act_plain rfl ?_ | refine act_g rfl rfl ?_ | refine last_plain rfl ?_ | refine tail_plain rfl ?_ | refine tail_g rfl rfl ?_); (repeat simp only [push_cast,seval,-Nat.reduceSubDiff,cell_h,can_h,cellO_cells,canO_cells,setO_cells,heap_set_h,heap_alloc_h,size_set_h,size_alloc_h,vcells_agg,succ_ne,ne_succ,List.setIfInBounds_toArray,List.set_cons_succ,List.set_cons_zero,setCells,drew_h,true_or,or_true,ht,hp1,hp2,c1])) | (refine tail_fin ?_) | (refine sch_fin ?_)))
    generalize w3.setCell ⟨bn,p * 11 + 8,none⟩ (.slice va' vn' vc') = w4 at *
    (repeat first|(with_reducible first|(refine hK _ _ ?_;clear hK K)|refine ‹∀σ w,_→K σ w› _ _ ?_|(refine W_st ?_;constructor;try intro K hK))|((with_reducible first|refine hZ _ _ ?_|refine W_rg ?_|skip);repeat1' simp only[push_cast,seval,-Nat.reduceSubDiff,cell_h,can_h,cellO_cells,canO_cells,setO_cells,heap_set_h,heap_alloc_h,size_set_h,size_alloc_h,vcells_agg,succ_ne,ne_succ,List.setIfInBounds_toArray,List.set_cons_succ,List.set_cons_zero,setCells,drew_h,c2,hi1,hi2,c3])|((repeat((fail_if_success with_reducible refine hK _ _ ?_);clear hK K));with_reducible refine hK _ _ ?_;clear hK K))
    exact ⟨c4,c5⟩
end Go.Proofs.YtgnnlaeikcnhcaaGreatDoor
end
section
namespace Go.Vk
/- ways up that end -/
def dn (N : Int) (up : Int → Int) : Nat → Int → Bool
  | 0,j => decide (j < 0)
  | k + 1,j => decide (j < 0) || (decide (j < N) && dn N up k (up j))
def ab (up : Int → Int) (i : Int) : Nat → Int → Bool
  | 0,_ => false
  | k + 1,j => if j < 0 then false else decide (j = i) || ab up i k (up j)
theorem downN_dn (L : List Nd) : ∀ (k : Nat) (j : Int), downN L k j = dn L.length (upN L) k j
  | 0,_ => rfl
  | k + 1,j => by rw [downN,dn,downN_dn L k]
theorem aboveF_ab (L : List Nd) (i : Int) : ∀ (k : Nat) (j : Int), aboveF L i k j = ab (upN L) i k j
  | 0,_ => rfl
  | k + 1,j => by rw [aboveF,ab,aboveF_ab L i k]
section
variable {N : Int} {up up' : Int → Int} {i j : Int}
theorem dn_neg (h : j < 0) : ∀ k, dn N up k j = true
  | 0 => by simp [dn,h]
  | k + 1 => by simp [dn,h]
theorem dn_mono : ∀ {k : Nat} {j : Int}, dn N up k j = true → dn N up (k + 1) j = true
  | 0,j,h => dn_neg (by simpa [dn] using h) _
  | k + 1,j,h => by
    rw [dn] at h ⊢
    simp only [Bool.or_eq_true,Bool.and_eq_true,decide_eq_true_eq] at h ⊢
    rcases h with h | h
    · exact .inl h
    · exact .inr ⟨h.1,dn_mono h.2⟩
theorem dn_le {k m : Nat} (h : dn N up k j = true) (hk : k ≤ m) : dn N up m j = true := by
  induction hk with
  | refl => exact h
  | step _ ih => exact dn_mono ih
theorem dn_step {k : Nat} (h : dn N up (k + 1) j = true) (hj : 0 ≤ j) : j < N ∧ dn N up k (up j) = true := by
  rw [dn] at h
  simpa [show ¬ j < 0 by omega] using h
theorem php : ∀ (n : Nat) (f : Nat → Nat), (∀ i, i ≤ n → f i < n) → ∃ a b, a < b ∧ b ≤ n ∧ f a = f b
  | 0,f,h => absurd (h 0 (Nat.le_refl _)) (by omega)
  | n + 1,f,h => by
    by_cases hx : ∃ a,a ≤ n ∧ f a = f (n + 1)
    · obtain ⟨a, h1, h2⟩ := hx
      exact ⟨a,n + 1,by omega,Nat.le_refl _,h2⟩
    · have hx' : ∀ a, a ≤ n → f a ≠ f (n + 1) := fun a h1 h2 => hx ⟨a, h1, h2⟩
      obtain ⟨a,b,h1,h2,h3⟩ := php n (fun i => if f i = n then f (n + 1) else f i) (fun i hi => by
        have e1 := h i (by omega)
        have e2 := h (n + 1) (Nat.le_refl _)
        have e3 := hx' i hi
        show (if f i = n then f (n + 1) else f i) < n
        split <;> omega)
      have e1 := hx' a (by omega)
      have e2 := hx' b h2
      refine ⟨a,b,h1,by omega,?_⟩
      have h3 : (if f a = n then f (n + 1) else f a) = (if f b = n then f (n + 1) else f b) := h3
      split at h3 <;> split at h3 <;> omega
def iter (up : Int → Int) : Nat → Int → Int
  | 0,j => j
  | k + 1,j => iter up k (up j)
theorem dn_iter : ∀ {a k : Nat} {j : Int}, dn N up (a + k) j = true → (∀ b, b < a → 0 ≤ iter up b j) → dn N up k (iter up a j) = true
  | 0,k,j,h,_ => by simpa [iter] using h
  | a + 1,k,j,h,hn => by
    have h0 : 0 ≤ j := hn 0 (by omega)
    rw [show a + 1 + k = (a + k) + 1 by omega] at h
    show dn N up k (iter up a (up j)) = true
    exact dn_iter (dn_step h h0).2 fun b hb => hn (b + 1) (by omega)
theorem dn_of_iter : ∀ {a k : Nat} {j : Int}, (∀ b, b < a → iter up b j < N) → dn N up k (iter up a j) = true → dn N up (a + k) j = true
  | 0,k,j,_,h => by simpa [iter] using h
  | a + 1,k,j,hn,h => by
    rw [show a + 1 + k = (a + k) + 1 by omega,dn]
    have := dn_of_iter (j := up j) (fun b hb => hn (b + 1) (by omega)) h
    have h0 : j < N := hn 0 (by omega)
    simp [this,h0]
theorem dn_lt : ∀ {k : Nat} {j : Int}, dn N up k j = true → ∀ b, (∀ c, c ≤ b → 0 ≤ iter up c j) → b < k ∧ iter up b j < N
  | 0,j,h,b,hc => by
    have := hc 0 (by omega)
    simp [dn] at h; simp [iter] at this; omega
  | k + 1,j,h,0,hc => ⟨by omega,(dn_step h (hc 0 (by omega))).1⟩
  | k + 1,j,h,b + 1,hc => by
    have := dn_lt (dn_step h (hc 0 (by omega))).2 b fun c hb => hc (c + 1) (by omega)
    exact ⟨by omega,this.2⟩
theorem dn_len {n : Nat} : ∀ {k : Nat} {j : Int},dn (n : Int) up k j = true → dn (n : Int) up n j = true := by
  intro k
  induction k using Nat.strongRecOn with
  | ind k ih =>
    intro j h
    by_cases hk : k ≤ n
    · exact dn_le h hk
    · by_cases hall : ∀ c, c ≤ n → 0 ≤ iter up c j
      · obtain ⟨a,b,h1,h2,h3⟩ := php n (fun c => (iter up c j).toNat) (fun c hc => by
          have := (dn_lt h c fun d hd => hall d (by omega)).2
          have := hall c hc
          show (iter up c j).toNat < n
          omega)
        have e : iter up a j = iter up b j := by
          have := hall a (by omega); have := hall b h2
          have h3 : (iter up a j).toNat = (iter up b j).toNat := h3
          omega
        have hb : dn (n : Int) up (k - b) (iter up b j) = true := dn_iter (by rw [show b + (k - b) = k by omega]; exact h) fun c hc => hall c (by omega)
        have hj : dn (n : Int) up (a + (k - b)) j = true := dn_of_iter (fun c hc => (dn_lt h c fun d hd => hall d (by omega)).2) (by rw [e]; exact hb)
        exact ih _ (by omega) hj
      · have : ∃ c,c ≤ n ∧ iter up c j < 0 ∧ ∀ d,d < c → 0 ≤ iter up d j := by
          have hx : ∃ c,c ≤ n ∧ iter up c j < 0 := by
            by_cases hh : ∃ c,c ≤ n ∧ iter up c j < 0
            · exact hh
            · exact absurd (fun c hc => by have : ¬ iter up c j < 0 := fun hl => hh ⟨c,hc,hl⟩; omega) hall
          obtain ⟨c,hc⟩ := hx
          clear hall
          induction c using Nat.strongRecOn with
          | ind c ih2 =>
            by_cases hd : ∃ d,d < c ∧ iter up d j < 0
            · obtain ⟨d, h1, h2⟩ := hd
              exact ih2 d h1 ⟨by omega,h2⟩
            · exact ⟨c,hc.1,hc.2,fun d h1 => by have : ¬ iter up d j < 0 := fun hl => hd ⟨d,h1,hl⟩; omega⟩
        obtain ⟨c,h1,h2,h3⟩ := this
        have : dn (n : Int) up (c + 0) j = true := dn_of_iter (fun d hd => (dn_lt h d fun e he => h3 e (by omega)).2) (dn_neg h2 0)
        exact dn_le this (by omega)
theorem dn_same (hs : ∀ x, x ≠ i → up' x = up x) : ∀ {k : Nat} {j : Int}, ab up i k j = false → (∀ x, ab up' x k j = ab up x k j) ∧ (dn N up k j = true → dn N up' k j = true)
  | 0,j,_ => ⟨fun _ => rfl,id⟩
  | k + 1,j,h => by
    by_cases hj : j < 0
    · exact ⟨fun x => by simp [ab,hj],fun _ => dn_neg hj _⟩
    · simp only [ab, hj, if_false, Bool.or_eq_false_iff, decide_eq_false_iff_not] at h
      have := dn_same hs h.2
      refine ⟨fun x => by simp only [ab,hj,if_false,hs j h.1,this.1 x],fun hd => ?_⟩
      obtain ⟨h1,h2⟩ := dn_step hd (by omega)
      rw [dn,hs j h.1]
      simp [h1,this.2 h2]
theorem dn_cut (hs : ∀ x, x ≠ i → up' x = up x) {m : Nat} (hq : dn N up' m (up' i) = true) : ∀ {k : Nat} {j : Int}, dn N up k j = true → ∃ k', dn N up' k' j = true
  | 0,j,h => ⟨0,h⟩
  | k + 1,j,h => by
    by_cases hj : j < 0
    · exact ⟨0,by simp [dn,hj]⟩
    · obtain ⟨h1, h2⟩ := dn_step h (by omega)
      by_cases e : j = i
      · subst e
        exact ⟨m + 1,by rw [dn]; simp [h1,hq]⟩
      · obtain ⟨k', h'⟩ := dn_cut hs hq h2
        exact ⟨k' + 1,by rw [dn,hs j e]; simp [h1,h']⟩
end
end Go.Vk
end
section
namespace Go.Vk
def noN : Nd := { zN with parent := -1 }
def gN (L : List Nd) (t : Int) : Nd := (nd? L t).getD noN
theorem gN_of {L : List Nd} {t : Int} {n : Nd} (h : nd? L t = some n) : gN L t = n := by simp [gN,h]
theorem gN_nat {L : List Nd} {k : Nat} {n : Nd} (h : L[k]? = some n) : gN L k = n := gN_of (by rw [nd?_nat]; exact h)
theorem gN_none {L : List Nd} {t : Int} (h : ¬ (0 ≤ t ∧ t < L.length)) : gN L t = noN := by
  have := nd?_isSome L t
  rw [decide_eq_false h] at this
  simp only [Option.isSome_eq_false_iff,Option.isNone_iff_eq_none] at this
  simp [gN,this]
theorem upN_g (L : List Nd) (j : Int) : upN L j = if (gN L j).kind = 6 then j - 1 else (gN L j).parent := by
  unfold upN gN
  cases nd? L j <;> simp [noN,zN]
structure Gd (L : List Nd) : Prop where
  kid : ∀ t j,j ∈ (gN L t).kids ↔ 0 ≤ t ∧ (gN L j).parent = t
  nd : ∀ t,(gN L t).kids.Nodup
  low : ∀ j,-1 ≤ (gN L j).parent
  knd : ∀ j,0 ≤ (gN L j).parent → kidK (gN L j).kind = true
  way : ∀ j : Int,j < L.length → ∃ k,dn L.length (upN L) k j = true
  doc : (gN L 0).kind = 1
  one : ∀ j,(gN L j).kind = 1 → j = 0
theorem gN_modify {L : List Nd} {p : Nat} (hp : p < L.length) (f : Nd → Nd) (t : Int) : gN (L.modify p f) t = if t = p then f (gN L t) else gN L t := by
  by_cases h0 : 0 ≤ t
  · obtain ⟨k, rfl⟩ : ∃ k : Nat, t = k := ⟨t.toNat, by omega⟩
    unfold gN
    rw [nd?_nat,nd?_nat,List.getElem?_modify]
    by_cases e : p = k
    · subst e
      rw [List.getElem?_eq_getElem hp]; simp
    · have e' : ¬ (k : Int) = (p : Int) := by omega
      simp [e,e']
  · rw [gN_none (by omega),gN_none (by omega),if_neg (by omega)]
theorem Gd.range {L : List Nd} (h : Gd L) {j : Int} (hp : 0 ≤ (gN L j).parent) : (0 ≤ j ∧ j < L.length) ∧ (gN L j).parent < L.length := by
  have hm := (h.kid _ j).2 ⟨hp,rfl⟩
  refine ⟨?_,?_⟩
  · by_cases hj : 0 ≤ j ∧ j < L.length
    · exact hj
    · rw [gN_none hj] at hp; simp [noN] at hp
  · by_cases hj : (gN L j).parent < L.length
    · exact hj
    · rw [gN_none (t := (gN L j).parent) (by omega)] at hm; simp [noN,zN] at hm
theorem freeN_len (L : List Nd) (i : Nat) : (freeN L i).length = L.length := by
  unfold freeN
  split
  · rfl
  · split <;> simp
theorem hangN_len (L : List Nd) (p : Nat) (r : Int) (i : Nat) : (hangN L p r i).length = L.length := by
  unfold hangN; simp [freeN_len]
theorem gN_free {L : List Nd} (h : Gd L) {i : Nat} (hi : i < L.length) (t : Int) :
    gN (freeN L i) t = { gN L t with kids := (gN L t).kids.erase i,parent := if t = i then -1 else (gN L t).parent } := by
  have hn : L[i]? = some L[i] := List.getElem?_eq_getElem hi
  have hg : gN L i = L[i] := gN_nat hn
  generalize L[i] = n at hn hg
  have hmem : ∀ u,(i : Int) ∈ (gN L u).kids ↔ 0 ≤ u ∧ n.parent = u := fun u => by rw [h.kid u i,hg]
  unfold freeN
  rw [hn]
  simp only
  by_cases h0 : n.parent < 0
  · rw [if_pos h0, List.erase_of_not_mem (fun hm => by have := (hmem t).1 hm; omega)]
    by_cases e : t = i
    · subst e
      have := h.low i
      rw [hg] at this ⊢
      have e1 : n.parent = -1 := by omega
      rw [if_pos rfl,← e1]
    · rw [if_neg e]
  · rw [if_neg h0]
    have hr := (h.range (j := i) (by rw [hg]; omega)).2
    rw [hg] at hr
    rw [gN_modify (by rw [List.length_modify]; exact hi),gN_modify (by omega)]
    have hpt : ((n.parent.toNat : Nat) : Int) = n.parent := by omega
    rw [hpt]
    by_cases e1 : t = n.parent
    · rw [if_pos e1]
      by_cases e2 : t = i
      · rw [if_pos e2,if_pos e2]; rfl
      · rw [if_neg e2,if_neg e2]; rfl
    · rw [if_neg e1, List.erase_of_not_mem (fun hm => e1 (((hmem t).1 hm).2.symm))]
      by_cases e2 : t = i
      · rw [if_pos e2,if_pos e2]; rfl
      · rw [if_neg e2,if_neg e2]
theorem dn_ext {N : Int} {up up' : Int → Int} (hs : ∀ x,up' x = up x) : ∀ (k : Nat) (j : Int),dn N up' k j = dn N up k j := by
  have : up' = up := funext hs
  intro k j; rw [this]
end Go.Vk
end
section
namespace Go.Vk
theorem mem_insB (r x y : Int) : ∀ (l : List Int), y ∈ insB r x l ↔ y = x ∨ y ∈ l
  | [] => by simp [insB]
  | z :: l => by
    unfold insB
    split
    · simp
    · rw [List.mem_cons, mem_insB r x y l, List.mem_cons]
      constructor
      · rintro (h | h | h)
        · exact .inr (.inl h)
        · exact .inl h
        · exact .inr (.inr h)
      · rintro (h | h | h)
        · exact .inr (.inl h)
        · exact .inl h
        · exact .inr (.inr h)
theorem nodup_insB (r x : Int) : ∀ {l : List Int}, l.Nodup → x ∉ l → (insB r x l).Nodup
  | [],_,_ => by simp [insB]
  | z :: l,h,hx => by
    unfold insB
    simp only [List.mem_cons,not_or] at hx
    rw [List.nodup_cons] at h
    split
    · exact List.nodup_cons.2 ⟨by simp [hx.1,hx.2],List.nodup_cons.2 h⟩
    · exact List.nodup_cons.2 ⟨fun hm => by
        rcases (mem_insB r x z l).1 hm with e | e
        · exact hx.1 e.symm
        · exact h.1 e,nodup_insB r x h.2 hx.2⟩
def addK (r x : Int) (l : List Int) : List Int := if r < 0 then l ++ [x] else insB r x l
theorem mem_addK (r x y : Int) (l : List Int) : y ∈ addK r x l ↔ y = x ∨ y ∈ l := by
  unfold addK
  split
  · rw [List.mem_append,List.mem_singleton,Or.comm]
  · exact mem_insB r x y l
theorem nodup_addK (r x : Int) {l : List Int} (h : l.Nodup) (hx : x ∉ l) : (addK r x l).Nodup := by
  unfold addK
  split
  · rw [List.nodup_append]
    exact ⟨h,by simp,fun a ha b hb e => by rw [List.mem_singleton] at hb; subst hb; subst e; exact hx ha⟩
  · exact nodup_insB r x h hx
theorem gN_hang {L : List Nd} (h : Gd L) {i p : Nat} (hi : i < L.length) (hp : p < L.length) (r : Int) (t : Int) :
    gN (hangN L p r i) t = { gN L t with kids := if t = p then addK r i ((gN L t).kids.erase i) else (gN L t).kids.erase i,parent := if t = i then (p : Int) else (gN L t).parent } := by
  unfold hangN
  rw [gN_modify (by rw [List.length_modify,freeN_len]; exact hi),gN_modify (by rw [freeN_len]; exact hp),gN_free h hi]
  by_cases e1 : t = i
  · rw [if_pos e1, if_pos e1, if_pos e1]
    by_cases e2 : t = p
    · rw [if_pos e2,if_pos e2]; rfl
    · rw [if_neg e2,if_neg e2]; rfl
  · rw [if_neg e1, if_neg e1, if_neg e1]
    by_cases e2 : t = p
    · rw [if_pos e2,if_pos e2]; rfl
    · rw [if_neg e2,if_neg e2]
theorem Gd.hang {L : List Nd} (h : Gd L) {i p : Nat} (hi : i < L.length) (hp : p < L.length) (hk : kidK (gN L i).kind = true) {k : Nat} (hd : dn L.length (upN L) k p = true) (ha : ab (upN L) i k p = false) (r : Int) : Gd (hangN L p r i) := by
  have hg := gN_hang h hi hp r
  have hl := hangN_len L p r i
  have h6 : ¬ (gN L i).kind = 6 := fun e => by rw [e] at hk; simp [kidK] at hk
  have hup : ∀ x,x ≠ (i : Int) → upN (hangN L p r i) x = upN L x := fun x hx => by
    rw [upN_g,upN_g,hg]; simp [hx]
  have hupi : upN (hangN L p r i) i = p := by
    rw [upN_g,hg]; simp [h6]
  have hni : ∀ t,(i : Int) ∉ (gN L t).kids.erase i := fun t hm => ((h.nd t).mem_erase_iff.1 hm).1 rfl
  refine ⟨fun t j => ?_,fun t => ?_,fun j => ?_,fun j => ?_,fun j hj => ?_,?_,fun j => ?_⟩
  · rw [hg t, hg j]
    simp only
    by_cases e : j = i
    · subst e
      rw [if_pos rfl]
      by_cases et : t = p
      · rw [if_pos et, mem_addK]
        exact ⟨fun _ => ⟨by omega,et.symm⟩,fun _ => .inl rfl⟩
      · rw [if_neg et]
        exact ⟨fun hm => absurd hm (hni t),fun hm => absurd hm.2.symm et⟩
    · rw [if_neg e]
      have key : j ∈ (gN L t).kids.erase i ↔ 0 ≤ t ∧ (gN L j).parent = t := by
        rw [(h.nd t).mem_erase_iff,h.kid t j]
        exact ⟨fun hm => hm.2,fun hm => ⟨e,hm⟩⟩
      by_cases et : t = p
      · rw [if_pos et, mem_addK, key]
        exact ⟨fun hm => hm.resolve_left e,.inr⟩
      · rw [if_neg et,key]
  · rw [hg t]; simp only
    split
    · exact nodup_addK _ _ ((h.nd t).erase _) (hni t)
    · exact (h.nd t).erase _
  · rw [hg j]; simp only; split
    · omega
    · exact h.low j
  · rw [hg j]; simp only
    split
    · rename_i e; intro _; rw [e]; exact hk
    · exact h.knd j
  · rw [hl] at hj ⊢
    obtain ⟨m,hm⟩ := h.way j hj
    exact dn_cut (i := i) hup (m := k) (by rw [hupi]; exact (dn_same hup ha).2 hd) hm
  · rw [hg]; exact h.doc
  · rw [hg]; exact h.one j
theorem Gd.few {L : List Nd} (h : Gd L) (t : Int) : (gN L t).kids.length ≤ L.length := by
  have hr : ∀ j ∈ (gN L t).kids,0 ≤ j ∧ j < L.length := fun j hj => by
    have := (h.kid t j).1 hj
    exact (h.range (j := j) (by omega)).1
  have hn := h.nd t
  generalize (gN L t).kids = l at hr hn
  generalize L.length = n at hr
  induction n generalizing l with
  | zero =>
    cases l with
    | nil => simp
    | cons a r => have := hr a (by simp); omega
  | succ n ih =>
    have := ih (l.erase (n : Int)) (hn.erase _) (fun j hj => by
      have := hn.mem_erase_iff.1 hj
      have := hr j this.2
      omega)
    have h2 : l.length ≤ (l.erase (n : Int)).length + 1 := by
      rw [List.length_erase]; split <;> omega
    omega
end Go.Vk
end
section
namespace Go.Vk
def aboveN (L : List Nd) (i j : Int) : Bool := aboveF L i L.length j
theorem Gd.down {L : List Nd} (h : Gd L) {j : Int} (hj : j < L.length) : dn L.length (upN L) L.length j = true := by
  obtain ⟨k,hk⟩ := h.way j hj
  exact dn_len hk
theorem gN_some {L : List Nd} {i : Nat} (h : i < L.length) : L[i]? = some (gN L i) := by
  have := List.getElem?_eq_getElem h
  rw [gN_nat this]; exact this
theorem holdsN_g {L : List Nd} {p : Int} : holdsN L p = holdK (gN L p).kind := by
  unfold holdsN gN; cases nd? L p <;> simp [noN,zN,holdK]
theorem hangsN_g {L : List Nd} {p : Int} : hangsN L p = kidK (gN L p).kind := by
  unfold hangsN gN; cases nd? L p <;> simp [noN,zN,kidK]
theorem holds_in {L : List Nd} {p : Int} (h : holdsN L p = true) : ∃ k : Nat,p = k ∧ k < L.length := by
  by_cases hp : 0 ≤ p ∧ p < L.length
  · exact ⟨p.toNat,by omega,by omega⟩
  · rw [holdsN_g,gN_none hp] at h; simp [noN,zN,holdK] at h
theorem hangs_in {L : List Nd} {p : Int} (h : hangsN L p = true) : ∃ k : Nat,p = k ∧ k < L.length := by
  by_cases hp : 0 ≤ p ∧ p < L.length
  · exact ⟨p.toNat,by omega,by omega⟩
  · rw [hangsN_g,gN_none hp] at h; simp [noN,zN,kidK] at h
theorem not_above {L : List Nd} {i : Int} {p : Nat} (hp : p < L.length) (h : aboveN L i p = false) : (p : Int) ≠ i := by
  intro e
  unfold aboveN at h
  cases hl : L.length with
  | zero => omega
  | succ n => rw [hl] at h; simp [aboveF,e,show ¬ i < 0 by omega] at h
def appendN (L : List Nd) (p i : Int) : List Nd × Int := if holdsN L p = true ∧ hangsN L i = true ∧ aboveN L i p = false then (hangN L p.toNat (-1) i.toNat,0) else (L,2)
theorem Gd.ne {L : List Nd} (h : Gd L) : L ≠ [] := by
  intro e; subst e
  have := h.doc; simp [gN,nd?,noN,zN] at this
theorem Gd.self {L : List Nd} (h : Gd L) (j : Int) (h0 : 0 ≤ j) : (gN L j).parent ≠ j := by
  intro e
  have hr := (h.range (j := j) (by omega)).1
  have hk := h.knd j (by omega)
  have h6 : ¬ (gN L j).kind = 6 := fun e => by rw [e] at hk; simp [kidK] at hk
  have hu : upN L j = j := by rw [upN_g,if_neg h6,e]
  obtain ⟨k,hk⟩ := h.way j hr.2
  induction k with
  | zero => simp [dn] at hk; omega
  | succ k ih =>
    have := (dn_step hk h0).2
    rw [hu] at this
    exact ih this
theorem Gd.par {L : List Nd} (h : Gd L) {i : Nat} (hi : i < L.length) : 0 ≤ (gN L i).parent → ∃ q,nd? L (gN L i).parent = some q ∧ (i : Int) ∈ q.kids ∧ q.kids.length ≤ L.length ∧ (gN L i).parent ≠ i := by
  intro hp
  have hr := (h.range hp).2
  obtain ⟨k,hk⟩ : ∃ k : Nat,(gN L i).parent = k := ⟨(gN L i).parent.toNat,by omega⟩
  refine ⟨gN L k,?_,?_,h.few _,h.self i (by omega)⟩
  · rw [hk,nd?_nat]; exact gN_some (by omega)
  · exact (h.kid k i).2 ⟨by omega,hk⟩
end Go.Vk
namespace Go.Proofs.YtgnnlaeikcnhcaaGreatDoor
open Go.Vk
set_option maxHeartbeats 40000000
theorem hang_g {pa : Nat} {L : List Nd} {F : Nat → Prop} {w : World} (h : Ar w pa L F) (hG : Gd L) (hb : L.length < 1000000) {i p : Nat} {r : Int} (hi : i < L.length) (hp : p < L.length) (hpi : p ≠ i) (hr : 0 ≤ r → r ≠ i ∧ (gN L r).parent = p) :
    Gives Tryz.prog 158 #[.pointer (some ⟨pa,0,none⟩),.int .i64 p,.int .i64 r,.int .i64 i] w fun v w' => v = .tuple #[] ∧ Ar w' pa (hangN L p r i) (fun b => F b ∨ w.heap.size ≤ b) ∧ Upd F w w' := by
  have hl := freeN_len L i
  have hq := gN_some (L := freeN L i) (i := p) (by omega)
  have e : (gN (freeN L i) p).kids = (gN L p).kids.erase i := by rw [gN_free hG hi]
  refine hang_c h hb (gN_some hi) (fun hp => by
    obtain ⟨q,h1,h2,h3,h4⟩ := hG.par hi hp
    exact ⟨q,h1,h2,by omega,h4⟩) hq ?_ ?_ hpi (by omega) hl
  · rw [e, List.length_erase]
    have := hG.few p
    split <;> omega
  · intro h0
    obtain ⟨h1,h2⟩ := hr h0
    rw [e,(hG.nd p).mem_erase_iff]
    exact ⟨h1,(hG.kid p r).2 ⟨by omega,h2⟩⟩
theorem append_c {pa : Nat} {L : List Nd} {F : Nat → Prop} {w : World} (h : Ar w pa L F) (hG : Gd L) (hb : L.length < 1000000) (p i : Int) :
    Gives Tryz.prog 132 #[.pointer (some ⟨pa,0,none⟩),.int .i64 p,.int .i64 i] w fun v w' => v = .int .i64 (appendN L p i).2 ∧ Ar w' pa (appendN L p i).1 (fun b => F b ∨ w.heap.size ≤ b) ∧ Upd F w w' := by
  have no : Ar w pa L (fun b => F b ∨ w.heap.size ≤ b) ∧ Upd F w w := ⟨h.mono fun b _ hb => .inl hb,Upd.refl _ _⟩
  by_cases h1 : holdsN L p = true
  · obtain ⟨p, rfl, hp⟩ := holds_in h1
    by_cases h2 : hangsN L i = true
    · obtain ⟨i, rfl, hi⟩ := hangs_in h2
      have hab := above_c h hb i p L.length (by rw [downN_dn]; exact hG.down (by omega))
      cases h3 : aboveN L i p with
      | true =>
        have e : appendN L p i = (L,2) := if_neg (by simp [h3])
        rw [e]
        rw [show aboveF L i L.length p = true from h3] at hab
        refine Gives.of_W Tryz.call132 Tryz.func132 rfl Tryz.ntmps132 (by simp) ?_; intro Z hZ
        (repeat revert hK K);refine W0 ?_;repeat with_reducible intro K hK
        refine (none_c h hG.ne).mono ?_
        rintro v w' ⟨rfl,rfl⟩
        (repeat revert hK K);refine W0 ?_;repeat with_reducible intro K hK
        refine (holds_c _ h).mono ?_
        rintro v w' ⟨rfl,rfl⟩
        (repeat revert hK K);refine W1 @h1 ?_;repeat with_reducible intro K hK
        refine (hangs_c _ h).mono ?_
        rintro v w' ⟨rfl,rfl⟩
        (repeat revert hK K);refine W1 @h2 ?_;repeat with_reducible intro K hK
        refine hab.mono ?_
        rintro v w' ⟨rfl,rfl⟩
        (repeat revert hK K);refine W0 ?_;repeat with_reducible intro K hK
        exact no
      | false =>
        have e : appendN L p i = (hangN L p (-1) i,0) := if_pos ⟨h1,h2,h3⟩
        rw [e]
        rw [show aboveF L i L.length p = false from h3] at hab
        refine Gives.of_W Tryz.call132 Tryz.func132 rfl Tryz.ntmps132 (by simp) ?_; intro Z hZ
        (repeat revert hK K);refine W0 ?_;repeat with_reducible intro K hK
        refine (none_c h hG.ne).mono ?_
        rintro v w' ⟨rfl,rfl⟩
        (repeat revert hK K);refine W0 ?_;repeat with_reducible intro K hK
        refine (holds_c _ h).mono ?_
        rintro v w' ⟨rfl,rfl⟩
        (repeat revert hK K);refine W1 @h1 ?_;repeat with_reducible intro K hK
        refine (hangs_c _ h).mono ?_
        rintro v w' ⟨rfl,rfl⟩
        (repeat revert hK K);refine W1 @h2 ?_;repeat with_reducible intro K hK
        refine hab.mono ?_
        rintro v w' ⟨rfl,rfl⟩
        (repeat revert hK K);refine W0 ?_;repeat with_reducible intro K hK
        have hne := not_above hp h3
        refine (hang_g h hG hb (i := i) (p := p) (r := -1) hi hp (by omega) (by omega)).mono ?_
        rintro v w' ⟨rfl,h1,h2⟩
        (repeat revert hK K);refine W0 ?_;repeat with_reducible intro K hK
        exact ⟨h1,h2⟩
    · have e : appendN L p i = (L, 2) := if_neg (by simp [h2])
      rw [e]
      replace h2 : hangsN L i = false := by simpa using h2
      refine Gives.of_W Tryz.call132 Tryz.func132 rfl Tryz.ntmps132 (by simp) ?_; intro Z hZ
      (repeat revert hK K);refine W0 ?_;repeat with_reducible intro K hK
      refine (none_c h hG.ne).mono ?_
      rintro v w' ⟨rfl,rfl⟩
      (repeat revert hK K);refine W0 ?_;repeat with_reducible intro K hK
      refine (holds_c _ h).mono ?_
      rintro v w' ⟨rfl,rfl⟩
      (repeat revert hK K);refine W1 @h1 ?_;repeat with_reducible intro K hK
      refine (hangs_c _ h).mono ?_
      rintro v w' ⟨rfl,rfl⟩
      (repeat revert hK K);refine W1 @h2 ?_;repeat with_reducible intro K hK
      exact no
  · have e : appendN L p i = (L, 2) := if_neg (by simp [h1])
    rw [e]
    replace h1 : holdsN L p = false := by simpa using h1
    refine Gives.of_W Tryz.call132 Tryz.func132 rfl Tryz.ntmps132 (by simp) ?_; intro Z hZ
    (repeat revert hK K);refine W0 ?_;repeat with_reducible intro K hK
    refine (none_c h hG.ne).mono ?_
    rintro v w' ⟨rfl,rfl⟩
    (repeat revert hK K);refine W0 ?_;repeat with_reducible intro K hK
    refine (holds_c _ h).mono ?_
    rintro v w' ⟨rfl,rfl⟩
    (repeat revert hK K);refine W1 @h1 ?_;repeat with_reducible intro K hK
    exact no
theorem append_gd {L : List Nd} (h : Gd L) (p i : Int) : Gd (appendN L p i).1 := by
  unfold appendN
  split
  · rename_i hh
    obtain ⟨h1,h2,h3⟩ := hh
    obtain ⟨p,rfl,hp⟩ := holds_in h1
    obtain ⟨i,rfl,hi⟩ := hangs_in h2
    refine h.hang (i := i) (p := p) hi hp (by rw [← hangsN_g]; exact h2) (h.down (by omega)) ?_ _
    rw [← aboveF_ab]; exact h3
  · exact h
end Go.Proofs.YtgnnlaeikcnhcaaGreatDoor
end
section
namespace Go.Vk
theorem dn_more {N N' : Int} {up up' : Int → Int} (hN : N ≤ N') (hs : ∀ x, 0 ≤ x → x < N → up' x = up x) : ∀ {k : Nat} {j : Int}, dn N up k j = true → dn N' up' k j = true
  | 0,j,h => by simpa [dn] using h
  | k + 1,j,h => by
    rw [dn] at h ⊢
    simp only [Bool.or_eq_true,Bool.and_eq_true,decide_eq_true_eq] at h ⊢
    by_cases h0 : j < 0
    · exact .inl h0
    · rcases h with h | h
      · exact absurd h h0
      · exact .inr ⟨by omega,by rw [hs j (by omega) h.1]; exact dn_more hN hs h.2⟩
theorem gN_push (L : List Nd) (n : Nd) (t : Int) : gN (L ++ [n]) t = if t = L.length then n else gN L t := by
  by_cases h0 : 0 ≤ t ∧ t < (L.length : Int) + 1
  · obtain ⟨k, rfl⟩ : ∃ k : Nat, t = k := ⟨t.toNat, by omega⟩
    unfold gN
    rw [nd?_nat,nd?_nat]
    by_cases e : k = L.length
    · subst e; simp
    · rw [List.getElem?_append_left (by omega),if_neg (by omega)]
  · rw [if_neg (by omega),gN_none (by simp; omega),gN_none (by omega)]
theorem Gd.push {L : List Nd} (h : Gd L) {n : Nd} (hp : n.parent = -1) (hk : n.kids = []) (h1 : n.kind ≠ 1) : Gd (L ++ [n]) := by
  have hg := gN_push L n
  have hne := h.ne
  have hpos : 0 < L.length := List.length_pos_iff.2 hne
  have hgl : gN L L.length = noN := gN_none (by omega)
  have hlen : (L ++ [n]).length = L.length + 1 := by simp
  refine ⟨fun t j => ?_,fun t => ?_,fun j => ?_,fun j => ?_,fun j hj => ?_,?_,fun j => ?_⟩
  · rw [hg t, hg j]
    by_cases et : t = L.length
    · rw [if_pos et, hk]
      refine ⟨fun hm => by simp at hm,fun ⟨h0,hm⟩ => ?_⟩
      by_cases ej : j = L.length
      · rw [if_pos ej,hp] at hm; omega
      · rw [if_neg ej] at hm
        have := (h.range (j := j) (by omega)).2
        omega
    · rw [if_neg et]
      by_cases ej : j = L.length
      · rw [if_pos ej, hp, h.kid t j, ej, hgl]
        exact ⟨fun ⟨a,b⟩ => by simp [noN] at b; omega,fun ⟨a,b⟩ => by omega⟩
      · rw [if_neg ej]; exact h.kid t j
  · rw [hg t]; split
    · rw [hk]; exact List.nodup_nil
    · exact h.nd t
  · rw [hg j]; split
    · omega
    · exact h.low j
  · rw [hg j]; split
    · intro; omega
    · exact h.knd j
  · have hup : ∀ x,0 ≤ x → x < (L.length : Int) → upN (L ++ [n]) x = upN L x := fun x _ hx => by
      have hx' : gN (L ++ [n]) x = gN L x := by rw [hg,if_neg (by omega)]
      rw [upN_g,upN_g,hx']
    have hold : ∀ j : Int,j < L.length → ∃ k,dn (L ++ [n]).length (upN (L ++ [n])) k j = true := fun j hj => by
      obtain ⟨k,hk⟩ := h.way j hj
      exact ⟨k,dn_more (by rw [hlen]; omega) hup hk⟩
    by_cases ej : j = L.length
    · have hu : upN (L ++ [n]) j = if n.kind = 6 then j - 1 else n.parent := by rw [upN_g, hg, if_pos ej]
      obtain ⟨k,hk⟩ := hold (upN (L ++ [n]) j) (by rw [hu]; split <;> omega)
      refine ⟨k + 1,?_⟩
      rw [dn]
      simp only [Bool.or_eq_true,Bool.and_eq_true,decide_eq_true_eq]
      exact .inr ⟨hj,hk⟩
    · exact hold j (by rw [hlen] at hj; omega)
  · rw [hg,if_neg (by omega)]; exact h.doc
  · rw [hg]; split
    · intro hh; exact absurd hh h1
    · exact h.one j
theorem Gd.same {L L' : List Nd} (h : Gd L) (hl : L'.length = L.length) (hs : ∀ t,(gN L' t).kind = (gN L t).kind ∧ (gN L' t).parent = (gN L t).parent ∧ (gN L' t).kids = (gN L t).kids) : Gd L' := by
  have hup : ∀ x,upN L' x = upN L x := fun x => by rw [upN_g,upN_g,(hs x).1,(hs x).2.1]
  refine ⟨fun t j => ?_,fun t => ?_,fun j => ?_,fun j => ?_,fun j hj => ?_,?_,fun j => ?_⟩
  · rw [(hs t).2.2,(hs j).2.1]; exact h.kid t j
  · rw [(hs t).2.2]; exact h.nd t
  · rw [(hs j).2.1]; exact h.low j
  · rw [(hs j).2.1,(hs j).1]; exact h.knd j
  · rw [hl] at hj ⊢
    obtain ⟨k,hk⟩ := h.way j hj
    exact ⟨k,by rw [dn_ext hup]; exact hk⟩
  · rw [(hs 0).1]; exact h.doc
  · rw [(hs j).1]; exact h.one j
theorem docN_gd : Gd [docN] := by
  have hg : ∀ t : Int,gN [docN] t = if t = 0 then docN else noN := fun t => by
    by_cases e : t = 0
    · subst e; rfl
    · rw [if_neg e,gN_none (by simp; omega)]
  refine ⟨fun t j => ?_,fun t => ?_,fun j => ?_,fun j => ?_,fun j hj => ?_,?_,fun j => ?_⟩
  · rw [hg t,hg j]; split <;> split <;> simp [docN,noN,zN] <;> omega
  · rw [hg t]; split <;> simp [docN,noN,zN]
  · rw [hg j]; split <;> simp [docN,noN,zN]
  · rw [hg j]; split <;> simp [docN,noN,zN]
  · refine ⟨1, ?_⟩
    simp only [List.length_singleton] at hj ⊢
    have : upN [docN] j < 0 := by
      rw [upN_g,hg]; split <;> simp [docN,noN,zN]
    simp [dn,this]; omega
  · rw [hg]; rfl
  · rw [hg]; split
    · intro _; assumption
    · intro hh; simp [noN,zN] at hh
end Go.Vk
end
section
namespace Go.Vk
theorem kidK_one {k : Int} (h : kidK k = true) : k ≠ 1 := fun e => by subst e; simp [kidK] at h
theorem add_gd {L : List Nd} (h : Gd L) (n : Nd) : Gd (addN L n).1 := by
  unfold addN
  split
  · next hk =>
    have h1 := kidK_one hk
    split
    · have := (h.push (n := { bareN n with content := (L.length : Int) + 1 }) rfl rfl h1).push (n := contN) rfl rfl (by decide)
      simpa using this
    · exact h.push (n := bareN n) rfl rfl h1
  · exact h
def addText (s : ByteArray) (n : Nd) : Nd := { n with text := n.text ++ s }
def textNd (s : ByteArray) : Nd := { zN with kind := 4,text := s,parent := -1,frm := -1,to := -1 }
def atK (r : Int) (ks : List Int) : Int := if r < 0 then (ks.length : Int) else idxF r ks 0
def textN (L : List Nd) (p r : Int) (s : ByteArray) : List Nd × Int :=
  if holdsN L p = true ∧ (r = -1 ∨ ((0 ≤ r ∧ r < L.length) ∧ (gN L r).parent = p)) then
    if s = ⟨#[]⟩ then (L, 0) else
      if 0 < atK r (gN L p).kids ∧ (gN L (((gN L p).kids[(atK r (gN L p).kids - 1).toNat]?).getD 0)).kind = 4 then
        (L.modify (((gN L p).kids[(atK r (gN L p).kids - 1).toNat]?).getD 0).toNat (addText s),0)
      else (hangN (L ++ [textNd s]) p.toNat r L.length,0)
  else (L,2)
theorem Gd.modify {L : List Nd} (h : Gd L) {i : Nat} {f : Nd → Nd} (hf : ∀ n,(f n).kind = n.kind ∧ (f n).parent = n.parent ∧ (f n).kids = n.kids) : Gd (L.modify i f) := by
  by_cases hi : i < L.length
  · refine h.same (by simp) fun t => ?_
    rw [gN_modify hi]
    split
    · exact hf _
    · exact ⟨rfl,rfl,rfl⟩
  · rw [List.modify_eq_self (by omega)]; exact h
theorem Gd.new_free {L : List Nd} (h : Gd L) {n : Nd} (hp : n.parent = -1) (hk : n.kids = []) (hkk : kidK n.kind = true) {p : Nat} (hpl : p < L.length) (r : Int) : Gd (hangN (L ++ [n]) p r L.length) := by
  have hpush := h.push hp hk (kidK_one hkk)
  have hlen : (L ++ [n]).length = L.length + 1 := by simp
  have hd := h.down (j := (p : Int)) (by omega)
  have hup : ∀ x,0 ≤ x → x < (L.length : Int) → upN (L ++ [n]) x = upN L x := fun x _ hx => by
    have hx' : gN (L ++ [n]) x = gN L x := by rw [gN_push,if_neg (by omega)]
    rw [upN_g,upN_g,hx']
  have key : ∀ (k : Nat) (j : Int),dn L.length (upN L) k j = true → ab (upN (L ++ [n])) L.length k j = false := by
    intro k
    induction k with
    | zero => intro j _; rfl
    | succ k ih =>
      intro j hj
      rw [ab]
      by_cases h0 : j < 0
      · rw [if_pos h0]
      · obtain ⟨a, b⟩ := dn_step hj (by omega)
        rw [if_neg h0,hup j (by omega) a,ih _ b]
        simp; omega
  refine hpush.hang (i := L.length) (p := p) (by omega) (by omega) (by rw [gN_push,if_pos rfl]; exact hkk) (k := L.length) ?_ (key _ _ hd) r
  exact dn_more (by rw [hlen]; omega) hup hd
theorem text_gd {L : List Nd} (h : Gd L) (p r : Int) (s : ByteArray) : Gd (textN L p r s).1 := by
  unfold textN
  split
  · next hh =>
    split
    · exact h
    · split
      · exact h.modify fun n => ⟨rfl,rfl,rfl⟩
      · obtain ⟨k, rfl, hk⟩ := holds_in hh.1
        exact h.new_free rfl rfl rfl hk r
  · exact h
theorem text_len (L : List Nd) (p r : Int) (s : ByteArray) : (textN L p r s).1.length ≤ L.length + 1 := by
  unfold textN
  split
  · split
    · simp
    · split
      · simp
      · simp [hangN_len]
  · simp
def more1 (cs : List (ByteArray × ByteArray)) (x : ByteArray × ByteArray) : List (ByteArray × ByteArray) := if cs.any (fun y => decide (y.1 = x.1)) = true then cs else cs ++ [x]
def moreA (cs xs : List (ByteArray × ByteArray)) : List (ByteArray × ByteArray) := xs.foldl more1 cs
def setAttrs (cs : List (ByteArray × ByteArray)) (n : Nd) : Nd := { n with attrs := cs }
def moreN (L : List Nd) (i : Int) (xs : List (ByteArray × ByteArray)) : List Nd × Int :=
  if (0 ≤ i ∧ i < L.length) ∧ (gN L i).kind = 3 then (L.modify i.toNat fun n => setAttrs (moreA n.attrs xs) n,0) else (L,2)
theorem more_len (L : List Nd) (i : Int) (xs : List (ByteArray × ByteArray)) : (moreN L i xs).1.length = L.length := by
  unfold moreN
  split <;> simp
end Go.Vk
end
section
namespace Go.Vk
def beforeN (L : List Nd) (i ref : Int) : List Nd × Int :=
  if hangsN L i = true ∧ (0 ≤ ref ∧ ref < L.length) ∧ 0 ≤ (gN L ref).parent ∧ aboveN L i ref = false then (hangN L (gN L ref).parent.toNat ref i.toNat,0) else (L,2)
theorem Gd.up_free {L : List Nd} (h : Gd L) {i : Int} {r p : Nat} (hr : r < L.length) (hp : (gN L r).parent = p) (ha : aboveN L i r = false) :
    (r : Int) ≠ i ∧ (p : Int) ≠ i ∧ p < L.length ∧ p ≠ r ∧ ∃ k,dn L.length (upN L) k p = true ∧ ab (upN L) i k p = false := by
  have hpl := (h.range (j := r) (by omega)).2
  have hs := h.self r (by omega)
  have hk := h.knd r (by omega)
  have h6 : ¬ (gN L r).kind = 6 := fun e => by rw [e] at hk; simp [kidK] at hk
  have hu : upN L r = p := by rw [upN_g,if_neg h6,hp]
  unfold aboveN at ha
  rw [aboveF_ab] at ha
  have hd := h.down (j := r) (by omega)
  obtain ⟨n,hn⟩ : ∃ n,L.length = n + 2 := ⟨L.length - 2,by omega⟩
  generalize hN : (L.length : Int) = N at *
  rw [hn] at ha hd
  simp only [ab,show ¬ (r : Int) < 0 by omega,if_false,Bool.or_eq_false_iff,decide_eq_false_iff_not,hu,show ¬ (p : Int) < 0 by omega] at ha
  obtain ⟨h1,h2⟩ := dn_step hd (by omega)
  rw [hu] at h2
  refine ⟨ha.1,ha.2.1,by omega,by omega,n + 1,h2,?_⟩
  simp only [ab,show ¬ (p : Int) < 0 by omega,if_false,Bool.or_eq_false_iff,decide_eq_false_iff_not]
  exact ha.2
end Go.Vk
namespace Go.Proofs.YtgnnlaeikcnhcaaGreatDoor
open Go.Vk
set_option maxHeartbeats 40000000
theorem before_c {pa : Nat} {L : List Nd} {F : Nat → Prop} {w : World} (h : Ar w pa L F) (hG : Gd L) (hb : L.length < 1000000) (i r : Int) :
    Gives Tryz.prog 131 #[.pointer (some ⟨pa,0,none⟩),.int .i64 i,.int .i64 r] w fun v w' => v = .int .i64 (beforeN L i r).2 ∧ Ar w' pa (beforeN L i r).1 (fun b => F b ∨ w.heap.size ≤ b) ∧ Upd F w w' := by
  have no : Ar w pa L (fun b => F b ∨ w.heap.size ≤ b) ∧ Upd F w w := ⟨h.mono fun b _ hb => .inl hb,Upd.refl _ _⟩
  have hne := hG.ne
  by_cases h1 : hangsN L i = true
  · obtain ⟨i, rfl, hi⟩ := hangs_in h1
    by_cases h2 : 0 ≤ r ∧ r < L.length
    · obtain ⟨r, rfl⟩ : ∃ k : Nat, r = k := ⟨r.toNat, by omega⟩
      have hrl : r < L.length := by omega
      obtain ⟨bn,cap,M,m,hM,hML,hF,hm,hmn,hl⟩ := h.at (gN_some hrl)
      have hh := hM.head
      have c6 := hM.cell hm (j := 6) (by decide)
      simp only [Laid.cells,List.getElem?_cons_zero,List.getElem?_cons_succ,hmn] at c6
      have hi1 : (0 : Int) ≤ r := by omega
      have hi2 : (r : Int) < M.length := by omega
      by_cases h3 : (gN L r).parent < 0
      · have e : beforeN L i r = (L, 2) := if_neg (by omega)
        rw [e]
        refine Gives.of_W Tryz.call131 Tryz.func131 rfl Tryz.ntmps131 (by simp) ?_; intro Z hZ
        (repeat revert hK K);refine W0 ?_;repeat with_reducible intro K hK
        refine (none_c h hne).mono ?_
        rintro v w' ⟨rfl,rfl⟩
        (repeat revert hK K);refine W0 ?_;repeat with_reducible intro K hK
        refine (hangs_c _ h).mono ?_
        rintro v w' ⟨rfl,rfl⟩
        (repeat revert hK K);refine W1 @h1 ?_;repeat with_reducible intro K hK
        refine (has_c _ h).mono ?_
        rintro v w' ⟨rfl,rfl⟩
        (repeat revert hK K);refine W6 @h2 @hh @hi1 @hi2 @c6 @h3 ?_;repeat with_reducible intro K hK
        exact no
      · have hab := above_c h hb i r L.length (by rw [downN_dn]; exact hG.down (by omega))
        cases h4 : aboveN L i r with
        | true =>
          have e : beforeN L i r = (L,2) := if_neg (by simp [h4])
          rw [e]
          rw [show aboveF L i L.length r = true from h4] at hab
          refine Gives.of_W Tryz.call131 Tryz.func131 rfl Tryz.ntmps131 (by simp) ?_; intro Z hZ
          (repeat revert hK K);refine W0 ?_;repeat with_reducible intro K hK
          refine (none_c h hne).mono ?_
          rintro v w' ⟨rfl,rfl⟩
          (repeat revert hK K);refine W0 ?_;repeat with_reducible intro K hK
          refine (hangs_c _ h).mono ?_
          rintro v w' ⟨rfl,rfl⟩
          (repeat revert hK K);refine W1 @h1 ?_;repeat with_reducible intro K hK
          refine (has_c _ h).mono ?_
          rintro v w' ⟨rfl,rfl⟩
          (repeat revert hK K);refine W6 @h2 @hh @hi1 @hi2 @c6 @h3 ?_;repeat with_reducible intro K hK
          refine hab.mono ?_
          rintro v w' ⟨rfl,rfl⟩
          (repeat revert hK K);refine W0 ?_;repeat with_reducible intro K hK
          exact no
        | false =>
          have e : beforeN L i r = (hangN L (gN L r).parent.toNat r i,0) := if_pos ⟨h1,h2,by omega,h4⟩
          rw [e]
          obtain ⟨p,hp⟩ : ∃ p : Nat,(gN L r).parent = p := ⟨(gN L r).parent.toNat,by omega⟩
          obtain ⟨u1,u2,u3,u4,_⟩ := hG.up_free hrl hp h4
          have hg := hang_g h hG hb (i := i) (p := p) (r := r) hi u3 (by omega) (fun _ => ⟨u1,hp⟩)
          rw [hp] at c6 h3 ⊢
          rw [Int.toNat_natCast]
          rw [show aboveF L i L.length r = false from h4] at hab
          refine Gives.of_W Tryz.call131 Tryz.func131 rfl Tryz.ntmps131 (by simp) ?_; intro Z hZ
          (repeat revert hK K);refine W0 ?_;repeat with_reducible intro K hK
          refine (none_c h hne).mono ?_
          rintro v w' ⟨rfl,rfl⟩
          (repeat revert hK K);refine W0 ?_;repeat with_reducible intro K hK
          refine (hangs_c _ h).mono ?_
          rintro v w' ⟨rfl,rfl⟩
          (repeat revert hK K);refine W1 @h1 ?_;repeat with_reducible intro K hK
          refine (has_c _ h).mono ?_
          rintro v w' ⟨rfl,rfl⟩
          (repeat revert hK K);refine W6 @h2 @hh @hi1 @hi2 @c6 @h3 ?_;repeat with_reducible intro K hK
          refine hab.mono ?_
          rintro v w' ⟨rfl,rfl⟩
          (repeat revert hK K);refine W4 @hh @hi1 @hi2 @c6 ?_;repeat with_reducible intro K hK
          refine hg.mono ?_
          rintro v w' ⟨rfl,h1,h2⟩
          (repeat revert hK K);refine W0 ?_;repeat with_reducible intro K hK
          exact ⟨h1,h2⟩
    · have e : beforeN L i r = (L, 2) := if_neg (by omega)
      rw [e]
      refine Gives.of_W Tryz.call131 Tryz.func131 rfl Tryz.ntmps131 (by simp) ?_; intro Z hZ
      (repeat revert hK K);refine W0 ?_;repeat with_reducible intro K hK
      refine (none_c h hne).mono ?_
      rintro v w' ⟨rfl,rfl⟩
      (repeat revert hK K);refine W0 ?_;repeat with_reducible intro K hK
      refine (hangs_c _ h).mono ?_
      rintro v w' ⟨rfl,rfl⟩
      (repeat revert hK K);refine W1 @h1 ?_;repeat with_reducible intro K hK
      refine (has_c _ h).mono ?_
      rintro v w' ⟨rfl,rfl⟩
      (repeat revert hK K);refine W1 @h2 ?_;repeat with_reducible intro K hK
      exact no
  · have e : beforeN L i r = (L, 2) := if_neg (by simp [h1])
    rw [e]
    replace h1 : hangsN L i = false := by simpa using h1
    refine Gives.of_W Tryz.call131 Tryz.func131 rfl Tryz.ntmps131 (by simp) ?_; intro Z hZ
    (repeat revert hK K);refine W0 ?_;repeat with_reducible intro K hK
    refine (none_c h hne).mono ?_
    rintro v w' ⟨rfl,rfl⟩
    (repeat revert hK K);refine W0 ?_;repeat with_reducible intro K hK
    refine (hangs_c _ h).mono ?_
    rintro v w' ⟨rfl,rfl⟩
    (repeat revert hK K);refine W1 @h1 ?_;repeat with_reducible intro K hK
    exact no
theorem before_gd {L : List Nd} (h : Gd L) (i r : Int) : Gd (beforeN L i r).1 := by
  unfold beforeN
  split
  · rename_i hh
    obtain ⟨h1,h2,h3,h4⟩ := hh
    obtain ⟨i,rfl,hi⟩ := hangs_in h1
    obtain ⟨r,rfl⟩ : ∃ k : Nat,r = k := ⟨r.toNat,by omega⟩
    obtain ⟨p,hp⟩ : ∃ p : Nat,(gN L r).parent = p := ⟨(gN L r).parent.toNat,by omega⟩
    obtain ⟨u1,u2,u3,u4,k,u5,u6⟩ := h.up_free (by omega) hp h4
    rw [hp,Int.toNat_natCast,Int.toNat_natCast]
    exact h.hang hi u3 (by rw [← hangsN_g]; exact h1) u5 u6 _
  · exact h
end Go.Proofs.YtgnnlaeikcnhcaaGreatDoor
end
section
namespace Go.Vk
end Go.Vk
end
section
namespace Go.Vk
theorem setCells_all {w : World} {b : Nat} {cs : Array Value} {t : TypeId} {f : Nat × Nat} (hb : w.heap[b]? = some (.cells cs t f)) {l : List Value} (hl : cs.size = l.length) : (setCells w ⟨b,0,none⟩ l 0).heap[b]? = some (.cells l.toArray t f) := by
  rw [setCells_same l w b 0 0 cs t f hb]
  congr 2
  apply Array.ext_getElem?
  intro j
  by_cases hj : j < l.length
  · have := ovw_in l cs 0 j hj (by omega)
    simpa using this
  · rw [ovw_out l cs _ j (by omega), Array.getElem?_eq_none (by omega)]
    simp [hj]
end Go.Vk
namespace Go.Proofs.YtgnnlaeikcnhcaaGreatDoor
open Go.Vk
set_option maxHeartbeats 40000000
theorem node_c {pa : Nat} {L : List Nd} {F : Nat → Prop} {w : World} (h : Ar w pa L F) (hb : ∀ n ∈ L,n.kids.length < 1000000 ∧ n.attrs.length < 1000000) (i : Int) :
    Gives Tryz.prog 29 #[.pointer (some ⟨pa,0,none⟩),.int .i64 i] w fun v w' => ∃ m : Laid,v = m.val ∧ m.nd = (nd? L i).getD zN ∧ m.ok w' ∧ Ext w w' ∧ (∀ b ∈ m.blks,w.heap.size ≤ b) ∧ m.blks.Nodup := by
  cases hn : nd? L i with
  | none =>
    refine Gives.of_W Tryz.call29 Tryz.func29 rfl Tryz.ntmps29 (by simp) ?_; intro Z hZ
    (repeat first|(with_reducible first|(refine hK _ _ ?_;clear hK K)|refine ‹∀σ w,_→K σ w› _ _ ?_|(refine W_st ?_;constructor;try intro K hK))|((with_reducible first|refine hZ _ _ ?_|refine W_rg ?_|skip);repeat1' simp only[push_cast,seval,-Nat.reduceSubDiff,cell_h,can_h,cellO_cells,canO_cells,setO_cells,heap_set_h,heap_alloc_h,size_set_h,size_alloc_h,vcells_agg,succ_ne,ne_succ,List.setIfInBounds_toArray,List.set_cons_succ,List.set_cons_zero,setCells,drew_h,RunV_zero Tryz.zeroValue46])|((repeat((fail_if_success with_reducible refine hK _ _ ?_);clear hK K));with_reducible refine hK _ _ ?_;clear hK K))
    refine (has_n i (h.ext (Ext.alloc _ _))).mono ?_
    rintro v w' ⟨rfl,rfl⟩
    rw [hn]
    (repeat first|(with_reducible first|(refine hK _ _ ?_;clear hK K)|refine ‹∀σ w,_→K σ w› _ _ ?_|(refine W_st ?_;constructor;try intro K hK))|((with_reducible first|refine hZ _ _ ?_|refine W_rg ?_|skip);repeat1' simp only[push_cast,seval,-Nat.reduceSubDiff,cell_h,can_h,cellO_cells,canO_cells,setO_cells,heap_set_h,heap_alloc_h,size_set_h,size_alloc_h,vcells_agg,succ_ne,ne_succ,List.setIfInBounds_toArray,List.set_cons_succ,List.set_cons_zero,drew_h])|((repeat((fail_if_success with_reducible refine hK _ _ ?_);clear hK K));with_reducible refine hK _ _ ?_;clear hK K))
    refine build_struct Tryz.zeroValue46 un30 pl30 (cs := #[.int .i64 0,.string ⟨#[]⟩,.string ⟨#[]⟩,.int .i64 0,.slice none 0 0,.bool false,.int .i64 0,.int .i64 0,.slice none 0 0,.int .i64 0,.int .i64 0]) (by rfl) ?_
    (repeat first|(with_reducible first|(refine hK _ _ ?_;clear hK K)|refine ‹∀σ w,_→K σ w› _ _ ?_|(refine W_st ?_;constructor;try intro K hK))|((with_reducible first|refine hZ _ _ ?_|refine W_rg ?_|skip);repeat1' simp only[push_cast,seval,-Nat.reduceSubDiff,cell_h,can_h,cellO_cells,canO_cells,setO_cells,heap_set_h,heap_alloc_h,size_set_h,size_alloc_h,vcells_agg,succ_ne,ne_succ,List.setIfInBounds_toArray,List.set_cons_succ,List.set_cons_zero,drew_h])|((repeat((fail_if_success with_reducible refine hK _ _ ?_);clear hK K));with_reducible refine hK _ _ ?_;clear hK K))
    have hb4 := setCells_all (w := w.alloc (.cells #[.int .i64 0,.string ⟨#[]⟩,.string ⟨#[]⟩,.int .i64 0,.slice none 0 0,.bool false,.int .i64 0,.int .i64 0,.slice none 0 0,.int .i64 0,.int .i64 0] 46)) (b := w.heap.size) (cs := #[.int .i64 0,.string ⟨#[]⟩,.string ⟨#[]⟩,.int .i64 0,.slice none 0 0,.bool false,.int .i64 0,.int .i64 0,.slice none 0 0,.int .i64 0,.int .i64 0]) (t := 46) (f := (0,0)) (by rw [heap_alloc_h,if_pos rfl]) (l := [.int .i64 0,.string ⟨#[]⟩,.string ⟨#[]⟩,.int .i64 0,.slice none 0 0,.bool false,.int .i64 0,.int .i64 0,.slice none 0 0,.int .i64 0,.int .i64 0]) rfl
    (repeat first|(with_reducible first|(refine hK _ _ ?_;clear hK K)|refine ‹∀σ w,_→K σ w› _ _ ?_|(refine W_st ?_;constructor;try intro K hK))|((with_reducible first|refine hZ _ _ ?_|refine W_rg ?_|skip);repeat1' simp only[push_cast,seval,-Nat.reduceSubDiff,cell_h,can_h,cellO_cells,canO_cells,setO_cells,heap_set_h,heap_alloc_h,size_set_h,size_alloc_h,vcells_agg,succ_ne,ne_succ,List.setIfInBounds_toArray,List.set_cons_succ,List.set_cons_zero,drew_h,hb4])|((repeat((fail_if_success with_reducible refine hK _ _ ?_);clear hK K));with_reducible refine hK _ _ ?_;clear hK K))
    refine ⟨⟨zN,.slice none 0 0,.slice none 0 0,none,none⟩,rfl,rfl,⟨SlAt.nil _ _,SlAt.nil _ _⟩,?_,by simp [Laid.blks],by simp [Laid.blks]⟩
    exact Upd.trans (Ext.alloc w _) (Upd.setCells (F := fun b => b = w.heap.size) (a := ⟨w.heap.size,0,none⟩) _ rfl _ 0) fun i hi e => by omega
  | some n =>
    obtain ⟨k,rfl,hk,hkl⟩ := nd?_some hn
    obtain ⟨hb1,hb2⟩ := hb n (List.mem_of_getElem? hk)
    obtain ⟨bn,cap,M,m,hMA,hML,hF,hm,hmn,hl⟩ := h.at hk
    subst hmn
    refine Gives.of_W Tryz.call29 Tryz.func29 rfl Tryz.ntmps29 (by simp) ?_; intro Z hZ
    (repeat first|(with_reducible first|(refine hK _ _ ?_;clear hK K)|refine ‹∀σ w,_→K σ w› _ _ ?_|(refine W_st ?_;constructor;try intro K hK))|((with_reducible first|refine hZ _ _ ?_|refine W_rg ?_|skip);repeat1' simp only[push_cast,seval,-Nat.reduceSubDiff,cell_h,can_h,cellO_cells,canO_cells,setO_cells,heap_set_h,heap_alloc_h,size_set_h,size_alloc_h,vcells_agg,succ_ne,ne_succ,List.setIfInBounds_toArray,List.set_cons_succ,List.set_cons_zero,setCells,drew_h,RunV_zero Tryz.zeroValue46])|((repeat((fail_if_success with_reducible refine hK _ _ ?_);clear hK K));with_reducible refine hK _ _ ?_;clear hK K))
    refine (has_n k (h.ext (Ext.alloc _ _))).mono ?_
    rintro v w' ⟨rfl,rfl⟩
    rw [hn]
    have hM := hMA.frame (Ext.alloc w (.cells #[.int .i64 0,.string ⟨#[]⟩,.string ⟨#[]⟩,.int .i64 0,.slice none 0 0,.bool false,.int .i64 0,.int .i64 0,.slice none 0 0,.int .i64 0,.int .i64 0] 46)) fun _ _ h => h.elim
    have hh := hM.head
    have c0 := hM.cell hm (j := 0) (by decide)
    have c1 := hM.cell hm (j := 1) (by decide)
    have c2 := hM.cell hm (j := 2) (by decide)
    have c3 := hM.cell hm (j := 3) (by decide)
    have c4 := hM.cell hm (j := 4) (by decide)
    have c5 := hM.cell hm (j := 5) (by decide)
    have c6 := hM.cell hm (j := 6) (by decide)
    have c7 := hM.cell hm (j := 7) (by decide)
    have c8 := hM.cell hm (j := 8) (by decide)
    have c9 := hM.cell hm (j := 9) (by decide)
    have c10 := hM.cell hm (j := 10) (by decide)
    simp only [Laid.cells,List.getElem?_cons_zero,List.getElem?_cons_succ,Nat.add_zero] at c0 c1 c2 c3 c4 c5 c6 c7 c8 c9 c10
    have hi1 : (0 : Int) ≤ k := by omega
    have hi2 : (k : Int) < M.length := by omega
    have hok := hM.sub m (List.mem_of_getElem? hm)
    generalize hw1 : w.alloc (.cells #[.int .i64 0,.string ⟨#[]⟩,.string ⟨#[]⟩,.int .i64 0,.slice none 0 0,.bool false,.int .i64 0,.int .i64 0,.slice none 0 0,.int .i64 0,.int .i64 0] 46) = w1 at *
    obtain ⟨va,na,ka,eav,_,_⟩ := hok.attrs.len
    obtain ⟨vb,nb,kb,ekv,_,_⟩ := hok.kids.len
    rw [eav] at c4
    rw [ekv] at c8
    (repeat first|(with_reducible first|(refine hK _ _ ?_;clear hK K)|refine ‹∀σ w,_→K σ w› _ _ ?_|(refine W_st ?_;constructor;try intro K hK))|((with_reducible first|refine hZ _ _ ?_|refine W_rg ?_|skip);repeat1' simp only[push_cast,seval,-Nat.reduceSubDiff,cell_h,can_h,cellO_cells,canO_cells,setO_cells,heap_set_h,heap_alloc_h,size_set_h,size_alloc_h,vcells_agg,succ_ne,ne_succ,List.setIfInBounds_toArray,List.set_cons_succ,List.set_cons_zero,drew_h,hh,hi1,hi2,c0,c1,c2,c3,c4,c5,c6,c7,c8,c9,c10,RunV_zero Tryz.zeroValue46])|((repeat((fail_if_success with_reducible refine hK _ _ ?_);clear hK K));with_reducible refine hK _ _ ?_;clear hK K))
    have hb5 := setCells_all (w := w1.alloc (.cells #[.int .i64 0,.string ⟨#[]⟩,.string ⟨#[]⟩,.int .i64 0,.slice none 0 0,.bool false,.int .i64 0,.int .i64 0,.slice none 0 0,.int .i64 0,.int .i64 0] 46)) (b := w1.heap.size) (cs := #[.int .i64 0,.string ⟨#[]⟩,.string ⟨#[]⟩,.int .i64 0,.slice none 0 0,.bool false,.int .i64 0,.int .i64 0,.slice none 0 0,.int .i64 0,.int .i64 0]) (t := 46) (f := (0,0)) (by rw [heap_alloc_h,if_pos rfl]) (l := [.int .i64 m.nd.kind,.string m.nd.name,.string m.nd.text,.int .i64 m.nd.space,.slice va na ka,.bool m.nd.dup,.int .i64 m.nd.parent,.int .i64 m.nd.content,.slice vb nb kb,.int .i64 m.nd.frm,.int .i64 m.nd.to]) rfl
    have hx5 : Ext w1 (setCells (w1.alloc (.cells #[.int .i64 0,.string ⟨#[]⟩,.string ⟨#[]⟩,.int .i64 0,.slice none 0 0,.bool false,.int .i64 0,.int .i64 0,.slice none 0 0,.int .i64 0,.int .i64 0] 46)) ⟨w1.heap.size,0,none⟩ [.int .i64 m.nd.kind,.string m.nd.name,.string m.nd.text,.int .i64 m.nd.space,.slice va na ka,.bool m.nd.dup,.int .i64 m.nd.parent,.int .i64 m.nd.content,.slice vb nb kb,.int .i64 m.nd.frm,.int .i64 m.nd.to] 0) := Upd.trans (Ext.alloc w1 _) (Upd.setCells (F := fun b => b = w1.heap.size) (a := ⟨w1.heap.size,0,none⟩) _ rfl _ 0) fun i hi e => by omega
    generalize setCells (w1.alloc (.cells #[.int .i64 0,.string ⟨#[]⟩,.string ⟨#[]⟩,.int .i64 0,.slice none 0 0,.bool false,.int .i64 0,.int .i64 0,.slice none 0 0,.int .i64 0,.int .i64 0] 46)) ⟨w1.heap.size,0,none⟩ [.int .i64 m.nd.kind,.string m.nd.name,.string m.nd.text,.int .i64 m.nd.space,.slice va na ka,.bool m.nd.dup,.int .i64 m.nd.parent,.int .i64 m.nd.content,.slice vb nb kb,.int .i64 m.nd.frm,.int .i64 m.nd.to] 0 = w2 at *
    refine W_draw (.pas 0 (.pas 1 (.pas 3 (.pas 4 (.act 2 (.pas 6 (.act 5 (.tail [7,8,9])))))))) (fun b => b = w1.heap.size) (by decide) mixed (by kernel_rfl) ?_
    (repeat (first | ((first | refine pas_plain rfl ?_ | refine pas_g rfl rfl ?_ | refine act_plain rfl ?_ | refine act_g rfl rfl ?_ | refine last_plain rfl ?_ | refine tail_plain rfl ?_ | refine tail_g rfl rfl ?_); (repeat simp only [push_cast,seval,-Nat.reduceSubDiff,cell_h,can_h,cellO_cells,canO_cells,setO_cells,heap_set_h,heap_alloc_h,size_set_h,size_alloc_h,vcells_agg,succ_ne,ne_succ,List.setIfInBounds_toArray,List.set_cons_succ,List.set_cons_zero,drew_h,hb5])) | (refine tail_fin ?_) | (refine sch_fin ?_)))
    have hx5d : Ext w1 w2.drew := hx5.trans (Ext.drew _)
    have hat := hok.attrs
    have hkt := hok.kids
    rw [eav] at hat
    rw [ekv] at hkt
    refine (clone_a (hat.ext hx5d).rd hb2).mono ?_
    rintro v w3 ⟨bo3,g1,g2,g3⟩
    have hlt5 := blk_lt hb5
    have hw5 : ∀ b,b = w1.heap.size → b < w2.drew.heap.size := fun b hb => by rw [hb,drew_size]; exact hlt5
    refine ⟨fun b hb => g2.heap (hw5 b hb),?_⟩
    have hb6 : w3.heap[w1.heap.size]? = some (.cells (List.toArray [.int .i64 m.nd.kind,.string m.nd.name,.string m.nd.text,.int .i64 m.nd.space,.slice va na ka,.bool m.nd.dup,.int .i64 m.nd.parent,.int .i64 m.nd.content,.slice vb nb kb,.int .i64 m.nd.frm,.int .i64 m.nd.to]) 46 (0,0)) := (g2.heap (hw5 _ rfl)).trans (by rw [drew_h]; exact hb5)
    obtain ⟨va',na',ka',rfl,_,_⟩ := g1.len
    (repeat (first | ((first | refine pas_plain rfl ?_ | refine pas_g rfl rfl ?_ | refine act_plain rfl ?_ | refine act_g rfl rfl ?_ | refine last_plain rfl ?_ | refine tail_plain rfl ?_ | refine tail_g rfl rfl ?_); (repeat simp only [push_cast,seval,-Nat.reduceSubDiff,cell_h,can_h,cellO_cells,canO_cells,setO_cells,heap_set_h,heap_alloc_h,size_set_h,size_alloc_h,vcells_agg,succ_ne,ne_succ,List.setIfInBounds_toArray,List.set_cons_succ,List.set_cons_zero,drew_h,hb6])) | (refine tail_fin ?_) | (refine sch_fin ?_)))
    refine (clone_i ((hkt.ext hx5d).ext g2) hb1).mono ?_
    rintro v w4 ⟨bo4,q1,q2,q3⟩
    have hb7 := (q2.heap (blk_lt hb6)).trans hb6
    obtain ⟨vb',nb',kb',rfl,_,_⟩ := q1.len
    first
    | refine ⟨fun b hb => q2.heap (by have hb' : b = w1.heap.size := hb; rw [hb']; exact blk_lt hb6),?_⟩
    | skip
    (repeat (first | ((first | refine pas_plain rfl ?_ | refine pas_g rfl rfl ?_ | refine act_plain rfl ?_ | refine act_g rfl rfl ?_ | refine last_plain rfl ?_ | refine tail_plain rfl ?_ | refine tail_g rfl rfl ?_); (repeat simp only [push_cast,seval,-Nat.reduceSubDiff,cell_h,can_h,cellO_cells,canO_cells,setO_cells,heap_set_h,heap_alloc_h,size_set_h,size_alloc_h,vcells_agg,succ_ne,ne_succ,List.setIfInBounds_toArray,List.set_cons_succ,List.set_cons_zero,drew_h,hb7])) | (refine tail_fin ?_) | (refine sch_fin ?_)))
    have z1 : w1.heap[w.heap.size]? = some (.cells #[.int .i64 0,.string ⟨#[]⟩,.string ⟨#[]⟩,.int .i64 0,.slice none 0 0,.bool false,.int .i64 0,.int .i64 0,.slice none 0 0,.int .i64 0,.int .i64 0] 46 (0,0)) := by rw [← hw1,heap_alloc_h,if_pos rfl]
    have hl1 : w.heap.size < w1.heap.size := blk_lt z1
    have z2 := (hx5.heap hl1).trans z1
    have z3 : w3.heap[w.heap.size]? = some (.cells #[.int .i64 0,.string ⟨#[]⟩,.string ⟨#[]⟩,.int .i64 0,.slice none 0 0,.bool false,.int .i64 0,.int .i64 0,.slice none 0 0,.int .i64 0,.int .i64 0] 46 (0,0)) := (g2.heap (by rw [drew_size]; exact blk_lt z2)).trans (by rw [drew_h]; exact z2)
    have z4 := (q2.heap (blk_lt z3)).trans z3
    have hne : ¬ w.heap.size = w1.heap.size := by omega
    have hne' : ¬ w1.heap.size = w.heap.size := by omega
    have x4 : Ext w w4 := by
      have hxa : Ext w w1 := by rw [← hw1]; exact Ext.alloc _ _
      exact ((hxa.trans hx5d).trans g2).trans q2
    have u5 : Upd (fun b => b = w1.heap.size) w4 ((w4.setCell ⟨w1.heap.size,4,none⟩ (.slice va' na' ka')).setCell ⟨w1.heap.size,8,none⟩ (.slice vb' nb' kb')) := by
      with_reducible refine Upd.put ?_ rfl
      with_reducible refine Upd.put ?_ rfl
      exact Upd.refl _ _
    have z5 : ((w4.setCell ⟨w1.heap.size,4,none⟩ (.slice va' na' ka')).setCell ⟨w1.heap.size,8,none⟩ (.slice vb' nb' kb')).heap[w.heap.size]? = some (.cells #[.int .i64 0,.string ⟨#[]⟩,.string ⟨#[]⟩,.int .i64 0,.slice none 0 0,.bool false,.int .i64 0,.int .i64 0,.slice none 0 0,.int .i64 0,.int .i64 0] 46 (0,0)) := (u5.same _ (blk_lt z4) hne).trans z4
    have b5 : ((w4.setCell ⟨w1.heap.size,4,none⟩ (.slice va' na' ka')).setCell ⟨w1.heap.size,8,none⟩ (.slice vb' nb' kb')).heap[w1.heap.size]? = some (.cells (List.toArray [.int .i64 m.nd.kind,.string m.nd.name,.string m.nd.text,.int .i64 m.nd.space,.slice va' na' ka',.bool m.nd.dup,.int .i64 m.nd.parent,.int .i64 m.nd.content,.slice vb' nb' kb',.int .i64 m.nd.frm,.int .i64 m.nd.to]) 46 (0,0)) := by
      rw [heap_set_same (heap_set_same hb7 _ _)]; rfl
    generalize (w4.setCell ⟨w1.heap.size,4,none⟩ (.slice va' na' ka')).setCell ⟨w1.heap.size,8,none⟩ (.slice vb' nb' kb') = w5 at *
    have z6 := setCells_all z5 (l := [.int .i64 m.nd.kind,.string m.nd.name,.string m.nd.text,.int .i64 m.nd.space,.slice va' na' ka',.bool m.nd.dup,.int .i64 m.nd.parent,.int .i64 m.nd.content,.slice vb' nb' kb',.int .i64 m.nd.frm,.int .i64 m.nd.to]) rfl
    have u6 : Upd (fun b => b = w.heap.size) w5 (setCells w5 ⟨w.heap.size,0,none⟩ [.int .i64 m.nd.kind,.string m.nd.name,.string m.nd.text,.int .i64 m.nd.space,.slice va' na' ka',.bool m.nd.dup,.int .i64 m.nd.parent,.int .i64 m.nd.content,.slice vb' nb' kb',.int .i64 m.nd.frm,.int .i64 m.nd.to] 0) := Upd.setCells (F := fun b => b = w.heap.size) (a := ⟨w.heap.size,0,none⟩) _ rfl _ 0
    have hwl : w1.heap.size < w2.drew.heap.size := hw5 _ rfl
    have hsz2 := g2.alike.size
    have f3 : ∀ b,bo3 = some b → w1.heap.size < b := fun b hb => by have := g3 b hb; omega
    have f4 : ∀ b,bo4 = some b → w3.heap.size ≤ b := q3
    have k1 : SlAt w5 2 (.slice va' na' ka') (attrCells m.nd.attrs) bo3 := (g1.ext q2).upd u5 fun b hb e => by have := f3 b hb; omega
    have k2 : SlAt w5 1 (.slice vb' nb' kb') (intCells m.nd.kids) bo4 := q1.upd u5 fun b hb e => by have := f4 b hb; omega
    have k1' := k1.upd u6 fun b hb e => by have := f3 b hb; omega
    have k2' := k2.upd u6 fun b hb e => by have := f4 b hb; omega
    have hg1 := g1
    clear z4 z3 z2 z1 hb7 hb6 hb5 hw5 q2 g2 hx5d hx5 hkt hat c0 c1 c2 c3 c4 c5 c6 c7 c8 c9 c10 hh hM hMA h k1 k2 g1 q1
    (repeat revert hK K);refine Wc8 @can_h @canO_cells @vcells_agg @hne @hne' @z5 @b5 @z6 ?_;repeat with_reducible intro K hK
    refine ⟨⟨m.nd,.slice va' na' ka',.slice vb' nb' kb',bo3,bo4⟩,rfl,rfl,⟨k1',k2'⟩,?_,fun b hb => ?_,?_⟩
    · exact Upd.trans (Upd.trans x4 u5 fun i hi e => by omega) u6 fun i hi e => by omega
    · simp only [Laid.blks, List.mem_append, Option.mem_toList] at hb
      rcases hb with hb | hb
      · have := f3 b hb; omega
      · have := f4 b hb; omega
    · simp only [Laid.blks]
      cases bo3 with
      | none => cases bo4 <;> simp
      | some b3 =>
        cases bo4 with
        | none => simp
        | some b4 =>
          have h3 := hg1.lt
          have h4 := f4 b4 rfl
          simp; omega
end Go.Proofs.YtgnnlaeikcnhcaaGreatDoor
end
