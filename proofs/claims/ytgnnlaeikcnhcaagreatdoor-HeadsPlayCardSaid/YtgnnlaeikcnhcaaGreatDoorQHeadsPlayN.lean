/- What the proof leans on,part 14 of 15. -/
import Derived.Test.YtgnnlaeikcnhcaaGreatDoorQHeadsPlayM
set_option linter.unusedSimpArgs false
set_option linter.unusedVariables false
section
namespace Go.Proofs.YtgnnlaeikcnhcaaGreatDoor
open Go Go.Vk
set_option maxHeartbeats 40000000
set_option maxRecDepth 20000 in
set_option maxHeartbeats 4000000 in
theorem node17_c {m1 m2 : Laid} {w : World} (h1 : m1.ok w) (h2 : m2.ok w) (e : m1.nd = m2.nd) (hl : m1.nd.attrs.length < 1000000000) (hk : m1.nd.kids.length < 1000000000) :
    Gives Tryz.prog 194 #[m1.val,m2.val] w fun v w' => v = .bool true ∧ Ext w w' := by
  obtain ⟨nd,av,kv,ab,kb⟩ := m1
  obtain ⟨nd2,av2,kv2,ab2,kb2⟩ := m2
  simp only at e hl hk
  subst e
  rw [Laid.val_eq,Laid.val_eq]
  have ha1 := h1.attrs
  have ha2 := h2.attrs
  have hk1 := h1.kids
  have hk2 := h2.kids
  simp only at ha1 ha2 hk1 hk2 ⊢
  obtain ⟨aa,ac,rfl,_,_⟩ := attrs_len ha1.rd
  obtain ⟨ba,bc,rfl,_,_⟩ := attrs_len ha2.rd
  obtain ⟨ka,kc,rfl,_⟩ := hk1.ints_len
  obtain ⟨la,lc,rfl,_⟩ := hk2.ints_len
  have hx : Ext w ((w.alloc (.cells #[.int .i64 nd.kind,.string nd.name,.string nd.text,.int .i64 nd.space,.slice aa nd.attrs.length ac,.bool nd.dup,.int .i64 nd.parent,.int .i64 nd.content,.slice ka nd.kids.length kc,.int .i64 nd.frm,.int .i64 nd.to] 46)).alloc (.cells #[.int .i64 nd.kind,.string nd.name,.string nd.text,.int .i64 nd.space,.slice ba nd.attrs.length bc,.bool nd.dup,.int .i64 nd.parent,.int .i64 nd.content,.slice la nd.kids.length lc,.int .i64 nd.frm,.int .i64 nd.to] 46)) := (Ext.alloc _ _).trans (Ext.alloc _ _)
  have c1 : ((w.alloc (.cells #[.int .i64 nd.kind,.string nd.name,.string nd.text,.int .i64 nd.space,.slice aa nd.attrs.length ac,.bool nd.dup,.int .i64 nd.parent,.int .i64 nd.content,.slice ka nd.kids.length kc,.int .i64 nd.frm,.int .i64 nd.to] 46)).alloc (.cells #[.int .i64 nd.kind,.string nd.name,.string nd.text,.int .i64 nd.space,.slice ba nd.attrs.length bc,.bool nd.dup,.int .i64 nd.parent,.int .i64 nd.content,.slice la nd.kids.length lc,.int .i64 nd.frm,.int .i64 nd.to] 46)).heap[w.heap.size]? = some (.cells #[.int .i64 nd.kind,.string nd.name,.string nd.text,.int .i64 nd.space,.slice aa nd.attrs.length ac,.bool nd.dup,.int .i64 nd.parent,.int .i64 nd.content,.slice ka nd.kids.length kc,.int .i64 nd.frm,.int .i64 nd.to] 46 (0,0)) := by
    rw [heap_alloc_h,size_alloc_h,if_neg (by omega),heap_alloc_h,if_pos rfl]
  have c2 : ((w.alloc (.cells #[.int .i64 nd.kind,.string nd.name,.string nd.text,.int .i64 nd.space,.slice aa nd.attrs.length ac,.bool nd.dup,.int .i64 nd.parent,.int .i64 nd.content,.slice ka nd.kids.length kc,.int .i64 nd.frm,.int .i64 nd.to] 46)).alloc (.cells #[.int .i64 nd.kind,.string nd.name,.string nd.text,.int .i64 nd.space,.slice ba nd.attrs.length bc,.bool nd.dup,.int .i64 nd.parent,.int .i64 nd.content,.slice la nd.kids.length lc,.int .i64 nd.frm,.int .i64 nd.to] 46)).heap[w.heap.size + 1]? = some (.cells #[.int .i64 nd.kind,.string nd.name,.string nd.text,.int .i64 nd.space,.slice ba nd.attrs.length bc,.bool nd.dup,.int .i64 nd.parent,.int .i64 nd.content,.slice la nd.kids.length lc,.int .i64 nd.frm,.int .i64 nd.to] 46 (0,0)) := by
    rw [heap_alloc_h,size_alloc_h,if_pos rfl]
  refine Gives.of_W Tryz.call194 Tryz.func194 rfl Tryz.ntmps194 (by simp) ?_; intro Z hZ
  (repeat revert hK K);refine W2 @vcells_agg @size_alloc_h ?_;repeat with_reducible intro K hK
  generalize (w.alloc (.cells #[.int .i64 nd.kind,.string nd.name,.string nd.text,.int .i64 nd.space,.slice aa nd.attrs.length ac,.bool nd.dup,.int .i64 nd.parent,.int .i64 nd.content,.slice ka nd.kids.length kc,.int .i64 nd.frm,.int .i64 nd.to] 46)).alloc (.cells #[.int .i64 nd.kind,.string nd.name,.string nd.text,.int .i64 nd.space,.slice ba nd.attrs.length bc,.bool nd.dup,.int .i64 nd.parent,.int .i64 nd.content,.slice la nd.kids.length lc,.int .i64 nd.frm,.int .i64 nd.to] 46) = w1 at *
  obtain ⟨p,hp⟩ : ∃ p,p = w.heap.size := ⟨_,rfl⟩
  rw [← hp] at c1 c2 ⊢
  (try (with_reducible refine W_id ?_); refine W_reg (by decide) (by rfl) ?_); refine Wo_flat (by simp only [lapp_cons,lapp_nil]; exact rfl) ?_
  (repeat first|(with_reducible first|(refine hK _ _ ?_;clear hK K)|refine ‹∀σ w,_→K σ w› _ _ ?_|(refine W_st ?_;constructor;try intro K hK))|((with_reducible first|refine hZ _ _ ?_|refine W_rg ?_|skip);repeat1' simp only[push_cast,seval,-Nat.reduceSubDiff,cell_h,c1,c2,cellO_cells,decide_true,beq_self_eq_true,eq_self,not_true_eq_false])|((repeat((fail_if_success with_reducible refine hK _ _ ?_);clear hK K));with_reducible refine hK _ _ ?_;clear hK K))
  refine W_loop (S := Nat) (fun k => [(2, .pointer (some ⟨p, 0, none⟩)), (3, .pointer (some ⟨p + 1, 0, none⟩)), (5, .int .i64 (k : Int))])
    (fun k w2 => k ≤ nd.attrs.length ∧ Ext w1 w2) (fun k => nd.attrs.length - k) 0 ?_ ?_ ?_
  · (repeat simp only [push_cast,seval,-Nat.reduceSubDiff])
  · exact ⟨by omega,Ext.refl _⟩
  rintro k w2 ⟨hkl,hx2⟩
  have d1 := hx2.blk c1
  have d2 := hx2.blk c2
  by_cases hlt : k < nd.attrs.length
  · obtain ⟨x, hxk⟩ : ∃ x, nd.attrs[k]? = some x := ⟨_, List.getElem?_eq_getElem hlt⟩
    have hxd := Ext.drew w2
    obtain ⟨_,_,e1,_,hA2⟩ := attrs_len (((ha1.rd.ext hx).ext hx2).ext hxd)
    obtain ⟨_,_,e2,_,hB2⟩ := attrs_len (((ha2.rd.ext hx).ext hx2).ext hxd)
    cases e1; cases e2
    obtain ⟨b1,o1,rfl,p1,p2⟩ := hA2 k x hxk
    obtain ⟨b2,o2,rfl,q1,q2⟩ := hB2 k x hxk
    rw [cell_h] at p1 p2 q1 q2
    have f1 := hxd.blk d1
    have f2 := hxd.blk d2
    have b0 : (k : Int) < (nd.attrs.length : Int) := by omega
    have b1' : (0 : Int) ≤ (k : Int) := by omega
    have b3 : inI64 ((k : Int) + 1) := by unfold inI64; omega
    clear hA2 hB2
    (repeat revert hK K);refine Wc4 @d1 @d2 @b0 @b1' ?_;repeat with_reducible intro K hK
    refine W_draw (.pas 0 (.pas 1 (.pas 2 (.pas 3 (.pas 4 (.pas 5 (.pas 6 (.pas 7 (.pas 8 (.pas 9 (.pas 10 .fin))))))))))) (fun _ => True) (by decide) mixed (by kernel_rfl) ?_
    generalize w2.drew = wd at *
    (repeat (first | ((first | refine pas_plain rfl ?_ | refine pas_g rfl rfl ?_ | refine act_plain rfl ?_ | refine act_g rfl rfl ?_ | refine last_plain rfl ?_ | refine tail_plain rfl ?_ | refine tail_g rfl rfl ?_); (repeat simp only [push_cast,seval,-Nat.reduceSubDiff,cell_h,cellO_cells,f1,f2,b0,b1',p1,p2,q1,q2,neq94])) | (refine tail_fin ?_) | (refine sch_fin ?_)))
    (repeat revert hK K);refine W1 @b3 ?_;repeat with_reducible intro K hK
    refine ⟨k + 1,by omega,?_⟩
    (repeat simp only [push_cast,seval,-Nat.reduceSubDiff])
    exact ⟨by omega,hx2.trans hxd⟩
  have hke : k = nd.attrs.length := by omega
  subst hke
  have b0 : ¬ (nd.attrs.length : Int) < (nd.attrs.length : Int) := by omega
  (repeat revert hK K);refine Wc3 @d1 @d2 @b0 ?_;repeat with_reducible intro K hK
  refine W_loop (S := Nat) (fun k => [(2, .pointer (some ⟨p, 0, none⟩)), (3, .pointer (some ⟨p + 1, 0, none⟩)), (6, .int .i64 (k : Int))])
    (fun k w3 => k ≤ nd.kids.length ∧ Ext w2 w3) (fun k => nd.kids.length - k) 0 ?_ ?_ ?_
  · (repeat simp only [push_cast,seval,-Nat.reduceSubDiff])
  · exact ⟨by omega,Ext.refl _⟩
  rintro k w3 ⟨hkl,hx3⟩
  have d1 := hx3.blk d1
  have d2 := hx3.blk d2
  by_cases hlt : k < nd.kids.length
  · obtain ⟨x, hxk⟩ : ∃ x, nd.kids[k]? = some x := ⟨_, List.getElem?_eq_getElem hlt⟩
    have hxd := Ext.drew w3
    obtain ⟨b1,o1,_,_,e1,_⟩ := hk1.some_of (by intro e3; have := intCells_length nd.kids; rw [e3] at this; simp at this; omega)
    obtain ⟨b2,o2,_,_,e2,_⟩ := hk2.some_of (by intro e3; have := intCells_length nd.kids; rw [e3] at this; simp at this; omega)
    cases e1; cases e2
    have p1 := cell_ext (((hx.trans hx2).trans hx3).trans hxd) (hk1.ints_cell hxk)
    have q1 := cell_ext (((hx.trans hx2).trans hx3).trans hxd) (hk2.ints_cell hxk)
    rw [cell_h] at p1 q1
    have f1 := hxd.blk d1
    have f2 := hxd.blk d2
    have b0 : (k : Int) < (nd.kids.length : Int) := by omega
    have b1' : (0 : Int) ≤ (k : Int) := by omega
    have b3 : inI64 ((k : Int) + 1) := by unfold inI64; omega
    (repeat revert hK K);refine Wc4 @d1 @d2 @b0 @b1' ?_;repeat with_reducible intro K hK
    refine W_draw (.pas 0 (.pas 1 (.pas 2 (.pas 3 (.pas 4 (.pas 5 (.pas 6 (.pas 7 (.pas 8 (.pas 9 (.pas 10 .fin))))))))))) (fun _ => True) (by decide) mixed (by kernel_rfl) ?_
    generalize w3.drew = wd at *
    refine Dd7 @f1 @f2 @b0 @b1' @p1 @q1 @not_true_eq_false ?_
    (repeat revert hK K);refine W1 @b3 ?_;repeat with_reducible intro K hK
    refine ⟨k + 1,by omega,?_⟩
    (repeat simp only [push_cast,seval,-Nat.reduceSubDiff])
    exact ⟨by omega,hx3.trans hxd⟩
  have hke : k = nd.kids.length := by omega
  subst hke
  have b0 : ¬ (nd.kids.length : Int) < (nd.kids.length : Int) := by omega
  (repeat revert hK K);refine Wc3 @d1 @d2 @b0 ?_;repeat with_reducible intro K hK
  exact (hx.trans hx2).trans hx3
theorem nodes17_c {va vb : Value} {A B : List Laid} {ba bb : Option Nat} {w : World} (hA : NdsAt w va A ba) (hB : NdsAt w vb B bb) (e : A.map Laid.nd = B.map Laid.nd) (hl : A.length < 100000) (hs : ∀ m ∈ A,m.nd.attrs.length < 1000000000 ∧ m.nd.kids.length < 1000000000) :
    Gives Tryz.prog 142 #[va,vb] w fun v w' => v = .bool true ∧ Ext w w' := by
  obtain ⟨pa,ca,rfl,hca⟩ := hA.len
  obtain ⟨pb,cb,rfl,hcb⟩ := hB.len
  have hlen : B.length = A.length := by have := congrArg List.length e; simpa using this.symm
  rw [hlen] at hB hcb ⊢
  refine Gives.of_W Tryz.call142 Tryz.func142 rfl Tryz.ntmps142 (by simp) ?_; intro Z hZ
  (repeat revert hK K);refine W1 @not_true_eq_false ?_;repeat with_reducible intro K hK
  refine W_loop (S := Nat) (fun k => [(0, .slice pa A.length ca), (1, .slice pb A.length cb), (5, .int .i64 (k : Int))])
    (fun k w2 => k ≤ A.length ∧ Ext w w2) (fun k => A.length - k) 0 ?_ ?_ ?_
  · (repeat simp only [push_cast,seval,-Nat.reduceSubDiff])
  · exact ⟨by omega,Ext.refl _⟩
  rintro k w2 ⟨hk,hx⟩
  by_cases hkl : k < A.length
  · obtain ⟨m1, hm1⟩ : ∃ m, A[k]? = some m := ⟨_, List.getElem?_eq_getElem hkl⟩
    obtain ⟨m2,hm2⟩ : ∃ m,B[k]? = some m := ⟨_,List.getElem?_eq_getElem (by omega)⟩
    have hnd : m1.nd = m2.nd := by
      have h1 : (A.map Laid.nd)[k]? = some m1.nd := by rw [List.getElem?_map,hm1]; rfl
      rw [e,List.getElem?_map,hm2] at h1
      exact (Option.some.inj h1).symm
    obtain ⟨b1,o1,_,_,e1,_⟩ := hA.sl.some_of (by intro e; have := flat_length A; rw [e] at this; simp at this; omega)
    obtain ⟨b2,o2,_,_,e2,_⟩ := hB.sl.some_of (by intro e; have := flat_length B; rw [e] at this; simp at this; omega)
    cases e1; cases e2
    have hA2 := (hA.ext hx).ext (Ext.drew _)
    have hB2 := (hB.ext hx).ext (Ext.drew _)
    obtain ⟨p0,p1,p2,p3,p4,p5,p6,p7,p8,p9,p10⟩ := nds_all hA2 hm1
    obtain ⟨q0,q1,q2,q3,q4,q5,q6,q7,q8,q9,q10⟩ := nds_all hB2 hm2
    have b0 : (k : Int) < (A.length : Int) := by omega
    have b1' : (0 : Int) ≤ (k : Int) := by omega
    have b3 : inI64 ((k : Int) + 1) := by unfold inI64; omega
    have hs1 := hs m1 (List.mem_of_getElem? hm1)
    (repeat revert hK K);refine W2 @b0 @b1' ?_;repeat with_reducible intro K hK
    refine W_draw (.pas 0 (.pas 1 (.pas 2 (.pas 3 (.pas 4 (.pas 5 (.pas 6 (.pas 7 (.tail [8,9]))))))))) (fun _ => True) (by decide) mixed (by kernel_rfl) ?_
    (repeat (first | ((first | refine pas_plain rfl ?_ | refine pas_g rfl rfl ?_ | refine act_plain rfl ?_ | refine act_g rfl rfl ?_ | refine last_plain rfl ?_ | refine tail_plain rfl ?_ | refine tail_g rfl rfl ?_); (repeat simp only [push_cast,seval,-Nat.reduceSubDiff,b0,b1',p0,p1,p2,p3,p4,p5,p6,p7,p8,p9,p10,q0,q1,q2,q3,q4,q5,q6,q7,q8,q9,q10])) | (refine tail_fin ?_) | (refine sch_fin ?_)))
    refine (node17_c (m1 := m1) (m2 := m2) (hA2.ok m1 (List.mem_of_getElem? hm1)) (hB2.ok m2 (List.mem_of_getElem? hm2)) hnd hs1.1 hs1.2).mono ?_
    rintro v w3 ⟨rfl,hx3⟩
    refine D0 ?_
    (repeat revert hK K);refine W1 @b3 ?_;repeat with_reducible intro K hK
    refine ⟨k + 1,by omega,?_⟩
    (repeat simp only [push_cast,seval,-Nat.reduceSubDiff])
    exact ⟨by omega,(hx.trans (Ext.drew _)).trans hx3⟩
  · have hke : k = A.length := by omega
    subst hke
    have b0 : ¬ (A.length : Int) < (A.length : Int) := by omega
    (repeat revert hK K);refine W1 @b0 ?_;repeat with_reducible intro K hK
    exact hx
end Go.Proofs.YtgnnlaeikcnhcaaGreatDoor
end
section
namespace Go.Vk
open Go
structure OpD where
  need : Nat
  looks : Nat
  dst : Option Nat
  pas : Bool
def bitsL : List Nat → Nat
  | [] => 0
  | i :: r => 2 ^ i ||| bitsL r
theorem bitsL_test (l : List Nat) (j : Nat) : (bitsL l).testBit j = l.contains j := by
  induction l with
  | nil => simp [bitsL]
  | cons i r ih =>
    rw [bitsL,Nat.testBit_or,ih,Nat.testBit_two_pow,List.contains_cons]
    congr 1
    by_cases h : i = j
    · subst h; simp
    · have h2 : ¬ j = i := fun e => h e.symm
      simp [h,h2]
def needL (o : Oper) : List Nat := (o.after.toList.filter (Region.binds .any)).map (·.on)
def opD (P : Program) (ops : Array Oper) (o : Oper) : OpD := ⟨bitsL (needL o),bitsL (o.looksAt ops),o.dst,passive P o⟩
def subB (a b : Nat) : Bool := a &&& b == a
theorem subB_spec {l : List Nat} {b : Nat} : subB (bitsL l) b = l.all fun i => b.testBit i := by
  unfold subB
  rw [Bool.eq_iff_iff,beq_iff_eq,List.all_eq_true]
  constructor
  · intro h i hi
    have := congrArg (fun n => Nat.testBit n i) h
    simp only [Nat.testBit_and,bitsL_test] at this
    rw [List.contains_iff_mem.2 hi,Bool.true_and] at this
    exact this
  · intro h
    apply Nat.eq_of_testBit_eq
    intro i
    rw [Nat.testBit_and,bitsL_test]
    by_cases hi : l.contains i = true
    · rw [hi,Bool.true_and,h i (List.contains_iff_mem.1 hi)]
    · rw [Bool.not_eq_true] at hi
      rw [hi,Bool.false_and]
def apD (x y : OpD) : Bool :=
  (match x.dst with
   | some d => !y.looks.testBit d && y.dst != some d
   | none => true) &&
  (match y.dst with
   | some d => !x.looks.testBit d
   | none => true)
def zD : OpD := ⟨0,0,none,false⟩
def rdD (D : List OpD) (done : Nat) (i : Nat) : Bool := !done.testBit i && subB (D.getD i zD).need done
def rdL (D : List OpD) (n done : Nat) : List Nat := (List.range n).filter (rdD D done)
def frD (D : List OpD) (n done i : Nat) : Bool := (List.range n).all fun j => j == i || done.testBit j || (D.getD j zD).need.testBit i || apD (D.getD i zD) (D.getD j zD)
def chkD (D : List OpD) (n : Nat) : Nat → Nat → Sch → Bool
  | 0,done,.fin => (rdL D n done).isEmpty
  | f + 1,done,.pas i r => Nat.blt i n && rdD D done i && frD D n done i && (D.getD i zD).pas && chkD D n f (done ||| 2 ^ i) r
  | f + 1,done,.act i r => rdL D n done == [i] && chkD D n f (done ||| 2 ^ i) r
  | f + 1,done,.two i r j s => rdL D n done == [i,j] && chkD D n f (done ||| 2 ^ i) r && chkD D n f (done ||| 2 ^ j) s
  | _,_,_ => false
section
variable {P : Program} {l : List Oper}
def relD (n : Nat) (listed : Array Bool) (done : Nat) : Prop := listed.size = n ∧ ∀ j,listed.getD j false = done.testBit j
theorem relD.set {n : Nat} {listed : Array Bool} {done i : Nat} (h : relD n listed done) (hi : i < n) : relD n (listed.setIfInBounds i true) (done ||| 2 ^ i) := by
  obtain ⟨h1,h2⟩ := h
  refine ⟨by rw [Array.size_setIfInBounds,h1],fun j => ?_⟩
  rw [Nat.testBit_or,Nat.testBit_two_pow]
  have h3 := h2 j
  by_cases e : i = j
  · subst e
    have : (listed.setIfInBounds i true).getD i false = true := by
      simp [Array.getD,h1,hi]
    rw [this]; simp
  · have : (listed.setIfInBounds i true).getD j false = listed.getD j false := by
      rw [Array.getD_eq_getD_getElem?,Array.getD_eq_getD_getElem?,Array.getElem?_setIfInBounds,if_neg e]
    rw [this,h3]; simp [e]
theorem relD.t {n : Nat} {listed : Array Bool} {done j : Nat} (h : relD n listed done) (hj : j < n) : listed.getD j true = done.testBit j := by
  rw [← h.2 j]
  unfold Array.getD
  rw [dif_pos (by rw [h.1]; exact hj),dif_pos (by rw [h.1]; exact hj)]
theorem getD_opD {j : Nat} {o : Oper} (h : l[j]? = some o) : (l.map (opD P l.toArray)).getD j zD = opD P l.toArray o := by
  rw [List.getD_eq_getElem?_getD,List.getElem?_map,h]; rfl
theorem ready_D {n : Nat} {listed : Array Bool} {done : Nat} (hn : l.length = n) (h : relD n listed done) : Region.ready .any l.toArray listed = rdL (l.map (opD P l.toArray)) n done := by
  unfold Region.ready rdL
  rw [List.size_toArray,hn]
  apply List.filter_congr
  intro j hj
  have hj := List.mem_range.1 hj
  have ho : l[j]? = some l[j] := List.getElem?_eq_getElem (by omega)
  have hoa : l.toArray[j]? = some l[j] := by rw [List.getElem?_toArray]; exact ho
  unfold rdD
  rw [h.t hj,hoa,getD_opD ho]
  congr 1
  show (some _).getD false = subB (bitsL (needL l[j])) done
  rw [Option.getD_some,subB_spec,Bool.eq_iff_iff,Array.all_eq_true_iff_forall_mem,List.all_eq_true]
  unfold needL
  constructor
  · intro g i hi
    obtain ⟨e,he,rfl⟩ := List.mem_map.1 hi
    obtain ⟨he1,he2⟩ := List.mem_filter.1 he
    have := g e (Array.mem_toList_iff.1 he1)
    rw [he2,Bool.not_true,Bool.false_or,h.2] at this
    exact this
  · intro g e he
    by_cases hb : Region.binds .any e = true
    · rw [hb, Bool.not_true, Bool.false_or, h.2]
      exact g _ (List.mem_map.2 ⟨e,List.mem_filter.2 ⟨Array.mem_toList_iff.2 he,hb⟩,rfl⟩)
    · rw [Bool.not_eq_true] at hb
      rw [hb]; rfl
theorem apD_of {x y : Oper} (h : apD (opD P l.toArray x) (opD P l.toArray y) = true) : x.apart l.toArray y = true := by
  unfold apD opD at h
  unfold Oper.apart
  simp only [bitsL_test] at h
  exact h
theorem free_D {n : Nat} {listed : Array Bool} {done i : Nat} (hn : l.length = n) (h : relD n listed done) (hi : i < n) (hf : frD (l.map (opD P l.toArray)) n done i = true) : Region.free .any l.toArray listed i = true := by
  obtain ⟨oi,ho⟩ : ∃ o,l[i]? = some o := ⟨_,List.getElem?_eq_getElem (by omega)⟩
  have hoa : l.toArray[i]? = some oi := by rw [List.getElem?_toArray]; exact ho
  unfold Region.free
  rw [hoa]
  dsimp only
  rw [List.size_toArray,hn,List.all_eq_true]
  intro j hj
  have hj' := List.mem_range.1 hj
  obtain ⟨oj,hoj⟩ : ∃ o,l[j]? = some o := ⟨_,List.getElem?_eq_getElem (by omega)⟩
  have hoaj : l.toArray[j]? = some oj := by rw [List.getElem?_toArray]; exact hoj
  unfold frD at hf
  have := List.all_eq_true.1 hf j hj
  rw [getD_opD ho,getD_opD hoj] at this
  simp only [Bool.or_eq_true] at this ⊢
  rw [hoaj,h.t hj']
  rcases this with ((h1 | h1) | h1) | h1
  · exact .inl (.inl h1)
  · exact .inl (.inr h1)
  · right
    dsimp only
    rw [Bool.or_eq_true]
    left
    have h1 : (bitsL (needL oj)).testBit i = true := h1
    rw [bitsL_test,List.contains_iff_mem] at h1
    unfold needL at h1
    obtain ⟨e,he,hei⟩ := List.mem_map.1 h1
    obtain ⟨he1,he2⟩ := List.mem_filter.1 he
    rw [Array.any_eq_true']
    exact ⟨e,Array.mem_toList_iff.1 he1,by rw [he2,Bool.true_and,beq_iff_eq]; exact hei⟩
  · right
    dsimp only
    rw [Bool.or_eq_true]
    exact .inr (apD_of h1)
theorem chkD_sound {n : Nat} (hn : l.length = n) : ∀ (sch : Sch) (f done : Nat) (listed : Array Bool), relD n listed done → chkD (l.map (opD P l.toArray)) n f done sch = true → chk P .any l.toArray f listed sch = true
  | .fin,0,done,listed,h,hc => by
    unfold chkD at hc
    unfold chk
    rw [ready_D (P := P) hn h]; exact hc
  | .fin,_ + 1,_,_,_,hc => by unfold chkD at hc; cases hc
  | .pas _ _,0,_,_,_,hc => by unfold chkD at hc; cases hc
  | .act _ _,0,_,_,_,hc => by unfold chkD at hc; cases hc
  | .two _ _ _ _,0,_,_,_,hc => by unfold chkD at hc; cases hc
  | .last _,0,_,_,_,hc => by unfold chkD at hc; cases hc
  | .last _,_ + 1,_,_,_,hc => by unfold chkD at hc; cases hc
  | .tail _,0,_,_,_,hc => by unfold chkD at hc; cases hc
  | .tail _,_ + 1,_,_,_,hc => by unfold chkD at hc; cases hc
  | .pas i r,f + 1,done,listed,h,hc => by
    unfold chkD at hc
    simp only [Bool.and_eq_true] at hc
    obtain ⟨⟨⟨⟨c0,c1⟩,c2⟩,c3⟩,c4⟩ := hc
    have hi : i < n := by simpa using c0
    have ho : l[i]? = some l[i] := List.getElem?_eq_getElem (by omega)
    unfold chk
    simp only [Bool.and_eq_true]
    refine ⟨⟨⟨?_,free_D hn h hi c2⟩,?_⟩,chkD_sound hn r f _ _ (h.set hi) c4⟩
    · rw [ready_D (P := P) hn h, List.contains_iff_mem]
      exact List.mem_filter.2 ⟨List.mem_range.2 hi,c1⟩
    · rw [List.getElem?_toArray, ho]
      rw [getD_opD ho] at c3
      exact c3
  | .act i r,f + 1,done,listed,h,hc => by
    unfold chkD at hc
    simp only [Bool.and_eq_true,beq_iff_eq] at hc
    obtain ⟨c1,c2⟩ := hc
    have hi : i < n := by
      have : i ∈ rdL (l.map (opD P l.toArray)) n done := by rw [c1]; simp
      exact List.mem_range.1 (List.mem_filter.1 this).1
    unfold chk
    simp only [Bool.and_eq_true,decide_eq_true_eq]
    exact ⟨by rw [ready_D (P := P) hn h]; exact c1,chkD_sound hn r f _ _ (h.set hi) c2⟩
  | .two i r j s,f + 1,done,listed,h,hc => by
    unfold chkD at hc
    simp only [Bool.and_eq_true,beq_iff_eq] at hc
    obtain ⟨⟨c1,c2⟩,c3⟩ := hc
    have hi : i < n := by
      have : i ∈ rdL (l.map (opD P l.toArray)) n done := by rw [c1]; simp
      exact List.mem_range.1 (List.mem_filter.1 this).1
    have hj : j < n := by
      have : j ∈ rdL (l.map (opD P l.toArray)) n done := by rw [c1]; simp
      exact List.mem_range.1 (List.mem_filter.1 this).1
    unfold chk
    simp only [Bool.and_eq_true,decide_eq_true_eq]
    exact ⟨⟨by rw [ready_D (P := P) hn h]; exact c1,chkD_sound hn r f _ _ (h.set hi) c2⟩,chkD_sound hn s f _ _ (h.set hj) c3⟩
theorem W_drawM {n : Nat} {K : Regs → World → Prop} {X : Outs} (sch : Sch) (B : Nat → Prop) (N : Nat) (D : List OpD) {l : List Oper} (hN : l.length = N) (hn : n ≤ 1000000) (hm : P.follows .mixedOrders = true)
    (hs : (Region.noSelect l.toArray && l.toArray.all (dLt n)) = true) (hD : l.map (opD P l.toArray) = D) (hc : chkD D N N 0 sch = true)
    {id : Nat} {σ : Regs} {w : World} (h : SchW P l.toArray B K sch σ w.drew) : W P n σ w (.region id l.toArray true) K X := by
  refine W_draw sch B hn hm ?_ h
  rw [Bool.and_eq_true]
  refine ⟨hs,?_⟩
  rw [List.size_toArray,hN]
  refine chkD_sound (P := P) hN sch N 0 _ ⟨by simp,fun j => ?_⟩ (hD ▸ hc)
  rw [Nat.zero_testBit]
  unfold Array.getD
  split
  · simp
  · rfl
end
end Go.Vk
end
section
namespace Go.Proofs.YtgnnlaeikcnhcaaGreatDoor
open Go Go.Vk Go.RowKit Go.Extern.Stop Go.Stop Go.Extern
def hv (t : Nat) : Value := .pointer (some ⟨5,t,none⟩)
theorem er_valueOfP (t : Addr) (w : World) : (ReflectliteValue.unpack (.iface 129 (.pointer (some t)))).run Tryz.prog w
    = .ok (.agg #[.pointer (some ⟨5,129,none⟩),.pointer (some ⟨w.heap.size,0,none⟩),.int .u64 150]) (w.alloc (.cells #[.pointer (some t)] 129)) := by kernel_rfl
theorem er_typeP (a : Addr) (w : World) : (ReflectliteValue.methodAny (ReflectliteValue.valueError "reflectlite.Value.Type" 0) (fun t _ _ _ => ReflectliteType.toType t) #[.agg #[.pointer (some ⟨5, 129, none⟩), .pointer (some a), .int .u64 150]]).run Tryz.prog w
    = .ok (.iface 192 (.agg #[.pointer (some ⟨5,129,none⟩)])) w := by kernel_rfl
theorem er_mKind (h : Value) (w : World) : (Go.method 351 192 (.agg #[h]) "Kind").run Tryz.prog w = .ok (269, h) w := by kernel_rfl
theorem er_mElem (h : Value) (w : World) : (Go.method 351 192 (.agg #[h]) "Elem").run Tryz.prog w = .ok (279, .agg #[h]) w := by kernel_rfl
theorem er_mImpl (h : Value) (w : World) : (Go.method 351 192 (.agg #[h]) "Implements").run Tryz.prog w = .ok (280, .agg #[h]) w := by kernel_rfl
theorem er_mAss (h : Value) (w : World) : (Go.method 351 192 (.agg #[h]) "AssignableTo").run Tryz.prog w = .ok (277, .agg #[h]) w := by kernel_rfl
theorem er_kindP (w : World) : ((ReflectliteType.abiMethod fun t => (fun a : Nat => Value.int IntKind.u8 (a : Int)) <$> Rtype.kind t) #[.pointer (some ⟨5,129,none⟩)]).run Tryz.prog w = .ok (.int .u8 22) w := by kernel_rfl
theorem er_kindE (w : World) : ((ReflectliteType.abiMethod fun t => (fun a : Nat => Value.int IntKind.u8 (a : Int)) <$> Rtype.kind t) #[.pointer (some ⟨5,28,none⟩)]).run Tryz.prog w = .ok (.int .u8 2) w := by kernel_rfl
theorem er_rlm (z : Sem Value) (f : TypeId → Addr → Nat → Nat → Sem Value) (v : Value) :
    ReflectliteValue.method z f #[v] = (do match ← ReflectliteValue.parts v with | none => z | some (t,a,fl) => f t a fl (fl % 32)) := rfl
theorem er_partsP (a : Addr) (w : World) : (ReflectliteValue.parts (.agg #[.pointer (some ⟨5,129,none⟩),.pointer (some a),.int .u64 150])).run Tryz.prog w = .ok (some (129,a,150)) w := by kernel_rfl
theorem er_isNilP (a p : Addr) (W : World) (ha : W.cell? a = some (.pointer (some p))) :
    (ReflectliteValue.method (ReflectliteValue.valueError "reflectlite.Value.IsNil" 0) ReflectliteValue.isNil #[.agg #[.pointer (some ⟨5, 129, none⟩), .pointer (some a), .int .u64 150]]).run Tryz.prog W = .ok (.bool false) W := by
  rw [er_rlm]
  simp only [Sem.run_bind,er_partsP,Result.andThen]
  simp [ReflectliteValue.isNil,loadVar,isAgg,underlying,Tryz.underlying129,ha,Result.andThen]
theorem er_elemP (w : World) : (ReflectliteType.method ReflectliteType.elem #[.agg #[.pointer (some ⟨5,129,none⟩)]]).run Tryz.prog w = .ok (.iface 192 (.agg #[.pointer (some ⟨5,28,none⟩)])) w := by kernel_rfl
theorem er_implE (w : World) : (ReflectliteType.relation "Implements" ReflectliteType.implements_ #[.agg #[.pointer (some ⟨5, 28, none⟩)], .iface 192 (.agg #[.pointer (some ⟨5, 65, none⟩)])]).run Tryz.prog w = .ok (.bool true) w := by kernel_rfl
theorem er_typeOfE (v : Value) (w : World) : (ReflectliteType.typeOf #[.iface 28 v]).run Tryz.prog w = .ok (.iface 192 (.agg #[.pointer (some ⟨5,28,none⟩)])) w := by kernel_rfl
theorem er_assE (w : World) : (ReflectliteType.relation "AssignableTo" ReflectliteType.assignableTo #[.agg #[.pointer (some ⟨5, 28, none⟩)], .iface 192 (.agg #[.pointer (some ⟨5, 28, none⟩)])]).run Tryz.prog w = .ok (.bool true) w := by kernel_rfl
theorem er_valueOfE (e : Int) (w : World) : (ReflectliteValue.unpack (.iface 28 (.int .i64 e))).run Tryz.prog w
    = .ok (.agg #[.pointer (some ⟨5,28,none⟩),.pointer (some ⟨w.heap.size,0,none⟩),.int .u64 130]) (w.alloc (.cells #[.int .i64 e] 28)) := by kernel_rfl
theorem er_elemOf (w : World) : (Rtype.elem? 129).run Tryz.prog w = .ok (some 28) w := by kernel_rfl
theorem er_mkE (p : Addr) (w : World) : (ReflectliteValue.mk 28 p ReflectliteValue.flagAddr).run Tryz.prog w = .ok (.agg #[.pointer (some ⟨5,28,none⟩),.pointer (some p),.int .u64 386]) w := by kernel_rfl
theorem er_elemV (a p : Addr) (W : World) (ha : W.cell? a = some (.pointer (some p))) :
    (ReflectliteValue.method (ReflectliteValue.valueError "reflectlite.Value.Elem" 0) ReflectliteValue.elem #[.agg #[.pointer (some ⟨5, 129, none⟩), .pointer (some a), .int .u64 150]]).run Tryz.prog W
      = .ok (.agg #[.pointer (some ⟨5,28,none⟩),.pointer (some p),.int .u64 386]) W := by
  rw [er_rlm]
  simp only [Sem.run_bind,er_partsP,Result.andThen]
  simp [ReflectliteValue.elem,loadVar,isAgg,underlying,Tryz.underlying129,ha,Result.andThen,er_elemOf,er_mkE]
theorem er_rls (v x : Value) : ReflectliteValue.set #[v, x] = (do
    let (some (dst, a, fl), some (src, b, _)) := (← ReflectliteValue.parts v, ← ReflectliteValue.parts x)
      | unsupported (.noEntry "extern/(internal/reflectlite.Value).Set.zeroValue")
    if fl / ReflectliteValue.flagAddr % 2 == 0 then unsupported (.noEntry "extern/(internal/reflectlite.Value).Set.unaddressable")
    let val ← loadVar src b
    if ← Rtype.directlyAssignable dst src then storeVar dst a val
    else if ← Rtype.implements dst src then
      if (← Rtype.kind src) == 20 then
        match val with
        | .nilIface => unsupported (.noEntry "extern/reflectlite: a nil value of one interface type handed on as a value of another")
        | _ => storeVar dst a val
      else storeVar dst a (.iface src val)
    else panicString ("reflectlite.Set: value of type " ++ (← Rtype.spelt src) ++ " is not assignable to type " ++ (← Rtype.spelt dst))
    pure (.tuple #[])) := rfl
theorem er_partsA (a : Addr) (w : World) : (ReflectliteValue.parts (.agg #[.pointer (some ⟨5,28,none⟩),.pointer (some a),.int .u64 386])).run Tryz.prog w = .ok (some (28,a,386)) w := by kernel_rfl
theorem er_partsE (a : Addr) (w : World) : (ReflectliteValue.parts (.agg #[.pointer (some ⟨5,28,none⟩),.pointer (some a),.int .u64 130])).run Tryz.prog w = .ok (some (28,a,130)) w := by kernel_rfl
theorem er_direct (w : World) : (Rtype.directlyAssignable 28 28).run Tryz.prog w = .ok true w := by kernel_rfl
theorem er_set (ta b : Addr) (e : Int) (old : Value) (W : World) (hb : W.cell? b = some (.int .i64 e)) (ht : W.cell? ta = some old) (hf : W.frozen? ta = false) :
    (ReflectliteValue.set #[.agg #[.pointer (some ⟨5, 28, none⟩), .pointer (some ta), .int .u64 386], .agg #[.pointer (some ⟨5, 28, none⟩), .pointer (some b), .int .u64 130]]).run Tryz.prog W
      = .ok (.tuple #[]) (W.setCell ta (.int .i64 e)) := by
  rw [er_rls]
  simp only [Sem.run_bind,er_partsA,er_partsE,Result.andThen]
  simp [ReflectliteValue.flagAddr,loadVar,isAgg,underlying,Tryz.underlying28,hb,Result.andThen,er_direct,storeVar,Value.cells,storeCells,Addr.add]
  rw [run_store Tryz.prog W ta _ _ (by rfl)]
  simp [ht,hf]
def asW1 (w : World) (t : Addr) : World := (w.alloc (.cells #[.pointer (some t)] 129)).alloc (.cells #[.pointer (some ⟨5,129,none⟩),.pointer (some ⟨w.heap.size,0,none⟩),.int .u64 150] 159)
def asW2 (w : World) (t : Addr) : World := (asW1 w t).alloc (.cells #[.pointer (some ⟨5,129,none⟩),.pointer (some ⟨w.heap.size,0,none⟩),.int .u64 150] 159)
def asW3 (w : World) (t : Addr) (e : Int) : World := (asW2 w t).alloc (.cells #[.int .i64 e] 28)
set_option maxHeartbeats 4000000 in
theorem as_hit (e : Int) (t : Addr) (old : Value) (w : World) (hg : w.cell? ⟨1,0,none⟩ = some (.iface 192 (.agg #[.pointer (some ⟨5,65,none⟩)]))) (ht0 : w.cell? t = some old) (hf0 : w.frozen? t = false) :
    Calls Tryz.prog 113 #[.iface 28 (.int .i64 e),.iface 129 (.pointer (some t))] w fun ev w' => ev = .returned (.bool true) ∧ w' = (asW3 w t e).setCell t (.int .i64 e) := by
  have hValueOf := @run_callFunc_extern Tryz.prog 152 _ (fun args => ReflectliteValue.unpack (args.getD 0 (.tuple #[]))) Tryz.func152 (by kernel_rfl) (by kernel_rfl) (by kernel_rfl) (by kernel_rfl)
  have hType := @run_callFunc_extern Tryz.prog 153 _ (ReflectliteValue.methodAny (ReflectliteValue.valueError "reflectlite.Value.Type" 0) (fun t _ _ _ => ReflectliteType.toType t)) Tryz.func153 (by kernel_rfl) (by kernel_rfl) (by kernel_rfl) (by kernel_rfl)
  have hIsNil := @run_callFunc_extern Tryz.prog 154 _ (ReflectliteValue.method (ReflectliteValue.valueError "reflectlite.Value.IsNil" 0) ReflectliteValue.isNil) Tryz.func154 (by kernel_rfl) (by kernel_rfl) (by kernel_rfl) (by kernel_rfl)
  have hKind := @run_callFunc_extern Tryz.prog 269 _ (ReflectliteType.abiMethod fun t => do pure (.int .u8 (← Rtype.kind t))) Tryz.func269 (by kernel_rfl) (by kernel_rfl) (by kernel_rfl) (by kernel_rfl)
  have htElem := @run_callFunc_extern Tryz.prog 279 _ (ReflectliteType.method ReflectliteType.elem) Tryz.func279 (by kernel_rfl) (by kernel_rfl) (by kernel_rfl) (by kernel_rfl)
  have hImpl := @run_callFunc_extern Tryz.prog 280 _ (ReflectliteType.relation "Implements" ReflectliteType.implements_) Tryz.func280 (by kernel_rfl) (by kernel_rfl) (by kernel_rfl) (by kernel_rfl)
  have hTypeOf := @run_callFunc_extern Tryz.prog 200 _ ReflectliteType.typeOf Tryz.func200 (by kernel_rfl) (by kernel_rfl) (by kernel_rfl) (by kernel_rfl)
  have hAss := @run_callFunc_extern Tryz.prog 277 _ (ReflectliteType.relation "AssignableTo" ReflectliteType.assignableTo) Tryz.func277 (by kernel_rfl) (by kernel_rfl) (by kernel_rfl) (by kernel_rfl)
  have hvElem := @run_callFunc_extern Tryz.prog 201 _ (ReflectliteValue.method (ReflectliteValue.valueError "reflectlite.Value.Elem" 0) ReflectliteValue.elem) Tryz.func201 (by kernel_rfl) (by kernel_rfl) (by kernel_rfl) (by kernel_rfl)
  have hSet := @run_callFunc_extern Tryz.prog 202 _ ReflectliteValue.set Tryz.func202 (by kernel_rfl) (by kernel_rfl) (by kernel_rfl) (by kernel_rfl)
  have k_er_typeOfE := er_typeOfE
  have k_er_mAss := er_mAss
  have k_er_assE := er_assE
  have k_er_valueOfE := er_valueOfE
  have k_er_valueOfP := er_valueOfP
  have k_er_typeP := er_typeP
  have k_er_mKind := er_mKind
  have k_er_mElem := er_mElem
  have k_er_mImpl := er_mImpl
  have k_er_kindP := er_kindP
  have k_er_kindE := er_kindE
  have k_er_elemP := er_elemP
  have k_er_implE := er_implE
  have n8 := er_isNilP ⟨w.heap.size,0,none⟩ t (asW1 w t) (by unfold asW1; simp)
  have hlt : 1 < w.heap.size := by
    rcases Nat.lt_or_ge 1 w.heap.size with h | h
    · exact h
    · simp [World.cell?,Array.getElem?_eq_none h] at hg
  have hg2 : (asW1 w t).cell? ⟨1,0,none⟩ = some (.iface 192 (.agg #[.pointer (some ⟨5,65,none⟩)])) := by
    unfold asW1
    rw [World.cell?_alloc_lt _ _ ⟨1,0,none⟩ (by simp; omega),World.cell?_alloc_lt _ _ ⟨1,0,none⟩ hlt]; exact hg
  have htl : t.block < w.heap.size := by
    rcases Nat.lt_or_ge t.block w.heap.size with h | h
    · exact h
    · simp [World.cell?,Array.getElem?_eq_none h] at ht0
  have el := er_elemV ⟨w.heap.size,0,none⟩ t (asW2 w t) (by unfold asW2 asW1; rw [World.cell?_alloc_lt _ _ ⟨w.heap.size,0,none⟩ (by simp; omega)]; simp)
  have st := er_set t ⟨w.heap.size + 1 + 1 + 1, 0, none⟩ e old (asW3 w t e)
    (by unfold asW3 asW2 asW1; rw [World.cell?_alloc_at _ _ _ _ (by simp)]; rfl)
    (by unfold asW3 asW2 asW1; rw [World.cell?_alloc_lt _ _ t (by simp; omega),World.cell?_alloc_lt _ _ t (by simp; omega),World.cell?_alloc_lt _ _ t (by simp; omega),World.cell?_alloc_lt _ _ t htl]; exact ht0)
    (by unfold asW3 asW2 asW1; rw [World.frozen?_alloc_old _ _ t (by simp; omega),World.frozen?_alloc_old _ _ t (by simp; omega),World.frozen?_alloc_old _ _ t (by simp; omega),World.frozen?_alloc_old _ _ t (Nat.ne_of_lt htl)]; exact hf0)
  unfold asW3 asW2 asW1 at *
  go_enter Tryz.func113,Tryz.ntmps113
  go_wp2
  refine wp_loop_rounds 1 ?_
  rw [rounds_succ]
  go_wp2
  go_ret
  exact ⟨rfl,rfl⟩
end Go.Proofs.YtgnnlaeikcnhcaaGreatDoor
end
section
namespace Go.Proofs.YtgnnlaeikcnhcaaGreatDoor
open Go Go.Vk Go.RowKit
def ET (w : World) : Prop := w.cell? ⟨1,0,none⟩ = some (.iface 192 (.agg #[.pointer (some ⟨5,65,none⟩)]))
theorem ET.ext {w w' : World} (h : ET w) (hx : Ext w w') : ET w' := cell_ext hx h
theorem et_g : Tryz.prog.globalNamed "errors.errorType" = some 1 := by kernel_rfl
theorem et_rt : (Tryz.prog.cutTypes.find? (·.1 == "internal/reflectlite.rtype")).map (·.2) = some 192 := by kernel_rfl
theorem et_size : Tryz.prog.types.size = 251 := by kernel_rfl
theorem et_row : ((List.range 251).filter fun t => Tryz.prog.rowNamed t [101,114,114,111,114]) = [65] := by kernel_rfl
theorem et_of {W : World} (h : handlesMet Tryz.prog [("errors.errorType", Rows.laid_errors_errorType)] W) : ET W := by
  obtain ⟨name,u,ty,e1,e2,e3,e4,e5⟩ := h _ (List.mem_singleton.2 rfl)
  have en : name = [101,114,114,111,114] := (Option.some.inj e1).symm
  subst en
  obtain rfl := Option.some.inj (et_rt.symm.trans e2)
  have hm : ty ∈ (List.range 251).filter fun t => Tryz.prog.rowNamed t [101,114,114,111,114] := List.mem_filter.2 ⟨List.mem_range.2 (by rw [← et_size]; exact e3),e4⟩
  rw [et_row] at hm
  obtain rfl := List.mem_singleton.1 hm
  have hh : typeHandle Tryz.prog 65 = .pointer (some ⟨5,65,none⟩) := by kernel_rfl
  rw [hh] at e5
  unfold ET
  simpa using World.var?_cell et_g e5 0
theorem as_hit_c {w : World} (he : ET w) (e : Int) {p : Nat} (hp : w.heap[p]? = some (.cells #[.int .i64 0] 28 (0,0))) :
    Gives Tryz.prog 113 #[.iface 28 (.int .i64 e),.iface 129 (.pointer (some ⟨p,0,none⟩))] w fun v w' => v = .bool true ∧ Upd (fun q => q = p) w w' ∧ w'.heap[p]? = some (.cells #[.int .i64 e] 28 (0,0)) := by
  have ht0 : w.cell? ⟨p,0,none⟩ = some (.int .i64 0) := by rw [cell_h,hp,cellO_cells]; rfl
  have hf0 : w.frozen? ⟨p,0,none⟩ = false := by simp [World.frozen?,hp]
  refine .inl ⟨Tryz.call113,(as_hit e ⟨p,0,none⟩ _ w he ht0 hf0).mono fun v w' ⟨h1,h2⟩ => ⟨_,h1,rfl,?_⟩⟩
  have hx : Ext w (asW3 w ⟨p,0,none⟩ e) := by
    unfold asW3 asW2 asW1
    exact ((((Ext.alloc _ _).trans (Ext.alloc _ _)).trans (Ext.alloc _ _)).trans (Ext.alloc _ _))
  have up : Upd (fun q => q = p) (asW3 w ⟨p,0,none⟩ e) ((asW3 w ⟨p,0,none⟩ e).setCell ⟨p,0,none⟩ (.int .i64 e)) := Upd.setCell (F := fun q => q = p) (a := ⟨p,0,none⟩) _ rfl _
  subst h2
  refine ⟨Upd.trans hx.upd up fun _ _ h => h,?_⟩
  rw [heap_set_h,if_pos rfl,hx.blk hp]; rfl
set_option maxHeartbeats 40000000
section
variable {w0 w : World} {Q : Nat → Prop} {pb ps pl pa : Nat} {b : BSt}
theorem berr_c (h : BuAt w0 w Q pb ps pl pa b) (hg : ET w0) : Gives Tryz.prog 31 #[.pointer (some ⟨pb,0,none⟩)] w fun v w' => v = .int .i64 (b.err.getD 0) ∧ Ext w w' := by
  cases he : b.err with
  | none => exact berr0_c h he
  | some e =>
    obtain ⟨ma,mn,mc,av,_,_,hh⟩ := h.hd
    rw [he] at hh
    have hx := Ext.alloc w (.cells #[.int .i64 0] 28)
    have hh2 := hx.blk hh
    have hz : (w.alloc (.cells #[.int .i64 0] 28)).heap[w.heap.size]? = some (.cells #[.int .i64 0] 28 (0,0)) := by rw [heap_alloc_h,if_pos rfl]
    refine Gives.of_W Tryz.call31 Tryz.func31 rfl Tryz.ntmps31 (by simp) ?_; intro Z hZ
    (repeat revert hK K);refine W0 ?_;repeat with_reducible intro K hK
    refine (bnone_c h).mono ?_
    intro v w' ⟨hv,hw⟩
    subst hv; subst w'
    (repeat revert hK K);refine W2 (RunV_zero Tryz.zeroValue28) @vcells_int ?_;repeat with_reducible intro K hK
    generalize w.alloc (.cells #[.int .i64 0] 28) = w2 at *
    (repeat first|(with_reducible first|(refine hK _ _ ?_;clear hK K)|refine ‹∀σ w,_→K σ w› _ _ ?_|(refine W_st ?_;constructor;try intro K hK))|((with_reducible first|refine hZ _ _ ?_|refine W_rg ?_|skip);repeat1' simp only[push_cast,seval,-Nat.reduceSubDiff,cell_h,cellO_cells,hh2,errV,mkPtr])|((repeat((fail_if_success with_reducible refine hK _ _ ?_);clear hK K));with_reducible refine hK _ _ ?_;clear hK K))
    refine (as_hit_c ((hg.ext h.out).ext hx) e hz).mono ?_
    rintro v w3 ⟨rfl,hu,h3⟩
    (repeat revert hK K);refine Wc1 @h3 ?_;repeat with_reducible intro K hK
    exact ⟨rfl,Upd.trans hx hu fun q hq e => by omega⟩
end
end Go.Proofs.YtgnnlaeikcnhcaaGreatDoor
end
section
namespace Go.Vk
open Go Go.Proofs.YtgnnlaeikcnhcaaGreatDoor
theorem K_cut {P : Program} {n : Nat} {K K0 : Regs → World → Prop} {X : Outs} {c : Code} (hK : ∀ σ' w',W P n σ' w' c K0 X → K σ' w') (τ : Regs) (I : World → Prop) (h2 : ∀ w',I w' → W P n τ w' c K0 X) {G : Prop} (hg : (∀ σ' w',(Sub τ σ' ∧ I w') → K σ' w') → G) : G :=
  hg fun σ' w' h => hK σ' w' ((h2 w' h.2).sub h.1)
theorem W_flatR {P : Program} {n : Nat} {l l' : List Oper} {id : Nat} {b : Bool} {σ : Regs} {w : World} {K : Regs → World → Prop} {X : Outs} (hl : l = l') (h : W P n σ w (.region id l'.toArray b) K X) : W P n σ w (.region id l.toArray b) K X := by subst hl; exact h
def Bo (w0 w : World) (pb ps pl pa pd : Nat) (b d : BSt) : Prop := ∃ x,DcM w pd d x ∧ (∀ q ∈ x.own pd,w0.heap.size ≤ q) ∧ BuAt w0 w (fun q => q ∈ x.own pd) pb ps pl pa b
section
variable {w0 w w' : World} {pb ps pl pa pd : Nat} {b b' d d' : BSt}
theorem Bo.out (h : Bo w0 w pb ps pl pa pd b d) : Ext w0 w := let ⟨_,_,_,h⟩ := h; h.out
theorem Bo.pass (h : Bo w0 w pb ps pl pa pd b d) (hx : Ext w w') : Bo w0 w' pb ps pl pa pd b d := let ⟨x,h1,h2,h3⟩ := h; ⟨x,h1.ext hx,h2,h3.pass hx⟩
theorem Bo.prog (h : Bo w0 w pb ps pl pa pd b d) : ∃ Q : Nat → Prop,(∀ q,Q q → q < w.heap.size) ∧ BuAt w0 w Q pb ps pl pa b ∧ ∀ w' b',BuAt w0 w' Q pb ps pl pa b' → Upd (AF w0 Q) w w' → Bo w0 w' pb ps pl pa pd b' d := by
  obtain ⟨x,h1,h2,h3⟩ := h
  exact ⟨_,fun q hq => h1.lt hq,h3,fun w' b' g1 g2 => ⟨x,h1.upd g2 fun q hq hf => hf.2 hq,h2,g1⟩⟩
theorem Bo.doc (h : Bo w0 w pb ps pl pa pd b d) : ∃ S1 : Nat → Prop,(∀ q,S1 q → w0.heap.size ≤ q) ∧ Dc w S1 w pd d ∧ ∀ w' d',Dc w S1 w' pd d' → Bo w0 w' pb ps pl pa pd b d' := by
  obtain ⟨x,h1,h2,h3⟩ := h
  refine ⟨fun q => q ∈ x.own pd,h2,⟨Upd.refl _ _,x,h1,fun q hq => .inl hq⟩,fun w' d' g => ?_⟩
  obtain ⟨g1,x',g2,g3⟩ := g
  have hs := h3.out.alike.size
  refine ⟨x',g2,fun q hq => ?_,h3.app g1 (fun q _ hq => ⟨hq,h2 q hq⟩) fun q hq => ?_⟩
  · rcases g3 q hq with h | h
    · exact h2 q h
    · omega
  · rcases g3 q hq with h | h
    · exact .inl h
    · exact .inr ⟨h,g2.lt hq⟩
theorem DcM.apart {x : DX} (h : DcM w pd d x) : ∀ m ∈ x.M,∀ q ∈ m.blks,some x.bn ≠ some q := by
  intro m hm q hq e
  cases e
  have own := h.own
  rw [DX.own,List.nodup_append] at own
  exact (List.nodup_cons.1 own.2.1).1 (List.mem_flatMap.2 ⟨m,hm,hq⟩)
theorem dentCells_c {w : World} {v : Value} {l : List Int} {bo : Option Nat} (h : SlAt w 2 v (dentCells l) bo) {k : Nat} {y : Int} (hy : l[k]? = some y) {a : Option Addr} {n c : Nat} (e : v = .slice a n c) : ∃ q o,a = some ⟨q,o,none⟩ ∧ cellO (w.heap[q]?) (o + k * 2) = some (.bool (decide (y = -1))) ∧ cellO (w.heap[q]?) (o + k * 2 + 1) = some (.int .i64 y) := by
  obtain ⟨q,o,n',c',e2,hb⟩ := h.some_of (by
    intro e3
    have := dentCells_length l
    rw [e3] at this
    have := (List.getElem?_eq_some_iff.1 hy).1
    simp at *; omega)
  rw [e] at e2
  cases e2
  rw [e] at h
  obtain ⟨g1,g2⟩ := dentCells_get hy
  exact ⟨q,o,rfl,by rw [← cell_h]; exact h.get g1,by rw [← cell_h]; exact h.get g2⟩
theorem dints_at {w : World} {a : Option Addr} {n c : Nat} {l : List Int} {bo : Option Nat} (h : SlAt w 1 (.slice a n c) (intCells l) bo) {k : Nat} {j : Int} (hk : l[k]? = some j) : ∃ q o,a = some ⟨q,o,none⟩ ∧ cellO (w.heap[q]?) (o + k) = some (.int .i64 j) := by
  obtain ⟨q,o,n',c',e2,hb⟩ := h.some_of (by
    intro e3
    have := intCells_length l
    rw [e3] at this
    have := (List.getElem?_eq_some_iff.1 hk).1
    simp at *; omega)
  cases e2
  exact ⟨q,o,rfl,by rw [← cell_h]; exact h.ints_cell hk⟩
theorem atS_nds {s : List OpS} {k : Nat} {j : Int} (h : (nds s)[k]? = some j) : atS s (k : Int) = j := by
  obtain ⟨e,hl⟩ := nds_get h
  unfold atS
  rw [if_pos ⟨by omega,by omega⟩,Int.toNat_natCast]
  exact e
end
end Go.Vk
namespace Go.Proofs.YtgnnlaeikcnhcaaGreatDoor
open Go Go.Vk
set_option maxHeartbeats 40000000
section
variable {w0 w : World} {pb ps pl pa pd : Nat} {b : BSt}
set_option maxRecDepth 20000 in
set_option maxHeartbeats 4000000 in
theorem same17_c (hB : Bo w0 w pb ps pl pa pd b b) (hE : ET w0) (he : b.err = none) (hok : okB b) (hmd : b.modes.length < 1000) (hs : b.s.length < 10000) (hl : b.l.length < 10000) (hkd : ∀ n ∈ b.L,n.kids.length < 1000000000) :
    Gives Tryz.prog 88 #[.pointer (some ⟨pb,0,none⟩),.pointer (some ⟨pd,0,none⟩)] w fun v w' => v = .bool true ∧ Bo w0 w' pb ps pl pa pd { b with ask := none } { b with ask := none } := by
  obtain ⟨x,hM,hlo,hBu⟩ := hB
  have he0 : b.err.getD 0 = 0 := by rw [he]; rfl
  obtain ⟨oa,oc,la,lc,ma,mc,eo,ho,el,hlc,em,hmc,hcap,hh⟩ := hM.hd
  rw [he0] at hh
  refine Gives.of_W Tryz.call88 Tryz.func88 rfl Tryz.ntmps88 (by simp) ?_; intro Z hZ
  (repeat first|(with_reducible first|(refine hK _ _ ?_;clear hK K)|refine ‹∀σ w,_→K σ w› _ _ ?_|(refine W_st ?_;constructor;try intro K hK))|((with_reducible first|refine hZ _ _ ?_|refine W_rg ?_|skip);repeat1' simp only[push_cast,seval,-Nat.reduceSubDiff])|((repeat((fail_if_success with_reducible refine hK _ _ ?_);clear hK K));with_reducible refine hK _ _ ?_;clear hK K))
  refine W_drawN (.pas 0 (.pas 2 (.pas 3 (.pas 4 (.pas 5 (.act 1 (.pas 6 .fin))))))) (fun q => q = pd) 7 rfl (by decide) mixed (by kernel_rfl) ?_
  have hxd := Ext.drew w
  have hBd := hBu.pass hxd
  have hMd := hM.ext hxd
  have hhd := hxd.blk hh
  generalize w.drew = wd at *
  have lpd : pd < wd.heap.size := blk_lt hhd
  (repeat (first | ((first | refine pas_plain rfl ?_ | refine pas_g rfl rfl ?_ | refine act_plain rfl ?_ | refine act_g rfl rfl ?_ | refine last_plain rfl ?_ | refine tail_plain rfl ?_ | refine tail_g rfl rfl ?_); (repeat simp only [push_cast,seval,-Nat.reduceSubDiff,cell_h,cellO_cells,hhd,decide_true,decide_false,beq_self_eq_true,eq_self,not_true_eq_false,not_false_eq_true])) | (refine tail_fin ?_) | (refine sch_fin ?_)))
  refine (berr_c hBd hE).mono ?_
  rintro v w1 ⟨rfl,hx1⟩
  rw [he0]
  refine ⟨kept_upd hx1 fun q hq => ⟨by have : q = pd := hq; omega,id⟩,?_⟩
  have hh1 := hx1.blk hhd
  have hB1 := hBd.pass hx1
  have hM1 := hMd.ext hx1
  (repeat (first | ((first | refine pas_plain rfl ?_ | refine pas_g rfl rfl ?_ | refine act_plain rfl ?_ | refine act_g rfl rfl ?_ | refine last_plain rfl ?_ | refine tail_plain rfl ?_ | refine tail_g rfl rfl ?_); (repeat simp only [push_cast,seval,-Nat.reduceSubDiff,cell_h,cellO_cells,hhd,decide_true,decide_false,beq_self_eq_true,eq_self,not_true_eq_false,not_false_eq_true])) | (refine tail_fin ?_) | (refine sch_fin ?_)))
  (repeat first|(with_reducible first|(refine hK _ _ ?_;clear hK K)|refine ‹∀σ w,_→K σ w› _ _ ?_|(refine W_st ?_;constructor;try intro K hK))|((with_reducible first|refine hZ _ _ ?_|refine W_rg ?_|skip);repeat1' simp only[push_cast,seval,-Nat.reduceSubDiff,cell_h,cellO_cells,hh1,decide_true,decide_false,beq_self_eq_true,eq_self,not_true_eq_false,not_false_eq_true])|((repeat((fail_if_success with_reducible refine hK _ _ ?_);clear hK K));with_reducible refine hK _ _ ?_;clear hK K))
  refine (bmodes_c hB1 (by omega)).mono ?_
  rintro v w2 ⟨bo2,hmv,hx2,hbo2⟩
  obtain ⟨va,vc,rfl,hvc⟩ := hmv.ints_len
  have hq0 := hB1.out.alike.size
  have hB2 := hB1.more (Q' := fun q => q ∈ x.own pd ∨ bo2 = some q) hx2 fun q hq => by
    rcases hq with hq | hq
    · exact .inl hq
    · exact .inr ⟨hbo2 q hq,by have := hmv; rw [hq] at this; exact this.lt⟩
  have hM2 := hM1.ext hx2
  have hh2 := hx2.blk hh1
  (repeat first|(with_reducible first|(refine hK _ _ ?_;clear hK K)|refine ‹∀σ w,_→K σ w› _ _ ?_|(refine W_st ?_;constructor;try intro K hK))|((with_reducible first|refine hZ _ _ ?_|refine W_rg ?_|skip);repeat1' simp only[push_cast,seval,-Nat.reduceSubDiff])|((repeat((fail_if_success with_reducible refine hK _ _ ?_);clear hK K));with_reducible refine hK _ _ ?_;clear hK K))
  refine (bask_c hB2).mono ?_
  rintro v w4 ⟨rfl,hB4,hu4⟩
  have hM4 : DcM w4 pd b x := hM2.upd hu4 fun q hq hf => hf.2 (.inl hq)
  have hh4 := (hu4.same pd (blk_lt hh2) fun hf => hf.2 (.inl (DX.mem.2 (.inl rfl)))).trans hh2
  have hmv4 : SlAt w4 1 (.slice va b.modes.length vc) (intCells b.modes) bo2 := hmv.upd hu4 fun q hq hf => hf.2 (.inr hq)
  have hbn2 : ∀ q,bo2 = some q → q ∉ x.own pd := fun q hq hm => by have := hbo2 q hq; have := hM1.lt hm; omega
  (repeat first|(with_reducible first|(refine hK _ _ ?_;clear hK K)|refine ‹∀σ w,_→K σ w› _ _ ?_|(refine W_st ?_;constructor;try intro K hK))|((with_reducible first|refine hZ _ _ ?_|refine W_rg ?_|skip);repeat1' simp only[push_cast,seval,-Nat.reduceSubDiff,tup0,tup1,tup2])|((repeat((fail_if_success with_reducible refine hK _ _ ?_);clear hK K));with_reducible refine hK _ _ ?_;clear hK K))
  rename_i Ka hKa
  refine K_cut hKa [(0,.pointer (some ⟨pb,0,none⟩)),(1,.pointer (some ⟨pd,0,none⟩)),(5,.slice va b.modes.length vc)] (fun w' => Ext w4 w') ?tail fun hKa => ?_
  case tail =>
    intro w7 hx7
    have hM7 := hM4.ext hx7
    have hmv7 := hmv4.ext hx7
    obtain ⟨z,hM8,u8⟩ := hM7.put { b with ask := none } 12 (.bool false) x.st x.nm (by rfl) (by decide) ⟨rfl,rfl,rfl,rfl⟩ (fun y hy => by cases hy)
    have hB8 := (hB4.pass hx7).app (Q' := fun q => q ∈ x.own pd) u8 (fun q _ hq => ⟨.inl hq,hlo q hq⟩) fun q hq => .inl (.inl hq)
    have hmv8 := hmv7.upd u8 fun q hq hm => hbn2 q hq hm
    have hBo : Bo w0 (w7.setCell ⟨pd,12,none⟩ (.bool false)) pb ps pl pa pd { b with ask := none } { b with ask := none } := ⟨_,hM8,hlo,hB8⟩
    (repeat first|(with_reducible first|(refine hK _ _ ?_;clear hK K)|refine ‹∀σ w,_→K σ w› _ _ ?_|(refine W_st ?_;constructor;try intro K hK))|((with_reducible first|refine hZ _ _ ?_|refine W_rg ?_|skip);repeat1' simp only[push_cast,seval,-Nat.reduceSubDiff,z])|((repeat((fail_if_success with_reducible refine hK _ _ ?_);clear hK K));with_reducible refine hK _ _ ?_;clear hK K))
    generalize w7.setCell ⟨pd,12,none⟩ (.bool false) = w8 at *
    obtain ⟨oa8,oc8,la8,lc8,ma8,mc8,eo8,ho8,el8,hlc8,em8,hmc8,hcap8,hh8⟩ := hM8.hd
    dsimp only at eo8 el8 em8 hh8 ho8 hlc8 hmc8
    have lpd : pd < w8.heap.size := blk_lt hh8
    have hmd8 := hM8.md
    have hop8 := hM8.op
    have hls8 := hM8.ls
    dsimp only at hmd8 hop8 hls8
    rw [em8] at hmd8
    rw [eo8] at hop8
    have hol := nds_lenD b.s
    refine W_loop (S := Nat) (fun k => [(0, .pointer (some ⟨pb, 0, none⟩)), (1, .pointer (some ⟨pd, 0, none⟩)), (5, .slice va b.modes.length vc), (9, .int .i64 (k : Int))])
      (fun k w9 => k ≤ b.modes.length ∧ Ext w8 w9) (fun k => b.modes.length - k) 0 ?_ ?_ ?_
    · (repeat simp only [push_cast,seval,-Nat.reduceSubDiff])
    · exact ⟨by omega,Ext.refl _⟩
    rintro k w9 ⟨hk,hx9⟩
    by_cases hkl : k < b.modes.length
    · obtain ⟨j, hj⟩ : ∃ j, b.modes[k]? = some j := ⟨_, List.getElem?_eq_getElem hkl⟩
      obtain ⟨q1,o1,rfl,c1⟩ := dints_at hmv8 hj
      obtain ⟨q2,o2,rfl,c2⟩ := dints_at hmd8 hj
      have hxd := hx9.trans (Ext.drew w9)
      have c1d := dO_ext hxd c1
      have c2d := dO_ext hxd c2
      have hhd := hxd.blk hh8
      have b0 : (k : Int) < (b.modes.length : Int) := by omega
      have b1 : (0 : Int) ≤ (k : Int) := by omega
      have b2 : inI64 ((k : Int) + 1) := by unfold inI64; omega
      (repeat first|(with_reducible first|(refine hK _ _ ?_;clear hK K)|refine ‹∀σ w,_→K σ w› _ _ ?_|(refine W_st ?_;constructor;try intro K hK))|((with_reducible first|refine hZ _ _ ?_|refine W_rg ?_|skip);repeat1' simp only[push_cast,seval,-Nat.reduceSubDiff,b0])|((repeat((fail_if_success with_reducible refine hK _ _ ?_);clear hK K));with_reducible refine hK _ _ ?_;clear hK K))
      refine W_drawN (.pas 0 (.pas 1 (.pas 2 (.pas 3 (.pas 4 (.pas 5 (.pas 6 (.pas 7 (.pas 8 (.pas 9 (.pas 10 (.pas 11 .fin)))))))))))) (fun _ => True) 12 rfl (by decide) mixed (by kernel_rfl) ?_
      generalize w9.drew = wd at *
      (repeat (first | ((first | refine pas_plain rfl ?_ | refine pas_g rfl rfl ?_ | refine act_plain rfl ?_ | refine act_g rfl rfl ?_ | refine last_plain rfl ?_ | refine tail_plain rfl ?_ | refine tail_g rfl rfl ?_); (repeat simp only [push_cast,seval,-Nat.reduceSubDiff,cell_h,cellO_cells,hhd,decide_true,decide_false,beq_self_eq_true,eq_self,not_true_eq_false,not_false_eq_true,b0,b1,c1d,c2d])) | (refine tail_fin ?_) | (refine sch_fin ?_)))
      (repeat first|(with_reducible first|(refine hK _ _ ?_;clear hK K)|refine ‹∀σ w,_→K σ w› _ _ ?_|(refine W_st ?_;constructor;try intro K hK))|((with_reducible first|refine hZ _ _ ?_|refine W_rg ?_|skip);repeat1' simp only[push_cast,seval,-Nat.reduceSubDiff,b2])|((repeat((fail_if_success with_reducible refine hK _ _ ?_);clear hK K));with_reducible refine hK _ _ ?_;clear hK K))
      refine ⟨k + 1,by omega,?_⟩
      (repeat simp only [push_cast,seval,-Nat.reduceSubDiff])
      exact ⟨by omega,hxd⟩
    have hke : k = b.modes.length := by omega
    subst hke
    have b0 : ¬ (b.modes.length : Int) < (b.modes.length : Int) := by omega
    (repeat first|(with_reducible first|(refine hK _ _ ?_;clear hK K)|refine ‹∀σ w,_→K σ w› _ _ ?_|(refine W_st ?_;constructor;try intro K hK))|((with_reducible first|refine hZ _ _ ?_|refine W_rg ?_|skip);repeat1' simp only[push_cast,seval,-Nat.reduceSubDiff,b0])|((repeat((fail_if_success with_reducible refine hK _ _ ?_);clear hK K));with_reducible refine hK _ _ ?_;clear hK K))
    refine W_loop (S := Nat) (fun k => [(0, .pointer (some ⟨pb, 0, none⟩)), (1, .pointer (some ⟨pd, 0, none⟩)), (10, .int .i64 (k : Int))])
      (fun k w10 => k ≤ b.s.length ∧ Ext w9 w10) (fun k => b.s.length - k) 0 ?_ ?_ ?_
    · (repeat simp only [push_cast,seval,-Nat.reduceSubDiff])
    · exact ⟨by omega,Ext.refl _⟩
    rintro k w10 ⟨hk,hx10⟩
    have hxa := hx9.trans hx10
    have hha := hxa.blk hh8
    by_cases hkl : k < b.s.length
    · obtain ⟨j, hj⟩ : ∃ j, (nds b.s)[k]? = some j := ⟨_, List.getElem?_eq_getElem (by omega)⟩
      obtain ⟨q2,o2,rfl,c2⟩ := dints_at hop8 hj
      have hxd := hxa.trans (Ext.drew w10)
      have c2d := dO_ext hxd c2
      have hhd := hxd.blk hh8
      have hBd := hB8.pass hxd
      have lq2 := dO_lt c2
      have hxe := hx10.trans (Ext.drew w10)
      have hsat := bsat_c hBd (k : Int)
      rw [show atS ({ b with ask := none } : BSt).s (k : Int) = j from atS_nds hj] at hsat
      have b0 : (k : Int) < (b.s.length : Int) := by omega
      have b1 : (0 : Int) ≤ (k : Int) := by omega
      have b2 : inI64 ((k : Int) + 1) := by unfold inI64; omega
      (repeat first|(with_reducible first|(refine hK _ _ ?_;clear hK K)|refine ‹∀σ w,_→K σ w› _ _ ?_|(refine W_st ?_;constructor;try intro K hK))|((with_reducible first|refine hZ _ _ ?_|refine W_rg ?_|skip);repeat1' simp only[push_cast,seval,-Nat.reduceSubDiff,cell_h,cellO_cells,hha,b0])|((repeat((fail_if_success with_reducible refine hK _ _ ?_);clear hK K));with_reducible refine hK _ _ ?_;clear hK K))
      refine W_drawN (.pas 0 (.pas 2 (.pas 4 (.pas 5 (.pas 6 (.pas 7 (.pas 8 (.pas 9 (.pas 10 (.act 1 (.act 3 (.pas 11 .fin)))))))))))) (fun q => q < w8.heap.size) 12 rfl (by decide) mixed (by kernel_rfl) ?_
      generalize w10.drew = wd at *
      (repeat (first | ((first | refine pas_plain rfl ?_ | refine pas_g rfl rfl ?_ | refine act_plain rfl ?_ | refine act_g rfl rfl ?_ | refine last_plain rfl ?_ | refine tail_plain rfl ?_ | refine tail_g rfl rfl ?_); (repeat simp only [push_cast,seval,-Nat.reduceSubDiff,cell_h,cellO_cells,hhd,decide_true,decide_false,beq_self_eq_true,eq_self,not_true_eq_false,not_false_eq_true,b0,b1,c2d,lpd,lq2])) | (refine tail_fin ?_) | (refine sch_fin ?_)))
      refine (bstack_c hBd).mono ?_
      intro v w' ⟨hv,hw⟩
      subst hv; subst w'
      refine ⟨kept.refl _ _,?_⟩
      (repeat (first | ((first | refine pas_plain rfl ?_ | refine pas_g rfl rfl ?_ | refine act_plain rfl ?_ | refine act_g rfl rfl ?_ | refine last_plain rfl ?_ | refine tail_plain rfl ?_ | refine tail_g rfl rfl ?_); (repeat simp only [push_cast,seval,-Nat.reduceSubDiff,cell_h,cellO_cells,hhd,decide_true,decide_false,beq_self_eq_true,eq_self,not_true_eq_false,not_false_eq_true,b0,b1,c2d,lpd,lq2])) | (refine tail_fin ?_) | (refine sch_fin ?_)))
      refine hsat.mono ?_
      intro v w' ⟨hv,hw⟩
      subst hv; subst w'
      refine ⟨kept.refl _ _,?_⟩
      (repeat (first | ((first | refine pas_plain rfl ?_ | refine pas_g rfl rfl ?_ | refine act_plain rfl ?_ | refine act_g rfl rfl ?_ | refine last_plain rfl ?_ | refine tail_plain rfl ?_ | refine tail_g rfl rfl ?_); (repeat simp only [push_cast,seval,-Nat.reduceSubDiff,cell_h,cellO_cells,hhd,decide_true,decide_false,beq_self_eq_true,eq_self,not_true_eq_false,not_false_eq_true,b0,b1,c2d,lpd,lq2])) | (refine tail_fin ?_) | (refine sch_fin ?_)))
      (repeat first|(with_reducible first|(refine hK _ _ ?_;clear hK K)|refine ‹∀σ w,_→K σ w› _ _ ?_|(refine W_st ?_;constructor;try intro K hK))|((with_reducible first|refine hZ _ _ ?_|refine W_rg ?_|skip);repeat1' simp only[push_cast,seval,-Nat.reduceSubDiff,b2])|((repeat((fail_if_success with_reducible refine hK _ _ ?_);clear hK K));with_reducible refine hK _ _ ?_;clear hK K))
      refine ⟨k + 1,by omega,?_⟩
      (repeat simp only [push_cast,seval,-Nat.reduceSubDiff])
      exact ⟨by omega,hxe⟩
    have hke : k = b.s.length := by omega
    subst hke
    have b0 : ¬ (b.s.length : Int) < (b.s.length : Int) := by omega
    (repeat first|(with_reducible first|(refine hK _ _ ?_;clear hK K)|refine ‹∀σ w,_→K σ w› _ _ ?_|(refine W_st ?_;constructor;try intro K hK))|((with_reducible first|refine hZ _ _ ?_|refine W_rg ?_|skip);repeat1' simp only[push_cast,seval,-Nat.reduceSubDiff,cell_h,cellO_cells,hha,b0])|((repeat((fail_if_success with_reducible refine hK _ _ ?_);clear hK K));with_reducible refine hK _ _ ?_;clear hK K))
    refine W_loop (S := Nat) (fun k => [(0, .pointer (some ⟨pb, 0, none⟩)), (1, .pointer (some ⟨pd, 0, none⟩)), (11, .int .i64 (k : Int))])
      (fun k w11 => k ≤ b.l.length ∧ Ext w10 w11) (fun k => b.l.length - k) 0 ?_ ?_ ?_
    · (repeat simp only [push_cast,seval,-Nat.reduceSubDiff])
    · exact ⟨by omega,Ext.refl _⟩
    rintro k w11 ⟨hk,hx11⟩
    have hxb := hxa.trans hx11
    have hhb := hxb.blk hh8
    by_cases hkl : k < b.l.length
    · obtain ⟨y, hy⟩ : ∃ y, b.l[k]? = some y := ⟨_, List.getElem?_eq_getElem hkl⟩
      obtain ⟨q3,o3,rfl,e1,e2⟩ := dentCells_c hls8 hy el8
      have b0 : (k : Int) < (b.l.length : Int) := by omega
      have b1 : (0 : Int) ≤ (k : Int) := by omega
      have b2 : inI64 ((k : Int) + 1) := by unfold inI64; omega
      have hgd : b.l.getD k 0 = y := by simp [List.getD,hy]
      have hat := bfat_c (hB8.pass hxb) (k : Int)
      dsimp only at hat
      rw [if_pos ⟨b1,b0⟩,Int.toNat_natCast,hgd] at hat
      have hdec : decide ((0 ≤ (k : Int) ∧ (k : Int) < (b.l.length : Int)) ∧ y = -1) = decide (y = -1) := by simp [b0]
      rw [hdec] at hat
      (repeat first|(with_reducible first|(refine hK _ _ ?_;clear hK K)|refine ‹∀σ w,_→K σ w› _ _ ?_|(refine W_st ?_;constructor;try intro K hK))|((with_reducible first|refine hZ _ _ ?_|refine W_rg ?_|skip);repeat1' simp only[push_cast,seval,-Nat.reduceSubDiff,cell_h,cellO_cells,hhb,b0])|((repeat((fail_if_success with_reducible refine hK _ _ ?_);clear hK K));with_reducible refine hK _ _ ?_;clear hK K))
      refine (bforms_c (hB8.pass hxb)).mono ?_
      intro v w' ⟨hv,hw⟩
      subst hv; subst w'
      (repeat first|(with_reducible first|(refine hK _ _ ?_;clear hK K)|refine ‹∀σ w,_→K σ w› _ _ ?_|(refine W_st ?_;constructor;try intro K hK))|((with_reducible first|refine hZ _ _ ?_|refine W_rg ?_|skip);repeat1' simp only[push_cast,seval,-Nat.reduceSubDiff])|((repeat((fail_if_success with_reducible refine hK _ _ ?_);clear hK K));with_reducible refine hK _ _ ?_;clear hK K))
      refine hat.mono ?_
      rintro v w12 ⟨rfl,hx12⟩
      have hxc := hxb.trans hx12
      have hhc := hxc.blk hh8
      have e1c := dO_ext hxc e1
      have e2c := dO_ext hxc e2
      cases hm : decide (y = -1) with
      | true =>
        rw [hm] at e1c
        (repeat first|(with_reducible first|(refine hK _ _ ?_;clear hK K)|refine ‹∀σ w,_→K σ w› _ _ ?_|(refine W_st ?_;constructor;try intro K hK))|((with_reducible first|refine hZ _ _ ?_|refine W_rg ?_|skip);repeat1' simp only[push_cast,seval,-Nat.reduceSubDiff,ext0,ext1,cell_h,cellO_cells,decide_true,decide_false,beq_self_eq_true,eq_self,not_true_eq_false,not_false_eq_true,hhc,b0,b1,e1c,e2c,b2])|((repeat((fail_if_success with_reducible refine hK _ _ ?_);clear hK K));with_reducible refine hK _ _ ?_;clear hK K))
        refine ⟨k + 1,by omega,?_⟩
        (repeat simp only [push_cast,seval,-Nat.reduceSubDiff])
        exact ⟨by omega,hx11.trans hx12⟩
      | false =>
        rw [hm] at e1c
        (repeat first|(with_reducible first|(refine hK _ _ ?_;clear hK K)|refine ‹∀σ w,_→K σ w› _ _ ?_|(refine W_st ?_;constructor;try intro K hK))|((with_reducible first|refine hZ _ _ ?_|refine W_rg ?_|skip);repeat1' simp only[push_cast,seval,-Nat.reduceSubDiff,ext0,ext1,cell_h,cellO_cells,decide_true,decide_false,beq_self_eq_true,eq_self,not_true_eq_false,not_false_eq_true,hhc,b0,b1,e1c,e2c,b2])|((repeat((fail_if_success with_reducible refine hK _ _ ?_);clear hK K));with_reducible refine hK _ _ ?_;clear hK K))
        refine ⟨k + 1,by omega,?_⟩
        (repeat simp only [push_cast,seval,-Nat.reduceSubDiff])
        exact ⟨by omega,hx11.trans hx12⟩
    have hke : k = b.l.length := by omega
    subst hke
    have b0 : ¬ (b.l.length : Int) < (b.l.length : Int) := by omega
    (repeat first|(with_reducible first|(refine hK _ _ ?_;clear hK K)|refine ‹∀σ w,_→K σ w› _ _ ?_|(refine W_st ?_;constructor;try intro K hK))|((with_reducible first|refine hZ _ _ ?_|refine W_rg ?_|skip);repeat1' simp only[push_cast,seval,-Nat.reduceSubDiff,cell_h,cellO_cells,hhb,b0])|((repeat((fail_if_success with_reducible refine hK _ _ ?_);clear hK K));with_reducible refine hK _ _ ?_;clear hK K))
    exact hBo.pass hxb
  have hask : ∀ y,b.ask = some y → x.st = y.1 ∧ x.nm = y.2 := hM.ask
  cases hq : b.ask with
  | none =>
    rw [hq] at hh4
    simp only [Option.getD_none,Option.isSome_none] at hh4 ⊢
    refine W_flatR (by simp only [lapp_cons,lapp_nil]; exact rfl) ?_
    refine W_drawM (.pas 0 (.pas 2 (.pas 3 (.pas 4 (.pas 5 (.act 1 (.pas 6 (.pas 7 (.pas 8 (.pas 10 (.pas 11 (.pas 12 (.pas 13 (.act 9 (.pas 14 (.pas 15 (.pas 16 (.pas 17 (.pas 19 (.pas 20 (.pas 21 (.pas 22 (.act 18 (.pas 23 (.pas 24 (.pas 25 (.pas 26 (.pas 28 (.pas 29 (.pas 30 (.pas 31 (.act 27 (.pas 32 (.pas 33 (.pas 34 (.pas 35 (.pas 37 (.pas 38 (.pas 39 (.pas 40 (.act 36 (.pas 41 (.pas 42 (.pas 43 (.pas 44 (.pas 46 (.pas 47 (.pas 48 (.pas 49 (.act 45 (.pas 50 (.pas 51 (.pas 52 (.pas 53 (.pas 54 (.pas 55 (.pas 56 (.pas 57 (.pas 58 (.pas 59 (.pas 60 (.pas 61 (.pas 62 (.pas 63 (.pas 66 (.pas 67 (.pas 68 (.pas 69 (.pas 70 (.act 64 (.act 65 (.pas 71 (.pas 72 (.pas 73 (.pas 74 (.pas 77 (.pas 78 (.pas 79 (.pas 80 (.pas 81 (.act 75 (.act 76 (.pas 82 (.pas 83 (.pas 84 (.pas 85 (.pas 86 (.pas 87 (.pas 88 (.pas 89 (.pas 90 (.pas 91 (.pas 92 (.pas 93 (.pas 94 (.pas 95 (.pas 96 (.pas 97 (.pas 98 (.pas 99 (.pas 100 (.pas 101 (.pas 102 (.pas 103 (.pas 104 (.pas 105 (.pas 106 (.pas 107 (.pas 108 (.pas 109 (.pas 110 (.pas 111 (.pas 112 (.pas 115 (.pas 116 (.pas 117 (.pas 118 (.act 113 (.act 114 (.act 119 (.pas 120 (.pas 121 .fin)))))))))))))))))))))))))))))))))))))))))))))))))))))))))))))))))))))))))))))))))))))))))))))))))))))))))))))))))))))))))) (fun q => q = pd) 122 [⟨0,1,some 34,true⟩,⟨1,17179869184,some 35,false⟩,⟨0,2,some 36,true⟩,⟨4,68719476736,some 37,true⟩,⟨8,137438953472,some 38,true⟩,⟨16,274877906944,some 39,true⟩,⟨34,584115552256,some 40,true⟩,⟨66,1099511627776,some 41,true⟩,⟨128,2199023255553,some 42,true⟩,⟨384,6597069766656,some 43,false⟩,⟨128,2199023255554,some 44,true⟩,⟨1152,19791209299968,some 45,true⟩,⟨2176,37383395344384,some 46,true⟩,⟨4224,72567767433216,some 47,true⟩,⟨8832,151732604633088,some 48,true⟩,⟨16512,283673999966208,some 49,true⟩,⟨33280,562949953421312,some 50,true⟩,⟨65536,1125899906842625,some 51,true⟩,⟨196608,3377699720527872,some 52,false⟩,⟨65536,1125899906842626,some 53,true⟩,⟨589824,10133099161583616,some 54,true⟩,⟨1114112,19140298416324608,some 55,true⟩,⟨2162688,37154696925806592,some 56,true⟩,⟨4521984,77687093572141056,some 57,true⟩,⟨8454144,145241087982698496,some 58,true⟩,⟨17039360,288230376151711744,some 59,true⟩,⟨33554432,576460752303423489,some 60,true⟩,⟨100663296,1729382256910270464,some 61,false⟩,⟨33554432,576460752303423490,some 62,true⟩,⟨301989888,5188146770730811392,some 63,true⟩,⟨570425344,9799832789158199296,some 64,true⟩,⟨1107296256,19023204826012975104,some 65,true⟩,⟨2315255808,39775791908936220672,some 66,true⟩,⟨4328521728,74363437047141629952,some 67,true⟩,⟨8724152320,147573952589676412928,some 68,true⟩,⟨17179869184,295147905179352825857,some 69,true⟩,⟨51539607552,885443715538058477568,some 70,false⟩,⟨17179869184,295147905179352825858,some 71,true⟩,⟨154618822656,2656331146614175432704,some 72,true⟩,⟨292057776128,5017514388048998039552,some 73,true⟩,⟨566935683072,9739880870918643253248,some 74,true⟩,⟨1185410973696,20365205457375344984064,some 75,true⟩,⟨2216203124736,38074079768136514535424,some 76,true⟩,⟨4466765987840,75557863725914323419136,some 77,true⟩,⟨8796093022208,151115727451828646838273,some 78,true⟩,⟨26388279066624,453347182355485940514816,some 79,false⟩,⟨8796093022208,151115727451828646838274,some 80,true⟩,⟨79164837199872,1360041547066457821544448,some 81,true⟩,⟨149533581377536,2568967366681086996250624,some 82,true⟩,⟨290271069732864,4986819005910345345662976,some 83,true⟩,⟨606930418532352,10426985194176176631840768,some 84,true⟩,⟨1134695999864832,19493928841285895442137088,some 85,true⟩,⟨2286984185774080,38685626227668133590597632,some 86,true⟩,⟨4503599627370496,77371252455336267181195296,some 87,true⟩,⟨13510798882111488,232113757366008801543585792,some 88,true⟩,⟨4503599627370496,77371252455336267181195266,some 89,true⟩,⟨40532396646334464,696341272098026404630757376,some 90,true⟩,⟨76561193665298432,1315311291740716542080319488,some 91,true⟩,⟨148618787703226368,2553251331026096816979443712,some 92,true⟩,⟨292733975779082240,5029131409596857366777692160,some 93,true⟩,⟨598978750440275968,10290376576559723535098970112,some 94,true⟩,⟨1157425104234217472,19884411881021420665567182848,some 95,true⟩,⟨2310346608841064448,39614081257132168796771975168,some 96,true⟩,⟨4611686018427387904,79228162514264337593543950337,some 97,true⟩,⟨13835058055282163712,237684487542793012780631851008,some 98,false⟩,⟨23058430092136939520,396140812571321687967719751680,some 99,false⟩,⟨4611686018427387904,79228162514264337593543950338,some 100,true⟩,⟨78398662313265594368,1346878762742493739090247155712,some 101,true⟩,⟨152185638608103800832,2614529362970723140586950361088,some 102,true⟩,⟨299759591197780213760,5149830563427181943580356771840,some 103,true⟩,⟨594907496377133039616,10220432964340099549567169593344,some 104,true⟩,⟨1222096794883257794560,20995463066280049462289146839040,some 105,true⟩,⟨2365794927453249994752,40644047369817605185488046522368,some 106,true⟩,⟨4759259971017064316928,81129638414606681695789005144064,some 107,true⟩,⟨9444732965739290427392,162259276829213363391578010288129,some 108,true⟩,⟨28334198897217871282176,486777830487640090174734030864384,some 109,false⟩,⟨47223664828696452136960,811296384146066816957890051440640,some 110,false⟩,⟨9444732965739290427392,162259276829213363391578010288130,some 111,true⟩,⟨160560460417567937265664,2758407706096627177656826174898176,some 112,true⟩,⟨311676187869396584103936,5354556135364040991922074339508224,some 113,true⟩,⟨613907642773053877780480,10546852993898868620452570668728320,some 114,true⟩,⟨1218370552580368465133568,20931446710968523877513563327168512,some 115,true⟩,⟨2502854235920911963258880,42998708359741541298768172726353920,some 116,true⟩,⟨4845148011424255989252096,83239009013386455419879519277809664,some 117,true⟩,⟨9746964420642947721068544,166153499473114484112975882535043072,some 118,true⟩,⟨19342813113834066795298816,332306998946228968225951765070086400,some 119,true⟩,⟨19342813113834066795298816,332306998946228968225951765070086146,some 120,true⟩,⟨96714065569170333976494080,1661534994731144841129758825350430720,some 121,true⟩,⟨174085318024506601157689344,2990762990516060714033565885630775296,some 122,true⟩,⟨328827822935179135520079872,5649218982085892459841180006191464448,some 123,true⟩,⟨676998458984192337835458560,11630744963118013887908311777453015040,some 124,true⟩,⟨1257282852399214341694423040,21599954931504882934686864729555599360,some 125,true⟩,⟨2495222891684594616593547264,42535295865117307932921825928971026432,some 126,true⟩,⟨4951760157141521099596496896,85070591730234615865843651857942053120,some 127,true⟩,⟨14855280471424563298789490688,255211775190703847597530955573826158592,some 128,true⟩,⟨19807040628566084398385987584,340282366920938463463374607431768211520,some 129,true⟩,⟨19807040628566084398385987584,340282366920938463463374607431768211458,some 130,true⟩,⟨99035203142830421991929937920,1701411834604692317316873037158841057280,some 131,true⟩,⟨178263365657094759585473888256,3062541302288446171170371466885913903104,some 132,true⟩,⟨336719690685623434772561788928,5784800237655953878877368326340059594752,some 133,true⟩,⟨693246421999812953943509565440,11909882842232846221218111260111887400960,some 134,true⟩,⟨1287457640856795485895089192960,22118353849861000125119349483064933744640,some 135,true⟩,⟨2535301200456458802993406410752,43556142965880123323311949751266331066496,some 136,true⟩,⟨2535301200456458802993406410752,43556142965880123323311949751266331066370,some 137,true⟩,⟨12676506002282294014967032053760,217780714829400616616559748756331655331840,some 138,true⟩,⟨22817710804108129226940657696768,392005286692921109909807547761396979597312,some 139,true⟩,⟨43100120407759799650887908982784,740454430419962096496303145771527628128256,some 140,true⟩,⟨88735542015976058104769224376320,1524465003805804316315918241294321587322880,some 141,true⟩,⟨164814385070298388278969802686464,2831489575149128954478740108439743287525376,some 142,true⟩,⟨324543312459212434388654003060736,5575611652591306958463258786421380086759424,some 143,true⟩,⟨649042059077010595087411637649408,11150457669857041805383724979976038695043072,some 144,true⟩,⟨1300609515834163365935617488715776,22300745198530623141535718272648361505980416,some 145,true⟩,⟨2596148429267413814265248164610048,44601490397061246283071436545296723011960833,some 146,true⟩,⟨7788445287802241442795744493830144,133804471191183738849214309635890169035882496,some 147,false⟩,⟨12980742146337069071326240823050240,223007451985306231415357182726483615059804160,some 148,false⟩,⟨2596148429267413814265248164610048,44601490397061246283071436545296723011960834,some 149,true⟩,⟨44134523297546034842509218798370816,758225336750041186812214421270044291203334144,some 150,true⟩,⟨85672898165824655870753189432131584,1471849183103021127341357405994791859394707456,some 151,true⟩,⟨168749647902381897927241130699653120,2899096875808981008399643375444286995777454080,some 152,true⟩,⟨355672334809635692554338998551576576,6110404184397390740780786806705651052638633984,some 153,false⟩,⟨667210146321725350266168778304782336,11462583032044740294749359192141257814073933824,some 154,true⟩,⟨1331824144214183286718072308444954624,22880564573692419343215646947737218905135906816,some 155,true⟩] rfl (by decide) mixed (by kernel_rfl) (by kernel_rfl) (by kernel_rfl) ?_
    have hxd := Ext.drew w4
    have hBd := hB4.pass hxd
    have hMd := hM4.ext hxd
    have hhd := hxd.blk hh4
    generalize w4.drew = wd at *
    have lpd : pd < wd.heap.size := blk_lt hhd
    (repeat (first | ((first | refine pas_plain rfl ?_ | refine pas_g rfl rfl ?_ | refine act_plain rfl ?_ | refine act_g rfl rfl ?_ | refine last_plain rfl ?_ | refine tail_plain rfl ?_ | refine tail_g rfl rfl ?_); (repeat simp only [push_cast,seval,-Nat.reduceSubDiff,cell_h,cellO_cells,hhd,decide_true,decide_false,beq_self_eq_true,eq_self,not_true_eq_false,not_false_eq_true])) | (refine tail_fin ?_) | (refine sch_fin ?_)))
    refine (bmode_c hBd).mono ?_
    intro v w' ⟨hv,hw⟩
    subst hv; subst w'
    refine ⟨kept.refl _ _,?_⟩
    (repeat (first | ((first | refine pas_plain rfl ?_ | refine pas_g rfl rfl ?_ | refine act_plain rfl ?_ | refine act_g rfl rfl ?_ | refine last_plain rfl ?_ | refine tail_plain rfl ?_ | refine tail_g rfl rfl ?_); (repeat simp only [push_cast,seval,-Nat.reduceSubDiff,cell_h,cellO_cells,hhd,decide_true,decide_false,beq_self_eq_true,eq_self,not_true_eq_false,not_false_eq_true])) | (refine tail_fin ?_) | (refine sch_fin ?_)))
    refine (bback_c hBd).mono ?_
    intro v w' ⟨hv,hw⟩
    subst hv; subst w'
    refine ⟨kept.refl _ _,?_⟩
    (repeat (first | ((first | refine pas_plain rfl ?_ | refine pas_g rfl rfl ?_ | refine act_plain rfl ?_ | refine act_g rfl rfl ?_ | refine last_plain rfl ?_ | refine tail_plain rfl ?_ | refine tail_g rfl rfl ?_); (repeat simp only [push_cast,seval,-Nat.reduceSubDiff,cell_h,cellO_cells,hhd,decide_true,decide_false,beq_self_eq_true,eq_self,not_true_eq_false,not_false_eq_true])) | (refine tail_fin ?_) | (refine sch_fin ?_)))
    refine (bhead_c hBd).mono ?_
    intro v w' ⟨hv,hw⟩
    subst hv; subst w'
    refine ⟨kept.refl _ _,?_⟩
    (repeat (first | ((first | refine pas_plain rfl ?_ | refine pas_g rfl rfl ?_ | refine act_plain rfl ?_ | refine act_g rfl rfl ?_ | refine last_plain rfl ?_ | refine tail_plain rfl ?_ | refine tail_g rfl rfl ?_); (repeat simp only [push_cast,seval,-Nat.reduceSubDiff,cell_h,cellO_cells,hhd,decide_true,decide_false,beq_self_eq_true,eq_self,not_true_eq_false,not_false_eq_true])) | (refine tail_fin ?_) | (refine sch_fin ?_)))
    refine (bform_c hBd).mono ?_
    intro v w' ⟨hv,hw⟩
    subst hv; subst w'
    refine ⟨kept.refl _ _,?_⟩
    (repeat (first | ((first | refine pas_plain rfl ?_ | refine pas_g rfl rfl ?_ | refine act_plain rfl ?_ | refine act_g rfl rfl ?_ | refine last_plain rfl ?_ | refine tail_plain rfl ?_ | refine tail_g rfl rfl ?_); (repeat simp only [push_cast,seval,-Nat.reduceSubDiff,cell_h,cellO_cells,hhd,decide_true,decide_false,beq_self_eq_true,eq_self,not_true_eq_false,not_false_eq_true])) | (refine tail_fin ?_) | (refine sch_fin ?_)))
    refine (bquirks_c hBd).mono ?_
    intro v w' ⟨hv,hw⟩
    subst hv; subst w'
    refine ⟨kept.refl _ _,?_⟩
    (repeat (first | ((first | refine pas_plain rfl ?_ | refine pas_g rfl rfl ?_ | refine act_plain rfl ?_ | refine act_g rfl rfl ?_ | refine last_plain rfl ?_ | refine tail_plain rfl ?_ | refine tail_g rfl rfl ?_); (repeat simp only [push_cast,seval,-Nat.reduceSubDiff,cell_h,cellO_cells,hhd,decide_true,decide_false,beq_self_eq_true,eq_self,not_true_eq_false,not_false_eq_true])) | (refine tail_fin ?_) | (refine sch_fin ?_)))
    refine (bpend_c hBd).mono ?_
    intro v w' ⟨hv,hw⟩
    subst hv; subst w'
    refine ⟨kept.refl _ _,?_⟩
    (repeat (first | ((first | refine pas_plain rfl ?_ | refine pas_g rfl rfl ?_ | refine act_plain rfl ?_ | refine act_g rfl rfl ?_ | refine last_plain rfl ?_ | refine tail_plain rfl ?_ | refine tail_g rfl rfl ?_); (repeat simp only [push_cast,seval,-Nat.reduceSubDiff,cell_h,cellO_cells,hhd,decide_true,decide_false,beq_self_eq_true,eq_self,not_true_eq_false,not_false_eq_true])) | (refine tail_fin ?_) | (refine sch_fin ?_)))
    refine (bstack_c hBd).mono ?_
    intro v w' ⟨hv,hw⟩
    subst hv; subst w'
    refine ⟨kept.refl _ _,?_⟩
    (repeat (first | ((first | refine pas_plain rfl ?_ | refine pas_g rfl rfl ?_ | refine act_plain rfl ?_ | refine act_g rfl rfl ?_ | refine last_plain rfl ?_ | refine tail_plain rfl ?_ | refine tail_g rfl rfl ?_); (repeat simp only [push_cast,seval,-Nat.reduceSubDiff,cell_h,cellO_cells,hhd,decide_true,decide_false,beq_self_eq_true,eq_self,not_true_eq_false,not_false_eq_true])) | (refine tail_fin ?_) | (refine sch_fin ?_)))
    refine (bslen_c hBd).mono ?_
    intro v w' ⟨hv,hw⟩
    subst hv; subst w'
    refine ⟨kept.refl _ _,?_⟩
    (repeat (first | ((first | refine pas_plain rfl ?_ | refine pas_g rfl rfl ?_ | refine act_plain rfl ?_ | refine act_g rfl rfl ?_ | refine last_plain rfl ?_ | refine tail_plain rfl ?_ | refine tail_g rfl rfl ?_); (repeat simp only [push_cast,seval,-Nat.reduceSubDiff,cell_h,cellO_cells,hhd,decide_true,decide_false,beq_self_eq_true,eq_self,not_true_eq_false,not_false_eq_true])) | (refine tail_fin ?_) | (refine sch_fin ?_)))
    refine (bforms_c hBd).mono ?_
    intro v w' ⟨hv,hw⟩
    subst hv; subst w'
    refine ⟨kept.refl _ _,?_⟩
    (repeat (first | ((first | refine pas_plain rfl ?_ | refine pas_g rfl rfl ?_ | refine act_plain rfl ?_ | refine act_g rfl rfl ?_ | refine last_plain rfl ?_ | refine tail_plain rfl ?_ | refine tail_g rfl rfl ?_); (repeat simp only [push_cast,seval,-Nat.reduceSubDiff,cell_h,cellO_cells,hhd,decide_true,decide_false,beq_self_eq_true,eq_self,not_true_eq_false,not_false_eq_true])) | (refine tail_fin ?_) | (refine sch_fin ?_)))
    refine (bflen_c hBd).mono ?_
    intro v w' ⟨hv,hw⟩
    subst hv; subst w'
    refine ⟨kept.refl _ _,?_⟩
    (repeat (first | ((first | refine pas_plain rfl ?_ | refine pas_g rfl rfl ?_ | refine act_plain rfl ?_ | refine act_g rfl rfl ?_ | refine last_plain rfl ?_ | refine tail_plain rfl ?_ | refine tail_g rfl rfl ?_); (repeat simp only [push_cast,seval,-Nat.reduceSubDiff,cell_h,cellO_cells,hhd,decide_true,decide_false,beq_self_eq_true,eq_self,not_true_eq_false,not_false_eq_true])) | (refine tail_fin ?_) | (refine sch_fin ?_)))
    refine (barena_c hBd).mono ?_
    intro v w' ⟨hv,hw⟩
    subst hv; subst w'
    refine ⟨kept.refl _ _,?_⟩
    (repeat (first | ((first | refine pas_plain rfl ?_ | refine pas_g rfl rfl ?_ | refine act_plain rfl ?_ | refine act_g rfl rfl ?_ | refine last_plain rfl ?_ | refine tail_plain rfl ?_ | refine tail_g rfl rfl ?_); (repeat simp only [push_cast,seval,-Nat.reduceSubDiff,cell_h,cellO_cells,hhd,decide_true,decide_false,beq_self_eq_true,eq_self,not_true_eq_false,not_false_eq_true])) | (refine tail_fin ?_) | (refine sch_fin ?_)))
    obtain ⟨PA,hA,_⟩ := hBd.ar
    refine (tree_a hA (by have := hok.L; show b.L.length < _; omega) hok.at_).mono ?_
    rintro v w5 ⟨TR,bo5,hTr,hTL,hx5,-,-⟩
    refine ⟨kept_upd hx5 fun q hq => ⟨by have : q = pd := hq; omega,id⟩,?_⟩
    have hM5 := hMd.ext hx5
    have hhd := hx5.blk hhd
    (repeat (first | ((first | refine pas_plain rfl ?_ | refine pas_g rfl rfl ?_ | refine act_plain rfl ?_ | refine act_g rfl rfl ?_ | refine last_plain rfl ?_ | refine tail_plain rfl ?_ | refine tail_g rfl rfl ?_); (repeat simp only [push_cast,seval,-Nat.reduceSubDiff,cell_h,cellO_cells,hhd,decide_true,decide_false,beq_self_eq_true,eq_self,not_true_eq_false,not_false_eq_true])) | (refine tail_fin ?_) | (refine sch_fin ?_)))
    have hbd : SlAt w5 11 (.slice (some ⟨x.bn,0,none⟩) b.L.length x.cap) (flat x.M) (some x.bn) := by
      have h1 := hM5.body
      rw [hM5.len] at h1
      exact h1
    refine (nodes17_c (B := x.M) (bb := some x.bn) hTr ⟨hbd,hM5.sub,hM5.apart⟩ (by rw [hM5.nd]; exact hTL) (by rw [← List.length_map (f := Laid.nd),hTL]; have := hok.L; show b.L.length < _; omega) fun m hm => ⟨by
      have h1 : m.nd ∈ b.L := by rw [← hTL]; exact List.mem_map.2 ⟨m,hm,rfl⟩
      have := hok.at_ _ h1; omega,by
      have h1 : m.nd ∈ b.L := by rw [← hTL]; exact List.mem_map.2 ⟨m,hm,rfl⟩
      have := hkd _ h1; omega⟩).mono ?_
    rintro v w6 ⟨rfl,hx6⟩
    refine ⟨kept_upd hx6 fun q hq => ⟨by have : q = pd := hq; have := hx5.alike.size; omega,id⟩,?_⟩
    (repeat (first | ((first | refine pas_plain rfl ?_ | refine pas_g rfl rfl ?_ | refine act_plain rfl ?_ | refine act_g rfl rfl ?_ | refine last_plain rfl ?_ | refine tail_plain rfl ?_ | refine tail_g rfl rfl ?_); (repeat simp only [push_cast,seval,-Nat.reduceSubDiff,cell_h,cellO_cells,hhd,decide_true,decide_false,beq_self_eq_true,eq_self,not_true_eq_false,not_false_eq_true])) | (refine tail_fin ?_) | (refine sch_fin ?_)))
    (repeat first|(with_reducible first|(refine hK _ _ ?_;clear hK K)|refine ‹∀σ w,_→K σ w› _ _ ?_|(refine W_st ?_;constructor;try intro K hK))|((with_reducible first|refine hZ _ _ ?_|refine W_rg ?_|skip);repeat1' simp only[push_cast,seval,-Nat.reduceSubDiff])|((repeat((fail_if_success with_reducible refine hK _ _ ?_);clear hK K));with_reducible refine hK _ _ ?_;clear hK K))
    have hxz := (hxd.trans hx5).trans hx6
    refine hKa _ _ ⟨?_,hxz⟩
    (repeat simp only [push_cast,seval,-Nat.reduceSubDiff])
  | some y =>
    obtain ⟨y1,y2⟩ := hask y hq
    rw [hq,y1,y2] at hh4
    simp only [Option.getD_some,Option.isSome_some] at hh4 ⊢
    refine W_flatR (by simp only [lapp_cons,lapp_nil]; exact rfl) ?_
    refine W_drawM (.pas 0 (.pas 2 (.pas 3 (.pas 4 (.pas 5 (.act 1 (.pas 6 (.pas 7 (.pas 8 (.pas 10 (.pas 11 (.pas 12 (.pas 13 (.act 9 (.pas 14 (.pas 15 (.pas 16 (.pas 17 (.pas 19 (.pas 20 (.pas 21 (.pas 22 (.act 18 (.pas 23 (.pas 24 (.pas 25 (.pas 26 (.pas 28 (.pas 29 (.pas 30 (.pas 31 (.act 27 (.pas 32 (.pas 33 (.pas 34 (.pas 35 (.pas 37 (.pas 38 (.pas 39 (.pas 40 (.act 36 (.pas 41 (.pas 42 (.pas 43 (.pas 44 (.pas 46 (.pas 47 (.pas 48 (.pas 49 (.act 45 (.pas 50 (.pas 51 (.pas 52 (.pas 53 (.pas 54 (.pas 55 (.pas 56 (.pas 57 (.pas 58 (.pas 59 (.pas 60 (.pas 61 (.pas 62 (.pas 63 (.pas 66 (.pas 67 (.pas 68 (.pas 69 (.pas 70 (.act 64 (.act 65 (.pas 71 (.pas 72 (.pas 73 (.pas 74 (.pas 77 (.pas 78 (.pas 79 (.pas 80 (.pas 81 (.act 75 (.act 76 (.pas 82 (.pas 83 (.pas 84 (.pas 85 (.pas 86 (.pas 87 (.pas 88 (.pas 89 (.pas 90 (.pas 91 (.pas 92 (.pas 93 (.pas 94 (.pas 95 (.pas 96 (.pas 97 (.pas 98 (.pas 99 (.pas 100 (.pas 101 (.pas 102 (.pas 103 (.pas 104 (.pas 105 (.pas 106 (.pas 107 (.pas 108 (.pas 109 (.pas 110 (.pas 111 (.pas 112 (.pas 115 (.pas 116 (.pas 117 (.pas 118 (.act 113 (.act 114 (.act 119 (.pas 120 (.pas 121 .fin)))))))))))))))))))))))))))))))))))))))))))))))))))))))))))))))))))))))))))))))))))))))))))))))))))))))))))))))))))))))))) (fun q => q = pd) 122 [⟨0,1,some 34,true⟩,⟨1,17179869184,some 35,false⟩,⟨0,2,some 36,true⟩,⟨4,68719476736,some 37,true⟩,⟨8,137438953472,some 38,true⟩,⟨16,274877906944,some 39,true⟩,⟨34,584115552256,some 40,true⟩,⟨66,1099511627776,some 41,true⟩,⟨128,2199023255553,some 42,true⟩,⟨384,6597069766656,some 43,false⟩,⟨128,2199023255554,some 44,true⟩,⟨1152,19791209299968,some 45,true⟩,⟨2176,37383395344384,some 46,true⟩,⟨4224,72567767433216,some 47,true⟩,⟨8832,151732604633088,some 48,true⟩,⟨16512,283673999966208,some 49,true⟩,⟨33280,562949953421312,some 50,true⟩,⟨65536,1125899906842625,some 51,true⟩,⟨196608,3377699720527872,some 52,false⟩,⟨65536,1125899906842626,some 53,true⟩,⟨589824,10133099161583616,some 54,true⟩,⟨1114112,19140298416324608,some 55,true⟩,⟨2162688,37154696925806592,some 56,true⟩,⟨4521984,77687093572141056,some 57,true⟩,⟨8454144,145241087982698496,some 58,true⟩,⟨17039360,288230376151711744,some 59,true⟩,⟨33554432,576460752303423489,some 60,true⟩,⟨100663296,1729382256910270464,some 61,false⟩,⟨33554432,576460752303423490,some 62,true⟩,⟨301989888,5188146770730811392,some 63,true⟩,⟨570425344,9799832789158199296,some 64,true⟩,⟨1107296256,19023204826012975104,some 65,true⟩,⟨2315255808,39775791908936220672,some 66,true⟩,⟨4328521728,74363437047141629952,some 67,true⟩,⟨8724152320,147573952589676412928,some 68,true⟩,⟨17179869184,295147905179352825857,some 69,true⟩,⟨51539607552,885443715538058477568,some 70,false⟩,⟨17179869184,295147905179352825858,some 71,true⟩,⟨154618822656,2656331146614175432704,some 72,true⟩,⟨292057776128,5017514388048998039552,some 73,true⟩,⟨566935683072,9739880870918643253248,some 74,true⟩,⟨1185410973696,20365205457375344984064,some 75,true⟩,⟨2216203124736,38074079768136514535424,some 76,true⟩,⟨4466765987840,75557863725914323419136,some 77,true⟩,⟨8796093022208,151115727451828646838273,some 78,true⟩,⟨26388279066624,453347182355485940514816,some 79,false⟩,⟨8796093022208,151115727451828646838274,some 80,true⟩,⟨79164837199872,1360041547066457821544448,some 81,true⟩,⟨149533581377536,2568967366681086996250624,some 82,true⟩,⟨290271069732864,4986819005910345345662976,some 83,true⟩,⟨606930418532352,10426985194176176631840768,some 84,true⟩,⟨1134695999864832,19493928841285895442137088,some 85,true⟩,⟨2286984185774080,38685626227668133590597632,some 86,true⟩,⟨4503599627370496,77371252455336267181195296,some 87,true⟩,⟨13510798882111488,232113757366008801543585792,some 88,true⟩,⟨4503599627370496,77371252455336267181195266,some 89,true⟩,⟨40532396646334464,696341272098026404630757376,some 90,true⟩,⟨76561193665298432,1315311291740716542080319488,some 91,true⟩,⟨148618787703226368,2553251331026096816979443712,some 92,true⟩,⟨292733975779082240,5029131409596857366777692160,some 93,true⟩,⟨598978750440275968,10290376576559723535098970112,some 94,true⟩,⟨1157425104234217472,19884411881021420665567182848,some 95,true⟩,⟨2310346608841064448,39614081257132168796771975168,some 96,true⟩,⟨4611686018427387904,79228162514264337593543950337,some 97,true⟩,⟨13835058055282163712,237684487542793012780631851008,some 98,false⟩,⟨23058430092136939520,396140812571321687967719751680,some 99,false⟩,⟨4611686018427387904,79228162514264337593543950338,some 100,true⟩,⟨78398662313265594368,1346878762742493739090247155712,some 101,true⟩,⟨152185638608103800832,2614529362970723140586950361088,some 102,true⟩,⟨299759591197780213760,5149830563427181943580356771840,some 103,true⟩,⟨594907496377133039616,10220432964340099549567169593344,some 104,true⟩,⟨1222096794883257794560,20995463066280049462289146839040,some 105,true⟩,⟨2365794927453249994752,40644047369817605185488046522368,some 106,true⟩,⟨4759259971017064316928,81129638414606681695789005144064,some 107,true⟩,⟨9444732965739290427392,162259276829213363391578010288129,some 108,true⟩,⟨28334198897217871282176,486777830487640090174734030864384,some 109,false⟩,⟨47223664828696452136960,811296384146066816957890051440640,some 110,false⟩,⟨9444732965739290427392,162259276829213363391578010288130,some 111,true⟩,⟨160560460417567937265664,2758407706096627177656826174898176,some 112,true⟩,⟨311676187869396584103936,5354556135364040991922074339508224,some 113,true⟩,⟨613907642773053877780480,10546852993898868620452570668728320,some 114,true⟩,⟨1218370552580368465133568,20931446710968523877513563327168512,some 115,true⟩,⟨2502854235920911963258880,42998708359741541298768172726353920,some 116,true⟩,⟨4845148011424255989252096,83239009013386455419879519277809664,some 117,true⟩,⟨9746964420642947721068544,166153499473114484112975882535043072,some 118,true⟩,⟨19342813113834066795298816,332306998946228968225951765070086400,some 119,true⟩,⟨19342813113834066795298816,332306998946228968225951765070086146,some 120,true⟩,⟨96714065569170333976494080,1661534994731144841129758825350430720,some 121,true⟩,⟨174085318024506601157689344,2990762990516060714033565885630775296,some 122,true⟩,⟨328827822935179135520079872,5649218982085892459841180006191464448,some 123,true⟩,⟨676998458984192337835458560,11630744963118013887908311777453015040,some 124,true⟩,⟨1257282852399214341694423040,21599954931504882934686864729555599360,some 125,true⟩,⟨2495222891684594616593547264,42535295865117307932921825928971026432,some 126,true⟩,⟨4951760157141521099596496896,85070591730234615865843651857942053120,some 127,true⟩,⟨14855280471424563298789490688,255211775190703847597530955573826158592,some 128,true⟩,⟨19807040628566084398385987584,340282366920938463463374607431768211520,some 129,true⟩,⟨19807040628566084398385987584,340282366920938463463374607431768211458,some 130,true⟩,⟨99035203142830421991929937920,1701411834604692317316873037158841057280,some 131,true⟩,⟨178263365657094759585473888256,3062541302288446171170371466885913903104,some 132,true⟩,⟨336719690685623434772561788928,5784800237655953878877368326340059594752,some 133,true⟩,⟨693246421999812953943509565440,11909882842232846221218111260111887400960,some 134,true⟩,⟨1287457640856795485895089192960,22118353849861000125119349483064933744640,some 135,true⟩,⟨2535301200456458802993406410752,43556142965880123323311949751266331066496,some 136,true⟩,⟨2535301200456458802993406410752,43556142965880123323311949751266331066370,some 137,true⟩,⟨12676506002282294014967032053760,217780714829400616616559748756331655331840,some 138,true⟩,⟨22817710804108129226940657696768,392005286692921109909807547761396979597312,some 139,true⟩,⟨43100120407759799650887908982784,740454430419962096496303145771527628128256,some 140,true⟩,⟨88735542015976058104769224376320,1524465003805804316315918241294321587322880,some 141,true⟩,⟨164814385070298388278969802686464,2831489575149128954478740108439743287525376,some 142,true⟩,⟨324543312459212434388654003060736,5575611652591306958463258786421380086759424,some 143,true⟩,⟨649042059077010595087411637649408,11150457669857041805383724979976038695043072,some 144,true⟩,⟨1300609515834163365935617488715776,22300745198530623141535718272648361505980416,some 145,true⟩,⟨2596148429267413814265248164610048,44601490397061246283071436545296723011960833,some 146,true⟩,⟨7788445287802241442795744493830144,133804471191183738849214309635890169035882496,some 147,false⟩,⟨12980742146337069071326240823050240,223007451985306231415357182726483615059804160,some 148,false⟩,⟨2596148429267413814265248164610048,44601490397061246283071436545296723011960834,some 149,true⟩,⟨44134523297546034842509218798370816,758225336750041186812214421270044291203334144,some 150,true⟩,⟨85672898165824655870753189432131584,1471849183103021127341357405994791859394707456,some 151,true⟩,⟨168749647902381897927241130699653120,2899096875808981008399643375444286995777454080,some 152,true⟩,⟨355672334809635692554338998551576576,6110404184397390740780786806705651052638633984,some 153,false⟩,⟨667210146321725350266168778304782336,11462583032044740294749359192141257814073933824,some 154,true⟩,⟨1331824144214183286718072308444954624,22880564573692419343215646947737218905135906816,some 155,true⟩] rfl (by decide) mixed (by kernel_rfl) (by kernel_rfl) (by kernel_rfl) ?_
    have hxd := Ext.drew w4
    have hBd := hB4.pass hxd
    have hMd := hM4.ext hxd
    have hhd := hxd.blk hh4
    generalize w4.drew = wd at *
    have lpd : pd < wd.heap.size := blk_lt hhd
    (repeat (first | ((first | refine pas_plain rfl ?_ | refine pas_g rfl rfl ?_ | refine act_plain rfl ?_ | refine act_g rfl rfl ?_ | refine last_plain rfl ?_ | refine tail_plain rfl ?_ | refine tail_g rfl rfl ?_); (repeat simp only [push_cast,seval,-Nat.reduceSubDiff,cell_h,cellO_cells,hhd,decide_true,decide_false,beq_self_eq_true,eq_self,not_true_eq_false,not_false_eq_true])) | (refine tail_fin ?_) | (refine sch_fin ?_)))
    refine (bmode_c hBd).mono ?_
    intro v w' ⟨hv,hw⟩
    subst hv; subst w'
    refine ⟨kept.refl _ _,?_⟩
    (repeat (first | ((first | refine pas_plain rfl ?_ | refine pas_g rfl rfl ?_ | refine act_plain rfl ?_ | refine act_g rfl rfl ?_ | refine last_plain rfl ?_ | refine tail_plain rfl ?_ | refine tail_g rfl rfl ?_); (repeat simp only [push_cast,seval,-Nat.reduceSubDiff,cell_h,cellO_cells,hhd,decide_true,decide_false,beq_self_eq_true,eq_self,not_true_eq_false,not_false_eq_true])) | (refine tail_fin ?_) | (refine sch_fin ?_)))
    refine (bback_c hBd).mono ?_
    intro v w' ⟨hv,hw⟩
    subst hv; subst w'
    refine ⟨kept.refl _ _,?_⟩
    (repeat (first | ((first | refine pas_plain rfl ?_ | refine pas_g rfl rfl ?_ | refine act_plain rfl ?_ | refine act_g rfl rfl ?_ | refine last_plain rfl ?_ | refine tail_plain rfl ?_ | refine tail_g rfl rfl ?_); (repeat simp only [push_cast,seval,-Nat.reduceSubDiff,cell_h,cellO_cells,hhd,decide_true,decide_false,beq_self_eq_true,eq_self,not_true_eq_false,not_false_eq_true])) | (refine tail_fin ?_) | (refine sch_fin ?_)))
    refine (bhead_c hBd).mono ?_
    intro v w' ⟨hv,hw⟩
    subst hv; subst w'
    refine ⟨kept.refl _ _,?_⟩
    (repeat (first | ((first | refine pas_plain rfl ?_ | refine pas_g rfl rfl ?_ | refine act_plain rfl ?_ | refine act_g rfl rfl ?_ | refine last_plain rfl ?_ | refine tail_plain rfl ?_ | refine tail_g rfl rfl ?_); (repeat simp only [push_cast,seval,-Nat.reduceSubDiff,cell_h,cellO_cells,hhd,decide_true,decide_false,beq_self_eq_true,eq_self,not_true_eq_false,not_false_eq_true])) | (refine tail_fin ?_) | (refine sch_fin ?_)))
    refine (bform_c hBd).mono ?_
    intro v w' ⟨hv,hw⟩
    subst hv; subst w'
    refine ⟨kept.refl _ _,?_⟩
    (repeat (first | ((first | refine pas_plain rfl ?_ | refine pas_g rfl rfl ?_ | refine act_plain rfl ?_ | refine act_g rfl rfl ?_ | refine last_plain rfl ?_ | refine tail_plain rfl ?_ | refine tail_g rfl rfl ?_); (repeat simp only [push_cast,seval,-Nat.reduceSubDiff,cell_h,cellO_cells,hhd,decide_true,decide_false,beq_self_eq_true,eq_self,not_true_eq_false,not_false_eq_true])) | (refine tail_fin ?_) | (refine sch_fin ?_)))
    refine (bquirks_c hBd).mono ?_
    intro v w' ⟨hv,hw⟩
    subst hv; subst w'
    refine ⟨kept.refl _ _,?_⟩
    (repeat (first | ((first | refine pas_plain rfl ?_ | refine pas_g rfl rfl ?_ | refine act_plain rfl ?_ | refine act_g rfl rfl ?_ | refine last_plain rfl ?_ | refine tail_plain rfl ?_ | refine tail_g rfl rfl ?_); (repeat simp only [push_cast,seval,-Nat.reduceSubDiff,cell_h,cellO_cells,hhd,decide_true,decide_false,beq_self_eq_true,eq_self,not_true_eq_false,not_false_eq_true])) | (refine tail_fin ?_) | (refine sch_fin ?_)))
    refine (bpend_c hBd).mono ?_
    intro v w' ⟨hv,hw⟩
    subst hv; subst w'
    refine ⟨kept.refl _ _,?_⟩
    (repeat (first | ((first | refine pas_plain rfl ?_ | refine pas_g rfl rfl ?_ | refine act_plain rfl ?_ | refine act_g rfl rfl ?_ | refine last_plain rfl ?_ | refine tail_plain rfl ?_ | refine tail_g rfl rfl ?_); (repeat simp only [push_cast,seval,-Nat.reduceSubDiff,cell_h,cellO_cells,hhd,decide_true,decide_false,beq_self_eq_true,eq_self,not_true_eq_false,not_false_eq_true])) | (refine tail_fin ?_) | (refine sch_fin ?_)))
    refine (bstack_c hBd).mono ?_
    intro v w' ⟨hv,hw⟩
    subst hv; subst w'
    refine ⟨kept.refl _ _,?_⟩
    (repeat (first | ((first | refine pas_plain rfl ?_ | refine pas_g rfl rfl ?_ | refine act_plain rfl ?_ | refine act_g rfl rfl ?_ | refine last_plain rfl ?_ | refine tail_plain rfl ?_ | refine tail_g rfl rfl ?_); (repeat simp only [push_cast,seval,-Nat.reduceSubDiff,cell_h,cellO_cells,hhd,decide_true,decide_false,beq_self_eq_true,eq_self,not_true_eq_false,not_false_eq_true])) | (refine tail_fin ?_) | (refine sch_fin ?_)))
    refine (bslen_c hBd).mono ?_
    intro v w' ⟨hv,hw⟩
    subst hv; subst w'
    refine ⟨kept.refl _ _,?_⟩
    (repeat (first | ((first | refine pas_plain rfl ?_ | refine pas_g rfl rfl ?_ | refine act_plain rfl ?_ | refine act_g rfl rfl ?_ | refine last_plain rfl ?_ | refine tail_plain rfl ?_ | refine tail_g rfl rfl ?_); (repeat simp only [push_cast,seval,-Nat.reduceSubDiff,cell_h,cellO_cells,hhd,decide_true,decide_false,beq_self_eq_true,eq_self,not_true_eq_false,not_false_eq_true])) | (refine tail_fin ?_) | (refine sch_fin ?_)))
    refine (bforms_c hBd).mono ?_
    intro v w' ⟨hv,hw⟩
    subst hv; subst w'
    refine ⟨kept.refl _ _,?_⟩
    (repeat (first | ((first | refine pas_plain rfl ?_ | refine pas_g rfl rfl ?_ | refine act_plain rfl ?_ | refine act_g rfl rfl ?_ | refine last_plain rfl ?_ | refine tail_plain rfl ?_ | refine tail_g rfl rfl ?_); (repeat simp only [push_cast,seval,-Nat.reduceSubDiff,cell_h,cellO_cells,hhd,decide_true,decide_false,beq_self_eq_true,eq_self,not_true_eq_false,not_false_eq_true])) | (refine tail_fin ?_) | (refine sch_fin ?_)))
    refine (bflen_c hBd).mono ?_
    intro v w' ⟨hv,hw⟩
    subst hv; subst w'
    refine ⟨kept.refl _ _,?_⟩
    (repeat (first | ((first | refine pas_plain rfl ?_ | refine pas_g rfl rfl ?_ | refine act_plain rfl ?_ | refine act_g rfl rfl ?_ | refine last_plain rfl ?_ | refine tail_plain rfl ?_ | refine tail_g rfl rfl ?_); (repeat simp only [push_cast,seval,-Nat.reduceSubDiff,cell_h,cellO_cells,hhd,decide_true,decide_false,beq_self_eq_true,eq_self,not_true_eq_false,not_false_eq_true])) | (refine tail_fin ?_) | (refine sch_fin ?_)))
    refine (barena_c hBd).mono ?_
    intro v w' ⟨hv,hw⟩
    subst hv; subst w'
    refine ⟨kept.refl _ _,?_⟩
    (repeat (first | ((first | refine pas_plain rfl ?_ | refine pas_g rfl rfl ?_ | refine act_plain rfl ?_ | refine act_g rfl rfl ?_ | refine last_plain rfl ?_ | refine tail_plain rfl ?_ | refine tail_g rfl rfl ?_); (repeat simp only [push_cast,seval,-Nat.reduceSubDiff,cell_h,cellO_cells,hhd,decide_true,decide_false,beq_self_eq_true,eq_self,not_true_eq_false,not_false_eq_true])) | (refine tail_fin ?_) | (refine sch_fin ?_)))
    obtain ⟨PA,hA,_⟩ := hBd.ar
    refine (tree_a hA (by have := hok.L; show b.L.length < _; omega) hok.at_).mono ?_
    rintro v w5 ⟨TR,bo5,hTr,hTL,hx5,-,-⟩
    refine ⟨kept_upd hx5 fun q hq => ⟨by have : q = pd := hq; omega,id⟩,?_⟩
    have hM5 := hMd.ext hx5
    have hhd := hx5.blk hhd
    (repeat (first | ((first | refine pas_plain rfl ?_ | refine pas_g rfl rfl ?_ | refine act_plain rfl ?_ | refine act_g rfl rfl ?_ | refine last_plain rfl ?_ | refine tail_plain rfl ?_ | refine tail_g rfl rfl ?_); (repeat simp only [push_cast,seval,-Nat.reduceSubDiff,cell_h,cellO_cells,hhd,decide_true,decide_false,beq_self_eq_true,eq_self,not_true_eq_false,not_false_eq_true])) | (refine tail_fin ?_) | (refine sch_fin ?_)))
    have hbd : SlAt w5 11 (.slice (some ⟨x.bn,0,none⟩) b.L.length x.cap) (flat x.M) (some x.bn) := by
      have h1 := hM5.body
      rw [hM5.len] at h1
      exact h1
    refine (nodes17_c (B := x.M) (bb := some x.bn) hTr ⟨hbd,hM5.sub,hM5.apart⟩ (by rw [hM5.nd]; exact hTL) (by rw [← List.length_map (f := Laid.nd),hTL]; have := hok.L; show b.L.length < _; omega) fun m hm => ⟨by
      have h1 : m.nd ∈ b.L := by rw [← hTL]; exact List.mem_map.2 ⟨m,hm,rfl⟩
      have := hok.at_ _ h1; omega,by
      have h1 : m.nd ∈ b.L := by rw [← hTL]; exact List.mem_map.2 ⟨m,hm,rfl⟩
      have := hkd _ h1; omega⟩).mono ?_
    rintro v w6 ⟨rfl,hx6⟩
    refine ⟨kept_upd hx6 fun q hq => ⟨by have : q = pd := hq; have := hx5.alike.size; omega,id⟩,?_⟩
    (repeat (first | ((first | refine pas_plain rfl ?_ | refine pas_g rfl rfl ?_ | refine act_plain rfl ?_ | refine act_g rfl rfl ?_ | refine last_plain rfl ?_ | refine tail_plain rfl ?_ | refine tail_g rfl rfl ?_); (repeat simp only [push_cast,seval,-Nat.reduceSubDiff,cell_h,cellO_cells,hhd,decide_true,decide_false,beq_self_eq_true,eq_self,not_true_eq_false,not_false_eq_true])) | (refine tail_fin ?_) | (refine sch_fin ?_)))
    (repeat first|(with_reducible first|(refine hK _ _ ?_;clear hK K)|refine ‹∀σ w,_→K σ w› _ _ ?_|(refine W_st ?_;constructor;try intro K hK))|((with_reducible first|refine hZ _ _ ?_|refine W_rg ?_|skip);repeat1' simp only[push_cast,seval,-Nat.reduceSubDiff])|((repeat((fail_if_success with_reducible refine hK _ _ ?_);clear hK K));with_reducible refine hK _ _ ?_;clear hK K))
    have hxz := (hxd.trans hx5).trans hx6
    refine hKa _ _ ⟨?_,hxz⟩
    (repeat simp only [push_cast,seval,-Nat.reduceSubDiff])
end
end Go.Proofs.YtgnnlaeikcnhcaaGreatDoor
end
section
namespace Go.Vk
open Go Go.Proofs.YtgnnlaeikcnhcaaGreatDoor
structure HSt (a : Nat) (b : BSt) : Prop where
  inv : HInv b
  sz : SzO a b
theorem HSt.new : HSt 0 newB := ⟨.new,szO_new⟩
theorem HSt.set {a : Nat} {b : BSt} (h : HSt a b) (x : Option (Int × ByteArray)) : HSt a { b with ask := x } := by
  refine ⟨?_,h.sz.set ⟨rfl,rfl,rfl,rfl⟩⟩
  rcases h.inv with e | ⟨h1,h2⟩
  · exact .inl e
  · exact .inr ⟨h1.set ⟨rfl,rfl,rfl⟩,h2⟩
-- spaces
-- raw text
end Go.Vk
end
section
namespace Go.Vk
open Go Go.Proofs.YtgnnlaeikcnhcaaGreatDoor
def Kp (b c : BSt) : Prop := c.err = b.err ∧ c.l = b.l ∧ c.modes = b.modes
def Tp (b c : BSt) : Prop := c.err = b.err ∧ c.mode = 15 ∧ c.l = b.l ++ [-1] ∧ c.modes = b.modes ++ [15]
section
variable {b : BSt} {t : HTok}
theorem kp_refl (b : BSt) : Kp b b := ⟨rfl,rfl,rfl⟩
theorem kp_put (b : BSt) (i q : Int) : Kp b (putB b i q) := by
  unfold putB; split <;> exact ⟨rfl,rfl,rfl⟩
theorem kp_comm (b : BSt) (x : ByteArray) (into : Int) : Kp b (commB b x into) := by
  unfold commB
  split
  · obtain ⟨g1, g2, g3⟩ := kp_put (addB b (comTok x)) (addN b.L (comTok x)).2 (targB (addB b (comTok x)))
    exact ⟨g1,g2,g3⟩
  · exact ⟨rfl,rfl,rfl⟩
theorem kp_chars (b : BSt) (x : ByteArray) : Kp b (charsB b x) := by
  unfold charsB; split <;> exact ⟨rfl,rfl,rfl⟩
theorem kp_more (b : BSt) (t : HTok) : Kp b (moreB b t) := by
  unfold moreB; split <;> exact ⟨rfl,rfl,rfl⟩
theorem DH.own_k (h : DH b t) : Kp b (ownR b t) ∨ Tp b (ownR b t) := by
  rw [h.own]
  split
  · exact .inl (kp_refl b)
  · split
    · exact .inr ⟨rfl,rfl,rfl,rfl⟩
    · split <;> exact .inl ⟨rfl,rfl,rfl⟩
theorem DH.head_k (h : DH b t) : Kp b (headR b t).1 ∨ Tp b (headR b t).1 := by
  unfold headR
  rw [h.ins]
  split
  · exact .inl (kp_refl b)
  · split
    · exact .inl (kp_chars b _)
    · split
      · exact .inl (kp_comm b _ _)
      · split
        · exact .inl (kp_more b t)
        · split
          · exact h.own_k
          · split <;> exact .inl ⟨rfl,rfl,rfl⟩
theorem DH.nos_k (h : DH b t) : Kp b (nosR b t).1 ∨ Tp b (nosR b t).1 := by
  unfold nosR
  split
  · exact .inl (kp_refl b)
  · split
    · exact h.head_k
    · exact .inl ⟨rfl,rfl,rfl⟩
theorem DH.after_k (h : DH b t) (hh : HdE b) (hs : b.s.length < 480) : Kp b (afterR b t).1 ∨ Tp b (afterR b t).1 := by
  unfold afterR
  obtain ⟨e1,e2⟩ := h.psh hh hs
  rw [e1,h.ins,h.imp]
  split
  · exact h.head_k
  · split
    · exact .inl (kp_refl b)
    · split
      · rcases e2.own_k with g | g
        · exact .inl ⟨g.1,g.2.1,g.2.2⟩
        · exact .inr ⟨g.1,g.2.1,g.2.2.1,g.2.2.2⟩
      · split <;> exact .inl ⟨rfl,rfl,rfl⟩
theorem DH.before_k (h : DH b t) : Kp b (beforeR b t).1 := by
  have h2 := (h.mode 2).ins
  have h3 := (h.mode 3).ins
  have i2 := (h.mode 2).imp sHtml
  have i3 := (h.mode 3).imp sHead
  unfold beforeR
  rw [h2,h3,i2,i3,h.doct]
  split
  · unfold earlyR
    split
    · split
      · exact kp_comm b _ _
      · exact kp_comm b _ _
    · exact kp_refl b
  · split
    · split <;> exact ⟨rfl,rfl,rfl⟩
    · split
      · split <;> exact ⟨rfl,rfl,rfl⟩
      · split
        · exact kp_more b t
        · split <;> exact ⟨rfl,rfl,rfl⟩
theorem text_k : Kp b (textH b t).1 := by
  unfold textH
  split
  · exact kp_chars b _
  · exact ⟨rfl,rfl,rfl⟩
theorem DH.step_k (h : DH b t) (hh : b.mode = 5 → HdE b) (hs : b.s.length < 480) : Kp b (stepR b t).1 ∨ Tp b (stepR b t).1 := by
  unfold stepR
  split
  · exact .inl h.before_k
  · split
    · exact h.head_k
    · split
      · exact h.nos_k
      · split
        · rename_i h5
          exact h.after_k (hh h5) hs
        · split
          · exact .inl text_k
          · exact .inl (kp_refl b)
end
structure Pl (a : Nat) (b : BSt) : Prop where
  st : HSt a b
  err : b.err = none
  em : b.mode ≠ 15 → b.l = [] ∧ b.modes = []
  l : b.l.length ≤ 1
  md : b.modes.length ≤ 1
theorem Pl.new : Pl 0 newB := ⟨.new,rfl,fun _ => ⟨rfl,rfl⟩,by decide,by decide⟩
section
variable {a : Nat} {b : BSt} {t : HTok}
theorem Pl.dh (h : Pl a b) (hm : b.mode ≠ 15) (ha : a < 9000) (ht : T300 t) : DH b t ∧ (b.mode = 5 → HdE b) ∧ b.s.length < 480 := by
  obtain ⟨e1,e2⟩ := h.em hm
  rcases h.st.inv with e | ⟨hsh,hsa⟩
  · exact absurd e hm
  have hs : b.s.length ≤ 4 := by
    rcases hsa with g | ⟨_,_,ns,x,g1,g2⟩
    · have := g.lt; rw [nds_len] at this; omega
    · have := g2.lt
      have h2 := congrArg List.length g1
      rw [nds_len,List.length_append] at h2
      simp at h2; omega
  have hz := h.st.sz
  refine ⟨⟨hsh,by omega,by have := hz.L; omega,by rw [e1]; decide,by rw [e2]; decide,fun n hn => ?_,fun n hn => ?_,by have := ht.2.1; omega,by have := ht.2.2; omega⟩,fun h5 => ?_,by omega⟩
  · have := (hz.nd n hn).2.1
    have : 300 * a ≤ 300 * 9000 := Nat.mul_le_mul_left _ (by omega)
    omega
  · have := (hz.nd n hn).2.2
    omega
  · rcases hsa with g | ⟨h7, _⟩
    · rw [h5] at g
      obtain ⟨r,g1,g2,g3,g4⟩ := g.i5
      refine ⟨g4.d0.1,g4.d0.2,?_⟩
      have : b.head ∈ elK b.L r := by rw [g3]; simp
      unfold elK at this
      exact of_decide_eq_true (List.mem_filter.1 this).2
    · omega
theorem Pl.step (h : Pl a b) (hm : b.mode ≠ 15) (ha : a < 9000) (ht : T300 t) : Pl (a + 8) (stepH b t).1 := by
  obtain ⟨hd,hh,hs⟩ := h.dh hm ha ht
  obtain ⟨e1,e2⟩ := h.em hm
  have hk := hd.step_k hh hs
  rw [step_eq] at hk
  refine ⟨⟨h.st.inv.step t,h.st.sz.step ht⟩,?_,?_,?_,?_⟩
  · rcases hk with g | g
    · rw [g.1]; exact h.err
    · rw [g.1]; exact h.err
  · intro h15
    rcases hk with g | g
    · rw [g.2.1,g.2.2]; exact ⟨e1,e2⟩
    · exact absurd g.2.1 h15
  · rcases hk with g | g
    · rw [g.2.1,e1]; decide
    · rw [g.2.2.1,e1]; decide
  · rcases hk with g | g
    · rw [g.2.2,e2]; decide
    · rw [g.2.2.2,e2]; decide
theorem Pl.ask (h : Pl a b) : Pl a { b with ask := none } := ⟨h.st.set none,h.err,h.em,h.l,h.md⟩
theorem Pl.mono {a' : Nat} (h : Pl a b) (ha : a ≤ a') : Pl a' b := ⟨⟨h.st.inv,h.st.sz.mono ha⟩,h.err,h.em,h.l,h.md⟩
theorem own_no15 {k : Int} (h : ownM k = true) : k ≠ 15 ∧ inI64 k := by
  unfold ownM at h
  simp only [Bool.or_eq_true,Bool.and_eq_true,decide_eq_true_eq] at h
  exact ⟨by omega,by unfold inI64; omega⟩
end
end Go.Vk
end
section
namespace Go.Vk
open Go Go.RowKit Go.WideShapes Go.ChangeShapes
end Go.Vk
end
section
namespace Go.Vk
open Go
def ToksAt (w : World) (v : Value) (l : List HTok) : Prop := ∃ a c,v = .slice a l.length c ∧ l.length ≤ c ∧ ∀ (k : Nat) (t : HTok),l[k]? = some t → ∃ b o av,a = some ⟨b,o,none⟩ ∧ (∀ j,j < 9 → w.cell? ⟨b,o + k * 9 + j,none⟩ = (t.row av)[j]?) ∧ RdAt w 2 av (attrCells t.attrs)
end Go.Vk
namespace Go.Proofs.YtgnnlaeikcnhcaaGreatDoor
open Go Go.Vk Go.WideShapes
theorem cellsTk : Tryz.prog.cellsOf 37 = 9 := by kernel_rfl
section
variable {H : Type} {enc : TypeId × Value → H} {W : World} {base : Nat} {sp : Nat → Bool} {hd : Bool}
theorem list9 {cs : List Value} (h : cs.length = 9) : ∃ c0 c1 c2 c3 c4 c5 c6 c7 c8,cs = [c0,c1,c2,c3,c4,c5,c6,c7,c8] := by
  match cs,h with
  | [c0,c1,c2,c3,c4,c5,c6,c7,c8],_ => exact ⟨_,_,_,_,_,_,_,_,_,rfl⟩
set_option maxRecDepth 100000 in
theorem tok_of {fuel : Nat} {cs : List Value} {x : DataW H × List MemPlace} (h : DataW.trod enc Tryz.prog W base sp hd fuel 37 cs = some x) :
    ∃ (t : HTok) (av : Value),cs = (t.row av).toList ∧ RdAt W 2 av (attrCells t.attrs) := by
  obtain ⟨xs,n,_,_,hl,hxl,hf⟩ := DataW.trod_struct Tryz.underlying37 h
  rw [cellsTk] at hl
  obtain ⟨c0,c1,c2,c3,c4,c5,c6,c7,c8,rfl⟩ := list9 hl
  have hx : ∀ i,i < 9 → ∃ y,xs[i]? = some y := fun i hi => ⟨_,List.getElem?_eq_getElem (show i < xs.length by rw [hxl]; exact hi)⟩
  obtain ⟨y0,hy0⟩ := hx 0 (by decide)
  have g0 : DataW.trod enc Tryz.prog W base sp hd n 3 (([c0,c1,c2,c3,c4,c5,c6,c7,c8].drop 0).take (Tryz.prog.cellsOf 3)) = xs[0]? := hf 0 _ rfl
  rw [hy0] at g0
  simp only [cells3,List.drop_succ_cons,List.drop_zero,List.take_succ_cons,List.take_zero] at g0
  obtain ⟨y1,hy1⟩ := hx 1 (by decide)
  have g1 : DataW.trod enc Tryz.prog W base sp hd n 9 (([c0,c1,c2,c3,c4,c5,c6,c7,c8].drop 1).take (Tryz.prog.cellsOf 9)) = xs[1]? := hf 1 _ rfl
  rw [hy1] at g1
  simp only [cells9',List.drop_succ_cons,List.drop_zero,List.take_succ_cons,List.take_zero] at g1
  obtain ⟨y2,hy2⟩ := hx 2 (by decide)
  have g2 : DataW.trod enc Tryz.prog W base sp hd n 9 (([c0,c1,c2,c3,c4,c5,c6,c7,c8].drop 2).take (Tryz.prog.cellsOf 9)) = xs[2]? := hf 2 _ rfl
  rw [hy2] at g2
  simp only [cells9',List.drop_succ_cons,List.drop_zero,List.take_succ_cons,List.take_zero] at g2
  obtain ⟨y3,hy3⟩ := hx 3 (by decide)
  have g3 : DataW.trod enc Tryz.prog W base sp hd n 35 (([c0,c1,c2,c3,c4,c5,c6,c7,c8].drop 3).take (Tryz.prog.cellsOf 35)) = xs[3]? := hf 3 _ rfl
  rw [hy3] at g3
  simp only [cells27,List.drop_succ_cons,List.drop_zero,List.take_succ_cons,List.take_zero] at g3
  obtain ⟨y4,hy4⟩ := hx 4 (by decide)
  have g4 : DataW.trod enc Tryz.prog W base sp hd n 4 (([c0,c1,c2,c3,c4,c5,c6,c7,c8].drop 4).take (Tryz.prog.cellsOf 4)) = xs[4]? := hf 4 _ rfl
  rw [hy4] at g4
  simp only [cells4,List.drop_succ_cons,List.drop_zero,List.take_succ_cons,List.take_zero] at g4
  obtain ⟨y5,hy5⟩ := hx 5 (by decide)
  have g5 : DataW.trod enc Tryz.prog W base sp hd n 4 (([c0,c1,c2,c3,c4,c5,c6,c7,c8].drop 5).take (Tryz.prog.cellsOf 4)) = xs[5]? := hf 5 _ rfl
  rw [hy5] at g5
  simp only [cells4,List.drop_succ_cons,List.drop_zero,List.take_succ_cons,List.take_zero] at g5
  obtain ⟨y6,hy6⟩ := hx 6 (by decide)
  have g6 : DataW.trod enc Tryz.prog W base sp hd n 4 (([c0,c1,c2,c3,c4,c5,c6,c7,c8].drop 6).take (Tryz.prog.cellsOf 4)) = xs[6]? := hf 6 _ rfl
  rw [hy6] at g6
  simp only [cells4,List.drop_succ_cons,List.drop_zero,List.take_succ_cons,List.take_zero] at g6
  obtain ⟨y7,hy7⟩ := hx 7 (by decide)
  have g7 : DataW.trod enc Tryz.prog W base sp hd n 3 (([c0,c1,c2,c3,c4,c5,c6,c7,c8].drop 7).take (Tryz.prog.cellsOf 3)) = xs[7]? := hf 7 _ rfl
  rw [hy7] at g7
  simp only [cells3,List.drop_succ_cons,List.drop_zero,List.take_succ_cons,List.take_zero] at g7
  obtain ⟨y8,hy8⟩ := hx 8 (by decide)
  have g8 : DataW.trod enc Tryz.prog W base sp hd n 3 (([c0,c1,c2,c3,c4,c5,c6,c7,c8].drop 8).take (Tryz.prog.cellsOf 3)) = xs[8]? := hf 8 _ rfl
  rw [hy8] at g8
  simp only [cells3,List.drop_succ_cons,List.drop_zero,List.take_succ_cons,List.take_zero] at g8
  obtain ⟨k0,e0,_,_⟩ := DataW.trod_int Tryz.underlying3 g0
  simp only [List.cons.injEq,and_true] at e0
  subst e0
  obtain ⟨k1,e1,_,_⟩ := DataW.trod_string Tryz.underlying9 g1
  simp only [List.cons.injEq,and_true] at e1
  subst e1
  obtain ⟨k2,e2,_,_⟩ := DataW.trod_string Tryz.underlying9 g2
  simp only [List.cons.injEq,and_true] at e2
  subst e2
  obtain ⟨k4,e4,_⟩ := DataW.trod_bool Tryz.underlying4 g4
  simp only [List.cons.injEq,and_true] at e4
  subst e4
  obtain ⟨k5,e5,_⟩ := DataW.trod_bool Tryz.underlying4 g5
  simp only [List.cons.injEq,and_true] at e5
  subst e5
  obtain ⟨k6,e6,_⟩ := DataW.trod_bool Tryz.underlying4 g6
  simp only [List.cons.injEq,and_true] at e6
  subst e6
  obtain ⟨k7,e7,_,_⟩ := DataW.trod_int Tryz.underlying3 g7
  simp only [List.cons.injEq,and_true] at e7
  subst e7
  obtain ⟨k8,e8,_,_⟩ := DataW.trod_int Tryz.underlying3 g8
  simp only [List.cons.injEq,and_true] at e8
  subst e8
  obtain ⟨ats,has⟩ := rd_attrs g3
  exact ⟨⟨k0,k1,k2,ats,k4,k5,k6,k7,k8⟩,c3,rfl,has⟩
set_option maxRecDepth 100000 in
theorem rd_toks {v : Value} {d : DataW H} {ps : List MemPlace} {r : Reach} {b0 : Nat} (hv : Value.okWide Tryz.prog W r b0 95 v) (h : DataW.Trod enc Tryz.prog W base sp hd 95 v d ps) : ∃ l : List HTok,ToksAt W v l := by
  obtain ⟨va,vn,vc,rfl⟩ := okWide_slice Tryz.underlying95 hv
  obtain ⟨fuel,h⟩ := h
  rcases Deep.open_slice Tryz.underlying95 h with ⟨h1,_⟩ | ⟨a,len,cap,m,n,D,Pl,h1,h2,h3,h4,h5,h6,h7⟩
  · cases h1
    exact ⟨[],none,0,rfl,Nat.le_refl _,fun k x hk => by simp at hk⟩
  · have h1 : Value.slice va vn vc = .slice (some a) len cap := by
      simpa [Value.cells] using h1
    cases h1
    have hlm : vn ≤ m := by rw [h5]; split <;> omega
    haveI : Inhabited (HTok × Value) := ⟨⟨⟨0,⟨#[]⟩,⟨#[]⟩,[],false,false,false,0,0⟩,.slice none 0 0⟩⟩
    have each : ∀ i,i < m → ∃ y : HTok × Value,(∀ j,j < 9 → W.cell? ((a.add (i * 9)).add j) = (y.1.row y.2)[j]?) ∧ RdAt W 2 y.2 (attrCells y.1.attrs) := fun i hi => by
      obtain ⟨cs,g1,g2⟩ := h7 i hi
      rw [cellsTk] at g1
      obtain ⟨_,hlen,hcell⟩ := World.cells?_some g1
      obtain ⟨t,av,e,hat⟩ := tok_of g2
      refine ⟨(t,av),fun j hj => ?_,hat⟩
      have := hcell j hj
      rw [this,e,Array.getElem?_toList]
    obtain ⟨f,hf⟩ := Deep.choose_lt each
    refine ⟨(List.range vn).map fun i => (f i).1,some a,vc,by simp,by simpa using h3,fun k x hk => ?_⟩
    have hkl : k < vn := by
      have := (List.getElem?_eq_some_iff.1 hk).1
      simpa using this
    have hx : x = (f k).1 := by
      rw [List.getElem?_map,List.getElem?_range hkl] at hk
      exact (Option.some.inj hk).symm
    subst hx
    obtain ⟨g1,g2⟩ := hf k (by omega)
    obtain ⟨z1,_⟩ := hf 0 (by omega)
    have h00 := z1 0 (by decide)
    rw [Nat.zero_mul] at h00
    have e0 : (a.add 0).add 0 = a := rfl
    rw [e0] at h00
    obtain ⟨b,o,rfl⟩ := spot_none (h00.trans (show ((f 0).1.row (f 0).2)[0]? = some (.int .i64 (f 0).1.kind) from rfl))
    refine ⟨b,o,(f k).2,rfl,fun j hj => ?_,g2⟩
    rw [← g1 j hj,add_mk,add_mk]
end
end Go.Proofs.YtgnnlaeikcnhcaaGreatDoor
end
section
namespace Go.Vk
open Go Go.Proofs.YtgnnlaeikcnhcaaGreatDoor
end Go.Vk
end
section
namespace Go.Vk
open Go
theorem ToksAt.ext {w w' : World} {v : Value} {l : List HTok} (h : ToksAt w v l) (hx : Ext w w') : ToksAt w' v l := by
  obtain ⟨a,c,h1,h2,h3⟩ := h
  refine ⟨a,c,h1,h2,fun k t hk => ?_⟩
  obtain ⟨b,o,av,g1,g2,g3⟩ := h3 k t hk
  refine ⟨b,o,av,g1,fun j hj => ?_,g3.ext hx⟩
  obtain ⟨u,hu⟩ : ∃ u,(t.row av)[j]? = some u := ⟨_,Array.getElem?_eq_getElem (show j < (t.row av).size from hj)⟩
  rw [hu,cell_ext hx ((g2 j hj).trans hu)]
theorem ToksAt.get {w : World} {a : Option Addr} {n c : Nat} {l : List HTok} (h : ToksAt w (.slice a n c) l) {k : Nat} {t : HTok} (hk : l[k]? = some t) : ∃ b o xa xn xc,a = some ⟨b,o,none⟩ ∧ RdAt w 2 (.slice xa xn xc) (attrCells t.attrs) ∧
    cellO (w.heap[b]?) (o + k * 9) = some (.int .i64 t.kind) ∧ cellO (w.heap[b]?) (o + k * 9 + 1) = some (.string t.name) ∧ cellO (w.heap[b]?) (o + k * 9 + 2) = some (.string t.text) ∧ cellO (w.heap[b]?) (o + k * 9 + 3) = some (.slice xa xn xc) ∧ cellO (w.heap[b]?) (o + k * 9 + 4) = some (.bool t.dup) ∧ cellO (w.heap[b]?) (o + k * 9 + 5) = some (.bool t.self) ∧ cellO (w.heap[b]?) (o + k * 9 + 6) = some (.bool t.quirks) ∧ cellO (w.heap[b]?) (o + k * 9 + 7) = some (.int .i64 t.frm) ∧ cellO (w.heap[b]?) (o + k * 9 + 8) = some (.int .i64 t.to) := by
  obtain ⟨a',c',e,_,h3⟩ := h
  cases e
  obtain ⟨b,o,av,rfl,g2,g3⟩ := h3 k t hk
  obtain ⟨xa,xn,xc,rfl,_⟩ := id g3
  have q : ∀ j,j < 9 → cellO (w.heap[b]?) (o + k * 9 + j) = (t.row (.slice xa xn xc))[j]? := fun j hj => by rw [← cell_h]; exact g2 j hj
  exact ⟨b,o,xa,xn,xc,rfl,g3,q 0 (by decide),q 1 (by decide),q 2 (by decide),q 3 (by decide),q 4 (by decide),q 5 (by decide),q 6 (by decide),q 7 (by decide),q 8 (by decide)⟩
theorem large_no {t : HTok} (h : largeT t = false) : T300 t := by
  unfold largeT at h
  simp only [Bool.or_eq_false_iff,decide_eq_false_iff_not] at h
  exact ⟨by omega,by omega,by omega⟩
end Go.Vk
namespace Go.Proofs.YtgnnlaeikcnhcaaGreatDoor
open Go Go.Vk
set_option maxHeartbeats 40000000
theorem great19_c {w : World} {v : Value} {l : List HTok} (hT : ToksAt w v l) (m : Int) (hm : m < 1000000) : Gives Tryz.prog 84 #[v,.int .i64 m] w fun v w' => (∃ g,v = .bool g ∧ (g = false → (l.length : Int) ≤ m ∧ ∀ t ∈ l,T300 t)) ∧ Ext w w' := by
  obtain ⟨va,vc,rfl,hvc,_⟩ := id hT
  by_cases h1 : m < (l.length : Int)
  · refine Gives.of_W Tryz.call84 Tryz.func84 rfl Tryz.ntmps84 (by simp) ?_; intro Z hZ
    (repeat revert hK K);refine W1 @h1 ?_;repeat with_reducible intro K hK
    exact Ext.refl _
  refine Gives.of_W Tryz.call84 Tryz.func84 rfl Tryz.ntmps84 (by simp) ?_; intro Z hZ
  (repeat revert hK K);refine W1 @h1 ?_;repeat with_reducible intro K hK
  refine W_loop (S := Nat) (fun k => [(0, .slice va l.length vc), (5, .int .i64 (k : Int))])
    (fun k w2 => k ≤ l.length ∧ (∀ t ∈ l.take k,T300 t) ∧ Ext w w2) (fun k => l.length - k) 0 ?_ ?_ ?_
  · (repeat simp only [push_cast,seval,-Nat.reduceSubDiff])
  · exact ⟨by omega,fun t ht => by simp at ht,Ext.refl _⟩
  rintro k w2 ⟨hk,ht,hx2⟩
  by_cases hkl : k < l.length
  · obtain ⟨x, hx⟩ : ∃ x, l[k]? = some x := ⟨_, List.getElem?_eq_getElem hkl⟩
    obtain ⟨b,o,xa,xn,xc,rfl,hat,c0,c1,c2,c3,c4,c5,c6,c7,c8⟩ := (hT.ext hx2).get hx
    have hrow : x.row (.slice xa xn xc) = #[.int .i64 x.kind,.string x.name,.string x.text,.slice xa xn xc,.bool x.dup,.bool x.self,.bool x.quirks,.int .i64 x.frm,.int .i64 x.to] := rfl
    have b0 : (k : Int) < (l.length : Int) := by omega
    have b1 : (0 : Int) ≤ (k : Int) := by omega
    have b2 : inI64 ((k : Int) + 1) := by unfold inI64; omega
    (repeat revert hK K);refine W2 @b0 @b1 ?_;repeat with_reducible intro K hK
    (repeat first|(with_reducible first|(refine hK _ _ ?_;clear hK K)|refine ‹∀σ w,_→K σ w› _ _ ?_|(refine W_st ?_;constructor;try intro K hK))|((with_reducible first|refine hZ _ _ ?_|refine W_rg ?_|skip);repeat1' simp only[push_cast,seval,-Nat.reduceSubDiff,cell_h,c0,c1,c2,c3,c4,c5,c6,c7,c8])|((repeat((fail_if_success with_reducible refine hK _ _ ?_);clear hK K));with_reducible refine hK _ _ ?_;clear hK K))
    rw [← hrow]
    refine (large_c hat).mono ?_
    rintro v w3 ⟨rfl,hx3⟩
    cases hl : largeT x with
    | true =>
      (repeat revert hK K);refine W0 ?_;repeat with_reducible intro K hK
      exact hx2.trans hx3
    | false =>
      (repeat revert hK K);refine W1 @b2 ?_;repeat with_reducible intro K hK
      refine ⟨k + 1,by omega,?_⟩
      (repeat simp only [push_cast,seval,-Nat.reduceSubDiff])
      refine ⟨by omega,fun t hm => ?_,hx2.trans hx3⟩
      rw [List.take_add_one,hx,Option.toList_some] at hm
      rcases List.mem_append.1 hm with hm | hm
      · exact ht t hm
      · rw [List.mem_singleton] at hm
        rw [hm]; exact large_no hl
  · have hke : k = l.length := by omega
    subst hke
    rw [List.take_length] at ht
    have b0 : ¬ (l.length : Int) < (l.length : Int) := by omega
    (repeat revert hK K);refine W1 @b0 ?_;repeat with_reducible intro K hK
    exact ⟨by omega,ht,hx2⟩
end Go.Proofs.YtgnnlaeikcnhcaaGreatDoor
end
section
namespace Go.Proofs.YtgnnlaeikcnhcaaGreatDoor
open Go Go.Vk Go.WideElems Go.Maps
theorem gbh_of {W : World} (h : laidMetH Tryz.prog [("lazaret/builder.by", Rows.laid_lazaret_builder_by), ("lazaret/heads.steps", Rows.laid_lazaret_heads_steps)] W) : GB W := by
  have h' : laidMet Tryz.prog [("lazaret/builder.by", Rows.laid_lazaret_builder_by)] W ∧ _ := h
  obtain ⟨⟨ps,⟨g',t',cs,fuel,p,q,hg',ht',hvar,hd,_,_⟩,_⟩,_⟩ := h'
  obtain rfl := Option.some.inj (gBy.symm.trans hg')
  obtain rfl := Option.some.inj (gByT.symm.trans ht')
  exact gb_of_var hvar hd
theorem heads_of {W : World} (h : laidMetH Tryz.prog [("lazaret/builder.by", Rows.laid_lazaret_builder_by), ("lazaret/heads.steps", Rows.laid_lazaret_heads_steps)] W) (hs : W.ShapedOpen Tryz.prog) : GB W ∧ GS W ∧ MaxAt W := ⟨gbh_of h, gs_of h, maxAt_of hs⟩
end Go.Proofs.YtgnnlaeikcnhcaaGreatDoor
end
section
namespace Go.Vk
theorem and_split {a b : Bool} (ha : a = true) (hb : b = true) : (a && b) = true := by rw [ha,hb]; rfl
end Go.Vk
namespace Go.Proofs.YtgnnlaeikcnhcaaGreatDoor
open Go Go.Vk
theorem et_of2 {W : World} {r : List (String × DataW Unit)} (h : laidMetH Tryz.prog (("errors.errorType", Rows.laid_errors_errorType) :: r) W) : ET W := by
  have h' : laidMet Tryz.prog ((("errors.errorType", Rows.laid_errors_errorType) :: r).filter fun x => x.2.handleName?.isNone) W ∧ handlesMet Tryz.prog ((("errors.errorType", Rows.laid_errors_errorType) :: r).filter fun x => x.2.handleName?.isSome) W := h
  refine et_of fun x hx => h'.2 x ?_
  rw [List.mem_singleton] at hx
  subst hx
  exact List.mem_filter.2 ⟨List.mem_cons_self,rfl⟩
end Go.Proofs.YtgnnlaeikcnhcaaGreatDoor
end
section
namespace Go.Proofs.YtgnnlaeikcnhcaaGreatDoor
open Go Go.Vk
theorem laid_tail {W : World} (h : laidMetH Tryz.prog [("errors.errorType", Rows.laid_errors_errorType), ("lazaret/builder.by", Rows.laid_lazaret_builder_by), ("lazaret/heads.steps", Rows.laid_lazaret_heads_steps)] W) : laidMetH Tryz.prog [("lazaret/builder.by", Rows.laid_lazaret_builder_by), ("lazaret/heads.steps", Rows.laid_lazaret_heads_steps)] W := by
  have h' : laidMet Tryz.prog ([("lazaret/builder.by", Rows.laid_lazaret_builder_by), ("lazaret/heads.steps", Rows.laid_lazaret_heads_steps)].filter fun x => x.2.handleName?.isNone) W ∧ handlesMet Tryz.prog (("errors.errorType", Rows.laid_errors_errorType) :: [("lazaret/builder.by", Rows.laid_lazaret_builder_by), ("lazaret/heads.steps", Rows.laid_lazaret_heads_steps)].filter fun x => x.2.handleName?.isSome) W := h
  have k : laidMet Tryz.prog ([("lazaret/builder.by", Rows.laid_lazaret_builder_by), ("lazaret/heads.steps", Rows.laid_lazaret_heads_steps)].filter fun x => x.2.handleName?.isNone) W ∧ handlesMet Tryz.prog ([("lazaret/builder.by", Rows.laid_lazaret_builder_by), ("lazaret/heads.steps", Rows.laid_lazaret_heads_steps)].filter fun x => x.2.handleName?.isSome) W := ⟨h'.1, fun x hx => h'.2 x (List.mem_cons_of_mem _ hx)⟩
  exact k
theorem heads_of3 {W : World} (h : laidMetH Tryz.prog [("errors.errorType", Rows.laid_errors_errorType), ("lazaret/builder.by", Rows.laid_lazaret_builder_by), ("lazaret/heads.steps", Rows.laid_lazaret_heads_steps)] W) (hs : W.ShapedOpen Tryz.prog) : (GB W ∧ GS W ∧ MaxAt W) ∧ ET W := ⟨heads_of (laid_tail h) hs, et_of2 h⟩
end Go.Proofs.YtgnnlaeikcnhcaaGreatDoor
end
