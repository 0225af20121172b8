/- What the proof leans on,part 15 of 15. -/
import Derived.Test.YtgnnlaeikcnhcaaGreatDoorQHeadsPlayN
set_option linter.unusedSimpArgs false
set_option linter.unusedVariables false
section
namespace Go.Proofs.YtgnnlaeikcnhcaaGreatDoor
open Go Go.Vk
set_option maxHeartbeats 40000000
set_option maxHeartbeats 4000000 in
set_option maxRecDepth 20000 in
theorem headsPlay_c {w0 : World} (hg0 : GB w0) (hS0 : GS w0) (hM0 : MaxAt w0) (hE0 : ET w0) {v0 : Value} {l : List HTok} (hT0 : ToksAt w0 v0 l) :
    Gives Tryz.prog 15 #[v0] w0 fun v w' => v = .bool true ∧ Ext w0 w' := by
  obtain ⟨va,vc,rfl,hvc,_⟩ := id hT0
  refine Gives.of_W Tryz.call15 Tryz.func15 rfl Tryz.ntmps15 (by simp) ?_; intro Z hZ
  (repeat revert hK K);refine W0 ?_;repeat with_reducible intro K hK
  refine (great19_c hT0 80 (by decide)).mono ?_
  rintro v w1 ⟨⟨g,rfl,hgr⟩,hx1⟩
  have hg := hg0.ext hx1
  have hS := hS0.ext hx1
  have hM := hM0.ext hx1
  have hE : ET w1 := cell_ext hx1 hE0
  have hT := hT0.ext hx1
  cases g with
  | true =>
    (repeat revert hK K);refine W0 ?_;repeat with_reducible intro K hK
    refine (begins_c hg hS hM).mono ?_
    rintro v w' ⟨rfl,hy⟩
    (repeat revert hK K);refine W0 ?_;repeat with_reducible intro K hK
    exact hx1.trans hy
  | false =>
  obtain ⟨hl80,htk⟩ := hgr rfl
  have hln : l.length ≤ 80 := by omega
  (repeat revert hK K);refine W0 ?_;repeat with_reducible intro K hK
  refine bnew_c.mono ?_
  rintro v w2 ⟨pb,ps,pl,pa,rfl,hB2⟩
  (repeat revert hK K);refine W0 ?_;repeat with_reducible intro K hK
  refine dnew_c.mono ?_
  rintro v w3 ⟨pd,rfl,hu3,x3,hM3,hS3⟩
  have hs12 := hB2.out.alike.size
  have hx3 : Ext w2 w3 := hu3
  have hBo : Bo w1 w3 pb ps pl pa pd newB newB := by
    have hlo : ∀ q ∈ x3.own pd,w2.heap.size ≤ q := fun q hq => by
      rcases hS3 q hq with h | h
      · exact h.elim
      · exact h
    refine ⟨x3,hM3,fun q hq => by have := hlo q hq; omega,hB2.more hx3 fun q hq => .inr ⟨hlo q hq,hM3.lt hq⟩⟩
  (repeat revert hK K);refine W0 ?_;repeat with_reducible intro K hK
  refine W_loop (S := Nat) (fun k => [(0, .slice va l.length vc), (3, .pointer (some ⟨pb, 0, none⟩)), (4, .pointer (some ⟨pd, 0, none⟩)), (5, .int .i64 (k : Int))])
    (fun k w4 => k ≤ l.length ∧ ∃ b,Bo w1 w4 pb ps pl pa pd b b ∧ Pl (64 * k) b) (fun k => l.length - k) 0 ?_ ?_ ?_
  · (repeat simp only [push_cast,seval,-Nat.reduceSubDiff])
  · exact ⟨by omega,newB,hBo,.new⟩
  rintro k w4 ⟨hk,b,h4,hP⟩
  by_cases hkl : k < l.length
  · obtain ⟨t, ht⟩ : ∃ x, l[k]? = some x := ⟨_, List.getElem?_eq_getElem hkl⟩
    have ht3 := htk t (List.mem_of_getElem? ht)
    obtain ⟨tb,to_,xa,xn,xc,rfl,hat,c0,c1,c2,c3,c4,c5,c6,c7,c8⟩ := hT.get ht
    have hrow : t.row (.slice xa xn xc) = #[.int .i64 t.kind,.string t.name,.string t.text,.slice xa xn xc,.bool t.dup,.bool t.self,.bool t.quirks,.int .i64 t.frm,.int .i64 t.to] := rfl
    have ltb : tb < w1.heap.size := dO_lt c0
    have b0 : (k : Int) < (l.length : Int) := by omega
    have b1 : (0 : Int) ≤ (k : Int) := by omega
    have b2 : inI64 ((k : Int) + 1) := by unfold inI64; omega
    have zt : ∀ {wz : World},Ext w1 wz → ∀ j v,cellO (w1.heap[tb]?) j = some v → cellO (wz.heap[tb]?) j = some v := fun hx j v h => dO_ext hx h
    (repeat revert hK K);refine W1 @b0 ?_;repeat with_reducible intro K hK
    rename_i Ka hKa
    refine K_cut hKa [(0,.slice (some ⟨tb,to_,none⟩) l.length vc),(3,.pointer (some ⟨pb,0,none⟩)),(4,.pointer (some ⟨pd,0,none⟩)),(5,.int .i64 (k : Int))] (fun w' => ∃ b,Bo w1 w' pb ps pl pa pd b b ∧ Pl (64 * (k + 1)) b) ?tail fun hKa => ?_
    case tail =>
      clear h4 hP hBo hK K hKa Ka
      rintro w5 ⟨b,h5,hP⟩
      have hxd := Ext.drew w5
      have h5d := h5.pass hxd
      have z0 := zt h5d.out _ _ c0
      have z1 := zt h5d.out _ _ c1
      have z2 := zt h5d.out _ _ c2
      have z3 := zt h5d.out _ _ c3
      have z4 := zt h5d.out _ _ c4
      have z5 := zt h5d.out _ _ c5
      have z6 := zt h5d.out _ _ c6
      have z7 := zt h5d.out _ _ c7
      have z8 := zt h5d.out _ _ c8
      (repeat revert hK K);refine W0 ?_;repeat with_reducible intro K hK
      refine W_draw (.pas 0 (.pas 1 (.pas 2 (.pas 3 (.pas 5 (.pas 6 (.pas 7 (.pas 8 (.act 4 (.act 9 (.pas 10 .fin))))))))))) (fun q => q < w1.heap.size) (by decide) mixed (by kernel_rfl) ?_
      generalize w5.drew = wd at *
      have sd := h5d.out.alike.size
      (repeat (first | ((first | refine pas_plain rfl ?_ | refine pas_g rfl rfl ?_ | refine act_plain rfl ?_ | refine act_g rfl rfl ?_ | refine last_plain rfl ?_ | refine tail_plain rfl ?_ | refine tail_g rfl rfl ?_); (repeat simp only [push_cast,seval,-Nat.reduceSubDiff,b0,b1,cell_h,ltb,z0,z1,z2,z3,z4,z5,z6,z7,z8])) | (refine tail_fin ?_) | (refine sch_fin ?_)))
      rw [← hrow]
      refine hbelongs_c.mono ?_
      rintro v w6 ⟨rfl,hx6⟩
      have h6 := h5d.pass hx6
      have z0 := zt h6.out _ _ c0
      have z1 := zt h6.out _ _ c1
      have z2 := zt h6.out _ _ c2
      have z3 := zt h6.out _ _ c3
      have z4 := zt h6.out _ _ c4
      have z5 := zt h6.out _ _ c5
      have z6 := zt h6.out _ _ c6
      have z7 := zt h6.out _ _ c7
      have z8 := zt h6.out _ _ c8
      refine ⟨kept_upd hx6 fun q hq => ⟨by omega,id⟩,?_⟩
      (repeat (first | ((first | refine pas_plain rfl ?_ | refine pas_g rfl rfl ?_ | refine act_plain rfl ?_ | refine act_g rfl rfl ?_ | refine last_plain rfl ?_ | refine tail_plain rfl ?_ | refine tail_g rfl rfl ?_); (repeat simp only [push_cast,seval,-Nat.reduceSubDiff,b0,b1,cell_h,ltb,z0,z1,z2,z3,z4,z5,z6,z7,z8])) | (refine tail_fin ?_) | (refine sch_fin ?_)))
      refine dbelongs_c.mono ?_
      rintro v w7 ⟨rfl,hx7⟩
      have h7 := h6.pass hx7
      refine ⟨kept_upd hx7 fun q hq => ⟨by have := hx6.alike.size; omega,id⟩,?_⟩
      (repeat (first | ((first | refine pas_plain rfl ?_ | refine pas_g rfl rfl ?_ | refine act_plain rfl ?_ | refine act_g rfl rfl ?_ | refine last_plain rfl ?_ | refine tail_plain rfl ?_ | refine tail_g rfl rfl ?_); (repeat simp only [push_cast,seval,-Nat.reduceSubDiff,decide_true,decide_false,beq_self_eq_true,eq_self,not_true_eq_false,not_false_eq_true])) | (refine tail_fin ?_) | (refine sch_fin ?_)))
      (repeat first|(with_reducible first|(refine hK _ _ ?_;clear hK K)|refine ‹∀σ w,_→K σ w› _ _ ?_|(refine W_st ?_;constructor;try intro K hK))|((with_reducible first|refine hZ _ _ ?_|refine W_rg ?_|skip);repeat1' simp only[push_cast,seval,-Nat.reduceSubDiff,b2,decide_true,decide_false,beq_self_eq_true,eq_self,not_true_eq_false,not_false_eq_true])|((repeat((fail_if_success with_reducible refine hK _ _ ?_);clear hK K));with_reducible refine hK _ _ ?_;clear hK K))
      refine ⟨k + 1,by omega,?_⟩
      (repeat simp only [push_cast,seval,-Nat.reduceSubDiff])
      exact ⟨by omega,b,h7,hP⟩
    refine W_loop (S := Nat) (fun n => [(0, .slice (some ⟨tb, to_, none⟩) l.length vc), (3, .pointer (some ⟨pb, 0, none⟩)), (4, .pointer (some ⟨pd, 0, none⟩)), (5, .int .i64 (k : Int)), (6, .int .i64 (n : Int))])
      (fun n w5 => n ≤ 8 ∧ ∃ b,Bo w1 w5 pb ps pl pa pd b b ∧ Pl (64 * k + 8 * n) b) (fun n => 8 - n) 0 ?_ ?_ ?_
    · (repeat simp only [push_cast,seval,-Nat.reduceSubDiff])
    · exact ⟨by omega,b,h4,hP⟩
    clear h4 hP hBo
    rintro n w5 ⟨hn,b,h5,hP⟩
    obtain ⟨x5,hM5,hlo5,hB5⟩ := id h5
    obtain ⟨oa5,oc5,la5,lc5,ma5,mc5,_,_,_,_,_,_,_,hh5⟩ := hM5.hd
    have he0 : b.err.getD 0 = 0 := by rw [hP.err]; rfl
    rw [he0] at hh5
    by_cases hn8 : n < 8
    · have n0 : (n : Int) < 8 := by omega
      have n2 : inI64 ((n : Int) + 1) := by unfold inI64; omega
      (repeat first|(with_reducible first|(refine hK _ _ ?_;clear hK K)|refine ‹∀σ w,_→K σ w› _ _ ?_|(refine W_st ?_;constructor;try intro K hK))|((with_reducible first|refine hZ _ _ ?_|refine W_rg ?_|skip);repeat1' simp only[push_cast,seval,-Nat.reduceSubDiff,n0,cell_h,cellO_cells,hh5])|((repeat((fail_if_success with_reducible refine hK _ _ ?_);clear hK K));with_reducible refine hK _ _ ?_;clear hK K))
      refine (own19_c b.mode).mono ?_
      intro v w' ⟨hv',hw'⟩
      subst hv'; subst w'
      cases ho : ownM b.mode with
      | false =>
        (repeat first|(with_reducible first|(refine hK _ _ ?_;clear hK K)|refine ‹∀σ w,_→K σ w› _ _ ?_|(refine W_st ?_;constructor;try intro K hK))|((with_reducible first|refine hZ _ _ ?_|refine W_rg ?_|skip);repeat1' simp only[push_cast,seval,-Nat.reduceSubDiff])|((repeat((fail_if_success with_reducible refine hK _ _ ?_);clear hK K));with_reducible refine hK _ _ ?_;clear hK K))
        refine hKa _ _ ⟨?_,b,h5,hP.mono (by omega)⟩
        (repeat simp only [push_cast,seval,-Nat.reduceSubDiff])
      | true =>
      obtain ⟨no15,inI⟩ := own_no15 ho
      obtain ⟨hd,hhd5,hs5⟩ := hP.dh no15 (by omega) ht3
      have hP' := hP.step no15 (by omega) ht3
      have hO := hP.st.sz.hdo (m := 6) (by omega)
      have hxd := Ext.drew w5
      have h5d := h5.pass hxd
      have z0 := zt h5d.out _ _ c0
      have z1 := zt h5d.out _ _ c1
      have z2 := zt h5d.out _ _ c2
      have z3 := zt h5d.out _ _ c3
      have z4 := zt h5d.out _ _ c4
      have z5 := zt h5d.out _ _ c5
      have z6 := zt h5d.out _ _ c6
      have z7 := zt h5d.out _ _ c7
      have z8 := zt h5d.out _ _ c8
      (repeat first|(with_reducible first|(refine hK _ _ ?_;clear hK K)|refine ‹∀σ w,_→K σ w› _ _ ?_|(refine W_st ?_;constructor;try intro K hK))|((with_reducible first|refine hZ _ _ ?_|refine W_rg ?_|skip);repeat1' simp only[push_cast,seval,-Nat.reduceSubDiff,cell_h,cellO_cells,hh5,decide_true,decide_false,beq_self_eq_true,eq_self,not_true_eq_false,not_false_eq_true])|((repeat((fail_if_success with_reducible refine hK _ _ ?_);clear hK K));with_reducible refine hK _ _ ?_;clear hK K))
      refine W_draw (.pas 0 (.pas 1 (.pas 2 (.pas 3 (.pas 4 (.pas 6 (.pas 7 (.pas 8 (.pas 9 (.pas 10 (.act 5 (.act 11 (.pas 12 (.pas 13 .fin)))))))))))))) (fun q => q < w1.heap.size) (by decide) mixed (by kernel_rfl) ?_
      generalize w5.drew = wd at *
      have sd := h5d.out.alike.size
      (repeat (first | ((first | refine pas_plain rfl ?_ | refine pas_g rfl rfl ?_ | refine act_plain rfl ?_ | refine act_g rfl rfl ?_ | refine last_plain rfl ?_ | refine tail_plain rfl ?_ | refine tail_g rfl rfl ?_); (repeat simp only [push_cast,seval,-Nat.reduceSubDiff,b0,b1,cell_h,ltb,z0,z1,z2,z3,z4,z5,z6,z7,z8])) | (refine tail_fin ?_) | (refine sch_fin ?_)))
      rw [← hrow]
      obtain ⟨Q,hQl,hBd,hprog⟩ := h5d.prog
      refine (step_c hBd hO hg hS hM hQl inI hat ht3.sm).mono ?_
      rintro v w6 ⟨rfl,hB6,hu6⟩
      have h6 := hprog _ _ hB6 hu6
      refine ⟨kept_upd hu6 fun q hq => ⟨by omega,fun hf => by have := hf.1; omega⟩,?_⟩
      have s6 := hu6.alike.size
      have z0 := zt h6.out _ _ c0
      have z1 := zt h6.out _ _ c1
      have z2 := zt h6.out _ _ c2
      have z3 := zt h6.out _ _ c3
      have z4 := zt h6.out _ _ c4
      have z5 := zt h6.out _ _ c5
      have z6 := zt h6.out _ _ c6
      have z7 := zt h6.out _ _ c7
      have z8 := zt h6.out _ _ c8
      (repeat (first | ((first | refine pas_plain rfl ?_ | refine pas_g rfl rfl ?_ | refine act_plain rfl ?_ | refine act_g rfl rfl ?_ | refine last_plain rfl ?_ | refine tail_plain rfl ?_ | refine tail_g rfl rfl ?_); (repeat simp only [push_cast,seval,-Nat.reduceSubDiff,b0,b1,cell_h,ltb,z0,z1,z2,z3,z4,z5,z6,z7,z8])) | (refine tail_fin ?_) | (refine sch_fin ?_)))
      obtain ⟨S1,hS1,hD6,hdoc⟩ := h6.doc
      have hat6 : ∀ w',Upd S1 w6 w' → RdAt w' 2 (.slice xa xn xc) (attrCells t.attrs) := fun w' hu => hat.ext (Upd.trans h6.out hu fun q hq hs => by have := hS1 q hs; omega)
      refine (dstep_c hD6 hd hat6 hhd5 hs5).mono ?_
      rintro v w7 ⟨rfl,h7⟩
      refine ⟨kept_upd h7.1 fun q hq => ⟨by omega,fun hs => by have := hS1 q hs; omega⟩,?_⟩
      have h7' := hdoc _ _ h7
      rw [step_eq] at h7' ⊢
      (repeat (first | ((first | refine pas_plain rfl ?_ | refine pas_g rfl rfl ?_ | refine act_plain rfl ?_ | refine act_g rfl rfl ?_ | refine last_plain rfl ?_ | refine tail_plain rfl ?_ | refine tail_g rfl rfl ?_); (repeat simp only [push_cast,seval,-Nat.reduceSubDiff])) | (refine tail_fin ?_) | (refine sch_fin ?_)))
      (repeat first|(with_reducible first|(refine hK _ _ ?_;clear hK K)|refine ‹∀σ w,_→K σ w› _ _ ?_|(refine W_st ?_;constructor;try intro K hK))|((with_reducible first|refine hZ _ _ ?_|refine W_rg ?_|skip);repeat1' simp only[push_cast,seval,-Nat.reduceSubDiff,decide_true,decide_false,beq_self_eq_true,eq_self,not_true_eq_false,not_false_eq_true])|((repeat((fail_if_success with_reducible refine hK _ _ ?_);clear hK K));with_reducible refine hK _ _ ?_;clear hK K))
      have hO' := hP'.st.sz.hdo (m := 6) (by omega)
      obtain ⟨_,_,hB7,_⟩ := h7'.prog
      obtain ⟨_,hA7,_⟩ := hB7.ar
      have hgd := hA7.gd
      refine (same17_c h7' hE hP'.err hO'.ok (by have := hP'.md; omega) (by have := hO'.s; omega) (by have := hO'.l; omega) fun n hn => ?_).mono ?_
      · obtain ⟨i, hi⟩ := List.mem_iff_getElem?.1 hn
        have h1 := hgd.few (i : Int)
        rw [gN_nat hi] at h1
        have h2 := hO'.L
        omega
      rintro v w8 ⟨rfl,h8⟩
      have hP8 := hP'.ask
      cases hst : (stepH b t).2 with
      | true =>
        (repeat first|(with_reducible first|(refine hK _ _ ?_;clear hK K)|refine ‹∀σ w,_→K σ w› _ _ ?_|(refine W_st ?_;constructor;try intro K hK))|((with_reducible first|refine hZ _ _ ?_|refine W_rg ?_|skip);repeat1' simp only[push_cast,seval,-Nat.reduceSubDiff,n2,decide_true,decide_false,beq_self_eq_true,eq_self,not_true_eq_false,not_false_eq_true])|((repeat((fail_if_success with_reducible refine hK _ _ ?_);clear hK K));with_reducible refine hK _ _ ?_;clear hK K))
        refine ⟨n + 1,by omega,?_⟩
        (repeat simp only [push_cast,seval,-Nat.reduceSubDiff])
        exact ⟨by omega,_,h8,hP8.mono (by omega)⟩
      | false =>
        (repeat first|(with_reducible first|(refine hK _ _ ?_;clear hK K)|refine ‹∀σ w,_→K σ w› _ _ ?_|(refine W_st ?_;constructor;try intro K hK))|((with_reducible first|refine hZ _ _ ?_|refine W_rg ?_|skip);repeat1' simp only[push_cast,seval,-Nat.reduceSubDiff,decide_true,decide_false,beq_self_eq_true,eq_self,not_true_eq_false,not_false_eq_true])|((repeat((fail_if_success with_reducible refine hK _ _ ?_);clear hK K));with_reducible refine hK _ _ ?_;clear hK K))
        refine hKa _ _ ⟨?_,_,h8,hP8.mono (by omega)⟩
        (repeat simp only [push_cast,seval,-Nat.reduceSubDiff])
    have n0 : ¬ (n : Int) < 8 := by omega
    (repeat first|(with_reducible first|(refine hK _ _ ?_;clear hK K)|refine ‹∀σ w,_→K σ w› _ _ ?_|(refine W_st ?_;constructor;try intro K hK))|((with_reducible first|refine hZ _ _ ?_|refine W_rg ?_|skip);repeat1' simp only[push_cast,seval,-Nat.reduceSubDiff,n0])|((repeat((fail_if_success with_reducible refine hK _ _ ?_);clear hK K));with_reducible refine hK _ _ ?_;clear hK K))
    refine hKa _ _ ⟨?_,b,h5,hP.mono (by omega)⟩
    (repeat simp only [push_cast,seval,-Nat.reduceSubDiff])
  have hke : k = l.length := by omega
  subst hke
  have b0 : ¬ (l.length : Int) < (l.length : Int) := by omega
  (repeat revert hK K);refine W1 @b0 ?_;repeat with_reducible intro K hK
  refine (begins_c (hg.ext h4.out) (hS.ext h4.out) (hM.ext h4.out)).mono ?_
  rintro v w' ⟨rfl,hy⟩
  (repeat revert hK K);refine W0 ?_;repeat with_reducible intro K hK
  exact (hx1.trans h4.out).trans hy
end Go.Proofs.YtgnnlaeikcnhcaaGreatDoor
end
