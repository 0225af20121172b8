/- What the proof leans on,part 7 of 15. -/
import Derived.Test.YtgnnlaeikcnhcaaGreatDoorQHeadsPlayF
set_option linter.unusedSimpArgs false
set_option linter.unusedVariables false
section
namespace Go.Proofs.YtgnnlaeikcnhcaaGreatDoor
open Go Go.Vk
set_option maxHeartbeats 40000000
theorem fld6 (m : Laid) (w : World) (K : Value → World → Prop) : Pure1 Tryz.prog (Instr.field 46 m.val 6) w K = K (.int .i64 m.nd.parent) w :=
  Pure1_eq (fun w => by rw [Laid.val_eq]; simp [Instr.field,run_underlying Tryz.underlying46,asAgg,part,Tryz.sizeOf3,Sem.run]) w K
section
variable {w0 w : World} {Q : Nat → Prop} {pb ps pl pa : Nat} {b : BSt}
theorem bopen_c (h : BuAt w0 w Q pb ps pl pa b) (hb : okB b) (x : ByteArray) : Gives Tryz.prog 83 #[.pointer (some ⟨pb,0,none⟩),.string x] w fun v w' => v = .bool (decide (0 ≤ lastBu b x)) ∧ Ext w w' := by
  refine Gives.of_W Tryz.call83 Tryz.func83 rfl Tryz.ntmps83 (by simp) ?_; intro Z hZ
  (repeat revert hK K);refine W0 ?_;repeat with_reducible intro K hK
  refine (bnone_c h).mono ?_
  intro v w' ⟨hv,hw⟩
  subst hv; subst w'
  (repeat revert hK K);refine W0 ?_;repeat with_reducible intro K hK
  refine (blast_c h hb x).mono ?_
  rintro v w2 ⟨rfl,hx⟩
  (repeat revert hK K);refine W0 ?_;repeat with_reducible intro K hK
  exact hx
theorem bfost_c (h : BuAt w0 w Q pb ps pl pa b) (hb : okB b) : Gives Tryz.prog 135 #[.pointer (some ⟨pb,0,none⟩)] w fun v w' => v = .tuple #[.int .i64 (fosterB b).1,.int .i64 (fosterB b).2] ∧ Ext w w' := by
  have hs := hb.s
  have r1 := lastB_rng (fun k => htmlN (nodeN b.L (b.s.getD k zS).node) [sTable]) b.s.length
  have s1 : inI64 (lastBu b sTable - 1) := by unfold inI64 lastBu; omega
  obtain ⟨fp,hfp⟩ : ∃ fp,fp = fosterB b := ⟨_,rfl⟩
  rw [← hfp]
  unfold fosterB at hfp
  refine Gives.of_W Tryz.call135 Tryz.func135 rfl Tryz.ntmps135 (by simp) ?_; intro Z hZ
  (repeat revert hK K);refine W0 ?_;repeat with_reducible intro K hK
  refine (blast_c h hb tmpl).mono ?_
  rintro v w2 ⟨rfl,hx2⟩
  have h2 := h.pass hx2
  (repeat revert hK K);refine W0 ?_;repeat with_reducible intro K hK
  refine (blast_c h2 hb sTable).mono ?_
  rintro v w3 ⟨rfl,hx3⟩
  have h3 := h2.pass hx3
  have hx13 := hx2.trans hx3
  obtain ⟨ma,mn,mc,av,_,_,hh⟩ := h3.hd
  generalize lastBu b tmpl = te at *
  generalize lastBu b sTable = ta at *
  by_cases c1 : ta < te
  · rw [if_pos c1] at hfp
    subst hfp
    (repeat revert hK K);refine Wc2 @c1 @hh ?_;repeat with_reducible intro K hK
    refine (bsat_c h3 te).mono ?_
    intro v w' ⟨hv,hw⟩
    subst hv; subst w'
    (repeat revert hK K);refine W0 ?_;repeat with_reducible intro K hK
    exact hx13
  rw [if_neg c1] at hfp
  by_cases c2 : ta < 0
  · rw [if_pos c2] at hfp
    subst hfp
    (repeat revert hK K);refine Wc3 @c1 @c2 @hh ?_;repeat with_reducible intro K hK
    refine (bsat_c h3 0).mono ?_
    intro v w' ⟨hv,hw⟩
    subst hv; subst w'
    (repeat revert hK K);refine W0 ?_;repeat with_reducible intro K hK
    exact hx13
  rw [if_neg c2] at hfp
  (repeat revert hK K);refine Wc3 @c1 @c2 @hh ?_;repeat with_reducible intro K hK
  refine (bsat_c h3 ta).mono ?_
  intro v w' ⟨hv,hw⟩
  subst hv; subst w'
  generalize atS b.s ta = tn at *
  (repeat revert hK K);refine Wc1 @hh ?_;repeat with_reducible intro K hK
  refine (bnode_c h3 hb tn).mono ?_
  rintro v w4 ⟨m,rfl,hm,hok,hx4,_⟩
  have h4 := h3.pass hx4
  have hh4 := hx4.blk hh
  have hx14 := hx13.trans hx4
  rw [← hm] at hfp
  by_cases c3 : 0 ≤ m.nd.parent
  · rw [if_pos c3] at hfp
    subst hfp
    (repeat revert hK K);refine W2 @fld6 @c3 ?_;repeat with_reducible intro K hK
    exact hx14
  · rw [if_neg c3] at hfp
    subst hfp
    (repeat revert hK K);refine Wc4 @fld6 @c3 @hh4 @s1 ?_;repeat with_reducible intro K hK
    refine (bsat_c h4 (ta - 1)).mono ?_
    intro v w' ⟨hv,hw⟩
    subst hv; subst w'
    (repeat revert hK K);refine W0 ?_;repeat with_reducible intro K hK
    exact hx14
theorem btarg_c (h : BuAt w0 w Q pb ps pl pa b) (hb : okB b) : Gives Tryz.prog 100 #[.pointer (some ⟨pb,0,none⟩)] w fun v w' => v = .int .i64 (targB b) ∧ w' = w := by
  obtain ⟨ma,mn,mc,av,_,_,hh⟩ := h.hd
  unfold targB
  refine Gives.of_W Tryz.call100 Tryz.func100 rfl Tryz.ntmps100 (by simp) ?_; intro Z hZ
  (repeat revert hK K);refine Wc1 @hh ?_;repeat with_reducible intro K hK
  refine (btop_c h hb).mono ?_
  intro v w' ⟨hv,hw⟩
  subst hv; subst w'
  (repeat first|(with_reducible first|(refine hK _ _ ?_;clear hK K)|refine ‹∀σ w,_→K σ w› _ _ ?_|(refine W_st ?_;constructor;try intro K hK))|((with_reducible first|refine hZ _ _ ?_|refine W_rg ?_|skip);repeat1' simp only[push_cast,seval,-Nat.reduceSubDiff,max_int])|((repeat((fail_if_success with_reducible refine hK _ _ ?_);clear hK K));with_reducible refine hK _ _ ?_;clear hK K))
end
end Go.Proofs.YtgnnlaeikcnhcaaGreatDoor
end
section
namespace Go.Proofs.YtgnnlaeikcnhcaaGreatDoor
open Go Go.Vk
set_option maxHeartbeats 40000000
section
variable {w0 w : World} {Q : Nat → Prop} {pb ps pl pa : Nat} {b : BSt}
theorem bplace_c (h : BuAt w0 w Q pb ps pl pa b) (hb : okB b) (t : Int) : Gives Tryz.prog 80 #[.pointer (some ⟨pb,0,none⟩),.int .i64 t] w fun v w' => v = .tuple #[.int .i64 (placeB b t).1,.int .i64 (placeB b t).2] ∧ Ext w w' := by
  obtain ⟨ma,mn,mc,av,_,_,hh⟩ := h.hd
  refine Gives.of_W Tryz.call80 Tryz.func80 rfl Tryz.ntmps80 (by simp) ?_; intro Z hZ
  (repeat revert hK K);refine W0 ?_;repeat with_reducible intro K hK
  refine (bnone_c h).mono ?_
  intro v w' ⟨hv,hw⟩
  subst hv; subst w'
  cases hf : b.foster with
  | false =>
    rw [hf] at hh
    have e1 : place1 b t = (t,-1) := by unfold place1; rw [if_neg (fun h => by rw [hf] at h; cases h.1)]
    (repeat revert hK K);refine Wc1 @hh ?_;repeat with_reducible intro K hK
    obtain ⟨ma',mn',mc',av',_,_,hhr⟩ := BuAt.hd h
    (repeat revert hK K);refine Wc1 @hhr ?_;repeat with_reducible intro K hK
    refine (bnode_c h hb t).mono ?_
    rintro v w7 ⟨m,rfl,hm,hok,hx7,hbk⟩
    have hpl : placeB b t = if (-1) < 0 ∧ htmlN m.nd [tmpl] = true then (m.nd.content,(-1)) else (t,(-1)) := by
      unfold placeB
      rw [e1,hm]
    obtain ⟨xa,xn,xc,exa,_⟩ := hok.attrs.len
    obtain ⟨ya,yn,yc,eya,_⟩ := hok.kids.len
    have ev : m.val = .agg #[.int .i64 m.nd.kind,.string m.nd.name,.string m.nd.text,.int .i64 m.nd.space,.slice xa xn xc,.bool m.nd.dup,.int .i64 m.nd.parent,.int .i64 m.nd.content,.slice ya yn yc,.int .i64 m.nd.frm,.int .i64 m.nd.to] := by rw [Laid.val_eq,exa,eya]
    rw [ev]
    (repeat revert hK K);refine W2 (RunV_zero Tryz.zeroValue46) @vcells_agg ?_;repeat with_reducible intro K hK
    simp only [can_h,heap_alloc_h,if_true,canO_cells,List.size_toArray,List.length_cons,List.length_nil,Nat.zero_add,Nat.reduceAdd,Nat.reduceLT,true_and]
    obtain ⟨hx8,hp8⟩ := newL w7 #[.int .i64 0,.string ⟨#[]⟩,.string ⟨#[]⟩,.int .i64 0,.slice none 0 0,.bool false,.int .i64 0,.int .i64 0,.slice none 0 0,.int .i64 0,.int .i64 0] [.int .i64 m.nd.kind,.string m.nd.name,.string m.nd.text,.int .i64 m.nd.space,.slice xa xn xc,.bool m.nd.dup,.int .i64 m.nd.parent,.int .i64 m.nd.content,.slice ya yn yc,.int .i64 m.nd.frm,.int .i64 m.nd.to] 46 rfl
    generalize setCells (w7.alloc (.cells #[.int .i64 0,.string ⟨#[]⟩,.string ⟨#[]⟩,.int .i64 0,.slice none 0 0,.bool false,.int .i64 0,.int .i64 0,.slice none 0 0,.int .i64 0,.int .i64 0] 46)) ⟨w7.heap.size,0,none⟩ [.int .i64 m.nd.kind,.string m.nd.name,.string m.nd.text,.int .i64 m.nd.space,.slice xa xn xc,.bool m.nd.dup,.int .i64 m.nd.parent,.int .i64 m.nd.content,.slice ya yn yc,.int .i64 m.nd.frm,.int .i64 m.nd.to] 0 = w8 at *
    obtain ⟨p8,hpe⟩ : ∃ p8,p8 = w7.heap.size := ⟨_,rfl⟩
    rw [← hpe] at hp8 ⊢
    have hx08 := ((Ext.refl w).trans hx7).trans hx8
    by_cases hr : (-1) < 0
    · (repeat revert hK K);refine Wc3 @hr @hp8 @decide_true ?_;repeat with_reducible intro K hK
      refine bs_one styS (by decide) (by decide) (v := .string tmpl) rfl ?_
      rw [vc_str]
      have n1 := names1 w8 tmpl
      have hx9 := hx08.trans (Ext.alloc w8 (.cells #[.string tmpl] 9))
      have hp9 := (Ext.alloc w8 (.cells #[.string tmpl] 9)).blk hp8
      generalize w8.alloc (.cells #[.string tmpl] 9) = w9 at *
      rw [← ev]
      refine (bhtml_c m n1 (show 1 < 1000000000 by decide)).mono ?_
      rintro v w10 ⟨rfl,hx10⟩
      have hp10 := hx10.blk hp9
      cases hz : htmlN m.nd [tmpl]
      · rw [hz, if_neg (fun h => by cases h.2)] at hpl
        (repeat revert hK K);refine W0 ?_;repeat with_reducible intro K hK
        rw [hpl]
        exact ⟨rfl,hx9.trans hx10⟩
      · rw [hz, if_pos ⟨hr, rfl⟩] at hpl
        (repeat revert hK K);refine Wc1 @hp10 ?_;repeat with_reducible intro K hK
        rw [hpl]
        exact ⟨rfl,hx9.trans hx10⟩
    · rw [if_neg (fun h => hr h.1)] at hpl
      (repeat revert hK K);refine W2 @hr @decide_false ?_;repeat with_reducible intro K hK
      rw [hpl]
      exact ⟨rfl,hx08⟩
  | true =>
    rw [hf] at hh
    (repeat revert hK K);refine Wc1 @hh ?_;repeat with_reducible intro K hK
    refine (bnode_c h hb t).mono ?_
    rintro v w2 ⟨mt,rfl,hmt,hokt,hx2,_⟩
    (repeat revert hK K);refine W0 ?_;repeat with_reducible intro K hK
    refine bsl (l := tabs5) rfl (by decide) (by decide) (by kernel_rfl) fun u w3 hx3 hn hu => ?_
    refine (bhtml_c mt hn (show 5 < 1000000000 by decide)).mono ?_
    rintro v w4 ⟨rfl,hx4⟩
    rw [hmt]
    have hx24 := (hx2.trans hx3).trans hx4
    have h4 := h.pass hx24
    cases hz : htmlN (nodeN b.L t) tabs5 with
    | false =>
      have e1 : place1 b t = (t,-1) := by unfold place1; rw [if_neg (fun h => by rw [hz] at h; cases h.2)]
      (repeat revert hK K);refine W0 ?_;repeat with_reducible intro K hK
      obtain ⟨ma',mn',mc',av',_,_,hhr⟩ := BuAt.hd h4
      (repeat revert hK K);refine Wc1 @hhr ?_;repeat with_reducible intro K hK
      refine (bnode_c h4 hb t).mono ?_
      rintro v w7 ⟨m,rfl,hm,hok,hx7,hbk⟩
      have hpl : placeB b t = if (-1) < 0 ∧ htmlN m.nd [tmpl] = true then (m.nd.content,(-1)) else (t,(-1)) := by
        unfold placeB
        rw [e1,hm]
      obtain ⟨xa,xn,xc,exa,_⟩ := hok.attrs.len
      obtain ⟨ya,yn,yc,eya,_⟩ := hok.kids.len
      have ev : m.val = .agg #[.int .i64 m.nd.kind,.string m.nd.name,.string m.nd.text,.int .i64 m.nd.space,.slice xa xn xc,.bool m.nd.dup,.int .i64 m.nd.parent,.int .i64 m.nd.content,.slice ya yn yc,.int .i64 m.nd.frm,.int .i64 m.nd.to] := by rw [Laid.val_eq,exa,eya]
      rw [ev]
      (repeat revert hK K);refine W2 (RunV_zero Tryz.zeroValue46) @vcells_agg ?_;repeat with_reducible intro K hK
      simp only [can_h,heap_alloc_h,if_true,canO_cells,List.size_toArray,List.length_cons,List.length_nil,Nat.zero_add,Nat.reduceAdd,Nat.reduceLT,true_and]
      obtain ⟨hx8,hp8⟩ := newL w7 #[.int .i64 0,.string ⟨#[]⟩,.string ⟨#[]⟩,.int .i64 0,.slice none 0 0,.bool false,.int .i64 0,.int .i64 0,.slice none 0 0,.int .i64 0,.int .i64 0] [.int .i64 m.nd.kind,.string m.nd.name,.string m.nd.text,.int .i64 m.nd.space,.slice xa xn xc,.bool m.nd.dup,.int .i64 m.nd.parent,.int .i64 m.nd.content,.slice ya yn yc,.int .i64 m.nd.frm,.int .i64 m.nd.to] 46 rfl
      generalize setCells (w7.alloc (.cells #[.int .i64 0,.string ⟨#[]⟩,.string ⟨#[]⟩,.int .i64 0,.slice none 0 0,.bool false,.int .i64 0,.int .i64 0,.slice none 0 0,.int .i64 0,.int .i64 0] 46)) ⟨w7.heap.size,0,none⟩ [.int .i64 m.nd.kind,.string m.nd.name,.string m.nd.text,.int .i64 m.nd.space,.slice xa xn xc,.bool m.nd.dup,.int .i64 m.nd.parent,.int .i64 m.nd.content,.slice ya yn yc,.int .i64 m.nd.frm,.int .i64 m.nd.to] 0 = w8 at *
      obtain ⟨p8,hpe⟩ : ∃ p8,p8 = w7.heap.size := ⟨_,rfl⟩
      rw [← hpe] at hp8 ⊢
      have hx08 := (hx24.trans hx7).trans hx8
      by_cases hr : (-1) < 0
      · (repeat revert hK K);refine Wc3 @hr @hp8 @decide_true ?_;repeat with_reducible intro K hK
        refine bs_one styS (by decide) (by decide) (v := .string tmpl) rfl ?_
        rw [vc_str]
        have n1 := names1 w8 tmpl
        have hx9 := hx08.trans (Ext.alloc w8 (.cells #[.string tmpl] 9))
        have hp9 := (Ext.alloc w8 (.cells #[.string tmpl] 9)).blk hp8
        generalize w8.alloc (.cells #[.string tmpl] 9) = w9 at *
        rw [← ev]
        refine (bhtml_c m n1 (show 1 < 1000000000 by decide)).mono ?_
        rintro v w10 ⟨rfl,hx10⟩
        have hp10 := hx10.blk hp9
        cases hz : htmlN m.nd [tmpl]
        · rw [hz, if_neg (fun h => by cases h.2)] at hpl
          (repeat revert hK K);refine W0 ?_;repeat with_reducible intro K hK
          rw [hpl]
          exact ⟨rfl,hx9.trans hx10⟩
        · rw [hz, if_pos ⟨hr, rfl⟩] at hpl
          (repeat revert hK K);refine Wc1 @hp10 ?_;repeat with_reducible intro K hK
          rw [hpl]
          exact ⟨rfl,hx9.trans hx10⟩
      · rw [if_neg (fun h => hr h.1)] at hpl
        (repeat revert hK K);refine W2 @hr @decide_false ?_;repeat with_reducible intro K hK
        rw [hpl]
        exact ⟨rfl,hx08⟩
    | true =>
      have e1 : place1 b t = ((fosterB b).1,(fosterB b).2) := by unfold place1; rw [if_pos ⟨hf,hz⟩]
      (repeat revert hK K);refine W0 ?_;repeat with_reducible intro K hK
      refine (bfost_c h4 hb).mono ?_
      rintro v w5 ⟨rfl,hx5⟩
      have h5 := h4.pass hx5
      have hx25 := hx24.trans hx5
      generalize (fosterB b).1 = p1 at *
      generalize (fosterB b).2 = r1 at *
      (repeat revert hK K);refine W2 @ext0 @ext1 ?_;repeat with_reducible intro K hK
      obtain ⟨ma',mn',mc',av',_,_,hhr⟩ := BuAt.hd h5
      (repeat revert hK K);refine Wc1 @hhr ?_;repeat with_reducible intro K hK
      refine (bnode_c h5 hb p1).mono ?_
      rintro v w7 ⟨m,rfl,hm,hok,hx7,hbk⟩
      have hpl : placeB b t = if r1 < 0 ∧ htmlN m.nd [tmpl] = true then (m.nd.content,r1) else (p1,r1) := by
        unfold placeB
        rw [e1,hm]
      obtain ⟨xa,xn,xc,exa,_⟩ := hok.attrs.len
      obtain ⟨ya,yn,yc,eya,_⟩ := hok.kids.len
      have ev : m.val = .agg #[.int .i64 m.nd.kind,.string m.nd.name,.string m.nd.text,.int .i64 m.nd.space,.slice xa xn xc,.bool m.nd.dup,.int .i64 m.nd.parent,.int .i64 m.nd.content,.slice ya yn yc,.int .i64 m.nd.frm,.int .i64 m.nd.to] := by rw [Laid.val_eq,exa,eya]
      rw [ev]
      (repeat revert hK K);refine W2 (RunV_zero Tryz.zeroValue46) @vcells_agg ?_;repeat with_reducible intro K hK
      simp only [can_h,heap_alloc_h,if_true,canO_cells,List.size_toArray,List.length_cons,List.length_nil,Nat.zero_add,Nat.reduceAdd,Nat.reduceLT,true_and]
      obtain ⟨hx8,hp8⟩ := newL w7 #[.int .i64 0,.string ⟨#[]⟩,.string ⟨#[]⟩,.int .i64 0,.slice none 0 0,.bool false,.int .i64 0,.int .i64 0,.slice none 0 0,.int .i64 0,.int .i64 0] [.int .i64 m.nd.kind,.string m.nd.name,.string m.nd.text,.int .i64 m.nd.space,.slice xa xn xc,.bool m.nd.dup,.int .i64 m.nd.parent,.int .i64 m.nd.content,.slice ya yn yc,.int .i64 m.nd.frm,.int .i64 m.nd.to] 46 rfl
      generalize setCells (w7.alloc (.cells #[.int .i64 0,.string ⟨#[]⟩,.string ⟨#[]⟩,.int .i64 0,.slice none 0 0,.bool false,.int .i64 0,.int .i64 0,.slice none 0 0,.int .i64 0,.int .i64 0] 46)) ⟨w7.heap.size,0,none⟩ [.int .i64 m.nd.kind,.string m.nd.name,.string m.nd.text,.int .i64 m.nd.space,.slice xa xn xc,.bool m.nd.dup,.int .i64 m.nd.parent,.int .i64 m.nd.content,.slice ya yn yc,.int .i64 m.nd.frm,.int .i64 m.nd.to] 0 = w8 at *
      obtain ⟨p8,hpe⟩ : ∃ p8,p8 = w7.heap.size := ⟨_,rfl⟩
      rw [← hpe] at hp8 ⊢
      have hx08 := (hx25.trans hx7).trans hx8
      by_cases hr : r1 < 0
      · (repeat revert hK K);refine Wc3 @hr @hp8 @decide_true ?_;repeat with_reducible intro K hK
        refine bs_one styS (by decide) (by decide) (v := .string tmpl) rfl ?_
        rw [vc_str]
        have n1 := names1 w8 tmpl
        have hx9 := hx08.trans (Ext.alloc w8 (.cells #[.string tmpl] 9))
        have hp9 := (Ext.alloc w8 (.cells #[.string tmpl] 9)).blk hp8
        generalize w8.alloc (.cells #[.string tmpl] 9) = w9 at *
        rw [← ev]
        refine (bhtml_c m n1 (show 1 < 1000000000 by decide)).mono ?_
        rintro v w10 ⟨rfl,hx10⟩
        have hp10 := hx10.blk hp9
        cases hz : htmlN m.nd [tmpl]
        · rw [hz, if_neg (fun h => by cases h.2)] at hpl
          (repeat revert hK K);refine W0 ?_;repeat with_reducible intro K hK
          rw [hpl]
          exact ⟨rfl,hx9.trans hx10⟩
        · rw [hz, if_pos ⟨hr, rfl⟩] at hpl
          (repeat revert hK K);refine Wc1 @hp10 ?_;repeat with_reducible intro K hK
          rw [hpl]
          exact ⟨rfl,hx9.trans hx10⟩
      · rw [if_neg (fun h => hr h.1)] at hpl
        (repeat revert hK K);refine W2 @hr @decide_false ?_;repeat with_reducible intro K hK
        rw [hpl]
        exact ⟨rfl,hx08⟩
theorem bput_c (h : BuAt w0 w Q pb ps pl pa b) (hb : okB b) (i t : Int) : Gives Tryz.prog 74 #[.pointer (some ⟨pb,0,none⟩),.int .i64 i,.int .i64 t] w fun _ w' => BuAt w0 w' Q pb ps pl pa (putB b i t) ∧ Upd (AF w0 Q) w w' := by
  obtain ⟨bp,hbp⟩ : ∃ bp,bp = putB b i t := ⟨_,rfl⟩
  rw [← hbp]
  unfold putB at hbp
  refine Gives.of_W Tryz.call74 Tryz.func74 rfl Tryz.ntmps74 (by simp) ?_; intro Z hZ
  (repeat revert hK K);refine W0 ?_;repeat with_reducible intro K hK
  refine (bnone_c h).mono ?_
  intro v w' ⟨hv,hw⟩
  subst hv; subst w'
  (repeat revert hK K);refine W0 ?_;repeat with_reducible intro K hK
  refine (bplace_c h hb t).mono ?_
  rintro v w2 ⟨rfl,hx2⟩
  have h2 := h.pass hx2
  obtain ⟨ma,mn,mc,av,_,_,hh⟩ := h2.hd
  obtain ⟨P,hA,hback⟩ := h2.ar
  have hL := hb.L
  generalize placeB b t = pr at *
  obtain ⟨p,r⟩ := pr
  dsimp only at hbp
  by_cases hr : 0 ≤ r
  · rw [if_pos hr] at hbp
    subst hbp
    (repeat revert hK K);refine Wc4 @ext0 @ext1 @hr @hh ?_;repeat with_reducible intro K hK
    refine (before_a hA (by omega) i r).mono ?_
    rintro v w3 ⟨rfl,g1,g2⟩
    obtain ⟨k1,k2⟩ := hback _ _ g1 g2
    (repeat revert hK K);refine W0 ?_;repeat with_reducible intro K hK
    exact ⟨k1,Upd.trans hx2.upd k2 fun _ _ h => h⟩
  · rw [if_neg hr] at hbp
    subst hbp
    (repeat revert hK K);refine Wc4 @ext0 @ext1 @hr @hh ?_;repeat with_reducible intro K hK
    refine (append_a hA (by omega) p i).mono ?_
    rintro v w3 ⟨rfl,g1,g2⟩
    obtain ⟨k1,k2⟩ := hback _ _ g1 g2
    (repeat revert hK K);refine W0 ?_;repeat with_reducible intro K hK
    exact ⟨k1,Upd.trans hx2.upd k2 fun _ _ h => h⟩
end
end Go.Proofs.YtgnnlaeikcnhcaaGreatDoor
end
section
namespace Go.Vk
open Go
def Att (L : List Nd) : Prop := ∀ n ∈ L,n.attrs.length < 1000000
theorem att_modify {L : List Nd} {f : Nd → Nd} (hf : ∀ n,(f n).attrs = n.attrs) (h : Att L) (k : Nat) : Att (L.modify k f) := by
  intro n hn
  obtain ⟨j,hj⟩ := List.mem_iff_getElem?.1 hn
  rw [List.getElem?_modify] at hj
  cases hl : L[j]? with
  | none => rw [hl] at hj; simp at hj
  | some x =>
    have hx := h x (List.mem_of_getElem? hl)
    have e : n = if k = j then f x else x := by
      rw [hl] at hj
      exact (Option.some.inj hj).symm
    rw [e]
    split
    · rw [hf]; exact hx
    · exact hx
theorem att_free {L : List Nd} (h : Att L) (i : Nat) : Att (freeN L i) := by
  unfold freeN
  split
  · exact h
  · split
    · exact h
    · exact att_modify (f := setPar (-1)) (fun _ => rfl) (att_modify (f := unkid i) (fun _ => rfl) h _) _
theorem att_hang {L : List Nd} (h : Att L) (p : Nat) (r : Int) (i : Nat) : Att (hangN L p r i) := att_modify (f := setPar p) (fun _ => rfl) (att_modify (f := addKid r i) (fun _ => rfl) (att_free h i) _) _
theorem att_append {L : List Nd} (h : Att L) (p i : Int) : Att (appendN L p i).1 := by
  unfold appendN; split
  · exact att_hang h _ _ _
  · exact h
theorem att_before {L : List Nd} (h : Att L) (p i : Int) : Att (beforeN L p i).1 := by
  unfold beforeN; split
  · exact att_hang h _ _ _
  · exact h
theorem len_append (L : List Nd) (p i : Int) : (appendN L p i).1.length = L.length := by
  unfold appendN; split
  · exact hangN_len _ _ _ _
  · rfl
theorem len_before (L : List Nd) (p i : Int) : (beforeN L p i).1.length = L.length := by
  unfold beforeN; split
  · exact hangN_len _ _ _ _
  · rfl
theorem att_add {L : List Nd} (h : Att L) {n : Nd} (hn : n.attrs.length < 1000000) : Att (addN L n).1 := by
  intro x hx
  unfold addN at hx
  split at hx
  · split at hx
    · simp only [List.mem_append, List.mem_cons, List.not_mem_nil, or_false] at hx
      rcases hx with hx | rfl | rfl
      · exact h x hx
      · exact hn
      · exact (by decide : (0 : Nat) < 1000000)
    · simp only [List.mem_append, List.mem_cons, List.not_mem_nil, or_false] at hx
      rcases hx with hx | rfl
      · exact h x hx
      · exact hn
  · exact h x hx
theorem len_add (L : List Nd) (n : Nd) : (addN L n).1.length ≤ L.length + 2 := by
  unfold addN
  split
  · split <;> simp
  · simp
structure HTok where
  kind : Int
  name : ByteArray
  text : ByteArray
  attrs : List (ByteArray × ByteArray)
  dup : Bool
  self : Bool
  quirks : Bool
  frm : Int
  to : Int
def HTok.row (t : HTok) (av : Value) : Array Value := #[.int .i64 t.kind,.string t.name,.string t.text,av,.bool t.dup,.bool t.self,.bool t.quirks,.int .i64 t.frm,.int .i64 t.to]
def elTok (t : HTok) (space : Int) : Nd := { zN with kind := 3,name := t.name,space := space,attrs := t.attrs,dup := t.dup,frm := t.frm,to := t.to }
def addB (b : BSt) (n : Nd) : BSt := { b with L := (addN b.L n).1 }
def pushB (b : BSt) (i : Int) : BSt × Int := ({ b with s := (insS b.L b.s b.s.length i).1 },(insS b.L b.s b.s.length i).2)
def hungB (b : BSt) (n : Nd) : BSt := putB (addB b n) (addN b.L n).2 (targB (addB b n))
def insertB (b : BSt) (n : Nd) : BSt × Int :=
  if 512 ≤ b.s.length then (failB b 150,-1)
  else (failB (pushB (hungB b n) (addN b.L n).2).1 (pushB (hungB b n) (addN b.L n).2).2,(addN b.L n).2)
theorem putB_s (b : BSt) (i t : Int) : (putB b i t).s = b.s ∧ (putB b i t).l = b.l := by unfold putB; split <;> exact ⟨rfl,rfl⟩
theorem okB.put {b : BSt} (h : okB b) (i t : Int) : okB (putB b i t) := by
  unfold putB
  split
  · exact ⟨by rw [len_before]; exact h.L,att_before h.at_ _ _,h.s,h.l⟩
  · exact ⟨by rw [len_append]; exact h.L,att_append h.at_ _ _,h.s,h.l⟩
theorem okB.add {b : BSt} (h : okB b) (hL : b.L.length + 2 < 90000) {n : Nd} (hn : n.attrs.length < 1000000) : okB (addB b n) :=
  ⟨Nat.lt_of_le_of_lt (len_add _ _) hL,att_add h.at_ hn,h.s,h.l⟩
end Go.Vk
namespace Go.Proofs.YtgnnlaeikcnhcaaGreatDoor
open Go Go.Vk
set_option maxHeartbeats 40000000
theorem element_c {w : World} {t : HTok} {av : Value} (ha : RdAt w 2 av (attrCells t.attrs)) (space : Int) : Gives Tryz.prog 99 #[.agg (t.row av),.int .i64 space] w fun v w' => v = (Laid.mk (elTok t space) av (.slice none 0 0) none none).val ∧ Ext w w' := by
  obtain ⟨xa,xn,xc,rfl,_⟩ := ha
  unfold HTok.row
  have hx := Ext.alloc w (.cells #[.int .i64 t.kind,.string t.name,.string t.text,.slice xa xn xc,.bool t.dup,.bool t.self,.bool t.quirks,.int .i64 t.frm,.int .i64 t.to] 37)
  have hp : (w.alloc (.cells #[.int .i64 t.kind,.string t.name,.string t.text,.slice xa xn xc,.bool t.dup,.bool t.self,.bool t.quirks,.int .i64 t.frm,.int .i64 t.to] 37)).heap[w.heap.size]? = some (.cells #[.int .i64 t.kind,.string t.name,.string t.text,.slice xa xn xc,.bool t.dup,.bool t.self,.bool t.quirks,.int .i64 t.frm,.int .i64 t.to] 37 (0,0)) := by rw [heap_alloc_h,if_pos rfl]
  refine Gives.of_W Tryz.call99 Tryz.func99 rfl Tryz.ntmps99 (by simp) ?_; intro Z hZ
  (repeat revert hK K);refine W2 @vcells_agg (RunV_zero Tryz.zeroValue46) ?_;repeat with_reducible intro K hK
  generalize w.alloc (.cells #[.int .i64 t.kind,.string t.name,.string t.text,.slice xa xn xc,.bool t.dup,.bool t.self,.bool t.quirks,.int .i64 t.frm,.int .i64 t.to] 37) = w1 at *
  obtain ⟨p,hpe⟩ : ∃ p,p = w.heap.size := ⟨_,rfl⟩
  rw [← hpe] at hp ⊢
  have hx2 := Ext.alloc w1 (.cells #[.int .i64 0,.string ⟨#[]⟩,.string ⟨#[]⟩,.int .i64 0,.slice none 0 0,.bool false,.int .i64 0,.int .i64 0,.slice none 0 0,.int .i64 0,.int .i64 0] 46)
  have z2 : (w1.alloc (.cells #[.int .i64 0,.string ⟨#[]⟩,.string ⟨#[]⟩,.int .i64 0,.slice none 0 0,.bool false,.int .i64 0,.int .i64 0,.slice none 0 0,.int .i64 0,.int .i64 0] 46)).heap[w1.heap.size]? = some (.cells #[.int .i64 0,.string ⟨#[]⟩,.string ⟨#[]⟩,.int .i64 0,.slice none 0 0,.bool false,.int .i64 0,.int .i64 0,.slice none 0 0,.int .i64 0,.int .i64 0] 46 (0,0)) := by rw [heap_alloc_h,if_pos rfl]
  have hp2 := hx2.blk hp
  have hsz := hx.alike.size
  generalize w1.alloc (.cells #[.int .i64 0,.string ⟨#[]⟩,.string ⟨#[]⟩,.int .i64 0,.slice none 0 0,.bool false,.int .i64 0,.int .i64 0,.slice none 0 0,.int .i64 0,.int .i64 0] 46) = w2 at *
  obtain ⟨p2,hpe2⟩ : ∃ p,p = w1.heap.size := ⟨_,rfl⟩
  rw [← hpe2] at z2 ⊢
  (repeat revert hK K);refine Wc1 @hp2 ?_;repeat with_reducible intro K hK
  refine build_struct Tryz.zeroValue46 un30 pl30 (cs := #[.int .i64 3,.string t.name,.string ⟨#[]⟩,.int .i64 space,.slice xa xn xc,.bool t.dup,.int .i64 0,.int .i64 0,.slice none 0 0,.int .i64 t.frm,.int .i64 t.to]) (by rfl) ?_
  have up : Upd (fun q => q = p2) w2 (setCells w2 ⟨p2,0,none⟩ [.int .i64 3,.string t.name,.string ⟨#[]⟩,.int .i64 space,.slice xa xn xc,.bool t.dup,.int .i64 0,.int .i64 0,.slice none 0 0,.int .i64 t.frm,.int .i64 t.to] 0) := Upd.setCells (F := fun q => q = p2) (a := ⟨p2,0,none⟩) w2 rfl _ 0
  have hp4 := setCells_all z2 (l := [.int .i64 3,.string t.name,.string ⟨#[]⟩,.int .i64 space,.slice xa xn xc,.bool t.dup,.int .i64 0,.int .i64 0,.slice none 0 0,.int .i64 t.frm,.int .i64 t.to]) rfl
  have hx4 : Ext w (setCells w2 ⟨p2,0,none⟩ [.int .i64 3,.string t.name,.string ⟨#[]⟩,.int .i64 space,.slice xa xn xc,.bool t.dup,.int .i64 0,.int .i64 0,.slice none 0 0,.int .i64 t.frm,.int .i64 t.to] 0) := Upd.trans (hx.trans hx2) up fun q hq e => by omega
  (repeat simp only [push_cast,seval,-Nat.reduceSubDiff,can_h,z2,canO_cells])
  generalize setCells w2 ⟨p2,0,none⟩ [.int .i64 3,.string t.name,.string ⟨#[]⟩,.int .i64 space,.slice xa xn xc,.bool t.dup,.int .i64 0,.int .i64 0,.slice none 0 0,.int .i64 t.frm,.int .i64 t.to] 0 = w4 at *
  (repeat revert hK K);refine Wc1 @hp4 ?_;repeat with_reducible intro K hK
  exact ⟨by rw [Laid.val_eq]; rfl,hx4⟩
section
variable {w0 w : World} {Q : Nat → Prop} {pb ps pl pa : Nat} {b : BSt}
theorem bpush_c (h : BuAt w0 w Q pb ps pl pa b) (hb : okB b) (i : Int) : Gives Tryz.prog 101 #[.pointer (some ⟨ps,0,none⟩),.int .i64 i] w fun v w' => v = .int .i64 (pushB b i).2 ∧ BuAt w0 w' Q pb ps pl pa (pushB b i).1 ∧ Upd (AF w0 Q) w w' := by
  obtain ⟨P,hS,hback⟩ := h.stk
  have := hb.L
  refine (spush_c hS (by omega) hb.at_ hb.s i).mono ?_
  rintro v w' ⟨rfl,g1,g2⟩
  exact ⟨rfl,hback _ _ _ g1 g2⟩
theorem badd_c (h : BuAt w0 w Q pb ps pl pa b) (hb : okB b) {m : Laid} (hm : RdAt w 2 m.av (attrCells m.nd.attrs)) (hmb : m.nd.attrs.length < 1000000) : Gives Tryz.prog 98 #[.pointer (some ⟨pa,0,none⟩),m.val] w fun v w' => v = .int .i64 (addN b.L m.nd).2 ∧ BuAt w0 w' Q pb ps pl pa (addB b m.nd) ∧ Upd (AF w0 Q) w w' := by
  obtain ⟨P,hA,hback⟩ := h.ar
  have := hb.L
  refine (add_a hA (by omega) hm hmb).mono ?_
  rintro v w' ⟨rfl,g1,g2⟩
  exact ⟨rfl,hback _ _ g1 g2⟩
theorem binsert_c (h : BuAt w0 w Q pb ps pl pa b) (hb : okB b) (hL : b.L.length + 2 < 90000) (hQl : ∀ q,Q q → q < w.heap.size) {t : HTok} {av : Value} (ha : RdAt w 2 av (attrCells t.attrs)) (hal : t.attrs.length < 1000000) (space : Int) :
    Gives Tryz.prog 21 #[.pointer (some ⟨pb,0,none⟩),.agg (t.row av),.int .i64 space] w fun v w' => v = .int .i64 (insertB b (elTok t space)).2 ∧ BuAt w0 w' Q pb ps pl pa (insertB b (elTok t space)).1 ∧ Upd (AF w0 Q) w w' := by
  obtain ⟨xa,xn,xc,eav,_⟩ := id ha
  subst eav
  have hrow : t.row (.slice xa xn xc) = #[.int .i64 t.kind,.string t.name,.string t.text,.slice xa xn xc,.bool t.dup,.bool t.self,.bool t.quirks,.int .i64 t.frm,.int .i64 t.to] := rfl
  have hx := Ext.alloc w (.cells (t.row (.slice xa xn xc)) 37)
  have hp : (w.alloc (.cells (t.row (.slice xa xn xc)) 37)).heap[w.heap.size]? = some (.cells (t.row (.slice xa xn xc)) 37 (0,0)) := by rw [heap_alloc_h,if_pos rfl]
  obtain ⟨r,hr⟩ : ∃ r,r = insertB b (elTok t space) := ⟨_,rfl⟩
  rw [← hr]
  unfold insertB at hr
  have hs := hb.s
  refine Gives.of_W Tryz.call21 Tryz.func21 rfl Tryz.ntmps21 (by simp) ?_; intro Z hZ
  (repeat revert hK K);refine W1 @vcells_agg ?_;repeat with_reducible intro K hK
  generalize w.alloc (.cells (t.row (.slice xa xn xc)) 37) = w1 at *
  obtain ⟨p,hpe⟩ : ∃ p,p = w.heap.size := ⟨_,rfl⟩
  rw [← hpe] at hp ⊢
  have hsz := hx.alike.size
  have h1 := h.pass hx
  refine (bnone_c h1).mono ?_
  intro v w' ⟨hv,hw⟩
  subst hv; subst w'
  obtain ⟨ma,mn,mc,av',_,_,hh⟩ := h1.hd
  (repeat revert hK K);refine Wc1 @hh ?_;repeat with_reducible intro K hK
  refine (bslen_c h1).mono ?_
  intro v w' ⟨hv,hw⟩
  subst hv; subst w'
  by_cases hd : 512 ≤ b.s.length
  · rw [if_pos hd] at hr
    subst hr
    have d0 : (512 : Int) ≤ (b.s.length : Int) := by omega
    (repeat revert hK K);refine W2 @d0 @decide_true ?_;repeat with_reducible intro K hK
    refine (bfail_c h1 150).mono ?_
    rintro v w2 ⟨g1,g2⟩
    (repeat revert hK K);refine W0 ?_;repeat with_reducible intro K hK
    exact ⟨g1,Upd.trans hx.upd g2 fun _ _ h => h⟩
  rw [if_neg hd] at hr
  have d0 : ¬ (512 : Int) ≤ (b.s.length : Int) := by omega
  (repeat revert hK K);refine W2 @d0 @decide_false ?_;repeat with_reducible intro K hK
  have hxd := Ext.drew w1
  have h1d := h1.pass hxd
  have hhd := hxd.blk hh
  rw [hrow] at hp
  have hpd := hxd.blk hp
  have hszd : w1.heap.size = w1.drew.heap.size := (drew_size w1).symm
  have l1 : pb < w1.heap.size := blk_lt hh
  have l2 : p < w1.heap.size := blk_lt hp
  have hal' : (elTok t space).attrs.length < 1000000 := hal
  refine W_draw (.pas 0 (.pas 1 (.pas 2 (.pas 3 (.pas 4 (.pas 5 (.act 6 (.act 7 (.pas 8 .fin))))))))) (fun q => q = pb ∨ q = p) (by decide) mixed (by kernel_rfl) ?_
  generalize w1.drew = wd at *
  refine Dd4 @hhd @hpd @true_or @or_true ?_
  rw [← hrow]
  refine (element_c (ha.ext (hx.trans hxd)) space).mono ?_
  rintro v w2 ⟨rfl,hx2⟩
  refine ⟨kept_upd hx2 fun q hq => ⟨by rcases hq with hq | hq <;> omega,id⟩,?_⟩
  refine D0 ?_
  have h2 : BuAt w0 w2 (fun q => Q q ∨ q = p) pb ps pl pa b := h.more ((hx.trans hxd).trans hx2) fun q hq => by
    rcases hq with hq | hq
    · exact .inl hq
    · exact .inr ⟨by omega,by have := hx2.sz; omega⟩
  have hx02 := (hx.trans hxd).trans hx2
  obtain ⟨P,⟨kb,kq⟩,hA,hback⟩ := h2.arK
  have hLb := hb.L
  refine (add_a hA (by omega) (m := ⟨elTok t space,.slice xa xn xc,.slice none 0 0,none,none⟩) (ha.ext hx02) hal).mono ?_
  rintro v w3 ⟨rfl,g1,g2⟩
  obtain ⟨h3',hu3'⟩ := hback _ _ g1 g2
  have h3 : BuAt w0 w3 Q pb ps pl pa (addB b (elTok t space)) := h3'.less fun q hq => .inl hq
  have hu3 : Upd (AF w0 Q) w2 w3 := hu3'.mono fun q _ hf => ⟨hf.1,fun hq => hf.2 (.inl hq)⟩
  refine ⟨kept_upd g2 fun q hq => ⟨?_,fun hf => ?_⟩,?_⟩
  · have := hx2.sz
    rcases hq with hq | hq <;> omega
  · rcases hq with hq | hq
    · exact hf.2 (hq ▸ kb)
    · exact hf.2 (hq ▸ kq p (.inr rfl))
  have hb3 : okB (addB b (elTok t space)) := hb.add hL hal'
  have hu03 := Upd.trans hx02.upd hu3 fun _ _ h => h
  refine D0 ?_
  (repeat revert hK K);refine W0 ?_;repeat with_reducible intro K hK
  refine (btarg_c h3 hb3).mono ?_
  intro v w' ⟨hv,hw⟩
  subst hv; subst w'
  (repeat revert hK K);refine W0 ?_;repeat with_reducible intro K hK
  refine (bput_c h3 hb3 _ _).mono ?_
  rintro v w4 ⟨h4,hu4⟩
  have hb4 : okB (hungB b (elTok t space)) := hb3.put _ _
  have h4 : BuAt w0 w4 Q pb ps pl pa (hungB b (elTok t space)) := h4
  obtain ⟨ma4,mn4,mc4,av4,_,_,hh4⟩ := h4.hd
  (repeat revert hK K);refine Wc1 @hh4 ?_;repeat with_reducible intro K hK
  refine (bpush_c h4 hb4 _).mono ?_
  rintro v w5 ⟨rfl,h5,hu5⟩
  (repeat revert hK K);refine W0 ?_;repeat with_reducible intro K hK
  refine (bfail_c h5 _).mono ?_
  rintro v w6 ⟨h6,hu6⟩
  (repeat revert hK K);refine W0 ?_;repeat with_reducible intro K hK
  rw [hr]
  exact ⟨rfl,h6,Upd.trans (Upd.trans (Upd.trans hu03 hu4 fun _ _ h => h) hu5 fun _ _ h => h) hu6 fun _ _ h => h⟩
end
end Go.Proofs.YtgnnlaeikcnhcaaGreatDoor
end
section
namespace Go.Vk
open Go
theorem failB_L (b : BSt) (e : Int) : (failB b e).L = b.L ∧ (failB b e).s = b.s ∧ (failB b e).l = b.l := by unfold failB; split <;> exact ⟨rfl,rfl,rfl⟩
theorem insS_len {L : List Nd} {s : List OpS} {k i : Int} (h : s.length < 10000) : (insS L s k i).1.length < 10000 ∧ (insS L s k i).1.length ≤ s.length + 1 := by
  unfold insS
  split
  · split
    · split
      · exact ⟨h,Nat.le_succ _⟩
      · simp; omega
    · exact ⟨h,Nat.le_succ _⟩
  · exact ⟨h,Nat.le_succ _⟩
theorem okB.fail {b : BSt} (h : okB b) (e : Int) : okB (failB b e) := by
  obtain ⟨e1,e2,e3⟩ := failB_L b e
  exact ⟨by rw [e1]; exact h.L,by rw [e1]; exact h.at_,by rw [e2]; exact h.s,by rw [e3]; exact h.l⟩
theorem okB.push {b : BSt} (h : okB b) (i : Int) : okB (pushB b i).1 := ⟨h.L,h.at_,(insS_len h.s).1,h.l⟩
theorem okB.ins {b : BSt} (h : okB b) (hL : b.L.length + 2 < 90000) {n : Nd} (hn : n.attrs.length < 1000000) : okB (insertB b n).1 := by
  unfold insertB
  split
  · exact h.fail _
  · exact (((h.add hL hn).put _ _).push _).fail _
def tokI (name : ByteArray) : HTok := ⟨2,name,⟨#[]⟩,[],false,false,false,-1,-1⟩
def implyB (b : BSt) (name : ByteArray) : BSt × Int := insertB b (elTok (tokI name) 0)
def onlyB (b : BSt) (t : HTok) : BSt × Int :=
  if 0 ≤ (insertB b (elTok t 0)).2 then ({ (insertB b (elTok t 0)).1 with s := (insertB b (elTok t 0)).1.s.dropLast },(insertB b (elTok t 0)).2) else insertB b (elTok t 0)
def charsB (b : BSt) (x : ByteArray) : BSt := if 0 < (placeB b (targB b)).1 then { b with L := (textN b.L (placeB b (targB b)).1 (placeB b (targB b)).2 x).1 } else b
def comTok (x : ByteArray) : Nd := { zN with kind := 5,text := x,frm := -1,to := -1 }
def commB (b : BSt) (x : ByteArray) (into : Int) : BSt :=
  if into < 0 then putB (addB b (comTok x)) (addN b.L (comTok x)).2 (targB (addB b (comTok x)))
  else { addB b (comTok x) with L := (appendN (addB b (comTok x)).L into (addN b.L (comTok x)).2).1 }
def rawB (b : BSt) (t : HTok) (state : Int) : BSt := { (insertB b (elTok t 0)).1 with ask := some (state,t.name),back := (insertB b (elTok t 0)).1.mode,mode := 7 }
end Go.Vk
namespace Go.Proofs.YtgnnlaeikcnhcaaGreatDoor
open Go Go.Vk
theorem plTo (w : World) : ((fsOf Tryz.prog 37).mapM plOf).run Tryz.prog w = .ok #[(0,1),(1,1),(2,1),(3,1),(4,1),(5,1),(6,1),(7,1),(8,1)] w := by
  simp [fsOf,plOf,Tryz.underlying37,Sem.run,Tryz.sizeOf3,Tryz.sizeOf35,Tryz.sizeOf4,Tryz.sizeOf9]
theorem unTo : Tryz.prog.underlying 37 = some (.struct (fsOf Tryz.prog 37)) := by rw [fsOf,Tryz.underlying37]
set_option maxHeartbeats 40000000
section
variable {w0 w : World} {Q : Nat → Prop} {pb ps pl pa : Nat} {b : BSt}
theorem bimply_c (h : BuAt w0 w Q pb ps pl pa b) (hb : okB b) (hL : b.L.length + 2 < 90000) (hQl : ∀ q,Q q → q < w.heap.size) (x : ByteArray) :
    Gives Tryz.prog 18 #[.pointer (some ⟨pb,0,none⟩),.string x] w fun v w' => v = .int .i64 (implyB b x).2 ∧ BuAt w0 w' Q pb ps pl pa (implyB b x).1 ∧ Upd (AF w0 Q) w w' := by
  refine Gives.of_W Tryz.call18 Tryz.func18 rfl Tryz.ntmps18 (by simp) ?_; intro Z hZ
  (repeat revert hK K);refine W0 ?_;repeat with_reducible intro K hK
  refine build_struct Tryz.zeroValue37 unTo plTo (cs := #[.int .i64 2,.string x,.string ⟨#[]⟩,.slice none 0 0,.bool false,.bool false,.bool false,.int .i64 (-1),.int .i64 (-1)]) (by rfl) ?_
  (repeat revert hK K);refine W0 ?_;repeat with_reducible intro K hK
  refine (binsert_c h hb hL hQl (t := tokI x) (av := .slice none 0 0) (SlAt.nil _ _).rd (show (0 : Nat) < 1000000 by decide) 0).mono ?_
  rintro v w2 ⟨rfl,g1,g2⟩
  (repeat revert hK K);refine W0 ?_;repeat with_reducible intro K hK
  exact ⟨rfl,g1,g2⟩
theorem bpop_c (h : BuAt w0 w Q pb ps pl pa b) (hb : okB b) : Gives Tryz.prog 24 #[.pointer (some ⟨ps,0,none⟩)] w fun v w' => v = .int .i64 (topS b.s) ∧ BuAt w0 w' Q pb ps pl pa { b with s := b.s.dropLast } ∧ Upd (AF w0 Q) w w' := by
  obtain ⟨P,hS,hback⟩ := h.stk
  refine (spop_c hS hb.s).mono ?_
  rintro v w' ⟨rfl,g1,g2⟩
  exact ⟨rfl,hback _ _ _ g1 g2⟩
theorem bonly_c (h : BuAt w0 w Q pb ps pl pa b) (hb : okB b) (hL : b.L.length + 2 < 90000) (hQl : ∀ q,Q q → q < w.heap.size) {t : HTok} {av : Value} (ha : RdAt w 2 av (attrCells t.attrs)) (hal : t.attrs.length < 1000000) :
    Gives Tryz.prog 32 #[.pointer (some ⟨pb,0,none⟩),.agg (t.row av)] w fun v w' => v = .int .i64 (onlyB b t).2 ∧ BuAt w0 w' Q pb ps pl pa (onlyB b t).1 ∧ Upd (AF w0 Q) w w' := by
  obtain ⟨xa,xn,xc,eav,_⟩ := id ha
  subst eav
  have hrow : t.row (.slice xa xn xc) = #[.int .i64 t.kind,.string t.name,.string t.text,.slice xa xn xc,.bool t.dup,.bool t.self,.bool t.quirks,.int .i64 t.frm,.int .i64 t.to] := rfl
  have hx := Ext.alloc w (.cells (t.row (.slice xa xn xc)) 37)
  have hp : (w.alloc (.cells (t.row (.slice xa xn xc)) 37)).heap[w.heap.size]? = some (.cells (t.row (.slice xa xn xc)) 37 (0,0)) := by rw [heap_alloc_h,if_pos rfl]
  obtain ⟨r,hr⟩ : ∃ r,r = onlyB b t := ⟨_,rfl⟩
  rw [← hr]
  unfold onlyB at hr
  refine Gives.of_W Tryz.call32 Tryz.func32 rfl Tryz.ntmps32 (by simp) ?_; intro Z hZ
  (repeat revert hK K);refine W1 @vcells_agg ?_;repeat with_reducible intro K hK
  generalize w.alloc (.cells (t.row (.slice xa xn xc)) 37) = w1 at *
  rw [hrow] at hp
  (repeat revert hK K);refine Wc1 @hp ?_;repeat with_reducible intro K hK
  rw [← hrow]
  have hs1 := hx.sz
  refine (binsert_c (h.pass hx) hb hL (fun q hq => by have := hQl q hq; omega) (ha.ext hx) hal 0).mono ?_
  rintro v w2 ⟨rfl,h2,hu2⟩
  have hb2 : okB (insertB b (elTok t 0)).1 := hb.ins hL (show t.attrs.length < 1000000 from hal)
  obtain ⟨ma,mn,mc,av',_,_,hh⟩ := h2.hd
  generalize insertB b (elTok t 0) = rr at *
  obtain ⟨b2,i⟩ := rr
  dsimp only at h2 hb2 hh hr ⊢
  have hu02 := Upd.trans hx.upd hu2 fun _ _ h => h
  by_cases hi : 0 ≤ i
  · rw [if_pos hi] at hr
    subst hr
    (repeat revert hK K);refine Wc2 @hi @hh ?_;repeat with_reducible intro K hK
    refine (bpop_c h2 hb2).mono ?_
    rintro v w3 ⟨rfl,g1,g2⟩
    (repeat revert hK K);refine W0 ?_;repeat with_reducible intro K hK
    exact ⟨g1,Upd.trans hu02 g2 fun _ _ h => h⟩
  · rw [if_neg hi] at hr
    subst hr
    (repeat revert hK K);refine W1 @hi ?_;repeat with_reducible intro K hK
    exact ⟨h2,hu02⟩
theorem bchars_c (h : BuAt w0 w Q pb ps pl pa b) (hb : okB b) (x : ByteArray) (hx : x.size < 1000000000) (ht : ∀ n ∈ b.L,n.text.size < 1000000000) :
    Gives Tryz.prog 35 #[.pointer (some ⟨pb,0,none⟩),.string x] w fun _ w' => BuAt w0 w' Q pb ps pl pa (charsB b x) ∧ Upd (AF w0 Q) w w' := by
  obtain ⟨bp,hbp⟩ : ∃ bp,bp = charsB b x := ⟨_,rfl⟩
  rw [← hbp]
  unfold charsB at hbp
  refine Gives.of_W Tryz.call35 Tryz.func35 rfl Tryz.ntmps35 (by simp) ?_; intro Z hZ
  (repeat revert hK K);refine W0 ?_;repeat with_reducible intro K hK
  refine (bnone_c h).mono ?_
  intro v w' ⟨hv,hw⟩
  subst hv; subst w'
  (repeat revert hK K);refine W0 ?_;repeat with_reducible intro K hK
  refine (btarg_c h hb).mono ?_
  intro v w' ⟨hv,hw⟩
  subst hv; subst w'
  (repeat revert hK K);refine W0 ?_;repeat with_reducible intro K hK
  refine (bplace_c h hb _).mono ?_
  rintro v w2 ⟨rfl,hx2⟩
  have h2 := h.pass hx2
  obtain ⟨ma,mn,mc,av,_,_,hh⟩ := h2.hd
  obtain ⟨P,hA,hback⟩ := h2.ar
  have hL := hb.L
  generalize placeB b (targB b) = pr at *
  obtain ⟨p,r⟩ := pr
  dsimp only at hbp
  by_cases hr : 0 < p
  · rw [if_pos hr] at hbp
    subst hbp
    (repeat revert hK K);refine Wc4 @ext0 @ext1 @hr @hh ?_;repeat with_reducible intro K hK
    refine (text_a hA (by omega) p r x hx ht).mono ?_
    rintro v w3 ⟨rfl,g1,g2⟩
    obtain ⟨k1,k2⟩ := hback _ _ g1 g2
    (repeat revert hK K);refine W0 ?_;repeat with_reducible intro K hK
    exact ⟨k1,Upd.trans hx2.upd k2 fun _ _ h => h⟩
  · rw [if_neg hr] at hbp
    subst hbp
    (repeat revert hK K);refine W3 @ext0 @ext1 @hr ?_;repeat with_reducible intro K hK
    exact ⟨h2,hx2.upd⟩
theorem braw_c (h : BuAt w0 w Q pb ps pl pa b) (hb : okB b) (hL : b.L.length + 2 < 90000) (hQl : ∀ q,Q q → q < w.heap.size) {t : HTok} {av : Value} (ha : RdAt w 2 av (attrCells t.attrs)) (hal : t.attrs.length < 1000000) (st : Int) :
    Gives Tryz.prog 76 #[.pointer (some ⟨pb,0,none⟩),.agg (t.row av),.int .i64 st] w fun _ w' => BuAt w0 w' Q pb ps pl pa (rawB b t st) ∧ Upd (AF w0 Q) w w' := by
  obtain ⟨xa,xn,xc,eav,_⟩ := id ha
  subst eav
  have hrow : t.row (.slice xa xn xc) = #[.int .i64 t.kind,.string t.name,.string t.text,.slice xa xn xc,.bool t.dup,.bool t.self,.bool t.quirks,.int .i64 t.frm,.int .i64 t.to] := rfl
  have hx := Ext.alloc w (.cells (t.row (.slice xa xn xc)) 37)
  have hp : (w.alloc (.cells (t.row (.slice xa xn xc)) 37)).heap[w.heap.size]? = some (.cells (t.row (.slice xa xn xc)) 37 (0,0)) := by rw [heap_alloc_h,if_pos rfl]
  obtain ⟨r,hr⟩ : ∃ r,r = rawB b t st := ⟨_,rfl⟩
  rw [← hr]
  refine Gives.of_W Tryz.call76 Tryz.func76 rfl Tryz.ntmps76 (by simp) ?_; intro Z hZ
  (repeat revert hK K);refine W1 @vcells_agg ?_;repeat with_reducible intro K hK
  generalize w.alloc (.cells (t.row (.slice xa xn xc)) 37) = w1 at *
  obtain ⟨p,hpe⟩ : ∃ p,p = w.heap.size := ⟨_,rfl⟩
  rw [← hpe] at hp ⊢
  rw [hrow] at hp
  have hs1 := hx.sz
  have hpl := blk_lt hp
  have h1 : BuAt w0 w1 (fun q => Q q ∨ q = p) pb ps pl pa b := h.more hx fun q hq => by
    rcases hq with hq | hq
    · exact .inl hq
    · exact .inr ⟨by omega,by omega⟩
  refine (bnone_c h1).mono ?_
  intro v w' ⟨hv,hw⟩
  subst hv; subst w'
  (repeat revert hK K);refine Wc1 @hp ?_;repeat with_reducible intro K hK
  rw [← hrow]
  refine (binsert_c h1 hb hL (fun q hq => by
    rcases hq with hq | hq
    · have := hQl q hq; omega
    · omega) (ha.ext hx) hal 0).mono ?_
  rintro v w2 ⟨rfl,h2,hu2⟩
  have hp2 := (hu2.same p hpl fun hf => hf.2 (.inr rfl)).trans hp
  have hs2 := hu2.alike.size
  generalize hrr : (insertB b (elTok t 0)).1 = b2 at *
  have hraw : rawB b t st = { b2 with ask := some (st,t.name),back := b2.mode,mode := 7 } := by unfold rawB; rw [hrr]
  (repeat revert hK K);refine Wc1 @hp2 ?_;repeat with_reducible intro K hK
  refine build_struct Tryz.zeroValue145 unWa plWa (cs := #[.int .i64 st,.string t.name]) (by rfl) ?_
  obtain ⟨k1,k2,k3⟩ := h2.putA (w2 := w2.alloc (.cells #[.int .i64 st,.string t.name] 145)) (fun q hq => by
    rcases hq with hq | hq
    · have := hQl q hq; omega
    · omega) (Ext.alloc _ _) (Nat.le_refl _) (by rw [heap_alloc_h,if_pos rfl])
  (repeat revert hK K);refine W2 @vcells_agg @k1 ?_;repeat with_reducible intro K hK
  refine (bkeep_c k2).mono ?_
  rintro v w4 ⟨h4,hu4⟩
  obtain ⟨j1,j2,j3⟩ := h4.put { b2 with ask := some (st,t.name),back := b2.mode,mode := 7 } 3 (.int .i64 7) (fun _ _ => rfl) (by decide) ⟨rfl,rfl,rfl,rfl,rfl⟩
  obtain ⟨ma,mn,mc,av,_,_,hh⟩ := h4.hd
  (repeat revert hK K);refine Wc2 @hh @j1 ?_;repeat with_reducible intro K hK
  have less : ∀ {a b : World},Upd (AF w0 fun q => Q q ∨ q = p) a b → Upd (AF w0 Q) a b := fun h => h.mono fun q _ hf => ⟨hf.1,fun hq => hf.2 (.inl hq)⟩
  rw [hr,hraw]
  exact ⟨j2.less fun q hq => .inl hq,Upd.trans (Upd.trans (Upd.trans (Upd.trans hx.upd (less hu2) fun _ _ h => h) (less k3) fun _ _ h => h) (less hu4) fun _ _ h => h) (less j3) fun _ _ h => h⟩
end
end Go.Proofs.YtgnnlaeikcnhcaaGreatDoor
end
section
namespace Go.Vk
open Go Go.Proofs.YtgnnlaeikcnhcaaGreatDoor
end Go.Vk
namespace Go.Proofs.YtgnnlaeikcnhcaaGreatDoor
open Go Go.Vk
set_option maxHeartbeats 40000000
section
variable {w0 w : World} {Q : Nat → Prop} {pb ps pl pa : Nat} {b : BSt}
theorem bflen_c (h : BuAt w0 w Q pb ps pl pa b) : Gives Tryz.prog 27 #[.pointer (some ⟨pl,0,none⟩)] w fun v w' => v = .int .i64 (b.l.length : Int) ∧ w' = w := by
  obtain ⟨P,⟨lv,bo,hF,_⟩,_⟩ := h.fmt
  exact flen_c hF
theorem bfat_c (h : BuAt w0 w Q pb ps pl pa b) (k : Int) : Gives Tryz.prog 91 #[.pointer (some ⟨pl,0,none⟩),.int .i64 k] w fun v w' => v = .tuple #[.int .i64 (if 0 ≤ k ∧ k < b.l.length then b.l.getD k.toNat 0 else -1),.bool (decide ((0 ≤ k ∧ k < b.l.length) ∧ b.l.getD k.toNat 0 = -1))] ∧ Ext w w' := by
  obtain ⟨P,hF,_⟩ := h.fmt
  exact fat_c hF k
end
end Go.Proofs.YtgnnlaeikcnhcaaGreatDoor
end
section
namespace Go.Vk
open Go
def byL : List (ByteArray × Int) := [(⟨#[98,111,100,121]⟩,6),(⟨#[99,97,112,116,105,111,110]⟩,10),(⟨#[99,111,108,103,114,111,117,112]⟩,11),(⟨#[104,101,97,100]⟩,3),(sTable,8),(⟨#[116,98,111,100,121]⟩,12),(⟨#[116,100]⟩,14),(⟨#[116,102,111,111,116]⟩,12),(⟨#[116,104]⟩,14),(⟨#[116,104,101,97,100]⟩,12),(⟨#[116,114]⟩,13)]
def byN (s : ByteArray) : Option Int := (byL.find? fun x => decide (x.1 = s)).map (·.2)
def sHtml : ByteArray := ⟨#[104,116,109,108]⟩
def foundB (b : BSt) (n : Nd) (first : Bool) : Int × Bool :=
  if n.space ≠ 0 then (0,false)
  else if n.name = tmpl ∧ 0 < b.modes.length then (b.modes.getD (b.modes.length - 1) 0,true)
  else if n.name = sHtml ∧ b.head < 0 then (2,true)
  else if n.name = sHtml then (5,true)
  else if first = true ∧ ((byN n.name).getD 0 = 14 ∨ (byN n.name).getD 0 = 3) then (0,false)
  else ((byN n.name).getD 0,(byN n.name).isSome)
def resetN (b : BSt) : Nat → BSt
  | 0 => { b with mode := 6 }
  | k + 1 => if (foundB b (nodeN b.L (b.s.getD k zS).node) (decide (k = 0))).2 = true then { b with mode := (foundB b (nodeN b.L (b.s.getD k zS).node) (decide (k = 0))).1 } else resetN b k
def resetB (b : BSt) : BSt := resetN b b.s.length
end Go.Vk
namespace Go.Proofs.YtgnnlaeikcnhcaaGreatDoor
open Go Go.Vk
def GB (w0 : World) : Prop := ∃ bm,w0.cell? ⟨2,0,none⟩ = some (.map (some bm)) ∧ ∀ w',Ext w0 w' → ∀ s : ByteArray,s.size < 4294967281 → (Instr.lookup 170 (.map (some bm)) (.string s) true).run Tryz.prog w' = .ok (.tuple #[.int .i64 ((byN s).getD 0),.bool (byN s).isSome]) w'
theorem GB.ext {w w' : World} (h : GB w) (hx : Ext w w') : GB w' := by
  obtain ⟨bm,h1,h2⟩ := h
  exact ⟨bm,cell_ext hx h1,fun w2 hx2 => h2 w2 (hx.trans hx2)⟩
set_option maxHeartbeats 40000000
section
variable {w0 w : World} {Q : Nat → Prop} {pb ps pl pa : Nat} {b : BSt}
theorem found_c (h : BuAt w0 w Q pb ps pl pa b) (hg : GB w0) {m : Laid} (hn : m.nd.name.size < 4294967281) (first : Bool) (hm : b.modes.length < 100000) :
    Gives Tryz.prog 115 #[.pointer (some ⟨pb,0,none⟩),m.val,.bool first] w fun v w' => v = .tuple #[.int .i64 (foundB b m.nd first).1,.bool (foundB b m.nd first).2] ∧ Ext w w' := by
  rw [Laid.val_eq]
  obtain ⟨zz,hzz⟩ : ∃ zz : Array Value,zz = #[.int .i64 m.nd.kind,.string m.nd.name,.string m.nd.text,.int .i64 m.nd.space,m.av,.bool m.nd.dup,.int .i64 m.nd.parent,.int .i64 m.nd.content,m.kv,.int .i64 m.nd.frm,.int .i64 m.nd.to] := ⟨_,rfl⟩
  rw [← hzz]
  have hx := Ext.alloc w (.cells zz 46)
  have hp : (w.alloc (.cells zz 46)).heap[w.heap.size]? = some (.cells zz 46 (0,0)) := by rw [heap_alloc_h,if_pos rfl]
  obtain ⟨r,hr⟩ : ∃ r,r = foundB b m.nd first := ⟨_,rfl⟩
  rw [← hr]
  unfold foundB at hr
  refine Gives.of_W Tryz.call115 Tryz.func115 rfl Tryz.ntmps115 (by simp) ?_; intro Z hZ
  (repeat revert hK K);refine W1 @vcells_agg ?_;repeat with_reducible intro K hK
  generalize w.alloc (.cells zz 46) = w1 at *
  subst hzz
  obtain ⟨p,hpe⟩ : ∃ p,p = w.heap.size := ⟨_,rfl⟩
  rw [← hpe] at hp ⊢
  have h1 := h.pass hx
  obtain ⟨bm,hb1,hb2⟩ := hg.ext h1.out
  have hlk := hb2 w1 (Ext.refl _) m.nd.name hn
  (repeat revert hK K);refine Wc2 @hb1 @hp ?_;repeat with_reducible intro K hK
  refine RunV.of hlk ?_
  generalize (byN m.nd.name).getD 0 = md at *
  generalize (byN m.nd.name).isSome = okk at *
  obtain ⟨mv,bm2,av,ba,hrow,hsl,hask,_⟩ := id h1
  obtain ⟨ma,mc,rfl,hmc⟩ := hsl.ints_len
  unfold BSt.row at hrow
  by_cases hs : m.nd.space = 0
  · rw [if_neg (fun h => h hs)] at hr
    by_cases ht : m.nd.name = tmpl
    · have htl : m.nd.name = ⟨#[116, 101, 109, 112, 108, 97, 116, 101]⟩ := ht
      by_cases hml : 0 < b.modes.length
      · rw [if_pos ⟨ht, hml⟩] at hr
        have d0 : (0 : Int) < (b.modes.length : Int) := by omega
        obtain ⟨k,hk⟩ : ∃ k,b.modes.length = k + 1 := ⟨b.modes.length - 1,by omega⟩
        have e1 : (b.modes.length : Int) - 1 = (k : Int) := by omega
        have e2 : inI64 (k : Int) := by unfold inI64; omega
        have e3 : (0 : Int) ≤ (k : Int) := by omega
        have e4 : (k : Int) < (b.modes.length : Int) := by omega
        have eg : b.modes.getD (b.modes.length - 1) 0 = b.modes[k]'(by omega) := by
          have : b.modes.length - 1 = k := by omega
          rw [this]; simp [List.getD,(show k < b.modes.length by omega)]
        rw [eg] at hr
        subst hr
        obtain ⟨bq,oq,n',c',e,hbq⟩ := hsl.some_of (fun e => by have := congrArg List.length e; simp [intCells] at this; rw [this] at hml; simp at hml)
        cases e
        have hxd := Ext.drew w1
        have cq := (hsl.ext hxd).ints_cell (i := k) (x := b.modes[k]'(by omega)) (by simp [(show k < b.modes.length by omega)])
        rw [cell_h] at cq
        generalize b.modes[k]'_ = last at *
        have hrd := hxd.blk hrow
        clear eg hk
        generalize b.modes.length = nm at *
        (repeat first|(with_reducible first|(refine hK _ _ ?_;clear hK K)|refine ‹∀σ w,_→K σ w› _ _ ?_|(refine W_st ?_;constructor;try intro K hK))|((with_reducible first|refine hZ _ _ ?_|refine W_rg ?_|skip);repeat1' simp only[push_cast,seval,-Nat.reduceSubDiff,ext0,ext1,cell_h,cellO_cells,hp,hs,htl,hrow,d0,decide_true,not_true_eq_false,decide_false])|((repeat((fail_if_success with_reducible refine hK _ _ ?_);clear hK K));with_reducible refine hK _ _ ?_;clear hK K))
        refine W_draw (.pas 0 (.pas 1 (.pas 2 (.pas 3 (.pas 4 (.pas 5 (.pas 6 (.pas 7 (.pas 8 (.pas 9 (.pas 10 (.pas 11 (.pas 12 (.pas 13 .fin)))))))))))))) (fun _ => True) (by decide) mixed (by kernel_rfl) ?_
        generalize w1.drew = wd at *
        refine Dc6 @hrd @e1 @e2 @e3 @e4 @cq ?_
        (repeat revert hK K);refine W0 ?_;repeat with_reducible intro K hK
        exact hx.trans hxd
      · rw [if_neg (fun h => hml h.2)] at hr
        have hnh : ¬ m.nd.name = sHtml := by rw [ht]; decide
        rw [if_neg (fun h => hnh h.1),if_neg hnh] at hr
        have d0 : ¬ (0 : Int) < (b.modes.length : Int) := by omega
        have hth : ¬ (⟨#[116,101,109,112,108,97,116,101]⟩ : ByteArray) = ⟨#[104,116,109,108]⟩ := by decide
        cases first with
        | false =>
          rw [if_neg (fun h => by cases h.1)] at hr
          subst hr
          (repeat first|(with_reducible first|(refine hK _ _ ?_;clear hK K)|refine ‹∀σ w,_→K σ w› _ _ ?_|(refine W_st ?_;constructor;try intro K hK))|((with_reducible first|refine hZ _ _ ?_|refine W_rg ?_|skip);repeat1' simp only[push_cast,seval,-Nat.reduceSubDiff,ext0,ext1,cell_h,cellO_cells,hp,hs,htl,hth,hrow,d0,decide_true,not_true_eq_false,decide_false])|((repeat((fail_if_success with_reducible refine hK _ _ ?_);clear hK K));with_reducible refine hK _ _ ?_;clear hK K))
          exact hx
        | true =>
          by_cases hmd : md = 14
          · rw [if_pos ⟨rfl, .inl hmd⟩] at hr
            subst hr
            (repeat first|(with_reducible first|(refine hK _ _ ?_;clear hK K)|refine ‹∀σ w,_→K σ w› _ _ ?_|(refine W_st ?_;constructor;try intro K hK))|((with_reducible first|refine hZ _ _ ?_|refine W_rg ?_|skip);repeat1' simp only[push_cast,seval,-Nat.reduceSubDiff,ext0,ext1,cell_h,cellO_cells,hp,hs,htl,hth,hrow,d0,hmd,decide_true,not_true_eq_false,decide_false])|((repeat((fail_if_success with_reducible refine hK _ _ ?_);clear hK K));with_reducible refine hK _ _ ?_;clear hK K))
            exact hx
          · by_cases hm3 : md = 3
            · rw [if_pos ⟨rfl, .inr hm3⟩] at hr
              subst hr
              subst hm3
              (repeat first|(with_reducible first|(refine hK _ _ ?_;clear hK K)|refine ‹∀σ w,_→K σ w› _ _ ?_|(refine W_st ?_;constructor;try intro K hK))|((with_reducible first|refine hZ _ _ ?_|refine W_rg ?_|skip);repeat1' simp only[push_cast,seval,-Nat.reduceSubDiff,ext0,ext1,cell_h,cellO_cells,hp,hs,htl,hth,hrow,d0,hmd,decide_true,not_true_eq_false,decide_false])|((repeat((fail_if_success with_reducible refine hK _ _ ?_);clear hK K));with_reducible refine hK _ _ ?_;clear hK K))
              exact hx
            · rw [if_neg (by rintro ⟨_, h | h⟩; exact hmd h; exact hm3 h)] at hr
              subst hr
              (repeat first|(with_reducible first|(refine hK _ _ ?_;clear hK K)|refine ‹∀σ w,_→K σ w› _ _ ?_|(refine W_st ?_;constructor;try intro K hK))|((with_reducible first|refine hZ _ _ ?_|refine W_rg ?_|skip);repeat1' simp only[push_cast,seval,-Nat.reduceSubDiff,ext0,ext1,cell_h,cellO_cells,hp,hs,htl,hth,hrow,d0,hmd,hm3,decide_true,not_true_eq_false,decide_false])|((repeat((fail_if_success with_reducible refine hK _ _ ?_);clear hK K));with_reducible refine hK _ _ ?_;clear hK K))
              exact hx
    · rw [if_neg (fun h => ht h.1)] at hr
      by_cases hh : m.nd.name = sHtml
      · have hhl : m.nd.name = ⟨#[104, 116, 109, 108]⟩ := hh
        have hht : ¬ (⟨#[104,116,109,108]⟩ : ByteArray) = ⟨#[116,101,109,112,108,97,116,101]⟩ := by decide
        by_cases hhd : b.head < 0
        · rw [if_pos ⟨hh, hhd⟩] at hr
          subst hr
          (repeat first|(with_reducible first|(refine hK _ _ ?_;clear hK K)|refine ‹∀σ w,_→K σ w› _ _ ?_|(refine W_st ?_;constructor;try intro K hK))|((with_reducible first|refine hZ _ _ ?_|refine W_rg ?_|skip);repeat1' simp only[push_cast,seval,-Nat.reduceSubDiff,ext0,ext1,cell_h,cellO_cells,hp,hs,hhl,hht,hrow,hhd,decide_true,not_true_eq_false,decide_false])|((repeat((fail_if_success with_reducible refine hK _ _ ?_);clear hK K));with_reducible refine hK _ _ ?_;clear hK K))
          exact hx
        · rw [if_neg (fun h => hhd h.2), if_pos hh] at hr
          subst hr
          (repeat first|(with_reducible first|(refine hK _ _ ?_;clear hK K)|refine ‹∀σ w,_→K σ w› _ _ ?_|(refine W_st ?_;constructor;try intro K hK))|((with_reducible first|refine hZ _ _ ?_|refine W_rg ?_|skip);repeat1' simp only[push_cast,seval,-Nat.reduceSubDiff,ext0,ext1,cell_h,cellO_cells,hp,hs,hhl,hht,hrow,hhd,decide_true,not_true_eq_false,decide_false])|((repeat((fail_if_success with_reducible refine hK _ _ ?_);clear hK K));with_reducible refine hK _ _ ?_;clear hK K))
          exact hx
      · rw [if_neg (fun h => hh h.1), if_neg hh] at hr
        have ht' : ¬ m.nd.name = ⟨#[116,101,109,112,108,97,116,101]⟩ := ht
        have hh' : ¬ m.nd.name = ⟨#[104,116,109,108]⟩ := hh
        cases first with
        | false =>
          rw [if_neg (fun h => by cases h.1)] at hr
          subst hr
          (repeat first|(with_reducible first|(refine hK _ _ ?_;clear hK K)|refine ‹∀σ w,_→K σ w› _ _ ?_|(refine W_st ?_;constructor;try intro K hK))|((with_reducible first|refine hZ _ _ ?_|refine W_rg ?_|skip);repeat1' simp only[push_cast,seval,-Nat.reduceSubDiff,ext0,ext1,cell_h,cellO_cells,hp,hs,ht',hh',hrow,decide_true,not_true_eq_false,decide_false])|((repeat((fail_if_success with_reducible refine hK _ _ ?_);clear hK K));with_reducible refine hK _ _ ?_;clear hK K))
          exact hx
        | true =>
          by_cases hmd : md = 14
          · rw [if_pos ⟨rfl, .inl hmd⟩] at hr
            subst hr
            (repeat first|(with_reducible first|(refine hK _ _ ?_;clear hK K)|refine ‹∀σ w,_→K σ w› _ _ ?_|(refine W_st ?_;constructor;try intro K hK))|((with_reducible first|refine hZ _ _ ?_|refine W_rg ?_|skip);repeat1' simp only[push_cast,seval,-Nat.reduceSubDiff,ext0,ext1,cell_h,cellO_cells,hp,hs,ht',hh',hrow,hmd,decide_true,not_true_eq_false,decide_false])|((repeat((fail_if_success with_reducible refine hK _ _ ?_);clear hK K));with_reducible refine hK _ _ ?_;clear hK K))
            exact hx
          · by_cases hm3 : md = 3
            · rw [if_pos ⟨rfl, .inr hm3⟩] at hr
              subst hr
              subst hm3
              (repeat first|(with_reducible first|(refine hK _ _ ?_;clear hK K)|refine ‹∀σ w,_→K σ w› _ _ ?_|(refine W_st ?_;constructor;try intro K hK))|((with_reducible first|refine hZ _ _ ?_|refine W_rg ?_|skip);repeat1' simp only[push_cast,seval,-Nat.reduceSubDiff,ext0,ext1,cell_h,cellO_cells,hp,hs,ht',hh',hrow,hmd,decide_true,not_true_eq_false,decide_false])|((repeat((fail_if_success with_reducible refine hK _ _ ?_);clear hK K));with_reducible refine hK _ _ ?_;clear hK K))
              exact hx
            · rw [if_neg (by rintro ⟨_, h | h⟩; exact hmd h; exact hm3 h)] at hr
              subst hr
              (repeat first|(with_reducible first|(refine hK _ _ ?_;clear hK K)|refine ‹∀σ w,_→K σ w› _ _ ?_|(refine W_st ?_;constructor;try intro K hK))|((with_reducible first|refine hZ _ _ ?_|refine W_rg ?_|skip);repeat1' simp only[push_cast,seval,-Nat.reduceSubDiff,ext0,ext1,cell_h,cellO_cells,hp,hs,ht',hh',hrow,hmd,hm3,decide_true,not_true_eq_false,decide_false])|((repeat((fail_if_success with_reducible refine hK _ _ ?_);clear hK K));with_reducible refine hK _ _ ?_;clear hK K))
              exact hx
  · rw [if_pos hs] at hr
    subst hr
    (repeat revert hK K);refine Wc6 @ext0 @ext1 @hp @hs @not_false_eq_true @decide_true ?_;repeat with_reducible intro K hK
    exact hx
end
end Go.Proofs.YtgnnlaeikcnhcaaGreatDoor
end
section
namespace Go.Vk
open Go
def Nms (L : List Nd) : Prop := ∀ n ∈ L,n.name.size < 4294967281
theorem Nms.node {L : List Nd} (h : Nms L) (i : Int) : (nodeN L i).name.size < 4294967281 := by
  unfold nodeN
  cases hx : nd? L i with
  | none => exact (by decide : (0 : Nat) < 4294967281)
  | some x =>
    obtain ⟨k,_,hk,_⟩ := nd?_some hx
    exact h x (List.mem_of_getElem? hk)
end Go.Vk
namespace Go.Proofs.YtgnnlaeikcnhcaaGreatDoor
open Go Go.Vk
set_option maxHeartbeats 40000000
section
variable {w0 w : World} {Q : Nat → Prop} {pb ps pl pa : Nat} {b : BSt}
theorem breset_c (h : BuAt w0 w Q pb ps pl pa b) (hb : okB b) (hg : GB w0) (hz : Nms b.L) (hm : b.modes.length < 100000) :
    Gives Tryz.prog 48 #[.pointer (some ⟨pb,0,none⟩)] w fun _ w' => BuAt w0 w' Q pb ps pl pa (resetB b) ∧ Upd (AF w0 Q) w w' := by
  obtain ⟨ma,mn,mc,av,_,_,hh⟩ := h.hd
  have hs := hb.s
  have s0 : inI64 ((b.s.length : Int) - 1) := by unfold inI64; omega
  refine Gives.of_W Tryz.call48 Tryz.func48 rfl Tryz.ntmps48 (by simp) ?_; intro Z hZ
  (repeat revert hK K);refine W0 ?_;repeat with_reducible intro K hK
  refine (bnone_c h).mono ?_
  intro v w' ⟨hv,hw⟩
  subst hv; subst w'
  (repeat revert hK K);refine Wc1 @hh ?_;repeat with_reducible intro K hK
  refine (bslen_c h).mono ?_
  intro v w' ⟨hv,hw⟩
  subst hv; subst w'
  (repeat revert hK K);refine W1 @s0 ?_;repeat with_reducible intro K hK
  refine W_loop (S := Nat) (fun k => [(0, .pointer (some ⟨pb, 0, none⟩)), (2, .int .i64 ((k : Int) - 1))])
    (fun k w2 => k ≤ b.s.length ∧ resetB b = resetN b k ∧ Ext w w2) (fun k => k) b.s.length ?_ ?_ ?_
  · (repeat simp only [push_cast,seval,-Nat.reduceSubDiff])
  · exact ⟨Nat.le_refl _,rfl,Ext.refl _⟩
  rintro k w2 ⟨hk,he,hx2⟩
  have h2 := h.pass hx2
  have hh2 := hx2.blk hh
  cases k with
  | zero =>
    have e0 : (((0 : Nat) : Int) - 1) = -1 := rfl
    rw [e0]
    have b0 : ¬ (0 : Int) ≤ -1 := by omega
    obtain ⟨k1,k2,k3⟩ := h2.put { b with mode := 6 } 3 (.int .i64 6) (fun _ _ => rfl) (by decide) ⟨rfl,rfl,rfl,rfl,rfl⟩
    rw [resetN] at he
    (repeat revert hK K);refine Wc3 @b0 @hh2 @k1 ?_;repeat with_reducible intro K hK
    rw [he]
    exact ⟨k2,Upd.trans hx2.upd k3 fun _ _ h => h⟩
  | succ k =>
    have e0 : (((k + 1 : Nat) : Int) - 1) = k := by omega
    rw [e0]
    rw [resetN] at he
    have b0 : (0 : Int) ≤ (k : Int) := by omega
    have b2 : inI64 ((k : Int) - 1) := by unfold inI64; omega
    have hkl : k < b.s.length := by omega
    have eA : atS b.s (k : Int) = (b.s.getD k zS).node := by
      unfold atS
      rw [if_pos ⟨b0,by omega⟩,Int.toNat_natCast]
    have hxd := hx2.trans (Ext.drew w2)
    have hd := h.pass hxd
    have hhd := hxd.blk hh
    have l1 := blk_lt hhd
    have hA := bsat_c hd (k : Int)
    rw [eA] at hA
    generalize (b.s.getD k zS).node = nk at *
    have e1 : decide ((k : Int) = 0) = decide (k = 0) := by
      by_cases hk0 : k = 0
      · rw [decide_eq_true hk0,decide_eq_true (by omega)]
      · rw [decide_eq_false hk0,decide_eq_false (by omega)]
    generalize decide (k = 0) = first at *
    (repeat revert hK K);refine W1 @b0 ?_;repeat with_reducible intro K hK
    refine W_draw (.pas 0 (.pas 1 (.pas 2 (.pas 3 (.pas 4 (.pas 5 (.pas 6 (.pas 7 (.pas 8 (.pas 9 (.pas 12 (.pas 13 (.act 10 (.act 11 (.act 14 (.pas 15 (.pas 16 (.pas 17 (.pas 18 (.pas 19 .fin)))))))))))))))))))) (fun q => q = pb) (by decide) mixed (by kernel_rfl) ?_
    generalize w2.drew = wd at *
    refine Dd2 @hhd @e1 ?_
    refine hA.mono ?_
    intro v w' ⟨hv,hw⟩
    subst hv; subst w'
    refine ⟨kept.refl _ _,?_⟩
    refine D1 @e1 ?_
    refine (bnode_c hd hb nk).mono ?_
    rintro v w3 ⟨m,rfl,hmn,hok,hx3,_⟩
    refine ⟨kept_upd hx3 fun q hq => ⟨by have : q = pb := hq; omega,id⟩,?_⟩
    have hs3 := hx3.sz
    refine D1 @e1 ?_
    refine (found_c (hd.pass hx3) hg (m := m) (by rw [hmn]; exact hz.node nk) first hm).mono ?_
    rintro v w4 ⟨rfl,hx4⟩
    refine ⟨kept_upd hx4 fun q hq => ⟨by have : q = pb := hq; omega,id⟩,?_⟩
    rw [← hmn] at he
    have hx04 := (hxd.trans hx3).trans hx4
    have h4 := h.pass hx04
    have hh4 := hx04.blk hh
    generalize foundB b m.nd first = fr at *
    obtain ⟨md,ok⟩ := fr
    dsimp only at he
    refine D2 @ext0 @ext1 ?_
    cases ok with
    | true =>
      rw [if_pos rfl] at he
      obtain ⟨k1,k2,k3⟩ := h4.put { b with mode := md } 3 (.int .i64 md) (fun _ _ => rfl) (by decide) ⟨rfl,rfl,rfl,rfl,rfl⟩
      (repeat revert hK K);refine Wc2 @hh4 @k1 ?_;repeat with_reducible intro K hK
      rw [he]
      exact ⟨k2,Upd.trans hx04.upd k3 fun _ _ h => h⟩
    | false =>
      rw [if_neg (by decide)] at he
      (repeat revert hK K);refine W1 @b2 ?_;repeat with_reducible intro K hK
      refine ⟨k,by omega,?_⟩
      (repeat simp only [push_cast,seval,-Nat.reduceSubDiff])
      exact ⟨by omega,he,hx04⟩
theorem as_nil_c {w : World} (t : Value) : Gives Tryz.prog 113 #[.nilIface,t] w fun v w' => v = .bool false ∧ w' = w := by
  refine Gives.of_W Tryz.call113 Tryz.func113 rfl Tryz.ntmps113 (by simp) ?_; intro Z hZ
  (repeat first|(with_reducible first|(refine hK _ _ ?_;clear hK K)|refine ‹∀σ w,_→K σ w› _ _ ?_|(refine W_st ?_;constructor;try intro K hK))|((with_reducible first|refine hZ _ _ ?_|refine W_rg ?_|skip);repeat1' simp only[push_cast,seval,-Nat.reduceSubDiff,nilI])|((repeat((fail_if_success with_reducible refine hK _ _ ?_);clear hK K));with_reducible refine hK _ _ ?_;clear hK K))
theorem mkPtr (a : Option Addr) (w : World) (K : Value → World → Prop) : Pure1 Tryz.prog (Instr.makeInterface 129 (.pointer a)) w K = K (.iface 129 (.pointer a)) w := Pure1_eq (fun w => by kernel_rfl) w K
theorem berr0_c (h : BuAt w0 w Q pb ps pl pa b) (he : b.err = none) : Gives Tryz.prog 31 #[.pointer (some ⟨pb,0,none⟩)] w fun v w' => v = .int .i64 0 ∧ Ext w w' := by
  obtain ⟨ma,mn,mc,av,_,_,hh⟩ := h.hd
  rw [he] at hh
  have hx := Ext.alloc w (.cells #[.int .i64 0] 28)
  have hh2 := hx.blk hh
  refine Gives.of_W Tryz.call31 Tryz.func31 rfl Tryz.ntmps31 (by simp) ?_; intro Z hZ
  (repeat revert hK K);refine W0 ?_;repeat with_reducible intro K hK
  refine (bnone_c h).mono ?_
  intro v w' ⟨hv,hw⟩
  subst hv; subst w'
  (repeat revert hK K);refine W2 (RunV_zero Tryz.zeroValue28) @vcells_int ?_;repeat with_reducible intro K hK
  generalize w.alloc (.cells #[.int .i64 0] 28) = w2 at *
  (repeat first|(with_reducible first|(refine hK _ _ ?_;clear hK K)|refine ‹∀σ w,_→K σ w› _ _ ?_|(refine W_st ?_;constructor;try intro K hK))|((with_reducible first|refine hZ _ _ ?_|refine W_rg ?_|skip);repeat1' simp only[push_cast,seval,-Nat.reduceSubDiff,cell_h,cellO_cells,hh2,errV,mkPtr])|((repeat((fail_if_success with_reducible refine hK _ _ ?_);clear hK K));with_reducible refine hK _ _ ?_;clear hK K))
  refine (as_nil_c _).mono ?_
  intro v w' ⟨hv,hw⟩
  subst hv; subst w'
  (repeat revert hK K);refine W0 ?_;repeat with_reducible intro K hK
  exact hx
end
end Go.Proofs.YtgnnlaeikcnhcaaGreatDoor
end
section
namespace Go.Vk
open Go Go.Proofs.YtgnnlaeikcnhcaaGreatDoor
def startT (t : HTok) (l : List ByteArray) : Bool := decide (t.kind = 2) && l.any fun y => decide (t.name = y)
def endT (t : HTok) (l : List ByteArray) : Bool := decide (t.kind = 3) && l.any fun y => decide (t.name = y)
def lStr : List ByteArray := [⟨#[104,101,97,100]⟩,⟨#[98,111,100,121]⟩,⟨#[104,116,109,108]⟩,⟨#[98,114]⟩]
def lHtml : List ByteArray := [⟨#[104,116,109,108]⟩]
def lHead : List ByteArray := [⟨#[104,101,97,100]⟩]
def lBody : List ByteArray := [⟨#[98,111,100,121]⟩]
def lBel : List ByteArray := [⟨#[98,97,115,101]⟩,⟨#[98,97,115,101,102,111,110,116]⟩,⟨#[98,103,115,111,117,110,100]⟩,⟨#[108,105,110,107]⟩,⟨#[109,101,116,97]⟩,⟨#[110,111,102,114,97,109,101,115]⟩,⟨#[115,99,114,105,112,116]⟩,⟨#[115,116,121,108,101]⟩,⟨#[116,101,109,112,108,97,116,101]⟩,⟨#[116,105,116,108,101]⟩]
def lTem : List ByteArray := [⟨#[116,101,109,112,108,97,116,101]⟩]
def lNos : List ByteArray := [⟨#[110,111,115,99,114,105,112,116]⟩]
def lHN : List ByteArray := [⟨#[104,101,97,100]⟩,⟨#[110,111,115,99,114,105,112,116]⟩]
def lNo2 : List ByteArray := [⟨#[104,116,109,108]⟩,⟨#[98,97,115,101,102,111,110,116]⟩,⟨#[98,103,115,111,117,110,100]⟩,⟨#[108,105,110,107]⟩,⟨#[109,101,116,97]⟩,⟨#[110,111,102,114,97,109,101,115]⟩,⟨#[115,116,121,108,101]⟩]
def lHF : List ByteArray := [⟨#[104,101,97,100]⟩,⟨#[102,114,97,109,101,115,101,116]⟩]
def lRaw : List ByteArray := [⟨#[116,105,116,108,101]⟩,⟨#[110,111,102,114,97,109,101,115]⟩,⟨#[115,116,121,108,101]⟩,⟨#[115,99,114,105,112,116]⟩]
def sHead : ByteArray := ⟨#[104,101,97,100]⟩
def sBr : ByteArray := ⟨#[98,114]⟩
def sNosc : ByteArray := ⟨#[110,111,115,99,114,105,112,116]⟩
def sTitle : ByteArray := ⟨#[116,105,116,108,101]⟩
def sNof : ByteArray := ⟨#[110,111,102,114,97,109,101,115]⟩
def sStyle : ByteArray := ⟨#[115,116,121,108,101]⟩
def sScript : ByteArray := ⟨#[115,99,114,105,112,116]⟩
def sBody_ : ByteArray := ⟨#[98,111,100,121]⟩
def strT (t : HTok) : Bool := decide (t.kind = 3) && !lStr.any fun y => decide (t.name = y)
def belT (t : HTok) : Bool := startT t lBel || endT t lTem
def doctN (t : HTok) : Nd := { zN with kind := 2,name := t.name,frm := -1,to := -1 }
def modeB (b : BSt) (m : Int) : BSt := { b with mode := m }
def initH (b : BSt) (t : HTok) : BSt × Bool :=
  if t.kind = 5 then (b,false)
  else if t.kind = 4 then (commB b t.text 0,false)
  else if t.kind = 1 then ({ addB b (doctN t) with L := (appendN (addB b (doctN t)).L 0 (addN b.L (doctN t)).2).1,quirks := t.quirks || !decide (t.name = sHtml),mode := 1 },false)
  else ({ b with quirks := true,mode := 1 },true)
def bhtmlH (b : BSt) (t : HTok) : BSt × Bool :=
  if t.kind = 4 then (commB b t.text 0,false)
  else if t.kind = 1 ∨ t.kind = 5 ∨ strT t = true then (b,false)
  else if startT t lHtml = true then (modeB (insertB b (elTok t 0)).1 2,false)
  else (modeB (implyB b sHtml).1 2,true)
def moreB (b : BSt) (t : HTok) : BSt := if 0 ≤ lastBu b tmpl then b else { b with L := (moreN b.L (atS b.s 0) t.attrs).1 }
def bheadH (b : BSt) (t : HTok) : BSt × Bool :=
  if t.kind = 4 then (commB b t.text (-1),false)
  else if t.kind = 1 ∨ t.kind = 5 ∨ strT t = true then (b,false)
  else if startT t lHtml = true then (moreB b t,false)
  else if startT t lHead = true then ({ (insertB b (elTok t 0)).1 with head := (insertB b (elTok t 0)).2,mode := 3 },false)
  else ({ (implyB b sHead).1 with head := (implyB b sHead).2,mode := 3 },true)
def markB (b : BSt) : BSt × Int := ({ b with l := (layN b.l b.l.length (-1)).1 },(layN b.l b.l.length (-1)).2)
def clearB (b : BSt) : BSt := { b with l := clearN b.l (openN b.l) }
def untB (b : BSt) (l : List ByteArray) : BSt := { b with s := (untS b.s l).1 }
def leaveB (b : BSt) : BSt := resetB (popM (clearB (untB b lTem)))
def thorB (b : BSt) : BSt := { b with s := dropS thoN b.s }
def temH (b : BSt) (t : HTok) : BSt :=
  if t.kind = 2 then
    let b1 := (insertB b (elTok t 0)).1
    let b2 := failB (markB b1).1 (markB b1).2
    { b2 with mode := 15,modes := b2.modes ++ [15] }
  else if 0 ≤ lastBu b tmpl then leaveB (thorB b) else b
def stateN (x : ByteArray) : Int :=
  if x = ⟨#[116,101,120,116,97,114,101,97]⟩ ∨ x = ⟨#[116,105,116,108,101]⟩ then 1 else if x = ⟨#[105,102,114,97,109,101]⟩ ∨ x = ⟨#[110,111,101,109,98,101,100]⟩ ∨ x = ⟨#[110,111,102,114,97,109,101,115]⟩ ∨ x = ⟨#[115,116,121,108,101]⟩ ∨ x = ⟨#[120,109,112]⟩ then 2 else if x = ⟨#[115,99,114,105,112,116]⟩ then 3 else if x = ⟨#[112,108,97,105,110,116,101,120,116]⟩ then 4 else 0
def ownH (b : BSt) (t : HTok) : BSt :=
  if t.name = tmpl then temH b t
  else if t.name = sTitle ∨ t.name = sNof ∨ t.name = sStyle ∨ t.name = sScript then rawB b t (stateN t.name)
  else (onlyB b t).1
def popS (b : BSt) : BSt := { b with s := b.s.dropLast }
def headH (b : BSt) (t : HTok) : BSt × Bool :=
  if t.kind = 1 then (b,false)
  else if t.kind = 5 then (charsB b t.text,false)
  else if t.kind = 4 then (commB b t.text (-1),false)
  else if startT t lHtml = true then (moreB b t,false)
  else if belT t = true then (ownH b t,false)
  else if startT t lNos = true then (modeB (insertB b (elTok t 0)).1 4,false)
  else if startT t lHead = true ∨ strT t = true then (b,false)
  else (modeB (popS b) 5,!endT t lHead)
def nosH (b : BSt) (t : HTok) : BSt × Bool :=
  if t.kind = 1 ∨ startT t lHN = true then (b,false)
  else if t.kind = 5 ∨ t.kind = 4 ∨ startT t lNo2 = true then headH b t
  else if t.kind = 3 ∧ t.name ≠ sNosc ∧ t.name ≠ sBr then (b,false)
  else (modeB (popS b) 3,!endT t lNos)
def pushedB (b : BSt) (i : Int) : BSt := failB (pushB b i).1 (pushB b i).2
def remB (b : BSt) (i : Int) : BSt := { b with s := (remS b.s i).1 }
def afterH (b : BSt) (t : HTok) : BSt × Bool :=
  if t.kind = 5 then (charsB b t.text,false)
  else if t.kind = 4 then (commB b t.text (-1),false)
  else if t.kind = 1 ∨ startT t lHF = true then (b,false)
  else if startT t lHtml = true then (moreB b t,false)
  else if startT t lBody = true then (modeB (insertB b (elTok t 0)).1 6,false)
  else if endT t lTem = true then headH b t
  else if belT t = true then (remB (ownH (pushedB b b.head) t) (ownH (pushedB b b.head) t).head,false)
  else if strT t = true ∨ endT t lHead = true then (b,false)
  else (modeB (implyB b sBody_).1 6,true)
def textH (b : BSt) (t : HTok) : BSt × Bool :=
  if t.kind = 5 ∨ t.kind = 7 ∨ t.kind = 6 then (charsB b t.text,false)
  else (modeB (popS b) b.back,decide (t.kind = 8))
def stepH (b : BSt) (t : HTok) : BSt × Bool :=
  if b.mode = 0 then initH b t
  else if b.mode = 1 then bhtmlH b t
  else if b.mode = 2 then bheadH b t
  else if b.mode = 3 then headH b t
  else if b.mode = 4 then nosH b t
  else if b.mode = 5 then afterH b t
  else if b.mode = 7 then textH b t
  else (b,false)
end Go.Vk
end
section
namespace Go.Vk
open Go Go.Proofs.YtgnnlaeikcnhcaaGreatDoor
end Go.Vk
end
section
namespace Go.Proofs.YtgnnlaeikcnhcaaGreatDoor
open Go Go.Vk
def okb (b : BSt) : Bool := decide (b.L.length < 80000) && (b.L.all fun n => decide (n.attrs.length < 1000000) && decide (n.name.size < 4294967281)) && decide (b.s.length < 10000) && decide (b.l.length < 1000) && decide (b.modes.length < 100000)
theorem okb_ok {b : BSt} (h : okb b = true) : okB b ∧ b.L.length + 2 < 90000 ∧ b.L.length + 2 * b.l.length + 2 < 90000 ∧ (∀ n ∈ b.L,n.name.size < 4294967281) ∧ b.modes.length < 100000 := by
  simp only [okb,Bool.and_eq_true,decide_eq_true_eq,List.all_eq_true] at h
  obtain ⟨⟨⟨⟨h1,h2⟩,h3⟩,h4⟩,h5⟩ := h
  exact ⟨⟨by omega,fun n hn => (h2 n hn).1,h3,by omega⟩,by omega,by omega,fun n hn => (h2 n hn).2,h5⟩
set_option maxHeartbeats 40000000
section
variable {w0 w : World} {Q : Nat → Prop} {pb ps pl pa : Nat} {b : BSt}
theorem bfmark_c (h : BuAt w0 w Q pb ps pl pa b) (hb : okB b) : Gives Tryz.prog 20 #[.pointer (some ⟨pl,0,none⟩)] w fun v w' => v = .int .i64 (layN b.l b.l.length (-1)).2 ∧ BuAt w0 w' Q pb ps pl pa { b with l := (layN b.l b.l.length (-1)).1 } ∧ Upd (AF w0 Q) w w' := by
  obtain ⟨P,hF,hback⟩ := h.fmt
  refine (mark_c hF hb.l).mono ?_
  rintro v w' ⟨rfl,g1,g2⟩
  exact ⟨rfl,hback _ _ _ g1 g2⟩
end
theorem nP {w : World} : ∀ q,noP q → q < w.heap.size := fun _ h => h.elim
end Go.Proofs.YtgnnlaeikcnhcaaGreatDoor
end
section
namespace Go.Vk
open Go
structure Reg (b : BSt) (ns : List Nd) : Prop where
  gd : Gd b.L
  len : b.L.length = ns.length + 1
  nod : ∀ (i : Nat) (n : Nd),ns[i]? = some n → gN b.L ((i : Int) + 1) = { n with parent := (gN b.L ((i : Int) + 1)).parent,kids := (gN b.L ((i : Int) + 1)).kids }
  pl : ∀ n ∈ ns,kidK n.kind = true ∧ n.name ≠ tmpl
  stk : ∀ o ∈ b.s,∃ (i : Nat) (n : Nd),ns[i]? = some n ∧ n.kind = 3 ∧ o = ⟨(i : Int) + 1,n.space,n.name⟩
  fo : b.foster = false
theorem nodeN_gN {L : List Nd} {i : Int} (h : 0 ≤ i ∧ i < L.length) : nodeN L i = gN L i := by
  unfold nodeN gN
  have := nd?_isSome L i
  rw [decide_eq_true h] at this
  obtain ⟨n,hn⟩ := Option.isSome_iff_exists.1 this
  rw [hn]; rfl
theorem aboveF_new {L : List Nd} (h : Gd L) (n : Nd) : ∀ (k : Nat) (j : Int), j < L.length → aboveF (L ++ [n]) L.length k j = false
  | 0,_,_ => rfl
  | k + 1,j,hj => by
    rw [aboveF]
    by_cases h0 : j < 0
    · rw [if_pos h0]
    · rw [if_neg h0]
      have e : ¬ j = (L.length : Int) := by omega
      rw [decide_eq_false e,Bool.false_or]
      apply aboveF_new h n k
      rw [upN_g,gN_push,if_neg e]
      split
      · omega
      · by_cases hp : 0 ≤ (gN L j).parent
        · exact (h.range hp).2
        · omega
theorem topS_eq (s : List OpS) : topS s = match s.getLast? with | none => -1 | some o => o.node := by
  unfold topS atS
  rcases List.eq_nil_or_concat s with rfl | ⟨r,o,rfl⟩
  · rfl
  · rw [List.concat_eq_append, List.getLast?_concat]
    simp only [List.length_append,List.length_cons,List.length_nil]
    rw [if_pos ⟨by omega,by omega⟩]
    have e : (((r.length + (0 + 1) : Nat) : Int) - 1).toNat = r.length := by omega
    rw [e]
    simp
theorem gN_hang_new {L : List Nd} (h : Gd L) {n : Nd} (hp : n.parent = -1) (hk : n.kids = []) (h1 : n.kind ≠ 1) {p : Nat} (hpl : p < L.length) (t : Int) :
    gN (hangN (L ++ [n]) p (-1) L.length) t = if t = L.length then { n with parent := (p : Int) } else if t = p then { gN L t with kids := (gN L t).kids ++ [(L.length : Int)] } else gN L t := by
  have hg := h.push hp hk h1
  have hlen : (L ++ [n]).length = L.length + 1 := by simp
  rw [gN_hang hg (by omega) (by omega)]
  have hno : ∀ u : Int,(L.length : Int) ∉ (gN (L ++ [n]) u).kids := fun u hm => by
    have := (hg.kid u _).1 hm
    rw [gN_push,if_pos rfl,hp] at this
    omega
  rw [List.erase_of_not_mem (hno t),gN_push]
  by_cases e1 : t = (L.length : Int)
  · have e2 : ¬ t = (p : Int) := by omega
    simp only [if_pos e1,if_neg e2]
  · simp only [if_neg e1]
    by_cases e2 : t = (p : Int)
    · simp only [if_pos e2, addK]
      rw [if_pos (by decide)]
    · simp only [if_neg e2]
end Go.Vk
end
section
namespace Go.Vk
open Go
def deepN (nm : ByteArray) : Nd := elTok (tokI nm) 0
structure Deep (nm : ByteArray) (k : Nat) (b : BSt) : Prop where
  reg : Reg b (List.replicate k (bareN (deepN nm)))
  s : b.s.length = k
  err : b.err = none
  at_ : Att b.L
  l : b.l = []
end Go.Vk
end
section
namespace Go.Vk
open Go
end Go.Vk
end
section
namespace Go.Proofs.YtgnnlaeikcnhcaaGreatDoor
open Go Go.Vk
section
variable {w0 w : World} {Q : Nat → Prop} {pb ps pl pa : Nat} {b : BSt}
theorem bsrem_c (h : BuAt w0 w Q pb ps pl pa b) (hb : okB b) (i : Int) : Gives Tryz.prog 206 #[.pointer (some ⟨ps,0,none⟩),.int .i64 i] w fun v w' => v = .int .i64 (remS b.s i).2 ∧ BuAt w0 w' Q pb ps pl pa { b with s := (remS b.s i).1 } ∧ Upd (AF w0 Q) w w' := by
  obtain ⟨P,hS,hback⟩ := h.stk
  refine (srem_c hS hb.s i).mono ?_
  rintro v w' ⟨rfl,g1,g2⟩
  exact ⟨rfl,hback _ _ _ g1 g2⟩
theorem buntil_c (h : BuAt w0 w Q pb ps pl pa b) (hb : okB b) {nv : Value} {l : List ByteArray} (hn : RdAt w 1 nv (strCells l)) (hl : l.length < 1000000000) : Gives Tryz.prog 133 #[.pointer (some ⟨ps,0,none⟩),nv] w fun v w' => v = .int .i64 (untS b.s l).2 ∧ BuAt w0 w' Q pb ps pl pa { b with s := (untS b.s l).1 } ∧ Upd (AF w0 Q) w w' := by
  obtain ⟨P,hS,hback⟩ := h.stk
  refine (suntil_c hS hb.s hn hl).mono ?_
  rintro v w' ⟨rfl,g1,g2⟩
  exact ⟨rfl,hback _ _ _ g1 g2⟩
theorem bthor_c (h : BuAt w0 w Q pb ps pl pa b) (hb : okB b) (hm : MaxAt w0) (hz : ∀ o ∈ b.s,o.name.size < 4294967281) : Gives Tryz.prog 212 #[.pointer (some ⟨ps,0,none⟩)] w fun _ w' => BuAt w0 w' Q pb ps pl pa { b with s := dropS thoN b.s } ∧ Upd (AF w0 Q) w w' := by
  obtain ⟨P,hS,hback⟩ := h.stk
  refine (sthor_c hS hb.s hm hz).mono ?_
  rintro v w' ⟨g1,g2⟩
  exact hback _ _ _ g1 g2
theorem bfclear_c (h : BuAt w0 w Q pb ps pl pa b) (hb : okB b) : Gives Tryz.prog 174 #[.pointer (some ⟨pl,0,none⟩)] w fun _ w' => BuAt w0 w' Q pb ps pl pa { b with l := clearN b.l (openN b.l) } ∧ Upd (AF w0 Q) w w' := by
  obtain ⟨P,hF,hback⟩ := h.fmt
  refine (clear_c hF hb.l).mono ?_
  rintro v w' ⟨g1,g2⟩
  exact hback _ _ _ g1 g2
theorem bappend_c (h : BuAt w0 w Q pb ps pl pa b) (hb : okB b) (p i : Int) : Gives Tryz.prog 132 #[.pointer (some ⟨pa,0,none⟩),.int .i64 p,.int .i64 i] w fun v w' => v = .int .i64 (appendN b.L p i).2 ∧ BuAt w0 w' Q pb ps pl pa { b with L := (appendN b.L p i).1 } ∧ Upd (AF w0 Q) w w' := by
  obtain ⟨P,hA,hback⟩ := h.ar
  have := hb.L
  refine (append_a hA (by omega) p i).mono ?_
  rintro v w' ⟨rfl,g1,g2⟩
  exact ⟨rfl,hback _ _ g1 g2⟩
end
set_option maxHeartbeats 40000000
end Go.Proofs.YtgnnlaeikcnhcaaGreatDoor
end
section
namespace Go.Vk
open Go
theorem W_drawN {P : Program} {n : Nat} {K : Regs → World → Prop} {X : Outs} (sch : Sch) (B : Nat → Prop) (N : Nat) {l : List Oper} (hN : l.length = N) (hn : n ≤ 1000000) (hm : P.follows .mixedOrders = true)
    (hc : (Region.noSelect l.toArray && l.toArray.all (dLt n) && chk P .any l.toArray N (Array.replicate N false) sch) = true)
    {id : Nat} {σ : Regs} {w : World} (h : SchW P l.toArray B K sch σ w.drew) : W P n σ w (.region id l.toArray true) K X := by
  subst hN
  refine W_draw sch B hn hm ?_ h
  rw [List.size_toArray]
  exact hc
end Go.Vk
end
section
namespace Go.Vk
open Go Go.RowKit Go.WideShapes Go.ChangeShapes
variable {H : Type} {enc : TypeId × Value → H} {P : Program}
theorem Ext.below {w w' : World} (h : Ext w w') : Below w.heap.size w w' := ⟨h.alike.os,h.alike.tape,h.alike.output,h.alike.size,fun _ hk => h.heap hk⟩
theorem post_ext {f : Func} {s : ChangeSpec} {apart fresh handsOn again : Bool} {W W' : World} {args : Array Value} {v : Value} {ds gs : List (DataW H)} {before pa pv : List MemPlace}
    (hW : DataW.Whole enc P f.params.toList s.vars apart W args.toList ds gs before)
    (hres : ∀ (b : Nat) (sp : Nat → Bool) (hd : Bool),DataW.TrodAll enc P W' b sp hd f.resultTypes.toList (v.resultList f.resultTypes.size) (s.fn H (ds ++ gs)).results [])
    (hargs : ∀ sp : Nat → Bool,(∀ p ∈ before,sp p.block = true) → DataW.TrodAll enc P W' 0 sp true f.params.toList args.toList (s.fn H (ds ++ gs)).args pa)
    (hvars : ∀ sp : Nat → Bool,(∀ p ∈ before,sp p.block = true) → DataW.TrodVars enc P W' sp s.vars (s.fn H (ds ++ gs)).vars pv)
    (hps : before = pa ++ pv) (hx : Ext W W')
    (hok : ∀ (j : Nat) (t : TypeId) (r : Value),f.resultTypes[j]? = some t → (v.resultList f.resultTypes.size)[j]? = some r → Value.okWide P W' .any 0 t r) :
    s.post enc P f apart fresh handsOn again W args v W' := by
  subst hps
  have hb := hx.below
  have lt : ∀ p ∈ pa ++ pv,p.block < W.heap.size := fun p hp => hW.lt p hp
  have old : ∀ p ∈ pa ++ pv,(fun b => decide (b < W.heap.size)) p.block = true := fun p hp => by simpa using lt p hp
  refine ⟨ds,gs,pa ++ pv,[],pa,pv,hW,hres _ _ _,hargs _ old,hvars _ old,World.keptBut_mono (fun p hp => ⟨hp,.inr (List.mem_append.1 hp)⟩) (hb.frame (· ∈ pa ++ pv)),fun _ => ?_⟩
  obtain ⟨_,_,_,_,_,hz,hn⟩ := hW
  refine ⟨hok,_,_,([] ++ pa) ++ pv,⟨[] ++ pa,pv,trodAll_append (hargs _ fun _ _ => rfl) (hres _ _ _),hvars _ fun _ _ => rfl,rfl,fun b off hp => ?_,fun ha => by simpa using hn ha⟩,fun p hp _ => by simpa using hp⟩
  have hin : MemPlace.cell b off ∈ pa ++ pv := by simpa using hp
  rw [hb.frozen (lt _ hin)]
  exact hz b off hin
end Go.Vk
end
section
namespace Go.Vk
open Go Go.RowKit Go.WideShapes Go.ChangeShapes
variable {H : Type} {enc : TypeId × Value → H} {P : Program}
theorem stays_all (hl : laidOutB P = true) {W W' : World} (hx : Ext W W') {sp : Nat → Bool} : ∀ {ts : List TypeId} {vs : List Value} {ds : List (DataW H)} {ps : List MemPlace},
    DataW.TrodAll enc P W 0 (fun _ => true) true ts vs ds ps → (ts.all fun t => P.readableRec t && decide (t < P.types.size)) = true → (∀ p ∈ ps,p.block < W.heap.size) → (∀ p ∈ ps,sp p.block = true) →
    DataW.TrodAll enc P W' 0 sp true ts vs ds ps
  | [],vs,ds,ps,h,_,_,_ => by
    obtain ⟨rfl,rfl,rfl⟩ := trodAll_nil h
    exact trodAll_mk0
  | t :: ts,vs,ds,ps,h,ht,hlt,hs => by
    obtain ⟨v,vs',d,ds',p,q,rfl,rfl,rfl,h0,hr⟩ := trodAll_cons h
    simp only [List.all_cons,Bool.and_eq_true,decide_eq_true_eq] at ht
    exact trodAll_cons_mk (WideElems.Trod_stays hl ht.1.1 ht.1.2 h0 (fun x hx' => hx.below.same (hlt x (by simp [hx']))) (fun x hx' => hs x (by simp [hx'])))
      (stays_all hl hx hr (by simpa using ht.2) (fun x hx' => hlt x (by simp [hx'])) (fun x hx' => hs x (by simp [hx'])))
theorem law_post {f : Func} {s : ChangeSpec} {fresh handsOn again : Bool} {W W' : World} {args : Array Value} {ds gs : List (DataW H)} {before : List MemPlace} {tb : TypeId}
    (hl : laidOutB P = true) (hts : (f.params.toList.all fun t => P.readableRec t && decide (t < P.types.size)) = true) (hb : P.underlying tb = some .bool) (hres : f.resultTypes = #[tb])
    (hvars : s.vars = []) (hfn : s.fn H (ds ++ gs) = { results := [.lit (.bool true)],args := ds })
    (hW : DataW.Whole enc P f.params.toList s.vars false W args.toList ds gs before) (hx : Ext W W') :
    s.post enc P f false fresh handsOn again W args (.bool true) W' := by
  have hlt : ∀ p ∈ before,p.block < W.heap.size := fun p hp => hW.lt p hp
  have hW' := hW
  obtain ⟨p,q,hA,hV,rfl,hfz,hnd⟩ := hW
  rw [hvars] at hV
  obtain ⟨rfl,rfl⟩ := trodVars_none hV
  rw [List.append_nil] at *
  refine post_ext (pa := p) (pv := []) hW' (fun b sp hd => ?_) (fun sp hs => ?_) (fun sp hs => ?_) (by simp) hx (fun j t r hj hv => ?_)
  · rw [hres, List.append_nil, hfn]
    exact trodAll_cons_mk (shut_bool hb _) trodAll_mk0
  · rw [List.append_nil, hfn]
    exact stays_all hl hx hA hts hlt hs
  · rw [List.append_nil,hfn,hvars]; rfl
  · rw [hres] at hj hv
    match j,hj,hv with
    | 0,hj,hv =>
      simp [Value.resultList] at hj hv
      subst hj; subst hv
      exact okWide_bool_mk hb _
theorem rd_of {W : World} {a : Addr} {n c : Nat} {l : List Value} {es : Nat} (hn : n ≤ c) (hl : l.length = n * es) (hc : ∀ i,i < l.length → W.cell? (a.add i) = l[i]?) : RdAt W es (.slice (some a) n c) l := by
  refine ⟨some a,n,c,rfl,hn,hl,fun i u hu => ?_⟩
  have hi := (List.getElem?_eq_some_iff.1 hu).1
  have h0 := hc 0 (by omega)
  have hs : a.spot = none := by
    rw [List.getElem?_eq_getElem (by omega)] at h0
    simp only [Addr.add,if_pos] at h0
    cases hsp : a.spot with
    | none => rfl
    | some x =>
      exfalso
      unfold World.cell? at h0
      rw [hsp] at h0
      cases hb : W.heap[a.block]? with
      | none => rw [hb] at h0; cases h0
      | some o => rw [hb] at h0; cases o <;> simp at h0
  obtain ⟨b,o,s⟩ := a
  simp only at hs
  subst hs
  refine ⟨b,o,rfl,?_⟩
  rw [← hu,← hc i hi,add_mk]
end Go.Vk
end
section
namespace Go.Vk
end Go.Vk
end
section
namespace Go.Vk
end Go.Vk
end
section
namespace Go.Proofs.YtgnnlaeikcnhcaaGreatDoor
open Go Go.Vk
theorem eq94 (s t : ByteArray) (w : World) : (Op.equalIn 10000 34 (.agg #[.string s,.string t]) (.agg #[.string s,.string t])).run Tryz.prog w = .ok true w := by
  have hS : Tryz.prog.underlying 34 = some (.struct (Tryz.prog.fieldsOf 34)) := by kernel_rfl
  have hp : Tryz.prog.stoodInHeld 34 = false := by kernel_rfl
  rw [show (10000 : Nat) = 9998 + 1 + 1 from rfl,run_equalIn_agg w (9998 + 1) 34 _ _ hS hp]
  simp only [Program.fieldsOf,Tryz.underlying34]
  simp [Op.eqFields,part,Tryz.sizeOf9,run_equalIn_string _ 9998 9 _ _ Tryz.underlying9,Sem.run]
theorem neq94 {o1 o2 : Operand} (s t : ByteArray) (w : World) (K : Value → World → Prop) : Pure1 Tryz.prog (do eqGuard .neq 34 o1 o2 (.agg #[.string s,.string t]) (.agg #[.string s,.string t]); binOp .neq 34 (.agg #[.string s,.string t]) (.agg #[.string s,.string t])) w K = K (.bool false) w :=
  Pure1_eq (fun w => by
    rw [Sem.run_bind,run_eqGuard_agg w .neq 34 o1 o2 _ _ (by kernel_rfl),Result.andThen_ok,run_neq_struct,eq94]; rfl) w K
set_option maxHeartbeats 40000000
theorem nds_all {w : World} {b o n c : Nat} {T : List Laid} {bo : Option Nat} (h : NdsAt w (.slice (some ⟨b,o,none⟩) n c) T bo) {i : Nat} {m : Laid} (hm : T[i]? = some m) :
    w.cell? ⟨b,o + i * 11,none⟩ = some (.int .i64 m.nd.kind) ∧ w.cell? ⟨b,o + i * 11 + 1,none⟩ = some (.string m.nd.name) ∧ w.cell? ⟨b,o + i * 11 + 2,none⟩ = some (.string m.nd.text) ∧ w.cell? ⟨b,o + i * 11 + 3,none⟩ = some (.int .i64 m.nd.space) ∧ w.cell? ⟨b,o + i * 11 + 4,none⟩ = some m.av ∧ w.cell? ⟨b,o + i * 11 + 5,none⟩ = some (.bool m.nd.dup) ∧ w.cell? ⟨b,o + i * 11 + 6,none⟩ = some (.int .i64 m.nd.parent) ∧ w.cell? ⟨b,o + i * 11 + 7,none⟩ = some (.int .i64 m.nd.content) ∧ w.cell? ⟨b,o + i * 11 + 8,none⟩ = some m.kv ∧ w.cell? ⟨b,o + i * 11 + 9,none⟩ = some (.int .i64 m.nd.frm) ∧ w.cell? ⟨b,o + i * 11 + 10,none⟩ = some (.int .i64 m.nd.to) :=
  ⟨h.get hm (j := 0) (by decide),h.get hm (j := 1) (by decide),h.get hm (j := 2) (by decide),h.get hm (j := 3) (by decide),h.get hm (j := 4) (by decide),h.get hm (j := 5) (by decide),h.get hm (j := 6) (by decide),h.get hm (j := 7) (by decide),h.get hm (j := 8) (by decide),h.get hm (j := 9) (by decide),h.get hm (j := 10) (by decide)⟩
end Go.Proofs.YtgnnlaeikcnhcaaGreatDoor
end
section
namespace Go.Vk
end Go.Vk
end
