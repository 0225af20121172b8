/- What the proof leans on, part 10 of 11. -/
import Derived.Test.YtgnnlaeikcnhcaaGreatDoorQHeadsBodyI
section
set_option linter.unusedSimpArgs false
set_option linter.unusedVariables false
namespace Go.Proofs.YtgnnlaeikcnhcaaGreatDoor
open Go Go.Vk
set_option maxHeartbeats 40000000
section
variable {w0 w : World} {Q : Nat → Prop} {pb ps pl pa : Nat} {b : BSt}
theorem afterHead_c (h : BuAt w0 w Q pb ps pl pa b) (hO : HdO 6 b) (hg : GB w0) (hM : MaxAt w0) (hQl : ∀ q, Q q → q < w.heap.size) {t : HTok} {av : Value} (ha0 : RdAt w0 2 av (attrCells t.attrs)) (ht : SmT t) :
    Gives Tryz.prog 292 #[.pointer (some ⟨pb, 0, none⟩), .agg (t.row av)] w fun v w' => v = .bool (afterH b t).2 ∧ BuAt w0 w' Q pb ps pl pa (afterH b t).1 ∧ Upd (AF w0 Q) w w' := by
  have ha := ha0.ext h.out
  obtain ⟨xa, xn, xc, eav, _⟩ := id ha
  subst eav
  have hrow : t.row (.slice xa xn xc) = #[.int .i64 t.kind, .string t.name, .string t.text, .slice xa xn xc, .bool t.dup, .bool t.self, .bool t.quirks, .int .i64 t.frm, .int .i64 t.to] := rfl
  have hx := Ext.alloc w (.cells (t.row (.slice xa xn xc)) 37)
  have hp : (w.alloc (.cells (t.row (.slice xa xn xc)) 37)).heap[w.heap.size]? = some (.cells (t.row (.slice xa xn xc)) 37 (0, 0)) := by rw [heap_alloc_h, if_pos rfl]
  obtain ⟨r, hr⟩ : ∃ r, r = afterH b t := ⟨_, rfl⟩
  rw [← hr]
  unfold afterH at hr
  have hL := hO.L
  have hok := hO.ok
  refine Gives.of_W Tryz.call292 Tryz.func292 rfl Tryz.ntmps292 (by simp) ?_; intro Z hZ
  (repeat first|(with_reducible first|(refine hK _ _ ?_;clear hK K)|refine ‹∀σ w,_→K σ w› _ _ ?_|(refine W_st ?_;constructor;try intro K hK))|((with_reducible first|refine hZ _ _ ?_|refine W_rg ?_|skip);repeat1' simp only[push_cast,seval,-Nat.reduceSubDiff,vcells_agg])|((repeat((fail_if_success with_reducible refine hK _ _ ?_);clear hK K));with_reducible refine hK _ _ ?_;clear hK K))
  generalize w.alloc (.cells (t.row (.slice xa xn xc)) 37) = w1 at *
  obtain ⟨p, hpe⟩ : ∃ p, p = w.heap.size := ⟨_, rfl⟩
  rw [← hpe] at hp ⊢
  rw [hrow] at hp
  have h1 := h.pass hx
  have hx1 := hx
  have hp1 := hp
  by_cases k5 : t.kind = 5
  · have k5' := eq_true k5
    rw [if_pos k5] at hr
    (repeat first|(with_reducible first|(refine hK _ _ ?_;clear hK K)|refine ‹∀σ w,_→K σ w› _ _ ?_|(refine W_st ?_;constructor;try intro K hK))|((with_reducible first|refine hZ _ _ ?_|refine W_rg ?_|skip);repeat1' simp only[push_cast,seval,-Nat.reduceSubDiff,cell_h,cellO_cells,hp1,k5'])|((repeat((fail_if_success with_reducible refine hK _ _ ?_);clear hK K));with_reducible refine hK _ _ ?_;clear hK K))
    refine (bchars_c h1 hok t.text ht.2.1 hO.txt).mono ?_
    rintro v w2 ⟨h2, hu2⟩
    (repeat first|(with_reducible first|(refine hK _ _ ?_;clear hK K)|refine ‹∀σ w,_→K σ w› _ _ ?_|(refine W_st ?_;constructor;try intro K hK))|((with_reducible first|refine hZ _ _ ?_|refine W_rg ?_|skip);repeat1' simp only[push_cast,seval,-Nat.reduceSubDiff])|((repeat((fail_if_success with_reducible refine hK _ _ ?_);clear hK K));with_reducible refine hK _ _ ?_;clear hK K))
    exact ⟨by rw [hr], by rw [hr]; exact h2, Upd.trans (hx1.upd) hu2 fun _ _ h => h⟩
  have k5' := eq_false k5
  rw [if_neg k5] at hr
  by_cases k4 : t.kind = 4
  · have k4' := eq_true k4
    rw [if_pos k4] at hr
    (repeat first|(with_reducible first|(refine hK _ _ ?_;clear hK K)|refine ‹∀σ w,_→K σ w› _ _ ?_|(refine W_st ?_;constructor;try intro K hK))|((with_reducible first|refine hZ _ _ ?_|refine W_rg ?_|skip);repeat1' simp only[push_cast,seval,-Nat.reduceSubDiff,cell_h,cellO_cells,hp1,k5',k4'])|((repeat((fail_if_success with_reducible refine hK _ _ ?_);clear hK K));with_reducible refine hK _ _ ?_;clear hK K))
    rw [← hrow]
    refine (bcomment_c h1 hok (by omega) (fun q hq => by have := hQl q hq; have := hx1.sz; omega) t (-1)).mono ?_
    rintro v w2 ⟨h2, hu2⟩
    (repeat first|(with_reducible first|(refine hK _ _ ?_;clear hK K)|refine ‹∀σ w,_→K σ w› _ _ ?_|(refine W_st ?_;constructor;try intro K hK))|((with_reducible first|refine hZ _ _ ?_|refine W_rg ?_|skip);repeat1' simp only[push_cast,seval,-Nat.reduceSubDiff])|((repeat((fail_if_success with_reducible refine hK _ _ ?_);clear hK K));with_reducible refine hK _ _ ?_;clear hK K))
    exact ⟨by rw [hr], by rw [hr]; exact h2, Upd.trans (hx1.upd) hu2 fun _ _ h => h⟩
  have k4' := eq_false k4
  rw [if_neg k4] at hr
  by_cases k1 : t.kind = 1
  · have k1' := eq_true k1
    rw [if_pos (.inl k1)] at hr
    (repeat first|(with_reducible first|(refine hK _ _ ?_;clear hK K)|refine ‹∀σ w,_→K σ w› _ _ ?_|(refine W_st ?_;constructor;try intro K hK))|((with_reducible first|refine hZ _ _ ?_|refine W_rg ?_|skip);repeat1' simp only[push_cast,seval,-Nat.reduceSubDiff,cell_h,cellO_cells,hp1,k5',k4',k1'])|((repeat((fail_if_success with_reducible refine hK _ _ ?_);clear hK K));with_reducible refine hK _ _ ?_;clear hK K))
    exact ⟨by rw [hr], by rw [hr]; exact h1, hx1.upd⟩
  have k1' := eq_false k1
  (repeat first|(with_reducible first|(refine hK _ _ ?_;clear hK K)|refine ‹∀σ w,_→K σ w› _ _ ?_|(refine W_st ?_;constructor;try intro K hK))|((with_reducible first|refine hZ _ _ ?_|refine W_rg ?_|skip);repeat1' simp only[push_cast,seval,-Nat.reduceSubDiff,cell_h,cellO_cells,hp1,k5',k4',k1'])|((repeat((fail_if_success with_reducible refine hK _ _ ?_);clear hK K));with_reducible refine hK _ _ ?_;clear hK K))
  refine bsl (l := lHF) rfl (by decide) (by decide) (by kernel_rfl) ?_
  rintro v w2 hy2 hn2 ⟨bn2, rfl⟩
  (repeat first|(with_reducible first|(refine hK _ _ ?_;clear hK K)|refine ‹∀σ w,_→K σ w› _ _ ?_|(refine W_st ?_;constructor;try intro K hK))|((with_reducible first|refine hZ _ _ ?_|refine W_rg ?_|skip);repeat1' simp only[push_cast,seval,-Nat.reduceSubDiff])|((repeat((fail_if_success with_reducible refine hK _ _ ?_);clear hK K));with_reducible refine hK _ _ ?_;clear hK K))
  rw [← hrow]
  refine (hstart_c hn2 (by decide)).mono ?_
  rintro v w3 ⟨rfl, hy3⟩
  have hx3 := (hx1.trans hy2).trans hy3
  have hp3 := (hy2.trans hy3).blk hp1
  have h3 := h1.pass (hy2.trans hy3)
  by_cases s1 : startT t lHF = true
  · rw [if_pos (.inr s1)] at hr
    (repeat first|(with_reducible first|(refine hK _ _ ?_;clear hK K)|refine ‹∀σ w,_→K σ w› _ _ ?_|(refine W_st ?_;constructor;try intro K hK))|((with_reducible first|refine hZ _ _ ?_|refine W_rg ?_|skip);repeat1' simp only[push_cast,seval,-Nat.reduceSubDiff,cell_h,cellO_cells,hp3,s1])|((repeat((fail_if_success with_reducible refine hK _ _ ?_);clear hK K));with_reducible refine hK _ _ ?_;clear hK K))
    exact ⟨by rw [hr], by rw [hr]; exact h3, hx3.upd⟩
  rw [if_neg (fun h => h.elim k1 s1)] at hr
  have s1' := eq_false_of_ne_true s1
  (repeat first|(with_reducible first|(refine hK _ _ ?_;clear hK K)|refine ‹∀σ w,_→K σ w› _ _ ?_|(refine W_st ?_;constructor;try intro K hK))|((with_reducible first|refine hZ _ _ ?_|refine W_rg ?_|skip);repeat1' simp only[push_cast,seval,-Nat.reduceSubDiff,cell_h,cellO_cells,hp3,s1'])|((repeat((fail_if_success with_reducible refine hK _ _ ?_);clear hK K));with_reducible refine hK _ _ ?_;clear hK K))
  refine bsl (l := lHtml) rfl (by decide) (by decide) (by kernel_rfl) ?_
  rintro v w4 hy4 hn4 ⟨bn4, rfl⟩
  (repeat first|(with_reducible first|(refine hK _ _ ?_;clear hK K)|refine ‹∀σ w,_→K σ w› _ _ ?_|(refine W_st ?_;constructor;try intro K hK))|((with_reducible first|refine hZ _ _ ?_|refine W_rg ?_|skip);repeat1' simp only[push_cast,seval,-Nat.reduceSubDiff])|((repeat((fail_if_success with_reducible refine hK _ _ ?_);clear hK K));with_reducible refine hK _ _ ?_;clear hK K))
  rw [← hrow]
  refine (hstart_c hn4 (by decide)).mono ?_
  rintro v w5 ⟨rfl, hy5⟩
  have hx5 := (hx3.trans hy4).trans hy5
  have hp5 := (hy4.trans hy5).blk hp3
  have h5 := h3.pass (hy4.trans hy5)
  by_cases s2 : startT t lHtml = true
  · rw [if_pos s2] at hr
    (repeat first|(with_reducible first|(refine hK _ _ ?_;clear hK K)|refine ‹∀σ w,_→K σ w› _ _ ?_|(refine W_st ?_;constructor;try intro K hK))|((with_reducible first|refine hZ _ _ ?_|refine W_rg ?_|skip);repeat1' simp only[push_cast,seval,-Nat.reduceSubDiff,cell_h,cellO_cells,hp5,s2])|((repeat((fail_if_success with_reducible refine hK _ _ ?_);clear hK K));with_reducible refine hK _ _ ?_;clear hK K))
    rw [← hrow]
    refine (bmore_c h5 hok (fun q hq => by have := hQl q hq; have := hx5.sz; omega) ha0 ht.2.2).mono ?_
    rintro v w6 ⟨h6, hu6⟩
    (repeat first|(with_reducible first|(refine hK _ _ ?_;clear hK K)|refine ‹∀σ w,_→K σ w› _ _ ?_|(refine W_st ?_;constructor;try intro K hK))|((with_reducible first|refine hZ _ _ ?_|refine W_rg ?_|skip);repeat1' simp only[push_cast,seval,-Nat.reduceSubDiff])|((repeat((fail_if_success with_reducible refine hK _ _ ?_);clear hK K));with_reducible refine hK _ _ ?_;clear hK K))
    exact ⟨by rw [hr], by rw [hr]; exact h6, Upd.trans (hx5.upd) hu6 fun _ _ h => h⟩
  rw [if_neg s2] at hr
  have s2' := eq_false_of_ne_true s2
  (repeat first|(with_reducible first|(refine hK _ _ ?_;clear hK K)|refine ‹∀σ w,_→K σ w› _ _ ?_|(refine W_st ?_;constructor;try intro K hK))|((with_reducible first|refine hZ _ _ ?_|refine W_rg ?_|skip);repeat1' simp only[push_cast,seval,-Nat.reduceSubDiff,cell_h,cellO_cells,hp5,s2'])|((repeat((fail_if_success with_reducible refine hK _ _ ?_);clear hK K));with_reducible refine hK _ _ ?_;clear hK K))
  refine bsl (l := lBody) rfl (by decide) (by decide) (by kernel_rfl) ?_
  rintro v w6 hy6 hn6 ⟨bn6, rfl⟩
  (repeat first|(with_reducible first|(refine hK _ _ ?_;clear hK K)|refine ‹∀σ w,_→K σ w› _ _ ?_|(refine W_st ?_;constructor;try intro K hK))|((with_reducible first|refine hZ _ _ ?_|refine W_rg ?_|skip);repeat1' simp only[push_cast,seval,-Nat.reduceSubDiff])|((repeat((fail_if_success with_reducible refine hK _ _ ?_);clear hK K));with_reducible refine hK _ _ ?_;clear hK K))
  rw [← hrow]
  refine (hstart_c hn6 (by decide)).mono ?_
  rintro v w7 ⟨rfl, hy7⟩
  have hx7 := (hx5.trans hy6).trans hy7
  have hp7 := (hy6.trans hy7).blk hp5
  have h7 := h5.pass (hy6.trans hy7)
  by_cases s3 : startT t lBody = true
  · rw [if_pos s3] at hr
    (repeat first|(with_reducible first|(refine hK _ _ ?_;clear hK K)|refine ‹∀σ w,_→K σ w› _ _ ?_|(refine W_st ?_;constructor;try intro K hK))|((with_reducible first|refine hZ _ _ ?_|refine W_rg ?_|skip);repeat1' simp only[push_cast,seval,-Nat.reduceSubDiff,cell_h,cellO_cells,hp7,s3])|((repeat((fail_if_success with_reducible refine hK _ _ ?_);clear hK K));with_reducible refine hK _ _ ?_;clear hK K))
    rw [← hrow]
    refine (binsert_c h7 hok (by omega) (fun q hq => by have := hQl q hq; have := hx7.sz; omega) (ha.ext hx7) ht.2.2 0).mono ?_
    rintro v w8 ⟨rfl, h8, hu8⟩
    (repeat first|(with_reducible first|(refine hK _ _ ?_;clear hK K)|refine ‹∀σ w,_→K σ w› _ _ ?_|(refine W_st ?_;constructor;try intro K hK))|((with_reducible first|refine hZ _ _ ?_|refine W_rg ?_|skip);repeat1' simp only[push_cast,seval,-Nat.reduceSubDiff])|((repeat((fail_if_success with_reducible refine hK _ _ ?_);clear hK K));with_reducible refine hK _ _ ?_;clear hK K))
    refine (bset_c h8 6).mono ?_
    rintro v w9 ⟨h9, hu9⟩
    (repeat first|(with_reducible first|(refine hK _ _ ?_;clear hK K)|refine ‹∀σ w,_→K σ w› _ _ ?_|(refine W_st ?_;constructor;try intro K hK))|((with_reducible first|refine hZ _ _ ?_|refine W_rg ?_|skip);repeat1' simp only[push_cast,seval,-Nat.reduceSubDiff])|((repeat((fail_if_success with_reducible refine hK _ _ ?_);clear hK K));with_reducible refine hK _ _ ?_;clear hK K))
    exact ⟨by rw [hr], by rw [hr]; exact h9, Upd.trans (Upd.trans (hx7.upd) hu8 fun _ _ h => h) hu9 fun _ _ h => h⟩
  rw [if_neg s3] at hr
  have s3' := eq_false_of_ne_true s3
  (repeat first|(with_reducible first|(refine hK _ _ ?_;clear hK K)|refine ‹∀σ w,_→K σ w› _ _ ?_|(refine W_st ?_;constructor;try intro K hK))|((with_reducible first|refine hZ _ _ ?_|refine W_rg ?_|skip);repeat1' simp only[push_cast,seval,-Nat.reduceSubDiff,cell_h,cellO_cells,hp7,s3'])|((repeat((fail_if_success with_reducible refine hK _ _ ?_);clear hK K));with_reducible refine hK _ _ ?_;clear hK K))
  refine bsl (l := lTem) rfl (by decide) (by decide) (by kernel_rfl) ?_
  rintro v w8 hy8 hn8 ⟨bn8, rfl⟩
  (repeat first|(with_reducible first|(refine hK _ _ ?_;clear hK K)|refine ‹∀σ w,_→K σ w› _ _ ?_|(refine W_st ?_;constructor;try intro K hK))|((with_reducible first|refine hZ _ _ ?_|refine W_rg ?_|skip);repeat1' simp only[push_cast,seval,-Nat.reduceSubDiff])|((repeat((fail_if_success with_reducible refine hK _ _ ?_);clear hK K));with_reducible refine hK _ _ ?_;clear hK K))
  rw [← hrow]
  refine (hend_c hn8 (by decide)).mono ?_
  rintro v w9 ⟨rfl, hy9⟩
  have hx9 := (hx7.trans hy8).trans hy9
  have hp9 := (hy8.trans hy9).blk hp7
  have h9 := h7.pass (hy8.trans hy9)
  by_cases s4 : endT t lTem = true
  · rw [if_pos s4] at hr
    (repeat first|(with_reducible first|(refine hK _ _ ?_;clear hK K)|refine ‹∀σ w,_→K σ w› _ _ ?_|(refine W_st ?_;constructor;try intro K hK))|((with_reducible first|refine hZ _ _ ?_|refine W_rg ?_|skip);repeat1' simp only[push_cast,seval,-Nat.reduceSubDiff,cell_h,cellO_cells,hp9,s4])|((repeat((fail_if_success with_reducible refine hK _ _ ?_);clear hK K));with_reducible refine hK _ _ ?_;clear hK K))
    rw [← hrow]
    refine (head_c h9 (hO.mono (by decide)) hg hM (fun q hq => by have := hQl q hq; have := hx9.sz; omega) ha0 ht).mono ?_
    rintro v w10 ⟨rfl, h10, hu10⟩
    (repeat first|(with_reducible first|(refine hK _ _ ?_;clear hK K)|refine ‹∀σ w,_→K σ w› _ _ ?_|(refine W_st ?_;constructor;try intro K hK))|((with_reducible first|refine hZ _ _ ?_|refine W_rg ?_|skip);repeat1' simp only[push_cast,seval,-Nat.reduceSubDiff])|((repeat((fail_if_success with_reducible refine hK _ _ ?_);clear hK K));with_reducible refine hK _ _ ?_;clear hK K))
    exact ⟨by rw [hr], by rw [hr]; exact h10, Upd.trans (hx9.upd) hu10 fun _ _ h => h⟩
  rw [if_neg s4] at hr
  have s4' := eq_false_of_ne_true s4
  (repeat first|(with_reducible first|(refine hK _ _ ?_;clear hK K)|refine ‹∀σ w,_→K σ w› _ _ ?_|(refine W_st ?_;constructor;try intro K hK))|((with_reducible first|refine hZ _ _ ?_|refine W_rg ?_|skip);repeat1' simp only[push_cast,seval,-Nat.reduceSubDiff,cell_h,cellO_cells,hp9,s4'])|((repeat((fail_if_success with_reducible refine hK _ _ ?_);clear hK K));with_reducible refine hK _ _ ?_;clear hK K))
  rw [← hrow]
  refine hbelongs_c.mono ?_
  rintro v w10 ⟨rfl, hy10⟩
  have hx10 := hx9.trans hy10
  have hp10 := hy10.blk hp9
  have h10 := h9.pass hy10
  by_cases s5 : belT t = true
  · rw [if_pos s5] at hr
    obtain ⟨c0, hc0⟩ : ∃ c, c = (pushB b b.head).1 := ⟨_, rfl⟩
    obtain ⟨c1, hc1⟩ : ∃ c, c = failB c0 (pushB b b.head).2 := ⟨_, rfl⟩
    have e1 : pushedB b b.head = c1 := by rw [hc1, hc0]; rfl
    rw [e1] at hr
    obtain ⟨c2, hc2⟩ : ∃ c, c = ownH c1 t := ⟨_, rfl⟩
    rw [← hc2] at hr
    have O0 : HdO 5 c0 := by rw [hc0]; exact hO.push _
    have O1 : HdO 5 c1 := by rw [hc1]; exact O0.fail _
    have O2 : HdO 0 c2 := by rw [hc2]; exact HdO.own (m := 0) O1 ht
    have lp10 := blk_lt hp10
    have hd : BuAt w0 w10 (fun q => Q q ∨ q = p) pb ps pl pa b := h.more hx10 fun q hq => by
      rcases hq with hq | hq
      · exact .inl hq
      · exact .inr ⟨by omega, by omega⟩
    have hQd : ∀ q, (Q q ∨ q = p) → q < w10.heap.size := by
      intro q hq
      have := hx10.sz
      rcases hq with hq | hq
      · have := hQl q hq; omega
      · omega
    (repeat first|(with_reducible first|(refine hK _ _ ?_;clear hK K)|refine ‹∀σ w,_→K σ w› _ _ ?_|(refine W_st ?_;constructor;try intro K hK))|((with_reducible first|refine hZ _ _ ?_|refine W_rg ?_|skip);repeat1' simp only[push_cast,seval,-Nat.reduceSubDiff,cell_h,cellO_cells,hp10,s5])|((repeat((fail_if_success with_reducible refine hK _ _ ?_);clear hK K));with_reducible refine hK _ _ ?_;clear hK K))
    refine (bstack_c hd).mono ?_
    intro v w' ⟨hv, hw⟩
    subst hv; subst w'
    (repeat first|(with_reducible first|(refine hK _ _ ?_;clear hK K)|refine ‹∀σ w,_→K σ w› _ _ ?_|(refine W_st ?_;constructor;try intro K hK))|((with_reducible first|refine hZ _ _ ?_|refine W_rg ?_|skip);repeat1' simp only[push_cast,seval,-Nat.reduceSubDiff])|((repeat((fail_if_success with_reducible refine hK _ _ ?_);clear hK K));with_reducible refine hK _ _ ?_;clear hK K))
    refine (bhead_c hd).mono ?_
    intro v w' ⟨hv, hw⟩
    subst hv; subst w'
    (repeat first|(with_reducible first|(refine hK _ _ ?_;clear hK K)|refine ‹∀σ w,_→K σ w› _ _ ?_|(refine W_st ?_;constructor;try intro K hK))|((with_reducible first|refine hZ _ _ ?_|refine W_rg ?_|skip);repeat1' simp only[push_cast,seval,-Nat.reduceSubDiff])|((repeat((fail_if_success with_reducible refine hK _ _ ?_);clear hK K));with_reducible refine hK _ _ ?_;clear hK K))
    refine (bpush_c hd hok b.head).mono ?_
    rintro v w11 ⟨rfl, h11, g11⟩
    rw [← hc0] at h11
    have hp11 := (g11.same p lp10 (fun hf => hf.2 (.inr rfl))).trans hp10
    have lp11 := blk_lt hp11
    have hu11 : Upd (AF w0 Q) w10 w11 := g11.mono fun q _ hf => ⟨hf.1, fun hq => hf.2 (.inl hq)⟩
    (repeat first|(with_reducible first|(refine hK _ _ ?_;clear hK K)|refine ‹∀σ w,_→K σ w› _ _ ?_|(refine W_st ?_;constructor;try intro K hK))|((with_reducible first|refine hZ _ _ ?_|refine W_rg ?_|skip);repeat1' simp only[push_cast,seval,-Nat.reduceSubDiff])|((repeat((fail_if_success with_reducible refine hK _ _ ?_);clear hK K));with_reducible refine hK _ _ ?_;clear hK K))
    refine (bfail_c h11 _).mono ?_
    rintro v w12 ⟨h12, g12⟩
    replace h12 : BuAt w0 w12 (fun q => Q q ∨ q = p) pb ps pl pa c1 := hc1 ▸ h12
    have hp12 := (g12.same p lp11 (fun hf => hf.2 (.inr rfl))).trans hp11
    have lp12 := blk_lt hp12
    have hu12 : Upd (AF w0 Q) w11 w12 := g12.mono fun q _ hf => ⟨hf.1, fun hq => hf.2 (.inl hq)⟩
    (repeat first|(with_reducible first|(refine hK _ _ ?_;clear hK K)|refine ‹∀σ w,_→K σ w› _ _ ?_|(refine W_st ?_;constructor;try intro K hK))|((with_reducible first|refine hZ _ _ ?_|refine W_rg ?_|skip);repeat1' simp only[push_cast,seval,-Nat.reduceSubDiff,cell_h,cellO_cells,hp12])|((repeat((fail_if_success with_reducible refine hK _ _ ?_);clear hK K));with_reducible refine hK _ _ ?_;clear hK K))
    rw [← hrow]
    have z11 := g11.alike.size
    have z12 := g12.alike.size
    refine (own_c h12 O1 hg hM (fun q hq => by have := hQd q hq; omega) (ha0.ext h12.out) ht).mono ?_
    rintro v w13 ⟨h13, g13⟩
    rw [← hc2] at h13
    have hp13 := (g13.same p lp12 (fun hf => hf.2 (.inr rfl))).trans hp12
    have lp13 := blk_lt hp13
    have hu13 : Upd (AF w0 Q) w12 w13 := g13.mono fun q _ hf => ⟨hf.1, fun hq => hf.2 (.inl hq)⟩
    (repeat first|(with_reducible first|(refine hK _ _ ?_;clear hK K)|refine ‹∀σ w,_→K σ w› _ _ ?_|(refine W_st ?_;constructor;try intro K hK))|((with_reducible first|refine hZ _ _ ?_|refine W_rg ?_|skip);repeat1' simp only[push_cast,seval,-Nat.reduceSubDiff])|((repeat((fail_if_success with_reducible refine hK _ _ ?_);clear hK K));with_reducible refine hK _ _ ?_;clear hK K))
    refine (bstack_c h13).mono ?_
    intro v w' ⟨hv, hw⟩
    subst hv; subst w'
    (repeat first|(with_reducible first|(refine hK _ _ ?_;clear hK K)|refine ‹∀σ w,_→K σ w› _ _ ?_|(refine W_st ?_;constructor;try intro K hK))|((with_reducible first|refine hZ _ _ ?_|refine W_rg ?_|skip);repeat1' simp only[push_cast,seval,-Nat.reduceSubDiff])|((repeat((fail_if_success with_reducible refine hK _ _ ?_);clear hK K));with_reducible refine hK _ _ ?_;clear hK K))
    refine (bhead_c h13).mono ?_
    intro v w' ⟨hv, hw⟩
    subst hv; subst w'
    (repeat first|(with_reducible first|(refine hK _ _ ?_;clear hK K)|refine ‹∀σ w,_→K σ w› _ _ ?_|(refine W_st ?_;constructor;try intro K hK))|((with_reducible first|refine hZ _ _ ?_|refine W_rg ?_|skip);repeat1' simp only[push_cast,seval,-Nat.reduceSubDiff])|((repeat((fail_if_success with_reducible refine hK _ _ ?_);clear hK K));with_reducible refine hK _ _ ?_;clear hK K))
    refine (bsrem_c h13 O2.ok c2.head).mono ?_
    rintro v w14 ⟨rfl, h14, g14⟩
    have hp14 := (g14.same p lp13 (fun hf => hf.2 (.inr rfl))).trans hp13
    have lp14 := blk_lt hp14
    have hu14 : Upd (AF w0 Q) w13 w14 := g14.mono fun q _ hf => ⟨hf.1, fun hq => hf.2 (.inl hq)⟩
    (repeat first|(with_reducible first|(refine hK _ _ ?_;clear hK K)|refine ‹∀σ w,_→K σ w› _ _ ?_|(refine W_st ?_;constructor;try intro K hK))|((with_reducible first|refine hZ _ _ ?_|refine W_rg ?_|skip);repeat1' simp only[push_cast,seval,-Nat.reduceSubDiff])|((repeat((fail_if_success with_reducible refine hK _ _ ?_);clear hK K));with_reducible refine hK _ _ ?_;clear hK K))
    exact ⟨by rw [hr], by rw [hr]; exact h14.less fun q hq => .inl hq, Upd.trans (Upd.trans (Upd.trans (Upd.trans hx10.upd hu11 fun _ _ h => h) hu12 fun _ _ h => h) hu13 fun _ _ h => h) hu14 fun _ _ h => h⟩
  rw [if_neg s5] at hr
  have s5' := eq_false_of_ne_true s5
  (repeat first|(with_reducible first|(refine hK _ _ ?_;clear hK K)|refine ‹∀σ w,_→K σ w› _ _ ?_|(refine W_st ?_;constructor;try intro K hK))|((with_reducible first|refine hZ _ _ ?_|refine W_rg ?_|skip);repeat1' simp only[push_cast,seval,-Nat.reduceSubDiff,cell_h,cellO_cells,hp10,s5'])|((repeat((fail_if_success with_reducible refine hK _ _ ?_);clear hK K));with_reducible refine hK _ _ ?_;clear hK K))
  rw [← hrow]
  refine hstrange_c.mono ?_
  rintro v w11 ⟨rfl, hy11⟩
  have hx11 := hx10.trans hy11
  have hp11 := hy11.blk hp10
  have h11 := h10.pass hy11
  by_cases s6 : strT t = true
  · rw [if_pos (.inl s6)] at hr
    (repeat first|(with_reducible first|(refine hK _ _ ?_;clear hK K)|refine ‹∀σ w,_→K σ w› _ _ ?_|(refine W_st ?_;constructor;try intro K hK))|((with_reducible first|refine hZ _ _ ?_|refine W_rg ?_|skip);repeat1' simp only[push_cast,seval,-Nat.reduceSubDiff,cell_h,cellO_cells,hp11,s6])|((repeat((fail_if_success with_reducible refine hK _ _ ?_);clear hK K));with_reducible refine hK _ _ ?_;clear hK K))
    exact ⟨by rw [hr], by rw [hr]; exact h11, hx11.upd⟩
  have s6' := eq_false_of_ne_true s6
  (repeat first|(with_reducible first|(refine hK _ _ ?_;clear hK K)|refine ‹∀σ w,_→K σ w› _ _ ?_|(refine W_st ?_;constructor;try intro K hK))|((with_reducible first|refine hZ _ _ ?_|refine W_rg ?_|skip);repeat1' simp only[push_cast,seval,-Nat.reduceSubDiff,cell_h,cellO_cells,hp11,s6'])|((repeat((fail_if_success with_reducible refine hK _ _ ?_);clear hK K));with_reducible refine hK _ _ ?_;clear hK K))
  refine bsl (l := lHead) rfl (by decide) (by decide) (by kernel_rfl) ?_
  rintro v w12 hy12 hn12 ⟨bn12, rfl⟩
  (repeat first|(with_reducible first|(refine hK _ _ ?_;clear hK K)|refine ‹∀σ w,_→K σ w› _ _ ?_|(refine W_st ?_;constructor;try intro K hK))|((with_reducible first|refine hZ _ _ ?_|refine W_rg ?_|skip);repeat1' simp only[push_cast,seval,-Nat.reduceSubDiff])|((repeat((fail_if_success with_reducible refine hK _ _ ?_);clear hK K));with_reducible refine hK _ _ ?_;clear hK K))
  rw [← hrow]
  refine (hend_c hn12 (by decide)).mono ?_
  rintro v w13 ⟨rfl, hy13⟩
  have hx13 := (hx11.trans hy12).trans hy13
  have hp13 := (hy12.trans hy13).blk hp11
  have h13 := h11.pass (hy12.trans hy13)
  by_cases s7 : endT t lHead = true
  · rw [if_pos (.inr s7)] at hr
    (repeat first|(with_reducible first|(refine hK _ _ ?_;clear hK K)|refine ‹∀σ w,_→K σ w› _ _ ?_|(refine W_st ?_;constructor;try intro K hK))|((with_reducible first|refine hZ _ _ ?_|refine W_rg ?_|skip);repeat1' simp only[push_cast,seval,-Nat.reduceSubDiff,cell_h,cellO_cells,hp13,s7])|((repeat((fail_if_success with_reducible refine hK _ _ ?_);clear hK K));with_reducible refine hK _ _ ?_;clear hK K))
    exact ⟨by rw [hr], by rw [hr]; exact h13, hx13.upd⟩
  rw [if_neg (fun h => h.elim s6 s7)] at hr
  have s7' := eq_false_of_ne_true s7
  (repeat first|(with_reducible first|(refine hK _ _ ?_;clear hK K)|refine ‹∀σ w,_→K σ w› _ _ ?_|(refine W_st ?_;constructor;try intro K hK))|((with_reducible first|refine hZ _ _ ?_|refine W_rg ?_|skip);repeat1' simp only[push_cast,seval,-Nat.reduceSubDiff,cell_h,cellO_cells,hp13,s7'])|((repeat((fail_if_success with_reducible refine hK _ _ ?_);clear hK K));with_reducible refine hK _ _ ?_;clear hK K))
  refine (bimply_c h13 hok (by omega) (fun q hq => by have := hQl q hq; have := hx13.sz; omega) _).mono ?_
  rintro v w14 ⟨rfl, h14, hu14⟩
  (repeat first|(with_reducible first|(refine hK _ _ ?_;clear hK K)|refine ‹∀σ w,_→K σ w› _ _ ?_|(refine W_st ?_;constructor;try intro K hK))|((with_reducible first|refine hZ _ _ ?_|refine W_rg ?_|skip);repeat1' simp only[push_cast,seval,-Nat.reduceSubDiff])|((repeat((fail_if_success with_reducible refine hK _ _ ?_);clear hK K));with_reducible refine hK _ _ ?_;clear hK K))
  refine (bset_c h14 6).mono ?_
  rintro v w15 ⟨h15, hu15⟩
  (repeat first|(with_reducible first|(refine hK _ _ ?_;clear hK K)|refine ‹∀σ w,_→K σ w› _ _ ?_|(refine W_st ?_;constructor;try intro K hK))|((with_reducible first|refine hZ _ _ ?_|refine W_rg ?_|skip);repeat1' simp only[push_cast,seval,-Nat.reduceSubDiff])|((repeat((fail_if_success with_reducible refine hK _ _ ?_);clear hK K));with_reducible refine hK _ _ ?_;clear hK K))
  exact ⟨by rw [hr], by rw [hr]; exact h15, Upd.trans (Upd.trans (hx13.upd) hu14 fun _ _ h => h) hu15 fun _ _ h => h⟩
end
end Go.Proofs.YtgnnlaeikcnhcaaGreatDoor
end
section
set_option linter.unusedSimpArgs false
set_option linter.unusedVariables false
namespace Go.Vk
open Go
theorem byN_at {H : Type} (s : ByteArray) (zd : DataW H) : (DataW.map (byL.map fun x => ((Lit.string x.1.data.toList : Lit), (DataW.lit (.int .i64 x.2) : DataW H)))).atKey (.string s.data.toList) zd = (match byN s with | some n => .lit (.int .i64 n) | none => zd) := by
  unfold DataW.atKey byN
  simp only [List.find?_map, Function.comp_def, Lit.sameKey]
  have e : (fun x : ByteArray × Int => x.1.data.toList == s.data.toList) = fun x => decide (x.1 = s) := by
    funext x
    by_cases h : x.1 = s
    · simp [h]
    · have : x.1.data.toList ≠ s.data.toList := fun h2 => h (ByteArray.ext (Array.toList_inj.1 h2))
      simp only [h, decide_false, beq_eq_false_iff_ne, ne_eq]
      exact this
  rw [e]
  cases byL.find? fun x => decide (x.1 = s) <;> rfl
end Go.Vk
namespace Go.Proofs.YtgnnlaeikcnhcaaGreatDoor
open Go Go.Vk Go.WideElems Go.ChangeMaps
open Go.WideMaps (string_law keyOf_string_mk)
theorem gBy : Tryz.prog.globalNamed "lazaret/builder.by" = some 2 := by kernel_rfl
theorem gByT : (Tryz.prog.globals[2]?).map (·.type) = some 170 := by kernel_rfl
theorem by_laid {H : Type} : (Rows.laid_lazaret_builder_by : DataW H) = .map (byL.map fun x => ((Lit.string x.1.data.toList : Lit), (DataW.lit (.int .i64 x.2) : DataW H))) := rfl
theorem keysS : Go.WideMaps.KeyLaw Tryz.prog 9 := string_law Tryz.underlying9
theorem gb_of_var {W : World} {cs : Array Value} {sp : Nat → Bool} {held : Bool} {fuel : Nat} {x : List MemPlace} {enc : TypeId × Value → Unit}
    (hvar : W.var? Tryz.prog "lazaret/builder.by" = some cs) (hd : DataW.trod enc Tryz.prog W 0 sp held fuel 170 cs.toList = some (Rows.laid_lazaret_builder_by, x)) : GB W := by
  rcases WideElems.open_map Tryz.underlying170 hd with ⟨_, hx⟩ | ⟨bm, es, clock, m, rfl, hcs, hb, _, F, hx⟩
  · simp [by_laid] at hx
  simp only [Prod.mk.injEq] at hx
  have hcell : W.cell? ⟨2, 0, none⟩ = some (.map (some bm)) := by
    have := World.var?_cell gBy hvar 0
    rw [Array.eq_one_of_toList hcs] at this
    simpa using this
  refine ⟨bm, hcell, fun w' hx' s hs => ?_⟩
  have hb' : w'.heap[bm]? = some (.map es clock) := by
    have hlt : bm < W.heap.size := (Array.getElem?_eq_some_iff.1 hb).1
    rw [← hb]
    exact hx'.blk hb ▸ hb.symm
  have zero : (zeroValue 3).run Tryz.prog w' = .ok (.int .i64 0) w' := by kernel_rfl
  have hk := keyOf_string_mk (s := s) (P := Tryz.prog) Tryz.underlying9 (by unfold maxLen; omega)
  rcases fit_lookup_ok (w := w') keysS Tryz.underlying170 zero hb' F hk with ⟨hrun, hat⟩ | ⟨v, y, hrun, hRv, hat, _⟩
  · have := hat .nil
    rw [← hx.1, by_laid, byN_at] at this
    cases hn : byN s with
    | none => exact hrun
    | some n => rw [hn] at this; cases this
  · obtain ⟨r, rfl, rfl, _⟩ := elemAt_int Tryz.underlying3 hRv
    have := hat .nil
    rw [← hx.1, by_laid, byN_at] at this
    cases hn : byN s with
    | none => rw [hn] at this; cases this
    | some n =>
      rw [hn] at this
      cases this
      exact hrun
end Go.Proofs.YtgnnlaeikcnhcaaGreatDoor
end
section
set_option linter.unusedSimpArgs false
set_option linter.unusedVariables false
namespace Go.Proofs.YtgnnlaeikcnhcaaGreatDoor
open Go Go.Vk Go.WideElems Go.Maps
def stepF (k : Int) : Option FuncId := if k = 0 then some 288 else if k = 1 then some 289 else if k = 2 then some 290 else if k = 3 then some 61 else if k = 4 then some 291 else if k = 5 then some 292 else if k = 7 then some 293 else none
def stepV (k : Int) : Value := match stepF k with | some f => .func (.func f) #[] #[] | none => .nilFunc
theorem gSt : Tryz.prog.globalNamed "lazaret/heads.steps" = some 0 := by kernel_rfl
theorem gStT : (Tryz.prog.globals[0]?).map (·.type) = some 141 := by kernel_rfl
theorem keysI : Keyed Tryz.prog 3 := int_keyed Tryz.underlying3
def GS (w0 : World) : Prop := ∃ bm, w0.cell? ⟨0, 0, none⟩ = some (.map (some bm)) ∧ ∀ w', Ext w0 w' → ∀ k : Int, inI64 k → (Instr.lookup 141 (.map (some bm)) (.int .i64 k) false).run Tryz.prog w' = .ok (stepV k) w'
theorem gs_of {W : World} (h : laidMetH Tryz.prog [("lazaret/builder.by", Rows.laid_lazaret_builder_by), ("lazaret/heads.steps", Rows.laid_lazaret_heads_steps)] W) : GS W := by
  obtain ⟨g, t, cs, fuel, p, hg, ht, hvar, hd⟩ := h.funcs (n := "lazaret/heads.steps") (List.mem_cons_of_mem _ (List.mem_singleton.2 rfl))
  obtain rfl := Option.some.inj (gSt.symm.trans hg)
  obtain rfl := Option.some.inj (gStT.symm.trans ht)
  rcases open_map Tryz.underlying141 hd with ⟨_, hx⟩ | ⟨bm, es, clock, m, rfl, hcs, hb, _, F, hx⟩
  · cases hx
  have hcell : W.cell? ⟨0, 0, none⟩ = some (.map (some bm)) := by
    have := World.var?_cell gSt hvar 0
    rw [Array.eq_one_of_toList hcs] at this
    simpa using this
  refine ⟨bm, hcell, fun w' hx' k hk => ?_⟩
  have hb' := hx'.blk hb
  have zero : (zeroValue 74).run Tryz.prog w' = .ok .nilFunc w' := by kernel_rfl
  have hkey := keyOf_int_mk (P := Tryz.prog) Tryz.underlying3 (WalkArith.wf_i64 hk)
  have hx1 := congrArg Prod.fst hx
  dsimp only at hx1
  rcases fit_look (w := w') false keysI Tryz.underlying141 zero hb' F hkey with ⟨hrun, _, hat⟩ | ⟨e0, y, _, _, hrun, hR, hat, _⟩
  · rw [← hx1] at hat
    by_cases k0 : k = 0
    · subst k0
      exact nomatch (show DataW.held _ = DataW.nil from hat .nil)
    by_cases k1 : k = 1
    · subst k1
      exact nomatch (show DataW.held _ = DataW.nil from hat .nil)
    by_cases k2 : k = 2
    · subst k2
      exact nomatch (show DataW.held _ = DataW.nil from hat .nil)
    by_cases k3 : k = 3
    · subst k3
      exact nomatch (show DataW.held _ = DataW.nil from hat .nil)
    by_cases k4 : k = 4
    · subst k4
      exact nomatch (show DataW.held _ = DataW.nil from hat .nil)
    by_cases k5 : k = 5
    · subst k5
      exact nomatch (show DataW.held _ = DataW.nil from hat .nil)
    by_cases k7 : k = 7
    · subst k7
      exact nomatch (show DataW.held _ = DataW.nil from hat .nil)
    rw [hrun]
    unfold stepV stepF
    rw [if_neg k0, if_neg k1, if_neg k2, if_neg k3, if_neg k4, if_neg k5, if_neg k7]
    rfl
  · rw [← hx1] at hat
    obtain ⟨y1, y2⟩ := y
    unfold elemAt at hR
    split at hR
    · rename_i hf
      have hc : e0.val.cells.toList = [e0.val] := by
        cases hv : e0.val <;> first | rfl | (rw [hv] at hf; simp [Value.formed, Tryz.underlying74] at hf)
      rw [hc] at hR
      by_cases k0 : k = 0
      · subst k0
        have e := hat .nil
        dsimp only at e
        subst e
        have hv : e0.val = .func (.func 288) #[] #[] := func_of_trod (f0 := 288) Tryz.underlying74 (by kernel_rfl) hR
        rw [hrun, hv]
        rfl
      by_cases k1 : k = 1
      · subst k1
        have e := hat .nil
        dsimp only at e
        subst e
        have hv : e0.val = .func (.func 289) #[] #[] := func_of_trod (f0 := 289) Tryz.underlying74 (by kernel_rfl) hR
        rw [hrun, hv]
        rfl
      by_cases k2 : k = 2
      · subst k2
        have e := hat .nil
        dsimp only at e
        subst e
        have hv : e0.val = .func (.func 290) #[] #[] := func_of_trod (f0 := 290) Tryz.underlying74 (by kernel_rfl) hR
        rw [hrun, hv]
        rfl
      by_cases k3 : k = 3
      · subst k3
        have e := hat .nil
        dsimp only at e
        subst e
        have hv : e0.val = .func (.func 61) #[] #[] := func_of_trod (f0 := 61) Tryz.underlying74 (by kernel_rfl) hR
        rw [hrun, hv]
        rfl
      by_cases k4 : k = 4
      · subst k4
        have e := hat .nil
        dsimp only at e
        subst e
        have hv : e0.val = .func (.func 291) #[] #[] := func_of_trod (f0 := 291) Tryz.underlying74 (by kernel_rfl) hR
        rw [hrun, hv]
        rfl
      by_cases k5 : k = 5
      · subst k5
        have e := hat .nil
        dsimp only at e
        subst e
        have hv : e0.val = .func (.func 292) #[] #[] := func_of_trod (f0 := 292) Tryz.underlying74 (by kernel_rfl) hR
        rw [hrun, hv]
        rfl
      by_cases k7 : k = 7
      · subst k7
        have e := hat .nil
        dsimp only at e
        subst e
        have hv : e0.val = .func (.func 293) #[] #[] := func_of_trod (f0 := 293) Tryz.underlying74 (by kernel_rfl) hR
        rw [hrun, hv]
        rfl
      have m1 := hat .nil
      have m2 := hat (.held [])
      have q : ∀ j : Int, k ≠ j → (Lit.int .i64 j).sameKey (Lit.int .i64 k) = false := fun j hj => by
        unfold Lit.sameKey
        exact decide_eq_false fun h => hj h.2.symm
      simp [DataW.funcsOut, DataW.funcsOutEntries, DataW.atKey, List.find?, q 0 k0, q 1 k1, q 2 k2, q 3 k3, q 4 k4, q 5 k5, q 7 k7] at m1 m2
      rw [← m1] at m2
      cases m2
    · cases hR
end Go.Proofs.YtgnnlaeikcnhcaaGreatDoor
end
section
set_option linter.unusedSimpArgs false
set_option linter.unusedVariables false
namespace Go.Proofs.YtgnnlaeikcnhcaaGreatDoor
open Go Go.Vk
set_option maxHeartbeats 40000000
section
variable {w0 w : World} {Q : Nat → Prop} {pb ps pl pa : Nat} {b : BSt}
theorem step_c (h : BuAt w0 w Q pb ps pl pa b) (hO : HdO 6 b) (hg : GB w0) (hS : GS w0) (hM : MaxAt w0) (hQl : ∀ q, Q q → q < w.heap.size) (hmo : inI64 b.mode) {t : HTok} {av : Value} (ha0 : RdAt w0 2 av (attrCells t.attrs)) (ht : SmT t) :
    Gives Tryz.prog 60 #[.pointer (some ⟨pb, 0, none⟩), .agg (t.row av)] w fun v w' => v = .bool (stepH b t).2 ∧ BuAt w0 w' Q pb ps pl pa (stepH b t).1 ∧ Upd (AF w0 Q) w w' := by
  have ha := ha0.ext h.out
  obtain ⟨xa, xn, xc, eav, _⟩ := id ha
  subst eav
  obtain ⟨bm, hcell, hlook⟩ := hS
  have hrow : t.row (.slice xa xn xc) = #[.int .i64 t.kind, .string t.name, .string t.text, .slice xa xn xc, .bool t.dup, .bool t.self, .bool t.quirks, .int .i64 t.frm, .int .i64 t.to] := rfl
  have hx := Ext.alloc w (.cells (t.row (.slice xa xn xc)) 37)
  have hp : (w.alloc (.cells (t.row (.slice xa xn xc)) 37)).heap[w.heap.size]? = some (.cells (t.row (.slice xa xn xc)) 37 (0, 0)) := by rw [heap_alloc_h, if_pos rfl]
  obtain ⟨r, hr⟩ : ∃ r, r = stepH b t := ⟨_, rfl⟩
  rw [← hr]
  unfold stepH at hr
  refine Gives.of_W Tryz.call60 Tryz.func60 rfl Tryz.ntmps60 (by simp) ?_; intro Z hZ
  (repeat first|(with_reducible first|(refine hK _ _ ?_;clear hK K)|refine ‹∀σ w,_→K σ w› _ _ ?_|(refine W_st ?_;constructor;try intro K hK))|((with_reducible first|refine hZ _ _ ?_|refine W_rg ?_|skip);repeat1' simp only[push_cast,seval,-Nat.reduceSubDiff,vcells_agg])|((repeat((fail_if_success with_reducible refine hK _ _ ?_);clear hK K));with_reducible refine hK _ _ ?_;clear hK K))
  generalize w.alloc (.cells (t.row (.slice xa xn xc)) 37) = w1 at *
  obtain ⟨p, hpe⟩ : ∃ p, p = w.heap.size := ⟨_, rfl⟩
  rw [← hpe] at hp ⊢
  rw [hrow] at hp
  have h1 := h.pass hx
  have hc1 := cell_ext (h.out.trans hx) hcell
  refine W_draw (.pas 0 (.pas 1 (.act 2 (.act 3 (.pas 4 .fin))))) (fun q => q = 0) (by decide) mixed (by kernel_rfl) ?_
  have hxd := Ext.drew w1
  have hcd := cell_ext hxd hc1
  have h1d := h1.pass hxd
  have hpd := hxd.blk hp
  generalize w1.drew = wd at *
  (repeat (first | ((first | refine pas_plain rfl ?_ | refine pas_g rfl rfl ?_ | refine act_plain rfl ?_ | refine act_g rfl rfl ?_ | refine last_plain rfl ?_ | refine tail_plain rfl ?_ | refine tail_g rfl rfl ?_); (repeat simp only [push_cast, seval, -Nat.reduceSubDiff, eq_self, true_or, or_true, hcd])) | (refine tail_fin ?_) | (refine sch_fin ?_)))
  refine (bmode_c h1d).mono ?_
  intro v w' ⟨hv, hw⟩
  subst hv; subst w'
  refine ⟨fun _ _ => rfl, ?_⟩
  (repeat (first | ((first | refine pas_plain rfl ?_ | refine pas_g rfl rfl ?_ | refine act_plain rfl ?_ | refine act_g rfl rfl ?_ | refine last_plain rfl ?_ | refine tail_plain rfl ?_ | refine tail_g rfl rfl ?_); (repeat simp only [push_cast, seval, -Nat.reduceSubDiff, eq_self, true_or, or_true, hcd])) | (refine tail_fin ?_) | (refine sch_fin ?_)))
  refine RunV.of (hlook wd ((h.out.trans hx).trans hxd) b.mode hmo) ?_
  refine ⟨fun _ _ => rfl, ?_⟩
  have hQd : ∀ q, Q q → q < wd.heap.size := fun q hq => by have := hQl q hq; have := hx.sz; have := hxd.sz; omega
  by_cases m0 : b.mode = 0
  · rw [if_pos m0] at hr
    have e : stepV b.mode = .func (.func 288) #[] #[] := by rw [m0]; rfl
    rw [e]
    (repeat (first | ((first | refine pas_plain rfl ?_ | refine pas_g rfl rfl ?_ | refine act_plain rfl ?_ | refine act_g rfl rfl ?_ | refine last_plain rfl ?_ | refine tail_plain rfl ?_ | refine tail_g rfl rfl ?_); (repeat simp only [push_cast, seval, -Nat.reduceSubDiff])) | (refine tail_fin ?_) | (refine sch_fin ?_)))
    (repeat first|(with_reducible first|(refine hK _ _ ?_;clear hK K)|refine ‹∀σ w,_→K σ w› _ _ ?_|(refine W_st ?_;constructor;try intro K hK))|((with_reducible first|refine hZ _ _ ?_|refine W_rg ?_|skip);repeat1' simp only[push_cast,seval,-Nat.reduceSubDiff])|((repeat((fail_if_success with_reducible refine hK _ _ ?_);clear hK K));with_reducible refine hK _ _ ?_;clear hK K))
    refine (barena_c h1d).mono ?_
    intro v w' ⟨hv, hw⟩
    subst hv; subst w'
    (repeat first|(with_reducible first|(refine hK _ _ ?_;clear hK K)|refine ‹∀σ w,_→K σ w› _ _ ?_|(refine W_st ?_;constructor;try intro K hK))|((with_reducible first|refine hZ _ _ ?_|refine W_rg ?_|skip);repeat1' simp only[push_cast,seval,-Nat.reduceSubDiff])|((repeat((fail_if_success with_reducible refine hK _ _ ?_);clear hK K));with_reducible refine hK _ _ ?_;clear hK K))
    refine ⟨.bool false, fun _ => by kernel_rfl, ?_⟩
    (repeat first|(with_reducible first|(refine hK _ _ ?_;clear hK K)|refine ‹∀σ w,_→K σ w› _ _ ?_|(refine W_st ?_;constructor;try intro K hK))|((with_reducible first|refine hZ _ _ ?_|refine W_rg ?_|skip);repeat1' simp only[push_cast,seval,-Nat.reduceSubDiff,cell_h,cellO_cells,hpd])|((repeat((fail_if_success with_reducible refine hK _ _ ?_);clear hK K));with_reducible refine hK _ _ ?_;clear hK K))
    rw [← hrow]
    refine (initial_c h1d (hO.mono (by decide)) hg hM hQd ha0 ht).mono ?_
    rintro v w2 ⟨rfl, h2, hu2⟩
    (repeat first|(with_reducible first|(refine hK _ _ ?_;clear hK K)|refine ‹∀σ w,_→K σ w› _ _ ?_|(refine W_st ?_;constructor;try intro K hK))|((with_reducible first|refine hZ _ _ ?_|refine W_rg ?_|skip);repeat1' simp only[push_cast,seval,-Nat.reduceSubDiff])|((repeat((fail_if_success with_reducible refine hK _ _ ?_);clear hK K));with_reducible refine hK _ _ ?_;clear hK K))
    exact ⟨by rw [hr], by rw [hr]; exact h2, Upd.trans (hx.trans hxd).upd hu2 fun _ _ h => h⟩
  by_cases m1 : b.mode = 1
  · rw [if_neg m0, if_pos m1] at hr
    have e : stepV b.mode = .func (.func 289) #[] #[] := by rw [m1]; rfl
    rw [e]
    (repeat (first | ((first | refine pas_plain rfl ?_ | refine pas_g rfl rfl ?_ | refine act_plain rfl ?_ | refine act_g rfl rfl ?_ | refine last_plain rfl ?_ | refine tail_plain rfl ?_ | refine tail_g rfl rfl ?_); (repeat simp only [push_cast, seval, -Nat.reduceSubDiff])) | (refine tail_fin ?_) | (refine sch_fin ?_)))
    (repeat first|(with_reducible first|(refine hK _ _ ?_;clear hK K)|refine ‹∀σ w,_→K σ w› _ _ ?_|(refine W_st ?_;constructor;try intro K hK))|((with_reducible first|refine hZ _ _ ?_|refine W_rg ?_|skip);repeat1' simp only[push_cast,seval,-Nat.reduceSubDiff])|((repeat((fail_if_success with_reducible refine hK _ _ ?_);clear hK K));with_reducible refine hK _ _ ?_;clear hK K))
    refine (barena_c h1d).mono ?_
    intro v w' ⟨hv, hw⟩
    subst hv; subst w'
    (repeat first|(with_reducible first|(refine hK _ _ ?_;clear hK K)|refine ‹∀σ w,_→K σ w› _ _ ?_|(refine W_st ?_;constructor;try intro K hK))|((with_reducible first|refine hZ _ _ ?_|refine W_rg ?_|skip);repeat1' simp only[push_cast,seval,-Nat.reduceSubDiff])|((repeat((fail_if_success with_reducible refine hK _ _ ?_);clear hK K));with_reducible refine hK _ _ ?_;clear hK K))
    refine ⟨.bool false, fun _ => by kernel_rfl, ?_⟩
    (repeat first|(with_reducible first|(refine hK _ _ ?_;clear hK K)|refine ‹∀σ w,_→K σ w› _ _ ?_|(refine W_st ?_;constructor;try intro K hK))|((with_reducible first|refine hZ _ _ ?_|refine W_rg ?_|skip);repeat1' simp only[push_cast,seval,-Nat.reduceSubDiff,cell_h,cellO_cells,hpd])|((repeat((fail_if_success with_reducible refine hK _ _ ?_);clear hK K));with_reducible refine hK _ _ ?_;clear hK K))
    rw [← hrow]
    refine (beforeHTML_c h1d (hO.mono (by decide)) hg hM hQd ha0 ht).mono ?_
    rintro v w2 ⟨rfl, h2, hu2⟩
    (repeat first|(with_reducible first|(refine hK _ _ ?_;clear hK K)|refine ‹∀σ w,_→K σ w› _ _ ?_|(refine W_st ?_;constructor;try intro K hK))|((with_reducible first|refine hZ _ _ ?_|refine W_rg ?_|skip);repeat1' simp only[push_cast,seval,-Nat.reduceSubDiff])|((repeat((fail_if_success with_reducible refine hK _ _ ?_);clear hK K));with_reducible refine hK _ _ ?_;clear hK K))
    exact ⟨by rw [hr], by rw [hr]; exact h2, Upd.trans (hx.trans hxd).upd hu2 fun _ _ h => h⟩
  by_cases m2 : b.mode = 2
  · rw [if_neg m0, if_neg m1, if_pos m2] at hr
    have e : stepV b.mode = .func (.func 290) #[] #[] := by rw [m2]; rfl
    rw [e]
    (repeat (first | ((first | refine pas_plain rfl ?_ | refine pas_g rfl rfl ?_ | refine act_plain rfl ?_ | refine act_g rfl rfl ?_ | refine last_plain rfl ?_ | refine tail_plain rfl ?_ | refine tail_g rfl rfl ?_); (repeat simp only [push_cast, seval, -Nat.reduceSubDiff])) | (refine tail_fin ?_) | (refine sch_fin ?_)))
    (repeat first|(with_reducible first|(refine hK _ _ ?_;clear hK K)|refine ‹∀σ w,_→K σ w› _ _ ?_|(refine W_st ?_;constructor;try intro K hK))|((with_reducible first|refine hZ _ _ ?_|refine W_rg ?_|skip);repeat1' simp only[push_cast,seval,-Nat.reduceSubDiff])|((repeat((fail_if_success with_reducible refine hK _ _ ?_);clear hK K));with_reducible refine hK _ _ ?_;clear hK K))
    refine (barena_c h1d).mono ?_
    intro v w' ⟨hv, hw⟩
    subst hv; subst w'
    (repeat first|(with_reducible first|(refine hK _ _ ?_;clear hK K)|refine ‹∀σ w,_→K σ w› _ _ ?_|(refine W_st ?_;constructor;try intro K hK))|((with_reducible first|refine hZ _ _ ?_|refine W_rg ?_|skip);repeat1' simp only[push_cast,seval,-Nat.reduceSubDiff])|((repeat((fail_if_success with_reducible refine hK _ _ ?_);clear hK K));with_reducible refine hK _ _ ?_;clear hK K))
    refine ⟨.bool false, fun _ => by kernel_rfl, ?_⟩
    (repeat first|(with_reducible first|(refine hK _ _ ?_;clear hK K)|refine ‹∀σ w,_→K σ w› _ _ ?_|(refine W_st ?_;constructor;try intro K hK))|((with_reducible first|refine hZ _ _ ?_|refine W_rg ?_|skip);repeat1' simp only[push_cast,seval,-Nat.reduceSubDiff,cell_h,cellO_cells,hpd])|((repeat((fail_if_success with_reducible refine hK _ _ ?_);clear hK K));with_reducible refine hK _ _ ?_;clear hK K))
    rw [← hrow]
    refine (beforeHead_c h1d (hO.mono (by decide)) hg hM hQd ha0 ht).mono ?_
    rintro v w2 ⟨rfl, h2, hu2⟩
    (repeat first|(with_reducible first|(refine hK _ _ ?_;clear hK K)|refine ‹∀σ w,_→K σ w› _ _ ?_|(refine W_st ?_;constructor;try intro K hK))|((with_reducible first|refine hZ _ _ ?_|refine W_rg ?_|skip);repeat1' simp only[push_cast,seval,-Nat.reduceSubDiff])|((repeat((fail_if_success with_reducible refine hK _ _ ?_);clear hK K));with_reducible refine hK _ _ ?_;clear hK K))
    exact ⟨by rw [hr], by rw [hr]; exact h2, Upd.trans (hx.trans hxd).upd hu2 fun _ _ h => h⟩
  by_cases m3 : b.mode = 3
  · rw [if_neg m0, if_neg m1, if_neg m2, if_pos m3] at hr
    have e : stepV b.mode = .func (.func 61) #[] #[] := by rw [m3]; rfl
    rw [e]
    (repeat (first | ((first | refine pas_plain rfl ?_ | refine pas_g rfl rfl ?_ | refine act_plain rfl ?_ | refine act_g rfl rfl ?_ | refine last_plain rfl ?_ | refine tail_plain rfl ?_ | refine tail_g rfl rfl ?_); (repeat simp only [push_cast, seval, -Nat.reduceSubDiff])) | (refine tail_fin ?_) | (refine sch_fin ?_)))
    (repeat first|(with_reducible first|(refine hK _ _ ?_;clear hK K)|refine ‹∀σ w,_→K σ w› _ _ ?_|(refine W_st ?_;constructor;try intro K hK))|((with_reducible first|refine hZ _ _ ?_|refine W_rg ?_|skip);repeat1' simp only[push_cast,seval,-Nat.reduceSubDiff])|((repeat((fail_if_success with_reducible refine hK _ _ ?_);clear hK K));with_reducible refine hK _ _ ?_;clear hK K))
    refine (barena_c h1d).mono ?_
    intro v w' ⟨hv, hw⟩
    subst hv; subst w'
    (repeat first|(with_reducible first|(refine hK _ _ ?_;clear hK K)|refine ‹∀σ w,_→K σ w› _ _ ?_|(refine W_st ?_;constructor;try intro K hK))|((with_reducible first|refine hZ _ _ ?_|refine W_rg ?_|skip);repeat1' simp only[push_cast,seval,-Nat.reduceSubDiff])|((repeat((fail_if_success with_reducible refine hK _ _ ?_);clear hK K));with_reducible refine hK _ _ ?_;clear hK K))
    refine ⟨.bool false, fun _ => by kernel_rfl, ?_⟩
    (repeat first|(with_reducible first|(refine hK _ _ ?_;clear hK K)|refine ‹∀σ w,_→K σ w› _ _ ?_|(refine W_st ?_;constructor;try intro K hK))|((with_reducible first|refine hZ _ _ ?_|refine W_rg ?_|skip);repeat1' simp only[push_cast,seval,-Nat.reduceSubDiff,cell_h,cellO_cells,hpd])|((repeat((fail_if_success with_reducible refine hK _ _ ?_);clear hK K));with_reducible refine hK _ _ ?_;clear hK K))
    rw [← hrow]
    refine (head_c h1d (hO.mono (by decide)) hg hM hQd ha0 ht).mono ?_
    rintro v w2 ⟨rfl, h2, hu2⟩
    (repeat first|(with_reducible first|(refine hK _ _ ?_;clear hK K)|refine ‹∀σ w,_→K σ w› _ _ ?_|(refine W_st ?_;constructor;try intro K hK))|((with_reducible first|refine hZ _ _ ?_|refine W_rg ?_|skip);repeat1' simp only[push_cast,seval,-Nat.reduceSubDiff])|((repeat((fail_if_success with_reducible refine hK _ _ ?_);clear hK K));with_reducible refine hK _ _ ?_;clear hK K))
    exact ⟨by rw [hr], by rw [hr]; exact h2, Upd.trans (hx.trans hxd).upd hu2 fun _ _ h => h⟩
  by_cases m4 : b.mode = 4
  · rw [if_neg m0, if_neg m1, if_neg m2, if_neg m3, if_pos m4] at hr
    have e : stepV b.mode = .func (.func 291) #[] #[] := by rw [m4]; rfl
    rw [e]
    (repeat (first | ((first | refine pas_plain rfl ?_ | refine pas_g rfl rfl ?_ | refine act_plain rfl ?_ | refine act_g rfl rfl ?_ | refine last_plain rfl ?_ | refine tail_plain rfl ?_ | refine tail_g rfl rfl ?_); (repeat simp only [push_cast, seval, -Nat.reduceSubDiff])) | (refine tail_fin ?_) | (refine sch_fin ?_)))
    (repeat first|(with_reducible first|(refine hK _ _ ?_;clear hK K)|refine ‹∀σ w,_→K σ w› _ _ ?_|(refine W_st ?_;constructor;try intro K hK))|((with_reducible first|refine hZ _ _ ?_|refine W_rg ?_|skip);repeat1' simp only[push_cast,seval,-Nat.reduceSubDiff])|((repeat((fail_if_success with_reducible refine hK _ _ ?_);clear hK K));with_reducible refine hK _ _ ?_;clear hK K))
    refine (barena_c h1d).mono ?_
    intro v w' ⟨hv, hw⟩
    subst hv; subst w'
    (repeat first|(with_reducible first|(refine hK _ _ ?_;clear hK K)|refine ‹∀σ w,_→K σ w› _ _ ?_|(refine W_st ?_;constructor;try intro K hK))|((with_reducible first|refine hZ _ _ ?_|refine W_rg ?_|skip);repeat1' simp only[push_cast,seval,-Nat.reduceSubDiff])|((repeat((fail_if_success with_reducible refine hK _ _ ?_);clear hK K));with_reducible refine hK _ _ ?_;clear hK K))
    refine ⟨.bool false, fun _ => by kernel_rfl, ?_⟩
    (repeat first|(with_reducible first|(refine hK _ _ ?_;clear hK K)|refine ‹∀σ w,_→K σ w› _ _ ?_|(refine W_st ?_;constructor;try intro K hK))|((with_reducible first|refine hZ _ _ ?_|refine W_rg ?_|skip);repeat1' simp only[push_cast,seval,-Nat.reduceSubDiff,cell_h,cellO_cells,hpd])|((repeat((fail_if_success with_reducible refine hK _ _ ?_);clear hK K));with_reducible refine hK _ _ ?_;clear hK K))
    rw [← hrow]
    refine (noscript_c h1d (hO.mono (by decide)) hg hM hQd ha0 ht).mono ?_
    rintro v w2 ⟨rfl, h2, hu2⟩
    (repeat first|(with_reducible first|(refine hK _ _ ?_;clear hK K)|refine ‹∀σ w,_→K σ w› _ _ ?_|(refine W_st ?_;constructor;try intro K hK))|((with_reducible first|refine hZ _ _ ?_|refine W_rg ?_|skip);repeat1' simp only[push_cast,seval,-Nat.reduceSubDiff])|((repeat((fail_if_success with_reducible refine hK _ _ ?_);clear hK K));with_reducible refine hK _ _ ?_;clear hK K))
    exact ⟨by rw [hr], by rw [hr]; exact h2, Upd.trans (hx.trans hxd).upd hu2 fun _ _ h => h⟩
  by_cases m5 : b.mode = 5
  · rw [if_neg m0, if_neg m1, if_neg m2, if_neg m3, if_neg m4, if_pos m5] at hr
    have e : stepV b.mode = .func (.func 292) #[] #[] := by rw [m5]; rfl
    rw [e]
    (repeat (first | ((first | refine pas_plain rfl ?_ | refine pas_g rfl rfl ?_ | refine act_plain rfl ?_ | refine act_g rfl rfl ?_ | refine last_plain rfl ?_ | refine tail_plain rfl ?_ | refine tail_g rfl rfl ?_); (repeat simp only [push_cast, seval, -Nat.reduceSubDiff])) | (refine tail_fin ?_) | (refine sch_fin ?_)))
    (repeat first|(with_reducible first|(refine hK _ _ ?_;clear hK K)|refine ‹∀σ w,_→K σ w› _ _ ?_|(refine W_st ?_;constructor;try intro K hK))|((with_reducible first|refine hZ _ _ ?_|refine W_rg ?_|skip);repeat1' simp only[push_cast,seval,-Nat.reduceSubDiff])|((repeat((fail_if_success with_reducible refine hK _ _ ?_);clear hK K));with_reducible refine hK _ _ ?_;clear hK K))
    refine (barena_c h1d).mono ?_
    intro v w' ⟨hv, hw⟩
    subst hv; subst w'
    (repeat first|(with_reducible first|(refine hK _ _ ?_;clear hK K)|refine ‹∀σ w,_→K σ w› _ _ ?_|(refine W_st ?_;constructor;try intro K hK))|((with_reducible first|refine hZ _ _ ?_|refine W_rg ?_|skip);repeat1' simp only[push_cast,seval,-Nat.reduceSubDiff])|((repeat((fail_if_success with_reducible refine hK _ _ ?_);clear hK K));with_reducible refine hK _ _ ?_;clear hK K))
    refine ⟨.bool false, fun _ => by kernel_rfl, ?_⟩
    (repeat first|(with_reducible first|(refine hK _ _ ?_;clear hK K)|refine ‹∀σ w,_→K σ w› _ _ ?_|(refine W_st ?_;constructor;try intro K hK))|((with_reducible first|refine hZ _ _ ?_|refine W_rg ?_|skip);repeat1' simp only[push_cast,seval,-Nat.reduceSubDiff,cell_h,cellO_cells,hpd])|((repeat((fail_if_success with_reducible refine hK _ _ ?_);clear hK K));with_reducible refine hK _ _ ?_;clear hK K))
    rw [← hrow]
    refine (afterHead_c h1d hO hg hM hQd ha0 ht).mono ?_
    rintro v w2 ⟨rfl, h2, hu2⟩
    (repeat first|(with_reducible first|(refine hK _ _ ?_;clear hK K)|refine ‹∀σ w,_→K σ w› _ _ ?_|(refine W_st ?_;constructor;try intro K hK))|((with_reducible first|refine hZ _ _ ?_|refine W_rg ?_|skip);repeat1' simp only[push_cast,seval,-Nat.reduceSubDiff])|((repeat((fail_if_success with_reducible refine hK _ _ ?_);clear hK K));with_reducible refine hK _ _ ?_;clear hK K))
    exact ⟨by rw [hr], by rw [hr]; exact h2, Upd.trans (hx.trans hxd).upd hu2 fun _ _ h => h⟩
  by_cases m7 : b.mode = 7
  · rw [if_neg m0, if_neg m1, if_neg m2, if_neg m3, if_neg m4, if_neg m5, if_pos m7] at hr
    have e : stepV b.mode = .func (.func 293) #[] #[] := by rw [m7]; rfl
    rw [e]
    (repeat (first | ((first | refine pas_plain rfl ?_ | refine pas_g rfl rfl ?_ | refine act_plain rfl ?_ | refine act_g rfl rfl ?_ | refine last_plain rfl ?_ | refine tail_plain rfl ?_ | refine tail_g rfl rfl ?_); (repeat simp only [push_cast, seval, -Nat.reduceSubDiff])) | (refine tail_fin ?_) | (refine sch_fin ?_)))
    (repeat first|(with_reducible first|(refine hK _ _ ?_;clear hK K)|refine ‹∀σ w,_→K σ w› _ _ ?_|(refine W_st ?_;constructor;try intro K hK))|((with_reducible first|refine hZ _ _ ?_|refine W_rg ?_|skip);repeat1' simp only[push_cast,seval,-Nat.reduceSubDiff])|((repeat((fail_if_success with_reducible refine hK _ _ ?_);clear hK K));with_reducible refine hK _ _ ?_;clear hK K))
    refine (barena_c h1d).mono ?_
    intro v w' ⟨hv, hw⟩
    subst hv; subst w'
    (repeat first|(with_reducible first|(refine hK _ _ ?_;clear hK K)|refine ‹∀σ w,_→K σ w› _ _ ?_|(refine W_st ?_;constructor;try intro K hK))|((with_reducible first|refine hZ _ _ ?_|refine W_rg ?_|skip);repeat1' simp only[push_cast,seval,-Nat.reduceSubDiff])|((repeat((fail_if_success with_reducible refine hK _ _ ?_);clear hK K));with_reducible refine hK _ _ ?_;clear hK K))
    refine ⟨.bool false, fun _ => by kernel_rfl, ?_⟩
    (repeat first|(with_reducible first|(refine hK _ _ ?_;clear hK K)|refine ‹∀σ w,_→K σ w› _ _ ?_|(refine W_st ?_;constructor;try intro K hK))|((with_reducible first|refine hZ _ _ ?_|refine W_rg ?_|skip);repeat1' simp only[push_cast,seval,-Nat.reduceSubDiff,cell_h,cellO_cells,hpd])|((repeat((fail_if_success with_reducible refine hK _ _ ?_);clear hK K));with_reducible refine hK _ _ ?_;clear hK K))
    rw [← hrow]
    refine (htext_c h1d (hO.mono (by decide)) hg hM hQd ha0 ht).mono ?_
    rintro v w2 ⟨rfl, h2, hu2⟩
    (repeat first|(with_reducible first|(refine hK _ _ ?_;clear hK K)|refine ‹∀σ w,_→K σ w› _ _ ?_|(refine W_st ?_;constructor;try intro K hK))|((with_reducible first|refine hZ _ _ ?_|refine W_rg ?_|skip);repeat1' simp only[push_cast,seval,-Nat.reduceSubDiff])|((repeat((fail_if_success with_reducible refine hK _ _ ?_);clear hK K));with_reducible refine hK _ _ ?_;clear hK K))
    exact ⟨by rw [hr], by rw [hr]; exact h2, Upd.trans (hx.trans hxd).upd hu2 fun _ _ h => h⟩
  rw [if_neg m0, if_neg m1, if_neg m2, if_neg m3, if_neg m4, if_neg m5, if_neg m7] at hr
  have e : stepV b.mode = .nilFunc := by unfold stepV stepF; rw [if_neg m0, if_neg m1, if_neg m2, if_neg m3, if_neg m4, if_neg m5, if_neg m7]
  rw [e]
  (repeat (first | ((first | refine pas_plain rfl ?_ | refine pas_g rfl rfl ?_ | refine act_plain rfl ?_ | refine act_g rfl rfl ?_ | refine last_plain rfl ?_ | refine tail_plain rfl ?_ | refine tail_g rfl rfl ?_); (repeat simp only [push_cast, seval, -Nat.reduceSubDiff])) | (refine tail_fin ?_) | (refine sch_fin ?_)))
  (repeat first|(with_reducible first|(refine hK _ _ ?_;clear hK K)|refine ‹∀σ w,_→K σ w› _ _ ?_|(refine W_st ?_;constructor;try intro K hK))|((with_reducible first|refine hZ _ _ ?_|refine W_rg ?_|skip);repeat1' simp only[push_cast,seval,-Nat.reduceSubDiff])|((repeat((fail_if_success with_reducible refine hK _ _ ?_);clear hK K));with_reducible refine hK _ _ ?_;clear hK K))
  refine (barena_c h1d).mono ?_
  intro v w' ⟨hv, hw⟩
  subst hv; subst w'
  (repeat first|(with_reducible first|(refine hK _ _ ?_;clear hK K)|refine ‹∀σ w,_→K σ w› _ _ ?_|(refine W_st ?_;constructor;try intro K hK))|((with_reducible first|refine hZ _ _ ?_|refine W_rg ?_|skip);repeat1' simp only[push_cast,seval,-Nat.reduceSubDiff])|((repeat((fail_if_success with_reducible refine hK _ _ ?_);clear hK K));with_reducible refine hK _ _ ?_;clear hK K))
  refine ⟨.bool true, fun _ => by kernel_rfl, ?_⟩
  (repeat first|(with_reducible first|(refine hK _ _ ?_;clear hK K)|refine ‹∀σ w,_→K σ w› _ _ ?_|(refine W_st ?_;constructor;try intro K hK))|((with_reducible first|refine hZ _ _ ?_|refine W_rg ?_|skip);repeat1' simp only[push_cast,seval,-Nat.reduceSubDiff])|((repeat((fail_if_success with_reducible refine hK _ _ ?_);clear hK K));with_reducible refine hK _ _ ?_;clear hK K))
  exact ⟨by rw [hr], by rw [hr]; exact h1d, (hx.trans hxd).upd⟩
end
end Go.Proofs.YtgnnlaeikcnhcaaGreatDoor
end
section
set_option linter.unusedSimpArgs false
set_option linter.unusedVariables false
namespace Go.Vk
def ownM (k : Int) : Bool := (decide (0 ≤ k) && decide (k ≤ 5)) || decide (k = 7)
end Go.Vk
namespace Go.Proofs.YtgnnlaeikcnhcaaGreatDoor
open Go Go.Vk
set_option maxHeartbeats 40000000
theorem own19_c {w : World} (k : Int) : Gives Tryz.prog 85 #[.int .i64 k] w fun v w' => v = .bool (ownM k) ∧ w' = w := by
  unfold ownM
  by_cases h0 : 0 ≤ k
  · by_cases h5 : k ≤ 5
    · rw [decide_eq_true h0, decide_eq_true h5]
      refine Gives.of_W Tryz.call85 Tryz.func85 rfl Tryz.ntmps85 (by simp) ?_; intro Z hZ
      (repeat first|(with_reducible first|(refine hK _ _ ?_;clear hK K)|refine ‹∀σ w,_→K σ w› _ _ ?_|(refine W_st ?_;constructor;try intro K hK))|((with_reducible first|refine hZ _ _ ?_|refine W_rg ?_|skip);repeat1' simp only[push_cast,seval,-Nat.reduceSubDiff,h0,h5])|((repeat((fail_if_success with_reducible refine hK _ _ ?_);clear hK K));with_reducible refine hK _ _ ?_;clear hK K))
    · have h5' := eq_false h5
      by_cases h7 : k = 7
      · subst h7
        refine Gives.of_W Tryz.call85 Tryz.func85 rfl Tryz.ntmps85 (by simp) ?_; intro Z hZ
        (repeat first|(with_reducible first|(refine hK _ _ ?_;clear hK K)|refine ‹∀σ w,_→K σ w› _ _ ?_|(refine W_st ?_;constructor;try intro K hK))|((with_reducible first|refine hZ _ _ ?_|refine W_rg ?_|skip);repeat1' simp only[push_cast,seval,-Nat.reduceSubDiff,h5'])|((repeat((fail_if_success with_reducible refine hK _ _ ?_);clear hK K));with_reducible refine hK _ _ ?_;clear hK K))
        try rfl
      · have h7' := eq_false h7
        rw [decide_eq_true h0, decide_eq_false h5, decide_eq_false h7]
        refine Gives.of_W Tryz.call85 Tryz.func85 rfl Tryz.ntmps85 (by simp) ?_; intro Z hZ
        (repeat first|(with_reducible first|(refine hK _ _ ?_;clear hK K)|refine ‹∀σ w,_→K σ w› _ _ ?_|(refine W_st ?_;constructor;try intro K hK))|((with_reducible first|refine hZ _ _ ?_|refine W_rg ?_|skip);repeat1' simp only[push_cast,seval,-Nat.reduceSubDiff,h0,h5',h7'])|((repeat((fail_if_success with_reducible refine hK _ _ ?_);clear hK K));with_reducible refine hK _ _ ?_;clear hK K))
  · have h0' := eq_false h0
    have h7 : ¬ k = 7 := by omega
    have h7' := eq_false h7
    rw [decide_eq_false h0, decide_eq_false h7]
    refine Gives.of_W Tryz.call85 Tryz.func85 rfl Tryz.ntmps85 (by simp) ?_; intro Z hZ
    (repeat first|(with_reducible first|(refine hK _ _ ?_;clear hK K)|refine ‹∀σ w,_→K σ w› _ _ ?_|(refine W_st ?_;constructor;try intro K hK))|((with_reducible first|refine hZ _ _ ?_|refine W_rg ?_|skip);repeat1' simp only[push_cast,seval,-Nat.reduceSubDiff,h0',h7'])|((repeat((fail_if_success with_reducible refine hK _ _ ?_);clear hK K));with_reducible refine hK _ _ ?_;clear hK K))
end Go.Proofs.YtgnnlaeikcnhcaaGreatDoor
end
section
set_option linter.unusedSimpArgs false
set_option linter.unusedVariables false
namespace Go.Vk
open Go
def tok19 (k : Int) (x : ByteArray) : HTok := ⟨k, x, ⟨#[]⟩, [], false, false, false, 0, 0⟩
end Go.Vk
namespace Go.Proofs.YtgnnlaeikcnhcaaGreatDoor
open Go Go.Vk
set_option maxHeartbeats 40000000
theorem start19_c {w : World} (x : ByteArray) : Gives Tryz.prog 63 #[.string x] w fun v w' => v = .agg ((tok19 2 x).row (.slice none 0 0)) ∧ Ext w w' := by
  refine Gives.of_W Tryz.call63 Tryz.func63 rfl Tryz.ntmps63 (by simp) ?_; intro Z hZ
  (repeat first|(with_reducible first|(refine hK _ _ ?_;clear hK K)|refine ‹∀σ w,_→K σ w› _ _ ?_|(refine W_st ?_;constructor;try intro K hK))|((with_reducible first|refine hZ _ _ ?_|refine W_rg ?_|skip);repeat1' simp only[push_cast,seval,-Nat.reduceSubDiff,RunV_zero Tryz.zeroValue37])|((repeat((fail_if_success with_reducible refine hK _ _ ?_);clear hK K));with_reducible refine hK _ _ ?_;clear hK K))
  refine build_struct Tryz.zeroValue37 unTo plTo (cs := #[.int .i64 2, .string x, .string ⟨#[]⟩, .slice none 0 0, .bool false, .bool false, .bool false, .int .i64 0, .int .i64 0]) (by rfl) ?_
  (repeat first|(with_reducible first|(refine hK _ _ ?_;clear hK K)|refine ‹∀σ w,_→K σ w› _ _ ?_|(refine W_st ?_;constructor;try intro K hK))|((with_reducible first|refine hZ _ _ ?_|refine W_rg ?_|skip);repeat1' simp only[push_cast,seval,-Nat.reduceSubDiff])|((repeat((fail_if_success with_reducible refine hK _ _ ?_);clear hK K));with_reducible refine hK _ _ ?_;clear hK K))
  simp only [vcells_agg, can_h, heap_alloc_h, if_true, canO_cells, List.size_toArray, List.length_cons, List.length_nil, Nat.zero_add, Nat.reduceAdd, Nat.reduceLT, true_and]
  have z1 : (w.alloc (.cells #[.int .i64 0, .string ⟨#[]⟩, .string ⟨#[]⟩, .slice none 0 0, .bool false, .bool false, .bool false, .int .i64 0, .int .i64 0] 37)).heap[w.heap.size]? = some (.cells #[.int .i64 0, .string ⟨#[]⟩, .string ⟨#[]⟩, .slice none 0 0, .bool false, .bool false, .bool false, .int .i64 0, .int .i64 0] 37 (0, 0)) := by rw [heap_alloc_h, if_pos rfl]
  have hp3 := setCells_all z1 (l := [.int .i64 2, .string x, .string ⟨#[]⟩, .slice none 0 0, .bool false, .bool false, .bool false, .int .i64 0, .int .i64 0]) rfl
  have hx3 : Ext w (setCells (w.alloc (.cells #[.int .i64 0, .string ⟨#[]⟩, .string ⟨#[]⟩, .slice none 0 0, .bool false, .bool false, .bool false, .int .i64 0, .int .i64 0] 37)) ⟨w.heap.size, 0, none⟩ [.int .i64 2, .string x, .string ⟨#[]⟩, .slice none 0 0, .bool false, .bool false, .bool false, .int .i64 0, .int .i64 0] 0) := Upd.trans (Ext.alloc w _) (Upd.setCells (F := fun b => b = w.heap.size) (a := ⟨w.heap.size, 0, none⟩) _ rfl _ 0) fun i hi e => by omega
  generalize setCells (w.alloc (.cells #[.int .i64 0, .string ⟨#[]⟩, .string ⟨#[]⟩, .slice none 0 0, .bool false, .bool false, .bool false, .int .i64 0, .int .i64 0] 37)) ⟨w.heap.size, 0, none⟩ [.int .i64 2, .string x, .string ⟨#[]⟩, .slice none 0 0, .bool false, .bool false, .bool false, .int .i64 0, .int .i64 0] 0 = w3 at *
  (repeat first|(with_reducible first|(refine hK _ _ ?_;clear hK K)|refine ‹∀σ w,_→K σ w› _ _ ?_|(refine W_st ?_;constructor;try intro K hK))|((with_reducible first|refine hZ _ _ ?_|refine W_rg ?_|skip);repeat1' simp only[push_cast,seval,-Nat.reduceSubDiff,cell_h,hp3,cellO_cells])|((repeat((fail_if_success with_reducible refine hK _ _ ?_);clear hK K));with_reducible refine hK _ _ ?_;clear hK K))
  exact ⟨rfl, hx3⟩
theorem end19_c {w : World} (x : ByteArray) : Gives Tryz.prog 58 #[.string x] w fun v w' => v = .agg ((tok19 3 x).row (.slice none 0 0)) ∧ Ext w w' := by
  refine Gives.of_W Tryz.call58 Tryz.func58 rfl Tryz.ntmps58 (by simp) ?_; intro Z hZ
  (repeat first|(with_reducible first|(refine hK _ _ ?_;clear hK K)|refine ‹∀σ w,_→K σ w› _ _ ?_|(refine W_st ?_;constructor;try intro K hK))|((with_reducible first|refine hZ _ _ ?_|refine W_rg ?_|skip);repeat1' simp only[push_cast,seval,-Nat.reduceSubDiff,RunV_zero Tryz.zeroValue37])|((repeat((fail_if_success with_reducible refine hK _ _ ?_);clear hK K));with_reducible refine hK _ _ ?_;clear hK K))
  refine build_struct Tryz.zeroValue37 unTo plTo (cs := #[.int .i64 3, .string x, .string ⟨#[]⟩, .slice none 0 0, .bool false, .bool false, .bool false, .int .i64 0, .int .i64 0]) (by rfl) ?_
  (repeat first|(with_reducible first|(refine hK _ _ ?_;clear hK K)|refine ‹∀σ w,_→K σ w› _ _ ?_|(refine W_st ?_;constructor;try intro K hK))|((with_reducible first|refine hZ _ _ ?_|refine W_rg ?_|skip);repeat1' simp only[push_cast,seval,-Nat.reduceSubDiff])|((repeat((fail_if_success with_reducible refine hK _ _ ?_);clear hK K));with_reducible refine hK _ _ ?_;clear hK K))
  simp only [vcells_agg, can_h, heap_alloc_h, if_true, canO_cells, List.size_toArray, List.length_cons, List.length_nil, Nat.zero_add, Nat.reduceAdd, Nat.reduceLT, true_and]
  have z1 : (w.alloc (.cells #[.int .i64 0, .string ⟨#[]⟩, .string ⟨#[]⟩, .slice none 0 0, .bool false, .bool false, .bool false, .int .i64 0, .int .i64 0] 37)).heap[w.heap.size]? = some (.cells #[.int .i64 0, .string ⟨#[]⟩, .string ⟨#[]⟩, .slice none 0 0, .bool false, .bool false, .bool false, .int .i64 0, .int .i64 0] 37 (0, 0)) := by rw [heap_alloc_h, if_pos rfl]
  have hp3 := setCells_all z1 (l := [.int .i64 3, .string x, .string ⟨#[]⟩, .slice none 0 0, .bool false, .bool false, .bool false, .int .i64 0, .int .i64 0]) rfl
  have hx3 : Ext w (setCells (w.alloc (.cells #[.int .i64 0, .string ⟨#[]⟩, .string ⟨#[]⟩, .slice none 0 0, .bool false, .bool false, .bool false, .int .i64 0, .int .i64 0] 37)) ⟨w.heap.size, 0, none⟩ [.int .i64 3, .string x, .string ⟨#[]⟩, .slice none 0 0, .bool false, .bool false, .bool false, .int .i64 0, .int .i64 0] 0) := Upd.trans (Ext.alloc w _) (Upd.setCells (F := fun b => b = w.heap.size) (a := ⟨w.heap.size, 0, none⟩) _ rfl _ 0) fun i hi e => by omega
  generalize setCells (w.alloc (.cells #[.int .i64 0, .string ⟨#[]⟩, .string ⟨#[]⟩, .slice none 0 0, .bool false, .bool false, .bool false, .int .i64 0, .int .i64 0] 37)) ⟨w.heap.size, 0, none⟩ [.int .i64 3, .string x, .string ⟨#[]⟩, .slice none 0 0, .bool false, .bool false, .bool false, .int .i64 0, .int .i64 0] 0 = w3 at *
  (repeat first|(with_reducible first|(refine hK _ _ ?_;clear hK K)|refine ‹∀σ w,_→K σ w› _ _ ?_|(refine W_st ?_;constructor;try intro K hK))|((with_reducible first|refine hZ _ _ ?_|refine W_rg ?_|skip);repeat1' simp only[push_cast,seval,-Nat.reduceSubDiff,cell_h,hp3,cellO_cells])|((repeat((fail_if_success with_reducible refine hK _ _ ?_);clear hK K));with_reducible refine hK _ _ ?_;clear hK K))
  exact ⟨rfl, hx3⟩
end Go.Proofs.YtgnnlaeikcnhcaaGreatDoor
end
section
set_option linter.unusedSimpArgs false
set_option linter.unusedVariables false
namespace Go.Vk
open Go Go.Proofs.YtgnnlaeikcnhcaaGreatDoor
def doesB : Nat → BSt → HTok → BSt
  | 0, b, _ => b
  | n + 1, b, t => if ownM b.mode = true then (if (stepH b t).2 = true then doesB n (stepH b t).1 t else (stepH b t).1) else b
def doOk : Nat → BSt → HTok → Prop
  | 0, _, _ => True
  | n + 1, b, t => inI64 b.mode ∧ (ownM b.mode = true → HdO 6 b ∧ ((stepH b t).2 = true → doOk n (stepH b t).1 t))
end Go.Vk
namespace Go.Proofs.YtgnnlaeikcnhcaaGreatDoor
open Go Go.Vk
set_option maxHeartbeats 40000000
section
variable {w0 w : World} {Q : Nat → Prop} {pb ps pl pa : Nat} {b : BSt}
theorem does_c (h : BuAt w0 w Q pb ps pl pa b) (hg : GB w0) (hS : GS w0) (hM : MaxAt w0) (hQl : ∀ q, Q q → q < w.heap.size) {t : HTok} {av : Value} (ha0 : RdAt w0 2 av (attrCells t.attrs)) (ht : SmT t) (hd : doOk 20 b t) :
    Gives Tryz.prog 57 #[.pointer (some ⟨pb, 0, none⟩), .agg (t.row av)] w fun _ w' => BuAt w0 w' Q pb ps pl pa (doesB 20 b t) ∧ Upd (AF w0 Q) w w' := by
  have ha := ha0.ext h.out
  obtain ⟨xa, xn, xc, eav, _⟩ := id ha
  subst eav
  have hrow : t.row (.slice xa xn xc) = #[.int .i64 t.kind, .string t.name, .string t.text, .slice xa xn xc, .bool t.dup, .bool t.self, .bool t.quirks, .int .i64 t.frm, .int .i64 t.to] := rfl
  have hx := Ext.alloc w (.cells (t.row (.slice xa xn xc)) 37)
  have hp : (w.alloc (.cells (t.row (.slice xa xn xc)) 37)).heap[w.heap.size]? = some (.cells (t.row (.slice xa xn xc)) 37 (0, 0)) := by rw [heap_alloc_h, if_pos rfl]
  obtain ⟨R, hR⟩ : ∃ R, R = doesB 20 b t := ⟨_, rfl⟩
  rw [← hR]
  refine Gives.of_W Tryz.call57 Tryz.func57 rfl Tryz.ntmps57 (by simp) ?_; intro Z hZ
  (repeat first|(with_reducible first|(refine hK _ _ ?_;clear hK K)|refine ‹∀σ w,_→K σ w› _ _ ?_|(refine W_st ?_;constructor;try intro K hK))|((with_reducible first|refine hZ _ _ ?_|refine W_rg ?_|skip);repeat1' simp only[push_cast,seval,-Nat.reduceSubDiff,vcells_agg])|((repeat((fail_if_success with_reducible refine hK _ _ ?_);clear hK K));with_reducible refine hK _ _ ?_;clear hK K))
  generalize w.alloc (.cells (t.row (.slice xa xn xc)) 37) = w1 at *
  obtain ⟨p, hpe⟩ : ∃ p, p = w.heap.size := ⟨_, rfl⟩
  rw [← hpe] at hp ⊢
  rw [hrow] at hp
  have lp := blk_lt hp
  have hQd : ∀ q, (Q q ∨ q = p) → q < w1.heap.size := by
    intro q hq
    have := hx.sz
    rcases hq with hq | hq
    · have := hQl q hq; omega
    · omega
  have h1 : BuAt w0 w1 (fun q => Q q ∨ q = p) pb ps pl pa b := h.more hx fun q hq => by
    rcases hq with hq | hq
    · exact .inl hq
    · exact .inr ⟨by omega, by omega⟩
  refine W_loop (S := Nat × BSt) (fun z => [(0, .pointer (some ⟨pb, 0, none⟩)), (3, .pointer (some ⟨p, 0, none⟩)), (4, .int .i64 (z.1 : Int))])
    (fun z w4 => z.1 ≤ 20 ∧ R = doesB (20 - z.1) z.2 t ∧ doOk (20 - z.1) z.2 t ∧ BuAt w0 w4 (fun q => Q q ∨ q = p) pb ps pl pa z.2 ∧ Upd (AF w0 (fun q => Q q ∨ q = p)) w1 w4) (fun z => 20 - z.1) (0, b) ?_ ?_ ?_
  · (repeat simp only [push_cast, seval, -Nat.reduceSubDiff])
  · exact ⟨by omega, hR, hd, h1, Upd.refl _ _⟩
  rintro ⟨j, c⟩ w5 ⟨hj, hRj, hrj, h5, hu5⟩
  dsimp only at hj hRj hrj h5 ⊢
  have hs5 := hu5.alike.size
  have hp5 := (hu5.same p lp (fun hf => hf.2 (.inr rfl))).trans hp
  have fin : ∀ {wz : World} {c' : BSt}, R = c' → BuAt w0 wz (fun q => Q q ∨ q = p) pb ps pl pa c' → Upd (AF w0 (fun q => Q q ∨ q = p)) w1 wz → BuAt w0 wz Q pb ps pl pa R ∧ Upd (AF w0 Q) w wz := fun e hz hu =>
    ⟨e ▸ hz.less fun q hq => .inl hq, Upd.trans hx.upd (hu.mono fun q _ hf => ⟨hf.1, fun hq => hf.2 (.inl hq)⟩) fun _ _ h => h⟩
  by_cases hj8 : j < 20
  · have b0 : (j : Int) < 20 := by omega
    have b2 : inI64 ((j : Int) + 1) := by unfold inI64; omega
    have e8 : 20 - j = (20 - (j + 1)) + 1 := by omega
    rw [e8, doOk] at hrj
    rw [e8, doesB] at hRj
    obtain ⟨hmo, hrn⟩ := hrj
    (repeat first|(with_reducible first|(refine hK _ _ ?_;clear hK K)|refine ‹∀σ w,_→K σ w› _ _ ?_|(refine W_st ?_;constructor;try intro K hK))|((with_reducible first|refine hZ _ _ ?_|refine W_rg ?_|skip);repeat1' simp only[push_cast,seval,-Nat.reduceSubDiff,b0])|((repeat((fail_if_success with_reducible refine hK _ _ ?_);clear hK K));with_reducible refine hK _ _ ?_;clear hK K))
    refine (bmode_c h5).mono ?_
    intro v w' ⟨hv, hw⟩
    subst hv; subst w'
    (repeat first|(with_reducible first|(refine hK _ _ ?_;clear hK K)|refine ‹∀σ w,_→K σ w› _ _ ?_|(refine W_st ?_;constructor;try intro K hK))|((with_reducible first|refine hZ _ _ ?_|refine W_rg ?_|skip);repeat1' simp only[push_cast,seval,-Nat.reduceSubDiff])|((repeat((fail_if_success with_reducible refine hK _ _ ?_);clear hK K));with_reducible refine hK _ _ ?_;clear hK K))
    refine (own19_c c.mode).mono ?_
    intro v w' ⟨hv, hw⟩
    subst hv; subst w'
    cases ho : ownM c.mode with
    | false =>
      rw [if_neg (by rw [ho]; decide)] at hRj
      (repeat first|(with_reducible first|(refine hK _ _ ?_;clear hK K)|refine ‹∀σ w,_→K σ w› _ _ ?_|(refine W_st ?_;constructor;try intro K hK))|((with_reducible first|refine hZ _ _ ?_|refine W_rg ?_|skip);repeat1' simp only[push_cast,seval,-Nat.reduceSubDiff])|((repeat((fail_if_success with_reducible refine hK _ _ ?_);clear hK K));with_reducible refine hK _ _ ?_;clear hK K))
      exact fin hRj h5 hu5
    | true =>
      obtain ⟨hO, hn⟩ := hrn ho
      rw [if_pos ho] at hRj
      (repeat first|(with_reducible first|(refine hK _ _ ?_;clear hK K)|refine ‹∀σ w,_→K σ w› _ _ ?_|(refine W_st ?_;constructor;try intro K hK))|((with_reducible first|refine hZ _ _ ?_|refine W_rg ?_|skip);repeat1' simp only[push_cast,seval,-Nat.reduceSubDiff,cell_h,cellO_cells,hp5])|((repeat((fail_if_success with_reducible refine hK _ _ ?_);clear hK K));with_reducible refine hK _ _ ?_;clear hK K))
      rw [← hrow]
      refine (step_c h5 hO hg hS hM (fun q hq => by have := hQd q hq; omega) hmo ha0 ht).mono ?_
      rintro v w6 ⟨rfl, h6, hu6⟩
      have hu06 := Upd.trans hu5 hu6 fun _ _ h => h
      cases hm : (stepH c t).2 with
      | false =>
        rw [if_neg (by rw [hm]; decide)] at hRj
        (repeat first|(with_reducible first|(refine hK _ _ ?_;clear hK K)|refine ‹∀σ w,_→K σ w› _ _ ?_|(refine W_st ?_;constructor;try intro K hK))|((with_reducible first|refine hZ _ _ ?_|refine W_rg ?_|skip);repeat1' simp only[push_cast,seval,-Nat.reduceSubDiff])|((repeat((fail_if_success with_reducible refine hK _ _ ?_);clear hK K));with_reducible refine hK _ _ ?_;clear hK K))
        exact fin hRj h6 hu06
      | true =>
        rw [if_pos hm] at hRj
        (repeat first|(with_reducible first|(refine hK _ _ ?_;clear hK K)|refine ‹∀σ w,_→K σ w› _ _ ?_|(refine W_st ?_;constructor;try intro K hK))|((with_reducible first|refine hZ _ _ ?_|refine W_rg ?_|skip);repeat1' simp only[push_cast,seval,-Nat.reduceSubDiff,b2])|((repeat((fail_if_success with_reducible refine hK _ _ ?_);clear hK K));with_reducible refine hK _ _ ?_;clear hK K))
        refine ⟨(j + 1, (stepH c t).1), by show 20 - (j + 1) < 20 - j; omega, ?_⟩
        (repeat simp only [push_cast, seval, -Nat.reduceSubDiff])
        exact ⟨by omega, hRj, hn hm, h6, hu06⟩
  · have hje : j = 20 := by omega
    subst hje
    rw [Nat.sub_self, doesB] at hRj
    (repeat first|(with_reducible first|(refine hK _ _ ?_;clear hK K)|refine ‹∀σ w,_→K σ w› _ _ ?_|(refine W_st ?_;constructor;try intro K hK))|((with_reducible first|refine hZ _ _ ?_|refine W_rg ?_|skip);repeat1' simp only[push_cast,seval,-Nat.reduceSubDiff])|((repeat((fail_if_success with_reducible refine hK _ _ ?_);clear hK K));with_reducible refine hK _ _ ?_;clear hK K))
    exact fin hRj h5 hu5
end
end Go.Proofs.YtgnnlaeikcnhcaaGreatDoor
end
section
set_option linter.unusedSimpArgs false
set_option linter.unusedVariables false
namespace Go.Vk
open Go
def zRow : Array Value := #[.pointer none, .pointer none, .pointer none, .int .i64 0, .int .i64 0, .slice none 0 0, .int .i64 0, .int .i64 0, .bool false, .bool false, .bool false, .string ⟨#[]⟩, .pointer none, .nilIface]
def NoB (w : World) (pv : Option Addr) : Prop := pv = none ∨ ∃ pb, pv = some ⟨pb, 0, none⟩ ∧ w.heap[pb]? = some (.cells zRow 67 (0, 0))
theorem NoB.ext {w w' : World} {pv : Option Addr} (h : NoB w pv) (hx : Ext w w') : NoB w' pv := h.imp id fun ⟨pb, e, h⟩ => ⟨pb, e, hx.blk h⟩
end Go.Vk
end
section
set_option linter.unusedSimpArgs false
set_option linter.unusedVariables false
namespace Go.Vk
open Go Go.Proofs.YtgnnlaeikcnhcaaGreatDoor
def hdOb (m : Nat) (b : BSt) : Bool := decide (b.L.length + m < 90000) && (decide (b.s.length + m < 10000) && (decide (b.l.length + m < 10000) && (decide (b.modes.length + m < 99000) && ((b.L.all fun n => decide (n.name.size < 4294967281) && (decide (n.text.size < 1000000000) && decide (n.attrs.length < 1000000))) && b.s.all fun o => decide (o.name.size < 4294967281)))))
theorem hdOb_ok {m : Nat} {b : BSt} (h : hdOb m b = true) : HdO m b := by
  simp only [hdOb, Bool.and_eq_true, decide_eq_true_eq, List.all_eq_true] at h
  obtain ⟨h1, h2, h3, h4, h5, h6⟩ := h
  exact ⟨h1, h2, h3, h4, fun n hn => h5 n hn, h6⟩
def doOkb : Nat → BSt → HTok → Bool
  | 0, _, _ => true
  | n + 1, b, t => (decide (-9223372036854775808 ≤ b.mode) && decide (b.mode ≤ 9223372036854775807)) && (!ownM b.mode || (hdOb 6 b && (!(stepH b t).2 || doOkb n (stepH b t).1 t)))
theorem doOkb_ok {t : HTok} : ∀ {n : Nat} {b : BSt}, doOkb n b t = true → doOk n b t
  | 0, _, _ => trivial
  | n + 1, b, h => by
    rw [doOkb, Bool.and_eq_true, Bool.and_eq_true, decide_eq_true_eq, decide_eq_true_eq] at h
    refine ⟨⟨h.1.1, h.1.2⟩, fun ho => ?_⟩
    have h2 := h.2
    rw [ho, Bool.not_true, Bool.false_or, Bool.and_eq_true] at h2
    refine ⟨hdOb_ok h2.1, fun hs => ?_⟩
    have h3 := h2.2
    rw [hs, Bool.not_true, Bool.false_or] at h3
    exact doOkb_ok h3
def tEOF : HTok := ⟨8, ⟨#[]⟩, ⟨#[]⟩, [], false, false, false, 0, 0⟩
def tDoc : HTok := ⟨1, sHtml, ⟨#[]⟩, [], false, false, false, 0, 0⟩
def tCom : HTok := ⟨4, ⟨#[]⟩, ⟨#[99]⟩, [], false, false, false, 0, 0⟩
def bgA : BSt := doesB 20 newB tEOF
def bgB1 : BSt := doesB 20 newB tDoc
def bgB2 : BSt := doesB 20 bgB1 tCom
def bgB3 : BSt := doesB 20 bgB2 (tok19 2 sHtml)
def bgB : BSt := doesB 20 bgB3 (tok19 2 sTitle)
def bgC1 : BSt := doesB 20 newB (tok19 2 sHtml)
def bgC2 : BSt := doesB 20 bgC1 (tok19 2 sHead)
def bgC3 : BSt := doesB 20 bgC2 (tok19 2 tmpl)
def bgC : BSt := (headH bgC3 (tok19 3 tmpl)).1
theorem bg_ok : (doOkb 20 newB tEOF, doOkb 20 newB tDoc, doOkb 20 bgB1 tCom, doOkb 20 bgB2 (tok19 2 sHtml), doOkb 20 bgB3 (tok19 2 sTitle), doOkb 20 newB (tok19 2 sHtml), doOkb 20 bgC1 (tok19 2 sHead), doOkb 20 bgC2 (tok19 2 tmpl), hdOb 6 bgC3) = (true, true, true, true, true, true, true, true, true) := by kernel_rfl
end Go.Vk
end
section
set_option linter.unusedSimpArgs false
set_option linter.unusedVariables false
namespace Go.Vk
open Go Go.Proofs.YtgnnlaeikcnhcaaGreatDoor
section
variable {L : List Nd} {ns : List Int} {hd : Int}
theorem Sha.i0 (h : Sha L 0 ns hd) : ns = [] ∧ elK L 0 = [] := by
  rcases h with ⟨_, e⟩ | ⟨e, _⟩ | ⟨e, _⟩ | ⟨e, _⟩ | ⟨e, _⟩ | ⟨e, _⟩
  · exact e
  all_goals omega
theorem Sha.i1 (h : Sha L 1 ns hd) : ns = [] ∧ elK L 0 = [] := by
  rcases h with ⟨_, e⟩ | ⟨e, _⟩ | ⟨e, _⟩ | ⟨e, _⟩ | ⟨e, _⟩ | ⟨e, _⟩
  · exact e
  all_goals omega
theorem Sha.i2 (h : Sha L 2 ns hd) : ∃ r, ns = [r] ∧ Rt L r ∧ elK L r = [] := by
  rcases h with ⟨e, _⟩ | ⟨_, e⟩ | ⟨e, _⟩ | ⟨e, _⟩ | ⟨e, _⟩ | ⟨e, _⟩
  · omega
  · exact e
  all_goals omega
theorem Sha.i3 (h : Sha L 3 ns hd) : ∃ r, ns = [r, hd] ∧ Rt L r ∧ elK L r = [hd] ∧ Hd L r hd := by
  rcases h with ⟨e, _⟩ | ⟨e, _⟩ | ⟨_, e⟩ | ⟨e, _⟩ | ⟨e, _⟩ | ⟨e, _⟩
  · omega
  · omega
  · exact e
  all_goals omega
theorem Sha.i4 (h : Sha L 4 ns hd) : ∃ r n, ns = [r, hd, n] ∧ Rt L r ∧ elK L r = [hd] ∧ Hd L r hd ∧ n ≠ r ∧ n ≠ hd := by
  rcases h with ⟨e, _⟩ | ⟨e, _⟩ | ⟨e, _⟩ | ⟨_, e⟩ | ⟨e, _⟩ | ⟨e, _⟩
  · omega
  · omega
  · omega
  · exact e
  all_goals omega
theorem Sha.i5 (h : Sha L 5 ns hd) : ∃ r, ns = [r] ∧ Rt L r ∧ elK L r = [hd] ∧ Hd L r hd := by
  rcases h with ⟨e, _⟩ | ⟨e, _⟩ | ⟨e, _⟩ | ⟨e, _⟩ | ⟨_, e⟩ | ⟨e, _⟩
  · omega
  · omega
  · omega
  · omega
  · exact e
  · omega
theorem Sha.i6 (h : Sha L 6 ns hd) : ∃ r o, ns = [r, o] ∧ Rt L r ∧ elK L r = [hd, o] ∧ Hd L r hd ∧ (gN L o).name = sBody_ ∧ (gN L o).space = 0 := by
  rcases h with ⟨e, _⟩ | ⟨e, _⟩ | ⟨e, _⟩ | ⟨e, _⟩ | ⟨e, _⟩ | ⟨_, e⟩
  · omega
  · omega
  · omega
  · omega
  · omega
  · exact e
theorem Sha.mode {m : Int} (h : Sha L m ns hd) : m = 0 ∨ m = 1 ∨ m = 2 ∨ m = 3 ∨ m = 4 ∨ m = 5 ∨ m = 6 := by
  rcases h with ⟨e, _⟩ | ⟨e, _⟩ | ⟨e, _⟩ | ⟨e, _⟩ | ⟨e, _⟩ | ⟨e, _⟩ <;> omega
end
section
variable {b : BSt} {t : HTok}
theorem HInv.of (h : Shp b) (hs : Sha b.L b.mode (nds b.s) b.head) : HInv b := .inr ⟨h, .inl hs⟩
theorem targ0 (e : nds b.s = []) : targB b = 0 := by
  have : b.s = [] := by simpa [nds] using e
  unfold targB topS
  rw [this]; rfl
theorem len500 {m hd : Int} (hs : Sha b.L m (nds b.s) hd) : b.s.length < 500 := by have := hs.lt; rw [nds_len] at this; omega
theorem inv_init (h : Shp b) (hm : b.mode = 0) (hs : Sha b.L 0 (nds b.s) b.head) : HInv (initH b t).1 := by
  obtain ⟨e1, e2⟩ := hs.i0
  unfold initH
  split
  · exact .of h (by rw [hm]; exact hs)
  split
  · obtain ⟨L', e, h1, h2⟩ := hs.comm h t.text (into := 0) (.inr rfl)
    rw [e]
    exact .of h1 (by show Sha L' b.mode _ _; rw [hm]; exact h2)
  split
  · have hpos : 0 < b.L.length := List.length_pos_iff.2 h.gd.ne
    have ea : addN b.L (doctN t) = (b.L ++ [bareN (doctN t)], (b.L.length : Int)) := addN_no rfl (fun hh => by cases hh)
    have eadd : addB b (doctN t) = { b with L := b.L ++ [bareN (doctN t)] } := by unfold addB; rw [ea]
    obtain ⟨L2, e2', hN⟩ := app_new h.gd (n := bareN (doctN t)) rfl rfl rfl (q := 0) ⟨by decide, by omega⟩ (by rw [h.gd.doc]; rfl)
    have hS := h.new hN rfl (fun hh => by cases hh)
    have hs2 := hN.sha hs (.inl (by show (2 : Int) ≠ 3; decide))
    rw [ea, eadd]
    dsimp only
    rw [e2']
    refine .of (hS.set ⟨rfl, rfl, rfl⟩) ?_
    obtain ⟨_, g2⟩ := hs2.i0
    exact .inl ⟨.inr rfl, e1, g2⟩
  · exact .of (h.set ⟨rfl, rfl, rfl⟩) (.inl ⟨.inr rfl, e1, e2⟩)
theorem ins_root (h : Shp b) (e1 : nds b.s = []) (e2 : elK b.L 0 = []) {t : HTok} (hn : t.name = sHtml) : HInv (modeB (insertB b (elTok t 0)).1 2) := by
  obtain ⟨b', n, e, g1, g2, g3, g4, g5, g6, g7, g8, g9, g10⟩ := h.insT (by have := nds_len b; rw [e1] at this; simp at this; omega) (t := t) (by rw [hn]; decide)
  rw [e]
  rw [targ0 e1] at g1
  have hpos : 0 < b.L.length := List.length_pos_iff.2 h.gd.ne
  have hl := g1.len
  refine .of (h10_ g10) (.inr (.inl ⟨rfl, (b.L.length : Int), ?_, ⟨?_, ?_, ?_⟩, g1.elk0⟩))
  · show nds b'.s = _
    rw [g5, e1]; rfl
  · show elK b'.L 0 = _
    rw [g1.elk (by omega), if_pos ⟨rfl, g2⟩, e2]; rfl
  · show (gN b'.L _).name = _
    rw [g1.new]
    show n.name = _
    rw [g3, hn]
  · show 1 ≤ (b.L.length : Int) ∧ (b.L.length : Int) < (b'.L.length : Int)
    omega
where h10_ {c : BSt} (h : Shp c) : Shp (modeB c 2) := h.set ⟨rfl, rfl, rfl⟩
theorem inv_bhtml (h : Shp b) (hm : b.mode = 1) (hs : Sha b.L 1 (nds b.s) b.head) : HInv (bhtmlH b t).1 := by
  obtain ⟨e1, e2⟩ := hs.i1
  unfold bhtmlH
  split
  · obtain ⟨L', e, h1, h2⟩ := hs.comm h t.text (into := 0) (.inr rfl)
    rw [e]
    exact .of h1 (by show Sha L' b.mode _ _; rw [hm]; exact h2)
  split
  · exact .of h (by rw [hm]; exact hs)
  split
  · rename_i hh
    have := (startT_nm hh).2
    exact ins_root h e1 e2 (by simpa [lHtml, sHtml] using this)
  · exact ins_root h e1 e2 (t := tokI sHtml) rfl
theorem ins_head (h : Shp b) {r : Int} (e1 : nds b.s = [r]) (hr : Rt b.L r) (e2 : elK b.L r = []) {t : HTok} (hn : t.name = sHead) : HInv { (insertB b (elTok t 0)).1 with head := (insertB b (elTok t 0)).2, mode := 3 } := by
  obtain ⟨b', n, e, g1, g2, g3, g4, g5, g6, g7, g8, g9, g10⟩ := h.insT (by have := nds_len b; rw [e1] at this; simp at this; omega) (t := t) (by rw [hn]; decide)
  rw [e]
  obtain ⟨tr, r1, r2⟩ := topT h (ns := []) e1
  rw [tr] at g1
  have hl := g1.len
  have h0 : elK b'.L 0 = [r] := by rw [g1.elk (by omega), if_neg (fun hh => by have := hh.1; omega)]; exact hr.el
  have hnr : (gN b'.L r).name = sHtml := by rw [(g1.old (t := r) (by omega)).2.1]; exact hr.nm
  refine .of (g10.set ⟨rfl, rfl, rfl⟩) (.inr (.inr (.inl ⟨rfl, r, ?_, ⟨h0, hnr, by show 1 ≤ r ∧ r < (b'.L.length : Int); omega⟩, ?_, ⟨?_, ?_, ?_⟩⟩)))
  · show nds b'.s = _
    rw [g5, e1]; rfl
  · show elK b'.L r = [(b.L.length : Int)]
    rw [g1.elk (by omega), if_pos ⟨rfl, g2⟩, e2]; rfl
  · show (gN b'.L (b.L.length : Int)).name = _
    rw [g1.new]
    show n.name = _
    rw [g3, hn]
  · show 1 ≤ (b.L.length : Int) ∧ (b.L.length : Int) < (b'.L.length : Int)
    omega
  · show (b.L.length : Int) ≠ r
    omega
theorem inv_bhead (h : Shp b) (hm : b.mode = 2) (hs : Sha b.L 2 (nds b.s) b.head) : HInv (bheadH b t).1 := by
  obtain ⟨r, e1, e2, e3⟩ := hs.i2
  unfold bheadH
  split
  · obtain ⟨L', e, h1, h2⟩ := hs.comm h t.text (into := -1) (.inl rfl)
    rw [e]
    exact .of h1 (by show Sha L' b.mode _ _; rw [hm]; exact h2)
  split
  · exact .of h (by rw [hm]; exact hs)
  split
  · obtain ⟨L', e, h1, h2⟩ := hs.more h t
    rw [e]
    exact .of h1 (by show Sha L' b.mode _ _; rw [hm]; exact h2)
  split
  · rename_i hh
    have := (startT_nm hh).2
    exact ins_head h e1 e2 e3 (by simpa [lHead, sHead] using this)
  · exact ins_head h e1 e2 e3 (t := tokI sHead) rfl
theorem own_inv {m : Int} {ns : List Int} {x : Int} (h : Shp b) (hs : Sha b.L m (nds b.s) b.head) (hb : b.mode = m) (hr : rawM m) (hx : nds b.s = ns ++ [x]) (hxn : x ≠ 0 ∧ ∀ r, (nds b.s).head? = some r → x ≠ r) : HInv (ownH b t) := by
  rcases hs.own h hb (len500 hs) hx hxn t with e | ⟨h1, h2, h3, ⟨h4, h5⟩ | ⟨h4, h5, o, h6, _⟩⟩
  · exact .inl e
  · refine .of h1 ?_
    rw [h4, h5, h2]; exact h3
  · refine .inr ⟨h1, .inr ⟨h4, by rw [h5]; exact hr, nds b.s, o.node, by rw [h6, nds_one], ?_⟩⟩
    rw [h5, h2]; exact h3
theorem lNo2_or (h : startT t lNo2 = true) : startT t lHtml = true ∨ belT t = true := by
  obtain ⟨h1, h2⟩ := startT_nm h
  simp only [lNo2, List.mem_cons, List.not_mem_nil, or_false] at h2
  have hk : decide (t.kind = 2) = true := decide_eq_true h1
  rcases h2 with e | e | e | e | e | e | e
  · left; unfold startT; rw [hk, e]; decide
  all_goals
    right; unfold belT startT; rw [hk, e]
    rw [Bool.or_eq_true]
    exact .inl (by decide)
theorem inv_head {m : Int} {ns : List Int} {x : Int} (h : Shp b) (hs : Sha b.L m (nds b.s) b.head) (hb : b.mode = m) (hr : m = 3 ∨ m = 4) (hx : nds b.s = ns ++ [x]) (hxn : x ≠ 0 ∧ ∀ r, (nds b.s).head? = some r → x ≠ r) (h4 : m = 3 ∨ t.kind = 5 ∨ t.kind = 4 ∨ startT t lNo2 = true) : HInv (headH b t).1 := by
  have hself : HInv b := .of h (by rw [hb]; exact hs)
  unfold headH
  split
  · exact hself
  split
  · obtain ⟨L', e, h1, h2⟩ := hs.chars h t.text
    rw [e]
    exact .of h1 (by show Sha L' b.mode _ _; rw [hb]; exact h2)
  rename_i k5
  split
  · obtain ⟨L', e, h1, h2⟩ := hs.comm h t.text (into := -1) (.inl rfl)
    rw [e]
    exact .of h1 (by show Sha L' b.mode _ _; rw [hb]; exact h2)
  rename_i k4
  split
  · obtain ⟨L', e, h1, h2⟩ := hs.more h t
    rw [e]
    exact .of h1 (by show Sha L' b.mode _ _; rw [hb]; exact h2)
  rename_i kh
  split
  · exact own_inv h hs hb (by rcases hr with e | e <;> rw [e] <;> simp [rawM]) hx hxn
  rename_i kb
  have h3 : m = 3 := by
    rcases h4 with e | e | e | e
    · exact e
    · exact absurd e k5
    · exact absurd e k4
    · rcases lNo2_or e with e | e
      · exact absurd e kh
      · exact absurd e kb
  subst h3
  obtain ⟨r, e1, e2, e3, e4⟩ := hs.i3
  split
  · rename_i hh
    have hn := (startT_nm hh).2
    obtain ⟨b', n, e, g1, g2, g3, g4, g5, g6, g7, g8, g9, g10⟩ := h.insT (len500 hs) (t := t) (by
      have : t.name = ⟨#[110, 111, 115, 99, 114, 105, 112, 116]⟩ := by simpa [lNos] using hn
      rw [this]; decide)
    rw [e]
    obtain ⟨tr, _, _⟩ := topT h (ns := [r]) (x := b.head) e1
    rw [tr] at g1
    have hs' := g1.sha hs (.inr ⟨by have := e4.d0; omega, fun r' hr' => by rw [e1] at hr'; cases hr'; exact e4.dr⟩)
    obtain ⟨r', q1, q2, q3, q4⟩ := hs'.i3
    rw [e1] at q1
    obtain rfl : r = r' := by simpa using q1
    refine .of (g10.set ⟨rfl, rfl, rfl⟩) (.inr (.inr (.inr (.inl ⟨rfl, r, (b.L.length : Int), ?_, q2, ?_, ?_, by have := e2.r0; omega, ?_⟩))))
    · show nds b'.s = [r, b'.head, _]
      rw [g5, e1, g8]; rfl
    · show elK b'.L r = [b'.head]
      rw [g8]; exact q3
    · show Hd b'.L r b'.head
      rw [g8]; exact q4
    · show (b.L.length : Int) ≠ b'.head
      rw [g8]; have := e4.d0; omega
  split
  · exact hself
  · refine .of (b := modeB (popS b) 5) ((h.sets (s' := b.s.dropLast) fun o ho => List.mem_of_mem_take (by rwa [List.dropLast_eq_take] at ho)).set ⟨rfl, rfl, rfl⟩) (.inr (.inr (.inr (.inr (.inl ⟨rfl, r, ?_, e2, e3, e4⟩)))))
    show nds b.s.dropLast = [r]
    unfold nds at e1 ⊢
    rw [List.map_dropLast, e1]; rfl
theorem head0 {r x : Int} {l : List Int} (e : nds b.s = r :: l) (h : ∀ q, r = q → x ≠ q) : ∀ q, (nds b.s).head? = some q → x ≠ q := fun q hq => by
  rw [e] at hq
  exact h q (by simpa using hq)
theorem inv_nos (h : Shp b) (hm : b.mode = 4) (hs : Sha b.L 4 (nds b.s) b.head) : HInv (nosH b t).1 := by
  obtain ⟨r, n, e1, e2, e3, e4, e5, e6⟩ := hs.i4
  have hself : HInv b := .of h (by rw [hm]; exact hs)
  obtain ⟨_, n1, _⟩ := topT h (ns := [r, b.head]) (x := n) e1
  unfold nosH
  split
  · exact hself
  split
  · rename_i hh
    exact inv_head h hs hm (.inr rfl) (ns := [r, b.head]) (x := n) e1 ⟨by omega, head0 e1 fun q hq => hq ▸ e5⟩ (.inr hh)
  split
  · exact hself
  · refine .of (b := modeB (popS b) 3) ((h.sets (s' := b.s.dropLast) fun o ho => List.mem_of_mem_take (by rwa [List.dropLast_eq_take] at ho)).set ⟨rfl, rfl, rfl⟩) (.inr (.inr (.inl ⟨rfl, r, ?_, e2, e3, e4⟩)))
    show nds b.s.dropLast = [r, b.head]
    unfold nds at e1 ⊢
    rw [List.map_dropLast, e1]; rfl
theorem ins_body (h : Shp b) {r : Int} (e1 : nds b.s = [r]) (hr : Rt b.L r) (e2 : elK b.L r = [b.head]) (e3 : Hd b.L r b.head) {t : HTok} (hn : t.name = sBody_) : HInv (modeB (insertB b (elTok t 0)).1 6) := by
  obtain ⟨b', n, e, g1, g2, g3, g4, g5, g6, g7, g8, g9, g10⟩ := h.insT (by have := nds_len b; rw [e1] at this; simp at this; omega) (t := t) (by rw [hn]; decide)
  rw [e]
  obtain ⟨tr, r1, r2⟩ := topT h (ns := []) e1
  rw [tr] at g1
  have hl := g1.len
  have h0 : elK b'.L 0 = [r] := by rw [g1.elk (by omega), if_neg (fun hh => by have := hh.1; omega)]; exact hr.el
  have hnr : (gN b'.L r).name = sHtml := by rw [(g1.old (t := r) (by omega)).2.1]; exact hr.nm
  have hd0 := e3.d0
  refine .of (b := modeB b' 6) (g10.set ⟨rfl, rfl, rfl⟩) (.inr (.inr (.inr (.inr (.inr ⟨rfl, r, (b.L.length : Int), ?_, ⟨h0, hnr, by show 1 ≤ r ∧ r < (b'.L.length : Int); omega⟩, ?_, ?_, ?_, ?_⟩)))))
  · show nds b'.s = _
    rw [g5, e1]; rfl
  · show elK b'.L r = [b'.head, (b.L.length : Int)]
    rw [g1.elk (by omega), if_pos ⟨rfl, g2⟩, e2, g8]; rfl
  · show Hd b'.L r b'.head
    rw [g8]
    exact ⟨by rw [(g1.old (t := b.head) (by omega)).2.1]; exact e3.nm, by omega, e3.dr⟩
  · show (gN b'.L (b.L.length : Int)).name = _
    rw [g1.new]
    show n.name = _
    rw [g3, hn]
  · show (gN b'.L (b.L.length : Int)).space = _
    rw [g1.new]
    exact g4
theorem inv_after (h : Shp b) (hm : b.mode = 5) (hs : Sha b.L 5 (nds b.s) b.head) : HInv (afterH b t).1 := by
  obtain ⟨r, e1, e2, e3, e4⟩ := hs.i5
  have hself : HInv b := .of h (by rw [hm]; exact hs)
  unfold afterH
  split
  · obtain ⟨L', e, h1, h2⟩ := hs.chars h t.text
    rw [e]
    exact .of h1 (by show Sha L' b.mode _ _; rw [hm]; exact h2)
  split
  · obtain ⟨L', e, h1, h2⟩ := hs.comm h t.text (into := -1) (.inl rfl)
    rw [e]
    exact .of h1 (by show Sha L' b.mode _ _; rw [hm]; exact h2)
  split
  · exact hself
  split
  · obtain ⟨L', e, h1, h2⟩ := hs.more h t
    rw [e]
    exact .of h1 (by show Sha L' b.mode _ _; rw [hm]; exact h2)
  split
  · rename_i hh
    have := (startT_nm hh).2
    exact ins_body h e1 e2 e3 e4 (by simpa [lBody, sBody_] using this)
  split
  · rename_i hh
    obtain ⟨k3, hn⟩ := endT_nm hh
    have hn : t.name = tmpl := by simpa [lTem, tmpl] using hn
    have hb : belT t = true := by unfold belT; rw [hh, Bool.or_true]
    have hst : startT t lHtml = false := by unfold startT; rw [k3]; rfl
    unfold headH
    rw [if_neg (by rw [k3]; decide), if_neg (by rw [k3]; decide), if_neg (by rw [k3]; decide), if_neg (by rw [hst]; decide), if_pos hb]
    unfold ownH temH
    rw [if_pos hn, if_neg (by rw [k3]; decide), h.noT, if_neg (by decide)]
    exact hself
  split
  · have hd0 := e4.d0
    have hk3 : (gN b.L b.head).kind = 3 := by
      have : b.head ∈ elK b.L r := by rw [e3]; simp
      unfold elK at this
      exact of_decide_eq_true (List.mem_filter.1 this).2
    have hnd : nodeN b.L b.head = gN b.L b.head := nodeN_gN (by omega)
    have hop : opN b.L b.head = ⟨b.head, (gN b.L b.head).space, (gN b.L b.head).name⟩ := by
      unfold nodeN at hnd
      unfold opN; rw [hnd]
    have hlen := len500 hs
    have hpu : pushedB b b.head = { b with s := b.s ++ [opN b.L b.head] } := by
      unfold pushedB pushB insS
      unfold nodeN at hnd
      rw [hnd, if_pos hk3, if_pos ⟨by omega, Int.le_refl _⟩, if_neg (by omega), Int.toNat_natCast, List.take_length, List.drop_length]
      unfold failB
      rw [if_neg (fun h => h.2 rfl)]
    have hnode : (opN b.L b.head).node = b.head := rfl
    have hC : Shp { b with s := b.s ++ [opN b.L b.head] } := ⟨h.gd, h.fo, h.nt, fun o ho => by
      have ho : o ∈ b.s ++ [opN b.L b.head] := ho
      rcases List.mem_append.1 ho with ho | ho
      · exact h.st o ho
      · rw [List.mem_singleton] at ho
        rw [ho, hop]
        exact ⟨by show 1 ≤ b.head; omega, by show b.head < (b.L.length : Int); omega, hk3, rfl⟩⟩
    have hcx : nds ({ b with s := b.s ++ [opN b.L b.head] } : BSt).s = [r] ++ [b.head] := by
      show nds (b.s ++ [opN b.L b.head]) = _
      rw [nds_one, e1, hnode]
    have hs5 : Sha b.L 5 [r] b.head := by rw [← e1]; exact hs
    rw [hpu]
    rcases Sha.own (b := { b with s := b.s ++ [opN b.L b.head] }) (m := 5) (ns0 := [r]) (hd := b.head) hC hs5 hm (by show (b.s ++ [opN b.L b.head]).length < 500; have := nds_len b; rw [e1] at this; simp at this ⊢; omega) hcx ⟨by omega, fun q hq => by
      have : r = q := by simpa using hq
      rw [← this]; exact e4.dr⟩ t with e | ⟨h1, h2, h3, ⟨h4, h5⟩ | ⟨h4, h5, o, h6, h7⟩⟩
    · exact .inl e
    · have h2 : (ownH { b with s := b.s ++ [opN b.L b.head] } t).head = b.head := h2
      have h5 : (ownH { b with s := b.s ++ [opN b.L b.head] } t).s = b.s ++ [opN b.L b.head] := h5
      generalize ownH { b with s := b.s ++ [opN b.L b.head] } t = c at *
      have hrem : (remS c.s c.head).1 = b.s := by
        rw [h5, h2]
        have := rem_mid (A := b.s) (B := []) (o := opN b.L b.head) (by simp)
        rw [hnode] at this
        rw [this]; simp
      show HInv (remB c c.head)
      unfold remB
      rw [hrem]
      refine .of (b := { c with s := b.s }) (h1.sets fun o ho => by rw [h5]; simp [ho]) ?_
      show Sha c.L c.mode (nds b.s) c.head
      rw [h4, h2, e1]; exact h3
    · have h2 : (ownH { b with s := b.s ++ [opN b.L b.head] } t).head = b.head := h2
      have h6 : (ownH { b with s := b.s ++ [opN b.L b.head] } t).s = b.s ++ [opN b.L b.head] ++ [o] := h6
      have h7 : (b.L.length : Int) ≤ o.node := h7
      generalize ownH { b with s := b.s ++ [opN b.L b.head] } t = c at *
      have hrem : (remS c.s c.head).1 = b.s ++ [o] := by
        rw [h6, h2]
        have := rem_mid (A := b.s) (B := [o]) (o := opN b.L b.head) (fun z hz => by
          rw [List.mem_singleton] at hz
          rw [hz, hnode]; omega)
        rw [hnode] at this
        rw [List.append_assoc]
        show (remS (b.s ++ opN b.L b.head :: [o]) b.head).1 = _
        rw [this]
      show HInv (remB c c.head)
      unfold remB
      rw [hrem]
      refine .inr ⟨h1.sets (s' := b.s ++ [o]) fun z hz => by
        rw [h6]
        simp only [List.mem_append, List.mem_singleton] at hz ⊢
        rcases hz with hz | hz
        · exact .inl (.inl hz)
        · exact .inr hz, .inr ⟨h4, by show rawM c.back; rw [h5]; simp [rawM], [r], o.node, by show nds (b.s ++ [o]) = _; rw [nds_one, e1], ?_⟩⟩
      show Sha c.L c.back [r] c.head
      rw [h5, h2]; exact h3
  split
  · exact hself
  · exact ins_body h e1 e2 e3 e4 (t := tokI sBody_) rfl
theorem inv_text (h : Shp b) (hm : b.mode = 7) (hr : rawM b.back) {ns : List Int} {x : Int} (hx : nds b.s = ns ++ [x]) (hs : Sha b.L b.back ns b.head) : HInv (textH b t).1 := by
  unfold textH
  split
  · obtain ⟨L', e, h1, h2⟩ := hs.chars h t.text
    rw [e]
    exact .inr ⟨h1, .inr ⟨hm, hr, ns, x, hx, h2⟩⟩
  · refine .of (b := modeB (popS b) b.back) ((h.sets (s' := b.s.dropLast) fun o ho => List.mem_of_mem_take (by rwa [List.dropLast_eq_take] at ho)).set ⟨rfl, rfl, rfl⟩) ?_
    show Sha b.L b.back (nds b.s.dropLast) b.head
    have : nds b.s.dropLast = ns := by
      unfold nds at hx ⊢
      rw [List.map_dropLast, hx]; simp
    rw [this]; exact hs
theorem HInv.step (h : HInv b) (t : HTok) : HInv (stepH b t).1 := by
  rcases h with h15 | ⟨h, hs | ⟨hm, hr, ns, x, hx, hs⟩⟩
  · unfold stepH
    rw [if_neg (by omega), if_neg (by omega), if_neg (by omega), if_neg (by omega), if_neg (by omega), if_neg (by omega), if_neg (by omega)]
    exact .inl h15
  · unfold stepH
    split
    · rename_i e; rw [e] at hs; exact inv_init h e hs
    split
    · rename_i e; rw [e] at hs; exact inv_bhtml h e hs
    split
    · rename_i e; rw [e] at hs; exact inv_bhead h e hs
    split
    · rename_i e
      rw [e] at hs
      obtain ⟨r, e1, e2, e3, e4⟩ := hs.i3
      exact inv_head h hs e (.inl rfl) (ns := [r]) (x := b.head) e1 ⟨by have := e4.d0; omega, head0 e1 fun q hq => hq ▸ e4.dr⟩ (.inl rfl)
    split
    · rename_i e; rw [e] at hs; exact inv_nos h e hs
    split
    · rename_i e; rw [e] at hs; exact inv_after h e hs
    split
    · rename_i e
      have := hs.mode
      omega
    · exact .of h hs
  · unfold stepH
    rw [if_neg (by omega), if_neg (by omega), if_neg (by omega), if_neg (by omega), if_neg (by omega), if_neg (by omega), if_pos hm]
    exact inv_text h hm hr hx hs
theorem HInv.modes (h : HInv b) : b.mode = 15 ∨ b.mode = 0 ∨ b.mode = 1 ∨ b.mode = 2 ∨ b.mode = 3 ∨ b.mode = 4 ∨ b.mode = 5 ∨ b.mode = 6 ∨ (b.mode = 7 ∧ rawM b.back) := by
  rcases h with h15 | ⟨h, hs | ⟨hm, hr, _⟩⟩
  · exact .inl h15
  · have := hs.mode; omega
  · right; right; right; right; right; right; right; right; exact ⟨hm, hr⟩
def rkM (m : Int) : Nat := if m = 6 then 0 else if m = 5 then 1 else if m = 3 then 2 else if m = 4 then 3 else if m = 2 then 3 else if m = 1 then 4 else if m = 0 then 5 else 6
def rkB (b : BSt) : Nat := if b.mode = 7 then rkM b.back + 1 else rkM b.mode
theorem eof_step (h : HInv b) (h15 : b.mode ≠ 15) (h6 : b.mode ≠ 6) : (stepH b tEOF).2 = true ∧ (stepH b tEOF).1.mode ≠ 15 ∧ rkB (stepH b tEOF).1 < rkB b := by
  have e0 : tEOF.kind = 8 := rfl
  have s1 : ∀ l, startT tEOF l = false := fun l => by unfold startT; rw [e0]; rfl
  have s2 : ∀ l, endT tEOF l = false := fun l => by unfold endT; rw [e0]; rfl
  have s3 : strT tEOF = false := by unfold strT; rw [e0]; rfl
  have s4 : belT tEOF = false := by unfold belT; rw [s1, s2]; rfl
  rcases h.modes with e | e | e | e | e | e | e | e | ⟨e, hr⟩
  · exact absurd e h15
  · have : stepH b tEOF = ({ b with quirks := true, mode := 1 }, true) := by simp [stepH, e, initH, e0]
    rw [this]
    exact ⟨rfl, by show (1 : Int) ≠ 15; decide, by simp [rkB, rkM, e]⟩
  · have : stepH b tEOF = (modeB (implyB b sHtml).1 2, true) := by simp [stepH, e, bhtmlH, e0, s1, s3]
    rw [this]
    exact ⟨rfl, by show (2 : Int) ≠ 15; decide, by simp [rkB, rkM, e, modeB]⟩
  · have : stepH b tEOF = ({ (implyB b sHead).1 with head := (implyB b sHead).2, mode := 3 }, true) := by simp [stepH, e, bheadH, e0, s1, s3]
    rw [this]
    exact ⟨rfl, by show (3 : Int) ≠ 15; decide, by simp [rkB, rkM, e]⟩
  · have : stepH b tEOF = (modeB (popS b) 5, true) := by simp [stepH, e, headH, e0, s1, s2, s3, s4]
    rw [this]
    exact ⟨rfl, by show (5 : Int) ≠ 15; decide, by simp [rkB, rkM, e, modeB]⟩
  · have : stepH b tEOF = (modeB (popS b) 3, true) := by simp [stepH, e, nosH, e0, s1, s2]
    rw [this]
    exact ⟨rfl, by show (3 : Int) ≠ 15; decide, by simp [rkB, rkM, e, modeB]⟩
  · have : stepH b tEOF = (modeB (implyB b sBody_).1 6, true) := by simp [stepH, e, afterH, e0, s1, s2, s3, s4]
    rw [this]
    exact ⟨rfl, by show (6 : Int) ≠ 15; decide, by simp [rkB, rkM, e, modeB]⟩
  · exact absurd e h6
  · have : stepH b tEOF = (modeB (popS b) b.back, true) := by simp [stepH, e, textH, e0]
    rw [this]
    have hb : b.back = 3 ∨ b.back = 4 ∨ b.back = 5 := hr
    refine ⟨rfl, by show b.back ≠ 15; omega, ?_⟩
    have hne : ¬ (modeB (popS b) b.back).mode = 7 := by show ¬ b.back = 7; omega
    unfold rkB
    rw [if_neg hne, if_pos e]
    show rkM b.back < rkM b.back + 1
    omega
theorem ownM_of (h : HInv b) : ownM b.mode = true ↔ b.mode ≠ 15 ∧ b.mode ≠ 6 := by
  rcases h.modes with e | e | e | e | e | e | e | e | ⟨e, _⟩ <;> rw [e] <;> decide
theorem eof_all : ∀ (n : Nat) {b : BSt}, HInv b → b.mode ≠ 15 → rkB b ≤ n → HInv (doesB n b tEOF) ∧ (doesB n b tEOF).mode = 6
  | 0, b, h, h15, hr => by
    refine ⟨h, ?_⟩
    show b.mode = 6
    rcases h.modes with e | e | e | e | e | e | e | e | ⟨e, _⟩
    · exact absurd e h15
    all_goals first | exact e | (simp [rkB, rkM, e] at hr)
  | n + 1, b, h, h15, hr => by
    rw [doesB]
    by_cases h6 : b.mode = 6
    · rw [if_neg (by rw [h6]; decide)]
      exact ⟨h, h6⟩
    · obtain ⟨g1, g2, g3⟩ := eof_step h h15 h6
      rw [if_pos ((ownM_of h).2 ⟨h15, h6⟩), if_pos g1]
      exact eof_all n (h.step _) g2 (by omega)
theorem rkB_le (h : HInv b) : rkB b ≤ 6 := by
  rcases h.modes with e | e | e | e | e | e | e | e | ⟨e, hr⟩
  all_goals (try simp [rkB, rkM, e])
  have hb : b.back = 3 ∨ b.back = 4 ∨ b.back = 5 := hr
  rcases hb with e2 | e2 | e2 <;> simp [e2]
theorem HInv.does (t : HTok) : ∀ (n : Nat) {b : BSt}, HInv b → HInv (doesB n b t)
  | 0, _, h => h
  | n + 1, b, h => by
    rw [doesB]
    split
    · split
      · exact HInv.does t n (h.step t)
      · exact h.step t
    · exact h
theorem SzO.does {t : HTok} (ht : T300 t) : ∀ (n : Nat) {a : Nat} {b : BSt}, SzO a b → SzO (a + 8 * n) (doesB n b t)
  | 0, _, _, h => h
  | n + 1, a, b, h => by
    rw [doesB]
    split
    · split
      · exact (SzO.does ht n (h.step ht)).mono (by omega)
      · exact (h.step ht).mono (by omega)
    · exact h.mono (by omega)
theorem do_ok {t : HTok} (ht : T300 t) : ∀ (n : Nat) {a : Nat} {b : BSt}, HInv b → SzO a b → a + 8 * n < 9900 → doOk n b t
  | 0, _, _, _, _, _ => trivial
  | n + 1, a, b, h, hz, ha => by
    refine ⟨?_, fun _ => ⟨hz.hdo (by omega), fun _ => do_ok ht n (h.step t) (hz.step ht) (by omega)⟩⟩
    unfold inI64
    rcases h.modes with e | e | e | e | e | e | e | e | ⟨e, _⟩ <;> omega
end
theorem szO_new : SzO 0 newB := ⟨by decide, by decide, by decide, by decide, fun n hn => by
  have : n = docN := by simpa [newB] using hn
  rw [this]; exact ⟨by decide, by decide, by decide⟩, fun o ho => by cases ho⟩
end Go.Vk
end
section
set_option linter.unusedSimpArgs false
set_option linter.unusedVariables false
namespace Go.Vk
open Go Go.Proofs.YtgnnlaeikcnhcaaGreatDoor
/-- a builder of which all is known that stays -/
structure HSt (a : Nat) (b : BSt) : Prop where
  inv : HInv b
  sz : SzO a b
theorem HSt.new : HSt 0 newB := ⟨.new, szO_new⟩
theorem HSt.does {a : Nat} {b : BSt} (h : HSt a b) {t : HTok} (ht : T300 t) : HSt (a + 160) (doesB 20 b t) := ⟨h.inv.does t 20, h.sz.does ht 20⟩
theorem HSt.ok {a : Nat} {b : BSt} (h : HSt a b) {t : HTok} (ht : T300 t) (ha : a < 9700) : doOk 20 b t := do_ok ht 20 h.inv h.sz (by omega)
theorem HSt.set {a : Nat} {b : BSt} (h : HSt a b) (x : Option (Int × ByteArray)) : HSt a { b with ask := x } := by
  refine ⟨?_, h.sz.set ⟨rfl, rfl, rfl, rfl⟩⟩
  rcases h.inv with e | ⟨h1, h2⟩
  · exact .inl e
  · exact .inr ⟨h1.set ⟨rfl, rfl, rfl⟩, h2⟩
-- spaces
-- raw text
end Go.Vk
end
section
set_option linter.unusedSimpArgs false
set_option linter.unusedVariables false
namespace Go.Vk
open Go Go.Proofs.YtgnnlaeikcnhcaaGreatDoor
theorem filt_snoc {p : Int → Bool} {l : List Int} {k : Nat} {j : Int} (h : l[k]? = some j) : (l.take (k + 1)).filter p = (l.take k).filter p ++ (if p j = true then [j] else []) := by
  rw [List.take_add_one, h, Option.toList_some, List.filter_append]
  congr 1
  rw [List.filter_cons, List.filter_nil]
theorem filt_pre {p : Int → Bool} {l : List Int} (k : Nat) : ∃ r, l.filter p = (l.take k).filter p ++ r := by
  refine ⟨(l.drop k).filter p, ?_⟩
  rw [← List.filter_append, List.take_append_drop]
/-- the only one: none ahead of it -/
theorem filt_one {p : Int → Bool} {l : List Int} {r : Int} (h : l.filter p = [r]) {k : Nat} {j : Int} (hk : l[k]? = some j) (hp : p j = true) : (l.take k).filter p = [] ∧ j = r := by
  obtain ⟨q, hq⟩ := filt_pre (p := p) (l := l) (k + 1)
  rw [h, filt_snoc hk, if_pos hp, List.append_assoc] at hq
  cases hf : (l.take k).filter p with
  | nil =>
    rw [hf] at hq
    simp at hq
    exact ⟨rfl, hq.1.symm⟩
  | cons a t =>
    rw [hf] at hq
    simp at hq
/-- what stands at the text's end -/
structure BodyT (b : BSt) : Prop where
  shp : Shp b
  mode : b.mode = 6
  tree : ∃ r o, elK b.L 0 = [r] ∧ (gN b.L r).name = sHtml ∧ (1 ≤ r ∧ r < b.L.length) ∧ elK b.L r = [b.head, o] ∧ (gN b.L b.head).name = sHead ∧ (gN b.L o).name = sBody_
  is : isB b [sBody_] = true
theorem HInv.body {b : BSt} (h : HInv b) (hm : b.mode = 6) : BodyT b := by
  rcases h with e | ⟨h, hs | ⟨e, _⟩⟩
  · omega
  · rw [hm] at hs
    obtain ⟨r, o, e1, e2, e3, e4, e5, e6⟩ := hs.i6
    refine ⟨h, hm, ⟨r, o, e2.el, e2.nm, e2.r0, e3, e4.nm, e5⟩, ?_⟩
    obtain ⟨A, oo, es⟩ : ∃ A o, b.s = A ++ [o] := by
      rcases List.eq_nil_or_concat b.s with e2 | ⟨A, o, e2⟩
      · rw [e2] at e1; simp [nds] at e1
      · exact ⟨A, o, by rw [e2, List.concat_eq_append]⟩
    have hoo : oo.node = o := by
      rw [es, nds_one] at e1
      have := (List.append_inj' (show nds A ++ [oo.node] = [r] ++ [o] from e1) rfl).2
      simpa using this
    obtain ⟨h1, h2, h3, h4⟩ := h.st oo (by rw [es]; simp)
    have ht : topS b.s = o := by rw [topS_eq, es, List.getLast?_concat]; exact hoo
    unfold isB curB
    rw [ht, nodeN_gN (by omega)]
    rw [hoo] at h3
    unfold htmlN
    rw [h3, e6, e5]
    decide
  · omega
theorem HSt.eof {a : Nat} {b : BSt} (h : HSt a b) (h15 : b.mode ≠ 15) (ha : a < 9700) : doOk 20 b tEOF ∧ BodyT (doesB 20 b tEOF) ∧ HSt (a + 160) (doesB 20 b tEOF) := by
  have ht : T300 tEOF := ⟨by decide, by decide, by decide⟩
  have hr := rkB_le h.inv
  obtain ⟨g1, g2⟩ := eof_all 20 h.inv h15 (by omega)
  exact ⟨h.ok ht ha, g1.body g2, h.does ht⟩
/-- tokens, one behind the other -/
def bodyStep (b : BSt) (t : HTok) : BSt := if t.kind ≠ 8 ∧ ownM b.mode = true then doesB 20 b t else b
def bodyB (l : List HTok) : BSt := l.foldl bodyStep newB
theorem bodyB_snoc (l : List HTok) (t : HTok) : bodyB (l ++ [t]) = bodyStep (bodyB l) t := by
  unfold bodyB; rw [List.foldl_append]; rfl
theorem HSt.bstep {a : Nat} {b : BSt} (h : HSt a b) {t : HTok} (ht : T300 t) : HSt (a + 160) (bodyStep b t) := by
  unfold bodyStep
  split
  · exact h.does ht
  · exact ⟨h.inv, h.sz.mono (by omega)⟩
theorem body_all (l : List HTok) (ht : ∀ t ∈ l, T300 t) : ∀ k, k ≤ l.length → HSt (160 * k) (bodyB (l.take k))
  | 0, _ => by rw [List.take_zero]; exact .new
  | k + 1, hk => by
    have hx := List.getElem?_eq_getElem (show k < l.length by omega)
    rw [List.take_add_one, hx, Option.toList_some, bodyB_snoc]
    have := (body_all l ht k (by omega)).bstep (ht _ (List.mem_of_getElem? hx))
    rwa [show 160 * (k + 1) = 160 * k + 160 by omega]
end Go.Vk
end
section
set_option linter.unusedSimpArgs false
set_option linter.unusedVariables false
namespace Go.Vk
open Go
theorem ToksAt.ext {w w' : World} {v : Value} {l : List HTok} (h : ToksAt w v l) (hx : Ext w w') : ToksAt w' v l := by
  obtain ⟨a, c, h1, h2, h3⟩ := h
  refine ⟨a, c, h1, h2, fun k t hk => ?_⟩
  obtain ⟨b, o, av, g1, g2, g3⟩ := h3 k t hk
  refine ⟨b, o, av, g1, fun j hj => ?_, g3.ext hx⟩
  obtain ⟨u, hu⟩ : ∃ u, (t.row av)[j]? = some u := ⟨_, Array.getElem?_eq_getElem (show j < (t.row av).size from hj)⟩
  rw [hu, cell_ext hx ((g2 j hj).trans hu)]
/-- all cells of a token that is in a list -/
theorem ToksAt.get {w : World} {a : Option Addr} {n c : Nat} {l : List HTok} (h : ToksAt w (.slice a n c) l) {k : Nat} {t : HTok} (hk : l[k]? = some t) : ∃ b o xa xn xc, a = some ⟨b, o, none⟩ ∧ RdAt w 2 (.slice xa xn xc) (attrCells t.attrs) ∧
    cellO (w.heap[b]?) (o + k * 9) = some (.int .i64 t.kind) ∧ cellO (w.heap[b]?) (o + k * 9 + 1) = some (.string t.name) ∧ cellO (w.heap[b]?) (o + k * 9 + 2) = some (.string t.text) ∧ cellO (w.heap[b]?) (o + k * 9 + 3) = some (.slice xa xn xc) ∧ cellO (w.heap[b]?) (o + k * 9 + 4) = some (.bool t.dup) ∧ cellO (w.heap[b]?) (o + k * 9 + 5) = some (.bool t.self) ∧ cellO (w.heap[b]?) (o + k * 9 + 6) = some (.bool t.quirks) ∧ cellO (w.heap[b]?) (o + k * 9 + 7) = some (.int .i64 t.frm) ∧ cellO (w.heap[b]?) (o + k * 9 + 8) = some (.int .i64 t.to) := by
  obtain ⟨a', c', e, _, h3⟩ := h
  cases e
  obtain ⟨b, o, av, rfl, g2, g3⟩ := h3 k t hk
  obtain ⟨xa, xn, xc, rfl, _⟩ := id g3
  have q : ∀ j, j < 9 → cellO (w.heap[b]?) (o + k * 9 + j) = (t.row (.slice xa xn xc))[j]? := fun j hj => by rw [← cell_h]; exact g2 j hj
  exact ⟨b, o, xa, xn, xc, rfl, g3, q 0 (by decide), q 1 (by decide), q 2 (by decide), q 3 (by decide), q 4 (by decide), q 5 (by decide), q 6 (by decide), q 7 (by decide), q 8 (by decide)⟩
theorem large_no {t : HTok} (h : largeT t = false) : T300 t := by
  unfold largeT at h
  simp only [Bool.or_eq_false_iff, decide_eq_false_iff_not] at h
  exact ⟨by omega, by omega, by omega⟩
end Go.Vk
namespace Go.Proofs.YtgnnlaeikcnhcaaGreatDoor
open Go Go.Vk
set_option maxHeartbeats 40000000
theorem great19_c {w : World} {v : Value} {l : List HTok} (hT : ToksAt w v l) (m : Int) (hm : m < 1000000) : Gives Tryz.prog 84 #[v, .int .i64 m] w fun v w' => (∃ g, v = .bool g ∧ (g = false → (l.length : Int) ≤ m ∧ ∀ t ∈ l, T300 t)) ∧ Ext w w' := by
  obtain ⟨va, vc, rfl, hvc, _⟩ := id hT
  by_cases h1 : m < (l.length : Int)
  · refine Gives.of_W Tryz.call84 Tryz.func84 rfl Tryz.ntmps84 (by simp) ?_; intro Z hZ
    (repeat first|(with_reducible first|(refine hK _ _ ?_;clear hK K)|refine ‹∀σ w,_→K σ w› _ _ ?_|(refine W_st ?_;constructor;try intro K hK))|((with_reducible first|refine hZ _ _ ?_|refine W_rg ?_|skip);repeat1' simp only[push_cast,seval,-Nat.reduceSubDiff,h1])|((repeat((fail_if_success with_reducible refine hK _ _ ?_);clear hK K));with_reducible refine hK _ _ ?_;clear hK K))
    exact Ext.refl _
  refine Gives.of_W Tryz.call84 Tryz.func84 rfl Tryz.ntmps84 (by simp) ?_; intro Z hZ
  (repeat first|(with_reducible first|(refine hK _ _ ?_;clear hK K)|refine ‹∀σ w,_→K σ w› _ _ ?_|(refine W_st ?_;constructor;try intro K hK))|((with_reducible first|refine hZ _ _ ?_|refine W_rg ?_|skip);repeat1' simp only[push_cast,seval,-Nat.reduceSubDiff,h1])|((repeat((fail_if_success with_reducible refine hK _ _ ?_);clear hK K));with_reducible refine hK _ _ ?_;clear hK K))
  refine W_loop (S := Nat) (fun k => [(0, .slice va l.length vc), (5, .int .i64 (k : Int))])
    (fun k w2 => k ≤ l.length ∧ (∀ t ∈ l.take k, T300 t) ∧ Ext w w2) (fun k => l.length - k) 0 ?_ ?_ ?_
  · (repeat simp only [push_cast, seval, -Nat.reduceSubDiff])
  · exact ⟨by omega, fun t ht => by simp at ht, Ext.refl _⟩
  rintro k w2 ⟨hk, ht, hx2⟩
  by_cases hkl : k < l.length
  · obtain ⟨x, hx⟩ : ∃ x, l[k]? = some x := ⟨_, List.getElem?_eq_getElem hkl⟩
    obtain ⟨b, o, xa, xn, xc, rfl, hat, c0, c1, c2, c3, c4, c5, c6, c7, c8⟩ := (hT.ext hx2).get hx
    have hrow : x.row (.slice xa xn xc) = #[.int .i64 x.kind, .string x.name, .string x.text, .slice xa xn xc, .bool x.dup, .bool x.self, .bool x.quirks, .int .i64 x.frm, .int .i64 x.to] := rfl
    have b0 : (k : Int) < (l.length : Int) := by omega
    have b1 : (0 : Int) ≤ (k : Int) := by omega
    have b2 : inI64 ((k : Int) + 1) := by unfold inI64; omega
    (repeat first|(with_reducible first|(refine hK _ _ ?_;clear hK K)|refine ‹∀σ w,_→K σ w› _ _ ?_|(refine W_st ?_;constructor;try intro K hK))|((with_reducible first|refine hZ _ _ ?_|refine W_rg ?_|skip);repeat1' simp only[push_cast,seval,-Nat.reduceSubDiff,b0,b1])|((repeat((fail_if_success with_reducible refine hK _ _ ?_);clear hK K));with_reducible refine hK _ _ ?_;clear hK K))
    (repeat first|(with_reducible first|(refine hK _ _ ?_;clear hK K)|refine ‹∀σ w,_→K σ w› _ _ ?_|(refine W_st ?_;constructor;try intro K hK))|((with_reducible first|refine hZ _ _ ?_|refine W_rg ?_|skip);repeat1' simp only[push_cast,seval,-Nat.reduceSubDiff,cell_h,c0,c1,c2,c3,c4,c5,c6,c7,c8])|((repeat((fail_if_success with_reducible refine hK _ _ ?_);clear hK K));with_reducible refine hK _ _ ?_;clear hK K))
    rw [← hrow]
    refine (large_c hat).mono ?_
    rintro v w3 ⟨rfl, hx3⟩
    cases hl : largeT x with
    | true =>
      (repeat first|(with_reducible first|(refine hK _ _ ?_;clear hK K)|refine ‹∀σ w,_→K σ w› _ _ ?_|(refine W_st ?_;constructor;try intro K hK))|((with_reducible first|refine hZ _ _ ?_|refine W_rg ?_|skip);repeat1' simp only[push_cast,seval,-Nat.reduceSubDiff])|((repeat((fail_if_success with_reducible refine hK _ _ ?_);clear hK K));with_reducible refine hK _ _ ?_;clear hK K))
      exact hx2.trans hx3
    | false =>
      (repeat first|(with_reducible first|(refine hK _ _ ?_;clear hK K)|refine ‹∀σ w,_→K σ w› _ _ ?_|(refine W_st ?_;constructor;try intro K hK))|((with_reducible first|refine hZ _ _ ?_|refine W_rg ?_|skip);repeat1' simp only[push_cast,seval,-Nat.reduceSubDiff,b2])|((repeat((fail_if_success with_reducible refine hK _ _ ?_);clear hK K));with_reducible refine hK _ _ ?_;clear hK K))
      refine ⟨k + 1, by omega, ?_⟩
      (repeat simp only [push_cast, seval, -Nat.reduceSubDiff])
      refine ⟨by omega, fun t hm => ?_, hx2.trans hx3⟩
      rw [List.take_add_one, hx, Option.toList_some] at hm
      rcases List.mem_append.1 hm with hm | hm
      · exact ht t hm
      · rw [List.mem_singleton] at hm
        rw [hm]; exact large_no hl
  · have hke : k = l.length := by omega
    subst hke
    rw [List.take_length] at ht
    have b0 : ¬ (l.length : Int) < (l.length : Int) := by omega
    (repeat first|(with_reducible first|(refine hK _ _ ?_;clear hK K)|refine ‹∀σ w,_→K σ w› _ _ ?_|(refine W_st ?_;constructor;try intro K hK))|((with_reducible first|refine hZ _ _ ?_|refine W_rg ?_|skip);repeat1' simp only[push_cast,seval,-Nat.reduceSubDiff,b0])|((repeat((fail_if_success with_reducible refine hK _ _ ?_);clear hK K));with_reducible refine hK _ _ ?_;clear hK K))
    exact ⟨by omega, ht, hx2⟩
end Go.Proofs.YtgnnlaeikcnhcaaGreatDoor
end
section
set_option linter.unusedSimpArgs false
set_option linter.unusedVariables false
namespace Go.Proofs.YtgnnlaeikcnhcaaGreatDoor
open Go Go.Vk
set_option maxHeartbeats 40000000
theorem tup0 {P : Program} (a b c : Value) (w : World) (K : Value → World → Prop) : Pure1 P (Instr.extract (.tuple #[a, b, c]) 0) w K = K a w := Pure1_eq (fun w => by simp [Instr.extract, Sem.run]) w K
theorem tup1 {P : Program} (a b c : Value) (w : World) (K : Value → World → Prop) : Pure1 P (Instr.extract (.tuple #[a, b, c]) 1) w K = K b w := Pure1_eq (fun w => by simp [Instr.extract, Sem.run]) w K
theorem tup2 {P : Program} (a b c : Value) (w : World) (K : Value → World → Prop) : Pure1 P (Instr.extract (.tuple #[a, b, c]) 2) w K = K c w := Pure1_eq (fun w => by simp [Instr.extract, Sem.run]) w K
theorem GS.ext {w w' : World} (h : GS w) (hx : Ext w w') : GS w' := by
  obtain ⟨bm, h1, h2⟩ := h
  exact ⟨bm, cell_ext hx h1, fun w2 hx2 => h2 w2 (hx.trans hx2)⟩
theorem smT_small {t : HTok} (h : (decide (t.name.size < 4294967281) && (decide (t.text.size < 1000000000) && decide (t.attrs.length < 1000000))) = true) : SmT t := by
  simp only [Bool.and_eq_true, decide_eq_true_eq] at h
  exact ⟨h.1, h.2.1, h.2.2⟩
set_option maxRecDepth 100000 in
theorem bgC_cont : (nodeN bgC.L 3).content = 4 := by kernel_rfl
set_option maxRecDepth 100000 in
theorem begins_c {w : World} (hg : GB w) (hS : GS w) (hM : MaxAt w) : Gives Tryz.prog 56 #[] w fun v w' => v = .bool true ∧ Ext w w' := by
  have ok := bg_ok
  simp only [Prod.mk.injEq] at ok
  obtain ⟨o1, o2, o3, o4, o5, o6, o7, o8, o9⟩ := ok
  refine Gives.of_W Tryz.call56 Tryz.func56 rfl Tryz.ntmps56 (by simp) ?_; intro Z hZ
  (repeat first|(with_reducible first|(refine hK _ _ ?_;clear hK K)|refine ‹∀σ w,_→K σ w› _ _ ?_|(refine W_st ?_;constructor;try intro K hK))|((with_reducible first|refine hZ _ _ ?_|refine W_rg ?_|skip);repeat1' simp only[push_cast,seval,-Nat.reduceSubDiff])|((repeat((fail_if_success with_reducible refine hK _ _ ?_);clear hK K));with_reducible refine hK _ _ ?_;clear hK K))
  refine bnew_c.mono ?_
  rintro v wA0 ⟨pAb, pAs, pAl, pAa, rfl, hA0⟩
  (repeat first|(with_reducible first|(refine hK _ _ ?_;clear hK K)|refine ‹∀σ w,_→K σ w› _ _ ?_|(refine W_st ?_;constructor;try intro K hK))|((with_reducible first|refine hZ _ _ ?_|refine W_rg ?_|skip);repeat1' simp only[push_cast,seval,-Nat.reduceSubDiff])|((repeat((fail_if_success with_reducible refine hK _ _ ?_);clear hK K));with_reducible refine hK _ _ ?_;clear hK K))
  refine build_struct Tryz.zeroValue37 unTo plTo (cs := #[.int .i64 8, .string ⟨#[]⟩, .string ⟨#[]⟩, .slice none 0 0, .bool false, .bool false, .bool false, .int .i64 0, .int .i64 0]) (by rfl) ?_
  (repeat first|(with_reducible first|(refine hK _ _ ?_;clear hK K)|refine ‹∀σ w,_→K σ w› _ _ ?_|(refine W_st ?_;constructor;try intro K hK))|((with_reducible first|refine hZ _ _ ?_|refine W_rg ?_|skip);repeat1' simp only[push_cast,seval,-Nat.reduceSubDiff])|((repeat((fail_if_success with_reducible refine hK _ _ ?_);clear hK K));with_reducible refine hK _ _ ?_;clear hK K))
  refine (does_c hA0 hg hS hM nP (t := tEOF) (av := .slice none 0 0) (SlAt.nil _ _).rd (smT_small (by decide)) (doOkb_ok o1)).mono ?_
  rintro v wA1 ⟨hA1, _⟩
  replace hA1 : BuAt w wA1 noP pAb pAs pAl pAa bgA := hA1
  (repeat first|(with_reducible first|(refine hK _ _ ?_;clear hK K)|refine ‹∀σ w,_→K σ w› _ _ ?_|(refine W_st ?_;constructor;try intro K hK))|((with_reducible first|refine hZ _ _ ?_|refine W_rg ?_|skip);repeat1' simp only[push_cast,seval,-Nat.reduceSubDiff])|((repeat((fail_if_success with_reducible refine hK _ _ ?_);clear hK K));with_reducible refine hK _ _ ?_;clear hK K))
  have xA := hA1.out
  have hgB := hg.ext xA
  have hSB := hS.ext xA
  have hMB := hM.ext xA
  refine bnew_c.mono ?_
  rintro v wB0 ⟨pBb, pBs, pBl, pBa, rfl, hB0⟩
  (repeat first|(with_reducible first|(refine hK _ _ ?_;clear hK K)|refine ‹∀σ w,_→K σ w› _ _ ?_|(refine W_st ?_;constructor;try intro K hK))|((with_reducible first|refine hZ _ _ ?_|refine W_rg ?_|skip);repeat1' simp only[push_cast,seval,-Nat.reduceSubDiff])|((repeat((fail_if_success with_reducible refine hK _ _ ?_);clear hK K));with_reducible refine hK _ _ ?_;clear hK K))
  refine build_struct Tryz.zeroValue37 unTo plTo (cs := #[.int .i64 1, .string ⟨#[104, 116, 109, 108]⟩, .string ⟨#[]⟩, .slice none 0 0, .bool false, .bool false, .bool false, .int .i64 0, .int .i64 0]) (by rfl) ?_
  (repeat first|(with_reducible first|(refine hK _ _ ?_;clear hK K)|refine ‹∀σ w,_→K σ w› _ _ ?_|(refine W_st ?_;constructor;try intro K hK))|((with_reducible first|refine hZ _ _ ?_|refine W_rg ?_|skip);repeat1' simp only[push_cast,seval,-Nat.reduceSubDiff])|((repeat((fail_if_success with_reducible refine hK _ _ ?_);clear hK K));with_reducible refine hK _ _ ?_;clear hK K))
  refine (does_c hB0 hgB hSB hMB nP (t := tDoc) (av := .slice none 0 0) (SlAt.nil _ _).rd (smT_small (by decide)) (doOkb_ok o2)).mono ?_
  rintro v wB1 ⟨hB1, _⟩
  replace hB1 : BuAt wA1 wB1 noP pBb pBs pBl pBa bgB1 := hB1
  (repeat first|(with_reducible first|(refine hK _ _ ?_;clear hK K)|refine ‹∀σ w,_→K σ w› _ _ ?_|(refine W_st ?_;constructor;try intro K hK))|((with_reducible first|refine hZ _ _ ?_|refine W_rg ?_|skip);repeat1' simp only[push_cast,seval,-Nat.reduceSubDiff])|((repeat((fail_if_success with_reducible refine hK _ _ ?_);clear hK K));with_reducible refine hK _ _ ?_;clear hK K))
  refine build_struct Tryz.zeroValue37 unTo plTo (cs := #[.int .i64 4, .string ⟨#[]⟩, .string ⟨#[99]⟩, .slice none 0 0, .bool false, .bool false, .bool false, .int .i64 0, .int .i64 0]) (by rfl) ?_
  (repeat first|(with_reducible first|(refine hK _ _ ?_;clear hK K)|refine ‹∀σ w,_→K σ w› _ _ ?_|(refine W_st ?_;constructor;try intro K hK))|((with_reducible first|refine hZ _ _ ?_|refine W_rg ?_|skip);repeat1' simp only[push_cast,seval,-Nat.reduceSubDiff])|((repeat((fail_if_success with_reducible refine hK _ _ ?_);clear hK K));with_reducible refine hK _ _ ?_;clear hK K))
  refine (does_c hB1 hgB hSB hMB nP (t := tCom) (av := .slice none 0 0) (SlAt.nil _ _).rd (smT_small (by decide)) (doOkb_ok o3)).mono ?_
  rintro v wB2 ⟨hB2, _⟩
  replace hB2 : BuAt wA1 wB2 noP pBb pBs pBl pBa bgB2 := hB2
  (repeat first|(with_reducible first|(refine hK _ _ ?_;clear hK K)|refine ‹∀σ w,_→K σ w› _ _ ?_|(refine W_st ?_;constructor;try intro K hK))|((with_reducible first|refine hZ _ _ ?_|refine W_rg ?_|skip);repeat1' simp only[push_cast,seval,-Nat.reduceSubDiff])|((repeat((fail_if_success with_reducible refine hK _ _ ?_);clear hK K));with_reducible refine hK _ _ ?_;clear hK K))
  refine (start19_c _).mono ?_
  rintro v wB2t ⟨rfl, yB2⟩
  have hB2t := hB2.pass yB2
  (repeat first|(with_reducible first|(refine hK _ _ ?_;clear hK K)|refine ‹∀σ w,_→K σ w› _ _ ?_|(refine W_st ?_;constructor;try intro K hK))|((with_reducible first|refine hZ _ _ ?_|refine W_rg ?_|skip);repeat1' simp only[push_cast,seval,-Nat.reduceSubDiff])|((repeat((fail_if_success with_reducible refine hK _ _ ?_);clear hK K));with_reducible refine hK _ _ ?_;clear hK K))
  refine (does_c hB2t hgB hSB hMB nP (t := tok19 2 sHtml) (av := .slice none 0 0) (SlAt.nil _ _).rd (smT_small (by decide)) (doOkb_ok o4)).mono ?_
  rintro v wB3 ⟨hB3, _⟩
  replace hB3 : BuAt wA1 wB3 noP pBb pBs pBl pBa bgB3 := hB3
  (repeat first|(with_reducible first|(refine hK _ _ ?_;clear hK K)|refine ‹∀σ w,_→K σ w› _ _ ?_|(refine W_st ?_;constructor;try intro K hK))|((with_reducible first|refine hZ _ _ ?_|refine W_rg ?_|skip);repeat1' simp only[push_cast,seval,-Nat.reduceSubDiff])|((repeat((fail_if_success with_reducible refine hK _ _ ?_);clear hK K));with_reducible refine hK _ _ ?_;clear hK K))
  refine (start19_c _).mono ?_
  rintro v wB3t ⟨rfl, yB3⟩
  have hB3t := hB3.pass yB3
  (repeat first|(with_reducible first|(refine hK _ _ ?_;clear hK K)|refine ‹∀σ w,_→K σ w› _ _ ?_|(refine W_st ?_;constructor;try intro K hK))|((with_reducible first|refine hZ _ _ ?_|refine W_rg ?_|skip);repeat1' simp only[push_cast,seval,-Nat.reduceSubDiff])|((repeat((fail_if_success with_reducible refine hK _ _ ?_);clear hK K));with_reducible refine hK _ _ ?_;clear hK K))
  refine (does_c hB3t hgB hSB hMB nP (t := tok19 2 sTitle) (av := .slice none 0 0) (SlAt.nil _ _).rd (smT_small (by decide)) (doOkb_ok o5)).mono ?_
  rintro v wB4 ⟨hB4, _⟩
  replace hB4 : BuAt wA1 wB4 noP pBb pBs pBl pBa bgB := hB4
  (repeat first|(with_reducible first|(refine hK _ _ ?_;clear hK K)|refine ‹∀σ w,_→K σ w› _ _ ?_|(refine W_st ?_;constructor;try intro K hK))|((with_reducible first|refine hZ _ _ ?_|refine W_rg ?_|skip);repeat1' simp only[push_cast,seval,-Nat.reduceSubDiff])|((repeat((fail_if_success with_reducible refine hK _ _ ?_);clear hK K));with_reducible refine hK _ _ ?_;clear hK K))
  refine (bask_c hB4).mono ?_
  rintro v wB5 ⟨rfl, hB5, _⟩
  obtain ⟨bD, hbD⟩ : ∃ c, c = ({ bgB with ask := none } : BSt) := ⟨_, rfl⟩
  replace hB5 : BuAt wA1 wB5 noP pBb pBs pBl pBa bD := hbD ▸ hB5
  rw [show bgB.ask = some (1, sTitle) by kernel_rfl]
  (repeat first|(with_reducible first|(refine hK _ _ ?_;clear hK K)|refine ‹∀σ w,_→K σ w› _ _ ?_|(refine W_st ?_;constructor;try intro K hK))|((with_reducible first|refine hZ _ _ ?_|refine W_rg ?_|skip);repeat1' simp only[push_cast,seval,-Nat.reduceSubDiff,Option.getD_some,Option.isSome_some,tup0,tup1,tup2])|((repeat((fail_if_success with_reducible refine hK _ _ ?_);clear hK K));with_reducible refine hK _ _ ?_;clear hK K))
  have xB := hB5.out
  have hgC := hgB.ext xB
  have hSC := hSB.ext xB
  have hMC := hMB.ext xB
  refine bnew_c.mono ?_
  rintro v wC0 ⟨pCb, pCs, pCl, pCa, rfl, hC0⟩
  (repeat first|(with_reducible first|(refine hK _ _ ?_;clear hK K)|refine ‹∀σ w,_→K σ w› _ _ ?_|(refine W_st ?_;constructor;try intro K hK))|((with_reducible first|refine hZ _ _ ?_|refine W_rg ?_|skip);repeat1' simp only[push_cast,seval,-Nat.reduceSubDiff])|((repeat((fail_if_success with_reducible refine hK _ _ ?_);clear hK K));with_reducible refine hK _ _ ?_;clear hK K))
  refine (start19_c _).mono ?_
  rintro v wC0t ⟨rfl, yC0⟩
  have hC0t := hC0.pass yC0
  (repeat first|(with_reducible first|(refine hK _ _ ?_;clear hK K)|refine ‹∀σ w,_→K σ w› _ _ ?_|(refine W_st ?_;constructor;try intro K hK))|((with_reducible first|refine hZ _ _ ?_|refine W_rg ?_|skip);repeat1' simp only[push_cast,seval,-Nat.reduceSubDiff])|((repeat((fail_if_success with_reducible refine hK _ _ ?_);clear hK K));with_reducible refine hK _ _ ?_;clear hK K))
  refine (does_c hC0t hgC hSC hMC nP (t := tok19 2 sHtml) (av := .slice none 0 0) (SlAt.nil _ _).rd (smT_small (by decide)) (doOkb_ok o6)).mono ?_
  rintro v wC1 ⟨hC1, _⟩
  replace hC1 : BuAt wB5 wC1 noP pCb pCs pCl pCa bgC1 := hC1
  (repeat first|(with_reducible first|(refine hK _ _ ?_;clear hK K)|refine ‹∀σ w,_→K σ w› _ _ ?_|(refine W_st ?_;constructor;try intro K hK))|((with_reducible first|refine hZ _ _ ?_|refine W_rg ?_|skip);repeat1' simp only[push_cast,seval,-Nat.reduceSubDiff])|((repeat((fail_if_success with_reducible refine hK _ _ ?_);clear hK K));with_reducible refine hK _ _ ?_;clear hK K))
  refine (start19_c _).mono ?_
  rintro v wC1t ⟨rfl, yC1⟩
  have hC1t := hC1.pass yC1
  (repeat first|(with_reducible first|(refine hK _ _ ?_;clear hK K)|refine ‹∀σ w,_→K σ w› _ _ ?_|(refine W_st ?_;constructor;try intro K hK))|((with_reducible first|refine hZ _ _ ?_|refine W_rg ?_|skip);repeat1' simp only[push_cast,seval,-Nat.reduceSubDiff])|((repeat((fail_if_success with_reducible refine hK _ _ ?_);clear hK K));with_reducible refine hK _ _ ?_;clear hK K))
  refine (does_c hC1t hgC hSC hMC nP (t := tok19 2 sHead) (av := .slice none 0 0) (SlAt.nil _ _).rd (smT_small (by decide)) (doOkb_ok o7)).mono ?_
  rintro v wC2 ⟨hC2, _⟩
  replace hC2 : BuAt wB5 wC2 noP pCb pCs pCl pCa bgC2 := hC2
  (repeat first|(with_reducible first|(refine hK _ _ ?_;clear hK K)|refine ‹∀σ w,_→K σ w› _ _ ?_|(refine W_st ?_;constructor;try intro K hK))|((with_reducible first|refine hZ _ _ ?_|refine W_rg ?_|skip);repeat1' simp only[push_cast,seval,-Nat.reduceSubDiff])|((repeat((fail_if_success with_reducible refine hK _ _ ?_);clear hK K));with_reducible refine hK _ _ ?_;clear hK K))
  refine (start19_c _).mono ?_
  rintro v wC2t ⟨rfl, yC2⟩
  have hC2t := hC2.pass yC2
  (repeat first|(with_reducible first|(refine hK _ _ ?_;clear hK K)|refine ‹∀σ w,_→K σ w› _ _ ?_|(refine W_st ?_;constructor;try intro K hK))|((with_reducible first|refine hZ _ _ ?_|refine W_rg ?_|skip);repeat1' simp only[push_cast,seval,-Nat.reduceSubDiff])|((repeat((fail_if_success with_reducible refine hK _ _ ?_);clear hK K));with_reducible refine hK _ _ ?_;clear hK K))
  refine (does_c hC2t hgC hSC hMC nP (t := tok19 2 tmpl) (av := .slice none 0 0) (SlAt.nil _ _).rd (smT_small (by decide)) (doOkb_ok o8)).mono ?_
  rintro v wC3 ⟨hC3, _⟩
  replace hC3 : BuAt wB5 wC3 noP pCb pCs pCl pCa bgC3 := hC3
  (repeat first|(with_reducible first|(refine hK _ _ ?_;clear hK K)|refine ‹∀σ w,_→K σ w› _ _ ?_|(refine W_st ?_;constructor;try intro K hK))|((with_reducible first|refine hZ _ _ ?_|refine W_rg ?_|skip);repeat1' simp only[push_cast,seval,-Nat.reduceSubDiff])|((repeat((fail_if_success with_reducible refine hK _ _ ?_);clear hK K));with_reducible refine hK _ _ ?_;clear hK K))
  refine (bmode_c hC3).mono ?_
  intro v w' ⟨hv, hw⟩
  subst hv; subst w'
  (repeat first|(with_reducible first|(refine hK _ _ ?_;clear hK K)|refine ‹∀σ w,_→K σ w› _ _ ?_|(refine W_st ?_;constructor;try intro K hK))|((with_reducible first|refine hZ _ _ ?_|refine W_rg ?_|skip);repeat1' simp only[push_cast,seval,-Nat.reduceSubDiff])|((repeat((fail_if_success with_reducible refine hK _ _ ?_);clear hK K));with_reducible refine hK _ _ ?_;clear hK K))
  refine (end19_c _).mono ?_
  rintro v wC3t ⟨rfl, yC3⟩
  have hC3t := hC3.pass yC3
  (repeat first|(with_reducible first|(refine hK _ _ ?_;clear hK K)|refine ‹∀σ w,_→K σ w› _ _ ?_|(refine W_st ?_;constructor;try intro K hK))|((with_reducible first|refine hZ _ _ ?_|refine W_rg ?_|skip);repeat1' simp only[push_cast,seval,-Nat.reduceSubDiff])|((repeat((fail_if_success with_reducible refine hK _ _ ?_);clear hK K));with_reducible refine hK _ _ ?_;clear hK K))
  refine (head_c hC3t ((hdOb_ok o9).mono (by decide)) hgC hMC nP (t := tok19 3 tmpl) (av := .slice none 0 0) (SlAt.nil _ _).rd (smT_small (by decide))).mono ?_
  rintro v wC4 ⟨rfl, hC4, _⟩
  replace hC4 : BuAt wB5 wC4 noP pCb pCs pCl pCa bgC := hC4
  (repeat first|(with_reducible first|(refine hK _ _ ?_;clear hK K)|refine ‹∀σ w,_→K σ w› _ _ ?_|(refine W_st ?_;constructor;try intro K hK))|((with_reducible first|refine hZ _ _ ?_|refine W_rg ?_|skip);repeat1' simp only[push_cast,seval,-Nat.reduceSubDiff])|((repeat((fail_if_success with_reducible refine hK _ _ ?_);clear hK K));with_reducible refine hK _ _ ?_;clear hK K))
  have hB6 := hB5.pass hC4.out
  have hA6 := hA1.pass (xB.trans hC4.out)
  refine (barena_c hB6).mono ?_
  intro v w' ⟨hv, hw⟩
  subst hv; subst w'
  (repeat first|(with_reducible first|(refine hK _ _ ?_;clear hK K)|refine ‹∀σ w,_→K σ w› _ _ ?_|(refine W_st ?_;constructor;try intro K hK))|((with_reducible first|refine hZ _ _ ?_|refine W_rg ?_|skip);repeat1' simp only[push_cast,seval,-Nat.reduceSubDiff])|((repeat((fail_if_success with_reducible refine hK _ _ ?_);clear hK K));with_reducible refine hK _ _ ?_;clear hK K))
  obtain ⟨PB, hAB, _⟩ := hB6.ar
  obtain ⟨okD, _⟩ := okb_ok (show okb bD = true by rw [hbD]; kernel_rfl)
  refine (tree_a hAB (by have := okD.L; omega) okD.at_).mono ?_
  rintro v w9 ⟨T, bo, hT, hTL, hx9, -, -⟩
  have hA9 := hA6.pass hx9
  have hB9 := hB6.pass hx9
  have hC9 := hC4.pass hx9
  obtain ⟨ta, tc, rfl, htc⟩ := hT.len
  have hTl : T.length = 6 := by
    have := congrArg List.length hTL
    rw [List.length_map] at this
    rw [this, hbD]; exact (show ({ bgB with ask := none } : BSt).L.length = 6 by kernel_rfl)
  (repeat first|(with_reducible first|(refine hK _ _ ?_;clear hK K)|refine ‹∀σ w,_→K σ w› _ _ ?_|(refine W_st ?_;constructor;try intro K hK))|((with_reducible first|refine hZ _ _ ?_|refine W_rg ?_|skip);repeat1' simp only[push_cast,seval,-Nat.reduceSubDiff])|((repeat((fail_if_success with_reducible refine hK _ _ ?_);clear hK K));with_reducible refine hK _ _ ?_;clear hK K))
  (try (with_reducible refine W_id ?_); refine W_reg (by decide) (by rfl) ?_); refine Wo_flat (by simp only [lapp_cons, lapp_nil]; exact rfl) ?_
  (repeat simp only [push_cast, seval, -Nat.reduceSubDiff])
  refine (bquirks_c hA9).mono ?_
  intro v w' ⟨hv, hw⟩
  subst hv; subst w'
  rw [show bgA.quirks = true by kernel_rfl]
  (repeat first|(with_reducible first|(refine hK _ _ ?_;clear hK K)|refine ‹∀σ w,_→K σ w› _ _ ?_|(refine W_st ?_;constructor;try intro K hK))|((with_reducible first|refine hZ _ _ ?_|refine W_rg ?_|skip);repeat1' simp only[push_cast,seval,-Nat.reduceSubDiff])|((repeat((fail_if_success with_reducible refine hK _ _ ?_);clear hK K));with_reducible refine hK _ _ ?_;clear hK K))
  refine (bmode_c hA9).mono ?_
  intro v w' ⟨hv, hw⟩
  subst hv; subst w'
  rw [show bgA.mode = 6 by kernel_rfl]
  (repeat first|(with_reducible first|(refine hK _ _ ?_;clear hK K)|refine ‹∀σ w,_→K σ w› _ _ ?_|(refine W_st ?_;constructor;try intro K hK))|((with_reducible first|refine hZ _ _ ?_|refine W_rg ?_|skip);repeat1' simp only[push_cast,seval,-Nat.reduceSubDiff,eq_self])|((repeat((fail_if_success with_reducible refine hK _ _ ?_);clear hK K));with_reducible refine hK _ _ ?_;clear hK K))
  refine (bstack_c hA9).mono ?_
  intro v w' ⟨hv, hw⟩
  subst hv; subst w'
  (repeat first|(with_reducible first|(refine hK _ _ ?_;clear hK K)|refine ‹∀σ w,_→K σ w› _ _ ?_|(refine W_st ?_;constructor;try intro K hK))|((with_reducible first|refine hZ _ _ ?_|refine W_rg ?_|skip);repeat1' simp only[push_cast,seval,-Nat.reduceSubDiff])|((repeat((fail_if_success with_reducible refine hK _ _ ?_);clear hK K));with_reducible refine hK _ _ ?_;clear hK K))
  refine (bslen_c hA9).mono ?_
  intro v w' ⟨hv, hw⟩
  subst hv; subst w'
  rw [show bgA.s.length = 2 by kernel_rfl]
  have nodK : ∀ (i : Nat) (q : Nd), bD.L[i]? = some q → ∃ m, T[i]? = some m ∧ m.nd = q := fun i q hq => by
    rw [← hTL, List.getElem?_map] at hq
    cases hm : T[i]? with
    | none => rw [hm] at hq; cases hq
    | some m => rw [hm] at hq; exact ⟨m, rfl, Option.some.inj hq⟩
  have k0 : (bD.L[0]?).map Nd.kids = some [1, 2, 3] := by rw [hbD]; exact (by kernel_rfl : (bgB.L[0]?).map Nd.kids = some [1, 2, 3])
  have k2 : (bD.L[2]?).map Nd.kind = some 5 := by rw [hbD]; exact (by kernel_rfl : (bgB.L[2]?).map Nd.kind = some 5)
  obtain ⟨q0, e0, k0⟩ := Option.map_eq_some_iff.1 k0
  obtain ⟨q2, e2, k2⟩ := Option.map_eq_some_iff.1 k2
  obtain ⟨m0, hm0, hn0⟩ := nodK 0 _ e0
  obtain ⟨m2, hm2, hn2⟩ := nodK 2 _ e2
  obtain ⟨tb, to_, n', c', e, _⟩ := hT.sl.some_of (by intro e; have := flat_length T; rw [e] at this; simp at this; omega)
  cases e
  rw [hTl]
  have kk0 := (hT.ok m0 (List.mem_of_getElem? hm0)).kids
  have c08 := hT.get hm0 (j := 8) (by decide)
  have c20 := hT.get hm2 (j := 0) (by decide)
  simp only [Laid.cells, List.getElem?_cons_zero, List.getElem?_cons_succ, hn0, hn2, Nat.reduceMul] at c08 c20
  rw [hn0, k0] at kk0
  rw [k2] at c20
  obtain ⟨_, _, ek0, _⟩ := kk0.ints_len
  rw [ek0] at c08 kk0
  obtain ⟨kb0, ko0, _, _, e, _⟩ := kk0.some_of (by simp [intCells])
  cases e
  have d01 := kk0.ints_cell (i := 1) (show ([1, 2, 3] : List Int)[1]? = some 2 from rfl)
  have e03 : (List.length ([1, 2, 3] : List Int)) = 3 := rfl
  (repeat first|(with_reducible first|(refine hK _ _ ?_;clear hK K)|refine ‹∀σ w,_→K σ w› _ _ ?_|(refine W_st ?_;constructor;try intro K hK))|((with_reducible first|refine hZ _ _ ?_|refine W_rg ?_|skip);repeat1' simp only[push_cast,seval,-Nat.reduceSubDiff,eq_self])|((repeat((fail_if_success with_reducible refine hK _ _ ?_);clear hK K));with_reducible refine hK _ _ ?_;clear hK K))
  refine (bquirks_c hB9).mono ?_
  intro v w' ⟨hv, hw⟩
  subst hv; subst w'
  rw [show bD.quirks = false by rw [hbD]; exact (by kernel_rfl : bgB.quirks = false)]
  (repeat first|(with_reducible first|(refine hK _ _ ?_;clear hK K)|refine ‹∀σ w,_→K σ w› _ _ ?_|(refine W_st ?_;constructor;try intro K hK))|((with_reducible first|refine hZ _ _ ?_|refine W_rg ?_|skip);repeat1' simp only[push_cast,seval,-Nat.reduceSubDiff,eq_self,c08,d01,c20,e03])|((repeat((fail_if_success with_reducible refine hK _ _ ?_);clear hK K));with_reducible refine hK _ _ ?_;clear hK K))
  refine (bmode_c hB9).mono ?_
  intro v w' ⟨hv, hw⟩
  subst hv; subst w'
  rw [show bD.mode = 7 by rw [hbD]; exact (by kernel_rfl : bgB.mode = 7)]
  have hm15 : bgC3.mode = 15 := by kernel_rfl
  have hti : sTitle = ⟨#[116, 105, 116, 108, 101]⟩ := rfl
  (repeat first|(with_reducible first|(refine hK _ _ ?_;clear hK K)|refine ‹∀σ w,_→K σ w› _ _ ?_|(refine W_st ?_;constructor;try intro K hK))|((with_reducible first|refine hZ _ _ ?_|refine W_rg ?_|skip);repeat1' simp only[push_cast,seval,-Nat.reduceSubDiff,eq_self,hm15,hti])|((repeat((fail_if_success with_reducible refine hK _ _ ?_);clear hK K));with_reducible refine hK _ _ ?_;clear hK K))
  refine (bmode_c hC9).mono ?_
  intro v w' ⟨hv, hw⟩
  subst hv; subst w'
  rw [show bgC.mode = 3 by kernel_rfl]
  (repeat first|(with_reducible first|(refine hK _ _ ?_;clear hK K)|refine ‹∀σ w,_→K σ w› _ _ ?_|(refine W_st ?_;constructor;try intro K hK))|((with_reducible first|refine hZ _ _ ?_|refine W_rg ?_|skip);repeat1' simp only[push_cast,seval,-Nat.reduceSubDiff,eq_self])|((repeat((fail_if_success with_reducible refine hK _ _ ?_);clear hK K));with_reducible refine hK _ _ ?_;clear hK K))
  refine (barena_c hC9).mono ?_
  intro v w' ⟨hv, hw⟩
  subst hv; subst w'
  (repeat first|(with_reducible first|(refine hK _ _ ?_;clear hK K)|refine ‹∀σ w,_→K σ w› _ _ ?_|(refine W_st ?_;constructor;try intro K hK))|((with_reducible first|refine hZ _ _ ?_|refine W_rg ?_|skip);repeat1' simp only[push_cast,seval,-Nat.reduceSubDiff])|((repeat((fail_if_success with_reducible refine hK _ _ ?_);clear hK K));with_reducible refine hK _ _ ?_;clear hK K))
  obtain ⟨PC, hAC, _⟩ := hC9.ar
  obtain ⟨okC, _⟩ := okb_ok (show okb bgC = true by kernel_rfl)
  refine (node_a hAC (by have := okC.L; omega) okC.at_ 3).mono ?_
  rintro v w10 ⟨mm, rfl, emm, _, _, hx10, _, _⟩
  have hcc : mm.nd.content = 4 := by
    rw [show mm.nd = nodeN bgC.L 3 from emm]; exact bgC_cont
  (repeat first|(with_reducible first|(refine hK _ _ ?_;clear hK K)|refine ‹∀σ w,_→K σ w› _ _ ?_|(refine W_st ?_;constructor;try intro K hK))|((with_reducible first|refine hZ _ _ ?_|refine W_rg ?_|skip);repeat1' simp only[push_cast,seval,-Nat.reduceSubDiff,fld7,hcc,eq_self])|((repeat((fail_if_success with_reducible refine hK _ _ ?_);clear hK K));with_reducible refine hK _ _ ?_;clear hK K))
  exact hA9.out.trans hx10
end Go.Proofs.YtgnnlaeikcnhcaaGreatDoor
end
section
set_option linter.unusedSimpArgs false
set_option linter.unusedVariables false
namespace Go.Proofs.YtgnnlaeikcnhcaaGreatDoor
open Go Go.Vk Go.WideElems Go.Maps
theorem gbh_of {W : World} (h : laidMetH Tryz.prog [("lazaret/builder.by", Rows.laid_lazaret_builder_by), ("lazaret/heads.steps", Rows.laid_lazaret_heads_steps)] W) : GB W := by
  have h' : laidMet Tryz.prog [("lazaret/builder.by", Rows.laid_lazaret_builder_by)] W ∧ _ := h
  obtain ⟨⟨ps, ⟨g', t', cs, fuel, p, q, hg', ht', hvar, hd, _, _⟩, _⟩, _⟩ := h'
  obtain rfl := Option.some.inj (gBy.symm.trans hg')
  obtain rfl := Option.some.inj (gByT.symm.trans ht')
  exact gb_of_var hvar hd
theorem heads_of {W : World} (h : laidMetH Tryz.prog [("lazaret/builder.by", Rows.laid_lazaret_builder_by), ("lazaret/heads.steps", Rows.laid_lazaret_heads_steps)] W) (hs : W.ShapedOpen Tryz.prog) : GB W ∧ GS W ∧ MaxAt W := ⟨gbh_of h, gs_of h, maxAt_of hs⟩
end Go.Proofs.YtgnnlaeikcnhcaaGreatDoor
end
