/- What the proof leans on,part 9 of 15. -/
import Derived.Test.YtgnnlaeikcnhcaaGreatDoorQHeadsPlayH
set_option linter.unusedSimpArgs false
set_option linter.unusedVariables false
section
namespace Go.Proofs.YtgnnlaeikcnhcaaGreatDoor
open Go Go.Vk
set_option maxHeartbeats 40000000
section
variable {w0 w : World} {Q : Nat → Prop} {pb ps pl pa : Nat} {b : BSt}
theorem beforeHTML_c (h : BuAt w0 w Q pb ps pl pa b) (hO : HdO 5 b) (hg : GB w0) (hM : MaxAt w0) (hQl : ∀ q,Q q → q < w.heap.size) {t : HTok} {av : Value} (ha0 : RdAt w0 2 av (attrCells t.attrs)) (ht : SmT t) :
    Gives Tryz.prog 289 #[.pointer (some ⟨pb,0,none⟩),.agg (t.row av)] w fun v w' => v = .bool (bhtmlH b t).2 ∧ BuAt w0 w' Q pb ps pl pa (bhtmlH b t).1 ∧ Upd (AF w0 Q) w w' := by
  have ha := ha0.ext h.out
  obtain ⟨xa,xn,xc,eav,_⟩ := id ha
  subst eav
  have hrow : t.row (.slice xa xn xc) = #[.int .i64 t.kind,.string t.name,.string t.text,.slice xa xn xc,.bool t.dup,.bool t.self,.bool t.quirks,.int .i64 t.frm,.int .i64 t.to] := rfl
  have hx := Ext.alloc w (.cells (t.row (.slice xa xn xc)) 37)
  have hp : (w.alloc (.cells (t.row (.slice xa xn xc)) 37)).heap[w.heap.size]? = some (.cells (t.row (.slice xa xn xc)) 37 (0,0)) := by rw [heap_alloc_h,if_pos rfl]
  obtain ⟨r,hr⟩ : ∃ r,r = bhtmlH b t := ⟨_,rfl⟩
  rw [← hr]
  unfold bhtmlH at hr
  have hL := hO.L
  have hok := hO.ok
  refine Gives.of_W Tryz.call289 Tryz.func289 rfl Tryz.ntmps289 (by simp) ?_; intro Z hZ
  (repeat revert hK K);refine W1 @vcells_agg ?_;repeat with_reducible intro K hK
  generalize w.alloc (.cells (t.row (.slice xa xn xc)) 37) = w1 at *
  obtain ⟨p,hpe⟩ : ∃ p,p = w.heap.size := ⟨_,rfl⟩
  rw [← hpe] at hp ⊢
  rw [hrow] at hp
  have h1 := h.pass hx
  have hx1 := hx
  have hp1 := hp
  by_cases k4 : t.kind = 4
  · have k4' := eq_true k4
    rw [if_pos k4] at hr
    (repeat revert hK K);refine Wc2 @hp1 @k4' ?_;repeat with_reducible intro K hK
    rw [← hrow]
    refine (bcomment_c h1 hok (by omega) (fun q hq => by have := hQl q hq; have := hx1.sz; omega) t (0)).mono ?_
    rintro v w2 ⟨h2,hu2⟩
    (repeat revert hK K);refine W0 ?_;repeat with_reducible intro K hK
    exact ⟨by rw [hr],by rw [hr]; exact h2,Upd.trans (hx1.upd) hu2 fun _ _ h => h⟩
  have k4' := eq_false k4
  rw [if_neg k4] at hr
  by_cases k1 : t.kind = 1
  · have k1' := eq_true k1
    rw [if_pos (.inl k1)] at hr
    (repeat revert hK K);refine Wc3 @hp1 @k4' @k1' ?_;repeat with_reducible intro K hK
    exact ⟨by rw [hr],by rw [hr]; exact h1,hx1.upd⟩
  have k1' := eq_false k1
  by_cases k5 : t.kind = 5
  · have k5' := eq_true k5
    rw [if_pos (.inr (.inl k5))] at hr
    (repeat revert hK K);refine Wc4 @hp1 @k4' @k1' @k5' ?_;repeat with_reducible intro K hK
    exact ⟨by rw [hr],by rw [hr]; exact h1,hx1.upd⟩
  have k5' := eq_false k5
  (repeat revert hK K);refine Wc4 @hp1 @k4' @k1' @k5' ?_;repeat with_reducible intro K hK
  rw [← hrow]
  refine hstrange_c.mono ?_
  rintro v w2 ⟨rfl,hy2⟩
  have hx2 := hx1.trans hy2
  have hp2 := hy2.blk hp1
  have h2 := h1.pass hy2
  by_cases s1 : strT t = true
  · rw [if_pos (.inr (.inr s1))] at hr
    (repeat revert hK K);refine Wc2 @hp2 @s1 ?_;repeat with_reducible intro K hK
    exact ⟨by rw [hr],by rw [hr]; exact h2,hx2.upd⟩
  rw [if_neg (fun h => by rcases h with h | h | h <;> first | exact k1 h | exact k5 h | exact s1 h)] at hr
  have s1' := eq_false_of_ne_true s1
  (repeat revert hK K);refine Wc2 @hp2 @s1' ?_;repeat with_reducible intro K hK
  refine bsl (l := lHtml) rfl (by decide) (by decide) (by kernel_rfl) ?_
  rintro v w3 hy3 hn3 ⟨bn3,rfl⟩
  (repeat revert hK K);refine W0 ?_;repeat with_reducible intro K hK
  rw [← hrow]
  refine (hstart_c hn3 (by decide)).mono ?_
  rintro v w4 ⟨rfl,hy4⟩
  have hx4 := (hx2.trans hy3).trans hy4
  have hp4 := (hy3.trans hy4).blk hp2
  have h4 := h2.pass (hy3.trans hy4)
  by_cases s2 : startT t lHtml = true
  · rw [if_pos s2] at hr
    (repeat revert hK K);refine Wc2 @hp4 @s2 ?_;repeat with_reducible intro K hK
    rw [← hrow]
    refine (binsert_c h4 hok (by omega) (fun q hq => by have := hQl q hq; have := hx4.sz; omega) (ha.ext hx4) ht.2.2 0).mono ?_
    rintro v w5 ⟨rfl,h5,hu5⟩
    (repeat revert hK K);refine W0 ?_;repeat with_reducible intro K hK
    refine (bset_c h5 2).mono ?_
    rintro v w6 ⟨h6,hu6⟩
    (repeat revert hK K);refine W0 ?_;repeat with_reducible intro K hK
    exact ⟨by rw [hr],by rw [hr]; exact h6,Upd.trans (Upd.trans (hx4.upd) hu5 fun _ _ h => h) hu6 fun _ _ h => h⟩
  rw [if_neg s2] at hr
  have s2' := eq_false_of_ne_true s2
  (repeat revert hK K);refine Wc2 @hp4 @s2' ?_;repeat with_reducible intro K hK
  refine (bimply_c h4 hok (by omega) (fun q hq => by have := hQl q hq; have := hx4.sz; omega) _).mono ?_
  rintro v w5 ⟨rfl,h5,hu5⟩
  (repeat revert hK K);refine W0 ?_;repeat with_reducible intro K hK
  refine (bset_c h5 2).mono ?_
  rintro v w6 ⟨h6,hu6⟩
  (repeat revert hK K);refine W0 ?_;repeat with_reducible intro K hK
  exact ⟨by rw [hr],by rw [hr]; exact h6,Upd.trans (Upd.trans (hx4.upd) hu5 fun _ _ h => h) hu6 fun _ _ h => h⟩
theorem beforeHead_c (h : BuAt w0 w Q pb ps pl pa b) (hO : HdO 5 b) (hg : GB w0) (hM : MaxAt w0) (hQl : ∀ q,Q q → q < w.heap.size) {t : HTok} {av : Value} (ha0 : RdAt w0 2 av (attrCells t.attrs)) (ht : SmT t) :
    Gives Tryz.prog 290 #[.pointer (some ⟨pb,0,none⟩),.agg (t.row av)] w fun v w' => v = .bool (bheadH b t).2 ∧ BuAt w0 w' Q pb ps pl pa (bheadH b t).1 ∧ Upd (AF w0 Q) w w' := by
  have ha := ha0.ext h.out
  obtain ⟨xa,xn,xc,eav,_⟩ := id ha
  subst eav
  have hrow : t.row (.slice xa xn xc) = #[.int .i64 t.kind,.string t.name,.string t.text,.slice xa xn xc,.bool t.dup,.bool t.self,.bool t.quirks,.int .i64 t.frm,.int .i64 t.to] := rfl
  have hx := Ext.alloc w (.cells (t.row (.slice xa xn xc)) 37)
  have hp : (w.alloc (.cells (t.row (.slice xa xn xc)) 37)).heap[w.heap.size]? = some (.cells (t.row (.slice xa xn xc)) 37 (0,0)) := by rw [heap_alloc_h,if_pos rfl]
  obtain ⟨r,hr⟩ : ∃ r,r = bheadH b t := ⟨_,rfl⟩
  rw [← hr]
  unfold bheadH at hr
  have hL := hO.L
  have hok := hO.ok
  refine Gives.of_W Tryz.call290 Tryz.func290 rfl Tryz.ntmps290 (by simp) ?_; intro Z hZ
  (repeat revert hK K);refine W1 @vcells_agg ?_;repeat with_reducible intro K hK
  generalize w.alloc (.cells (t.row (.slice xa xn xc)) 37) = w1 at *
  obtain ⟨p,hpe⟩ : ∃ p,p = w.heap.size := ⟨_,rfl⟩
  rw [← hpe] at hp ⊢
  rw [hrow] at hp
  have h1 := h.pass hx
  have hx1 := hx
  have hp1 := hp
  by_cases k4 : t.kind = 4
  · have k4' := eq_true k4
    rw [if_pos k4] at hr
    (repeat revert hK K);refine Wc2 @hp1 @k4' ?_;repeat with_reducible intro K hK
    rw [← hrow]
    refine (bcomment_c h1 hok (by omega) (fun q hq => by have := hQl q hq; have := hx1.sz; omega) t (-1)).mono ?_
    rintro v w2 ⟨h2,hu2⟩
    (repeat revert hK K);refine W0 ?_;repeat with_reducible intro K hK
    exact ⟨by rw [hr],by rw [hr]; exact h2,Upd.trans (hx1.upd) hu2 fun _ _ h => h⟩
  have k4' := eq_false k4
  rw [if_neg k4] at hr
  by_cases k1 : t.kind = 1
  · have k1' := eq_true k1
    rw [if_pos (.inl k1)] at hr
    (repeat revert hK K);refine Wc3 @hp1 @k4' @k1' ?_;repeat with_reducible intro K hK
    exact ⟨by rw [hr],by rw [hr]; exact h1,hx1.upd⟩
  have k1' := eq_false k1
  by_cases k5 : t.kind = 5
  · have k5' := eq_true k5
    rw [if_pos (.inr (.inl k5))] at hr
    (repeat revert hK K);refine Wc4 @hp1 @k4' @k1' @k5' ?_;repeat with_reducible intro K hK
    exact ⟨by rw [hr],by rw [hr]; exact h1,hx1.upd⟩
  have k5' := eq_false k5
  (repeat revert hK K);refine Wc4 @hp1 @k4' @k1' @k5' ?_;repeat with_reducible intro K hK
  rw [← hrow]
  refine hstrange_c.mono ?_
  rintro v w2 ⟨rfl,hy2⟩
  have hx2 := hx1.trans hy2
  have hp2 := hy2.blk hp1
  have h2 := h1.pass hy2
  by_cases s1 : strT t = true
  · rw [if_pos (.inr (.inr s1))] at hr
    (repeat revert hK K);refine Wc2 @hp2 @s1 ?_;repeat with_reducible intro K hK
    exact ⟨by rw [hr],by rw [hr]; exact h2,hx2.upd⟩
  rw [if_neg (fun h => by rcases h with h | h | h <;> first | exact k1 h | exact k5 h | exact s1 h)] at hr
  have s1' := eq_false_of_ne_true s1
  (repeat revert hK K);refine Wc2 @hp2 @s1' ?_;repeat with_reducible intro K hK
  refine bsl (l := lHtml) rfl (by decide) (by decide) (by kernel_rfl) ?_
  rintro v w3 hy3 hn3 ⟨bn3,rfl⟩
  (repeat revert hK K);refine W0 ?_;repeat with_reducible intro K hK
  rw [← hrow]
  refine (hstart_c hn3 (by decide)).mono ?_
  rintro v w4 ⟨rfl,hy4⟩
  have hx4 := (hx2.trans hy3).trans hy4
  have hp4 := (hy3.trans hy4).blk hp2
  have h4 := h2.pass (hy3.trans hy4)
  by_cases s2 : startT t lHtml = true
  · rw [if_pos s2] at hr
    (repeat revert hK K);refine Wc2 @hp4 @s2 ?_;repeat with_reducible intro K hK
    rw [← hrow]
    refine (bmore_c h4 hok (fun q hq => by have := hQl q hq; have := hx4.sz; omega) ha0 ht.2.2).mono ?_
    rintro v w5 ⟨h5,hu5⟩
    (repeat revert hK K);refine W0 ?_;repeat with_reducible intro K hK
    exact ⟨by rw [hr],by rw [hr]; exact h5,Upd.trans (hx4.upd) hu5 fun _ _ h => h⟩
  rw [if_neg s2] at hr
  have s2' := eq_false_of_ne_true s2
  (repeat revert hK K);refine Wc2 @hp4 @s2' ?_;repeat with_reducible intro K hK
  refine bsl (l := lHead) rfl (by decide) (by decide) (by kernel_rfl) ?_
  rintro v w5 hy5 hn5 ⟨bn5,rfl⟩
  (repeat revert hK K);refine W0 ?_;repeat with_reducible intro K hK
  rw [← hrow]
  refine (hstart_c hn5 (by decide)).mono ?_
  rintro v w6 ⟨rfl,hy6⟩
  have hx6 := (hx4.trans hy5).trans hy6
  have hp6 := (hy5.trans hy6).blk hp4
  have h6 := h4.pass (hy5.trans hy6)
  by_cases s3 : startT t lHead = true
  · rw [if_pos s3] at hr
    (repeat revert hK K);refine Wc2 @hp6 @s3 ?_;repeat with_reducible intro K hK
    rw [← hrow]
    refine (binsert_c h6 hok (by omega) (fun q hq => by have := hQl q hq; have := hx6.sz; omega) (ha.ext hx6) ht.2.2 0).mono ?_
    rintro v w7 ⟨rfl,h7,hu7⟩
    (repeat revert hK K);refine W0 ?_;repeat with_reducible intro K hK
    refine (bsethead_c h7 _).mono ?_
    rintro v w8 ⟨h8,hu8⟩
    (repeat revert hK K);refine W0 ?_;repeat with_reducible intro K hK
    refine (bset_c h8 3).mono ?_
    rintro v w9 ⟨h9,hu9⟩
    (repeat revert hK K);refine W0 ?_;repeat with_reducible intro K hK
    exact ⟨by rw [hr],by rw [hr]; exact h9,Upd.trans (Upd.trans (Upd.trans (hx6.upd) hu7 fun _ _ h => h) hu8 fun _ _ h => h) hu9 fun _ _ h => h⟩
  rw [if_neg s3] at hr
  have s3' := eq_false_of_ne_true s3
  (repeat revert hK K);refine Wc2 @hp6 @s3' ?_;repeat with_reducible intro K hK
  refine (bimply_c h6 hok (by omega) (fun q hq => by have := hQl q hq; have := hx6.sz; omega) _).mono ?_
  rintro v w7 ⟨rfl,h7,hu7⟩
  (repeat revert hK K);refine W0 ?_;repeat with_reducible intro K hK
  refine (bsethead_c h7 _).mono ?_
  rintro v w8 ⟨h8,hu8⟩
  (repeat revert hK K);refine W0 ?_;repeat with_reducible intro K hK
  refine (bset_c h8 3).mono ?_
  rintro v w9 ⟨h9,hu9⟩
  (repeat revert hK K);refine W0 ?_;repeat with_reducible intro K hK
  exact ⟨by rw [hr],by rw [hr]; exact h9,Upd.trans (Upd.trans (Upd.trans (hx6.upd) hu7 fun _ _ h => h) hu8 fun _ _ h => h) hu9 fun _ _ h => h⟩
end
end Go.Proofs.YtgnnlaeikcnhcaaGreatDoor
end
section
namespace Go.Proofs.YtgnnlaeikcnhcaaGreatDoor
open Go Go.Vk
set_option maxHeartbeats 40000000
section
variable {w0 w : World} {Q : Nat → Prop} {pb ps pl pa : Nat} {b : BSt}
theorem htext_c (h : BuAt w0 w Q pb ps pl pa b) (hO : HdO 5 b) (hg : GB w0) (hM : MaxAt w0) (hQl : ∀ q,Q q → q < w.heap.size) {t : HTok} {av : Value} (ha0 : RdAt w0 2 av (attrCells t.attrs)) (ht : SmT t) :
    Gives Tryz.prog 293 #[.pointer (some ⟨pb,0,none⟩),.agg (t.row av)] w fun v w' => v = .bool (textH b t).2 ∧ BuAt w0 w' Q pb ps pl pa (textH b t).1 ∧ Upd (AF w0 Q) w w' := by
  have ha := ha0.ext h.out
  obtain ⟨xa,xn,xc,eav,_⟩ := id ha
  subst eav
  have hrow : t.row (.slice xa xn xc) = #[.int .i64 t.kind,.string t.name,.string t.text,.slice xa xn xc,.bool t.dup,.bool t.self,.bool t.quirks,.int .i64 t.frm,.int .i64 t.to] := rfl
  have hx := Ext.alloc w (.cells (t.row (.slice xa xn xc)) 37)
  have hp : (w.alloc (.cells (t.row (.slice xa xn xc)) 37)).heap[w.heap.size]? = some (.cells (t.row (.slice xa xn xc)) 37 (0,0)) := by rw [heap_alloc_h,if_pos rfl]
  obtain ⟨r,hr⟩ : ∃ r,r = textH b t := ⟨_,rfl⟩
  rw [← hr]
  unfold textH at hr
  have hL := hO.L
  have hok := hO.ok
  refine Gives.of_W Tryz.call293 Tryz.func293 rfl Tryz.ntmps293 (by simp) ?_; intro Z hZ
  (repeat first|(with_reducible first|(refine hK _ _ ?_;clear hK K)|refine ‹∀σ w,_→K σ w› _ _ ?_|(refine W_st ?_;constructor;try intro K hK))|((with_reducible first|refine hZ _ _ ?_|refine W_rg ?_|skip);repeat1' simp only[push_cast,seval,-Nat.reduceSubDiff,vcells_agg])|((repeat((fail_if_success with_reducible refine hK _ _ ?_);clear hK K));with_reducible refine hK _ _ ?_;clear hK K))
  generalize w.alloc (.cells (t.row (.slice xa xn xc)) 37) = w1 at *
  obtain ⟨p,hpe⟩ : ∃ p,p = w.heap.size := ⟨_,rfl⟩
  rw [← hpe] at hp ⊢
  rw [hrow] at hp
  have h1 := h.pass hx
  have hx1 := hx
  have hp1 := hp
  by_cases k5 : t.kind = 5
  · have k5' := eq_true k5
    rw [if_pos (.inl k5)] at hr
    (repeat first|(with_reducible first|(refine hK _ _ ?_;clear hK K)|refine ‹∀σ w,_→K σ w› _ _ ?_|(refine W_st ?_;constructor;try intro K hK))|((with_reducible first|refine hZ _ _ ?_|refine W_rg ?_|skip);repeat1' simp only[push_cast,seval,-Nat.reduceSubDiff,cell_h,cellO_cells,hp1,k5'])|((repeat((fail_if_success with_reducible refine hK _ _ ?_);clear hK K));with_reducible refine hK _ _ ?_;clear hK K))
    refine (bchars_c h1 hok t.text ht.2.1 hO.txt).mono ?_
    rintro v w2 ⟨h2,hu2⟩
    (repeat first|(with_reducible first|(refine hK _ _ ?_;clear hK K)|refine ‹∀σ w,_→K σ w› _ _ ?_|(refine W_st ?_;constructor;try intro K hK))|((with_reducible first|refine hZ _ _ ?_|refine W_rg ?_|skip);repeat1' simp only[push_cast,seval,-Nat.reduceSubDiff])|((repeat((fail_if_success with_reducible refine hK _ _ ?_);clear hK K));with_reducible refine hK _ _ ?_;clear hK K))
    exact ⟨by rw [hr],by rw [hr]; exact h2,Upd.trans (hx1.upd) hu2 fun _ _ h => h⟩
  have k5' := eq_false k5
  by_cases k7 : t.kind = 7
  · have k7' := eq_true k7
    rw [if_pos (.inr (.inl k7))] at hr
    (repeat first|(with_reducible first|(refine hK _ _ ?_;clear hK K)|refine ‹∀σ w,_→K σ w› _ _ ?_|(refine W_st ?_;constructor;try intro K hK))|((with_reducible first|refine hZ _ _ ?_|refine W_rg ?_|skip);repeat1' simp only[push_cast,seval,-Nat.reduceSubDiff,cell_h,cellO_cells,hp1,k5',k7'])|((repeat((fail_if_success with_reducible refine hK _ _ ?_);clear hK K));with_reducible refine hK _ _ ?_;clear hK K))
    refine (bchars_c h1 hok t.text ht.2.1 hO.txt).mono ?_
    rintro v w2 ⟨h2,hu2⟩
    (repeat first|(with_reducible first|(refine hK _ _ ?_;clear hK K)|refine ‹∀σ w,_→K σ w› _ _ ?_|(refine W_st ?_;constructor;try intro K hK))|((with_reducible first|refine hZ _ _ ?_|refine W_rg ?_|skip);repeat1' simp only[push_cast,seval,-Nat.reduceSubDiff])|((repeat((fail_if_success with_reducible refine hK _ _ ?_);clear hK K));with_reducible refine hK _ _ ?_;clear hK K))
    exact ⟨by rw [hr],by rw [hr]; exact h2,Upd.trans (hx1.upd) hu2 fun _ _ h => h⟩
  have k7' := eq_false k7
  by_cases k6 : t.kind = 6
  · have k6' := eq_true k6
    rw [if_pos (.inr (.inr k6))] at hr
    (repeat first|(with_reducible first|(refine hK _ _ ?_;clear hK K)|refine ‹∀σ w,_→K σ w› _ _ ?_|(refine W_st ?_;constructor;try intro K hK))|((with_reducible first|refine hZ _ _ ?_|refine W_rg ?_|skip);repeat1' simp only[push_cast,seval,-Nat.reduceSubDiff,cell_h,cellO_cells,hp1,k5',k7',k6'])|((repeat((fail_if_success with_reducible refine hK _ _ ?_);clear hK K));with_reducible refine hK _ _ ?_;clear hK K))
    refine (bchars_c h1 hok t.text ht.2.1 hO.txt).mono ?_
    rintro v w2 ⟨h2,hu2⟩
    (repeat first|(with_reducible first|(refine hK _ _ ?_;clear hK K)|refine ‹∀σ w,_→K σ w› _ _ ?_|(refine W_st ?_;constructor;try intro K hK))|((with_reducible first|refine hZ _ _ ?_|refine W_rg ?_|skip);repeat1' simp only[push_cast,seval,-Nat.reduceSubDiff])|((repeat((fail_if_success with_reducible refine hK _ _ ?_);clear hK K));with_reducible refine hK _ _ ?_;clear hK K))
    exact ⟨by rw [hr],by rw [hr]; exact h2,Upd.trans (hx1.upd) hu2 fun _ _ h => h⟩
  have k6' := eq_false k6
  rw [if_neg (fun h => by rcases h with h | h | h <;> first | exact k5 h | exact k7 h | exact k6 h)] at hr
  (repeat first|(with_reducible first|(refine hK _ _ ?_;clear hK K)|refine ‹∀σ w,_→K σ w› _ _ ?_|(refine W_st ?_;constructor;try intro K hK))|((with_reducible first|refine hZ _ _ ?_|refine W_rg ?_|skip);repeat1' simp only[push_cast,seval,-Nat.reduceSubDiff,cell_h,cellO_cells,hp1,k5',k7',k6'])|((repeat((fail_if_success with_reducible refine hK _ _ ?_);clear hK K));with_reducible refine hK _ _ ?_;clear hK K))
  have lp1 := blk_lt hp1
  have hd : BuAt w0 w1 (fun q => Q q ∨ q = p) pb ps pl pa b := h.more hx1 fun q hq => by
    rcases hq with hq | hq
    · exact .inl hq
    · exact .inr ⟨by omega,by omega⟩
  have hQd : ∀ q,(Q q ∨ q = p) → q < w1.heap.size := by
    intro q hq
    have := hx1.sz
    rcases hq with hq | hq
    · have := hQl q hq; omega
    · omega
  refine (bstack_c hd).mono ?_
  intro v w' ⟨hv,hw⟩
  subst hv; subst w'
  (repeat first|(with_reducible first|(refine hK _ _ ?_;clear hK K)|refine ‹∀σ w,_→K σ w› _ _ ?_|(refine W_st ?_;constructor;try intro K hK))|((with_reducible first|refine hZ _ _ ?_|refine W_rg ?_|skip);repeat1' simp only[push_cast,seval,-Nat.reduceSubDiff])|((repeat((fail_if_success with_reducible refine hK _ _ ?_);clear hK K));with_reducible refine hK _ _ ?_;clear hK K))
  refine (bpop_c hd hok).mono ?_
  rintro v w2 ⟨rfl,h2,g2⟩
  have hp2 := (g2.same p lp1 (fun hf => hf.2 (.inr rfl))).trans hp1
  have lp2 := blk_lt hp2
  have hu2 : Upd (AF w0 Q) w1 w2 := g2.mono fun q _ hf => ⟨hf.1,fun hq => hf.2 (.inl hq)⟩
  (repeat first|(with_reducible first|(refine hK _ _ ?_;clear hK K)|refine ‹∀σ w,_→K σ w› _ _ ?_|(refine W_st ?_;constructor;try intro K hK))|((with_reducible first|refine hZ _ _ ?_|refine W_rg ?_|skip);repeat1' simp only[push_cast,seval,-Nat.reduceSubDiff])|((repeat((fail_if_success with_reducible refine hK _ _ ?_);clear hK K));with_reducible refine hK _ _ ?_;clear hK K))
  refine (bback_c h2).mono ?_
  intro v w' ⟨hv,hw⟩
  subst hv; subst w'
  (repeat first|(with_reducible first|(refine hK _ _ ?_;clear hK K)|refine ‹∀σ w,_→K σ w› _ _ ?_|(refine W_st ?_;constructor;try intro K hK))|((with_reducible first|refine hZ _ _ ?_|refine W_rg ?_|skip);repeat1' simp only[push_cast,seval,-Nat.reduceSubDiff])|((repeat((fail_if_success with_reducible refine hK _ _ ?_);clear hK K));with_reducible refine hK _ _ ?_;clear hK K))
  refine (bset_c h2 _).mono ?_
  rintro v w3 ⟨h3',g3⟩
  have hp3 := (g3.same p lp2 (fun hf => hf.2 (.inr rfl))).trans hp2
  have lp3 := blk_lt hp3
  have hu3 : Upd (AF w0 Q) w2 w3 := g3.mono fun q _ hf => ⟨hf.1,fun hq => hf.2 (.inl hq)⟩
  have h3 : BuAt w0 w3 Q pb ps pl pa (modeB (popS b) b.back) := h3'.less fun q hq => .inl hq
  (repeat first|(with_reducible first|(refine hK _ _ ?_;clear hK K)|refine ‹∀σ w,_→K σ w› _ _ ?_|(refine W_st ?_;constructor;try intro K hK))|((with_reducible first|refine hZ _ _ ?_|refine W_rg ?_|skip);repeat1' simp only[push_cast,seval,-Nat.reduceSubDiff,cell_h,cellO_cells,hp3])|((repeat((fail_if_success with_reducible refine hK _ _ ?_);clear hK K));with_reducible refine hK _ _ ?_;clear hK K))
  exact ⟨by rw [hr],by rw [hr]; exact h3,Upd.trans (Upd.trans (hx1.upd) hu2 fun _ _ h => h) hu3 fun _ _ h => h⟩
theorem noscript_c (h : BuAt w0 w Q pb ps pl pa b) (hO : HdO 5 b) (hg : GB w0) (hM : MaxAt w0) (hQl : ∀ q,Q q → q < w.heap.size) {t : HTok} {av : Value} (ha0 : RdAt w0 2 av (attrCells t.attrs)) (ht : SmT t) :
    Gives Tryz.prog 291 #[.pointer (some ⟨pb,0,none⟩),.agg (t.row av)] w fun v w' => v = .bool (nosH b t).2 ∧ BuAt w0 w' Q pb ps pl pa (nosH b t).1 ∧ Upd (AF w0 Q) w w' := by
  have ha := ha0.ext h.out
  obtain ⟨xa,xn,xc,eav,_⟩ := id ha
  subst eav
  have hrow : t.row (.slice xa xn xc) = #[.int .i64 t.kind,.string t.name,.string t.text,.slice xa xn xc,.bool t.dup,.bool t.self,.bool t.quirks,.int .i64 t.frm,.int .i64 t.to] := rfl
  have hx := Ext.alloc w (.cells (t.row (.slice xa xn xc)) 37)
  have hp : (w.alloc (.cells (t.row (.slice xa xn xc)) 37)).heap[w.heap.size]? = some (.cells (t.row (.slice xa xn xc)) 37 (0,0)) := by rw [heap_alloc_h,if_pos rfl]
  obtain ⟨r,hr⟩ : ∃ r,r = nosH b t := ⟨_,rfl⟩
  rw [← hr]
  unfold nosH at hr
  have hL := hO.L
  have hok := hO.ok
  refine Gives.of_W Tryz.call291 Tryz.func291 rfl Tryz.ntmps291 (by simp) ?_; intro Z hZ
  (repeat first|(with_reducible first|(refine hK _ _ ?_;clear hK K)|refine ‹∀σ w,_→K σ w› _ _ ?_|(refine W_st ?_;constructor;try intro K hK))|((with_reducible first|refine hZ _ _ ?_|refine W_rg ?_|skip);repeat1' simp only[push_cast,seval,-Nat.reduceSubDiff,vcells_agg])|((repeat((fail_if_success with_reducible refine hK _ _ ?_);clear hK K));with_reducible refine hK _ _ ?_;clear hK K))
  generalize w.alloc (.cells (t.row (.slice xa xn xc)) 37) = w1 at *
  obtain ⟨p,hpe⟩ : ∃ p,p = w.heap.size := ⟨_,rfl⟩
  rw [← hpe] at hp ⊢
  rw [hrow] at hp
  have h1 := h.pass hx
  have hx1 := hx
  have hp1 := hp
  by_cases k1 : t.kind = 1
  · have k1' := eq_true k1
    rw [if_pos (.inl k1)] at hr
    (repeat first|(with_reducible first|(refine hK _ _ ?_;clear hK K)|refine ‹∀σ w,_→K σ w› _ _ ?_|(refine W_st ?_;constructor;try intro K hK))|((with_reducible first|refine hZ _ _ ?_|refine W_rg ?_|skip);repeat1' simp only[push_cast,seval,-Nat.reduceSubDiff,cell_h,cellO_cells,hp1,k1'])|((repeat((fail_if_success with_reducible refine hK _ _ ?_);clear hK K));with_reducible refine hK _ _ ?_;clear hK K))
    exact ⟨by rw [hr],by rw [hr]; exact h1,hx1.upd⟩
  have k1' := eq_false k1
  (repeat first|(with_reducible first|(refine hK _ _ ?_;clear hK K)|refine ‹∀σ w,_→K σ w› _ _ ?_|(refine W_st ?_;constructor;try intro K hK))|((with_reducible first|refine hZ _ _ ?_|refine W_rg ?_|skip);repeat1' simp only[push_cast,seval,-Nat.reduceSubDiff,cell_h,cellO_cells,hp1,k1'])|((repeat((fail_if_success with_reducible refine hK _ _ ?_);clear hK K));with_reducible refine hK _ _ ?_;clear hK K))
  refine bsl (l := lHN) rfl (by decide) (by decide) (by kernel_rfl) ?_
  rintro v w2 hy2 hn2 ⟨bn2,rfl⟩
  (repeat first|(with_reducible first|(refine hK _ _ ?_;clear hK K)|refine ‹∀σ w,_→K σ w› _ _ ?_|(refine W_st ?_;constructor;try intro K hK))|((with_reducible first|refine hZ _ _ ?_|refine W_rg ?_|skip);repeat1' simp only[push_cast,seval,-Nat.reduceSubDiff])|((repeat((fail_if_success with_reducible refine hK _ _ ?_);clear hK K));with_reducible refine hK _ _ ?_;clear hK K))
  rw [← hrow]
  refine (hstart_c hn2 (by decide)).mono ?_
  rintro v w3 ⟨rfl,hy3⟩
  have hx3 := (hx1.trans hy2).trans hy3
  have hp3 := (hy2.trans hy3).blk hp1
  have h3 := h1.pass (hy2.trans hy3)
  by_cases s1 : startT t lHN = true
  · rw [if_pos (.inr s1)] at hr
    (repeat first|(with_reducible first|(refine hK _ _ ?_;clear hK K)|refine ‹∀σ w,_→K σ w› _ _ ?_|(refine W_st ?_;constructor;try intro K hK))|((with_reducible first|refine hZ _ _ ?_|refine W_rg ?_|skip);repeat1' simp only[push_cast,seval,-Nat.reduceSubDiff,cell_h,cellO_cells,hp3,s1])|((repeat((fail_if_success with_reducible refine hK _ _ ?_);clear hK K));with_reducible refine hK _ _ ?_;clear hK K))
    exact ⟨by rw [hr],by rw [hr]; exact h3,hx3.upd⟩
  rw [if_neg (fun h => h.elim k1 s1)] at hr
  have s1' := eq_false_of_ne_true s1
  have asHead : ∀ wk,Ext w wk → Gives Tryz.prog 61 #[.pointer (some ⟨pb,0,none⟩),.agg (t.row (.slice xa xn xc))] wk fun v w' => v = .bool (headH b t).2 ∧ BuAt w0 w' Q pb ps pl pa (headH b t).1 ∧ Upd (AF w0 Q) wk w' := fun wk hxk => head_c (h.pass hxk) hO hg hM (fun q hq => by have := hQl q hq; have := hxk.sz; omega) ha0 ht
  by_cases k5 : t.kind = 5
  · have k5' := eq_true k5
    rw [if_pos (.inl k5)] at hr
    (repeat first|(with_reducible first|(refine hK _ _ ?_;clear hK K)|refine ‹∀σ w,_→K σ w› _ _ ?_|(refine W_st ?_;constructor;try intro K hK))|((with_reducible first|refine hZ _ _ ?_|refine W_rg ?_|skip);repeat1' simp only[push_cast,seval,-Nat.reduceSubDiff,cell_h,cellO_cells,hp3,s1',k1',k5'])|((repeat((fail_if_success with_reducible refine hK _ _ ?_);clear hK K));with_reducible refine hK _ _ ?_;clear hK K))
    rw [← hrow]
    refine (asHead w3 hx3).mono ?_
    rintro v w4 ⟨rfl,h4,hu4⟩
    (repeat first|(with_reducible first|(refine hK _ _ ?_;clear hK K)|refine ‹∀σ w,_→K σ w› _ _ ?_|(refine W_st ?_;constructor;try intro K hK))|((with_reducible first|refine hZ _ _ ?_|refine W_rg ?_|skip);repeat1' simp only[push_cast,seval,-Nat.reduceSubDiff])|((repeat((fail_if_success with_reducible refine hK _ _ ?_);clear hK K));with_reducible refine hK _ _ ?_;clear hK K))
    exact ⟨by rw [hr],by rw [hr]; exact h4,Upd.trans (hx3.upd) hu4 fun _ _ h => h⟩
  have k5' := eq_false k5
  by_cases k4 : t.kind = 4
  · have k4' := eq_true k4
    rw [if_pos (.inr (.inl k4))] at hr
    (repeat first|(with_reducible first|(refine hK _ _ ?_;clear hK K)|refine ‹∀σ w,_→K σ w› _ _ ?_|(refine W_st ?_;constructor;try intro K hK))|((with_reducible first|refine hZ _ _ ?_|refine W_rg ?_|skip);repeat1' simp only[push_cast,seval,-Nat.reduceSubDiff,cell_h,cellO_cells,hp3,s1',k1',k5',k4'])|((repeat((fail_if_success with_reducible refine hK _ _ ?_);clear hK K));with_reducible refine hK _ _ ?_;clear hK K))
    rw [← hrow]
    refine (asHead w3 hx3).mono ?_
    rintro v w4 ⟨rfl,h4,hu4⟩
    (repeat first|(with_reducible first|(refine hK _ _ ?_;clear hK K)|refine ‹∀σ w,_→K σ w› _ _ ?_|(refine W_st ?_;constructor;try intro K hK))|((with_reducible first|refine hZ _ _ ?_|refine W_rg ?_|skip);repeat1' simp only[push_cast,seval,-Nat.reduceSubDiff])|((repeat((fail_if_success with_reducible refine hK _ _ ?_);clear hK K));with_reducible refine hK _ _ ?_;clear hK K))
    exact ⟨by rw [hr],by rw [hr]; exact h4,Upd.trans (hx3.upd) hu4 fun _ _ h => h⟩
  have k4' := eq_false k4
  (repeat first|(with_reducible first|(refine hK _ _ ?_;clear hK K)|refine ‹∀σ w,_→K σ w› _ _ ?_|(refine W_st ?_;constructor;try intro K hK))|((with_reducible first|refine hZ _ _ ?_|refine W_rg ?_|skip);repeat1' simp only[push_cast,seval,-Nat.reduceSubDiff,cell_h,cellO_cells,hp3,s1',k1',k5',k4'])|((repeat((fail_if_success with_reducible refine hK _ _ ?_);clear hK K));with_reducible refine hK _ _ ?_;clear hK K))
  refine bsl (l := lNo2) rfl (by decide) (by decide) (by kernel_rfl) ?_
  rintro v w4 hy4 hn4 ⟨bn4,rfl⟩
  (repeat first|(with_reducible first|(refine hK _ _ ?_;clear hK K)|refine ‹∀σ w,_→K σ w› _ _ ?_|(refine W_st ?_;constructor;try intro K hK))|((with_reducible first|refine hZ _ _ ?_|refine W_rg ?_|skip);repeat1' simp only[push_cast,seval,-Nat.reduceSubDiff])|((repeat((fail_if_success with_reducible refine hK _ _ ?_);clear hK K));with_reducible refine hK _ _ ?_;clear hK K))
  rw [← hrow]
  refine (hstart_c hn4 (by decide)).mono ?_
  rintro v w5 ⟨rfl,hy5⟩
  have hx5 := (hx3.trans hy4).trans hy5
  have hp5 := (hy4.trans hy5).blk hp3
  have h5 := h3.pass (hy4.trans hy5)
  by_cases s2 : startT t lNo2 = true
  · rw [if_pos (.inr (.inr s2))] at hr
    (repeat first|(with_reducible first|(refine hK _ _ ?_;clear hK K)|refine ‹∀σ w,_→K σ w› _ _ ?_|(refine W_st ?_;constructor;try intro K hK))|((with_reducible first|refine hZ _ _ ?_|refine W_rg ?_|skip);repeat1' simp only[push_cast,seval,-Nat.reduceSubDiff,cell_h,cellO_cells,hp5,s2])|((repeat((fail_if_success with_reducible refine hK _ _ ?_);clear hK K));with_reducible refine hK _ _ ?_;clear hK K))
    rw [← hrow]
    refine (asHead w5 hx5).mono ?_
    rintro v w6 ⟨rfl,h6,hu6⟩
    (repeat first|(with_reducible first|(refine hK _ _ ?_;clear hK K)|refine ‹∀σ w,_→K σ w› _ _ ?_|(refine W_st ?_;constructor;try intro K hK))|((with_reducible first|refine hZ _ _ ?_|refine W_rg ?_|skip);repeat1' simp only[push_cast,seval,-Nat.reduceSubDiff])|((repeat((fail_if_success with_reducible refine hK _ _ ?_);clear hK K));with_reducible refine hK _ _ ?_;clear hK K))
    exact ⟨by rw [hr],by rw [hr]; exact h6,Upd.trans (hx5.upd) hu6 fun _ _ h => h⟩
  rw [if_neg (fun h => by rcases h with h | h | h <;> first | exact k5 h | exact k4 h | exact s2 h)] at hr
  have s2' := eq_false_of_ne_true s2
  by_cases k3 : t.kind = 3
  · have k3' := eq_true k3
    by_cases n1 : t.name = sNosc
    · rw [if_neg (fun h => h.2.1 n1)] at hr
      have n1' : (t.name = (⟨#[110,111,115,99,114,105,112,116]⟩ : ByteArray)) = True := eq_true n1
      (repeat first|(with_reducible first|(refine hK _ _ ?_;clear hK K)|refine ‹∀σ w,_→K σ w› _ _ ?_|(refine W_st ?_;constructor;try intro K hK))|((with_reducible first|refine hZ _ _ ?_|refine W_rg ?_|skip);repeat1' simp only[push_cast,seval,-Nat.reduceSubDiff,cell_h,cellO_cells,hp5,s2',k3',n1',ne_eq,not_true_eq_false])|((repeat((fail_if_success with_reducible refine hK _ _ ?_);clear hK K));with_reducible refine hK _ _ ?_;clear hK K))
      have lp5 := blk_lt hp5
      have hd : BuAt w0 w5 (fun q => Q q ∨ q = p) pb ps pl pa b := h.more hx5 fun q hq => by
        rcases hq with hq | hq
        · exact .inl hq
        · exact .inr ⟨by omega,by omega⟩
      have hQd : ∀ q,(Q q ∨ q = p) → q < w5.heap.size := by
        intro q hq
        have := hx5.sz
        rcases hq with hq | hq
        · have := hQl q hq; omega
        · omega
      refine (bstack_c hd).mono ?_
      intro v w' ⟨hv,hw⟩
      subst hv; subst w'
      (repeat first|(with_reducible first|(refine hK _ _ ?_;clear hK K)|refine ‹∀σ w,_→K σ w› _ _ ?_|(refine W_st ?_;constructor;try intro K hK))|((with_reducible first|refine hZ _ _ ?_|refine W_rg ?_|skip);repeat1' simp only[push_cast,seval,-Nat.reduceSubDiff])|((repeat((fail_if_success with_reducible refine hK _ _ ?_);clear hK K));with_reducible refine hK _ _ ?_;clear hK K))
      refine (bpop_c hd hok).mono ?_
      rintro v w6 ⟨rfl,h6,g6⟩
      have hp6 := (g6.same p lp5 (fun hf => hf.2 (.inr rfl))).trans hp5
      have lp6 := blk_lt hp6
      have hu6 : Upd (AF w0 Q) w5 w6 := g6.mono fun q _ hf => ⟨hf.1,fun hq => hf.2 (.inl hq)⟩
      (repeat first|(with_reducible first|(refine hK _ _ ?_;clear hK K)|refine ‹∀σ w,_→K σ w› _ _ ?_|(refine W_st ?_;constructor;try intro K hK))|((with_reducible first|refine hZ _ _ ?_|refine W_rg ?_|skip);repeat1' simp only[push_cast,seval,-Nat.reduceSubDiff])|((repeat((fail_if_success with_reducible refine hK _ _ ?_);clear hK K));with_reducible refine hK _ _ ?_;clear hK K))
      refine (bset_c h6 3).mono ?_
      rintro v w7 ⟨h7',g7⟩
      have hp7 := (g7.same p lp6 (fun hf => hf.2 (.inr rfl))).trans hp6
      have lp7 := blk_lt hp7
      have hu7 : Upd (AF w0 Q) w6 w7 := g7.mono fun q _ hf => ⟨hf.1,fun hq => hf.2 (.inl hq)⟩
      have h7 : BuAt w0 w7 Q pb ps pl pa (modeB (popS b) 3) := h7'.less fun q hq => .inl hq
      (repeat first|(with_reducible first|(refine hK _ _ ?_;clear hK K)|refine ‹∀σ w,_→K σ w› _ _ ?_|(refine W_st ?_;constructor;try intro K hK))|((with_reducible first|refine hZ _ _ ?_|refine W_rg ?_|skip);repeat1' simp only[push_cast,seval,-Nat.reduceSubDiff,cell_h,cellO_cells,hp7])|((repeat((fail_if_success with_reducible refine hK _ _ ?_);clear hK K));with_reducible refine hK _ _ ?_;clear hK K))
      refine bsl (l := lNos) rfl (by decide) (by decide) (by kernel_rfl) ?_
      rintro v w8 hy8 hn8 ⟨bn8,rfl⟩
      (repeat first|(with_reducible first|(refine hK _ _ ?_;clear hK K)|refine ‹∀σ w,_→K σ w› _ _ ?_|(refine W_st ?_;constructor;try intro K hK))|((with_reducible first|refine hZ _ _ ?_|refine W_rg ?_|skip);repeat1' simp only[push_cast,seval,-Nat.reduceSubDiff])|((repeat((fail_if_success with_reducible refine hK _ _ ?_);clear hK K));with_reducible refine hK _ _ ?_;clear hK K))
      rw [← hrow]
      refine (hend_c hn8 (by decide)).mono ?_
      rintro v w9 ⟨rfl,hy9⟩
      (repeat first|(with_reducible first|(refine hK _ _ ?_;clear hK K)|refine ‹∀σ w,_→K σ w› _ _ ?_|(refine W_st ?_;constructor;try intro K hK))|((with_reducible first|refine hZ _ _ ?_|refine W_rg ?_|skip);repeat1' simp only[push_cast,seval,-Nat.reduceSubDiff])|((repeat((fail_if_success with_reducible refine hK _ _ ?_);clear hK K));with_reducible refine hK _ _ ?_;clear hK K))
      exact ⟨by rw [hr],by rw [hr]; exact h7.pass (hy8.trans hy9),Upd.trans (Upd.trans (Upd.trans hx5.upd hu6 fun _ _ h => h) hu7 fun _ _ h => h) (hy8.trans hy9).upd fun _ _ h => h⟩
    have n1' : (t.name = (⟨#[110,111,115,99,114,105,112,116]⟩ : ByteArray)) = False := eq_false n1
    by_cases n2 : t.name = sBr
    · rw [if_neg (fun h => h.2.2 n2)] at hr
      have n2' : (t.name = (⟨#[98,114]⟩ : ByteArray)) = True := eq_true n2
      (repeat first|(with_reducible first|(refine hK _ _ ?_;clear hK K)|refine ‹∀σ w,_→K σ w› _ _ ?_|(refine W_st ?_;constructor;try intro K hK))|((with_reducible first|refine hZ _ _ ?_|refine W_rg ?_|skip);repeat1' simp only[push_cast,seval,-Nat.reduceSubDiff,cell_h,cellO_cells,hp5,s2',k3',n1',n2',ne_eq,not_true_eq_false,not_false_eq_true])|((repeat((fail_if_success with_reducible refine hK _ _ ?_);clear hK K));with_reducible refine hK _ _ ?_;clear hK K))
      have lp5 := blk_lt hp5
      have hd : BuAt w0 w5 (fun q => Q q ∨ q = p) pb ps pl pa b := h.more hx5 fun q hq => by
        rcases hq with hq | hq
        · exact .inl hq
        · exact .inr ⟨by omega,by omega⟩
      have hQd : ∀ q,(Q q ∨ q = p) → q < w5.heap.size := by
        intro q hq
        have := hx5.sz
        rcases hq with hq | hq
        · have := hQl q hq; omega
        · omega
      refine (bstack_c hd).mono ?_
      intro v w' ⟨hv,hw⟩
      subst hv; subst w'
      (repeat first|(with_reducible first|(refine hK _ _ ?_;clear hK K)|refine ‹∀σ w,_→K σ w› _ _ ?_|(refine W_st ?_;constructor;try intro K hK))|((with_reducible first|refine hZ _ _ ?_|refine W_rg ?_|skip);repeat1' simp only[push_cast,seval,-Nat.reduceSubDiff])|((repeat((fail_if_success with_reducible refine hK _ _ ?_);clear hK K));with_reducible refine hK _ _ ?_;clear hK K))
      refine (bpop_c hd hok).mono ?_
      rintro v w6 ⟨rfl,h6,g6⟩
      have hp6 := (g6.same p lp5 (fun hf => hf.2 (.inr rfl))).trans hp5
      have lp6 := blk_lt hp6
      have hu6 : Upd (AF w0 Q) w5 w6 := g6.mono fun q _ hf => ⟨hf.1,fun hq => hf.2 (.inl hq)⟩
      (repeat first|(with_reducible first|(refine hK _ _ ?_;clear hK K)|refine ‹∀σ w,_→K σ w› _ _ ?_|(refine W_st ?_;constructor;try intro K hK))|((with_reducible first|refine hZ _ _ ?_|refine W_rg ?_|skip);repeat1' simp only[push_cast,seval,-Nat.reduceSubDiff])|((repeat((fail_if_success with_reducible refine hK _ _ ?_);clear hK K));with_reducible refine hK _ _ ?_;clear hK K))
      refine (bset_c h6 3).mono ?_
      rintro v w7 ⟨h7',g7⟩
      have hp7 := (g7.same p lp6 (fun hf => hf.2 (.inr rfl))).trans hp6
      have lp7 := blk_lt hp7
      have hu7 : Upd (AF w0 Q) w6 w7 := g7.mono fun q _ hf => ⟨hf.1,fun hq => hf.2 (.inl hq)⟩
      have h7 : BuAt w0 w7 Q pb ps pl pa (modeB (popS b) 3) := h7'.less fun q hq => .inl hq
      (repeat first|(with_reducible first|(refine hK _ _ ?_;clear hK K)|refine ‹∀σ w,_→K σ w› _ _ ?_|(refine W_st ?_;constructor;try intro K hK))|((with_reducible first|refine hZ _ _ ?_|refine W_rg ?_|skip);repeat1' simp only[push_cast,seval,-Nat.reduceSubDiff,cell_h,cellO_cells,hp7])|((repeat((fail_if_success with_reducible refine hK _ _ ?_);clear hK K));with_reducible refine hK _ _ ?_;clear hK K))
      refine bsl (l := lNos) rfl (by decide) (by decide) (by kernel_rfl) ?_
      rintro v w8 hy8 hn8 ⟨bn8,rfl⟩
      (repeat first|(with_reducible first|(refine hK _ _ ?_;clear hK K)|refine ‹∀σ w,_→K σ w› _ _ ?_|(refine W_st ?_;constructor;try intro K hK))|((with_reducible first|refine hZ _ _ ?_|refine W_rg ?_|skip);repeat1' simp only[push_cast,seval,-Nat.reduceSubDiff])|((repeat((fail_if_success with_reducible refine hK _ _ ?_);clear hK K));with_reducible refine hK _ _ ?_;clear hK K))
      rw [← hrow]
      refine (hend_c hn8 (by decide)).mono ?_
      rintro v w9 ⟨rfl,hy9⟩
      (repeat first|(with_reducible first|(refine hK _ _ ?_;clear hK K)|refine ‹∀σ w,_→K σ w› _ _ ?_|(refine W_st ?_;constructor;try intro K hK))|((with_reducible first|refine hZ _ _ ?_|refine W_rg ?_|skip);repeat1' simp only[push_cast,seval,-Nat.reduceSubDiff])|((repeat((fail_if_success with_reducible refine hK _ _ ?_);clear hK K));with_reducible refine hK _ _ ?_;clear hK K))
      exact ⟨by rw [hr],by rw [hr]; exact h7.pass (hy8.trans hy9),Upd.trans (Upd.trans (Upd.trans hx5.upd hu6 fun _ _ h => h) hu7 fun _ _ h => h) (hy8.trans hy9).upd fun _ _ h => h⟩
    have n2' : (t.name = (⟨#[98,114]⟩ : ByteArray)) = False := eq_false n2
    rw [if_pos ⟨k3,n1,n2⟩] at hr
    (repeat first|(with_reducible first|(refine hK _ _ ?_;clear hK K)|refine ‹∀σ w,_→K σ w› _ _ ?_|(refine W_st ?_;constructor;try intro K hK))|((with_reducible first|refine hZ _ _ ?_|refine W_rg ?_|skip);repeat1' simp only[push_cast,seval,-Nat.reduceSubDiff,cell_h,cellO_cells,hp5,s2',k3',n1',n2',ne_eq,not_false_eq_true])|((repeat((fail_if_success with_reducible refine hK _ _ ?_);clear hK K));with_reducible refine hK _ _ ?_;clear hK K))
    exact ⟨by rw [hr],by rw [hr]; exact h5,hx5.upd⟩
  have k3' := eq_false k3
  rw [if_neg (fun h => k3 h.1)] at hr
  (repeat first|(with_reducible first|(refine hK _ _ ?_;clear hK K)|refine ‹∀σ w,_→K σ w› _ _ ?_|(refine W_st ?_;constructor;try intro K hK))|((with_reducible first|refine hZ _ _ ?_|refine W_rg ?_|skip);repeat1' simp only[push_cast,seval,-Nat.reduceSubDiff,cell_h,cellO_cells,hp5,s2',k3'])|((repeat((fail_if_success with_reducible refine hK _ _ ?_);clear hK K));with_reducible refine hK _ _ ?_;clear hK K))
  have lp5 := blk_lt hp5
  have hd : BuAt w0 w5 (fun q => Q q ∨ q = p) pb ps pl pa b := h.more hx5 fun q hq => by
    rcases hq with hq | hq
    · exact .inl hq
    · exact .inr ⟨by omega,by omega⟩
  have hQd : ∀ q,(Q q ∨ q = p) → q < w5.heap.size := by
    intro q hq
    have := hx5.sz
    rcases hq with hq | hq
    · have := hQl q hq; omega
    · omega
  refine (bstack_c hd).mono ?_
  intro v w' ⟨hv,hw⟩
  subst hv; subst w'
  (repeat first|(with_reducible first|(refine hK _ _ ?_;clear hK K)|refine ‹∀σ w,_→K σ w› _ _ ?_|(refine W_st ?_;constructor;try intro K hK))|((with_reducible first|refine hZ _ _ ?_|refine W_rg ?_|skip);repeat1' simp only[push_cast,seval,-Nat.reduceSubDiff])|((repeat((fail_if_success with_reducible refine hK _ _ ?_);clear hK K));with_reducible refine hK _ _ ?_;clear hK K))
  refine (bpop_c hd hok).mono ?_
  rintro v w6 ⟨rfl,h6,g6⟩
  have hp6 := (g6.same p lp5 (fun hf => hf.2 (.inr rfl))).trans hp5
  have lp6 := blk_lt hp6
  have hu6 : Upd (AF w0 Q) w5 w6 := g6.mono fun q _ hf => ⟨hf.1,fun hq => hf.2 (.inl hq)⟩
  (repeat first|(with_reducible first|(refine hK _ _ ?_;clear hK K)|refine ‹∀σ w,_→K σ w› _ _ ?_|(refine W_st ?_;constructor;try intro K hK))|((with_reducible first|refine hZ _ _ ?_|refine W_rg ?_|skip);repeat1' simp only[push_cast,seval,-Nat.reduceSubDiff])|((repeat((fail_if_success with_reducible refine hK _ _ ?_);clear hK K));with_reducible refine hK _ _ ?_;clear hK K))
  refine (bset_c h6 3).mono ?_
  rintro v w7 ⟨h7',g7⟩
  have hp7 := (g7.same p lp6 (fun hf => hf.2 (.inr rfl))).trans hp6
  have lp7 := blk_lt hp7
  have hu7 : Upd (AF w0 Q) w6 w7 := g7.mono fun q _ hf => ⟨hf.1,fun hq => hf.2 (.inl hq)⟩
  have h7 : BuAt w0 w7 Q pb ps pl pa (modeB (popS b) 3) := h7'.less fun q hq => .inl hq
  (repeat first|(with_reducible first|(refine hK _ _ ?_;clear hK K)|refine ‹∀σ w,_→K σ w› _ _ ?_|(refine W_st ?_;constructor;try intro K hK))|((with_reducible first|refine hZ _ _ ?_|refine W_rg ?_|skip);repeat1' simp only[push_cast,seval,-Nat.reduceSubDiff,cell_h,cellO_cells,hp7])|((repeat((fail_if_success with_reducible refine hK _ _ ?_);clear hK K));with_reducible refine hK _ _ ?_;clear hK K))
  refine bsl (l := lNos) rfl (by decide) (by decide) (by kernel_rfl) ?_
  rintro v w8 hy8 hn8 ⟨bn8,rfl⟩
  (repeat first|(with_reducible first|(refine hK _ _ ?_;clear hK K)|refine ‹∀σ w,_→K σ w› _ _ ?_|(refine W_st ?_;constructor;try intro K hK))|((with_reducible first|refine hZ _ _ ?_|refine W_rg ?_|skip);repeat1' simp only[push_cast,seval,-Nat.reduceSubDiff])|((repeat((fail_if_success with_reducible refine hK _ _ ?_);clear hK K));with_reducible refine hK _ _ ?_;clear hK K))
  rw [← hrow]
  refine (hend_c hn8 (by decide)).mono ?_
  rintro v w9 ⟨rfl,hy9⟩
  (repeat first|(with_reducible first|(refine hK _ _ ?_;clear hK K)|refine ‹∀σ w,_→K σ w› _ _ ?_|(refine W_st ?_;constructor;try intro K hK))|((with_reducible first|refine hZ _ _ ?_|refine W_rg ?_|skip);repeat1' simp only[push_cast,seval,-Nat.reduceSubDiff])|((repeat((fail_if_success with_reducible refine hK _ _ ?_);clear hK K));with_reducible refine hK _ _ ?_;clear hK K))
  exact ⟨by rw [hr],by rw [hr]; exact h7.pass (hy8.trans hy9),Upd.trans (Upd.trans (Upd.trans hx5.upd hu6 fun _ _ h => h) hu7 fun _ _ h => h) (hy8.trans hy9).upd fun _ _ h => h⟩
end
end Go.Proofs.YtgnnlaeikcnhcaaGreatDoor
end
section
namespace Go.Proofs.YtgnnlaeikcnhcaaGreatDoor
open Go Go.Vk
set_option maxHeartbeats 40000000
section
variable {w0 w : World} {Q : Nat → Prop} {pb ps pl pa : Nat} {b : BSt}
theorem initial_c (h : BuAt w0 w Q pb ps pl pa b) (hO : HdO 5 b) (hg : GB w0) (hM : MaxAt w0) (hQl : ∀ q,Q q → q < w.heap.size) {t : HTok} {av : Value} (ha0 : RdAt w0 2 av (attrCells t.attrs)) (ht : SmT t) :
    Gives Tryz.prog 288 #[.pointer (some ⟨pb,0,none⟩),.agg (t.row av)] w fun v w' => v = .bool (initH b t).2 ∧ BuAt w0 w' Q pb ps pl pa (initH b t).1 ∧ Upd (AF w0 Q) w w' := by
  have ha := ha0.ext h.out
  obtain ⟨xa,xn,xc,eav,_⟩ := id ha
  subst eav
  have hrow : t.row (.slice xa xn xc) = #[.int .i64 t.kind,.string t.name,.string t.text,.slice xa xn xc,.bool t.dup,.bool t.self,.bool t.quirks,.int .i64 t.frm,.int .i64 t.to] := rfl
  have hx := Ext.alloc w (.cells (t.row (.slice xa xn xc)) 37)
  have hp : (w.alloc (.cells (t.row (.slice xa xn xc)) 37)).heap[w.heap.size]? = some (.cells (t.row (.slice xa xn xc)) 37 (0,0)) := by rw [heap_alloc_h,if_pos rfl]
  obtain ⟨r,hr⟩ : ∃ r,r = initH b t := ⟨_,rfl⟩
  rw [← hr]
  unfold initH at hr
  have hL := hO.L
  have hok := hO.ok
  refine Gives.of_W Tryz.call288 Tryz.func288 rfl Tryz.ntmps288 (by simp) ?_; intro Z hZ
  (repeat first|(with_reducible first|(refine hK _ _ ?_;clear hK K)|refine ‹∀σ w,_→K σ w› _ _ ?_|(refine W_st ?_;constructor;try intro K hK))|((with_reducible first|refine hZ _ _ ?_|refine W_rg ?_|skip);repeat1' simp only[push_cast,seval,-Nat.reduceSubDiff,vcells_agg])|((repeat((fail_if_success with_reducible refine hK _ _ ?_);clear hK K));with_reducible refine hK _ _ ?_;clear hK K))
  generalize w.alloc (.cells (t.row (.slice xa xn xc)) 37) = w1 at *
  obtain ⟨p,hpe⟩ : ∃ p,p = w.heap.size := ⟨_,rfl⟩
  rw [← hpe] at hp ⊢
  rw [hrow] at hp
  have h1 := h.pass hx
  have hx1 := hx
  have hp1 := hp
  have hval : (Laid.mk (doctN t) (.slice none 0 0) (.slice none 0 0) none none).val = .agg #[.int .i64 2,.string t.name,.string ⟨#[]⟩,.int .i64 0,.slice none 0 0,.bool false,.int .i64 0,.int .i64 0,.slice none 0 0,.int .i64 (-1),.int .i64 (-1)] := by rw [Laid.val_eq]; rfl
  by_cases k5 : t.kind = 5
  · have k5' := eq_true k5
    rw [if_pos k5] at hr
    (repeat first|(with_reducible first|(refine hK _ _ ?_;clear hK K)|refine ‹∀σ w,_→K σ w› _ _ ?_|(refine W_st ?_;constructor;try intro K hK))|((with_reducible first|refine hZ _ _ ?_|refine W_rg ?_|skip);repeat1' simp only[push_cast,seval,-Nat.reduceSubDiff,cell_h,cellO_cells,hp1,k5'])|((repeat((fail_if_success with_reducible refine hK _ _ ?_);clear hK K));with_reducible refine hK _ _ ?_;clear hK K))
    exact ⟨by rw [hr],by rw [hr]; exact h1,hx1.upd⟩
  have k5' := eq_false k5
  rw [if_neg k5] at hr
  by_cases k4 : t.kind = 4
  · have k4' := eq_true k4
    rw [if_pos k4] at hr
    (repeat first|(with_reducible first|(refine hK _ _ ?_;clear hK K)|refine ‹∀σ w,_→K σ w› _ _ ?_|(refine W_st ?_;constructor;try intro K hK))|((with_reducible first|refine hZ _ _ ?_|refine W_rg ?_|skip);repeat1' simp only[push_cast,seval,-Nat.reduceSubDiff,cell_h,cellO_cells,hp1,k5',k4'])|((repeat((fail_if_success with_reducible refine hK _ _ ?_);clear hK K));with_reducible refine hK _ _ ?_;clear hK K))
    rw [← hrow]
    refine (bcomment_c h1 hok (by omega) (fun q hq => by have := hQl q hq; have := hx1.sz; omega) t (0)).mono ?_
    rintro v w2 ⟨h2,hu2⟩
    (repeat first|(with_reducible first|(refine hK _ _ ?_;clear hK K)|refine ‹∀σ w,_→K σ w› _ _ ?_|(refine W_st ?_;constructor;try intro K hK))|((with_reducible first|refine hZ _ _ ?_|refine W_rg ?_|skip);repeat1' simp only[push_cast,seval,-Nat.reduceSubDiff])|((repeat((fail_if_success with_reducible refine hK _ _ ?_);clear hK K));with_reducible refine hK _ _ ?_;clear hK K))
    exact ⟨by rw [hr],by rw [hr]; exact h2,Upd.trans (hx1.upd) hu2 fun _ _ h => h⟩
  have k4' := eq_false k4
  rw [if_neg k4] at hr
  by_cases k1 : t.kind = 1
  · have k1' := eq_true k1
    rw [if_pos k1] at hr
    cases hq : t.quirks
    by_cases n1 : t.name = sHtml
    · have n1' : (t.name = (⟨#[104, 116, 109, 108]⟩ : ByteArray)) = True := eq_true n1
      rw [hq,decide_eq_true n1] at hr
      rw [hq] at hp1
      have lp1 := blk_lt hp1
      have hd : BuAt w0 w1 (fun q => Q q ∨ q = p) pb ps pl pa b := h.more hx1 fun q hq => by
        rcases hq with hq | hq
        · exact .inl hq
        · exact .inr ⟨by omega,by omega⟩
      have hQd : ∀ q,(Q q ∨ q = p) → q < w1.heap.size := by
        intro q hq
        have := hx1.sz
        rcases hq with hq | hq
        · have := hQl q hq; omega
        · omega
      (repeat first|(with_reducible first|(refine hK _ _ ?_;clear hK K)|refine ‹∀σ w,_→K σ w› _ _ ?_|(refine W_st ?_;constructor;try intro K hK))|((with_reducible first|refine hZ _ _ ?_|refine W_rg ?_|skip);repeat1' simp only[push_cast,seval,-Nat.reduceSubDiff,cell_h,cellO_cells,hp1,k5',k4',k1'])|((repeat((fail_if_success with_reducible refine hK _ _ ?_);clear hK K));with_reducible refine hK _ _ ?_;clear hK K))
      refine (barena_c hd).mono ?_
      intro v w' ⟨hv,hw⟩
      subst hv; subst w'
      (repeat first|(with_reducible first|(refine hK _ _ ?_;clear hK K)|refine ‹∀σ w,_→K σ w› _ _ ?_|(refine W_st ?_;constructor;try intro K hK))|((with_reducible first|refine hZ _ _ ?_|refine W_rg ?_|skip);repeat1' simp only[push_cast,seval,-Nat.reduceSubDiff,cell_h,cellO_cells,hp1])|((repeat((fail_if_success with_reducible refine hK _ _ ?_);clear hK K));with_reducible refine hK _ _ ?_;clear hK K))
      refine build_struct Tryz.zeroValue46 un30 pl30 (cs := #[.int .i64 2,.string t.name,.string ⟨#[]⟩,.int .i64 0,.slice none 0 0,.bool false,.int .i64 0,.int .i64 0,.slice none 0 0,.int .i64 (-1),.int .i64 (-1)]) (by rfl) ?_
      (repeat first|(with_reducible first|(refine hK _ _ ?_;clear hK K)|refine ‹∀σ w,_→K σ w› _ _ ?_|(refine W_st ?_;constructor;try intro K hK))|((with_reducible first|refine hZ _ _ ?_|refine W_rg ?_|skip);repeat1' simp only[push_cast,seval,-Nat.reduceSubDiff])|((repeat((fail_if_success with_reducible refine hK _ _ ?_);clear hK K));with_reducible refine hK _ _ ?_;clear hK K))
      rw [← hval]
      refine (badd_c hd hok (m := Laid.mk (doctN t) (.slice none 0 0) (.slice none 0 0) none none) (SlAt.nil _ _).rd (show (0 : Nat) < 1000000 by decide)).mono ?_
      rintro v w2 ⟨rfl,h2,g2⟩
      have hp2 := (g2.same p lp1 (fun hf => hf.2 (.inr rfl))).trans hp1
      have lp2 := blk_lt hp2
      have hu2 : Upd (AF w0 Q) w1 w2 := g2.mono fun q _ hf => ⟨hf.1,fun hq => hf.2 (.inl hq)⟩
      have hb2 : okB (addB b (doctN t)) := hok.add (by omega) (show (0 : Nat) < 1000000 by decide)
      (repeat first|(with_reducible first|(refine hK _ _ ?_;clear hK K)|refine ‹∀σ w,_→K σ w› _ _ ?_|(refine W_st ?_;constructor;try intro K hK))|((with_reducible first|refine hZ _ _ ?_|refine W_rg ?_|skip);repeat1' simp only[push_cast,seval,-Nat.reduceSubDiff])|((repeat((fail_if_success with_reducible refine hK _ _ ?_);clear hK K));with_reducible refine hK _ _ ?_;clear hK K))
      refine (bappend_c h2 hb2 0 _).mono ?_
      rintro v w3 ⟨rfl,h3,g3⟩
      have hp3 := (g3.same p lp2 (fun hf => hf.2 (.inr rfl))).trans hp2
      have lp3 := blk_lt hp3
      have hu3 : Upd (AF w0 Q) w2 w3 := g3.mono fun q _ hf => ⟨hf.1,fun hq => hf.2 (.inl hq)⟩
      (repeat first|(with_reducible first|(refine hK _ _ ?_;clear hK K)|refine ‹∀σ w,_→K σ w› _ _ ?_|(refine W_st ?_;constructor;try intro K hK))|((with_reducible first|refine hZ _ _ ?_|refine W_rg ?_|skip);repeat1' simp only[push_cast,seval,-Nat.reduceSubDiff,cell_h,cellO_cells,hp3,n1',ne_eq,not_true_eq_false])|((repeat((fail_if_success with_reducible refine hK _ _ ?_);clear hK K));with_reducible refine hK _ _ ?_;clear hK K))
      refine (bsetquirks_c h3 _).mono ?_
      rintro v w4 ⟨h4,g4⟩
      have hp4 := (g4.same p lp3 (fun hf => hf.2 (.inr rfl))).trans hp3
      have lp4 := blk_lt hp4
      have hu4 : Upd (AF w0 Q) w3 w4 := g4.mono fun q _ hf => ⟨hf.1,fun hq => hf.2 (.inl hq)⟩
      (repeat first|(with_reducible first|(refine hK _ _ ?_;clear hK K)|refine ‹∀σ w,_→K σ w› _ _ ?_|(refine W_st ?_;constructor;try intro K hK))|((with_reducible first|refine hZ _ _ ?_|refine W_rg ?_|skip);repeat1' simp only[push_cast,seval,-Nat.reduceSubDiff])|((repeat((fail_if_success with_reducible refine hK _ _ ?_);clear hK K));with_reducible refine hK _ _ ?_;clear hK K))
      refine (bset_c h4 1).mono ?_
      rintro v w5 ⟨h5,g5⟩
      have hp5 := (g5.same p lp4 (fun hf => hf.2 (.inr rfl))).trans hp4
      have lp5 := blk_lt hp5
      have hu5 : Upd (AF w0 Q) w4 w5 := g5.mono fun q _ hf => ⟨hf.1,fun hq => hf.2 (.inl hq)⟩
      (repeat first|(with_reducible first|(refine hK _ _ ?_;clear hK K)|refine ‹∀σ w,_→K σ w› _ _ ?_|(refine W_st ?_;constructor;try intro K hK))|((with_reducible first|refine hZ _ _ ?_|refine W_rg ?_|skip);repeat1' simp only[push_cast,seval,-Nat.reduceSubDiff])|((repeat((fail_if_success with_reducible refine hK _ _ ?_);clear hK K));with_reducible refine hK _ _ ?_;clear hK K))
      exact ⟨by rw [hr],by rw [hr]; exact h5.less fun q hq => .inl hq,Upd.trans (Upd.trans (Upd.trans (Upd.trans hx1.upd hu2 fun _ _ h => h) hu3 fun _ _ h => h) hu4 fun _ _ h => h) hu5 fun _ _ h => h⟩
    · have n1' : (t.name = (⟨#[104, 116, 109, 108]⟩ : ByteArray)) = False := eq_false n1
      rw [hq,decide_eq_false n1] at hr
      rw [hq] at hp1
      have lp1 := blk_lt hp1
      have hd : BuAt w0 w1 (fun q => Q q ∨ q = p) pb ps pl pa b := h.more hx1 fun q hq => by
        rcases hq with hq | hq
        · exact .inl hq
        · exact .inr ⟨by omega,by omega⟩
      have hQd : ∀ q,(Q q ∨ q = p) → q < w1.heap.size := by
        intro q hq
        have := hx1.sz
        rcases hq with hq | hq
        · have := hQl q hq; omega
        · omega
      (repeat first|(with_reducible first|(refine hK _ _ ?_;clear hK K)|refine ‹∀σ w,_→K σ w› _ _ ?_|(refine W_st ?_;constructor;try intro K hK))|((with_reducible first|refine hZ _ _ ?_|refine W_rg ?_|skip);repeat1' simp only[push_cast,seval,-Nat.reduceSubDiff,cell_h,cellO_cells,hp1,k5',k4',k1'])|((repeat((fail_if_success with_reducible refine hK _ _ ?_);clear hK K));with_reducible refine hK _ _ ?_;clear hK K))
      refine (barena_c hd).mono ?_
      intro v w' ⟨hv,hw⟩
      subst hv; subst w'
      (repeat first|(with_reducible first|(refine hK _ _ ?_;clear hK K)|refine ‹∀σ w,_→K σ w› _ _ ?_|(refine W_st ?_;constructor;try intro K hK))|((with_reducible first|refine hZ _ _ ?_|refine W_rg ?_|skip);repeat1' simp only[push_cast,seval,-Nat.reduceSubDiff,cell_h,cellO_cells,hp1])|((repeat((fail_if_success with_reducible refine hK _ _ ?_);clear hK K));with_reducible refine hK _ _ ?_;clear hK K))
      refine build_struct Tryz.zeroValue46 un30 pl30 (cs := #[.int .i64 2,.string t.name,.string ⟨#[]⟩,.int .i64 0,.slice none 0 0,.bool false,.int .i64 0,.int .i64 0,.slice none 0 0,.int .i64 (-1),.int .i64 (-1)]) (by rfl) ?_
      (repeat first|(with_reducible first|(refine hK _ _ ?_;clear hK K)|refine ‹∀σ w,_→K σ w› _ _ ?_|(refine W_st ?_;constructor;try intro K hK))|((with_reducible first|refine hZ _ _ ?_|refine W_rg ?_|skip);repeat1' simp only[push_cast,seval,-Nat.reduceSubDiff])|((repeat((fail_if_success with_reducible refine hK _ _ ?_);clear hK K));with_reducible refine hK _ _ ?_;clear hK K))
      rw [← hval]
      refine (badd_c hd hok (m := Laid.mk (doctN t) (.slice none 0 0) (.slice none 0 0) none none) (SlAt.nil _ _).rd (show (0 : Nat) < 1000000 by decide)).mono ?_
      rintro v w2 ⟨rfl,h2,g2⟩
      have hp2 := (g2.same p lp1 (fun hf => hf.2 (.inr rfl))).trans hp1
      have lp2 := blk_lt hp2
      have hu2 : Upd (AF w0 Q) w1 w2 := g2.mono fun q _ hf => ⟨hf.1,fun hq => hf.2 (.inl hq)⟩
      have hb2 : okB (addB b (doctN t)) := hok.add (by omega) (show (0 : Nat) < 1000000 by decide)
      (repeat first|(with_reducible first|(refine hK _ _ ?_;clear hK K)|refine ‹∀σ w,_→K σ w› _ _ ?_|(refine W_st ?_;constructor;try intro K hK))|((with_reducible first|refine hZ _ _ ?_|refine W_rg ?_|skip);repeat1' simp only[push_cast,seval,-Nat.reduceSubDiff])|((repeat((fail_if_success with_reducible refine hK _ _ ?_);clear hK K));with_reducible refine hK _ _ ?_;clear hK K))
      refine (bappend_c h2 hb2 0 _).mono ?_
      rintro v w3 ⟨rfl,h3,g3⟩
      have hp3 := (g3.same p lp2 (fun hf => hf.2 (.inr rfl))).trans hp2
      have lp3 := blk_lt hp3
      have hu3 : Upd (AF w0 Q) w2 w3 := g3.mono fun q _ hf => ⟨hf.1,fun hq => hf.2 (.inl hq)⟩
      (repeat first|(with_reducible first|(refine hK _ _ ?_;clear hK K)|refine ‹∀σ w,_→K σ w› _ _ ?_|(refine W_st ?_;constructor;try intro K hK))|((with_reducible first|refine hZ _ _ ?_|refine W_rg ?_|skip);repeat1' simp only[push_cast,seval,-Nat.reduceSubDiff,cell_h,cellO_cells,hp3,n1',ne_eq,not_false_eq_true])|((repeat((fail_if_success with_reducible refine hK _ _ ?_);clear hK K));with_reducible refine hK _ _ ?_;clear hK K))
      refine (bsetquirks_c h3 _).mono ?_
      rintro v w4 ⟨h4,g4⟩
      have hp4 := (g4.same p lp3 (fun hf => hf.2 (.inr rfl))).trans hp3
      have lp4 := blk_lt hp4
      have hu4 : Upd (AF w0 Q) w3 w4 := g4.mono fun q _ hf => ⟨hf.1,fun hq => hf.2 (.inl hq)⟩
      (repeat first|(with_reducible first|(refine hK _ _ ?_;clear hK K)|refine ‹∀σ w,_→K σ w› _ _ ?_|(refine W_st ?_;constructor;try intro K hK))|((with_reducible first|refine hZ _ _ ?_|refine W_rg ?_|skip);repeat1' simp only[push_cast,seval,-Nat.reduceSubDiff])|((repeat((fail_if_success with_reducible refine hK _ _ ?_);clear hK K));with_reducible refine hK _ _ ?_;clear hK K))
      refine (bset_c h4 1).mono ?_
      rintro v w5 ⟨h5,g5⟩
      have hp5 := (g5.same p lp4 (fun hf => hf.2 (.inr rfl))).trans hp4
      have lp5 := blk_lt hp5
      have hu5 : Upd (AF w0 Q) w4 w5 := g5.mono fun q _ hf => ⟨hf.1,fun hq => hf.2 (.inl hq)⟩
      (repeat first|(with_reducible first|(refine hK _ _ ?_;clear hK K)|refine ‹∀σ w,_→K σ w› _ _ ?_|(refine W_st ?_;constructor;try intro K hK))|((with_reducible first|refine hZ _ _ ?_|refine W_rg ?_|skip);repeat1' simp only[push_cast,seval,-Nat.reduceSubDiff])|((repeat((fail_if_success with_reducible refine hK _ _ ?_);clear hK K));with_reducible refine hK _ _ ?_;clear hK K))
      exact ⟨by rw [hr],by rw [hr]; exact h5.less fun q hq => .inl hq,Upd.trans (Upd.trans (Upd.trans (Upd.trans hx1.upd hu2 fun _ _ h => h) hu3 fun _ _ h => h) hu4 fun _ _ h => h) hu5 fun _ _ h => h⟩
    · rw [hq] at hr
      rw [hq] at hp1
      have lp1 := blk_lt hp1
      have hd : BuAt w0 w1 (fun q => Q q ∨ q = p) pb ps pl pa b := h.more hx1 fun q hq => by
        rcases hq with hq | hq
        · exact .inl hq
        · exact .inr ⟨by omega,by omega⟩
      have hQd : ∀ q,(Q q ∨ q = p) → q < w1.heap.size := by
        intro q hq
        have := hx1.sz
        rcases hq with hq | hq
        · have := hQl q hq; omega
        · omega
      (repeat first|(with_reducible first|(refine hK _ _ ?_;clear hK K)|refine ‹∀σ w,_→K σ w› _ _ ?_|(refine W_st ?_;constructor;try intro K hK))|((with_reducible first|refine hZ _ _ ?_|refine W_rg ?_|skip);repeat1' simp only[push_cast,seval,-Nat.reduceSubDiff,cell_h,cellO_cells,hp1,k5',k4',k1'])|((repeat((fail_if_success with_reducible refine hK _ _ ?_);clear hK K));with_reducible refine hK _ _ ?_;clear hK K))
      refine (barena_c hd).mono ?_
      intro v w' ⟨hv,hw⟩
      subst hv; subst w'
      (repeat first|(with_reducible first|(refine hK _ _ ?_;clear hK K)|refine ‹∀σ w,_→K σ w› _ _ ?_|(refine W_st ?_;constructor;try intro K hK))|((with_reducible first|refine hZ _ _ ?_|refine W_rg ?_|skip);repeat1' simp only[push_cast,seval,-Nat.reduceSubDiff,cell_h,cellO_cells,hp1])|((repeat((fail_if_success with_reducible refine hK _ _ ?_);clear hK K));with_reducible refine hK _ _ ?_;clear hK K))
      refine build_struct Tryz.zeroValue46 un30 pl30 (cs := #[.int .i64 2,.string t.name,.string ⟨#[]⟩,.int .i64 0,.slice none 0 0,.bool false,.int .i64 0,.int .i64 0,.slice none 0 0,.int .i64 (-1),.int .i64 (-1)]) (by rfl) ?_
      (repeat first|(with_reducible first|(refine hK _ _ ?_;clear hK K)|refine ‹∀σ w,_→K σ w› _ _ ?_|(refine W_st ?_;constructor;try intro K hK))|((with_reducible first|refine hZ _ _ ?_|refine W_rg ?_|skip);repeat1' simp only[push_cast,seval,-Nat.reduceSubDiff])|((repeat((fail_if_success with_reducible refine hK _ _ ?_);clear hK K));with_reducible refine hK _ _ ?_;clear hK K))
      rw [← hval]
      refine (badd_c hd hok (m := Laid.mk (doctN t) (.slice none 0 0) (.slice none 0 0) none none) (SlAt.nil _ _).rd (show (0 : Nat) < 1000000 by decide)).mono ?_
      rintro v w2 ⟨rfl,h2,g2⟩
      have hp2 := (g2.same p lp1 (fun hf => hf.2 (.inr rfl))).trans hp1
      have lp2 := blk_lt hp2
      have hu2 : Upd (AF w0 Q) w1 w2 := g2.mono fun q _ hf => ⟨hf.1,fun hq => hf.2 (.inl hq)⟩
      have hb2 : okB (addB b (doctN t)) := hok.add (by omega) (show (0 : Nat) < 1000000 by decide)
      (repeat first|(with_reducible first|(refine hK _ _ ?_;clear hK K)|refine ‹∀σ w,_→K σ w› _ _ ?_|(refine W_st ?_;constructor;try intro K hK))|((with_reducible first|refine hZ _ _ ?_|refine W_rg ?_|skip);repeat1' simp only[push_cast,seval,-Nat.reduceSubDiff])|((repeat((fail_if_success with_reducible refine hK _ _ ?_);clear hK K));with_reducible refine hK _ _ ?_;clear hK K))
      refine (bappend_c h2 hb2 0 _).mono ?_
      rintro v w3 ⟨rfl,h3,g3⟩
      have hp3 := (g3.same p lp2 (fun hf => hf.2 (.inr rfl))).trans hp2
      have lp3 := blk_lt hp3
      have hu3 : Upd (AF w0 Q) w2 w3 := g3.mono fun q _ hf => ⟨hf.1,fun hq => hf.2 (.inl hq)⟩
      (repeat first|(with_reducible first|(refine hK _ _ ?_;clear hK K)|refine ‹∀σ w,_→K σ w› _ _ ?_|(refine W_st ?_;constructor;try intro K hK))|((with_reducible first|refine hZ _ _ ?_|refine W_rg ?_|skip);repeat1' simp only[push_cast,seval,-Nat.reduceSubDiff,cell_h,cellO_cells,hp3,Bool.true_or])|((repeat((fail_if_success with_reducible refine hK _ _ ?_);clear hK K));with_reducible refine hK _ _ ?_;clear hK K))
      refine (bsetquirks_c h3 _).mono ?_
      rintro v w4 ⟨h4,g4⟩
      have hp4 := (g4.same p lp3 (fun hf => hf.2 (.inr rfl))).trans hp3
      have lp4 := blk_lt hp4
      have hu4 : Upd (AF w0 Q) w3 w4 := g4.mono fun q _ hf => ⟨hf.1,fun hq => hf.2 (.inl hq)⟩
      (repeat first|(with_reducible first|(refine hK _ _ ?_;clear hK K)|refine ‹∀σ w,_→K σ w› _ _ ?_|(refine W_st ?_;constructor;try intro K hK))|((with_reducible first|refine hZ _ _ ?_|refine W_rg ?_|skip);repeat1' simp only[push_cast,seval,-Nat.reduceSubDiff])|((repeat((fail_if_success with_reducible refine hK _ _ ?_);clear hK K));with_reducible refine hK _ _ ?_;clear hK K))
      refine (bset_c h4 1).mono ?_
      rintro v w5 ⟨h5,g5⟩
      have hp5 := (g5.same p lp4 (fun hf => hf.2 (.inr rfl))).trans hp4
      have lp5 := blk_lt hp5
      have hu5 : Upd (AF w0 Q) w4 w5 := g5.mono fun q _ hf => ⟨hf.1,fun hq => hf.2 (.inl hq)⟩
      (repeat first|(with_reducible first|(refine hK _ _ ?_;clear hK K)|refine ‹∀σ w,_→K σ w› _ _ ?_|(refine W_st ?_;constructor;try intro K hK))|((with_reducible first|refine hZ _ _ ?_|refine W_rg ?_|skip);repeat1' simp only[push_cast,seval,-Nat.reduceSubDiff])|((repeat((fail_if_success with_reducible refine hK _ _ ?_);clear hK K));with_reducible refine hK _ _ ?_;clear hK K))
      exact ⟨by rw [hr],by rw [hr]; exact h5.less fun q hq => .inl hq,Upd.trans (Upd.trans (Upd.trans (Upd.trans hx1.upd hu2 fun _ _ h => h) hu3 fun _ _ h => h) hu4 fun _ _ h => h) hu5 fun _ _ h => h⟩
  have k1' := eq_false k1
  rw [if_neg k1] at hr
  (repeat first|(with_reducible first|(refine hK _ _ ?_;clear hK K)|refine ‹∀σ w,_→K σ w› _ _ ?_|(refine W_st ?_;constructor;try intro K hK))|((with_reducible first|refine hZ _ _ ?_|refine W_rg ?_|skip);repeat1' simp only[push_cast,seval,-Nat.reduceSubDiff,cell_h,cellO_cells,hp1,k5',k4',k1'])|((repeat((fail_if_success with_reducible refine hK _ _ ?_);clear hK K));with_reducible refine hK _ _ ?_;clear hK K))
  refine (bsetquirks_c h1 true).mono ?_
  rintro v w2 ⟨h2,hu2⟩
  (repeat first|(with_reducible first|(refine hK _ _ ?_;clear hK K)|refine ‹∀σ w,_→K σ w› _ _ ?_|(refine W_st ?_;constructor;try intro K hK))|((with_reducible first|refine hZ _ _ ?_|refine W_rg ?_|skip);repeat1' simp only[push_cast,seval,-Nat.reduceSubDiff])|((repeat((fail_if_success with_reducible refine hK _ _ ?_);clear hK K));with_reducible refine hK _ _ ?_;clear hK K))
  refine (bset_c h2 1).mono ?_
  rintro v w3 ⟨h3,hu3⟩
  (repeat first|(with_reducible first|(refine hK _ _ ?_;clear hK K)|refine ‹∀σ w,_→K σ w› _ _ ?_|(refine W_st ?_;constructor;try intro K hK))|((with_reducible first|refine hZ _ _ ?_|refine W_rg ?_|skip);repeat1' simp only[push_cast,seval,-Nat.reduceSubDiff])|((repeat((fail_if_success with_reducible refine hK _ _ ?_);clear hK K));with_reducible refine hK _ _ ?_;clear hK K))
  exact ⟨by rw [hr],by rw [hr]; exact h3,Upd.trans (Upd.trans (hx1.upd) hu2 fun _ _ h => h) hu3 fun _ _ h => h⟩
end
end Go.Proofs.YtgnnlaeikcnhcaaGreatDoor
end
section
namespace Go.Vk
open Go Go.Proofs.YtgnnlaeikcnhcaaGreatDoor
section
variable {b : BSt} {m : Nat}
theorem resetN_of (b : BSt) : ∀ k : Nat, (resetN b k).L = b.L ∧ (resetN b k).s = b.s ∧ (resetN b k).l = b.l ∧ (resetN b k).modes = b.modes ∧ (resetN b k).head = b.head
  | 0 => ⟨rfl,rfl,rfl,rfl,rfl⟩
  | k + 1 => by
    unfold resetN
    split
    · exact ⟨rfl,rfl,rfl,rfl,rfl⟩
    · exact resetN_of b k
theorem HdO.reset (h : HdO m b) : HdO m (resetB b) := by
  obtain ⟨e1,e2,e3,e4,_⟩ := resetN_of b b.s.length
  exact h.set ⟨e1,e2,e3,e4⟩
theorem HdO.until (h : HdO m b) (l : List ByteArray) : HdO m (untB b l) := by
  have h1 : (untS b.s l).1.length ≤ b.s.length := by
    unfold untS; split
    · exact Nat.le_refl _
    · show (b.s.take _).length ≤ _
      rw [List.length_take]; omega
  have h2 : ∀ o ∈ (untS b.s l).1,o ∈ b.s := by
    unfold untS; split
    · exact fun o ho => ho
    · exact fun o ho => List.mem_of_mem_take ho
  exact h.str (s' := (untS b.s l).1) (l' := b.l) h1 h2 (Nat.le_refl _)
theorem HdO.clear (h : HdO m b) : HdO m (clearB b) :=
  h.str (s' := b.s) (l' := clearN b.l (openN b.l)) (Nat.le_refl _) (fun _ ho => ho) (by unfold clearN; rw [List.length_take]; omega)
theorem HdO.popm (h : HdO m b) : HdO m (popM b) :=
  ⟨h.L,h.s,h.l,by have := h.md; show b.modes.dropLast.length + m < _; rw [List.length_dropLast]; omega,h.nd,h.sn⟩
theorem HdO.leave (h : HdO m b) : HdO m (leaveB b) := ((h.until lTem).clear.popm).reset
theorem HdO.pops (h : HdO m b) : HdO m (popS b) :=
  h.str (s' := b.s.dropLast) (l' := b.l) (by rw [List.length_dropLast]; omega) (fun _ ho => List.mem_of_mem_take (by rwa [List.dropLast_eq_take] at ho)) (Nat.le_refl _)
theorem HdO.tem (h : HdO (m + 5) b) {t : HTok} (ht : SmT t) : HdO m (temH b t) := by
  unfold temH
  split
  · have h2 : HdO (m + 1) (failB (markB (insertB b (elTok t 0)).1).1 (markB (insertB b (elTok t 0)).1).2) := ((HdO.ins (m := m + 2) h (smT_el ht 0)).mark (m := m + 1)).fail _
    dsimp only
    generalize failB (markB (insertB b (elTok t 0)).1).1 (markB (insertB b (elTok t 0)).1).2 = c at h2 ⊢
    exact ⟨by have := h2.L; show c.L.length + m < _; omega,by have := h2.s; show c.s.length + m < _; omega,by have := h2.l; show c.l.length + m < _; omega,by have := h2.md; show (c.modes ++ [15]).length + m < _; rw [List.length_append]; show c.modes.length + 1 + m < _; omega,h2.nd,h2.sn⟩
  · split
    · exact (h.thor.leave).mono (by omega)
    · exact h.mono (by omega)
theorem HdO.raw (h : HdO (m + 3) b) {t : HTok} (ht : SmT t) (st : Int) : HdO m (rawB b t st) := (h.ins (smT_el ht 0)).set ⟨rfl,rfl,rfl,rfl⟩
theorem HdO.only (h : HdO (m + 3) b) {t : HTok} (ht : SmT t) : HdO m (onlyB b t).1 := by
  unfold onlyB
  split
  · exact (h.ins (smT_el ht 0)).pops
  · exact h.ins (smT_el ht 0)
theorem HdO.own (h : HdO (m + 5) b) {t : HTok} (ht : SmT t) : HdO m (ownH b t) := by
  unfold ownH
  split
  · exact h.tem ht
  · split
    · exact (h.mono (m' := m + 3) (by omega)).raw ht _
    · exact (h.mono (m' := m + 3) (by omega)).only ht
end
end Go.Vk
end
section
namespace Go.Vk
open Go Go.Proofs.YtgnnlaeikcnhcaaGreatDoor
def SmlA (a : Nat) (n : Nd) : Prop := n.name.size ≤ 300 ∧ n.text.size ≤ 300 * a ∧ n.attrs.length ≤ 10 * a
theorem smlA_stay (a : Nat) : Stay (SmlA a) := fun _ _ _ h => h
theorem SmlA.mono {a a' : Nat} {n : Nd} (h : SmlA a n) (ha : a ≤ a') : SmlA a' n := ⟨h.1,by have := h.2.1; omega,by have := h.2.2; omega⟩
def SmN (n : Nd) : Prop := n.name.size ≤ 300 ∧ n.text.size ≤ 300 ∧ n.attrs.length ≤ 10
def T300 (t : HTok) : Prop := t.name.size ≤ 300 ∧ t.text.size ≤ 300 ∧ t.attrs.length ≤ 10
theorem T300.sm {t : HTok} (h : T300 t) : SmT t := ⟨by have := h.1; omega,by have := h.2.1; omega,by have := h.2.2; omega⟩
theorem T300.el {t : HTok} (h : T300 t) (sp : Int) : SmN (elTok t sp) := ⟨h.1,by show (0 : Nat) ≤ _; omega,h.2.2⟩
structure SzO (a : Nat) (b : BSt) : Prop where
  L : b.L.length ≤ 1 + 2 * a
  s : b.s.length ≤ a
  l : b.l.length ≤ a
  md : b.modes.length ≤ a
  nd : AllN (SmlA a) b.L
  sn : ∀ o ∈ b.s,o.name.size ≤ 300
section
variable {b : BSt} {a a' m : Nat}
theorem SzO.mono (h : SzO a b) (ha : a ≤ a') : SzO a' b := ⟨by have := h.L; omega,by have := h.s; omega,by have := h.l; omega,by have := h.md; omega,fun n hn => (h.nd n hn).mono ha,h.sn⟩
theorem SzO.hdo (h : SzO a b) (ha : a + m < 9999) : HdO m b :=
  ⟨by have := h.L; omega,by have := h.s; omega,by have := h.l; omega,by have := h.md; omega,fun n hn => by
    obtain ⟨h1,h2,h3⟩ := h.nd n hn
    exact ⟨by omega,by omega,by omega⟩,fun o ho => by have := h.sn o ho; omega⟩
theorem SzO.set (h : SzO a b) {b' : BSt} (e : b'.L = b.L ∧ b'.s = b.s ∧ b'.l = b.l ∧ b'.modes = b.modes) : SzO a b' := by
  obtain ⟨e1,e2,e3,e4⟩ := e
  exact ⟨by rw [e1]; exact h.L,by rw [e2]; exact h.s,by rw [e3]; exact h.l,by rw [e4]; exact h.md,by rw [e1]; exact h.nd,by rw [e2]; exact h.sn⟩
theorem SzO.fail (h : SzO a b) (e : Int) : SzO a (failB b e) := by
  unfold failB; split
  · exact h.set ⟨rfl,rfl,rfl,rfl⟩
  · exact h
theorem SzO.str {s' : List OpS} {l' : List Int} (h : SzO a b) (hs : s'.length ≤ b.s.length) (hn : ∀ o ∈ s',o ∈ b.s) (hl : l'.length ≤ b.l.length) : SzO a { b with s := s',l := l' } :=
  ⟨h.L,by have := h.s; show s'.length ≤ _; omega,by have := h.l; show l'.length ≤ _; omega,h.md,h.nd,fun o ho => h.sn o (hn o ho)⟩
theorem smlA_zN (a : Nat) : SmlA a zN := ⟨by decide,Nat.zero_le _,Nat.zero_le _⟩
theorem smlA_cont (a : Nat) : SmlA a contN := ⟨by decide,Nat.zero_le _,Nat.zero_le _⟩
theorem SzO.push (h : SzO a b) (i : Int) : SzO (a + 1) (pushB b i).1 := by
  have hle := insS_le (L := b.L) (s := b.s) (k := b.s.length) (i := i)
  have := h.s
  refine ⟨by have := h.L; show b.L.length ≤ _; omega,by show (insS b.L b.s b.s.length i).1.length ≤ _; omega,by have := h.l; show b.l.length ≤ _; omega,by have := h.md; show b.modes.length ≤ _; omega,fun n hn => (h.nd n hn).mono (by omega),?_⟩
  show ∀ o ∈ (insS b.L b.s b.s.length i).1,_
  have hO : (opN b.L i).name.size ≤ 300 := (all_node h.nd (smlA_zN a) i).1
  unfold insS
  split
  · split
    · split
      · exact h.sn
      · intro o ho
        simp only [List.mem_append,List.mem_cons] at ho
        rcases ho with ho | rfl | ho
        · exact h.sn o (List.mem_of_mem_take ho)
        · exact hO
        · exact h.sn o (List.mem_of_mem_drop ho)
    · exact h.sn
  · exact h.sn
theorem SmN.at {n : Nd} (h : SmN n) (a : Nat) : SmlA (a + 1) n := ⟨h.1,by have := h.2.1; omega,by have := h.2.2; omega⟩
theorem SzO.add (h : SzO a b) {n : Nd} (hn : SmN n) : AllN (SmlA (a + 1)) (addN b.L n).1 :=
  all_add (fun x hx => (h.nd x hx).mono (by omega)) (hn.at a) (hn.at a) (smlA_cont _)
theorem SzO.hung (h : SzO a b) {n : Nd} (hn : SmN n) : SzO (a + 1) (hungB b n) := by
  obtain ⟨e1,e2,e3,e4⟩ := hung_f b n
  have h1 := h.L; have h2 := h.s; have h3 := h.l; have h4 := h.md
  refine ⟨by omega,by rw [e1]; omega,by rw [e2]; omega,by rw [e3]; omega,?_,by rw [e1]; exact h.sn⟩
  exact all_put (smlA_stay _) (b := addB b n) (h.add hn) _ _
theorem SzO.ins (h : SzO a b) {n : Nd} (hn : SmN n) : SzO (a + 2) (insertB b n).1 := by
  unfold insertB
  split
  · exact (h.fail _).mono (by omega)
  · exact ((h.hung hn).push _).fail _
theorem SzO.mark (h : SzO a b) : SzO (a + 1) (markB b).1 := by
  refine ⟨by have := h.L; show b.L.length ≤ _; omega,by have := h.s; show b.s.length ≤ _; omega,?_,by have := h.md; show b.modes.length ≤ _; omega,fun n hn => (h.nd n hn).mono (by omega),h.sn⟩
  have := h.l
  show (layN b.l b.l.length (-1)).1.length ≤ _
  unfold layN
  split
  · show b.l.length ≤ _; omega
  · show (b.l.take b.l.length ++ -1 :: b.l.drop b.l.length).length ≤ _
    simp; omega
theorem SzO.reset (h : SzO a b) : SzO a (resetB b) := by
  obtain ⟨e1,e2,e3,e4,_⟩ := resetN_of b b.s.length
  exact h.set ⟨e1,e2,e3,e4⟩
theorem SzO.until (h : SzO a b) (l : List ByteArray) : SzO a (untB b l) := by
  have h1 : (untS b.s l).1.length ≤ b.s.length := by
    unfold untS; split
    · exact Nat.le_refl _
    · show (b.s.take _).length ≤ _
      rw [List.length_take]; omega
  have h2 : ∀ o ∈ (untS b.s l).1,o ∈ b.s := by
    unfold untS; split
    · exact fun o ho => ho
    · exact fun o ho => List.mem_of_mem_take ho
  exact h.str (s' := (untS b.s l).1) (l' := b.l) h1 h2 (Nat.le_refl _)
theorem SzO.clear (h : SzO a b) : SzO a (clearB b) :=
  h.str (s' := b.s) (l' := clearN b.l (openN b.l)) (Nat.le_refl _) (fun _ ho => ho) (by unfold clearN; rw [List.length_take]; omega)
theorem SzO.popm (h : SzO a b) : SzO a (popM b) :=
  ⟨h.L,h.s,h.l,by have := h.md; show b.modes.dropLast.length ≤ _; rw [List.length_dropLast]; omega,h.nd,h.sn⟩
theorem SzO.leave (h : SzO a b) : SzO a (leaveB b) := ((h.until lTem).clear.popm).reset
theorem SzO.pops (h : SzO a b) : SzO a (popS b) :=
  h.str (s' := b.s.dropLast) (l' := b.l) (by rw [List.length_dropLast]; omega) (fun _ ho => List.mem_of_mem_take (by rwa [List.dropLast_eq_take] at ho)) (Nat.le_refl _)
theorem SzO.thor (h : SzO a b) : SzO a (thorB b) :=
  h.str (s' := dropS thoN b.s) (l' := b.l) (by unfold dropS; rw [List.length_take]; have := dropK_down (goP thoN) b.s b.s.length; omega) (fun o ho => List.mem_of_mem_take ho) (Nat.le_refl _)
theorem SzO.tem (h : SzO a b) {t : HTok} (ht : T300 t) : SzO (a + 4) (temH b t) := by
  unfold temH
  split
  · have h2 : SzO (a + 3) (failB (markB (insertB b (elTok t 0)).1).1 (markB (insertB b (elTok t 0)).1).2) := ((h.ins (ht.el 0)).mark).fail _
    dsimp only
    generalize failB (markB (insertB b (elTok t 0)).1).1 (markB (insertB b (elTok t 0)).1).2 = c at h2 ⊢
    exact ⟨by have := h2.L; show c.L.length ≤ _; omega,by have := h2.s; show c.s.length ≤ _; omega,by have := h2.l; show c.l.length ≤ _; omega,by have := h2.md; show (c.modes ++ [15]).length ≤ _; rw [List.length_append]; show c.modes.length + 1 ≤ _; omega,fun n hn => (h2.nd n hn).mono (by omega),h2.sn⟩
  · split
    · exact (h.thor.leave).mono (by omega)
    · exact h.mono (by omega)
theorem SzO.raw (h : SzO a b) {t : HTok} (ht : T300 t) (st : Int) : SzO (a + 2) (rawB b t st) := (h.ins (ht.el 0)).set ⟨rfl,rfl,rfl,rfl⟩
theorem SzO.only (h : SzO a b) {t : HTok} (ht : T300 t) : SzO (a + 2) (onlyB b t).1 := by
  unfold onlyB
  split
  · exact (h.ins (ht.el 0)).pops
  · exact h.ins (ht.el 0)
theorem SzO.own (h : SzO a b) {t : HTok} (ht : T300 t) : SzO (a + 4) (ownH b t) := by
  unfold ownH
  split
  · exact h.tem ht
  · split
    · exact (h.raw ht _).mono (by omega)
    · exact (h.only ht).mono (by omega)
theorem mem_modify {L : List Nd} {k : Nat} {f : Nd → Nd} {n : Nd} (h : n ∈ L.modify k f) : ∃ x ∈ L,n = x ∨ n = f x := by
  obtain ⟨j,hj⟩ := List.mem_iff_getElem?.1 h
  rw [List.getElem?_modify] at hj
  cases hl : L[j]? with
  | none => rw [hl] at hj; simp at hj
  | some x =>
    rw [hl] at hj
    have e : n = if k = j then f x else x := (Option.some.inj hj).symm
    refine ⟨x,List.mem_of_getElem? hl,?_⟩
    split at e
    · exact .inr e
    · exact .inl e
theorem SzO.setL (h : SzO a b) {L' : List Nd} (hl : L'.length ≤ b.L.length + 2) (hn : AllN (SmlA (a + 1)) L') : SzO (a + 1) { b with L := L' } :=
  ⟨by have := h.L; show L'.length ≤ _; omega,by have := h.s; show b.s.length ≤ _; omega,by have := h.l; show b.l.length ≤ _; omega,by have := h.md; show b.modes.length ≤ _; omega,hn,h.sn⟩
theorem SzO.chars (h : SzO a b) {x : ByteArray} (hx : x.size ≤ 300) : SzO (a + 1) (charsB b x) := by
  unfold charsB
  have up : AllN (SmlA (a + 1)) b.L := fun n hn => (h.nd n hn).mono (by omega)
  split
  · refine h.setL (by have := text_len b.L (placeB b (targB b)).1 (placeB b (targB b)).2 x; omega) ?_
    unfold textN
    split
    · split
      · exact up
      · split
        · intro n hn
          obtain ⟨y,hy,e⟩ := mem_modify hn
          have hy' := h.nd y hy
          rcases e with rfl | rfl
          · exact hy'.mono (by omega)
          · refine ⟨hy'.1, ?_, by have := hy'.2.2; show y.attrs.length ≤ _; omega⟩
            show (y.text ++ x).size ≤ _
            rw [ByteArray.size_append]
            have := hy'.2.1
            omega
        · exact all_hang (smlA_stay _) (all_push up ⟨by show (0 : Nat) ≤ _; omega,by show x.size ≤ _; omega,by show (0 : Nat) ≤ _; omega⟩) _ _ _
    · exact up
  · exact h.mono (by omega)
theorem SzO.comm (h : SzO a b) {x : ByteArray} (hx : x.size ≤ 300) (into : Int) : SzO (a + 1) (commB b x into) := by
  have hs : SmN (comTok x) := ⟨by show (0 : Nat) ≤ _; omega,hx,by show (0 : Nat) ≤ _; omega⟩
  unfold commB
  split
  · exact h.hung hs
  · have hl := len_add b.L (comTok x)
    refine h.setL (L' := (appendN (addB b (comTok x)).L into (addN b.L (comTok x)).2).1) ?_ (all_append (smlA_stay _) (h.add hs) _ _)
    rw [len_append]; exact hl
theorem moA_len (xs : List (ByteArray × ByteArray)) : ∀ cs : List (ByteArray × ByteArray),(moreA cs xs).length ≤ cs.length + xs.length := by
  unfold moreA
  induction xs with
  | nil => intro cs; exact Nat.le_refl _
  | cons x xs ih =>
    intro cs
    rw [List.foldl_cons]
    have h1 := ih (more1 cs x)
    have h2 : (more1 cs x).length ≤ cs.length + 1 := by
      unfold more1; split
      · omega
      · simp
    simp only [List.length_cons]
    omega
theorem SzO.more (h : SzO a b) {t : HTok} (ht : T300 t) : SzO (a + 1) (moreB b t) := by
  unfold moreB
  split
  · exact h.mono (by omega)
  · refine h.setL (by rw [more_len]; omega) ?_
    unfold moreN
    split
    · intro n hn
      obtain ⟨y,hy,e⟩ := mem_modify hn
      have hy' := h.nd y hy
      rcases e with rfl | rfl
      · exact hy'.mono (by omega)
      · refine ⟨hy'.1, by have := hy'.2.1; show y.text.size ≤ _; omega, ?_⟩
        show (moreA y.attrs t.attrs).length ≤ _
        have h1 := moA_len t.attrs y.attrs
        have h2 := hy'.2.2
        have h3 := ht.2.2
        omega
    · exact fun n hn => (h.nd n hn).mono (by omega)
theorem SzO.mode (h : SzO a b) (m : Int) : SzO a (modeB b m) := h.set ⟨rfl,rfl,rfl,rfl⟩
theorem SzO.init (h : SzO a b) {t : HTok} (ht : T300 t) : SzO (a + 8) (initH b t).1 := by
  unfold initH
  split
  · exact h.mono (by omega)
  split
  · exact (h.comm ht.2.1 0).mono (by omega)
  split
  · have hs : SmN (doctN t) := ⟨ht.1, by show (0 : Nat) ≤ _; omega, by show (0 : Nat) ≤ _; omega⟩
    have := h.setL (L' := (appendN (addB b (doctN t)).L 0 (addN b.L (doctN t)).2).1) (by rw [len_append]; exact len_add b.L (doctN t)) (all_append (smlA_stay _) (h.add hs) _ _)
    exact SzO.mono (a := a + 1) (SzO.set this ⟨rfl,rfl,rfl,rfl⟩) (by omega)
  · exact SzO.mono (a := a) (h.set ⟨rfl,rfl,rfl,rfl⟩) (by omega)
theorem t300_tokI {x : ByteArray} (h : x.size ≤ 300) : T300 (tokI x) := ⟨h,by show (0 : Nat) ≤ _; omega,by show (0 : Nat) ≤ _; omega⟩
theorem SzO.imp (h : SzO a b) {x : ByteArray} (hx : x.size ≤ 300) : SzO (a + 2) (implyB b x).1 := h.ins ((t300_tokI hx).el 0)
theorem SzO.bhtml (h : SzO a b) {t : HTok} (ht : T300 t) : SzO (a + 8) (bhtmlH b t).1 := by
  unfold bhtmlH
  split
  · exact (h.comm ht.2.1 0).mono (by omega)
  split
  · exact h.mono (by omega)
  split
  · exact ((h.ins (ht.el 0)).mode 2).mono (by omega)
  · exact ((h.imp (x := sHtml) (by decide)).mode 2).mono (by omega)
theorem SzO.bhead (h : SzO a b) {t : HTok} (ht : T300 t) : SzO (a + 8) (bheadH b t).1 := by
  unfold bheadH
  split
  · exact SzO.mono (a := a + 1) (h.comm ht.2.1 (-1)) (by omega)
  split
  · exact h.mono (by omega)
  split
  · exact (h.more ht).mono (by omega)
  split
  · exact SzO.mono (a := a + 2) ((h.ins (ht.el 0)).set ⟨rfl,rfl,rfl,rfl⟩) (by omega)
  · exact SzO.mono (a := a + 2) ((h.imp (x := sHead) (by decide)).set ⟨rfl,rfl,rfl,rfl⟩) (by omega)
theorem SzO.head (h : SzO a b) {t : HTok} (ht : T300 t) : SzO (a + 8) (headH b t).1 := by
  unfold headH
  split
  · exact h.mono (by omega)
  split
  · exact (h.chars ht.2.1).mono (by omega)
  split
  · exact SzO.mono (a := a + 1) (h.comm ht.2.1 (-1)) (by omega)
  split
  · exact (h.more ht).mono (by omega)
  split
  · exact (h.own ht).mono (by omega)
  split
  · exact ((h.ins (ht.el 0)).mode 4).mono (by omega)
  split
  · exact h.mono (by omega)
  · exact (h.pops.mode 5).mono (by omega)
theorem SzO.nos (h : SzO a b) {t : HTok} (ht : T300 t) : SzO (a + 8) (nosH b t).1 := by
  unfold nosH
  split
  · exact h.mono (by omega)
  split
  · exact h.head ht
  split
  · exact h.mono (by omega)
  · exact (h.pops.mode 3).mono (by omega)
theorem SzO.pushed (h : SzO a b) (i : Int) : SzO (a + 1) (pushedB b i) := (h.push i).fail _
theorem SzO.rem (h : SzO a b) (i : Int) : SzO a (remB b i) :=
  h.str (s' := (remS b.s i).1) (l' := b.l) (remS_le _ _) (fun o ho => by
    unfold remS at ho
    split at ho
    · exact ho
    · exact List.mem_of_mem_eraseIdx ho) (Nat.le_refl _)
theorem SzO.after (h : SzO a b) {t : HTok} (ht : T300 t) : SzO (a + 8) (afterH b t).1 := by
  unfold afterH
  split
  · exact (h.chars ht.2.1).mono (by omega)
  split
  · exact SzO.mono (a := a + 1) (h.comm ht.2.1 (-1)) (by omega)
  split
  · exact h.mono (by omega)
  split
  · exact (h.more ht).mono (by omega)
  split
  · exact ((h.ins (ht.el 0)).mode 6).mono (by omega)
  split
  · exact h.head ht
  split
  · exact (((h.pushed b.head).own ht).rem _).mono (by omega)
  split
  · exact h.mono (by omega)
  · exact ((h.imp (x := sBody_) (by decide)).mode 6).mono (by omega)
theorem SzO.text (h : SzO a b) {t : HTok} (ht : T300 t) : SzO (a + 8) (textH b t).1 := by
  unfold textH
  split
  · exact (h.chars ht.2.1).mono (by omega)
  · exact (h.pops.mode _).mono (by omega)
theorem SzO.step (h : SzO a b) {t : HTok} (ht : T300 t) : SzO (a + 8) (stepH b t).1 := by
  unfold stepH
  split
  · exact h.init ht
  split
  · exact h.bhtml ht
  split
  · exact h.bhead ht
  split
  · exact h.head ht
  split
  · exact h.nos ht
  split
  · exact h.after ht
  split
  · exact h.text ht
  · exact h.mono (by omega)
end
end Go.Vk
end
section
namespace Go.Vk
open Go Go.Proofs.YtgnnlaeikcnhcaaGreatDoor
theorem lastB_is {p : Nat → Bool} : ∀ {k : Nat}, 0 ≤ lastB p k → p (lastB p k).toNat = true ∧ (lastB p k).toNat < k
  | 0,h => by simp [lastB] at h
  | k + 1,h => by
    rw [lastB] at h ⊢
    split
    · rename_i hp
      exact ⟨by simpa using hp,by omega⟩
    · rename_i hp
      rw [if_neg hp] at h
      obtain ⟨h1,h2⟩ := lastB_is h
      exact ⟨h1,by omega⟩
theorem indexS_is {s : List OpS} {i : Int} (h : 0 ≤ indexS s i) : (s.getD (indexS s i).toNat zS).node = i ∧ (indexS s i).toNat < s.length := by
  unfold indexS at h ⊢
  obtain ⟨h1,h2⟩ := lastB_is h
  exact ⟨of_decide_eq_true h1,h2⟩
end Go.Vk
end
section
namespace Go.Vk
open Go
end Go.Vk
end
section
namespace Go.Vk
open Go
end Go.Vk
end
section
namespace Go.Vk
open Go Go.Proofs.YtgnnlaeikcnhcaaGreatDoor
def nds (s : List OpS) : List Int := s.map OpS.node
theorem gD_lt {s : List OpS} {j : Nat} (h : j < s.length) : s.getD j zS = s[j] := by simp [List.getD,h]
theorem idx_mid {A B : List OpS} {o : OpS} (h : ∀ z ∈ B,z.node ≠ o.node) : indexS (A ++ o :: B) o.node = A.length := by
  have hlt : A.length < (A ++ o :: B).length := by simp
  have g0 : (A ++ o :: B).getD A.length zS = o := by simp [List.getD_eq_getElem?_getD]
  have h1 := indexS_ge (s := A ++ o :: B) (k := A.length) (i := o.node) hlt (by rw [g0])
  obtain ⟨h2,h3⟩ := indexS_is (s := A ++ o :: B) (i := o.node) (by omega)
  obtain ⟨j,hj⟩ : ∃ j : Nat,indexS (A ++ o :: B) o.node = j := ⟨(indexS (A ++ o :: B) o.node).toNat,by omega⟩
  rw [hj,Int.toNat_natCast] at h2 h3
  rw [hj] at h1 ⊢
  by_cases e : j = A.length
  · rw [e]
  · exfalso
    have hj2 : (A ++ o :: B).getD j zS ∈ B := by
      rw [List.getD_eq_getElem?_getD,List.getElem?_append_right (by omega)]
      obtain ⟨m,hm⟩ : ∃ m,j - A.length = m + 1 := ⟨j - A.length - 1,by omega⟩
      rw [hm,List.getElem?_cons_succ]
      have : m < B.length := by simp at h3; omega
      rw [List.getElem?_eq_getElem this]
      exact List.getElem_mem this
    exact h _ hj2 h2
theorem rem_mid {A B : List OpS} {o : OpS} (h : ∀ z ∈ B,z.node ≠ o.node) : remS (A ++ o :: B) o.node = (A ++ B,0) := by
  unfold remS
  rw [idx_mid h,if_neg (by omega),Int.toNat_natCast]
  rw [List.eraseIdx_append_of_length_le (Nat.le_refl _)]
  simp
end Go.Vk
end
section
namespace Go.Vk
open Go Go.Proofs.YtgnnlaeikcnhcaaGreatDoor
def elK (L : List Nd) (p : Int) : List Int := (gN L p).kids.filter fun j => decide ((gN L j).kind = 3)
structure New (L L2 : List Nd) (q : Int) (n : Nd) : Prop where
  gd0 : Gd L
  gd : Gd L2
  len : L2.length = L.length + 1
  q0 : 0 ≤ q ∧ q < L.length
  nk : n.kids = []
  g : ∀ t,gN L2 t = if t = L.length then { n with parent := q } else if t = q then { gN L t with kids := (gN L t).kids ++ [(L.length : Int)] } else gN L t
section
variable {L L2 : List Nd} {q : Int} {n : Nd}
theorem New.old (h : New L L2 q n) {t : Int} (ht : t ≠ L.length) : (gN L2 t).kind = (gN L t).kind ∧ (gN L2 t).name = (gN L t).name ∧ (gN L2 t).space = (gN L t).space := by
  rw [h.g t,if_neg ht]
  split
  · exact ⟨rfl,rfl,rfl⟩
  · exact ⟨rfl,rfl,rfl⟩
theorem New.new (h : New L L2 q n) : gN L2 (L.length : Int) = { n with parent := q } := by rw [h.g,if_pos rfl]
theorem New.elk (h : New L L2 q n) {t : Int} (ht : t ≠ L.length) : elK L2 t = if t = q ∧ n.kind = 3 then elK L t ++ [(L.length : Int)] else elK L t := by
  have hold : ∀ l : List Int,(∀ j ∈ l,j < (L.length : Int)) → l.filter (fun j => decide ((gN L2 j).kind = 3)) = l.filter (fun j => decide ((gN L j).kind = 3)) := fun l hl => by
    apply List.filter_congr
    intro j hj
    rw [(h.old (t := j) (by have := hl j hj; omega)).1]
  have hk : ∀ j ∈ (gN L t).kids,j < (L.length : Int) := fun j hj => by
    have := (h.gd0.kid t j).1 hj
    exact (h.gd0.range (j := j) (by omega)).1.2
  unfold elK
  rw [h.g t,if_neg ht]
  by_cases e : t = q
  · rw [if_pos e]
    dsimp only
    rw [List.filter_append,hold _ hk]
    by_cases e2 : n.kind = 3
    · rw [if_pos ⟨e, e2⟩]
      congr 1
      rw [List.filter_cons,if_pos (by rw [h.new]; exact decide_eq_true e2)]; rfl
    · rw [if_neg (fun hh => e2 hh.2), List.filter_cons, if_neg (by rw [h.new, decide_eq_false e2]; decide)]
      rw [List.filter_nil,List.append_nil]
  · rw [if_neg e,if_neg (fun hh => e hh.1),hold _ hk]
theorem New.elk0 (h : New L L2 q n) : elK L2 (L.length : Int) = [] := by
  unfold elK
  rw [h.new]
  show (n.kids).filter _ = []
  rw [h.nk]; rfl
theorem app_new {L : List Nd} (hG : Gd L) {n : Nd} (hp : n.parent = -1) (hk : n.kids = []) (hkk : kidK n.kind = true) {q : Int} (hq : 0 ≤ q ∧ q < L.length) (hh : holdK (gN L q).kind = true) : ∃ L2,appendN (L ++ [n]) q L.length = (L2,0) ∧ New L L2 q n := by
  obtain ⟨p,rfl⟩ : ∃ p : Nat,q = p := ⟨q.toNat,by omega⟩
  have h1 := kidK_one hkk
  have hgd := hG.push hp hk h1
  have hlen : (L ++ [n]).length = L.length + 1 := by simp
  have e : appendN (L ++ [n]) (p : Int) L.length = (hangN (L ++ [n]) p (-1) L.length,0) := by
    unfold appendN
    have c1 : holdsN (L ++ [n]) p = true := by rw [holdsN_g,gN_push,if_neg (by omega)]; exact hh
    have c2 : hangsN (L ++ [n]) L.length = true := by rw [hangsN_g,gN_push,if_pos rfl]; exact hkk
    have c3 : aboveN (L ++ [n]) L.length p = false := aboveF_new hG _ _ _ (by omega)
    rw [if_pos ⟨c1,c2,c3⟩,Int.toNat_natCast,Int.toNat_natCast]
  refine ⟨_,e,hG,?_,by rw [hangN_len,hlen],hq,hk,gN_hang_new hG hp hk h1 (by omega)⟩
  have := append_gd hgd (p : Int) L.length
  rwa [e] at this
end
structure Shp (b : BSt) : Prop where
  gd : Gd b.L
  fo : b.foster = false
  nt : ∀ t : Int,1 ≤ t → t < b.L.length → kidK (gN b.L t).kind = true ∧ ((gN b.L t).kind = 3 → (gN b.L t).name ≠ tmpl)
  st : ∀ o ∈ b.s,1 ≤ o.node ∧ o.node < b.L.length ∧ (gN b.L o.node).kind = 3 ∧ o = ⟨o.node,(gN b.L o.node).space,(gN b.L o.node).name⟩
section
variable {b : BSt}
theorem Shp.same (h : Shp b) {L' : List Nd} (hG : Gd L') (hl : L'.length = b.L.length) (hs : ∀ t,(gN L' t).kind = (gN b.L t).kind ∧ (gN L' t).name = (gN b.L t).name ∧ (gN L' t).space = (gN b.L t).space) : Shp { b with L := L' } :=
  ⟨hG,h.fo,fun t h1 h2 => by
    have h2 : t < (L'.length : Int) := h2
    show kidK (gN L' t).kind = true ∧ ((gN L' t).kind = 3 → (gN L' t).name ≠ tmpl)
    rw [(hs t).1,(hs t).2.1]; exact h.nt t h1 (by omega),fun o ho => by
    obtain ⟨h1,h2,h3,h4⟩ := h.st o ho
    show 1 ≤ o.node ∧ o.node < (L'.length : Int) ∧ (gN L' o.node).kind = 3 ∧ o = ⟨o.node,(gN L' o.node).space,(gN L' o.node).name⟩
    rw [(hs _).1,(hs _).2.1,(hs _).2.2]
    exact ⟨h1,by omega,h3,h4⟩⟩
theorem Shp.new (h : Shp b) {L2 : List Nd} {q : Int} {n : Nd} (hn : New b.L L2 q n) (hk : kidK n.kind = true) (hnt : n.kind = 3 → n.name ≠ tmpl) : Shp { b with L := L2 } := by
  have hl := hn.len
  refine ⟨hn.gd,h.fo,fun t h1 h2 => ?_,fun o ho => ?_⟩
  · have h2 : t < (L2.length : Int) := h2
    show kidK (gN L2 t).kind = true ∧ ((gN L2 t).kind = 3 → (gN L2 t).name ≠ tmpl)
    by_cases e : t = b.L.length
    · rw [e,hn.new]; exact ⟨hk,hnt⟩
    · rw [(hn.old e).1,(hn.old e).2.1]; exact h.nt t h1 (by omega)
  · obtain ⟨h1, h2, h3, h4⟩ := h.st o ho
    obtain ⟨e1,e2,e3⟩ := hn.old (t := o.node) (by omega)
    show 1 ≤ o.node ∧ o.node < (L2.length : Int) ∧ (gN L2 o.node).kind = 3 ∧ o = ⟨o.node,(gN L2 o.node).space,(gN L2 o.node).name⟩
    rw [e1,e2,e3]
    exact ⟨h1,by omega,h3,h4⟩
theorem Shp.sets (h : Shp b) {s' : List OpS} (hs : ∀ o ∈ s',o ∈ b.s) : Shp { b with s := s' } := ⟨h.gd,h.fo,h.nt,fun o ho => h.st o (hs o ho)⟩
theorem Shp.set (h : Shp b) {b' : BSt} (e : b'.L = b.L ∧ b'.s = b.s ∧ b'.foster = b.foster) : Shp b' := by
  obtain ⟨e1,e2,e3⟩ := e
  exact ⟨by rw [e1]; exact h.gd,by rw [e3]; exact h.fo,by rw [e1]; exact h.nt,by rw [e1,e2]; exact h.st⟩
theorem Shp.t0 (h : Shp b) : 0 ≤ targB b ∧ targB b < b.L.length ∧ (((gN b.L (targB b)).kind = 1 ∧ targB b = 0) ∨ ((gN b.L (targB b)).kind = 3 ∧ (gN b.L (targB b)).name ≠ tmpl)) := by
  have hpos : 0 < b.L.length := List.length_pos_iff.2 h.gd.ne
  unfold targB
  rw [topS_eq]
  rcases List.eq_nil_or_concat b.s with e | ⟨r,o,e⟩
  · rw [e]
    exact ⟨by decide,by show (0 : Int) < _; omega,.inl ⟨h.gd.doc,rfl⟩⟩
  · rw [List.concat_eq_append] at e
    obtain ⟨h1,h2,h3,_⟩ := h.st o (by rw [e]; simp)
    rw [e,List.getLast?_concat]
    dsimp only
    rw [if_neg (by omega)]
    exact ⟨by omega,h2,.inr ⟨h3,(h.nt _ h1 h2).2 h3⟩⟩
theorem Shp.place (h : Shp b) {L' : List Nd} (hk : (nodeN L' (targB b)).kind ≠ 3 ∨ (nodeN L' (targB b)).name ≠ tmpl) : placeB { b with L := L' } (targB b) = (targB b,-1) := by
  have e1 : place1 { b with L := L' } (targB b) = (targB b,-1) := by
    unfold place1
    rw [if_neg (by rw [show ({ b with L := L' } : BSt).foster = false from h.fo]; simp)]
  unfold placeB
  rw [e1]
  rw [if_neg]
  rintro ⟨_,hh⟩
  unfold htmlN at hh
  simp only [List.any_cons,List.any_nil,Bool.or_false,Bool.and_eq_true,decide_eq_true_eq] at hh
  rcases hk with hk | hk
  · exact hk hh.1
  · exact hk hh.2.2
theorem Shp.targ (h : Shp b) : (0 ≤ targB b ∧ targB b < b.L.length) ∧ holdK (gN b.L (targB b)).kind = true ∧ placeB b (targB b) = (targB b,-1) ∧ ∀ n : Nd,placeB { b with L := b.L ++ [n] } (targB b) = (targB b,-1) := by
  obtain ⟨t0,t1,t2⟩ := h.t0
  refine ⟨⟨t0,t1⟩,?_,?_,fun n => ?_⟩
  · rcases t2 with t2 | t2 <;> rw [t2.1] <;> rfl
  · refine h.place (L' := b.L) ?_
    rw [nodeN_gN ⟨t0,t1⟩]
    rcases t2 with t2 | t2
    · left; rw [t2.1]; decide
    · exact .inr t2.2
  · refine h.place ?_
    rw [nodeN_gN (by simp; omega),gN_push,if_neg (by omega)]
    rcases t2 with t2 | t2
    · left; rw [t2.1]; decide
    · exact .inr t2.2
theorem addN_no {L : List Nd} {n : Nd} (hk : kidK n.kind = true) (hn : n.kind = 3 → n.name ≠ tmpl) : addN L n = (L ++ [bareN n],(L.length : Int)) := by
  unfold addN
  rw [if_pos hk,if_neg (fun h => hn h.1 h.2.2)]
theorem Shp.ins (h : Shp b) (hl : b.s.length < 500) {n : Nd} (hk : n.kind = 3) (hn : n.name ≠ tmpl) : ∃ b',insertB b n = (b',(b.L.length : Int)) ∧ New b.L b'.L (targB b) (bareN n) ∧ b' = { b with L := b'.L,s := b.s ++ [⟨(b.L.length : Int),n.space,n.name⟩] } ∧ Shp b' := by
  obtain ⟨⟨t0,t1⟩,hh,hp,hp2⟩ := h.targ
  have hkk : kidK n.kind = true := by rw [hk]; rfl
  have ea : addN b.L n = (b.L ++ [bareN n],(b.L.length : Int)) := addN_no hkk fun _ => hn
  have eadd : addB b n = { b with L := b.L ++ [bareN n] } := by unfold addB; rw [ea]
  obtain ⟨L2,e2,hN⟩ := app_new h.gd (n := bareN n) rfl rfl hkk ⟨t0,t1⟩ hh
  have hl2 := hN.len
  have hhung : hungB b n = { b with L := L2 } := by
    unfold hungB
    rw [ea]
    have ht2 : targB (addB b n) = targB b := rfl
    rw [ht2,eadd]
    unfold putB
    rw [hp2,if_neg (show ¬ (0 : Int) ≤ -1 by decide)]
    dsimp only
    rw [e2]
  have hnk : nodeN L2 (b.L.length : Int) = { bareN n with parent := targB b } := by rw [nodeN_gN (by omega),hN.new]
  have hk3 : ((nd? L2 b.L.length).getD zN).kind = 3 := by
    unfold nodeN at hnk
    rw [hnk]; exact hk
  have hop : opN L2 b.L.length = ⟨(b.L.length : Int),n.space,n.name⟩ := by
    unfold nodeN at hnk
    unfold opN
    rw [hnk]; rfl
  have hins : insertB b n = ({ b with L := L2,s := b.s ++ [⟨(b.L.length : Int),n.space,n.name⟩] },(b.L.length : Int)) := by
    unfold insertB
    rw [if_neg (by omega),ea]
    dsimp only
    rw [hhung]
    have hpush : pushB { b with L := L2 } b.L.length = ({ b with L := L2,s := b.s ++ [⟨(b.L.length : Int),n.space,n.name⟩] },0) := by
      unfold pushB insS
      dsimp only
      rw [if_pos hk3,if_pos ⟨by omega,Int.le_refl _⟩,if_neg (by omega),Int.toNat_natCast,List.take_length,List.drop_length,hop]
    rw [hpush]
    unfold failB
    rw [if_neg (fun h => h.2 rfl)]
  have hS := h.new hN hkk fun _ => hn
  have hpos : 0 < b.L.length := List.length_pos_iff.2 h.gd.ne
  refine ⟨_,hins,hN,rfl,⟨hS.gd,hS.fo,hS.nt,fun o ho => ?_⟩⟩
  have ho : o ∈ b.s ++ [⟨(b.L.length : Int),n.space,n.name⟩] := ho
  rcases List.mem_append.1 ho with ho | ho
  · exact hS.st o ho
  · rw [List.mem_singleton] at ho
    rw [ho]
    show 1 ≤ (b.L.length : Int) ∧ (b.L.length : Int) < (L2.length : Int) ∧ (gN L2 (b.L.length : Int)).kind = 3 ∧ _
    rw [hN.new]
    exact ⟨by omega,by omega,hk,rfl⟩
theorem Shp.noT (h : Shp b) : lastBu b tmpl = -1 := by
  unfold lastBu
  refine lastB_none fun j hj => ?_
  rw [gD_lt hj]
  obtain ⟨h1,h2,h3,h4⟩ := h.st _ (List.getElem_mem hj)
  rw [nodeN_gN (by omega)]
  unfold htmlN
  have := (h.nt _ h1 h2).2 h3
  simp [this]
theorem Shp.chars (h : Shp b) (x : ByteArray) : ∃ L',charsB b x = { b with L := L' } ∧ Shp { b with L := L' } ∧ (∀ t,t < (b.L.length : Int) → elK L' t = elK b.L t) ∧ ∀ t : Int,t < b.L.length → (gN L' t).name = (gN b.L t).name ∧ (gN L' t).space = (gN b.L t).space ∧ (gN L' t).kind = (gN b.L t).kind := by
  obtain ⟨⟨t0,t1⟩,hh,hp,_⟩ := h.targ
  have tr : ∃ L',({ b with L := b.L } : BSt) = { b with L := L' } ∧ Shp { b with L := L' } ∧ (∀ t,t < (b.L.length : Int) → elK L' t = elK b.L t) ∧ ∀ t : Int,t < b.L.length → (gN L' t).name = (gN b.L t).name ∧ (gN L' t).space = (gN b.L t).space ∧ (gN L' t).kind = (gN b.L t).kind := ⟨b.L,rfl,h,fun _ _ => rfl,fun _ _ => ⟨rfl,rfl,rfl⟩⟩
  unfold charsB
  rw [hp]
  dsimp only
  split
  · unfold textN
    split
    · split
      · exact tr
      · split
        · rename_i h3
          obtain ⟨k,hk⟩ : ∃ k,k = (((gN b.L (targB b)).kids[(atK (-1) (gN b.L (targB b)).kids - 1).toNat]?).getD 0) := ⟨_,rfl⟩
          rw [← hk] at h3 ⊢
          have hkr : 0 ≤ k ∧ k < b.L.length := by
            by_cases hr : 0 ≤ k ∧ k < b.L.length
            · exact hr
            · have := h3.2
              rw [gN_none hr] at this
              cases this
          obtain ⟨i,rfl⟩ : ∃ i : Nat,k = i := ⟨k.toNat,by omega⟩
          rw [Int.toNat_natCast]
          have hg := gN_modify (L := b.L) (p := i) (by omega) (addText x)
          have hs : ∀ t,(gN (b.L.modify i (addText x)) t).kind = (gN b.L t).kind ∧ (gN (b.L.modify i (addText x)) t).name = (gN b.L t).name ∧ (gN (b.L.modify i (addText x)) t).space = (gN b.L t).space ∧ (gN (b.L.modify i (addText x)) t).kids = (gN b.L t).kids := fun t => by
            rw [hg]; split
            · exact ⟨rfl,rfl,rfl,rfl⟩
            · exact ⟨rfl,rfl,rfl,rfl⟩
          refine ⟨_,rfl,h.same (h.gd.modify fun n => ⟨rfl,rfl,rfl⟩) (by simp) fun t => ⟨(hs t).1,(hs t).2.1,(hs t).2.2.1⟩,fun t _ => ?_,fun t _ => ⟨(hs t).2.1,(hs t).2.2.1,(hs t).1⟩⟩
          unfold elK
          rw [(hs t).2.2.2]
          congr 1
          funext j
          rw [(hs j).1]
        · have hgn := gN_hang_new h.gd (n := textNd x) rfl rfl (by show (4 : Int) ≠ 1; decide) (p := (targB b).toNat) (by omega)
          rw [Int.toNat_of_nonneg t0] at hgn
          have hN : New b.L (hangN (b.L ++ [textNd x]) (targB b).toNat (-1) b.L.length) (targB b) (textNd x) := ⟨h.gd,h.gd.new_free rfl rfl rfl (by omega) _,by rw [hangN_len]; simp,⟨t0,t1⟩,rfl,hgn⟩
          refine ⟨_,rfl,h.new hN rfl (fun hh => by cases hh),fun t ht => ?_,fun t ht => ?_⟩
          · rw [hN.elk (by omega),if_neg (fun hh => by cases hh.2)]
          · obtain ⟨e1, e2, e3⟩ := hN.old (t := t) (by omega)
            exact ⟨e2,e3,e1⟩
    · exact tr
  · exact tr
theorem Shp.comm (h : Shp b) (x : ByteArray) {into : Int} (hi : into = -1 ∨ into = 0) : ∃ L' q,commB b x into = { b with L := L' } ∧ Shp { b with L := L' } ∧ New b.L L' q (bareN (comTok x)) := by
  obtain ⟨⟨t0,t1⟩,hh,hp,hp2⟩ := h.targ
  have ea : addN b.L (comTok x) = (b.L ++ [bareN (comTok x)],(b.L.length : Int)) := addN_no rfl (fun hh => by cases hh)
  have eadd : addB b (comTok x) = { b with L := b.L ++ [bareN (comTok x)] } := by unfold addB; rw [ea]
  have hpos : 0 < b.L.length := List.length_pos_iff.2 h.gd.ne
  unfold commB
  rcases hi with rfl | rfl
  · rw [if_pos (by decide), ea]
    obtain ⟨L2,e2,hN⟩ := app_new h.gd (n := bareN (comTok x)) rfl rfl rfl ⟨t0,t1⟩ hh
    have ht : targB (addB b (comTok x)) = targB b := rfl
    rw [ht,eadd]
    have hpl := hp2 (bareN (comTok x))
    refine ⟨L2,targB b,?_,h.new hN rfl (fun hh => by cases hh),hN⟩
    unfold putB
    rw [hpl,if_neg (show ¬ (0 : Int) ≤ -1 by decide)]
    dsimp only
    rw [e2]
  · rw [if_neg (by decide), ea]
    obtain ⟨L2,e2,hN⟩ := app_new h.gd (n := bareN (comTok x)) rfl rfl rfl (q := 0) ⟨by decide,by omega⟩ (by rw [h.gd.doc]; rfl)
    refine ⟨L2,0,?_,h.new hN rfl (fun hh => by cases hh),hN⟩
    rw [eadd]
    dsimp only
    rw [e2]
theorem Shp.more (h : Shp b) (t : HTok) : ∃ L',moreB b t = { b with L := L' } ∧ Shp { b with L := L' } ∧ (∀ t,elK L' t = elK b.L t) ∧ ∀ t : Int,(gN L' t).name = (gN b.L t).name ∧ (gN L' t).space = (gN b.L t).space ∧ (gN L' t).kind = (gN b.L t).kind := by
  unfold moreB
  rw [h.noT,if_neg (by decide)]
  unfold moreN
  split
  · rename_i h3
    obtain ⟨i,hi⟩ : ∃ i : Nat,atS b.s 0 = i := ⟨(atS b.s 0).toNat,by omega⟩
    rw [hi] at h3 ⊢
    rw [Int.toNat_natCast]
    have hg := gN_modify (L := b.L) (p := i) (by omega) (fun n => setAttrs (moreA n.attrs t.attrs) n)
    have hs : ∀ u,(gN (b.L.modify i fun n => setAttrs (moreA n.attrs t.attrs) n) u).kind = (gN b.L u).kind ∧ (gN (b.L.modify i fun n => setAttrs (moreA n.attrs t.attrs) n) u).name = (gN b.L u).name ∧ (gN (b.L.modify i fun n => setAttrs (moreA n.attrs t.attrs) n) u).space = (gN b.L u).space ∧ (gN (b.L.modify i fun n => setAttrs (moreA n.attrs t.attrs) n) u).kids = (gN b.L u).kids := fun u => by
      rw [hg]; split
      · exact ⟨rfl,rfl,rfl,rfl⟩
      · exact ⟨rfl,rfl,rfl,rfl⟩
    refine ⟨_,rfl,h.same (h.gd.modify fun n => ⟨rfl,rfl,rfl⟩) (by simp) fun t => ⟨(hs t).1,(hs t).2.1,(hs t).2.2.1⟩,fun u => ?_,fun u => ⟨(hs u).2.1,(hs u).2.2.1,(hs u).1⟩⟩
    unfold elK
    rw [(hs u).2.2.2]
    congr 1
    funext j
    rw [(hs j).1]
  · exact ⟨b.L,rfl,h,fun _ => rfl,fun _ => ⟨rfl,rfl,rfl⟩⟩
end
end Go.Vk
end
section
namespace Go.Vk
open Go Go.Proofs.YtgnnlaeikcnhcaaGreatDoor
structure Rt (L : List Nd) (r : Int) : Prop where
  el : elK L 0 = [r]
  nm : (gN L r).name = sHtml
  r0 : 1 ≤ r ∧ r < L.length
structure Hd (L : List Nd) (r d : Int) : Prop where
  nm : (gN L d).name = sHead
  d0 : 1 ≤ d ∧ d < L.length
  dr : d ≠ r
def Sha (L : List Nd) (m : Int) (ns : List Int) (hd : Int) : Prop :=
  ((m = 0 ∨ m = 1) ∧ ns = [] ∧ elK L 0 = []) ∨
  (m = 2 ∧ ∃ r,ns = [r] ∧ Rt L r ∧ elK L r = []) ∨
  (m = 3 ∧ ∃ r,ns = [r,hd] ∧ Rt L r ∧ elK L r = [hd] ∧ Hd L r hd) ∨
  (m = 4 ∧ ∃ r n,ns = [r,hd,n] ∧ Rt L r ∧ elK L r = [hd] ∧ Hd L r hd ∧ n ≠ r ∧ n ≠ hd) ∨
  (m = 5 ∧ ∃ r,ns = [r] ∧ Rt L r ∧ elK L r = [hd] ∧ Hd L r hd) ∨
  (m = 6 ∧ ∃ r o,ns = [r,o] ∧ Rt L r ∧ elK L r = [hd,o] ∧ Hd L r hd ∧ (gN L o).name = sBody_ ∧ (gN L o).space = 0)
theorem Sha.lt {L : List Nd} {m hd : Int} {ns : List Int} (h : Sha L m ns hd) : ns.length ≤ 3 := by
  rcases h with ⟨_,e,_⟩ | ⟨_,r,e,_⟩ | ⟨_,r,e,_⟩ | ⟨_,r,n,e,_⟩ | ⟨_,r,e,_⟩ | ⟨_,r,o,e,_⟩ <;> rw [e] <;> simp
theorem Sha.keep {L L' : List Nd} {m hd : Int} {ns : List Int} (h : Sha L m ns hd) (hpos : 0 < L.length) (hl : L.length ≤ L'.length) (he0 : elK L' 0 = elK L 0) (he : ∀ r,ns.head? = some r → r < L.length → elK L' r = elK L r) (hn : ∀ t : Int,t < L.length → (gN L' t).name = (gN L t).name ∧ (gN L' t).space = (gN L t).space) : Sha L' m ns hd := by
  have rt : ∀ {r},Rt L r → Rt L' r := fun {r} h => ⟨by rw [he0]; exact h.el,by rw [(hn r h.r0.2).1]; exact h.nm,by have := h.r0; omega⟩
  have hdk : ∀ {r d},Hd L r d → Hd L' r d := fun {r d} h => ⟨by rw [(hn d h.d0.2).1]; exact h.nm,by have := h.d0; omega,h.dr⟩
  rcases h with ⟨e,e2,e3⟩ | ⟨e,r,e2,e3,e4⟩ | ⟨e,r,e2,e3,e4,e5⟩ | ⟨e,r,n,e2,e3,e4,e5,e6⟩ | ⟨e,r,e2,e3,e4,e5⟩ | ⟨e,r,o,e2,e3,e4,e5,e6,e7⟩
  · exact .inl ⟨e,e2,by rw [he0]; exact e3⟩
  · exact .inr (.inl ⟨e,r,e2,rt e3,by rw [he r (by rw [e2]; rfl) e3.r0.2]; exact e4⟩)
  · exact .inr (.inr (.inl ⟨e,r,e2,rt e3,by rw [he r (by rw [e2]; rfl) e3.r0.2]; exact e4,hdk e5⟩))
  · exact .inr (.inr (.inr (.inl ⟨e,r,n,e2,rt e3,by rw [he r (by rw [e2]; rfl) e3.r0.2]; exact e4,hdk e5,e6⟩)))
  · exact .inr (.inr (.inr (.inr (.inl ⟨e,r,e2,rt e3,by rw [he r (by rw [e2]; rfl) e3.r0.2]; exact e4,hdk e5⟩))))
  · have ho : o < (L.length : Int) := by
      by_cases h0 : 0 ≤ o ∧ o < L.length
      · exact h0.2
      · rw [gN_none h0] at e6; cases e6
    exact .inr (.inr (.inr (.inr (.inr ⟨e,r,o,e2,rt e3,by rw [he r (by rw [e2]; rfl) e3.r0.2]; exact e4,hdk e5,by rw [(hn o ho).1]; exact e6,by rw [(hn o ho).2]; exact e7⟩))))
def rawM (m : Int) : Prop := m = 3 ∨ m = 4 ∨ m = 5
def HInv (b : BSt) : Prop :=
  b.mode = 15 ∨ (Shp b ∧ (Sha b.L b.mode (nds b.s) b.head ∨ (b.mode = 7 ∧ rawM b.back ∧ ∃ ns x,nds b.s = ns ++ [x] ∧ Sha b.L b.back ns b.head)))
theorem shp_new : Shp newB := ⟨docN_gd,rfl,fun t h1 h2 => by have h2 : t < 1 := h2; omega,fun o ho => by cases ho⟩
theorem HInv.new : HInv newB := .inr ⟨shp_new,.inl (.inl ⟨.inl rfl,rfl,rfl⟩)⟩
section
variable {b : BSt} {t : HTok}
theorem nds_one {A : List OpS} {o : OpS} : nds (A ++ [o]) = nds A ++ [o.node] := by simp [nds]
theorem topT {x : Int} {ns : List Int} (h : Shp b) (e : nds b.s = ns ++ [x]) : targB b = x ∧ 1 ≤ x ∧ x < b.L.length := by
  obtain ⟨A,o,es⟩ : ∃ A o,b.s = A ++ [o] := by
    rcases List.eq_nil_or_concat b.s with e2 | ⟨A,o,e2⟩
    · rw [e2] at e; simp [nds] at e
    · exact ⟨A,o,by rw [e2,List.concat_eq_append]⟩
  have : o.node = x := by
    rw [es,nds_one] at e
    exact (List.append_inj' e rfl).2 |> fun h => by simpa using h
  obtain ⟨h1,h2,_⟩ := h.st o (by rw [es]; simp)
  have ht : topS b.s = x := by rw [topS_eq,es,List.getLast?_concat]; exact this
  unfold targB
  rw [ht,if_neg (by omega)]
  exact ⟨rfl,by omega,by omega⟩
theorem Sha.chars {m hd : Int} {ns : List Int} (h : Shp b) (hs : Sha b.L m ns hd) (x : ByteArray) : ∃ L',charsB b x = { b with L := L' } ∧ Shp { b with L := L' } ∧ Sha L' m ns hd := by
  obtain ⟨L',e,h1,h2,h3⟩ := h.chars x
  have hpos : 0 < b.L.length := List.length_pos_iff.2 h.gd.ne
  have hl : b.L.length ≤ L'.length := by
    have := congrArg (fun c : BSt => c.L.length) e
    dsimp only at this
    rw [← this]
    unfold charsB textN
    split
    · dsimp only
      split
      · split
        · exact Nat.le_refl _
        · split
          · simp
          · rw [hangN_len]; simp
      · exact Nat.le_refl _
    · exact Nat.le_refl _
  exact ⟨L',e,h1,hs.keep hpos hl (h2 0 (by omega)) (fun r _ hr => h2 r hr) fun t ht => ⟨(h3 t ht).1,(h3 t ht).2.1⟩⟩
theorem New.sha {L L2 : List Nd} {q : Int} {n : Nd} (hN : New L L2 q n) {m hd : Int} {ns : List Int} (hs : Sha L m ns hd) (hk : n.kind ≠ 3 ∨ (q ≠ 0 ∧ ∀ r,ns.head? = some r → q ≠ r)) : Sha L2 m ns hd := by
  have hpos : 0 < L.length := List.length_pos_iff.2 hN.gd0.ne
  refine hs.keep hpos (by rw [hN.len]; omega) ?_ (fun r hr hl => ?_) fun t ht => ?_
  · rw [hN.elk (by omega), if_neg]
    rintro ⟨h1,h2⟩
    rcases hk with hk | hk
    · exact hk h2
    · exact hk.1 h1.symm
  · rw [hN.elk (by omega), if_neg]
    rintro ⟨h1,h2⟩
    rcases hk with hk | hk
    · exact hk h2
    · exact hk.2 r hr h1.symm
  · obtain ⟨_, e2, e3⟩ := hN.old (t := t) (by omega)
    exact ⟨e2,e3⟩
theorem Sha.comm {m hd : Int} {ns : List Int} (h : Shp b) (hs : Sha b.L m ns hd) (x : ByteArray) {into : Int} (hi : into = -1 ∨ into = 0) : ∃ L',commB b x into = { b with L := L' } ∧ Shp { b with L := L' } ∧ Sha L' m ns hd := by
  obtain ⟨L',q,e,h1,hN⟩ := h.comm x hi
  exact ⟨L',e,h1,hN.sha hs (.inl (by show (5 : Int) ≠ 3; decide))⟩
theorem Sha.more {m hd : Int} {ns : List Int} (h : Shp b) (hs : Sha b.L m ns hd) (t : HTok) : ∃ L',moreB b t = { b with L := L' } ∧ Shp { b with L := L' } ∧ Sha L' m ns hd := by
  obtain ⟨L',e,h1,h2,h3⟩ := h.more t
  have hpos : 0 < b.L.length := List.length_pos_iff.2 h.gd.ne
  have hl : b.L.length ≤ L'.length := by
    have := congrArg (fun c : BSt => c.L.length) e
    dsimp only at this
    rw [← this]
    unfold moreB
    split
    · exact Nat.le_refl _
    · dsimp only; rw [more_len]; exact Nat.le_refl _
  exact ⟨L',e,h1,hs.keep hpos hl (h2 0) (fun r _ _ => h2 r) fun t _ => ⟨(h3 t).1,(h3 t).2.1⟩⟩
theorem startT_nm {l : List ByteArray} (h : startT t l = true) : t.kind = 2 ∧ t.name ∈ l := by
  unfold startT at h
  simp only [Bool.and_eq_true,decide_eq_true_eq,List.any_eq_true] at h
  obtain ⟨h1,x,h2,h3⟩ := h
  exact ⟨h1,h3 ▸ h2⟩
theorem endT_nm {l : List ByteArray} (h : endT t l = true) : t.kind = 3 ∧ t.name ∈ l := by
  unfold endT at h
  simp only [Bool.and_eq_true,decide_eq_true_eq,List.any_eq_true] at h
  obtain ⟨h1,x,h2,h3⟩ := h
  exact ⟨h1,h3 ▸ h2⟩
theorem Shp.insT (h : Shp b) (hl : b.s.length < 500) {t : HTok} (hn : t.name ≠ tmpl) : ∃ b' n,insertB b (elTok t 0) = (b',(b.L.length : Int)) ∧ New b.L b'.L (targB b) n ∧ n.kind = 3 ∧ n.name = t.name ∧ n.space = 0 ∧ nds b'.s = nds b.s ++ [(b.L.length : Int)] ∧ b'.mode = b.mode ∧ b'.back = b.back ∧ b'.head = b.head ∧ b'.s = b.s ++ [⟨(b.L.length : Int),0,t.name⟩] ∧ Shp b' := by
  obtain ⟨b',e,h1,h2,h3⟩ := h.ins hl (n := elTok t 0) rfl hn
  refine ⟨b',bareN (elTok t 0),e,h1,rfl,rfl,rfl,?_,?_,?_,?_,?_,h3⟩
  all_goals rw [h2]
  · show nds (b.s ++ _) = _
    simp [nds]
  · rfl
theorem nds_len (b : BSt) : (nds b.s).length = b.s.length := by simp [nds]
theorem Sha.own {m hd : Int} {ns0 ns : List Int} {x : Int} (h : Shp b) (hs : Sha b.L m ns0 hd) (hb : b.mode = m) (hlen : b.s.length < 500) (hx : nds b.s = ns ++ [x]) (hxn : x ≠ 0 ∧ ∀ r,ns0.head? = some r → x ≠ r) (t : HTok) :
    (ownH b t).mode = 15 ∨ (Shp (ownH b t) ∧ (ownH b t).head = b.head ∧ Sha (ownH b t).L m ns0 hd ∧
      (((ownH b t).mode = m ∧ (ownH b t).s = b.s) ∨ ((ownH b t).mode = 7 ∧ (ownH b t).back = m ∧ ∃ o,(ownH b t).s = b.s ++ [o] ∧ (b.L.length : Int) ≤ o.node))) := by
  obtain ⟨tx,_,_⟩ := topT h hx
  unfold ownH
  split
  · unfold temH
    split
    · exact .inl rfl
    · rw [h.noT, if_neg (by decide)]
      exact .inr ⟨h,rfl,hs,.inl ⟨hb,rfl⟩⟩
  · rename_i hnt
    obtain ⟨b',n,e,h1,h2,h3,h4,h5,h6,h7,h8,h9,h10⟩ := h.insT hlen hnt
    have hs' : Sha b'.L m ns0 hd := h1.sha hs (.inr ⟨by rw [tx]; exact hxn.1,fun r hr => by rw [tx]; exact hxn.2 r hr⟩)
    split
    · right
      unfold rawB
      rw [e]
      exact ⟨h10.set ⟨rfl,rfl,rfl⟩,h8,hs',.inr ⟨rfl,by show b'.mode = m; rw [h6]; exact hb,_,h9,Int.le_refl _⟩⟩
    · right
      unfold onlyB
      rw [e,if_pos (by show (0 : Int) ≤ (b.L.length : Int); omega)]
      have es : b'.s.dropLast = b.s := by rw [h9]; simp
      exact ⟨h10.sets (s' := b'.s.dropLast) (fun o ho => by rw [es] at ho; rw [h9]; simp [ho]),h8,hs',.inl ⟨by show b'.mode = m; rw [h6]; exact hb,es⟩⟩
end
end Go.Vk
end
