/- What the proof leans on, part 9 of 10. -/
import Derived.Test.YtgnnlaeikcnhcaaGreatDoorQHeadsNoneH
section
set_option linter.unusedSimpArgs false
set_option linter.unusedVariables false
namespace Go.Proofs.YtgnnlaeikcnhcaaGreatDoor
open Go Go.Vk
set_option maxHeartbeats 40000000
section
variable {w0 w : World} {Q : Nat → Prop} {pb ps pl pa : Nat} {b : BSt}
theorem htext_c (h : BuAt w0 w Q pb ps pl pa b) (hO : HdO 5 b) (hg : GB w0) (hM : MaxAt w0) (hQl : ∀ q, Q q → q < w.heap.size) {t : HTok} {av : Value} (ha0 : RdAt w0 2 av (attrCells t.attrs)) (ht : SmT t) :
    Gives Tryz.prog 293 #[.pointer (some ⟨pb, 0, none⟩), .agg (t.row av)] w fun v w' => v = .bool (textH b t).2 ∧ BuAt w0 w' Q pb ps pl pa (textH b t).1 ∧ Upd (AF w0 Q) w w' := by
  have ha := ha0.ext h.out
  obtain ⟨xa, xn, xc, eav, _⟩ := id ha
  subst eav
  have hrow : t.row (.slice xa xn xc) = #[.int .i64 t.kind, .string t.name, .string t.text, .slice xa xn xc, .bool t.dup, .bool t.self, .bool t.quirks, .int .i64 t.frm, .int .i64 t.to] := rfl
  have hx := Ext.alloc w (.cells (t.row (.slice xa xn xc)) 37)
  have hp : (w.alloc (.cells (t.row (.slice xa xn xc)) 37)).heap[w.heap.size]? = some (.cells (t.row (.slice xa xn xc)) 37 (0, 0)) := by rw [heap_alloc_h, if_pos rfl]
  obtain ⟨r, hr⟩ : ∃ r, r = textH b t := ⟨_, rfl⟩
  rw [← hr]
  unfold textH at hr
  have hL := hO.L
  have hok := hO.ok
  refine Gives.of_W Tryz.call293 Tryz.func293 rfl Tryz.ntmps293 (by simp) ?_; intro Z hZ
  (repeat first|(with_reducible first|(refine hK _ _ ?_;clear hK K)|refine ‹∀σ w,_→K σ w› _ _ ?_|(refine W_st ?_;constructor;try intro K hK))|((with_reducible first|refine hZ _ _ ?_|refine W_rg ?_|skip);repeat1' simp only[push_cast,seval,-Nat.reduceSubDiff,vcells_agg])|((repeat((fail_if_success with_reducible refine hK _ _ ?_);clear hK K));with_reducible refine hK _ _ ?_;clear hK K))
  generalize w.alloc (.cells (t.row (.slice xa xn xc)) 37) = w1 at *
  obtain ⟨p, hpe⟩ : ∃ p, p = w.heap.size := ⟨_, rfl⟩
  rw [← hpe] at hp ⊢
  rw [hrow] at hp
  have h1 := h.pass hx
  have hx1 := hx
  have hp1 := hp
  by_cases k5 : t.kind = 5
  · have k5' := eq_true k5
    rw [if_pos (.inl k5)] at hr
    (repeat first|(with_reducible first|(refine hK _ _ ?_;clear hK K)|refine ‹∀σ w,_→K σ w› _ _ ?_|(refine W_st ?_;constructor;try intro K hK))|((with_reducible first|refine hZ _ _ ?_|refine W_rg ?_|skip);repeat1' simp only[push_cast,seval,-Nat.reduceSubDiff,cell_h,cellO_cells,hp1,k5'])|((repeat((fail_if_success with_reducible refine hK _ _ ?_);clear hK K));with_reducible refine hK _ _ ?_;clear hK K))
    refine (bchars_c h1 hok t.text ht.2.1 hO.txt).mono ?_
    rintro v w2 ⟨h2, hu2⟩
    (repeat first|(with_reducible first|(refine hK _ _ ?_;clear hK K)|refine ‹∀σ w,_→K σ w› _ _ ?_|(refine W_st ?_;constructor;try intro K hK))|((with_reducible first|refine hZ _ _ ?_|refine W_rg ?_|skip);repeat1' simp only[push_cast,seval,-Nat.reduceSubDiff])|((repeat((fail_if_success with_reducible refine hK _ _ ?_);clear hK K));with_reducible refine hK _ _ ?_;clear hK K))
    exact ⟨by rw [hr], by rw [hr]; exact h2, Upd.trans (hx1.upd) hu2 fun _ _ h => h⟩
  have k5' := eq_false k5
  by_cases k7 : t.kind = 7
  · have k7' := eq_true k7
    rw [if_pos (.inr (.inl k7))] at hr
    (repeat first|(with_reducible first|(refine hK _ _ ?_;clear hK K)|refine ‹∀σ w,_→K σ w› _ _ ?_|(refine W_st ?_;constructor;try intro K hK))|((with_reducible first|refine hZ _ _ ?_|refine W_rg ?_|skip);repeat1' simp only[push_cast,seval,-Nat.reduceSubDiff,cell_h,cellO_cells,hp1,k5',k7'])|((repeat((fail_if_success with_reducible refine hK _ _ ?_);clear hK K));with_reducible refine hK _ _ ?_;clear hK K))
    refine (bchars_c h1 hok t.text ht.2.1 hO.txt).mono ?_
    rintro v w2 ⟨h2, hu2⟩
    (repeat first|(with_reducible first|(refine hK _ _ ?_;clear hK K)|refine ‹∀σ w,_→K σ w› _ _ ?_|(refine W_st ?_;constructor;try intro K hK))|((with_reducible first|refine hZ _ _ ?_|refine W_rg ?_|skip);repeat1' simp only[push_cast,seval,-Nat.reduceSubDiff])|((repeat((fail_if_success with_reducible refine hK _ _ ?_);clear hK K));with_reducible refine hK _ _ ?_;clear hK K))
    exact ⟨by rw [hr], by rw [hr]; exact h2, Upd.trans (hx1.upd) hu2 fun _ _ h => h⟩
  have k7' := eq_false k7
  by_cases k6 : t.kind = 6
  · have k6' := eq_true k6
    rw [if_pos (.inr (.inr k6))] at hr
    (repeat first|(with_reducible first|(refine hK _ _ ?_;clear hK K)|refine ‹∀σ w,_→K σ w› _ _ ?_|(refine W_st ?_;constructor;try intro K hK))|((with_reducible first|refine hZ _ _ ?_|refine W_rg ?_|skip);repeat1' simp only[push_cast,seval,-Nat.reduceSubDiff,cell_h,cellO_cells,hp1,k5',k7',k6'])|((repeat((fail_if_success with_reducible refine hK _ _ ?_);clear hK K));with_reducible refine hK _ _ ?_;clear hK K))
    refine (bchars_c h1 hok t.text ht.2.1 hO.txt).mono ?_
    rintro v w2 ⟨h2, hu2⟩
    (repeat first|(with_reducible first|(refine hK _ _ ?_;clear hK K)|refine ‹∀σ w,_→K σ w› _ _ ?_|(refine W_st ?_;constructor;try intro K hK))|((with_reducible first|refine hZ _ _ ?_|refine W_rg ?_|skip);repeat1' simp only[push_cast,seval,-Nat.reduceSubDiff])|((repeat((fail_if_success with_reducible refine hK _ _ ?_);clear hK K));with_reducible refine hK _ _ ?_;clear hK K))
    exact ⟨by rw [hr], by rw [hr]; exact h2, Upd.trans (hx1.upd) hu2 fun _ _ h => h⟩
  have k6' := eq_false k6
  rw [if_neg (fun h => by rcases h with h | h | h <;> first | exact k5 h | exact k7 h | exact k6 h)] at hr
  (repeat first|(with_reducible first|(refine hK _ _ ?_;clear hK K)|refine ‹∀σ w,_→K σ w› _ _ ?_|(refine W_st ?_;constructor;try intro K hK))|((with_reducible first|refine hZ _ _ ?_|refine W_rg ?_|skip);repeat1' simp only[push_cast,seval,-Nat.reduceSubDiff,cell_h,cellO_cells,hp1,k5',k7',k6'])|((repeat((fail_if_success with_reducible refine hK _ _ ?_);clear hK K));with_reducible refine hK _ _ ?_;clear hK K))
  have lp1 := blk_lt hp1
  have hd : BuAt w0 w1 (fun q => Q q ∨ q = p) pb ps pl pa b := h.more hx1 fun q hq => by
    rcases hq with hq | hq
    · exact .inl hq
    · exact .inr ⟨by omega, by omega⟩
  have hQd : ∀ q, (Q q ∨ q = p) → q < w1.heap.size := by
    intro q hq
    have := hx1.sz
    rcases hq with hq | hq
    · have := hQl q hq; omega
    · omega
  refine (bstack_c hd).mono ?_
  intro v w' ⟨hv, hw⟩
  subst hv; subst w'
  (repeat first|(with_reducible first|(refine hK _ _ ?_;clear hK K)|refine ‹∀σ w,_→K σ w› _ _ ?_|(refine W_st ?_;constructor;try intro K hK))|((with_reducible first|refine hZ _ _ ?_|refine W_rg ?_|skip);repeat1' simp only[push_cast,seval,-Nat.reduceSubDiff])|((repeat((fail_if_success with_reducible refine hK _ _ ?_);clear hK K));with_reducible refine hK _ _ ?_;clear hK K))
  refine (bpop_c hd hok).mono ?_
  rintro v w2 ⟨rfl, h2, g2⟩
  have hp2 := (g2.same p lp1 (fun hf => hf.2 (.inr rfl))).trans hp1
  have lp2 := blk_lt hp2
  have hu2 : Upd (AF w0 Q) w1 w2 := g2.mono fun q _ hf => ⟨hf.1, fun hq => hf.2 (.inl hq)⟩
  (repeat first|(with_reducible first|(refine hK _ _ ?_;clear hK K)|refine ‹∀σ w,_→K σ w› _ _ ?_|(refine W_st ?_;constructor;try intro K hK))|((with_reducible first|refine hZ _ _ ?_|refine W_rg ?_|skip);repeat1' simp only[push_cast,seval,-Nat.reduceSubDiff])|((repeat((fail_if_success with_reducible refine hK _ _ ?_);clear hK K));with_reducible refine hK _ _ ?_;clear hK K))
  refine (bback_c h2).mono ?_
  intro v w' ⟨hv, hw⟩
  subst hv; subst w'
  (repeat first|(with_reducible first|(refine hK _ _ ?_;clear hK K)|refine ‹∀σ w,_→K σ w› _ _ ?_|(refine W_st ?_;constructor;try intro K hK))|((with_reducible first|refine hZ _ _ ?_|refine W_rg ?_|skip);repeat1' simp only[push_cast,seval,-Nat.reduceSubDiff])|((repeat((fail_if_success with_reducible refine hK _ _ ?_);clear hK K));with_reducible refine hK _ _ ?_;clear hK K))
  refine (bset_c h2 _).mono ?_
  rintro v w3 ⟨h3', g3⟩
  have hp3 := (g3.same p lp2 (fun hf => hf.2 (.inr rfl))).trans hp2
  have lp3 := blk_lt hp3
  have hu3 : Upd (AF w0 Q) w2 w3 := g3.mono fun q _ hf => ⟨hf.1, fun hq => hf.2 (.inl hq)⟩
  have h3 : BuAt w0 w3 Q pb ps pl pa (modeB (popS b) b.back) := h3'.less fun q hq => .inl hq
  (repeat first|(with_reducible first|(refine hK _ _ ?_;clear hK K)|refine ‹∀σ w,_→K σ w› _ _ ?_|(refine W_st ?_;constructor;try intro K hK))|((with_reducible first|refine hZ _ _ ?_|refine W_rg ?_|skip);repeat1' simp only[push_cast,seval,-Nat.reduceSubDiff,cell_h,cellO_cells,hp3])|((repeat((fail_if_success with_reducible refine hK _ _ ?_);clear hK K));with_reducible refine hK _ _ ?_;clear hK K))
  exact ⟨by rw [hr], by rw [hr]; exact h3, Upd.trans (Upd.trans (hx1.upd) hu2 fun _ _ h => h) hu3 fun _ _ h => h⟩
theorem noscript_c (h : BuAt w0 w Q pb ps pl pa b) (hO : HdO 5 b) (hg : GB w0) (hM : MaxAt w0) (hQl : ∀ q, Q q → q < w.heap.size) {t : HTok} {av : Value} (ha0 : RdAt w0 2 av (attrCells t.attrs)) (ht : SmT t) :
    Gives Tryz.prog 291 #[.pointer (some ⟨pb, 0, none⟩), .agg (t.row av)] w fun v w' => v = .bool (nosH b t).2 ∧ BuAt w0 w' Q pb ps pl pa (nosH b t).1 ∧ Upd (AF w0 Q) w w' := by
  have ha := ha0.ext h.out
  obtain ⟨xa, xn, xc, eav, _⟩ := id ha
  subst eav
  have hrow : t.row (.slice xa xn xc) = #[.int .i64 t.kind, .string t.name, .string t.text, .slice xa xn xc, .bool t.dup, .bool t.self, .bool t.quirks, .int .i64 t.frm, .int .i64 t.to] := rfl
  have hx := Ext.alloc w (.cells (t.row (.slice xa xn xc)) 37)
  have hp : (w.alloc (.cells (t.row (.slice xa xn xc)) 37)).heap[w.heap.size]? = some (.cells (t.row (.slice xa xn xc)) 37 (0, 0)) := by rw [heap_alloc_h, if_pos rfl]
  obtain ⟨r, hr⟩ : ∃ r, r = nosH b t := ⟨_, rfl⟩
  rw [← hr]
  unfold nosH at hr
  have hL := hO.L
  have hok := hO.ok
  refine Gives.of_W Tryz.call291 Tryz.func291 rfl Tryz.ntmps291 (by simp) ?_; intro Z hZ
  (repeat first|(with_reducible first|(refine hK _ _ ?_;clear hK K)|refine ‹∀σ w,_→K σ w› _ _ ?_|(refine W_st ?_;constructor;try intro K hK))|((with_reducible first|refine hZ _ _ ?_|refine W_rg ?_|skip);repeat1' simp only[push_cast,seval,-Nat.reduceSubDiff,vcells_agg])|((repeat((fail_if_success with_reducible refine hK _ _ ?_);clear hK K));with_reducible refine hK _ _ ?_;clear hK K))
  generalize w.alloc (.cells (t.row (.slice xa xn xc)) 37) = w1 at *
  obtain ⟨p, hpe⟩ : ∃ p, p = w.heap.size := ⟨_, rfl⟩
  rw [← hpe] at hp ⊢
  rw [hrow] at hp
  have h1 := h.pass hx
  have hx1 := hx
  have hp1 := hp
  by_cases k1 : t.kind = 1
  · have k1' := eq_true k1
    rw [if_pos (.inl k1)] at hr
    (repeat first|(with_reducible first|(refine hK _ _ ?_;clear hK K)|refine ‹∀σ w,_→K σ w› _ _ ?_|(refine W_st ?_;constructor;try intro K hK))|((with_reducible first|refine hZ _ _ ?_|refine W_rg ?_|skip);repeat1' simp only[push_cast,seval,-Nat.reduceSubDiff,cell_h,cellO_cells,hp1,k1'])|((repeat((fail_if_success with_reducible refine hK _ _ ?_);clear hK K));with_reducible refine hK _ _ ?_;clear hK K))
    exact ⟨by rw [hr], by rw [hr]; exact h1, hx1.upd⟩
  have k1' := eq_false k1
  (repeat first|(with_reducible first|(refine hK _ _ ?_;clear hK K)|refine ‹∀σ w,_→K σ w› _ _ ?_|(refine W_st ?_;constructor;try intro K hK))|((with_reducible first|refine hZ _ _ ?_|refine W_rg ?_|skip);repeat1' simp only[push_cast,seval,-Nat.reduceSubDiff,cell_h,cellO_cells,hp1,k1'])|((repeat((fail_if_success with_reducible refine hK _ _ ?_);clear hK K));with_reducible refine hK _ _ ?_;clear hK K))
  refine bsl (l := lHN) rfl (by decide) (by decide) (by kernel_rfl) ?_
  rintro v w2 hy2 hn2 ⟨bn2, rfl⟩
  (repeat first|(with_reducible first|(refine hK _ _ ?_;clear hK K)|refine ‹∀σ w,_→K σ w› _ _ ?_|(refine W_st ?_;constructor;try intro K hK))|((with_reducible first|refine hZ _ _ ?_|refine W_rg ?_|skip);repeat1' simp only[push_cast,seval,-Nat.reduceSubDiff])|((repeat((fail_if_success with_reducible refine hK _ _ ?_);clear hK K));with_reducible refine hK _ _ ?_;clear hK K))
  rw [← hrow]
  refine (hstart_c hn2 (by decide)).mono ?_
  rintro v w3 ⟨rfl, hy3⟩
  have hx3 := (hx1.trans hy2).trans hy3
  have hp3 := (hy2.trans hy3).blk hp1
  have h3 := h1.pass (hy2.trans hy3)
  by_cases s1 : startT t lHN = true
  · rw [if_pos (.inr s1)] at hr
    (repeat first|(with_reducible first|(refine hK _ _ ?_;clear hK K)|refine ‹∀σ w,_→K σ w› _ _ ?_|(refine W_st ?_;constructor;try intro K hK))|((with_reducible first|refine hZ _ _ ?_|refine W_rg ?_|skip);repeat1' simp only[push_cast,seval,-Nat.reduceSubDiff,cell_h,cellO_cells,hp3,s1])|((repeat((fail_if_success with_reducible refine hK _ _ ?_);clear hK K));with_reducible refine hK _ _ ?_;clear hK K))
    exact ⟨by rw [hr], by rw [hr]; exact h3, hx3.upd⟩
  rw [if_neg (fun h => h.elim k1 s1)] at hr
  have s1' := eq_false_of_ne_true s1
  have asHead : ∀ wk, Ext w wk → Gives Tryz.prog 61 #[.pointer (some ⟨pb, 0, none⟩), .agg (t.row (.slice xa xn xc))] wk fun v w' => v = .bool (headH b t).2 ∧ BuAt w0 w' Q pb ps pl pa (headH b t).1 ∧ Upd (AF w0 Q) wk w' := fun wk hxk => head_c (h.pass hxk) hO hg hM (fun q hq => by have := hQl q hq; have := hxk.sz; omega) ha0 ht
  by_cases k5 : t.kind = 5
  · have k5' := eq_true k5
    rw [if_pos (.inl k5)] at hr
    (repeat first|(with_reducible first|(refine hK _ _ ?_;clear hK K)|refine ‹∀σ w,_→K σ w› _ _ ?_|(refine W_st ?_;constructor;try intro K hK))|((with_reducible first|refine hZ _ _ ?_|refine W_rg ?_|skip);repeat1' simp only[push_cast,seval,-Nat.reduceSubDiff,cell_h,cellO_cells,hp3,s1',k1',k5'])|((repeat((fail_if_success with_reducible refine hK _ _ ?_);clear hK K));with_reducible refine hK _ _ ?_;clear hK K))
    rw [← hrow]
    refine (asHead w3 hx3).mono ?_
    rintro v w4 ⟨rfl, h4, hu4⟩
    (repeat first|(with_reducible first|(refine hK _ _ ?_;clear hK K)|refine ‹∀σ w,_→K σ w› _ _ ?_|(refine W_st ?_;constructor;try intro K hK))|((with_reducible first|refine hZ _ _ ?_|refine W_rg ?_|skip);repeat1' simp only[push_cast,seval,-Nat.reduceSubDiff])|((repeat((fail_if_success with_reducible refine hK _ _ ?_);clear hK K));with_reducible refine hK _ _ ?_;clear hK K))
    exact ⟨by rw [hr], by rw [hr]; exact h4, Upd.trans (hx3.upd) hu4 fun _ _ h => h⟩
  have k5' := eq_false k5
  by_cases k4 : t.kind = 4
  · have k4' := eq_true k4
    rw [if_pos (.inr (.inl k4))] at hr
    (repeat first|(with_reducible first|(refine hK _ _ ?_;clear hK K)|refine ‹∀σ w,_→K σ w› _ _ ?_|(refine W_st ?_;constructor;try intro K hK))|((with_reducible first|refine hZ _ _ ?_|refine W_rg ?_|skip);repeat1' simp only[push_cast,seval,-Nat.reduceSubDiff,cell_h,cellO_cells,hp3,s1',k1',k5',k4'])|((repeat((fail_if_success with_reducible refine hK _ _ ?_);clear hK K));with_reducible refine hK _ _ ?_;clear hK K))
    rw [← hrow]
    refine (asHead w3 hx3).mono ?_
    rintro v w4 ⟨rfl, h4, hu4⟩
    (repeat first|(with_reducible first|(refine hK _ _ ?_;clear hK K)|refine ‹∀σ w,_→K σ w› _ _ ?_|(refine W_st ?_;constructor;try intro K hK))|((with_reducible first|refine hZ _ _ ?_|refine W_rg ?_|skip);repeat1' simp only[push_cast,seval,-Nat.reduceSubDiff])|((repeat((fail_if_success with_reducible refine hK _ _ ?_);clear hK K));with_reducible refine hK _ _ ?_;clear hK K))
    exact ⟨by rw [hr], by rw [hr]; exact h4, Upd.trans (hx3.upd) hu4 fun _ _ h => h⟩
  have k4' := eq_false k4
  (repeat first|(with_reducible first|(refine hK _ _ ?_;clear hK K)|refine ‹∀σ w,_→K σ w› _ _ ?_|(refine W_st ?_;constructor;try intro K hK))|((with_reducible first|refine hZ _ _ ?_|refine W_rg ?_|skip);repeat1' simp only[push_cast,seval,-Nat.reduceSubDiff,cell_h,cellO_cells,hp3,s1',k1',k5',k4'])|((repeat((fail_if_success with_reducible refine hK _ _ ?_);clear hK K));with_reducible refine hK _ _ ?_;clear hK K))
  refine bsl (l := lNo2) rfl (by decide) (by decide) (by kernel_rfl) ?_
  rintro v w4 hy4 hn4 ⟨bn4, rfl⟩
  (repeat first|(with_reducible first|(refine hK _ _ ?_;clear hK K)|refine ‹∀σ w,_→K σ w› _ _ ?_|(refine W_st ?_;constructor;try intro K hK))|((with_reducible first|refine hZ _ _ ?_|refine W_rg ?_|skip);repeat1' simp only[push_cast,seval,-Nat.reduceSubDiff])|((repeat((fail_if_success with_reducible refine hK _ _ ?_);clear hK K));with_reducible refine hK _ _ ?_;clear hK K))
  rw [← hrow]
  refine (hstart_c hn4 (by decide)).mono ?_
  rintro v w5 ⟨rfl, hy5⟩
  have hx5 := (hx3.trans hy4).trans hy5
  have hp5 := (hy4.trans hy5).blk hp3
  have h5 := h3.pass (hy4.trans hy5)
  by_cases s2 : startT t lNo2 = true
  · rw [if_pos (.inr (.inr s2))] at hr
    (repeat first|(with_reducible first|(refine hK _ _ ?_;clear hK K)|refine ‹∀σ w,_→K σ w› _ _ ?_|(refine W_st ?_;constructor;try intro K hK))|((with_reducible first|refine hZ _ _ ?_|refine W_rg ?_|skip);repeat1' simp only[push_cast,seval,-Nat.reduceSubDiff,cell_h,cellO_cells,hp5,s2])|((repeat((fail_if_success with_reducible refine hK _ _ ?_);clear hK K));with_reducible refine hK _ _ ?_;clear hK K))
    rw [← hrow]
    refine (asHead w5 hx5).mono ?_
    rintro v w6 ⟨rfl, h6, hu6⟩
    (repeat first|(with_reducible first|(refine hK _ _ ?_;clear hK K)|refine ‹∀σ w,_→K σ w› _ _ ?_|(refine W_st ?_;constructor;try intro K hK))|((with_reducible first|refine hZ _ _ ?_|refine W_rg ?_|skip);repeat1' simp only[push_cast,seval,-Nat.reduceSubDiff])|((repeat((fail_if_success with_reducible refine hK _ _ ?_);clear hK K));with_reducible refine hK _ _ ?_;clear hK K))
    exact ⟨by rw [hr], by rw [hr]; exact h6, Upd.trans (hx5.upd) hu6 fun _ _ h => h⟩
  rw [if_neg (fun h => by rcases h with h | h | h <;> first | exact k5 h | exact k4 h | exact s2 h)] at hr
  have s2' := eq_false_of_ne_true s2
  by_cases k3 : t.kind = 3
  · have k3' := eq_true k3
    by_cases n1 : t.name = sNosc
    · rw [if_neg (fun h => h.2.1 n1)] at hr
      have n1' : (t.name = (⟨#[110, 111, 115, 99, 114, 105, 112, 116]⟩ : ByteArray)) = True := eq_true n1
      (repeat first|(with_reducible first|(refine hK _ _ ?_;clear hK K)|refine ‹∀σ w,_→K σ w› _ _ ?_|(refine W_st ?_;constructor;try intro K hK))|((with_reducible first|refine hZ _ _ ?_|refine W_rg ?_|skip);repeat1' simp only[push_cast,seval,-Nat.reduceSubDiff,cell_h,cellO_cells,hp5,s2',k3',n1',ne_eq,not_true_eq_false])|((repeat((fail_if_success with_reducible refine hK _ _ ?_);clear hK K));with_reducible refine hK _ _ ?_;clear hK K))
      have lp5 := blk_lt hp5
      have hd : BuAt w0 w5 (fun q => Q q ∨ q = p) pb ps pl pa b := h.more hx5 fun q hq => by
        rcases hq with hq | hq
        · exact .inl hq
        · exact .inr ⟨by omega, by omega⟩
      have hQd : ∀ q, (Q q ∨ q = p) → q < w5.heap.size := by
        intro q hq
        have := hx5.sz
        rcases hq with hq | hq
        · have := hQl q hq; omega
        · omega
      refine (bstack_c hd).mono ?_
      intro v w' ⟨hv, hw⟩
      subst hv; subst w'
      (repeat first|(with_reducible first|(refine hK _ _ ?_;clear hK K)|refine ‹∀σ w,_→K σ w› _ _ ?_|(refine W_st ?_;constructor;try intro K hK))|((with_reducible first|refine hZ _ _ ?_|refine W_rg ?_|skip);repeat1' simp only[push_cast,seval,-Nat.reduceSubDiff])|((repeat((fail_if_success with_reducible refine hK _ _ ?_);clear hK K));with_reducible refine hK _ _ ?_;clear hK K))
      refine (bpop_c hd hok).mono ?_
      rintro v w6 ⟨rfl, h6, g6⟩
      have hp6 := (g6.same p lp5 (fun hf => hf.2 (.inr rfl))).trans hp5
      have lp6 := blk_lt hp6
      have hu6 : Upd (AF w0 Q) w5 w6 := g6.mono fun q _ hf => ⟨hf.1, fun hq => hf.2 (.inl hq)⟩
      (repeat first|(with_reducible first|(refine hK _ _ ?_;clear hK K)|refine ‹∀σ w,_→K σ w› _ _ ?_|(refine W_st ?_;constructor;try intro K hK))|((with_reducible first|refine hZ _ _ ?_|refine W_rg ?_|skip);repeat1' simp only[push_cast,seval,-Nat.reduceSubDiff])|((repeat((fail_if_success with_reducible refine hK _ _ ?_);clear hK K));with_reducible refine hK _ _ ?_;clear hK K))
      refine (bset_c h6 3).mono ?_
      rintro v w7 ⟨h7', g7⟩
      have hp7 := (g7.same p lp6 (fun hf => hf.2 (.inr rfl))).trans hp6
      have lp7 := blk_lt hp7
      have hu7 : Upd (AF w0 Q) w6 w7 := g7.mono fun q _ hf => ⟨hf.1, fun hq => hf.2 (.inl hq)⟩
      have h7 : BuAt w0 w7 Q pb ps pl pa (modeB (popS b) 3) := h7'.less fun q hq => .inl hq
      (repeat first|(with_reducible first|(refine hK _ _ ?_;clear hK K)|refine ‹∀σ w,_→K σ w› _ _ ?_|(refine W_st ?_;constructor;try intro K hK))|((with_reducible first|refine hZ _ _ ?_|refine W_rg ?_|skip);repeat1' simp only[push_cast,seval,-Nat.reduceSubDiff,cell_h,cellO_cells,hp7])|((repeat((fail_if_success with_reducible refine hK _ _ ?_);clear hK K));with_reducible refine hK _ _ ?_;clear hK K))
      refine bsl (l := lNos) rfl (by decide) (by decide) (by kernel_rfl) ?_
      rintro v w8 hy8 hn8 ⟨bn8, rfl⟩
      (repeat first|(with_reducible first|(refine hK _ _ ?_;clear hK K)|refine ‹∀σ w,_→K σ w› _ _ ?_|(refine W_st ?_;constructor;try intro K hK))|((with_reducible first|refine hZ _ _ ?_|refine W_rg ?_|skip);repeat1' simp only[push_cast,seval,-Nat.reduceSubDiff])|((repeat((fail_if_success with_reducible refine hK _ _ ?_);clear hK K));with_reducible refine hK _ _ ?_;clear hK K))
      rw [← hrow]
      refine (hend_c hn8 (by decide)).mono ?_
      rintro v w9 ⟨rfl, hy9⟩
      (repeat first|(with_reducible first|(refine hK _ _ ?_;clear hK K)|refine ‹∀σ w,_→K σ w› _ _ ?_|(refine W_st ?_;constructor;try intro K hK))|((with_reducible first|refine hZ _ _ ?_|refine W_rg ?_|skip);repeat1' simp only[push_cast,seval,-Nat.reduceSubDiff])|((repeat((fail_if_success with_reducible refine hK _ _ ?_);clear hK K));with_reducible refine hK _ _ ?_;clear hK K))
      exact ⟨by rw [hr], by rw [hr]; exact h7.pass (hy8.trans hy9), Upd.trans (Upd.trans (Upd.trans hx5.upd hu6 fun _ _ h => h) hu7 fun _ _ h => h) (hy8.trans hy9).upd fun _ _ h => h⟩
    have n1' : (t.name = (⟨#[110, 111, 115, 99, 114, 105, 112, 116]⟩ : ByteArray)) = False := eq_false n1
    by_cases n2 : t.name = sBr
    · rw [if_neg (fun h => h.2.2 n2)] at hr
      have n2' : (t.name = (⟨#[98, 114]⟩ : ByteArray)) = True := eq_true n2
      (repeat first|(with_reducible first|(refine hK _ _ ?_;clear hK K)|refine ‹∀σ w,_→K σ w› _ _ ?_|(refine W_st ?_;constructor;try intro K hK))|((with_reducible first|refine hZ _ _ ?_|refine W_rg ?_|skip);repeat1' simp only[push_cast,seval,-Nat.reduceSubDiff,cell_h,cellO_cells,hp5,s2',k3',n1',n2',ne_eq,not_true_eq_false,not_false_eq_true])|((repeat((fail_if_success with_reducible refine hK _ _ ?_);clear hK K));with_reducible refine hK _ _ ?_;clear hK K))
      have lp5 := blk_lt hp5
      have hd : BuAt w0 w5 (fun q => Q q ∨ q = p) pb ps pl pa b := h.more hx5 fun q hq => by
        rcases hq with hq | hq
        · exact .inl hq
        · exact .inr ⟨by omega, by omega⟩
      have hQd : ∀ q, (Q q ∨ q = p) → q < w5.heap.size := by
        intro q hq
        have := hx5.sz
        rcases hq with hq | hq
        · have := hQl q hq; omega
        · omega
      refine (bstack_c hd).mono ?_
      intro v w' ⟨hv, hw⟩
      subst hv; subst w'
      (repeat first|(with_reducible first|(refine hK _ _ ?_;clear hK K)|refine ‹∀σ w,_→K σ w› _ _ ?_|(refine W_st ?_;constructor;try intro K hK))|((with_reducible first|refine hZ _ _ ?_|refine W_rg ?_|skip);repeat1' simp only[push_cast,seval,-Nat.reduceSubDiff])|((repeat((fail_if_success with_reducible refine hK _ _ ?_);clear hK K));with_reducible refine hK _ _ ?_;clear hK K))
      refine (bpop_c hd hok).mono ?_
      rintro v w6 ⟨rfl, h6, g6⟩
      have hp6 := (g6.same p lp5 (fun hf => hf.2 (.inr rfl))).trans hp5
      have lp6 := blk_lt hp6
      have hu6 : Upd (AF w0 Q) w5 w6 := g6.mono fun q _ hf => ⟨hf.1, fun hq => hf.2 (.inl hq)⟩
      (repeat first|(with_reducible first|(refine hK _ _ ?_;clear hK K)|refine ‹∀σ w,_→K σ w› _ _ ?_|(refine W_st ?_;constructor;try intro K hK))|((with_reducible first|refine hZ _ _ ?_|refine W_rg ?_|skip);repeat1' simp only[push_cast,seval,-Nat.reduceSubDiff])|((repeat((fail_if_success with_reducible refine hK _ _ ?_);clear hK K));with_reducible refine hK _ _ ?_;clear hK K))
      refine (bset_c h6 3).mono ?_
      rintro v w7 ⟨h7', g7⟩
      have hp7 := (g7.same p lp6 (fun hf => hf.2 (.inr rfl))).trans hp6
      have lp7 := blk_lt hp7
      have hu7 : Upd (AF w0 Q) w6 w7 := g7.mono fun q _ hf => ⟨hf.1, fun hq => hf.2 (.inl hq)⟩
      have h7 : BuAt w0 w7 Q pb ps pl pa (modeB (popS b) 3) := h7'.less fun q hq => .inl hq
      (repeat first|(with_reducible first|(refine hK _ _ ?_;clear hK K)|refine ‹∀σ w,_→K σ w› _ _ ?_|(refine W_st ?_;constructor;try intro K hK))|((with_reducible first|refine hZ _ _ ?_|refine W_rg ?_|skip);repeat1' simp only[push_cast,seval,-Nat.reduceSubDiff,cell_h,cellO_cells,hp7])|((repeat((fail_if_success with_reducible refine hK _ _ ?_);clear hK K));with_reducible refine hK _ _ ?_;clear hK K))
      refine bsl (l := lNos) rfl (by decide) (by decide) (by kernel_rfl) ?_
      rintro v w8 hy8 hn8 ⟨bn8, rfl⟩
      (repeat first|(with_reducible first|(refine hK _ _ ?_;clear hK K)|refine ‹∀σ w,_→K σ w› _ _ ?_|(refine W_st ?_;constructor;try intro K hK))|((with_reducible first|refine hZ _ _ ?_|refine W_rg ?_|skip);repeat1' simp only[push_cast,seval,-Nat.reduceSubDiff])|((repeat((fail_if_success with_reducible refine hK _ _ ?_);clear hK K));with_reducible refine hK _ _ ?_;clear hK K))
      rw [← hrow]
      refine (hend_c hn8 (by decide)).mono ?_
      rintro v w9 ⟨rfl, hy9⟩
      (repeat first|(with_reducible first|(refine hK _ _ ?_;clear hK K)|refine ‹∀σ w,_→K σ w› _ _ ?_|(refine W_st ?_;constructor;try intro K hK))|((with_reducible first|refine hZ _ _ ?_|refine W_rg ?_|skip);repeat1' simp only[push_cast,seval,-Nat.reduceSubDiff])|((repeat((fail_if_success with_reducible refine hK _ _ ?_);clear hK K));with_reducible refine hK _ _ ?_;clear hK K))
      exact ⟨by rw [hr], by rw [hr]; exact h7.pass (hy8.trans hy9), Upd.trans (Upd.trans (Upd.trans hx5.upd hu6 fun _ _ h => h) hu7 fun _ _ h => h) (hy8.trans hy9).upd fun _ _ h => h⟩
    have n2' : (t.name = (⟨#[98, 114]⟩ : ByteArray)) = False := eq_false n2
    rw [if_pos ⟨k3, n1, n2⟩] at hr
    (repeat first|(with_reducible first|(refine hK _ _ ?_;clear hK K)|refine ‹∀σ w,_→K σ w› _ _ ?_|(refine W_st ?_;constructor;try intro K hK))|((with_reducible first|refine hZ _ _ ?_|refine W_rg ?_|skip);repeat1' simp only[push_cast,seval,-Nat.reduceSubDiff,cell_h,cellO_cells,hp5,s2',k3',n1',n2',ne_eq,not_false_eq_true])|((repeat((fail_if_success with_reducible refine hK _ _ ?_);clear hK K));with_reducible refine hK _ _ ?_;clear hK K))
    exact ⟨by rw [hr], by rw [hr]; exact h5, hx5.upd⟩
  have k3' := eq_false k3
  rw [if_neg (fun h => k3 h.1)] at hr
  (repeat first|(with_reducible first|(refine hK _ _ ?_;clear hK K)|refine ‹∀σ w,_→K σ w› _ _ ?_|(refine W_st ?_;constructor;try intro K hK))|((with_reducible first|refine hZ _ _ ?_|refine W_rg ?_|skip);repeat1' simp only[push_cast,seval,-Nat.reduceSubDiff,cell_h,cellO_cells,hp5,s2',k3'])|((repeat((fail_if_success with_reducible refine hK _ _ ?_);clear hK K));with_reducible refine hK _ _ ?_;clear hK K))
  have lp5 := blk_lt hp5
  have hd : BuAt w0 w5 (fun q => Q q ∨ q = p) pb ps pl pa b := h.more hx5 fun q hq => by
    rcases hq with hq | hq
    · exact .inl hq
    · exact .inr ⟨by omega, by omega⟩
  have hQd : ∀ q, (Q q ∨ q = p) → q < w5.heap.size := by
    intro q hq
    have := hx5.sz
    rcases hq with hq | hq
    · have := hQl q hq; omega
    · omega
  refine (bstack_c hd).mono ?_
  intro v w' ⟨hv, hw⟩
  subst hv; subst w'
  (repeat first|(with_reducible first|(refine hK _ _ ?_;clear hK K)|refine ‹∀σ w,_→K σ w› _ _ ?_|(refine W_st ?_;constructor;try intro K hK))|((with_reducible first|refine hZ _ _ ?_|refine W_rg ?_|skip);repeat1' simp only[push_cast,seval,-Nat.reduceSubDiff])|((repeat((fail_if_success with_reducible refine hK _ _ ?_);clear hK K));with_reducible refine hK _ _ ?_;clear hK K))
  refine (bpop_c hd hok).mono ?_
  rintro v w6 ⟨rfl, h6, g6⟩
  have hp6 := (g6.same p lp5 (fun hf => hf.2 (.inr rfl))).trans hp5
  have lp6 := blk_lt hp6
  have hu6 : Upd (AF w0 Q) w5 w6 := g6.mono fun q _ hf => ⟨hf.1, fun hq => hf.2 (.inl hq)⟩
  (repeat first|(with_reducible first|(refine hK _ _ ?_;clear hK K)|refine ‹∀σ w,_→K σ w› _ _ ?_|(refine W_st ?_;constructor;try intro K hK))|((with_reducible first|refine hZ _ _ ?_|refine W_rg ?_|skip);repeat1' simp only[push_cast,seval,-Nat.reduceSubDiff])|((repeat((fail_if_success with_reducible refine hK _ _ ?_);clear hK K));with_reducible refine hK _ _ ?_;clear hK K))
  refine (bset_c h6 3).mono ?_
  rintro v w7 ⟨h7', g7⟩
  have hp7 := (g7.same p lp6 (fun hf => hf.2 (.inr rfl))).trans hp6
  have lp7 := blk_lt hp7
  have hu7 : Upd (AF w0 Q) w6 w7 := g7.mono fun q _ hf => ⟨hf.1, fun hq => hf.2 (.inl hq)⟩
  have h7 : BuAt w0 w7 Q pb ps pl pa (modeB (popS b) 3) := h7'.less fun q hq => .inl hq
  (repeat first|(with_reducible first|(refine hK _ _ ?_;clear hK K)|refine ‹∀σ w,_→K σ w› _ _ ?_|(refine W_st ?_;constructor;try intro K hK))|((with_reducible first|refine hZ _ _ ?_|refine W_rg ?_|skip);repeat1' simp only[push_cast,seval,-Nat.reduceSubDiff,cell_h,cellO_cells,hp7])|((repeat((fail_if_success with_reducible refine hK _ _ ?_);clear hK K));with_reducible refine hK _ _ ?_;clear hK K))
  refine bsl (l := lNos) rfl (by decide) (by decide) (by kernel_rfl) ?_
  rintro v w8 hy8 hn8 ⟨bn8, rfl⟩
  (repeat first|(with_reducible first|(refine hK _ _ ?_;clear hK K)|refine ‹∀σ w,_→K σ w› _ _ ?_|(refine W_st ?_;constructor;try intro K hK))|((with_reducible first|refine hZ _ _ ?_|refine W_rg ?_|skip);repeat1' simp only[push_cast,seval,-Nat.reduceSubDiff])|((repeat((fail_if_success with_reducible refine hK _ _ ?_);clear hK K));with_reducible refine hK _ _ ?_;clear hK K))
  rw [← hrow]
  refine (hend_c hn8 (by decide)).mono ?_
  rintro v w9 ⟨rfl, hy9⟩
  (repeat first|(with_reducible first|(refine hK _ _ ?_;clear hK K)|refine ‹∀σ w,_→K σ w› _ _ ?_|(refine W_st ?_;constructor;try intro K hK))|((with_reducible first|refine hZ _ _ ?_|refine W_rg ?_|skip);repeat1' simp only[push_cast,seval,-Nat.reduceSubDiff])|((repeat((fail_if_success with_reducible refine hK _ _ ?_);clear hK K));with_reducible refine hK _ _ ?_;clear hK K))
  exact ⟨by rw [hr], by rw [hr]; exact h7.pass (hy8.trans hy9), Upd.trans (Upd.trans (Upd.trans hx5.upd hu6 fun _ _ h => h) hu7 fun _ _ h => h) (hy8.trans hy9).upd fun _ _ h => h⟩
end
end Go.Proofs.YtgnnlaeikcnhcaaGreatDoor
end
section
set_option linter.unusedSimpArgs false
set_option linter.unusedVariables false
namespace Go.Proofs.YtgnnlaeikcnhcaaGreatDoor
open Go Go.Vk
set_option maxHeartbeats 40000000
section
variable {w0 w : World} {Q : Nat → Prop} {pb ps pl pa : Nat} {b : BSt}
theorem initial_c (h : BuAt w0 w Q pb ps pl pa b) (hO : HdO 5 b) (hg : GB w0) (hM : MaxAt w0) (hQl : ∀ q, Q q → q < w.heap.size) {t : HTok} {av : Value} (ha0 : RdAt w0 2 av (attrCells t.attrs)) (ht : SmT t) :
    Gives Tryz.prog 288 #[.pointer (some ⟨pb, 0, none⟩), .agg (t.row av)] w fun v w' => v = .bool (initH b t).2 ∧ BuAt w0 w' Q pb ps pl pa (initH b t).1 ∧ Upd (AF w0 Q) w w' := by
  have ha := ha0.ext h.out
  obtain ⟨xa, xn, xc, eav, _⟩ := id ha
  subst eav
  have hrow : t.row (.slice xa xn xc) = #[.int .i64 t.kind, .string t.name, .string t.text, .slice xa xn xc, .bool t.dup, .bool t.self, .bool t.quirks, .int .i64 t.frm, .int .i64 t.to] := rfl
  have hx := Ext.alloc w (.cells (t.row (.slice xa xn xc)) 37)
  have hp : (w.alloc (.cells (t.row (.slice xa xn xc)) 37)).heap[w.heap.size]? = some (.cells (t.row (.slice xa xn xc)) 37 (0, 0)) := by rw [heap_alloc_h, if_pos rfl]
  obtain ⟨r, hr⟩ : ∃ r, r = initH b t := ⟨_, rfl⟩
  rw [← hr]
  unfold initH at hr
  have hL := hO.L
  have hok := hO.ok
  refine Gives.of_W Tryz.call288 Tryz.func288 rfl Tryz.ntmps288 (by simp) ?_; intro Z hZ
  (repeat first|(with_reducible first|(refine hK _ _ ?_;clear hK K)|refine ‹∀σ w,_→K σ w› _ _ ?_|(refine W_st ?_;constructor;try intro K hK))|((with_reducible first|refine hZ _ _ ?_|refine W_rg ?_|skip);repeat1' simp only[push_cast,seval,-Nat.reduceSubDiff,vcells_agg])|((repeat((fail_if_success with_reducible refine hK _ _ ?_);clear hK K));with_reducible refine hK _ _ ?_;clear hK K))
  generalize w.alloc (.cells (t.row (.slice xa xn xc)) 37) = w1 at *
  obtain ⟨p, hpe⟩ : ∃ p, p = w.heap.size := ⟨_, rfl⟩
  rw [← hpe] at hp ⊢
  rw [hrow] at hp
  have h1 := h.pass hx
  have hx1 := hx
  have hp1 := hp
  have hval : (Laid.mk (doctN t) (.slice none 0 0) (.slice none 0 0) none none).val = .agg #[.int .i64 2, .string t.name, .string ⟨#[]⟩, .int .i64 0, .slice none 0 0, .bool false, .int .i64 0, .int .i64 0, .slice none 0 0, .int .i64 (-1), .int .i64 (-1)] := by rw [Laid.val_eq]; rfl
  by_cases k5 : t.kind = 5
  · have k5' := eq_true k5
    rw [if_pos k5] at hr
    (repeat first|(with_reducible first|(refine hK _ _ ?_;clear hK K)|refine ‹∀σ w,_→K σ w› _ _ ?_|(refine W_st ?_;constructor;try intro K hK))|((with_reducible first|refine hZ _ _ ?_|refine W_rg ?_|skip);repeat1' simp only[push_cast,seval,-Nat.reduceSubDiff,cell_h,cellO_cells,hp1,k5'])|((repeat((fail_if_success with_reducible refine hK _ _ ?_);clear hK K));with_reducible refine hK _ _ ?_;clear hK K))
    exact ⟨by rw [hr], by rw [hr]; exact h1, hx1.upd⟩
  have k5' := eq_false k5
  rw [if_neg k5] at hr
  by_cases k4 : t.kind = 4
  · have k4' := eq_true k4
    rw [if_pos k4] at hr
    (repeat first|(with_reducible first|(refine hK _ _ ?_;clear hK K)|refine ‹∀σ w,_→K σ w› _ _ ?_|(refine W_st ?_;constructor;try intro K hK))|((with_reducible first|refine hZ _ _ ?_|refine W_rg ?_|skip);repeat1' simp only[push_cast,seval,-Nat.reduceSubDiff,cell_h,cellO_cells,hp1,k5',k4'])|((repeat((fail_if_success with_reducible refine hK _ _ ?_);clear hK K));with_reducible refine hK _ _ ?_;clear hK K))
    rw [← hrow]
    refine (bcomment_c h1 hok (by omega) (fun q hq => by have := hQl q hq; have := hx1.sz; omega) t (0)).mono ?_
    rintro v w2 ⟨h2, hu2⟩
    (repeat first|(with_reducible first|(refine hK _ _ ?_;clear hK K)|refine ‹∀σ w,_→K σ w› _ _ ?_|(refine W_st ?_;constructor;try intro K hK))|((with_reducible first|refine hZ _ _ ?_|refine W_rg ?_|skip);repeat1' simp only[push_cast,seval,-Nat.reduceSubDiff])|((repeat((fail_if_success with_reducible refine hK _ _ ?_);clear hK K));with_reducible refine hK _ _ ?_;clear hK K))
    exact ⟨by rw [hr], by rw [hr]; exact h2, Upd.trans (hx1.upd) hu2 fun _ _ h => h⟩
  have k4' := eq_false k4
  rw [if_neg k4] at hr
  by_cases k1 : t.kind = 1
  · have k1' := eq_true k1
    rw [if_pos k1] at hr
    cases hq : t.quirks
    by_cases n1 : t.name = sHtml
    · have n1' : (t.name = (⟨#[104, 116, 109, 108]⟩ : ByteArray)) = True := eq_true n1
      rw [hq, decide_eq_true n1] at hr
      rw [hq] at hp1
      have lp1 := blk_lt hp1
      have hd : BuAt w0 w1 (fun q => Q q ∨ q = p) pb ps pl pa b := h.more hx1 fun q hq => by
        rcases hq with hq | hq
        · exact .inl hq
        · exact .inr ⟨by omega, by omega⟩
      have hQd : ∀ q, (Q q ∨ q = p) → q < w1.heap.size := by
        intro q hq
        have := hx1.sz
        rcases hq with hq | hq
        · have := hQl q hq; omega
        · omega
      (repeat first|(with_reducible first|(refine hK _ _ ?_;clear hK K)|refine ‹∀σ w,_→K σ w› _ _ ?_|(refine W_st ?_;constructor;try intro K hK))|((with_reducible first|refine hZ _ _ ?_|refine W_rg ?_|skip);repeat1' simp only[push_cast,seval,-Nat.reduceSubDiff,cell_h,cellO_cells,hp1,k5',k4',k1'])|((repeat((fail_if_success with_reducible refine hK _ _ ?_);clear hK K));with_reducible refine hK _ _ ?_;clear hK K))
      refine (barena_c hd).mono ?_
      intro v w' ⟨hv, hw⟩
      subst hv; subst w'
      (repeat first|(with_reducible first|(refine hK _ _ ?_;clear hK K)|refine ‹∀σ w,_→K σ w› _ _ ?_|(refine W_st ?_;constructor;try intro K hK))|((with_reducible first|refine hZ _ _ ?_|refine W_rg ?_|skip);repeat1' simp only[push_cast,seval,-Nat.reduceSubDiff,cell_h,cellO_cells,hp1])|((repeat((fail_if_success with_reducible refine hK _ _ ?_);clear hK K));with_reducible refine hK _ _ ?_;clear hK K))
      refine build_struct Tryz.zeroValue46 un30 pl30 (cs := #[.int .i64 2, .string t.name, .string ⟨#[]⟩, .int .i64 0, .slice none 0 0, .bool false, .int .i64 0, .int .i64 0, .slice none 0 0, .int .i64 (-1), .int .i64 (-1)]) (by rfl) ?_
      (repeat first|(with_reducible first|(refine hK _ _ ?_;clear hK K)|refine ‹∀σ w,_→K σ w› _ _ ?_|(refine W_st ?_;constructor;try intro K hK))|((with_reducible first|refine hZ _ _ ?_|refine W_rg ?_|skip);repeat1' simp only[push_cast,seval,-Nat.reduceSubDiff])|((repeat((fail_if_success with_reducible refine hK _ _ ?_);clear hK K));with_reducible refine hK _ _ ?_;clear hK K))
      rw [← hval]
      refine (badd_c hd hok (m := Laid.mk (doctN t) (.slice none 0 0) (.slice none 0 0) none none) (SlAt.nil _ _).rd (show (0 : Nat) < 1000000 by decide)).mono ?_
      rintro v w2 ⟨rfl, h2, g2⟩
      have hp2 := (g2.same p lp1 (fun hf => hf.2 (.inr rfl))).trans hp1
      have lp2 := blk_lt hp2
      have hu2 : Upd (AF w0 Q) w1 w2 := g2.mono fun q _ hf => ⟨hf.1, fun hq => hf.2 (.inl hq)⟩
      have hb2 : okB (addB b (doctN t)) := hok.add (by omega) (show (0 : Nat) < 1000000 by decide)
      (repeat first|(with_reducible first|(refine hK _ _ ?_;clear hK K)|refine ‹∀σ w,_→K σ w› _ _ ?_|(refine W_st ?_;constructor;try intro K hK))|((with_reducible first|refine hZ _ _ ?_|refine W_rg ?_|skip);repeat1' simp only[push_cast,seval,-Nat.reduceSubDiff])|((repeat((fail_if_success with_reducible refine hK _ _ ?_);clear hK K));with_reducible refine hK _ _ ?_;clear hK K))
      refine (bappend_c h2 hb2 0 _).mono ?_
      rintro v w3 ⟨rfl, h3, g3⟩
      have hp3 := (g3.same p lp2 (fun hf => hf.2 (.inr rfl))).trans hp2
      have lp3 := blk_lt hp3
      have hu3 : Upd (AF w0 Q) w2 w3 := g3.mono fun q _ hf => ⟨hf.1, fun hq => hf.2 (.inl hq)⟩
      (repeat first|(with_reducible first|(refine hK _ _ ?_;clear hK K)|refine ‹∀σ w,_→K σ w› _ _ ?_|(refine W_st ?_;constructor;try intro K hK))|((with_reducible first|refine hZ _ _ ?_|refine W_rg ?_|skip);repeat1' simp only[push_cast,seval,-Nat.reduceSubDiff,cell_h,cellO_cells,hp3,n1',ne_eq,not_true_eq_false])|((repeat((fail_if_success with_reducible refine hK _ _ ?_);clear hK K));with_reducible refine hK _ _ ?_;clear hK K))
      refine (bsetquirks_c h3 _).mono ?_
      rintro v w4 ⟨h4, g4⟩
      have hp4 := (g4.same p lp3 (fun hf => hf.2 (.inr rfl))).trans hp3
      have lp4 := blk_lt hp4
      have hu4 : Upd (AF w0 Q) w3 w4 := g4.mono fun q _ hf => ⟨hf.1, fun hq => hf.2 (.inl hq)⟩
      (repeat first|(with_reducible first|(refine hK _ _ ?_;clear hK K)|refine ‹∀σ w,_→K σ w› _ _ ?_|(refine W_st ?_;constructor;try intro K hK))|((with_reducible first|refine hZ _ _ ?_|refine W_rg ?_|skip);repeat1' simp only[push_cast,seval,-Nat.reduceSubDiff])|((repeat((fail_if_success with_reducible refine hK _ _ ?_);clear hK K));with_reducible refine hK _ _ ?_;clear hK K))
      refine (bset_c h4 1).mono ?_
      rintro v w5 ⟨h5, g5⟩
      have hp5 := (g5.same p lp4 (fun hf => hf.2 (.inr rfl))).trans hp4
      have lp5 := blk_lt hp5
      have hu5 : Upd (AF w0 Q) w4 w5 := g5.mono fun q _ hf => ⟨hf.1, fun hq => hf.2 (.inl hq)⟩
      (repeat first|(with_reducible first|(refine hK _ _ ?_;clear hK K)|refine ‹∀σ w,_→K σ w› _ _ ?_|(refine W_st ?_;constructor;try intro K hK))|((with_reducible first|refine hZ _ _ ?_|refine W_rg ?_|skip);repeat1' simp only[push_cast,seval,-Nat.reduceSubDiff])|((repeat((fail_if_success with_reducible refine hK _ _ ?_);clear hK K));with_reducible refine hK _ _ ?_;clear hK K))
      exact ⟨by rw [hr], by rw [hr]; exact h5.less fun q hq => .inl hq, Upd.trans (Upd.trans (Upd.trans (Upd.trans hx1.upd hu2 fun _ _ h => h) hu3 fun _ _ h => h) hu4 fun _ _ h => h) hu5 fun _ _ h => h⟩
    · have n1' : (t.name = (⟨#[104, 116, 109, 108]⟩ : ByteArray)) = False := eq_false n1
      rw [hq, decide_eq_false n1] at hr
      rw [hq] at hp1
      have lp1 := blk_lt hp1
      have hd : BuAt w0 w1 (fun q => Q q ∨ q = p) pb ps pl pa b := h.more hx1 fun q hq => by
        rcases hq with hq | hq
        · exact .inl hq
        · exact .inr ⟨by omega, by omega⟩
      have hQd : ∀ q, (Q q ∨ q = p) → q < w1.heap.size := by
        intro q hq
        have := hx1.sz
        rcases hq with hq | hq
        · have := hQl q hq; omega
        · omega
      (repeat first|(with_reducible first|(refine hK _ _ ?_;clear hK K)|refine ‹∀σ w,_→K σ w› _ _ ?_|(refine W_st ?_;constructor;try intro K hK))|((with_reducible first|refine hZ _ _ ?_|refine W_rg ?_|skip);repeat1' simp only[push_cast,seval,-Nat.reduceSubDiff,cell_h,cellO_cells,hp1,k5',k4',k1'])|((repeat((fail_if_success with_reducible refine hK _ _ ?_);clear hK K));with_reducible refine hK _ _ ?_;clear hK K))
      refine (barena_c hd).mono ?_
      intro v w' ⟨hv, hw⟩
      subst hv; subst w'
      (repeat first|(with_reducible first|(refine hK _ _ ?_;clear hK K)|refine ‹∀σ w,_→K σ w› _ _ ?_|(refine W_st ?_;constructor;try intro K hK))|((with_reducible first|refine hZ _ _ ?_|refine W_rg ?_|skip);repeat1' simp only[push_cast,seval,-Nat.reduceSubDiff,cell_h,cellO_cells,hp1])|((repeat((fail_if_success with_reducible refine hK _ _ ?_);clear hK K));with_reducible refine hK _ _ ?_;clear hK K))
      refine build_struct Tryz.zeroValue46 un30 pl30 (cs := #[.int .i64 2, .string t.name, .string ⟨#[]⟩, .int .i64 0, .slice none 0 0, .bool false, .int .i64 0, .int .i64 0, .slice none 0 0, .int .i64 (-1), .int .i64 (-1)]) (by rfl) ?_
      (repeat first|(with_reducible first|(refine hK _ _ ?_;clear hK K)|refine ‹∀σ w,_→K σ w› _ _ ?_|(refine W_st ?_;constructor;try intro K hK))|((with_reducible first|refine hZ _ _ ?_|refine W_rg ?_|skip);repeat1' simp only[push_cast,seval,-Nat.reduceSubDiff])|((repeat((fail_if_success with_reducible refine hK _ _ ?_);clear hK K));with_reducible refine hK _ _ ?_;clear hK K))
      rw [← hval]
      refine (badd_c hd hok (m := Laid.mk (doctN t) (.slice none 0 0) (.slice none 0 0) none none) (SlAt.nil _ _).rd (show (0 : Nat) < 1000000 by decide)).mono ?_
      rintro v w2 ⟨rfl, h2, g2⟩
      have hp2 := (g2.same p lp1 (fun hf => hf.2 (.inr rfl))).trans hp1
      have lp2 := blk_lt hp2
      have hu2 : Upd (AF w0 Q) w1 w2 := g2.mono fun q _ hf => ⟨hf.1, fun hq => hf.2 (.inl hq)⟩
      have hb2 : okB (addB b (doctN t)) := hok.add (by omega) (show (0 : Nat) < 1000000 by decide)
      (repeat first|(with_reducible first|(refine hK _ _ ?_;clear hK K)|refine ‹∀σ w,_→K σ w› _ _ ?_|(refine W_st ?_;constructor;try intro K hK))|((with_reducible first|refine hZ _ _ ?_|refine W_rg ?_|skip);repeat1' simp only[push_cast,seval,-Nat.reduceSubDiff])|((repeat((fail_if_success with_reducible refine hK _ _ ?_);clear hK K));with_reducible refine hK _ _ ?_;clear hK K))
      refine (bappend_c h2 hb2 0 _).mono ?_
      rintro v w3 ⟨rfl, h3, g3⟩
      have hp3 := (g3.same p lp2 (fun hf => hf.2 (.inr rfl))).trans hp2
      have lp3 := blk_lt hp3
      have hu3 : Upd (AF w0 Q) w2 w3 := g3.mono fun q _ hf => ⟨hf.1, fun hq => hf.2 (.inl hq)⟩
      (repeat first|(with_reducible first|(refine hK _ _ ?_;clear hK K)|refine ‹∀σ w,_→K σ w› _ _ ?_|(refine W_st ?_;constructor;try intro K hK))|((with_reducible first|refine hZ _ _ ?_|refine W_rg ?_|skip);repeat1' simp only[push_cast,seval,-Nat.reduceSubDiff,cell_h,cellO_cells,hp3,n1',ne_eq,not_false_eq_true])|((repeat((fail_if_success with_reducible refine hK _ _ ?_);clear hK K));with_reducible refine hK _ _ ?_;clear hK K))
      refine (bsetquirks_c h3 _).mono ?_
      rintro v w4 ⟨h4, g4⟩
      have hp4 := (g4.same p lp3 (fun hf => hf.2 (.inr rfl))).trans hp3
      have lp4 := blk_lt hp4
      have hu4 : Upd (AF w0 Q) w3 w4 := g4.mono fun q _ hf => ⟨hf.1, fun hq => hf.2 (.inl hq)⟩
      (repeat first|(with_reducible first|(refine hK _ _ ?_;clear hK K)|refine ‹∀σ w,_→K σ w› _ _ ?_|(refine W_st ?_;constructor;try intro K hK))|((with_reducible first|refine hZ _ _ ?_|refine W_rg ?_|skip);repeat1' simp only[push_cast,seval,-Nat.reduceSubDiff])|((repeat((fail_if_success with_reducible refine hK _ _ ?_);clear hK K));with_reducible refine hK _ _ ?_;clear hK K))
      refine (bset_c h4 1).mono ?_
      rintro v w5 ⟨h5, g5⟩
      have hp5 := (g5.same p lp4 (fun hf => hf.2 (.inr rfl))).trans hp4
      have lp5 := blk_lt hp5
      have hu5 : Upd (AF w0 Q) w4 w5 := g5.mono fun q _ hf => ⟨hf.1, fun hq => hf.2 (.inl hq)⟩
      (repeat first|(with_reducible first|(refine hK _ _ ?_;clear hK K)|refine ‹∀σ w,_→K σ w› _ _ ?_|(refine W_st ?_;constructor;try intro K hK))|((with_reducible first|refine hZ _ _ ?_|refine W_rg ?_|skip);repeat1' simp only[push_cast,seval,-Nat.reduceSubDiff])|((repeat((fail_if_success with_reducible refine hK _ _ ?_);clear hK K));with_reducible refine hK _ _ ?_;clear hK K))
      exact ⟨by rw [hr], by rw [hr]; exact h5.less fun q hq => .inl hq, Upd.trans (Upd.trans (Upd.trans (Upd.trans hx1.upd hu2 fun _ _ h => h) hu3 fun _ _ h => h) hu4 fun _ _ h => h) hu5 fun _ _ h => h⟩
    · rw [hq] at hr
      rw [hq] at hp1
      have lp1 := blk_lt hp1
      have hd : BuAt w0 w1 (fun q => Q q ∨ q = p) pb ps pl pa b := h.more hx1 fun q hq => by
        rcases hq with hq | hq
        · exact .inl hq
        · exact .inr ⟨by omega, by omega⟩
      have hQd : ∀ q, (Q q ∨ q = p) → q < w1.heap.size := by
        intro q hq
        have := hx1.sz
        rcases hq with hq | hq
        · have := hQl q hq; omega
        · omega
      (repeat first|(with_reducible first|(refine hK _ _ ?_;clear hK K)|refine ‹∀σ w,_→K σ w› _ _ ?_|(refine W_st ?_;constructor;try intro K hK))|((with_reducible first|refine hZ _ _ ?_|refine W_rg ?_|skip);repeat1' simp only[push_cast,seval,-Nat.reduceSubDiff,cell_h,cellO_cells,hp1,k5',k4',k1'])|((repeat((fail_if_success with_reducible refine hK _ _ ?_);clear hK K));with_reducible refine hK _ _ ?_;clear hK K))
      refine (barena_c hd).mono ?_
      intro v w' ⟨hv, hw⟩
      subst hv; subst w'
      (repeat first|(with_reducible first|(refine hK _ _ ?_;clear hK K)|refine ‹∀σ w,_→K σ w› _ _ ?_|(refine W_st ?_;constructor;try intro K hK))|((with_reducible first|refine hZ _ _ ?_|refine W_rg ?_|skip);repeat1' simp only[push_cast,seval,-Nat.reduceSubDiff,cell_h,cellO_cells,hp1])|((repeat((fail_if_success with_reducible refine hK _ _ ?_);clear hK K));with_reducible refine hK _ _ ?_;clear hK K))
      refine build_struct Tryz.zeroValue46 un30 pl30 (cs := #[.int .i64 2, .string t.name, .string ⟨#[]⟩, .int .i64 0, .slice none 0 0, .bool false, .int .i64 0, .int .i64 0, .slice none 0 0, .int .i64 (-1), .int .i64 (-1)]) (by rfl) ?_
      (repeat first|(with_reducible first|(refine hK _ _ ?_;clear hK K)|refine ‹∀σ w,_→K σ w› _ _ ?_|(refine W_st ?_;constructor;try intro K hK))|((with_reducible first|refine hZ _ _ ?_|refine W_rg ?_|skip);repeat1' simp only[push_cast,seval,-Nat.reduceSubDiff])|((repeat((fail_if_success with_reducible refine hK _ _ ?_);clear hK K));with_reducible refine hK _ _ ?_;clear hK K))
      rw [← hval]
      refine (badd_c hd hok (m := Laid.mk (doctN t) (.slice none 0 0) (.slice none 0 0) none none) (SlAt.nil _ _).rd (show (0 : Nat) < 1000000 by decide)).mono ?_
      rintro v w2 ⟨rfl, h2, g2⟩
      have hp2 := (g2.same p lp1 (fun hf => hf.2 (.inr rfl))).trans hp1
      have lp2 := blk_lt hp2
      have hu2 : Upd (AF w0 Q) w1 w2 := g2.mono fun q _ hf => ⟨hf.1, fun hq => hf.2 (.inl hq)⟩
      have hb2 : okB (addB b (doctN t)) := hok.add (by omega) (show (0 : Nat) < 1000000 by decide)
      (repeat first|(with_reducible first|(refine hK _ _ ?_;clear hK K)|refine ‹∀σ w,_→K σ w› _ _ ?_|(refine W_st ?_;constructor;try intro K hK))|((with_reducible first|refine hZ _ _ ?_|refine W_rg ?_|skip);repeat1' simp only[push_cast,seval,-Nat.reduceSubDiff])|((repeat((fail_if_success with_reducible refine hK _ _ ?_);clear hK K));with_reducible refine hK _ _ ?_;clear hK K))
      refine (bappend_c h2 hb2 0 _).mono ?_
      rintro v w3 ⟨rfl, h3, g3⟩
      have hp3 := (g3.same p lp2 (fun hf => hf.2 (.inr rfl))).trans hp2
      have lp3 := blk_lt hp3
      have hu3 : Upd (AF w0 Q) w2 w3 := g3.mono fun q _ hf => ⟨hf.1, fun hq => hf.2 (.inl hq)⟩
      (repeat first|(with_reducible first|(refine hK _ _ ?_;clear hK K)|refine ‹∀σ w,_→K σ w› _ _ ?_|(refine W_st ?_;constructor;try intro K hK))|((with_reducible first|refine hZ _ _ ?_|refine W_rg ?_|skip);repeat1' simp only[push_cast,seval,-Nat.reduceSubDiff,cell_h,cellO_cells,hp3,Bool.true_or])|((repeat((fail_if_success with_reducible refine hK _ _ ?_);clear hK K));with_reducible refine hK _ _ ?_;clear hK K))
      refine (bsetquirks_c h3 _).mono ?_
      rintro v w4 ⟨h4, g4⟩
      have hp4 := (g4.same p lp3 (fun hf => hf.2 (.inr rfl))).trans hp3
      have lp4 := blk_lt hp4
      have hu4 : Upd (AF w0 Q) w3 w4 := g4.mono fun q _ hf => ⟨hf.1, fun hq => hf.2 (.inl hq)⟩
      (repeat first|(with_reducible first|(refine hK _ _ ?_;clear hK K)|refine ‹∀σ w,_→K σ w› _ _ ?_|(refine W_st ?_;constructor;try intro K hK))|((with_reducible first|refine hZ _ _ ?_|refine W_rg ?_|skip);repeat1' simp only[push_cast,seval,-Nat.reduceSubDiff])|((repeat((fail_if_success with_reducible refine hK _ _ ?_);clear hK K));with_reducible refine hK _ _ ?_;clear hK K))
      refine (bset_c h4 1).mono ?_
      rintro v w5 ⟨h5, g5⟩
      have hp5 := (g5.same p lp4 (fun hf => hf.2 (.inr rfl))).trans hp4
      have lp5 := blk_lt hp5
      have hu5 : Upd (AF w0 Q) w4 w5 := g5.mono fun q _ hf => ⟨hf.1, fun hq => hf.2 (.inl hq)⟩
      (repeat first|(with_reducible first|(refine hK _ _ ?_;clear hK K)|refine ‹∀σ w,_→K σ w› _ _ ?_|(refine W_st ?_;constructor;try intro K hK))|((with_reducible first|refine hZ _ _ ?_|refine W_rg ?_|skip);repeat1' simp only[push_cast,seval,-Nat.reduceSubDiff])|((repeat((fail_if_success with_reducible refine hK _ _ ?_);clear hK K));with_reducible refine hK _ _ ?_;clear hK K))
      exact ⟨by rw [hr], by rw [hr]; exact h5.less fun q hq => .inl hq, Upd.trans (Upd.trans (Upd.trans (Upd.trans hx1.upd hu2 fun _ _ h => h) hu3 fun _ _ h => h) hu4 fun _ _ h => h) hu5 fun _ _ h => h⟩
  have k1' := eq_false k1
  rw [if_neg k1] at hr
  (repeat first|(with_reducible first|(refine hK _ _ ?_;clear hK K)|refine ‹∀σ w,_→K σ w› _ _ ?_|(refine W_st ?_;constructor;try intro K hK))|((with_reducible first|refine hZ _ _ ?_|refine W_rg ?_|skip);repeat1' simp only[push_cast,seval,-Nat.reduceSubDiff,cell_h,cellO_cells,hp1,k5',k4',k1'])|((repeat((fail_if_success with_reducible refine hK _ _ ?_);clear hK K));with_reducible refine hK _ _ ?_;clear hK K))
  refine (bsetquirks_c h1 true).mono ?_
  rintro v w2 ⟨h2, hu2⟩
  (repeat first|(with_reducible first|(refine hK _ _ ?_;clear hK K)|refine ‹∀σ w,_→K σ w› _ _ ?_|(refine W_st ?_;constructor;try intro K hK))|((with_reducible first|refine hZ _ _ ?_|refine W_rg ?_|skip);repeat1' simp only[push_cast,seval,-Nat.reduceSubDiff])|((repeat((fail_if_success with_reducible refine hK _ _ ?_);clear hK K));with_reducible refine hK _ _ ?_;clear hK K))
  refine (bset_c h2 1).mono ?_
  rintro v w3 ⟨h3, hu3⟩
  (repeat first|(with_reducible first|(refine hK _ _ ?_;clear hK K)|refine ‹∀σ w,_→K σ w› _ _ ?_|(refine W_st ?_;constructor;try intro K hK))|((with_reducible first|refine hZ _ _ ?_|refine W_rg ?_|skip);repeat1' simp only[push_cast,seval,-Nat.reduceSubDiff])|((repeat((fail_if_success with_reducible refine hK _ _ ?_);clear hK K));with_reducible refine hK _ _ ?_;clear hK K))
  exact ⟨by rw [hr], by rw [hr]; exact h3, Upd.trans (Upd.trans (hx1.upd) hu2 fun _ _ h => h) hu3 fun _ _ h => h⟩
end
end Go.Proofs.YtgnnlaeikcnhcaaGreatDoor
end
section
set_option linter.unusedSimpArgs false
set_option linter.unusedVariables false
namespace Go.Vk
open Go Go.Proofs.YtgnnlaeikcnhcaaGreatDoor
section
variable {b : BSt} {m : Nat}
theorem resetN_of (b : BSt) : ∀ k : Nat, (resetN b k).L = b.L ∧ (resetN b k).s = b.s ∧ (resetN b k).l = b.l ∧ (resetN b k).modes = b.modes ∧ (resetN b k).head = b.head
  | 0 => ⟨rfl, rfl, rfl, rfl, rfl⟩
  | k + 1 => by
    unfold resetN
    split
    · exact ⟨rfl, rfl, rfl, rfl, rfl⟩
    · exact resetN_of b k
theorem HdO.reset (h : HdO m b) : HdO m (resetB b) := by
  obtain ⟨e1, e2, e3, e4, _⟩ := resetN_of b b.s.length
  exact h.set ⟨e1, e2, e3, e4⟩
theorem HdO.until (h : HdO m b) (l : List ByteArray) : HdO m (untB b l) := by
  have h1 : (untS b.s l).1.length ≤ b.s.length := by
    unfold untS; split
    · exact Nat.le_refl _
    · show (b.s.take _).length ≤ _
      rw [List.length_take]; omega
  have h2 : ∀ o ∈ (untS b.s l).1, o ∈ b.s := by
    unfold untS; split
    · exact fun o ho => ho
    · exact fun o ho => List.mem_of_mem_take ho
  exact h.str (s' := (untS b.s l).1) (l' := b.l) h1 h2 (Nat.le_refl _)
theorem HdO.clear (h : HdO m b) : HdO m (clearB b) :=
  h.str (s' := b.s) (l' := clearN b.l (openN b.l)) (Nat.le_refl _) (fun _ ho => ho) (by unfold clearN; rw [List.length_take]; omega)
theorem HdO.popm (h : HdO m b) : HdO m (popM b) :=
  ⟨h.L, h.s, h.l, by have := h.md; show b.modes.dropLast.length + m < _; rw [List.length_dropLast]; omega, h.nd, h.sn⟩
theorem HdO.leave (h : HdO m b) : HdO m (leaveB b) := ((h.until lTem).clear.popm).reset
theorem HdO.pops (h : HdO m b) : HdO m (popS b) :=
  h.str (s' := b.s.dropLast) (l' := b.l) (by rw [List.length_dropLast]; omega) (fun _ ho => List.mem_of_mem_take (by rwa [List.dropLast_eq_take] at ho)) (Nat.le_refl _)
theorem HdO.tem (h : HdO (m + 5) b) {t : HTok} (ht : SmT t) : HdO m (temH b t) := by
  unfold temH
  split
  · have h2 : HdO (m + 1) (failB (markB (insertB b (elTok t 0)).1).1 (markB (insertB b (elTok t 0)).1).2) := ((HdO.ins (m := m + 2) h (smT_el ht 0)).mark (m := m + 1)).fail _
    dsimp only
    generalize failB (markB (insertB b (elTok t 0)).1).1 (markB (insertB b (elTok t 0)).1).2 = c at h2 ⊢
    exact ⟨by have := h2.L; show c.L.length + m < _; omega, by have := h2.s; show c.s.length + m < _; omega, by have := h2.l; show c.l.length + m < _; omega, by have := h2.md; show (c.modes ++ [15]).length + m < _; rw [List.length_append]; show c.modes.length + 1 + m < _; omega, h2.nd, h2.sn⟩
  · split
    · exact (h.thor.leave).mono (by omega)
    · exact h.mono (by omega)
theorem HdO.raw (h : HdO (m + 3) b) {t : HTok} (ht : SmT t) (st : Int) : HdO m (rawB b t st) := (h.ins (smT_el ht 0)).set ⟨rfl, rfl, rfl, rfl⟩
theorem HdO.only (h : HdO (m + 3) b) {t : HTok} (ht : SmT t) : HdO m (onlyB b t).1 := by
  unfold onlyB
  split
  · exact (h.ins (smT_el ht 0)).pops
  · exact h.ins (smT_el ht 0)
theorem HdO.own (h : HdO (m + 5) b) {t : HTok} (ht : SmT t) : HdO m (ownH b t) := by
  unfold ownH
  split
  · exact h.tem ht
  · split
    · exact (h.mono (m' := m + 3) (by omega)).raw ht _
    · exact (h.mono (m' := m + 3) (by omega)).only ht
end
end Go.Vk
end
section
set_option linter.unusedSimpArgs false
set_option linter.unusedVariables false
namespace Go.Proofs.YtgnnlaeikcnhcaaGreatDoor
open Go Go.Vk
set_option maxHeartbeats 40000000
section
variable {w0 w : World} {Q : Nat → Prop} {pb ps pl pa : Nat} {b : BSt}
theorem afterHead_c (h : BuAt w0 w Q pb ps pl pa b) (hO : HdO 6 b) (hg : GB w0) (hM : MaxAt w0) (hQl : ∀ q, Q q → q < w.heap.size) {t : HTok} {av : Value} (ha0 : RdAt w0 2 av (attrCells t.attrs)) (ht : SmT t) :
    Gives Tryz.prog 292 #[.pointer (some ⟨pb, 0, none⟩), .agg (t.row av)] w fun v w' => v = .bool (afterH b t).2 ∧ BuAt w0 w' Q pb ps pl pa (afterH b t).1 ∧ Upd (AF w0 Q) w w' := by
  have ha := ha0.ext h.out
  obtain ⟨xa, xn, xc, eav, _⟩ := id ha
  subst eav
  have hrow : t.row (.slice xa xn xc) = #[.int .i64 t.kind, .string t.name, .string t.text, .slice xa xn xc, .bool t.dup, .bool t.self, .bool t.quirks, .int .i64 t.frm, .int .i64 t.to] := rfl
  have hx := Ext.alloc w (.cells (t.row (.slice xa xn xc)) 37)
  have hp : (w.alloc (.cells (t.row (.slice xa xn xc)) 37)).heap[w.heap.size]? = some (.cells (t.row (.slice xa xn xc)) 37 (0, 0)) := by rw [heap_alloc_h, if_pos rfl]
  obtain ⟨r, hr⟩ : ∃ r, r = afterH b t := ⟨_, rfl⟩
  rw [← hr]
  unfold afterH at hr
  have hL := hO.L
  have hok := hO.ok
  refine Gives.of_W Tryz.call292 Tryz.func292 rfl Tryz.ntmps292 (by simp) ?_; intro Z hZ
  (repeat first|(with_reducible first|(refine hK _ _ ?_;clear hK K)|refine ‹∀σ w,_→K σ w› _ _ ?_|(refine W_st ?_;constructor;try intro K hK))|((with_reducible first|refine hZ _ _ ?_|refine W_rg ?_|skip);repeat1' simp only[push_cast,seval,-Nat.reduceSubDiff,vcells_agg])|((repeat((fail_if_success with_reducible refine hK _ _ ?_);clear hK K));with_reducible refine hK _ _ ?_;clear hK K))
  generalize w.alloc (.cells (t.row (.slice xa xn xc)) 37) = w1 at *
  obtain ⟨p, hpe⟩ : ∃ p, p = w.heap.size := ⟨_, rfl⟩
  rw [← hpe] at hp ⊢
  rw [hrow] at hp
  have h1 := h.pass hx
  have hx1 := hx
  have hp1 := hp
  by_cases k5 : t.kind = 5
  · have k5' := eq_true k5
    rw [if_pos k5] at hr
    (repeat first|(with_reducible first|(refine hK _ _ ?_;clear hK K)|refine ‹∀σ w,_→K σ w› _ _ ?_|(refine W_st ?_;constructor;try intro K hK))|((with_reducible first|refine hZ _ _ ?_|refine W_rg ?_|skip);repeat1' simp only[push_cast,seval,-Nat.reduceSubDiff,cell_h,cellO_cells,hp1,k5'])|((repeat((fail_if_success with_reducible refine hK _ _ ?_);clear hK K));with_reducible refine hK _ _ ?_;clear hK K))
    refine (bchars_c h1 hok t.text ht.2.1 hO.txt).mono ?_
    rintro v w2 ⟨h2, hu2⟩
    (repeat first|(with_reducible first|(refine hK _ _ ?_;clear hK K)|refine ‹∀σ w,_→K σ w› _ _ ?_|(refine W_st ?_;constructor;try intro K hK))|((with_reducible first|refine hZ _ _ ?_|refine W_rg ?_|skip);repeat1' simp only[push_cast,seval,-Nat.reduceSubDiff])|((repeat((fail_if_success with_reducible refine hK _ _ ?_);clear hK K));with_reducible refine hK _ _ ?_;clear hK K))
    exact ⟨by rw [hr], by rw [hr]; exact h2, Upd.trans (hx1.upd) hu2 fun _ _ h => h⟩
  have k5' := eq_false k5
  rw [if_neg k5] at hr
  by_cases k4 : t.kind = 4
  · have k4' := eq_true k4
    rw [if_pos k4] at hr
    (repeat first|(with_reducible first|(refine hK _ _ ?_;clear hK K)|refine ‹∀σ w,_→K σ w› _ _ ?_|(refine W_st ?_;constructor;try intro K hK))|((with_reducible first|refine hZ _ _ ?_|refine W_rg ?_|skip);repeat1' simp only[push_cast,seval,-Nat.reduceSubDiff,cell_h,cellO_cells,hp1,k5',k4'])|((repeat((fail_if_success with_reducible refine hK _ _ ?_);clear hK K));with_reducible refine hK _ _ ?_;clear hK K))
    rw [← hrow]
    refine (bcomment_c h1 hok (by omega) (fun q hq => by have := hQl q hq; have := hx1.sz; omega) t (-1)).mono ?_
    rintro v w2 ⟨h2, hu2⟩
    (repeat first|(with_reducible first|(refine hK _ _ ?_;clear hK K)|refine ‹∀σ w,_→K σ w› _ _ ?_|(refine W_st ?_;constructor;try intro K hK))|((with_reducible first|refine hZ _ _ ?_|refine W_rg ?_|skip);repeat1' simp only[push_cast,seval,-Nat.reduceSubDiff])|((repeat((fail_if_success with_reducible refine hK _ _ ?_);clear hK K));with_reducible refine hK _ _ ?_;clear hK K))
    exact ⟨by rw [hr], by rw [hr]; exact h2, Upd.trans (hx1.upd) hu2 fun _ _ h => h⟩
  have k4' := eq_false k4
  rw [if_neg k4] at hr
  by_cases k1 : t.kind = 1
  · have k1' := eq_true k1
    rw [if_pos (.inl k1)] at hr
    (repeat first|(with_reducible first|(refine hK _ _ ?_;clear hK K)|refine ‹∀σ w,_→K σ w› _ _ ?_|(refine W_st ?_;constructor;try intro K hK))|((with_reducible first|refine hZ _ _ ?_|refine W_rg ?_|skip);repeat1' simp only[push_cast,seval,-Nat.reduceSubDiff,cell_h,cellO_cells,hp1,k5',k4',k1'])|((repeat((fail_if_success with_reducible refine hK _ _ ?_);clear hK K));with_reducible refine hK _ _ ?_;clear hK K))
    exact ⟨by rw [hr], by rw [hr]; exact h1, hx1.upd⟩
  have k1' := eq_false k1
  (repeat first|(with_reducible first|(refine hK _ _ ?_;clear hK K)|refine ‹∀σ w,_→K σ w› _ _ ?_|(refine W_st ?_;constructor;try intro K hK))|((with_reducible first|refine hZ _ _ ?_|refine W_rg ?_|skip);repeat1' simp only[push_cast,seval,-Nat.reduceSubDiff,cell_h,cellO_cells,hp1,k5',k4',k1'])|((repeat((fail_if_success with_reducible refine hK _ _ ?_);clear hK K));with_reducible refine hK _ _ ?_;clear hK K))
  refine bsl (l := lHF) rfl (by decide) (by decide) (by kernel_rfl) ?_
  rintro v w2 hy2 hn2 ⟨bn2, rfl⟩
  (repeat first|(with_reducible first|(refine hK _ _ ?_;clear hK K)|refine ‹∀σ w,_→K σ w› _ _ ?_|(refine W_st ?_;constructor;try intro K hK))|((with_reducible first|refine hZ _ _ ?_|refine W_rg ?_|skip);repeat1' simp only[push_cast,seval,-Nat.reduceSubDiff])|((repeat((fail_if_success with_reducible refine hK _ _ ?_);clear hK K));with_reducible refine hK _ _ ?_;clear hK K))
  rw [← hrow]
  refine (hstart_c hn2 (by decide)).mono ?_
  rintro v w3 ⟨rfl, hy3⟩
  have hx3 := (hx1.trans hy2).trans hy3
  have hp3 := (hy2.trans hy3).blk hp1
  have h3 := h1.pass (hy2.trans hy3)
  by_cases s1 : startT t lHF = true
  · rw [if_pos (.inr s1)] at hr
    (repeat first|(with_reducible first|(refine hK _ _ ?_;clear hK K)|refine ‹∀σ w,_→K σ w› _ _ ?_|(refine W_st ?_;constructor;try intro K hK))|((with_reducible first|refine hZ _ _ ?_|refine W_rg ?_|skip);repeat1' simp only[push_cast,seval,-Nat.reduceSubDiff,cell_h,cellO_cells,hp3,s1])|((repeat((fail_if_success with_reducible refine hK _ _ ?_);clear hK K));with_reducible refine hK _ _ ?_;clear hK K))
    exact ⟨by rw [hr], by rw [hr]; exact h3, hx3.upd⟩
  rw [if_neg (fun h => h.elim k1 s1)] at hr
  have s1' := eq_false_of_ne_true s1
  (repeat first|(with_reducible first|(refine hK _ _ ?_;clear hK K)|refine ‹∀σ w,_→K σ w› _ _ ?_|(refine W_st ?_;constructor;try intro K hK))|((with_reducible first|refine hZ _ _ ?_|refine W_rg ?_|skip);repeat1' simp only[push_cast,seval,-Nat.reduceSubDiff,cell_h,cellO_cells,hp3,s1'])|((repeat((fail_if_success with_reducible refine hK _ _ ?_);clear hK K));with_reducible refine hK _ _ ?_;clear hK K))
  refine bsl (l := lHtml) rfl (by decide) (by decide) (by kernel_rfl) ?_
  rintro v w4 hy4 hn4 ⟨bn4, rfl⟩
  (repeat first|(with_reducible first|(refine hK _ _ ?_;clear hK K)|refine ‹∀σ w,_→K σ w› _ _ ?_|(refine W_st ?_;constructor;try intro K hK))|((with_reducible first|refine hZ _ _ ?_|refine W_rg ?_|skip);repeat1' simp only[push_cast,seval,-Nat.reduceSubDiff])|((repeat((fail_if_success with_reducible refine hK _ _ ?_);clear hK K));with_reducible refine hK _ _ ?_;clear hK K))
  rw [← hrow]
  refine (hstart_c hn4 (by decide)).mono ?_
  rintro v w5 ⟨rfl, hy5⟩
  have hx5 := (hx3.trans hy4).trans hy5
  have hp5 := (hy4.trans hy5).blk hp3
  have h5 := h3.pass (hy4.trans hy5)
  by_cases s2 : startT t lHtml = true
  · rw [if_pos s2] at hr
    (repeat first|(with_reducible first|(refine hK _ _ ?_;clear hK K)|refine ‹∀σ w,_→K σ w› _ _ ?_|(refine W_st ?_;constructor;try intro K hK))|((with_reducible first|refine hZ _ _ ?_|refine W_rg ?_|skip);repeat1' simp only[push_cast,seval,-Nat.reduceSubDiff,cell_h,cellO_cells,hp5,s2])|((repeat((fail_if_success with_reducible refine hK _ _ ?_);clear hK K));with_reducible refine hK _ _ ?_;clear hK K))
    rw [← hrow]
    refine (bmore_c h5 hok (fun q hq => by have := hQl q hq; have := hx5.sz; omega) ha0 ht.2.2).mono ?_
    rintro v w6 ⟨h6, hu6⟩
    (repeat first|(with_reducible first|(refine hK _ _ ?_;clear hK K)|refine ‹∀σ w,_→K σ w› _ _ ?_|(refine W_st ?_;constructor;try intro K hK))|((with_reducible first|refine hZ _ _ ?_|refine W_rg ?_|skip);repeat1' simp only[push_cast,seval,-Nat.reduceSubDiff])|((repeat((fail_if_success with_reducible refine hK _ _ ?_);clear hK K));with_reducible refine hK _ _ ?_;clear hK K))
    exact ⟨by rw [hr], by rw [hr]; exact h6, Upd.trans (hx5.upd) hu6 fun _ _ h => h⟩
  rw [if_neg s2] at hr
  have s2' := eq_false_of_ne_true s2
  (repeat first|(with_reducible first|(refine hK _ _ ?_;clear hK K)|refine ‹∀σ w,_→K σ w› _ _ ?_|(refine W_st ?_;constructor;try intro K hK))|((with_reducible first|refine hZ _ _ ?_|refine W_rg ?_|skip);repeat1' simp only[push_cast,seval,-Nat.reduceSubDiff,cell_h,cellO_cells,hp5,s2'])|((repeat((fail_if_success with_reducible refine hK _ _ ?_);clear hK K));with_reducible refine hK _ _ ?_;clear hK K))
  refine bsl (l := lBody) rfl (by decide) (by decide) (by kernel_rfl) ?_
  rintro v w6 hy6 hn6 ⟨bn6, rfl⟩
  (repeat first|(with_reducible first|(refine hK _ _ ?_;clear hK K)|refine ‹∀σ w,_→K σ w› _ _ ?_|(refine W_st ?_;constructor;try intro K hK))|((with_reducible first|refine hZ _ _ ?_|refine W_rg ?_|skip);repeat1' simp only[push_cast,seval,-Nat.reduceSubDiff])|((repeat((fail_if_success with_reducible refine hK _ _ ?_);clear hK K));with_reducible refine hK _ _ ?_;clear hK K))
  rw [← hrow]
  refine (hstart_c hn6 (by decide)).mono ?_
  rintro v w7 ⟨rfl, hy7⟩
  have hx7 := (hx5.trans hy6).trans hy7
  have hp7 := (hy6.trans hy7).blk hp5
  have h7 := h5.pass (hy6.trans hy7)
  by_cases s3 : startT t lBody = true
  · rw [if_pos s3] at hr
    (repeat first|(with_reducible first|(refine hK _ _ ?_;clear hK K)|refine ‹∀σ w,_→K σ w› _ _ ?_|(refine W_st ?_;constructor;try intro K hK))|((with_reducible first|refine hZ _ _ ?_|refine W_rg ?_|skip);repeat1' simp only[push_cast,seval,-Nat.reduceSubDiff,cell_h,cellO_cells,hp7,s3])|((repeat((fail_if_success with_reducible refine hK _ _ ?_);clear hK K));with_reducible refine hK _ _ ?_;clear hK K))
    rw [← hrow]
    refine (binsert_c h7 hok (by omega) (fun q hq => by have := hQl q hq; have := hx7.sz; omega) (ha.ext hx7) ht.2.2 0).mono ?_
    rintro v w8 ⟨rfl, h8, hu8⟩
    (repeat first|(with_reducible first|(refine hK _ _ ?_;clear hK K)|refine ‹∀σ w,_→K σ w› _ _ ?_|(refine W_st ?_;constructor;try intro K hK))|((with_reducible first|refine hZ _ _ ?_|refine W_rg ?_|skip);repeat1' simp only[push_cast,seval,-Nat.reduceSubDiff])|((repeat((fail_if_success with_reducible refine hK _ _ ?_);clear hK K));with_reducible refine hK _ _ ?_;clear hK K))
    refine (bset_c h8 6).mono ?_
    rintro v w9 ⟨h9, hu9⟩
    (repeat first|(with_reducible first|(refine hK _ _ ?_;clear hK K)|refine ‹∀σ w,_→K σ w› _ _ ?_|(refine W_st ?_;constructor;try intro K hK))|((with_reducible first|refine hZ _ _ ?_|refine W_rg ?_|skip);repeat1' simp only[push_cast,seval,-Nat.reduceSubDiff])|((repeat((fail_if_success with_reducible refine hK _ _ ?_);clear hK K));with_reducible refine hK _ _ ?_;clear hK K))
    exact ⟨by rw [hr], by rw [hr]; exact h9, Upd.trans (Upd.trans (hx7.upd) hu8 fun _ _ h => h) hu9 fun _ _ h => h⟩
  rw [if_neg s3] at hr
  have s3' := eq_false_of_ne_true s3
  (repeat first|(with_reducible first|(refine hK _ _ ?_;clear hK K)|refine ‹∀σ w,_→K σ w› _ _ ?_|(refine W_st ?_;constructor;try intro K hK))|((with_reducible first|refine hZ _ _ ?_|refine W_rg ?_|skip);repeat1' simp only[push_cast,seval,-Nat.reduceSubDiff,cell_h,cellO_cells,hp7,s3'])|((repeat((fail_if_success with_reducible refine hK _ _ ?_);clear hK K));with_reducible refine hK _ _ ?_;clear hK K))
  refine bsl (l := lTem) rfl (by decide) (by decide) (by kernel_rfl) ?_
  rintro v w8 hy8 hn8 ⟨bn8, rfl⟩
  (repeat first|(with_reducible first|(refine hK _ _ ?_;clear hK K)|refine ‹∀σ w,_→K σ w› _ _ ?_|(refine W_st ?_;constructor;try intro K hK))|((with_reducible first|refine hZ _ _ ?_|refine W_rg ?_|skip);repeat1' simp only[push_cast,seval,-Nat.reduceSubDiff])|((repeat((fail_if_success with_reducible refine hK _ _ ?_);clear hK K));with_reducible refine hK _ _ ?_;clear hK K))
  rw [← hrow]
  refine (hend_c hn8 (by decide)).mono ?_
  rintro v w9 ⟨rfl, hy9⟩
  have hx9 := (hx7.trans hy8).trans hy9
  have hp9 := (hy8.trans hy9).blk hp7
  have h9 := h7.pass (hy8.trans hy9)
  by_cases s4 : endT t lTem = true
  · rw [if_pos s4] at hr
    (repeat first|(with_reducible first|(refine hK _ _ ?_;clear hK K)|refine ‹∀σ w,_→K σ w› _ _ ?_|(refine W_st ?_;constructor;try intro K hK))|((with_reducible first|refine hZ _ _ ?_|refine W_rg ?_|skip);repeat1' simp only[push_cast,seval,-Nat.reduceSubDiff,cell_h,cellO_cells,hp9,s4])|((repeat((fail_if_success with_reducible refine hK _ _ ?_);clear hK K));with_reducible refine hK _ _ ?_;clear hK K))
    rw [← hrow]
    refine (head_c h9 (hO.mono (by decide)) hg hM (fun q hq => by have := hQl q hq; have := hx9.sz; omega) ha0 ht).mono ?_
    rintro v w10 ⟨rfl, h10, hu10⟩
    (repeat first|(with_reducible first|(refine hK _ _ ?_;clear hK K)|refine ‹∀σ w,_→K σ w› _ _ ?_|(refine W_st ?_;constructor;try intro K hK))|((with_reducible first|refine hZ _ _ ?_|refine W_rg ?_|skip);repeat1' simp only[push_cast,seval,-Nat.reduceSubDiff])|((repeat((fail_if_success with_reducible refine hK _ _ ?_);clear hK K));with_reducible refine hK _ _ ?_;clear hK K))
    exact ⟨by rw [hr], by rw [hr]; exact h10, Upd.trans (hx9.upd) hu10 fun _ _ h => h⟩
  rw [if_neg s4] at hr
  have s4' := eq_false_of_ne_true s4
  (repeat first|(with_reducible first|(refine hK _ _ ?_;clear hK K)|refine ‹∀σ w,_→K σ w› _ _ ?_|(refine W_st ?_;constructor;try intro K hK))|((with_reducible first|refine hZ _ _ ?_|refine W_rg ?_|skip);repeat1' simp only[push_cast,seval,-Nat.reduceSubDiff,cell_h,cellO_cells,hp9,s4'])|((repeat((fail_if_success with_reducible refine hK _ _ ?_);clear hK K));with_reducible refine hK _ _ ?_;clear hK K))
  rw [← hrow]
  refine hbelongs_c.mono ?_
  rintro v w10 ⟨rfl, hy10⟩
  have hx10 := hx9.trans hy10
  have hp10 := hy10.blk hp9
  have h10 := h9.pass hy10
  by_cases s5 : belT t = true
  · rw [if_pos s5] at hr
    obtain ⟨c0, hc0⟩ : ∃ c, c = (pushB b b.head).1 := ⟨_, rfl⟩
    obtain ⟨c1, hc1⟩ : ∃ c, c = failB c0 (pushB b b.head).2 := ⟨_, rfl⟩
    have e1 : pushedB b b.head = c1 := by rw [hc1, hc0]; rfl
    rw [e1] at hr
    obtain ⟨c2, hc2⟩ : ∃ c, c = ownH c1 t := ⟨_, rfl⟩
    rw [← hc2] at hr
    have O0 : HdO 5 c0 := by rw [hc0]; exact hO.push _
    have O1 : HdO 5 c1 := by rw [hc1]; exact O0.fail _
    have O2 : HdO 0 c2 := by rw [hc2]; exact HdO.own (m := 0) O1 ht
    have lp10 := blk_lt hp10
    have hd : BuAt w0 w10 (fun q => Q q ∨ q = p) pb ps pl pa b := h.more hx10 fun q hq => by
      rcases hq with hq | hq
      · exact .inl hq
      · exact .inr ⟨by omega, by omega⟩
    have hQd : ∀ q, (Q q ∨ q = p) → q < w10.heap.size := by
      intro q hq
      have := hx10.sz
      rcases hq with hq | hq
      · have := hQl q hq; omega
      · omega
    (repeat first|(with_reducible first|(refine hK _ _ ?_;clear hK K)|refine ‹∀σ w,_→K σ w› _ _ ?_|(refine W_st ?_;constructor;try intro K hK))|((with_reducible first|refine hZ _ _ ?_|refine W_rg ?_|skip);repeat1' simp only[push_cast,seval,-Nat.reduceSubDiff,cell_h,cellO_cells,hp10,s5])|((repeat((fail_if_success with_reducible refine hK _ _ ?_);clear hK K));with_reducible refine hK _ _ ?_;clear hK K))
    refine (bstack_c hd).mono ?_
    intro v w' ⟨hv, hw⟩
    subst hv; subst w'
    (repeat first|(with_reducible first|(refine hK _ _ ?_;clear hK K)|refine ‹∀σ w,_→K σ w› _ _ ?_|(refine W_st ?_;constructor;try intro K hK))|((with_reducible first|refine hZ _ _ ?_|refine W_rg ?_|skip);repeat1' simp only[push_cast,seval,-Nat.reduceSubDiff])|((repeat((fail_if_success with_reducible refine hK _ _ ?_);clear hK K));with_reducible refine hK _ _ ?_;clear hK K))
    refine (bhead_c hd).mono ?_
    intro v w' ⟨hv, hw⟩
    subst hv; subst w'
    (repeat first|(with_reducible first|(refine hK _ _ ?_;clear hK K)|refine ‹∀σ w,_→K σ w› _ _ ?_|(refine W_st ?_;constructor;try intro K hK))|((with_reducible first|refine hZ _ _ ?_|refine W_rg ?_|skip);repeat1' simp only[push_cast,seval,-Nat.reduceSubDiff])|((repeat((fail_if_success with_reducible refine hK _ _ ?_);clear hK K));with_reducible refine hK _ _ ?_;clear hK K))
    refine (bpush_c hd hok b.head).mono ?_
    rintro v w11 ⟨rfl, h11, g11⟩
    rw [← hc0] at h11
    have hp11 := (g11.same p lp10 (fun hf => hf.2 (.inr rfl))).trans hp10
    have lp11 := blk_lt hp11
    have hu11 : Upd (AF w0 Q) w10 w11 := g11.mono fun q _ hf => ⟨hf.1, fun hq => hf.2 (.inl hq)⟩
    (repeat first|(with_reducible first|(refine hK _ _ ?_;clear hK K)|refine ‹∀σ w,_→K σ w› _ _ ?_|(refine W_st ?_;constructor;try intro K hK))|((with_reducible first|refine hZ _ _ ?_|refine W_rg ?_|skip);repeat1' simp only[push_cast,seval,-Nat.reduceSubDiff])|((repeat((fail_if_success with_reducible refine hK _ _ ?_);clear hK K));with_reducible refine hK _ _ ?_;clear hK K))
    refine (bfail_c h11 _).mono ?_
    rintro v w12 ⟨h12, g12⟩
    replace h12 : BuAt w0 w12 (fun q => Q q ∨ q = p) pb ps pl pa c1 := hc1 ▸ h12
    have hp12 := (g12.same p lp11 (fun hf => hf.2 (.inr rfl))).trans hp11
    have lp12 := blk_lt hp12
    have hu12 : Upd (AF w0 Q) w11 w12 := g12.mono fun q _ hf => ⟨hf.1, fun hq => hf.2 (.inl hq)⟩
    (repeat first|(with_reducible first|(refine hK _ _ ?_;clear hK K)|refine ‹∀σ w,_→K σ w› _ _ ?_|(refine W_st ?_;constructor;try intro K hK))|((with_reducible first|refine hZ _ _ ?_|refine W_rg ?_|skip);repeat1' simp only[push_cast,seval,-Nat.reduceSubDiff,cell_h,cellO_cells,hp12])|((repeat((fail_if_success with_reducible refine hK _ _ ?_);clear hK K));with_reducible refine hK _ _ ?_;clear hK K))
    rw [← hrow]
    have z11 := g11.alike.size
    have z12 := g12.alike.size
    refine (own_c h12 O1 hg hM (fun q hq => by have := hQd q hq; omega) (ha0.ext h12.out) ht).mono ?_
    rintro v w13 ⟨h13, g13⟩
    rw [← hc2] at h13
    have hp13 := (g13.same p lp12 (fun hf => hf.2 (.inr rfl))).trans hp12
    have lp13 := blk_lt hp13
    have hu13 : Upd (AF w0 Q) w12 w13 := g13.mono fun q _ hf => ⟨hf.1, fun hq => hf.2 (.inl hq)⟩
    (repeat first|(with_reducible first|(refine hK _ _ ?_;clear hK K)|refine ‹∀σ w,_→K σ w› _ _ ?_|(refine W_st ?_;constructor;try intro K hK))|((with_reducible first|refine hZ _ _ ?_|refine W_rg ?_|skip);repeat1' simp only[push_cast,seval,-Nat.reduceSubDiff])|((repeat((fail_if_success with_reducible refine hK _ _ ?_);clear hK K));with_reducible refine hK _ _ ?_;clear hK K))
    refine (bstack_c h13).mono ?_
    intro v w' ⟨hv, hw⟩
    subst hv; subst w'
    (repeat first|(with_reducible first|(refine hK _ _ ?_;clear hK K)|refine ‹∀σ w,_→K σ w› _ _ ?_|(refine W_st ?_;constructor;try intro K hK))|((with_reducible first|refine hZ _ _ ?_|refine W_rg ?_|skip);repeat1' simp only[push_cast,seval,-Nat.reduceSubDiff])|((repeat((fail_if_success with_reducible refine hK _ _ ?_);clear hK K));with_reducible refine hK _ _ ?_;clear hK K))
    refine (bhead_c h13).mono ?_
    intro v w' ⟨hv, hw⟩
    subst hv; subst w'
    (repeat first|(with_reducible first|(refine hK _ _ ?_;clear hK K)|refine ‹∀σ w,_→K σ w› _ _ ?_|(refine W_st ?_;constructor;try intro K hK))|((with_reducible first|refine hZ _ _ ?_|refine W_rg ?_|skip);repeat1' simp only[push_cast,seval,-Nat.reduceSubDiff])|((repeat((fail_if_success with_reducible refine hK _ _ ?_);clear hK K));with_reducible refine hK _ _ ?_;clear hK K))
    refine (bsrem_c h13 O2.ok c2.head).mono ?_
    rintro v w14 ⟨rfl, h14, g14⟩
    have hp14 := (g14.same p lp13 (fun hf => hf.2 (.inr rfl))).trans hp13
    have lp14 := blk_lt hp14
    have hu14 : Upd (AF w0 Q) w13 w14 := g14.mono fun q _ hf => ⟨hf.1, fun hq => hf.2 (.inl hq)⟩
    (repeat first|(with_reducible first|(refine hK _ _ ?_;clear hK K)|refine ‹∀σ w,_→K σ w› _ _ ?_|(refine W_st ?_;constructor;try intro K hK))|((with_reducible first|refine hZ _ _ ?_|refine W_rg ?_|skip);repeat1' simp only[push_cast,seval,-Nat.reduceSubDiff])|((repeat((fail_if_success with_reducible refine hK _ _ ?_);clear hK K));with_reducible refine hK _ _ ?_;clear hK K))
    exact ⟨by rw [hr], by rw [hr]; exact h14.less fun q hq => .inl hq, Upd.trans (Upd.trans (Upd.trans (Upd.trans hx10.upd hu11 fun _ _ h => h) hu12 fun _ _ h => h) hu13 fun _ _ h => h) hu14 fun _ _ h => h⟩
  rw [if_neg s5] at hr
  have s5' := eq_false_of_ne_true s5
  (repeat first|(with_reducible first|(refine hK _ _ ?_;clear hK K)|refine ‹∀σ w,_→K σ w› _ _ ?_|(refine W_st ?_;constructor;try intro K hK))|((with_reducible first|refine hZ _ _ ?_|refine W_rg ?_|skip);repeat1' simp only[push_cast,seval,-Nat.reduceSubDiff,cell_h,cellO_cells,hp10,s5'])|((repeat((fail_if_success with_reducible refine hK _ _ ?_);clear hK K));with_reducible refine hK _ _ ?_;clear hK K))
  rw [← hrow]
  refine hstrange_c.mono ?_
  rintro v w11 ⟨rfl, hy11⟩
  have hx11 := hx10.trans hy11
  have hp11 := hy11.blk hp10
  have h11 := h10.pass hy11
  by_cases s6 : strT t = true
  · rw [if_pos (.inl s6)] at hr
    (repeat first|(with_reducible first|(refine hK _ _ ?_;clear hK K)|refine ‹∀σ w,_→K σ w› _ _ ?_|(refine W_st ?_;constructor;try intro K hK))|((with_reducible first|refine hZ _ _ ?_|refine W_rg ?_|skip);repeat1' simp only[push_cast,seval,-Nat.reduceSubDiff,cell_h,cellO_cells,hp11,s6])|((repeat((fail_if_success with_reducible refine hK _ _ ?_);clear hK K));with_reducible refine hK _ _ ?_;clear hK K))
    exact ⟨by rw [hr], by rw [hr]; exact h11, hx11.upd⟩
  have s6' := eq_false_of_ne_true s6
  (repeat first|(with_reducible first|(refine hK _ _ ?_;clear hK K)|refine ‹∀σ w,_→K σ w› _ _ ?_|(refine W_st ?_;constructor;try intro K hK))|((with_reducible first|refine hZ _ _ ?_|refine W_rg ?_|skip);repeat1' simp only[push_cast,seval,-Nat.reduceSubDiff,cell_h,cellO_cells,hp11,s6'])|((repeat((fail_if_success with_reducible refine hK _ _ ?_);clear hK K));with_reducible refine hK _ _ ?_;clear hK K))
  refine bsl (l := lHead) rfl (by decide) (by decide) (by kernel_rfl) ?_
  rintro v w12 hy12 hn12 ⟨bn12, rfl⟩
  (repeat first|(with_reducible first|(refine hK _ _ ?_;clear hK K)|refine ‹∀σ w,_→K σ w› _ _ ?_|(refine W_st ?_;constructor;try intro K hK))|((with_reducible first|refine hZ _ _ ?_|refine W_rg ?_|skip);repeat1' simp only[push_cast,seval,-Nat.reduceSubDiff])|((repeat((fail_if_success with_reducible refine hK _ _ ?_);clear hK K));with_reducible refine hK _ _ ?_;clear hK K))
  rw [← hrow]
  refine (hend_c hn12 (by decide)).mono ?_
  rintro v w13 ⟨rfl, hy13⟩
  have hx13 := (hx11.trans hy12).trans hy13
  have hp13 := (hy12.trans hy13).blk hp11
  have h13 := h11.pass (hy12.trans hy13)
  by_cases s7 : endT t lHead = true
  · rw [if_pos (.inr s7)] at hr
    (repeat first|(with_reducible first|(refine hK _ _ ?_;clear hK K)|refine ‹∀σ w,_→K σ w› _ _ ?_|(refine W_st ?_;constructor;try intro K hK))|((with_reducible first|refine hZ _ _ ?_|refine W_rg ?_|skip);repeat1' simp only[push_cast,seval,-Nat.reduceSubDiff,cell_h,cellO_cells,hp13,s7])|((repeat((fail_if_success with_reducible refine hK _ _ ?_);clear hK K));with_reducible refine hK _ _ ?_;clear hK K))
    exact ⟨by rw [hr], by rw [hr]; exact h13, hx13.upd⟩
  rw [if_neg (fun h => h.elim s6 s7)] at hr
  have s7' := eq_false_of_ne_true s7
  (repeat first|(with_reducible first|(refine hK _ _ ?_;clear hK K)|refine ‹∀σ w,_→K σ w› _ _ ?_|(refine W_st ?_;constructor;try intro K hK))|((with_reducible first|refine hZ _ _ ?_|refine W_rg ?_|skip);repeat1' simp only[push_cast,seval,-Nat.reduceSubDiff,cell_h,cellO_cells,hp13,s7'])|((repeat((fail_if_success with_reducible refine hK _ _ ?_);clear hK K));with_reducible refine hK _ _ ?_;clear hK K))
  refine (bimply_c h13 hok (by omega) (fun q hq => by have := hQl q hq; have := hx13.sz; omega) _).mono ?_
  rintro v w14 ⟨rfl, h14, hu14⟩
  (repeat first|(with_reducible first|(refine hK _ _ ?_;clear hK K)|refine ‹∀σ w,_→K σ w› _ _ ?_|(refine W_st ?_;constructor;try intro K hK))|((with_reducible first|refine hZ _ _ ?_|refine W_rg ?_|skip);repeat1' simp only[push_cast,seval,-Nat.reduceSubDiff])|((repeat((fail_if_success with_reducible refine hK _ _ ?_);clear hK K));with_reducible refine hK _ _ ?_;clear hK K))
  refine (bset_c h14 6).mono ?_
  rintro v w15 ⟨h15, hu15⟩
  (repeat first|(with_reducible first|(refine hK _ _ ?_;clear hK K)|refine ‹∀σ w,_→K σ w› _ _ ?_|(refine W_st ?_;constructor;try intro K hK))|((with_reducible first|refine hZ _ _ ?_|refine W_rg ?_|skip);repeat1' simp only[push_cast,seval,-Nat.reduceSubDiff])|((repeat((fail_if_success with_reducible refine hK _ _ ?_);clear hK K));with_reducible refine hK _ _ ?_;clear hK K))
  exact ⟨by rw [hr], by rw [hr]; exact h15, Upd.trans (Upd.trans (hx13.upd) hu14 fun _ _ h => h) hu15 fun _ _ h => h⟩
end
end Go.Proofs.YtgnnlaeikcnhcaaGreatDoor
end
section
set_option linter.unusedSimpArgs false
set_option linter.unusedVariables false
namespace Go.Vk
open Go
theorem byN_at {H : Type} (s : ByteArray) (zd : DataW H) : (DataW.map (byL.map fun x => ((Lit.string x.1.data.toList : Lit), (DataW.lit (.int .i64 x.2) : DataW H)))).atKey (.string s.data.toList) zd = (match byN s with | some n => .lit (.int .i64 n) | none => zd) := by
  unfold DataW.atKey byN
  simp only [List.find?_map, Function.comp_def, Lit.sameKey]
  have e : (fun x : ByteArray × Int => x.1.data.toList == s.data.toList) = fun x => decide (x.1 = s) := by
    funext x
    by_cases h : x.1 = s
    · simp [h]
    · have : x.1.data.toList ≠ s.data.toList := fun h2 => h (ByteArray.ext (Array.toList_inj.1 h2))
      simp only [h, decide_false, beq_eq_false_iff_ne, ne_eq]
      exact this
  rw [e]
  cases byL.find? fun x => decide (x.1 = s) <;> rfl
end Go.Vk
namespace Go.Proofs.YtgnnlaeikcnhcaaGreatDoor
open Go Go.Vk Go.WideElems Go.ChangeMaps
open Go.WideMaps (string_law keyOf_string_mk)
theorem gBy : Tryz.prog.globalNamed "lazaret/builder.by" = some 2 := by kernel_rfl
theorem gByT : (Tryz.prog.globals[2]?).map (·.type) = some 170 := by kernel_rfl
theorem by_laid {H : Type} : (Rows.laid_lazaret_builder_by : DataW H) = .map (byL.map fun x => ((Lit.string x.1.data.toList : Lit), (DataW.lit (.int .i64 x.2) : DataW H))) := rfl
theorem keysS : Go.WideMaps.KeyLaw Tryz.prog 9 := string_law Tryz.underlying9
theorem gb_of_var {W : World} {cs : Array Value} {sp : Nat → Bool} {held : Bool} {fuel : Nat} {x : List MemPlace} {enc : TypeId × Value → Unit}
    (hvar : W.var? Tryz.prog "lazaret/builder.by" = some cs) (hd : DataW.trod enc Tryz.prog W 0 sp held fuel 170 cs.toList = some (Rows.laid_lazaret_builder_by, x)) : GB W := by
  rcases WideElems.open_map Tryz.underlying170 hd with ⟨_, hx⟩ | ⟨bm, es, clock, m, rfl, hcs, hb, _, F, hx⟩
  · simp [by_laid] at hx
  simp only [Prod.mk.injEq] at hx
  have hcell : W.cell? ⟨2, 0, none⟩ = some (.map (some bm)) := by
    have := World.var?_cell gBy hvar 0
    rw [Array.eq_one_of_toList hcs] at this
    simpa using this
  refine ⟨bm, hcell, fun w' hx' s hs => ?_⟩
  have hb' : w'.heap[bm]? = some (.map es clock) := by
    have hlt : bm < W.heap.size := (Array.getElem?_eq_some_iff.1 hb).1
    rw [← hb]
    exact hx'.blk hb ▸ hb.symm
  have zero : (zeroValue 3).run Tryz.prog w' = .ok (.int .i64 0) w' := by kernel_rfl
  have hk := keyOf_string_mk (s := s) (P := Tryz.prog) Tryz.underlying9 (by unfold maxLen; omega)
  rcases fit_lookup_ok (w := w') keysS Tryz.underlying170 zero hb' F hk with ⟨hrun, hat⟩ | ⟨v, y, hrun, hRv, hat, _⟩
  · have := hat .nil
    rw [← hx.1, by_laid, byN_at] at this
    cases hn : byN s with
    | none => exact hrun
    | some n => rw [hn] at this; cases this
  · obtain ⟨r, rfl, rfl, _⟩ := elemAt_int Tryz.underlying3 hRv
    have := hat .nil
    rw [← hx.1, by_laid, byN_at] at this
    cases hn : byN s with
    | none => rw [hn] at this; cases this
    | some n =>
      rw [hn] at this
      cases this
      exact hrun
end Go.Proofs.YtgnnlaeikcnhcaaGreatDoor
end
section
set_option linter.unusedSimpArgs false
set_option linter.unusedVariables false
namespace Go.Proofs.YtgnnlaeikcnhcaaGreatDoor
open Go Go.Vk Go.WideElems Go.Maps
def stepF (k : Int) : Option FuncId := if k = 0 then some 288 else if k = 1 then some 289 else if k = 2 then some 290 else if k = 3 then some 61 else if k = 4 then some 291 else if k = 5 then some 292 else if k = 7 then some 293 else none
def stepV (k : Int) : Value := match stepF k with | some f => .func (.func f) #[] #[] | none => .nilFunc
theorem gSt : Tryz.prog.globalNamed "lazaret/heads.steps" = some 0 := by kernel_rfl
theorem gStT : (Tryz.prog.globals[0]?).map (·.type) = some 141 := by kernel_rfl
theorem keysI : Keyed Tryz.prog 3 := int_keyed Tryz.underlying3
def GS (w0 : World) : Prop := ∃ bm, w0.cell? ⟨0, 0, none⟩ = some (.map (some bm)) ∧ ∀ w', Ext w0 w' → ∀ k : Int, inI64 k → (Instr.lookup 141 (.map (some bm)) (.int .i64 k) false).run Tryz.prog w' = .ok (stepV k) w'
theorem gs_of {W : World} (h : laidMetH Tryz.prog [("lazaret/builder.by", Rows.laid_lazaret_builder_by), ("lazaret/heads.steps", Rows.laid_lazaret_heads_steps)] W) : GS W := by
  obtain ⟨g, t, cs, fuel, p, hg, ht, hvar, hd⟩ := h.funcs (n := "lazaret/heads.steps") (List.mem_cons_of_mem _ (List.mem_singleton.2 rfl))
  obtain rfl := Option.some.inj (gSt.symm.trans hg)
  obtain rfl := Option.some.inj (gStT.symm.trans ht)
  rcases open_map Tryz.underlying141 hd with ⟨_, hx⟩ | ⟨bm, es, clock, m, rfl, hcs, hb, _, F, hx⟩
  · cases hx
  have hcell : W.cell? ⟨0, 0, none⟩ = some (.map (some bm)) := by
    have := World.var?_cell gSt hvar 0
    rw [Array.eq_one_of_toList hcs] at this
    simpa using this
  refine ⟨bm, hcell, fun w' hx' k hk => ?_⟩
  have hb' := hx'.blk hb
  have zero : (zeroValue 74).run Tryz.prog w' = .ok .nilFunc w' := by kernel_rfl
  have hkey := keyOf_int_mk (P := Tryz.prog) Tryz.underlying3 (WalkArith.wf_i64 hk)
  have hx1 := congrArg Prod.fst hx
  dsimp only at hx1
  rcases fit_look (w := w') false keysI Tryz.underlying141 zero hb' F hkey with ⟨hrun, _, hat⟩ | ⟨e0, y, _, _, hrun, hR, hat, _⟩
  · rw [← hx1] at hat
    by_cases k0 : k = 0
    · subst k0
      exact nomatch (show DataW.held _ = DataW.nil from hat .nil)
    by_cases k1 : k = 1
    · subst k1
      exact nomatch (show DataW.held _ = DataW.nil from hat .nil)
    by_cases k2 : k = 2
    · subst k2
      exact nomatch (show DataW.held _ = DataW.nil from hat .nil)
    by_cases k3 : k = 3
    · subst k3
      exact nomatch (show DataW.held _ = DataW.nil from hat .nil)
    by_cases k4 : k = 4
    · subst k4
      exact nomatch (show DataW.held _ = DataW.nil from hat .nil)
    by_cases k5 : k = 5
    · subst k5
      exact nomatch (show DataW.held _ = DataW.nil from hat .nil)
    by_cases k7 : k = 7
    · subst k7
      exact nomatch (show DataW.held _ = DataW.nil from hat .nil)
    rw [hrun]
    unfold stepV stepF
    rw [if_neg k0, if_neg k1, if_neg k2, if_neg k3, if_neg k4, if_neg k5, if_neg k7]
    rfl
  · rw [← hx1] at hat
    obtain ⟨y1, y2⟩ := y
    unfold elemAt at hR
    split at hR
    · rename_i hf
      have hc : e0.val.cells.toList = [e0.val] := by
        cases hv : e0.val <;> first | rfl | (rw [hv] at hf; simp [Value.formed, Tryz.underlying74] at hf)
      rw [hc] at hR
      by_cases k0 : k = 0
      · subst k0
        have e := hat .nil
        dsimp only at e
        subst e
        have hv : e0.val = .func (.func 288) #[] #[] := func_of_trod (f0 := 288) Tryz.underlying74 (by kernel_rfl) hR
        rw [hrun, hv]
        rfl
      by_cases k1 : k = 1
      · subst k1
        have e := hat .nil
        dsimp only at e
        subst e
        have hv : e0.val = .func (.func 289) #[] #[] := func_of_trod (f0 := 289) Tryz.underlying74 (by kernel_rfl) hR
        rw [hrun, hv]
        rfl
      by_cases k2 : k = 2
      · subst k2
        have e := hat .nil
        dsimp only at e
        subst e
        have hv : e0.val = .func (.func 290) #[] #[] := func_of_trod (f0 := 290) Tryz.underlying74 (by kernel_rfl) hR
        rw [hrun, hv]
        rfl
      by_cases k3 : k = 3
      · subst k3
        have e := hat .nil
        dsimp only at e
        subst e
        have hv : e0.val = .func (.func 61) #[] #[] := func_of_trod (f0 := 61) Tryz.underlying74 (by kernel_rfl) hR
        rw [hrun, hv]
        rfl
      by_cases k4 : k = 4
      · subst k4
        have e := hat .nil
        dsimp only at e
        subst e
        have hv : e0.val = .func (.func 291) #[] #[] := func_of_trod (f0 := 291) Tryz.underlying74 (by kernel_rfl) hR
        rw [hrun, hv]
        rfl
      by_cases k5 : k = 5
      · subst k5
        have e := hat .nil
        dsimp only at e
        subst e
        have hv : e0.val = .func (.func 292) #[] #[] := func_of_trod (f0 := 292) Tryz.underlying74 (by kernel_rfl) hR
        rw [hrun, hv]
        rfl
      by_cases k7 : k = 7
      · subst k7
        have e := hat .nil
        dsimp only at e
        subst e
        have hv : e0.val = .func (.func 293) #[] #[] := func_of_trod (f0 := 293) Tryz.underlying74 (by kernel_rfl) hR
        rw [hrun, hv]
        rfl
      have m1 := hat .nil
      have m2 := hat (.held [])
      have q : ∀ j : Int, k ≠ j → (Lit.int .i64 j).sameKey (Lit.int .i64 k) = false := fun j hj => by
        unfold Lit.sameKey
        exact decide_eq_false fun h => hj h.2.symm
      simp [DataW.funcsOut, DataW.funcsOutEntries, DataW.atKey, List.find?, q 0 k0, q 1 k1, q 2 k2, q 3 k3, q 4 k4, q 5 k5, q 7 k7] at m1 m2
      rw [← m1] at m2
      cases m2
    · cases hR
end Go.Proofs.YtgnnlaeikcnhcaaGreatDoor
end
section
set_option linter.unusedSimpArgs false
set_option linter.unusedVariables false
namespace Go.Proofs.YtgnnlaeikcnhcaaGreatDoor
open Go Go.Vk
set_option maxHeartbeats 40000000
section
variable {w0 w : World} {Q : Nat → Prop} {pb ps pl pa : Nat} {b : BSt}
theorem step_c (h : BuAt w0 w Q pb ps pl pa b) (hO : HdO 6 b) (hg : GB w0) (hS : GS w0) (hM : MaxAt w0) (hQl : ∀ q, Q q → q < w.heap.size) (hmo : inI64 b.mode) {t : HTok} {av : Value} (ha0 : RdAt w0 2 av (attrCells t.attrs)) (ht : SmT t) :
    Gives Tryz.prog 60 #[.pointer (some ⟨pb, 0, none⟩), .agg (t.row av)] w fun v w' => v = .bool (stepH b t).2 ∧ BuAt w0 w' Q pb ps pl pa (stepH b t).1 ∧ Upd (AF w0 Q) w w' := by
  have ha := ha0.ext h.out
  obtain ⟨xa, xn, xc, eav, _⟩ := id ha
  subst eav
  obtain ⟨bm, hcell, hlook⟩ := hS
  have hrow : t.row (.slice xa xn xc) = #[.int .i64 t.kind, .string t.name, .string t.text, .slice xa xn xc, .bool t.dup, .bool t.self, .bool t.quirks, .int .i64 t.frm, .int .i64 t.to] := rfl
  have hx := Ext.alloc w (.cells (t.row (.slice xa xn xc)) 37)
  have hp : (w.alloc (.cells (t.row (.slice xa xn xc)) 37)).heap[w.heap.size]? = some (.cells (t.row (.slice xa xn xc)) 37 (0, 0)) := by rw [heap_alloc_h, if_pos rfl]
  obtain ⟨r, hr⟩ : ∃ r, r = stepH b t := ⟨_, rfl⟩
  rw [← hr]
  unfold stepH at hr
  refine Gives.of_W Tryz.call60 Tryz.func60 rfl Tryz.ntmps60 (by simp) ?_; intro Z hZ
  (repeat first|(with_reducible first|(refine hK _ _ ?_;clear hK K)|refine ‹∀σ w,_→K σ w› _ _ ?_|(refine W_st ?_;constructor;try intro K hK))|((with_reducible first|refine hZ _ _ ?_|refine W_rg ?_|skip);repeat1' simp only[push_cast,seval,-Nat.reduceSubDiff,vcells_agg])|((repeat((fail_if_success with_reducible refine hK _ _ ?_);clear hK K));with_reducible refine hK _ _ ?_;clear hK K))
  generalize w.alloc (.cells (t.row (.slice xa xn xc)) 37) = w1 at *
  obtain ⟨p, hpe⟩ : ∃ p, p = w.heap.size := ⟨_, rfl⟩
  rw [← hpe] at hp ⊢
  rw [hrow] at hp
  have h1 := h.pass hx
  have hc1 := cell_ext (h.out.trans hx) hcell
  refine W_draw (.pas 0 (.pas 1 (.act 2 (.act 3 (.pas 4 .fin))))) (fun q => q = 0) (by decide) mixed (by kernel_rfl) ?_
  have hxd := Ext.drew w1
  have hcd := cell_ext hxd hc1
  have h1d := h1.pass hxd
  have hpd := hxd.blk hp
  generalize w1.drew = wd at *
  (repeat (first | ((first | refine pas_plain rfl ?_ | refine pas_g rfl rfl ?_ | refine act_plain rfl ?_ | refine act_g rfl rfl ?_ | refine last_plain rfl ?_ | refine tail_plain rfl ?_ | refine tail_g rfl rfl ?_); (repeat simp only [push_cast, seval, -Nat.reduceSubDiff, eq_self, true_or, or_true, hcd])) | (refine tail_fin ?_) | (refine sch_fin ?_)))
  refine (bmode_c h1d).mono ?_
  intro v w' ⟨hv, hw⟩
  subst hv; subst w'
  refine ⟨fun _ _ => rfl, ?_⟩
  (repeat (first | ((first | refine pas_plain rfl ?_ | refine pas_g rfl rfl ?_ | refine act_plain rfl ?_ | refine act_g rfl rfl ?_ | refine last_plain rfl ?_ | refine tail_plain rfl ?_ | refine tail_g rfl rfl ?_); (repeat simp only [push_cast, seval, -Nat.reduceSubDiff, eq_self, true_or, or_true, hcd])) | (refine tail_fin ?_) | (refine sch_fin ?_)))
  refine RunV.of (hlook wd ((h.out.trans hx).trans hxd) b.mode hmo) ?_
  refine ⟨fun _ _ => rfl, ?_⟩
  have hQd : ∀ q, Q q → q < wd.heap.size := fun q hq => by have := hQl q hq; have := hx.sz; have := hxd.sz; omega
  by_cases m0 : b.mode = 0
  · rw [if_pos m0] at hr
    have e : stepV b.mode = .func (.func 288) #[] #[] := by rw [m0]; rfl
    rw [e]
    (repeat (first | ((first | refine pas_plain rfl ?_ | refine pas_g rfl rfl ?_ | refine act_plain rfl ?_ | refine act_g rfl rfl ?_ | refine last_plain rfl ?_ | refine tail_plain rfl ?_ | refine tail_g rfl rfl ?_); (repeat simp only [push_cast, seval, -Nat.reduceSubDiff])) | (refine tail_fin ?_) | (refine sch_fin ?_)))
    (repeat first|(with_reducible first|(refine hK _ _ ?_;clear hK K)|refine ‹∀σ w,_→K σ w› _ _ ?_|(refine W_st ?_;constructor;try intro K hK))|((with_reducible first|refine hZ _ _ ?_|refine W_rg ?_|skip);repeat1' simp only[push_cast,seval,-Nat.reduceSubDiff])|((repeat((fail_if_success with_reducible refine hK _ _ ?_);clear hK K));with_reducible refine hK _ _ ?_;clear hK K))
    refine (barena_c h1d).mono ?_
    intro v w' ⟨hv, hw⟩
    subst hv; subst w'
    (repeat first|(with_reducible first|(refine hK _ _ ?_;clear hK K)|refine ‹∀σ w,_→K σ w› _ _ ?_|(refine W_st ?_;constructor;try intro K hK))|((with_reducible first|refine hZ _ _ ?_|refine W_rg ?_|skip);repeat1' simp only[push_cast,seval,-Nat.reduceSubDiff])|((repeat((fail_if_success with_reducible refine hK _ _ ?_);clear hK K));with_reducible refine hK _ _ ?_;clear hK K))
    refine ⟨.bool false, fun _ => by kernel_rfl, ?_⟩
    (repeat first|(with_reducible first|(refine hK _ _ ?_;clear hK K)|refine ‹∀σ w,_→K σ w› _ _ ?_|(refine W_st ?_;constructor;try intro K hK))|((with_reducible first|refine hZ _ _ ?_|refine W_rg ?_|skip);repeat1' simp only[push_cast,seval,-Nat.reduceSubDiff,cell_h,cellO_cells,hpd])|((repeat((fail_if_success with_reducible refine hK _ _ ?_);clear hK K));with_reducible refine hK _ _ ?_;clear hK K))
    rw [← hrow]
    refine (initial_c h1d (hO.mono (by decide)) hg hM hQd ha0 ht).mono ?_
    rintro v w2 ⟨rfl, h2, hu2⟩
    (repeat first|(with_reducible first|(refine hK _ _ ?_;clear hK K)|refine ‹∀σ w,_→K σ w› _ _ ?_|(refine W_st ?_;constructor;try intro K hK))|((with_reducible first|refine hZ _ _ ?_|refine W_rg ?_|skip);repeat1' simp only[push_cast,seval,-Nat.reduceSubDiff])|((repeat((fail_if_success with_reducible refine hK _ _ ?_);clear hK K));with_reducible refine hK _ _ ?_;clear hK K))
    exact ⟨by rw [hr], by rw [hr]; exact h2, Upd.trans (hx.trans hxd).upd hu2 fun _ _ h => h⟩
  by_cases m1 : b.mode = 1
  · rw [if_neg m0, if_pos m1] at hr
    have e : stepV b.mode = .func (.func 289) #[] #[] := by rw [m1]; rfl
    rw [e]
    (repeat (first | ((first | refine pas_plain rfl ?_ | refine pas_g rfl rfl ?_ | refine act_plain rfl ?_ | refine act_g rfl rfl ?_ | refine last_plain rfl ?_ | refine tail_plain rfl ?_ | refine tail_g rfl rfl ?_); (repeat simp only [push_cast, seval, -Nat.reduceSubDiff])) | (refine tail_fin ?_) | (refine sch_fin ?_)))
    (repeat first|(with_reducible first|(refine hK _ _ ?_;clear hK K)|refine ‹∀σ w,_→K σ w› _ _ ?_|(refine W_st ?_;constructor;try intro K hK))|((with_reducible first|refine hZ _ _ ?_|refine W_rg ?_|skip);repeat1' simp only[push_cast,seval,-Nat.reduceSubDiff])|((repeat((fail_if_success with_reducible refine hK _ _ ?_);clear hK K));with_reducible refine hK _ _ ?_;clear hK K))
    refine (barena_c h1d).mono ?_
    intro v w' ⟨hv, hw⟩
    subst hv; subst w'
    (repeat first|(with_reducible first|(refine hK _ _ ?_;clear hK K)|refine ‹∀σ w,_→K σ w› _ _ ?_|(refine W_st ?_;constructor;try intro K hK))|((with_reducible first|refine hZ _ _ ?_|refine W_rg ?_|skip);repeat1' simp only[push_cast,seval,-Nat.reduceSubDiff])|((repeat((fail_if_success with_reducible refine hK _ _ ?_);clear hK K));with_reducible refine hK _ _ ?_;clear hK K))
    refine ⟨.bool false, fun _ => by kernel_rfl, ?_⟩
    (repeat first|(with_reducible first|(refine hK _ _ ?_;clear hK K)|refine ‹∀σ w,_→K σ w› _ _ ?_|(refine W_st ?_;constructor;try intro K hK))|((with_reducible first|refine hZ _ _ ?_|refine W_rg ?_|skip);repeat1' simp only[push_cast,seval,-Nat.reduceSubDiff,cell_h,cellO_cells,hpd])|((repeat((fail_if_success with_reducible refine hK _ _ ?_);clear hK K));with_reducible refine hK _ _ ?_;clear hK K))
    rw [← hrow]
    refine (beforeHTML_c h1d (hO.mono (by decide)) hg hM hQd ha0 ht).mono ?_
    rintro v w2 ⟨rfl, h2, hu2⟩
    (repeat first|(with_reducible first|(refine hK _ _ ?_;clear hK K)|refine ‹∀σ w,_→K σ w› _ _ ?_|(refine W_st ?_;constructor;try intro K hK))|((with_reducible first|refine hZ _ _ ?_|refine W_rg ?_|skip);repeat1' simp only[push_cast,seval,-Nat.reduceSubDiff])|((repeat((fail_if_success with_reducible refine hK _ _ ?_);clear hK K));with_reducible refine hK _ _ ?_;clear hK K))
    exact ⟨by rw [hr], by rw [hr]; exact h2, Upd.trans (hx.trans hxd).upd hu2 fun _ _ h => h⟩
  by_cases m2 : b.mode = 2
  · rw [if_neg m0, if_neg m1, if_pos m2] at hr
    have e : stepV b.mode = .func (.func 290) #[] #[] := by rw [m2]; rfl
    rw [e]
    (repeat (first | ((first | refine pas_plain rfl ?_ | refine pas_g rfl rfl ?_ | refine act_plain rfl ?_ | refine act_g rfl rfl ?_ | refine last_plain rfl ?_ | refine tail_plain rfl ?_ | refine tail_g rfl rfl ?_); (repeat simp only [push_cast, seval, -Nat.reduceSubDiff])) | (refine tail_fin ?_) | (refine sch_fin ?_)))
    (repeat first|(with_reducible first|(refine hK _ _ ?_;clear hK K)|refine ‹∀σ w,_→K σ w› _ _ ?_|(refine W_st ?_;constructor;try intro K hK))|((with_reducible first|refine hZ _ _ ?_|refine W_rg ?_|skip);repeat1' simp only[push_cast,seval,-Nat.reduceSubDiff])|((repeat((fail_if_success with_reducible refine hK _ _ ?_);clear hK K));with_reducible refine hK _ _ ?_;clear hK K))
    refine (barena_c h1d).mono ?_
    intro v w' ⟨hv, hw⟩
    subst hv; subst w'
    (repeat first|(with_reducible first|(refine hK _ _ ?_;clear hK K)|refine ‹∀σ w,_→K σ w› _ _ ?_|(refine W_st ?_;constructor;try intro K hK))|((with_reducible first|refine hZ _ _ ?_|refine W_rg ?_|skip);repeat1' simp only[push_cast,seval,-Nat.reduceSubDiff])|((repeat((fail_if_success with_reducible refine hK _ _ ?_);clear hK K));with_reducible refine hK _ _ ?_;clear hK K))
    refine ⟨.bool false, fun _ => by kernel_rfl, ?_⟩
    (repeat first|(with_reducible first|(refine hK _ _ ?_;clear hK K)|refine ‹∀σ w,_→K σ w› _ _ ?_|(refine W_st ?_;constructor;try intro K hK))|((with_reducible first|refine hZ _ _ ?_|refine W_rg ?_|skip);repeat1' simp only[push_cast,seval,-Nat.reduceSubDiff,cell_h,cellO_cells,hpd])|((repeat((fail_if_success with_reducible refine hK _ _ ?_);clear hK K));with_reducible refine hK _ _ ?_;clear hK K))
    rw [← hrow]
    refine (beforeHead_c h1d (hO.mono (by decide)) hg hM hQd ha0 ht).mono ?_
    rintro v w2 ⟨rfl, h2, hu2⟩
    (repeat first|(with_reducible first|(refine hK _ _ ?_;clear hK K)|refine ‹∀σ w,_→K σ w› _ _ ?_|(refine W_st ?_;constructor;try intro K hK))|((with_reducible first|refine hZ _ _ ?_|refine W_rg ?_|skip);repeat1' simp only[push_cast,seval,-Nat.reduceSubDiff])|((repeat((fail_if_success with_reducible refine hK _ _ ?_);clear hK K));with_reducible refine hK _ _ ?_;clear hK K))
    exact ⟨by rw [hr], by rw [hr]; exact h2, Upd.trans (hx.trans hxd).upd hu2 fun _ _ h => h⟩
  by_cases m3 : b.mode = 3
  · rw [if_neg m0, if_neg m1, if_neg m2, if_pos m3] at hr
    have e : stepV b.mode = .func (.func 61) #[] #[] := by rw [m3]; rfl
    rw [e]
    (repeat (first | ((first | refine pas_plain rfl ?_ | refine pas_g rfl rfl ?_ | refine act_plain rfl ?_ | refine act_g rfl rfl ?_ | refine last_plain rfl ?_ | refine tail_plain rfl ?_ | refine tail_g rfl rfl ?_); (repeat simp only [push_cast, seval, -Nat.reduceSubDiff])) | (refine tail_fin ?_) | (refine sch_fin ?_)))
    (repeat first|(with_reducible first|(refine hK _ _ ?_;clear hK K)|refine ‹∀σ w,_→K σ w› _ _ ?_|(refine W_st ?_;constructor;try intro K hK))|((with_reducible first|refine hZ _ _ ?_|refine W_rg ?_|skip);repeat1' simp only[push_cast,seval,-Nat.reduceSubDiff])|((repeat((fail_if_success with_reducible refine hK _ _ ?_);clear hK K));with_reducible refine hK _ _ ?_;clear hK K))
    refine (barena_c h1d).mono ?_
    intro v w' ⟨hv, hw⟩
    subst hv; subst w'
    (repeat first|(with_reducible first|(refine hK _ _ ?_;clear hK K)|refine ‹∀σ w,_→K σ w› _ _ ?_|(refine W_st ?_;constructor;try intro K hK))|((with_reducible first|refine hZ _ _ ?_|refine W_rg ?_|skip);repeat1' simp only[push_cast,seval,-Nat.reduceSubDiff])|((repeat((fail_if_success with_reducible refine hK _ _ ?_);clear hK K));with_reducible refine hK _ _ ?_;clear hK K))
    refine ⟨.bool false, fun _ => by kernel_rfl, ?_⟩
    (repeat first|(with_reducible first|(refine hK _ _ ?_;clear hK K)|refine ‹∀σ w,_→K σ w› _ _ ?_|(refine W_st ?_;constructor;try intro K hK))|((with_reducible first|refine hZ _ _ ?_|refine W_rg ?_|skip);repeat1' simp only[push_cast,seval,-Nat.reduceSubDiff,cell_h,cellO_cells,hpd])|((repeat((fail_if_success with_reducible refine hK _ _ ?_);clear hK K));with_reducible refine hK _ _ ?_;clear hK K))
    rw [← hrow]
    refine (head_c h1d (hO.mono (by decide)) hg hM hQd ha0 ht).mono ?_
    rintro v w2 ⟨rfl, h2, hu2⟩
    (repeat first|(with_reducible first|(refine hK _ _ ?_;clear hK K)|refine ‹∀σ w,_→K σ w› _ _ ?_|(refine W_st ?_;constructor;try intro K hK))|((with_reducible first|refine hZ _ _ ?_|refine W_rg ?_|skip);repeat1' simp only[push_cast,seval,-Nat.reduceSubDiff])|((repeat((fail_if_success with_reducible refine hK _ _ ?_);clear hK K));with_reducible refine hK _ _ ?_;clear hK K))
    exact ⟨by rw [hr], by rw [hr]; exact h2, Upd.trans (hx.trans hxd).upd hu2 fun _ _ h => h⟩
  by_cases m4 : b.mode = 4
  · rw [if_neg m0, if_neg m1, if_neg m2, if_neg m3, if_pos m4] at hr
    have e : stepV b.mode = .func (.func 291) #[] #[] := by rw [m4]; rfl
    rw [e]
    (repeat (first | ((first | refine pas_plain rfl ?_ | refine pas_g rfl rfl ?_ | refine act_plain rfl ?_ | refine act_g rfl rfl ?_ | refine last_plain rfl ?_ | refine tail_plain rfl ?_ | refine tail_g rfl rfl ?_); (repeat simp only [push_cast, seval, -Nat.reduceSubDiff])) | (refine tail_fin ?_) | (refine sch_fin ?_)))
    (repeat first|(with_reducible first|(refine hK _ _ ?_;clear hK K)|refine ‹∀σ w,_→K σ w› _ _ ?_|(refine W_st ?_;constructor;try intro K hK))|((with_reducible first|refine hZ _ _ ?_|refine W_rg ?_|skip);repeat1' simp only[push_cast,seval,-Nat.reduceSubDiff])|((repeat((fail_if_success with_reducible refine hK _ _ ?_);clear hK K));with_reducible refine hK _ _ ?_;clear hK K))
    refine (barena_c h1d).mono ?_
    intro v w' ⟨hv, hw⟩
    subst hv; subst w'
    (repeat first|(with_reducible first|(refine hK _ _ ?_;clear hK K)|refine ‹∀σ w,_→K σ w› _ _ ?_|(refine W_st ?_;constructor;try intro K hK))|((with_reducible first|refine hZ _ _ ?_|refine W_rg ?_|skip);repeat1' simp only[push_cast,seval,-Nat.reduceSubDiff])|((repeat((fail_if_success with_reducible refine hK _ _ ?_);clear hK K));with_reducible refine hK _ _ ?_;clear hK K))
    refine ⟨.bool false, fun _ => by kernel_rfl, ?_⟩
    (repeat first|(with_reducible first|(refine hK _ _ ?_;clear hK K)|refine ‹∀σ w,_→K σ w› _ _ ?_|(refine W_st ?_;constructor;try intro K hK))|((with_reducible first|refine hZ _ _ ?_|refine W_rg ?_|skip);repeat1' simp only[push_cast,seval,-Nat.reduceSubDiff,cell_h,cellO_cells,hpd])|((repeat((fail_if_success with_reducible refine hK _ _ ?_);clear hK K));with_reducible refine hK _ _ ?_;clear hK K))
    rw [← hrow]
    refine (noscript_c h1d (hO.mono (by decide)) hg hM hQd ha0 ht).mono ?_
    rintro v w2 ⟨rfl, h2, hu2⟩
    (repeat first|(with_reducible first|(refine hK _ _ ?_;clear hK K)|refine ‹∀σ w,_→K σ w› _ _ ?_|(refine W_st ?_;constructor;try intro K hK))|((with_reducible first|refine hZ _ _ ?_|refine W_rg ?_|skip);repeat1' simp only[push_cast,seval,-Nat.reduceSubDiff])|((repeat((fail_if_success with_reducible refine hK _ _ ?_);clear hK K));with_reducible refine hK _ _ ?_;clear hK K))
    exact ⟨by rw [hr], by rw [hr]; exact h2, Upd.trans (hx.trans hxd).upd hu2 fun _ _ h => h⟩
  by_cases m5 : b.mode = 5
  · rw [if_neg m0, if_neg m1, if_neg m2, if_neg m3, if_neg m4, if_pos m5] at hr
    have e : stepV b.mode = .func (.func 292) #[] #[] := by rw [m5]; rfl
    rw [e]
    (repeat (first | ((first | refine pas_plain rfl ?_ | refine pas_g rfl rfl ?_ | refine act_plain rfl ?_ | refine act_g rfl rfl ?_ | refine last_plain rfl ?_ | refine tail_plain rfl ?_ | refine tail_g rfl rfl ?_); (repeat simp only [push_cast, seval, -Nat.reduceSubDiff])) | (refine tail_fin ?_) | (refine sch_fin ?_)))
    (repeat first|(with_reducible first|(refine hK _ _ ?_;clear hK K)|refine ‹∀σ w,_→K σ w› _ _ ?_|(refine W_st ?_;constructor;try intro K hK))|((with_reducible first|refine hZ _ _ ?_|refine W_rg ?_|skip);repeat1' simp only[push_cast,seval,-Nat.reduceSubDiff])|((repeat((fail_if_success with_reducible refine hK _ _ ?_);clear hK K));with_reducible refine hK _ _ ?_;clear hK K))
    refine (barena_c h1d).mono ?_
    intro v w' ⟨hv, hw⟩
    subst hv; subst w'
    (repeat first|(with_reducible first|(refine hK _ _ ?_;clear hK K)|refine ‹∀σ w,_→K σ w› _ _ ?_|(refine W_st ?_;constructor;try intro K hK))|((with_reducible first|refine hZ _ _ ?_|refine W_rg ?_|skip);repeat1' simp only[push_cast,seval,-Nat.reduceSubDiff])|((repeat((fail_if_success with_reducible refine hK _ _ ?_);clear hK K));with_reducible refine hK _ _ ?_;clear hK K))
    refine ⟨.bool false, fun _ => by kernel_rfl, ?_⟩
    (repeat first|(with_reducible first|(refine hK _ _ ?_;clear hK K)|refine ‹∀σ w,_→K σ w› _ _ ?_|(refine W_st ?_;constructor;try intro K hK))|((with_reducible first|refine hZ _ _ ?_|refine W_rg ?_|skip);repeat1' simp only[push_cast,seval,-Nat.reduceSubDiff,cell_h,cellO_cells,hpd])|((repeat((fail_if_success with_reducible refine hK _ _ ?_);clear hK K));with_reducible refine hK _ _ ?_;clear hK K))
    rw [← hrow]
    refine (afterHead_c h1d hO hg hM hQd ha0 ht).mono ?_
    rintro v w2 ⟨rfl, h2, hu2⟩
    (repeat first|(with_reducible first|(refine hK _ _ ?_;clear hK K)|refine ‹∀σ w,_→K σ w› _ _ ?_|(refine W_st ?_;constructor;try intro K hK))|((with_reducible first|refine hZ _ _ ?_|refine W_rg ?_|skip);repeat1' simp only[push_cast,seval,-Nat.reduceSubDiff])|((repeat((fail_if_success with_reducible refine hK _ _ ?_);clear hK K));with_reducible refine hK _ _ ?_;clear hK K))
    exact ⟨by rw [hr], by rw [hr]; exact h2, Upd.trans (hx.trans hxd).upd hu2 fun _ _ h => h⟩
  by_cases m7 : b.mode = 7
  · rw [if_neg m0, if_neg m1, if_neg m2, if_neg m3, if_neg m4, if_neg m5, if_pos m7] at hr
    have e : stepV b.mode = .func (.func 293) #[] #[] := by rw [m7]; rfl
    rw [e]
    (repeat (first | ((first | refine pas_plain rfl ?_ | refine pas_g rfl rfl ?_ | refine act_plain rfl ?_ | refine act_g rfl rfl ?_ | refine last_plain rfl ?_ | refine tail_plain rfl ?_ | refine tail_g rfl rfl ?_); (repeat simp only [push_cast, seval, -Nat.reduceSubDiff])) | (refine tail_fin ?_) | (refine sch_fin ?_)))
    (repeat first|(with_reducible first|(refine hK _ _ ?_;clear hK K)|refine ‹∀σ w,_→K σ w› _ _ ?_|(refine W_st ?_;constructor;try intro K hK))|((with_reducible first|refine hZ _ _ ?_|refine W_rg ?_|skip);repeat1' simp only[push_cast,seval,-Nat.reduceSubDiff])|((repeat((fail_if_success with_reducible refine hK _ _ ?_);clear hK K));with_reducible refine hK _ _ ?_;clear hK K))
    refine (barena_c h1d).mono ?_
    intro v w' ⟨hv, hw⟩
    subst hv; subst w'
    (repeat first|(with_reducible first|(refine hK _ _ ?_;clear hK K)|refine ‹∀σ w,_→K σ w› _ _ ?_|(refine W_st ?_;constructor;try intro K hK))|((with_reducible first|refine hZ _ _ ?_|refine W_rg ?_|skip);repeat1' simp only[push_cast,seval,-Nat.reduceSubDiff])|((repeat((fail_if_success with_reducible refine hK _ _ ?_);clear hK K));with_reducible refine hK _ _ ?_;clear hK K))
    refine ⟨.bool false, fun _ => by kernel_rfl, ?_⟩
    (repeat first|(with_reducible first|(refine hK _ _ ?_;clear hK K)|refine ‹∀σ w,_→K σ w› _ _ ?_|(refine W_st ?_;constructor;try intro K hK))|((with_reducible first|refine hZ _ _ ?_|refine W_rg ?_|skip);repeat1' simp only[push_cast,seval,-Nat.reduceSubDiff,cell_h,cellO_cells,hpd])|((repeat((fail_if_success with_reducible refine hK _ _ ?_);clear hK K));with_reducible refine hK _ _ ?_;clear hK K))
    rw [← hrow]
    refine (htext_c h1d (hO.mono (by decide)) hg hM hQd ha0 ht).mono ?_
    rintro v w2 ⟨rfl, h2, hu2⟩
    (repeat first|(with_reducible first|(refine hK _ _ ?_;clear hK K)|refine ‹∀σ w,_→K σ w› _ _ ?_|(refine W_st ?_;constructor;try intro K hK))|((with_reducible first|refine hZ _ _ ?_|refine W_rg ?_|skip);repeat1' simp only[push_cast,seval,-Nat.reduceSubDiff])|((repeat((fail_if_success with_reducible refine hK _ _ ?_);clear hK K));with_reducible refine hK _ _ ?_;clear hK K))
    exact ⟨by rw [hr], by rw [hr]; exact h2, Upd.trans (hx.trans hxd).upd hu2 fun _ _ h => h⟩
  rw [if_neg m0, if_neg m1, if_neg m2, if_neg m3, if_neg m4, if_neg m5, if_neg m7] at hr
  have e : stepV b.mode = .nilFunc := by unfold stepV stepF; rw [if_neg m0, if_neg m1, if_neg m2, if_neg m3, if_neg m4, if_neg m5, if_neg m7]
  rw [e]
  (repeat (first | ((first | refine pas_plain rfl ?_ | refine pas_g rfl rfl ?_ | refine act_plain rfl ?_ | refine act_g rfl rfl ?_ | refine last_plain rfl ?_ | refine tail_plain rfl ?_ | refine tail_g rfl rfl ?_); (repeat simp only [push_cast, seval, -Nat.reduceSubDiff])) | (refine tail_fin ?_) | (refine sch_fin ?_)))
  (repeat first|(with_reducible first|(refine hK _ _ ?_;clear hK K)|refine ‹∀σ w,_→K σ w› _ _ ?_|(refine W_st ?_;constructor;try intro K hK))|((with_reducible first|refine hZ _ _ ?_|refine W_rg ?_|skip);repeat1' simp only[push_cast,seval,-Nat.reduceSubDiff])|((repeat((fail_if_success with_reducible refine hK _ _ ?_);clear hK K));with_reducible refine hK _ _ ?_;clear hK K))
  refine (barena_c h1d).mono ?_
  intro v w' ⟨hv, hw⟩
  subst hv; subst w'
  (repeat first|(with_reducible first|(refine hK _ _ ?_;clear hK K)|refine ‹∀σ w,_→K σ w› _ _ ?_|(refine W_st ?_;constructor;try intro K hK))|((with_reducible first|refine hZ _ _ ?_|refine W_rg ?_|skip);repeat1' simp only[push_cast,seval,-Nat.reduceSubDiff])|((repeat((fail_if_success with_reducible refine hK _ _ ?_);clear hK K));with_reducible refine hK _ _ ?_;clear hK K))
  refine ⟨.bool true, fun _ => by kernel_rfl, ?_⟩
  (repeat first|(with_reducible first|(refine hK _ _ ?_;clear hK K)|refine ‹∀σ w,_→K σ w› _ _ ?_|(refine W_st ?_;constructor;try intro K hK))|((with_reducible first|refine hZ _ _ ?_|refine W_rg ?_|skip);repeat1' simp only[push_cast,seval,-Nat.reduceSubDiff])|((repeat((fail_if_success with_reducible refine hK _ _ ?_);clear hK K));with_reducible refine hK _ _ ?_;clear hK K))
  exact ⟨by rw [hr], by rw [hr]; exact h1d, (hx.trans hxd).upd⟩
end
end Go.Proofs.YtgnnlaeikcnhcaaGreatDoor
end
section
set_option linter.unusedSimpArgs false
set_option linter.unusedVariables false
namespace Go.Vk
open Go
def zRow : Array Value := #[.pointer none, .pointer none, .pointer none, .int .i64 0, .int .i64 0, .slice none 0 0, .int .i64 0, .int .i64 0, .bool false, .bool false, .bool false, .string ⟨#[]⟩, .pointer none, .nilIface]
def NoB (w : World) (pv : Option Addr) : Prop := pv = none ∨ ∃ pb, pv = some ⟨pb, 0, none⟩ ∧ w.heap[pb]? = some (.cells zRow 67 (0, 0))
theorem NoB.ext {w w' : World} {pv : Option Addr} (h : NoB w pv) (hx : Ext w w') : NoB w' pv := h.imp id fun ⟨pb, e, h⟩ => ⟨pb, e, hx.blk h⟩
end Go.Vk
namespace Go.Proofs.YtgnnlaeikcnhcaaGreatDoor
open Go Go.Vk
set_option maxHeartbeats 40000000
section
variable {w : World} {pv : Option Addr}
theorem zbnone_c (h : NoB w pv) : Gives Tryz.prog 95 #[.pointer pv] w fun v w' => v = .bool true ∧ w' = w := by
  rcases h with rfl | ⟨pb, rfl, h⟩
  · refine Gives.of_W Tryz.call95 Tryz.func95 rfl Tryz.ntmps95 (by simp) ?_; intro Z hZ
    (repeat first|(with_reducible first|(refine hK _ _ ?_;clear hK K)|refine ‹∀σ w,_→K σ w› _ _ ?_|(refine W_st ?_;constructor;try intro K hK))|((with_reducible first|refine hZ _ _ ?_|refine W_rg ?_|skip);repeat1' simp only[push_cast,seval,-Nat.reduceSubDiff,eq_self])|((repeat((fail_if_success with_reducible refine hK _ _ ?_);clear hK K));with_reducible refine hK _ _ ?_;clear hK K))
  · unfold zRow at h
    refine Gives.of_W Tryz.call95 Tryz.func95 rfl Tryz.ntmps95 (by simp) ?_; intro Z hZ
    (repeat first|(with_reducible first|(refine hK _ _ ?_;clear hK K)|refine ‹∀σ w,_→K σ w› _ _ ?_|(refine W_st ?_;constructor;try intro K hK))|((with_reducible first|refine hZ _ _ ?_|refine W_rg ?_|skip);repeat1' simp only[push_cast,seval,-Nat.reduceSubDiff,cell_h,cellO_cells,h,eq_self])|((repeat((fail_if_success with_reducible refine hK _ _ ?_);clear hK K));with_reducible refine hK _ _ ?_;clear hK K))
theorem zbarena_c (h : NoB w pv)  : Gives Tryz.prog 25 #[.pointer pv] w fun v w' => v = .pointer none ∧ w' = w := by
  refine Gives.of_W Tryz.call25 Tryz.func25 rfl Tryz.ntmps25 (by simp) ?_; intro Z hZ
  (repeat first|(with_reducible first|(refine hK _ _ ?_;clear hK K)|refine ‹∀σ w,_→K σ w› _ _ ?_|(refine W_st ?_;constructor;try intro K hK))|((with_reducible first|refine hZ _ _ ?_|refine W_rg ?_|skip);repeat1' simp only[push_cast,seval,-Nat.reduceSubDiff])|((repeat((fail_if_success with_reducible refine hK _ _ ?_);clear hK K));with_reducible refine hK _ _ ?_;clear hK K))
  refine (zbnone_c h).mono ?_
  intro v w' ⟨hv, hw⟩
  subst hv; subst w'
  (repeat first|(with_reducible first|(refine hK _ _ ?_;clear hK K)|refine ‹∀σ w,_→K σ w› _ _ ?_|(refine W_st ?_;constructor;try intro K hK))|((with_reducible first|refine hZ _ _ ?_|refine W_rg ?_|skip);repeat1' simp only[push_cast,seval,-Nat.reduceSubDiff])|((repeat((fail_if_success with_reducible refine hK _ _ ?_);clear hK K));with_reducible refine hK _ _ ?_;clear hK K))
theorem zbmode_c (h : NoB w pv)  : Gives Tryz.prog 44 #[.pointer pv] w fun v w' => v = .int .i64 0 ∧ w' = w := by
  refine Gives.of_W Tryz.call44 Tryz.func44 rfl Tryz.ntmps44 (by simp) ?_; intro Z hZ
  (repeat first|(with_reducible first|(refine hK _ _ ?_;clear hK K)|refine ‹∀σ w,_→K σ w› _ _ ?_|(refine W_st ?_;constructor;try intro K hK))|((with_reducible first|refine hZ _ _ ?_|refine W_rg ?_|skip);repeat1' simp only[push_cast,seval,-Nat.reduceSubDiff])|((repeat((fail_if_success with_reducible refine hK _ _ ?_);clear hK K));with_reducible refine hK _ _ ?_;clear hK K))
  refine (zbnone_c h).mono ?_
  intro v w' ⟨hv, hw⟩
  subst hv; subst w'
  (repeat first|(with_reducible first|(refine hK _ _ ?_;clear hK K)|refine ‹∀σ w,_→K σ w› _ _ ?_|(refine W_st ?_;constructor;try intro K hK))|((with_reducible first|refine hZ _ _ ?_|refine W_rg ?_|skip);repeat1' simp only[push_cast,seval,-Nat.reduceSubDiff])|((repeat((fail_if_success with_reducible refine hK _ _ ?_);clear hK K));with_reducible refine hK _ _ ?_;clear hK K))
theorem zbopen_c (h : NoB w pv) (x : ByteArray) : Gives Tryz.prog 83 #[.pointer pv, .string x] w fun v w' => v = .bool false ∧ w' = w := by
  refine Gives.of_W Tryz.call83 Tryz.func83 rfl Tryz.ntmps83 (by simp) ?_; intro Z hZ
  (repeat first|(with_reducible first|(refine hK _ _ ?_;clear hK K)|refine ‹∀σ w,_→K σ w› _ _ ?_|(refine W_st ?_;constructor;try intro K hK))|((with_reducible first|refine hZ _ _ ?_|refine W_rg ?_|skip);repeat1' simp only[push_cast,seval,-Nat.reduceSubDiff])|((repeat((fail_if_success with_reducible refine hK _ _ ?_);clear hK K));with_reducible refine hK _ _ ?_;clear hK K))
  refine (zbnone_c h).mono ?_
  intro v w' ⟨hv, hw⟩
  subst hv; subst w'
  (repeat first|(with_reducible first|(refine hK _ _ ?_;clear hK K)|refine ‹∀σ w,_→K σ w› _ _ ?_|(refine W_st ?_;constructor;try intro K hK))|((with_reducible first|refine hZ _ _ ?_|refine W_rg ?_|skip);repeat1' simp only[push_cast,seval,-Nat.reduceSubDiff])|((repeat((fail_if_success with_reducible refine hK _ _ ?_);clear hK K));with_reducible refine hK _ _ ?_;clear hK K))
end
end Go.Proofs.YtgnnlaeikcnhcaaGreatDoor
end
section
set_option linter.unusedSimpArgs false
set_option linter.unusedVariables false
namespace Go.Proofs.YtgnnlaeikcnhcaaGreatDoor
open Go Go.Vk
set_option maxHeartbeats 40000000
section
variable {w : World} {pv : Option Addr}
theorem zhead_c (h : NoB w pv) (t : HTok) {xa : Option Addr} {xn xc : Nat} : Gives Tryz.prog 61 #[.pointer pv, .agg (t.row (.slice xa xn xc))] w fun v w' => v = .bool false ∧ Ext w w' := by
  have hrow : t.row (.slice xa xn xc) = #[.int .i64 t.kind, .string t.name, .string t.text, .slice xa xn xc, .bool t.dup, .bool t.self, .bool t.quirks, .int .i64 t.frm, .int .i64 t.to] := rfl
  have hx := Ext.alloc w (.cells (t.row (.slice xa xn xc)) 37)
  refine Gives.of_W Tryz.call61 Tryz.func61 rfl Tryz.ntmps61 (by simp) ?_; intro Z hZ
  (repeat first|(with_reducible first|(refine hK _ _ ?_;clear hK K)|refine ‹∀σ w,_→K σ w› _ _ ?_|(refine W_st ?_;constructor;try intro K hK))|((with_reducible first|refine hZ _ _ ?_|refine W_rg ?_|skip);repeat1' simp only[push_cast,seval,-Nat.reduceSubDiff,vcells_agg])|((repeat((fail_if_success with_reducible refine hK _ _ ?_);clear hK K));with_reducible refine hK _ _ ?_;clear hK K))
  generalize w.alloc (.cells (t.row (.slice xa xn xc)) 37) = w1 at *
  refine (zbarena_c (h.ext hx)).mono ?_
  intro v w' ⟨hv, hw⟩
  subst hv; subst w'
  (repeat first|(with_reducible first|(refine hK _ _ ?_;clear hK K)|refine ‹∀σ w,_→K σ w› _ _ ?_|(refine W_st ?_;constructor;try intro K hK))|((with_reducible first|refine hZ _ _ ?_|refine W_rg ?_|skip);repeat1' simp only[push_cast,seval,-Nat.reduceSubDiff,eq_self])|((repeat((fail_if_success with_reducible refine hK _ _ ?_);clear hK K));with_reducible refine hK _ _ ?_;clear hK K))
  exact hx
theorem zover_c (h : NoB w pv) : Gives Tryz.prog 62 #[.pointer pv] w fun v w' => v = .bool false ∧ w' = w := by
  refine Gives.of_W Tryz.call62 Tryz.func62 rfl Tryz.ntmps62 (by simp) ?_; intro Z hZ
  (repeat first|(with_reducible first|(refine hK _ _ ?_;clear hK K)|refine ‹∀σ w,_→K σ w› _ _ ?_|(refine W_st ?_;constructor;try intro K hK))|((with_reducible first|refine hZ _ _ ?_|refine W_rg ?_|skip);repeat1' simp only[push_cast,seval,-Nat.reduceSubDiff])|((repeat((fail_if_success with_reducible refine hK _ _ ?_);clear hK K));with_reducible refine hK _ _ ?_;clear hK K))
  refine (zbopen_c h _).mono ?_
  intro v w' ⟨hv, hw⟩
  subst hv; subst w'
  (repeat first|(with_reducible first|(refine hK _ _ ?_;clear hK K)|refine ‹∀σ w,_→K σ w› _ _ ?_|(refine W_st ?_;constructor;try intro K hK))|((with_reducible first|refine hZ _ _ ?_|refine W_rg ?_|skip);repeat1' simp only[push_cast,seval,-Nat.reduceSubDiff])|((repeat((fail_if_success with_reducible refine hK _ _ ?_);clear hK K));with_reducible refine hK _ _ ?_;clear hK K))
theorem zstep_c {w0 : World} (h : NoB w pv) (hS : GS w0) (hx0 : Ext w0 w) (t : HTok) {xa : Option Addr} {xn xc : Nat} : Gives Tryz.prog 60 #[.pointer pv, .agg (t.row (.slice xa xn xc))] w fun v w' => v = .bool false ∧ Ext w w' := by
  obtain ⟨bm, hcell, hlook⟩ := hS
  have hrow : t.row (.slice xa xn xc) = #[.int .i64 t.kind, .string t.name, .string t.text, .slice xa xn xc, .bool t.dup, .bool t.self, .bool t.quirks, .int .i64 t.frm, .int .i64 t.to] := rfl
  have hx := Ext.alloc w (.cells (t.row (.slice xa xn xc)) 37)
  refine Gives.of_W Tryz.call60 Tryz.func60 rfl Tryz.ntmps60 (by simp) ?_; intro Z hZ
  (repeat first|(with_reducible first|(refine hK _ _ ?_;clear hK K)|refine ‹∀σ w,_→K σ w› _ _ ?_|(refine W_st ?_;constructor;try intro K hK))|((with_reducible first|refine hZ _ _ ?_|refine W_rg ?_|skip);repeat1' simp only[push_cast,seval,-Nat.reduceSubDiff,vcells_agg])|((repeat((fail_if_success with_reducible refine hK _ _ ?_);clear hK K));with_reducible refine hK _ _ ?_;clear hK K))
  generalize w.alloc (.cells (t.row (.slice xa xn xc)) 37) = w1 at *
  have h1 := h.ext hx
  have hc1 := cell_ext (hx0.trans hx) hcell
  refine W_draw (.pas 0 (.pas 1 (.act 2 (.act 3 (.pas 4 .fin))))) (fun q => q = 0) (by decide) mixed (by kernel_rfl) ?_
  have hxd := Ext.drew w1
  have hcd := cell_ext hxd hc1
  have h1d := h1.ext hxd
  generalize w1.drew = wd at *
  (repeat (first | ((first | refine pas_plain rfl ?_ | refine pas_g rfl rfl ?_ | refine act_plain rfl ?_ | refine act_g rfl rfl ?_ | refine last_plain rfl ?_ | refine tail_plain rfl ?_ | refine tail_g rfl rfl ?_); (repeat simp only [push_cast, seval, -Nat.reduceSubDiff, eq_self, true_or, or_true, hcd])) | (refine tail_fin ?_) | (refine sch_fin ?_)))
  refine (zbmode_c h1d).mono ?_
  intro v w' ⟨hv, hw⟩
  subst hv; subst w'
  refine ⟨fun _ _ => rfl, ?_⟩
  (repeat (first | ((first | refine pas_plain rfl ?_ | refine pas_g rfl rfl ?_ | refine act_plain rfl ?_ | refine act_g rfl rfl ?_ | refine last_plain rfl ?_ | refine tail_plain rfl ?_ | refine tail_g rfl rfl ?_); (repeat simp only [push_cast, seval, -Nat.reduceSubDiff, eq_self, true_or, or_true, hcd])) | (refine tail_fin ?_) | (refine sch_fin ?_)))
  refine RunV.of (hlook wd ((hx0.trans hx).trans hxd) 0 (by unfold inI64; omega)) ?_
  refine ⟨fun _ _ => rfl, ?_⟩
  have e : stepV 0 = .func (.func 288) #[] #[] := rfl
  rw [e]
  (repeat (first | ((first | refine pas_plain rfl ?_ | refine pas_g rfl rfl ?_ | refine act_plain rfl ?_ | refine act_g rfl rfl ?_ | refine last_plain rfl ?_ | refine tail_plain rfl ?_ | refine tail_g rfl rfl ?_); (repeat simp only [push_cast, seval, -Nat.reduceSubDiff])) | (refine tail_fin ?_) | (refine sch_fin ?_)))
  (repeat first|(with_reducible first|(refine hK _ _ ?_;clear hK K)|refine ‹∀σ w,_→K σ w› _ _ ?_|(refine W_st ?_;constructor;try intro K hK))|((with_reducible first|refine hZ _ _ ?_|refine W_rg ?_|skip);repeat1' simp only[push_cast,seval,-Nat.reduceSubDiff])|((repeat((fail_if_success with_reducible refine hK _ _ ?_);clear hK K));with_reducible refine hK _ _ ?_;clear hK K))
  refine (zbarena_c h1d).mono ?_
  intro v w' ⟨hv, hw⟩
  subst hv; subst w'
  (repeat first|(with_reducible first|(refine hK _ _ ?_;clear hK K)|refine ‹∀σ w,_→K σ w› _ _ ?_|(refine W_st ?_;constructor;try intro K hK))|((with_reducible first|refine hZ _ _ ?_|refine W_rg ?_|skip);repeat1' simp only[push_cast,seval,-Nat.reduceSubDiff,eq_self])|((repeat((fail_if_success with_reducible refine hK _ _ ?_);clear hK K));with_reducible refine hK _ _ ?_;clear hK K))
  exact hx.trans hxd
end
end Go.Proofs.YtgnnlaeikcnhcaaGreatDoor
end
section
set_option linter.unusedSimpArgs false
set_option linter.unusedVariables false
namespace Go.Vk
def ownM (k : Int) : Bool := (decide (0 ≤ k) && decide (k ≤ 5)) || decide (k = 7)
end Go.Vk
namespace Go.Proofs.YtgnnlaeikcnhcaaGreatDoor
open Go Go.Vk
set_option maxHeartbeats 40000000
theorem own19_c {w : World} (k : Int) : Gives Tryz.prog 85 #[.int .i64 k] w fun v w' => v = .bool (ownM k) ∧ w' = w := by
  unfold ownM
  by_cases h0 : 0 ≤ k
  · by_cases h5 : k ≤ 5
    · rw [decide_eq_true h0, decide_eq_true h5]
      refine Gives.of_W Tryz.call85 Tryz.func85 rfl Tryz.ntmps85 (by simp) ?_; intro Z hZ
      (repeat first|(with_reducible first|(refine hK _ _ ?_;clear hK K)|refine ‹∀σ w,_→K σ w› _ _ ?_|(refine W_st ?_;constructor;try intro K hK))|((with_reducible first|refine hZ _ _ ?_|refine W_rg ?_|skip);repeat1' simp only[push_cast,seval,-Nat.reduceSubDiff,h0,h5])|((repeat((fail_if_success with_reducible refine hK _ _ ?_);clear hK K));with_reducible refine hK _ _ ?_;clear hK K))
    · have h5' := eq_false h5
      by_cases h7 : k = 7
      · subst h7
        refine Gives.of_W Tryz.call85 Tryz.func85 rfl Tryz.ntmps85 (by simp) ?_; intro Z hZ
        (repeat first|(with_reducible first|(refine hK _ _ ?_;clear hK K)|refine ‹∀σ w,_→K σ w› _ _ ?_|(refine W_st ?_;constructor;try intro K hK))|((with_reducible first|refine hZ _ _ ?_|refine W_rg ?_|skip);repeat1' simp only[push_cast,seval,-Nat.reduceSubDiff,h5'])|((repeat((fail_if_success with_reducible refine hK _ _ ?_);clear hK K));with_reducible refine hK _ _ ?_;clear hK K))
        try rfl
      · have h7' := eq_false h7
        rw [decide_eq_true h0, decide_eq_false h5, decide_eq_false h7]
        refine Gives.of_W Tryz.call85 Tryz.func85 rfl Tryz.ntmps85 (by simp) ?_; intro Z hZ
        (repeat first|(with_reducible first|(refine hK _ _ ?_;clear hK K)|refine ‹∀σ w,_→K σ w› _ _ ?_|(refine W_st ?_;constructor;try intro K hK))|((with_reducible first|refine hZ _ _ ?_|refine W_rg ?_|skip);repeat1' simp only[push_cast,seval,-Nat.reduceSubDiff,h0,h5',h7'])|((repeat((fail_if_success with_reducible refine hK _ _ ?_);clear hK K));with_reducible refine hK _ _ ?_;clear hK K))
  · have h0' := eq_false h0
    have h7 : ¬ k = 7 := by omega
    have h7' := eq_false h7
    rw [decide_eq_false h0, decide_eq_false h7]
    refine Gives.of_W Tryz.call85 Tryz.func85 rfl Tryz.ntmps85 (by simp) ?_; intro Z hZ
    (repeat first|(with_reducible first|(refine hK _ _ ?_;clear hK K)|refine ‹∀σ w,_→K σ w› _ _ ?_|(refine W_st ?_;constructor;try intro K hK))|((with_reducible first|refine hZ _ _ ?_|refine W_rg ?_|skip);repeat1' simp only[push_cast,seval,-Nat.reduceSubDiff,h0',h7'])|((repeat((fail_if_success with_reducible refine hK _ _ ?_);clear hK K));with_reducible refine hK _ _ ?_;clear hK K))
end Go.Proofs.YtgnnlaeikcnhcaaGreatDoor
end
section
set_option linter.unusedSimpArgs false
set_option linter.unusedVariables false
namespace Go.Vk
open Go
def tok19 (k : Int) (x : ByteArray) : HTok := ⟨k, x, ⟨#[]⟩, [], false, false, false, 0, 0⟩
end Go.Vk
namespace Go.Proofs.YtgnnlaeikcnhcaaGreatDoor
open Go Go.Vk
set_option maxHeartbeats 40000000
theorem start19_c {w : World} (x : ByteArray) : Gives Tryz.prog 63 #[.string x] w fun v w' => v = .agg ((tok19 2 x).row (.slice none 0 0)) ∧ Ext w w' := by
  refine Gives.of_W Tryz.call63 Tryz.func63 rfl Tryz.ntmps63 (by simp) ?_; intro Z hZ
  (repeat first|(with_reducible first|(refine hK _ _ ?_;clear hK K)|refine ‹∀σ w,_→K σ w› _ _ ?_|(refine W_st ?_;constructor;try intro K hK))|((with_reducible first|refine hZ _ _ ?_|refine W_rg ?_|skip);repeat1' simp only[push_cast,seval,-Nat.reduceSubDiff,RunV_zero Tryz.zeroValue37])|((repeat((fail_if_success with_reducible refine hK _ _ ?_);clear hK K));with_reducible refine hK _ _ ?_;clear hK K))
  refine build_struct Tryz.zeroValue37 unTo plTo (cs := #[.int .i64 2, .string x, .string ⟨#[]⟩, .slice none 0 0, .bool false, .bool false, .bool false, .int .i64 0, .int .i64 0]) (by rfl) ?_
  (repeat first|(with_reducible first|(refine hK _ _ ?_;clear hK K)|refine ‹∀σ w,_→K σ w› _ _ ?_|(refine W_st ?_;constructor;try intro K hK))|((with_reducible first|refine hZ _ _ ?_|refine W_rg ?_|skip);repeat1' simp only[push_cast,seval,-Nat.reduceSubDiff])|((repeat((fail_if_success with_reducible refine hK _ _ ?_);clear hK K));with_reducible refine hK _ _ ?_;clear hK K))
  simp only [vcells_agg, can_h, heap_alloc_h, if_true, canO_cells, List.size_toArray, List.length_cons, List.length_nil, Nat.zero_add, Nat.reduceAdd, Nat.reduceLT, true_and]
  have z1 : (w.alloc (.cells #[.int .i64 0, .string ⟨#[]⟩, .string ⟨#[]⟩, .slice none 0 0, .bool false, .bool false, .bool false, .int .i64 0, .int .i64 0] 37)).heap[w.heap.size]? = some (.cells #[.int .i64 0, .string ⟨#[]⟩, .string ⟨#[]⟩, .slice none 0 0, .bool false, .bool false, .bool false, .int .i64 0, .int .i64 0] 37 (0, 0)) := by rw [heap_alloc_h, if_pos rfl]
  have hp3 := setCells_all z1 (l := [.int .i64 2, .string x, .string ⟨#[]⟩, .slice none 0 0, .bool false, .bool false, .bool false, .int .i64 0, .int .i64 0]) rfl
  have hx3 : Ext w (setCells (w.alloc (.cells #[.int .i64 0, .string ⟨#[]⟩, .string ⟨#[]⟩, .slice none 0 0, .bool false, .bool false, .bool false, .int .i64 0, .int .i64 0] 37)) ⟨w.heap.size, 0, none⟩ [.int .i64 2, .string x, .string ⟨#[]⟩, .slice none 0 0, .bool false, .bool false, .bool false, .int .i64 0, .int .i64 0] 0) := Upd.trans (Ext.alloc w _) (Upd.setCells (F := fun b => b = w.heap.size) (a := ⟨w.heap.size, 0, none⟩) _ rfl _ 0) fun i hi e => by omega
  generalize setCells (w.alloc (.cells #[.int .i64 0, .string ⟨#[]⟩, .string ⟨#[]⟩, .slice none 0 0, .bool false, .bool false, .bool false, .int .i64 0, .int .i64 0] 37)) ⟨w.heap.size, 0, none⟩ [.int .i64 2, .string x, .string ⟨#[]⟩, .slice none 0 0, .bool false, .bool false, .bool false, .int .i64 0, .int .i64 0] 0 = w3 at *
  (repeat first|(with_reducible first|(refine hK _ _ ?_;clear hK K)|refine ‹∀σ w,_→K σ w› _ _ ?_|(refine W_st ?_;constructor;try intro K hK))|((with_reducible first|refine hZ _ _ ?_|refine W_rg ?_|skip);repeat1' simp only[push_cast,seval,-Nat.reduceSubDiff,cell_h,hp3,cellO_cells])|((repeat((fail_if_success with_reducible refine hK _ _ ?_);clear hK K));with_reducible refine hK _ _ ?_;clear hK K))
  exact ⟨rfl, hx3⟩
theorem end19_c {w : World} (x : ByteArray) : Gives Tryz.prog 58 #[.string x] w fun v w' => v = .agg ((tok19 3 x).row (.slice none 0 0)) ∧ Ext w w' := by
  refine Gives.of_W Tryz.call58 Tryz.func58 rfl Tryz.ntmps58 (by simp) ?_; intro Z hZ
  (repeat first|(with_reducible first|(refine hK _ _ ?_;clear hK K)|refine ‹∀σ w,_→K σ w› _ _ ?_|(refine W_st ?_;constructor;try intro K hK))|((with_reducible first|refine hZ _ _ ?_|refine W_rg ?_|skip);repeat1' simp only[push_cast,seval,-Nat.reduceSubDiff,RunV_zero Tryz.zeroValue37])|((repeat((fail_if_success with_reducible refine hK _ _ ?_);clear hK K));with_reducible refine hK _ _ ?_;clear hK K))
  refine build_struct Tryz.zeroValue37 unTo plTo (cs := #[.int .i64 3, .string x, .string ⟨#[]⟩, .slice none 0 0, .bool false, .bool false, .bool false, .int .i64 0, .int .i64 0]) (by rfl) ?_
  (repeat first|(with_reducible first|(refine hK _ _ ?_;clear hK K)|refine ‹∀σ w,_→K σ w› _ _ ?_|(refine W_st ?_;constructor;try intro K hK))|((with_reducible first|refine hZ _ _ ?_|refine W_rg ?_|skip);repeat1' simp only[push_cast,seval,-Nat.reduceSubDiff])|((repeat((fail_if_success with_reducible refine hK _ _ ?_);clear hK K));with_reducible refine hK _ _ ?_;clear hK K))
  simp only [vcells_agg, can_h, heap_alloc_h, if_true, canO_cells, List.size_toArray, List.length_cons, List.length_nil, Nat.zero_add, Nat.reduceAdd, Nat.reduceLT, true_and]
  have z1 : (w.alloc (.cells #[.int .i64 0, .string ⟨#[]⟩, .string ⟨#[]⟩, .slice none 0 0, .bool false, .bool false, .bool false, .int .i64 0, .int .i64 0] 37)).heap[w.heap.size]? = some (.cells #[.int .i64 0, .string ⟨#[]⟩, .string ⟨#[]⟩, .slice none 0 0, .bool false, .bool false, .bool false, .int .i64 0, .int .i64 0] 37 (0, 0)) := by rw [heap_alloc_h, if_pos rfl]
  have hp3 := setCells_all z1 (l := [.int .i64 3, .string x, .string ⟨#[]⟩, .slice none 0 0, .bool false, .bool false, .bool false, .int .i64 0, .int .i64 0]) rfl
  have hx3 : Ext w (setCells (w.alloc (.cells #[.int .i64 0, .string ⟨#[]⟩, .string ⟨#[]⟩, .slice none 0 0, .bool false, .bool false, .bool false, .int .i64 0, .int .i64 0] 37)) ⟨w.heap.size, 0, none⟩ [.int .i64 3, .string x, .string ⟨#[]⟩, .slice none 0 0, .bool false, .bool false, .bool false, .int .i64 0, .int .i64 0] 0) := Upd.trans (Ext.alloc w _) (Upd.setCells (F := fun b => b = w.heap.size) (a := ⟨w.heap.size, 0, none⟩) _ rfl _ 0) fun i hi e => by omega
  generalize setCells (w.alloc (.cells #[.int .i64 0, .string ⟨#[]⟩, .string ⟨#[]⟩, .slice none 0 0, .bool false, .bool false, .bool false, .int .i64 0, .int .i64 0] 37)) ⟨w.heap.size, 0, none⟩ [.int .i64 3, .string x, .string ⟨#[]⟩, .slice none 0 0, .bool false, .bool false, .bool false, .int .i64 0, .int .i64 0] 0 = w3 at *
  (repeat first|(with_reducible first|(refine hK _ _ ?_;clear hK K)|refine ‹∀σ w,_→K σ w› _ _ ?_|(refine W_st ?_;constructor;try intro K hK))|((with_reducible first|refine hZ _ _ ?_|refine W_rg ?_|skip);repeat1' simp only[push_cast,seval,-Nat.reduceSubDiff,cell_h,hp3,cellO_cells])|((repeat((fail_if_success with_reducible refine hK _ _ ?_);clear hK K));with_reducible refine hK _ _ ?_;clear hK K))
  exact ⟨rfl, hx3⟩
end Go.Proofs.YtgnnlaeikcnhcaaGreatDoor
end
