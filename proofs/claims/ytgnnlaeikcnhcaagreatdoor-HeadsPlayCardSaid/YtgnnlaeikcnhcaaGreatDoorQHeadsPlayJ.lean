/- What the proof leans on,part 10 of 15. -/
import Derived.Test.YtgnnlaeikcnhcaaGreatDoorQHeadsPlayI
set_option linter.unusedSimpArgs false
set_option linter.unusedVariables false
section
namespace Go.Proofs.YtgnnlaeikcnhcaaGreatDoor
open Go Go.Vk
set_option maxHeartbeats 40000000
section
variable {w0 w : World} {Q : Nat → Prop} {pb ps pl pa : Nat} {b : BSt}
theorem afterHead_c (h : BuAt w0 w Q pb ps pl pa b) (hO : HdO 6 b) (hg : GB w0) (hM : MaxAt w0) (hQl : ∀ q,Q q → q < w.heap.size) {t : HTok} {av : Value} (ha0 : RdAt w0 2 av (attrCells t.attrs)) (ht : SmT t) :
    Gives Tryz.prog 292 #[.pointer (some ⟨pb,0,none⟩),.agg (t.row av)] w fun v w' => v = .bool (afterH b t).2 ∧ BuAt w0 w' Q pb ps pl pa (afterH b t).1 ∧ Upd (AF w0 Q) w w' := by
  have ha := ha0.ext h.out
  obtain ⟨xa,xn,xc,eav,_⟩ := id ha
  subst eav
  have hrow : t.row (.slice xa xn xc) = #[.int .i64 t.kind,.string t.name,.string t.text,.slice xa xn xc,.bool t.dup,.bool t.self,.bool t.quirks,.int .i64 t.frm,.int .i64 t.to] := rfl
  have hx := Ext.alloc w (.cells (t.row (.slice xa xn xc)) 37)
  have hp : (w.alloc (.cells (t.row (.slice xa xn xc)) 37)).heap[w.heap.size]? = some (.cells (t.row (.slice xa xn xc)) 37 (0,0)) := by rw [heap_alloc_h,if_pos rfl]
  obtain ⟨r,hr⟩ : ∃ r,r = afterH b t := ⟨_,rfl⟩
  rw [← hr]
  unfold afterH at hr
  have hL := hO.L
  have hok := hO.ok
  refine Gives.of_W Tryz.call292 Tryz.func292 rfl Tryz.ntmps292 (by simp) ?_; intro Z hZ
  (repeat revert hK K);refine W1 @vcells_agg ?_;repeat with_reducible intro K hK
  generalize w.alloc (.cells (t.row (.slice xa xn xc)) 37) = w1 at *
  obtain ⟨p,hpe⟩ : ∃ p,p = w.heap.size := ⟨_,rfl⟩
  rw [← hpe] at hp ⊢
  rw [hrow] at hp
  have h1 := h.pass hx
  have hx1 := hx
  have hp1 := hp
  by_cases k5 : t.kind = 5
  · have k5' := eq_true k5
    rw [if_pos k5] at hr
    (repeat revert hK K);refine Wc2 @hp1 @k5' ?_;repeat with_reducible intro K hK
    refine (bchars_c h1 hok t.text ht.2.1 hO.txt).mono ?_
    rintro v w2 ⟨h2,hu2⟩
    (repeat revert hK K);refine W0 ?_;repeat with_reducible intro K hK
    exact ⟨by rw [hr],by rw [hr]; exact h2,Upd.trans (hx1.upd) hu2 fun _ _ h => h⟩
  have k5' := eq_false k5
  rw [if_neg k5] at hr
  by_cases k4 : t.kind = 4
  · have k4' := eq_true k4
    rw [if_pos k4] at hr
    (repeat revert hK K);refine Wc3 @hp1 @k5' @k4' ?_;repeat with_reducible intro K hK
    rw [← hrow]
    refine (bcomment_c h1 hok (by omega) (fun q hq => by have := hQl q hq; have := hx1.sz; omega) t (-1)).mono ?_
    rintro v w2 ⟨h2,hu2⟩
    (repeat revert hK K);refine W0 ?_;repeat with_reducible intro K hK
    exact ⟨by rw [hr],by rw [hr]; exact h2,Upd.trans (hx1.upd) hu2 fun _ _ h => h⟩
  have k4' := eq_false k4
  rw [if_neg k4] at hr
  by_cases k1 : t.kind = 1
  · have k1' := eq_true k1
    rw [if_pos (.inl k1)] at hr
    (repeat revert hK K);refine Wc4 @hp1 @k5' @k4' @k1' ?_;repeat with_reducible intro K hK
    exact ⟨by rw [hr],by rw [hr]; exact h1,hx1.upd⟩
  have k1' := eq_false k1
  (repeat revert hK K);refine Wc4 @hp1 @k5' @k4' @k1' ?_;repeat with_reducible intro K hK
  refine bsl (l := lHF) rfl (by decide) (by decide) (by kernel_rfl) ?_
  rintro v w2 hy2 hn2 ⟨bn2,rfl⟩
  (repeat revert hK K);refine W0 ?_;repeat with_reducible intro K hK
  rw [← hrow]
  refine (hstart_c hn2 (by decide)).mono ?_
  rintro v w3 ⟨rfl,hy3⟩
  have hx3 := (hx1.trans hy2).trans hy3
  have hp3 := (hy2.trans hy3).blk hp1
  have h3 := h1.pass (hy2.trans hy3)
  by_cases s1 : startT t lHF = true
  · rw [if_pos (.inr s1)] at hr
    (repeat revert hK K);refine Wc2 @hp3 @s1 ?_;repeat with_reducible intro K hK
    exact ⟨by rw [hr],by rw [hr]; exact h3,hx3.upd⟩
  rw [if_neg (fun h => h.elim k1 s1)] at hr
  have s1' := eq_false_of_ne_true s1
  (repeat revert hK K);refine Wc2 @hp3 @s1' ?_;repeat with_reducible intro K hK
  refine bsl (l := lHtml) rfl (by decide) (by decide) (by kernel_rfl) ?_
  rintro v w4 hy4 hn4 ⟨bn4,rfl⟩
  (repeat revert hK K);refine W0 ?_;repeat with_reducible intro K hK
  rw [← hrow]
  refine (hstart_c hn4 (by decide)).mono ?_
  rintro v w5 ⟨rfl,hy5⟩
  have hx5 := (hx3.trans hy4).trans hy5
  have hp5 := (hy4.trans hy5).blk hp3
  have h5 := h3.pass (hy4.trans hy5)
  by_cases s2 : startT t lHtml = true
  · rw [if_pos s2] at hr
    (repeat revert hK K);refine Wc2 @hp5 @s2 ?_;repeat with_reducible intro K hK
    rw [← hrow]
    refine (bmore_c h5 hok (fun q hq => by have := hQl q hq; have := hx5.sz; omega) ha0 ht.2.2).mono ?_
    rintro v w6 ⟨h6,hu6⟩
    (repeat revert hK K);refine W0 ?_;repeat with_reducible intro K hK
    exact ⟨by rw [hr],by rw [hr]; exact h6,Upd.trans (hx5.upd) hu6 fun _ _ h => h⟩
  rw [if_neg s2] at hr
  have s2' := eq_false_of_ne_true s2
  (repeat revert hK K);refine Wc2 @hp5 @s2' ?_;repeat with_reducible intro K hK
  refine bsl (l := lBody) rfl (by decide) (by decide) (by kernel_rfl) ?_
  rintro v w6 hy6 hn6 ⟨bn6,rfl⟩
  (repeat revert hK K);refine W0 ?_;repeat with_reducible intro K hK
  rw [← hrow]
  refine (hstart_c hn6 (by decide)).mono ?_
  rintro v w7 ⟨rfl,hy7⟩
  have hx7 := (hx5.trans hy6).trans hy7
  have hp7 := (hy6.trans hy7).blk hp5
  have h7 := h5.pass (hy6.trans hy7)
  by_cases s3 : startT t lBody = true
  · rw [if_pos s3] at hr
    (repeat revert hK K);refine Wc2 @hp7 @s3 ?_;repeat with_reducible intro K hK
    rw [← hrow]
    refine (binsert_c h7 hok (by omega) (fun q hq => by have := hQl q hq; have := hx7.sz; omega) (ha.ext hx7) ht.2.2 0).mono ?_
    rintro v w8 ⟨rfl,h8,hu8⟩
    (repeat revert hK K);refine W0 ?_;repeat with_reducible intro K hK
    refine (bset_c h8 6).mono ?_
    rintro v w9 ⟨h9,hu9⟩
    (repeat revert hK K);refine W0 ?_;repeat with_reducible intro K hK
    exact ⟨by rw [hr],by rw [hr]; exact h9,Upd.trans (Upd.trans (hx7.upd) hu8 fun _ _ h => h) hu9 fun _ _ h => h⟩
  rw [if_neg s3] at hr
  have s3' := eq_false_of_ne_true s3
  (repeat revert hK K);refine Wc2 @hp7 @s3' ?_;repeat with_reducible intro K hK
  refine bsl (l := lTem) rfl (by decide) (by decide) (by kernel_rfl) ?_
  rintro v w8 hy8 hn8 ⟨bn8,rfl⟩
  (repeat revert hK K);refine W0 ?_;repeat with_reducible intro K hK
  rw [← hrow]
  refine (hend_c hn8 (by decide)).mono ?_
  rintro v w9 ⟨rfl,hy9⟩
  have hx9 := (hx7.trans hy8).trans hy9
  have hp9 := (hy8.trans hy9).blk hp7
  have h9 := h7.pass (hy8.trans hy9)
  by_cases s4 : endT t lTem = true
  · rw [if_pos s4] at hr
    (repeat revert hK K);refine Wc2 @hp9 @s4 ?_;repeat with_reducible intro K hK
    rw [← hrow]
    refine (head_c h9 (hO.mono (by decide)) hg hM (fun q hq => by have := hQl q hq; have := hx9.sz; omega) ha0 ht).mono ?_
    rintro v w10 ⟨rfl,h10,hu10⟩
    (repeat revert hK K);refine W0 ?_;repeat with_reducible intro K hK
    exact ⟨by rw [hr],by rw [hr]; exact h10,Upd.trans (hx9.upd) hu10 fun _ _ h => h⟩
  rw [if_neg s4] at hr
  have s4' := eq_false_of_ne_true s4
  (repeat revert hK K);refine Wc2 @hp9 @s4' ?_;repeat with_reducible intro K hK
  rw [← hrow]
  refine hbelongs_c.mono ?_
  rintro v w10 ⟨rfl,hy10⟩
  have hx10 := hx9.trans hy10
  have hp10 := hy10.blk hp9
  have h10 := h9.pass hy10
  by_cases s5 : belT t = true
  · rw [if_pos s5] at hr
    obtain ⟨c0,hc0⟩ : ∃ c,c = (pushB b b.head).1 := ⟨_,rfl⟩
    obtain ⟨c1,hc1⟩ : ∃ c,c = failB c0 (pushB b b.head).2 := ⟨_,rfl⟩
    have e1 : pushedB b b.head = c1 := by rw [hc1,hc0]; rfl
    rw [e1] at hr
    obtain ⟨c2,hc2⟩ : ∃ c,c = ownH c1 t := ⟨_,rfl⟩
    rw [← hc2] at hr
    have O0 : HdO 5 c0 := by rw [hc0]; exact hO.push _
    have O1 : HdO 5 c1 := by rw [hc1]; exact O0.fail _
    have O2 : HdO 0 c2 := by rw [hc2]; exact HdO.own (m := 0) O1 ht
    have lp10 := blk_lt hp10
    have hd : BuAt w0 w10 (fun q => Q q ∨ q = p) pb ps pl pa b := h.more hx10 fun q hq => by
      rcases hq with hq | hq
      · exact .inl hq
      · exact .inr ⟨by omega,by omega⟩
    have hQd : ∀ q,(Q q ∨ q = p) → q < w10.heap.size := by
      intro q hq
      have := hx10.sz
      rcases hq with hq | hq
      · have := hQl q hq; omega
      · omega
    (repeat revert hK K);refine Wc2 @hp10 @s5 ?_;repeat with_reducible intro K hK
    refine (bstack_c hd).mono ?_
    intro v w' ⟨hv,hw⟩
    subst hv; subst w'
    (repeat revert hK K);refine W0 ?_;repeat with_reducible intro K hK
    refine (bhead_c hd).mono ?_
    intro v w' ⟨hv,hw⟩
    subst hv; subst w'
    (repeat revert hK K);refine W0 ?_;repeat with_reducible intro K hK
    refine (bpush_c hd hok b.head).mono ?_
    rintro v w11 ⟨rfl,h11,g11⟩
    rw [← hc0] at h11
    have hp11 := (g11.same p lp10 (fun hf => hf.2 (.inr rfl))).trans hp10
    have lp11 := blk_lt hp11
    have hu11 : Upd (AF w0 Q) w10 w11 := g11.mono fun q _ hf => ⟨hf.1,fun hq => hf.2 (.inl hq)⟩
    (repeat revert hK K);refine W0 ?_;repeat with_reducible intro K hK
    refine (bfail_c h11 _).mono ?_
    rintro v w12 ⟨h12,g12⟩
    replace h12 : BuAt w0 w12 (fun q => Q q ∨ q = p) pb ps pl pa c1 := hc1 ▸ h12
    have hp12 := (g12.same p lp11 (fun hf => hf.2 (.inr rfl))).trans hp11
    have lp12 := blk_lt hp12
    have hu12 : Upd (AF w0 Q) w11 w12 := g12.mono fun q _ hf => ⟨hf.1,fun hq => hf.2 (.inl hq)⟩
    (repeat revert hK K);refine Wc1 @hp12 ?_;repeat with_reducible intro K hK
    rw [← hrow]
    have z11 := g11.alike.size
    have z12 := g12.alike.size
    refine (own_c h12 O1 hg hM (fun q hq => by have := hQd q hq; omega) (ha0.ext h12.out) ht).mono ?_
    rintro v w13 ⟨h13,g13⟩
    rw [← hc2] at h13
    have hp13 := (g13.same p lp12 (fun hf => hf.2 (.inr rfl))).trans hp12
    have lp13 := blk_lt hp13
    have hu13 : Upd (AF w0 Q) w12 w13 := g13.mono fun q _ hf => ⟨hf.1,fun hq => hf.2 (.inl hq)⟩
    (repeat revert hK K);refine W0 ?_;repeat with_reducible intro K hK
    refine (bstack_c h13).mono ?_
    intro v w' ⟨hv,hw⟩
    subst hv; subst w'
    (repeat revert hK K);refine W0 ?_;repeat with_reducible intro K hK
    refine (bhead_c h13).mono ?_
    intro v w' ⟨hv,hw⟩
    subst hv; subst w'
    (repeat revert hK K);refine W0 ?_;repeat with_reducible intro K hK
    refine (bsrem_c h13 O2.ok c2.head).mono ?_
    rintro v w14 ⟨rfl,h14,g14⟩
    have hp14 := (g14.same p lp13 (fun hf => hf.2 (.inr rfl))).trans hp13
    have lp14 := blk_lt hp14
    have hu14 : Upd (AF w0 Q) w13 w14 := g14.mono fun q _ hf => ⟨hf.1,fun hq => hf.2 (.inl hq)⟩
    (repeat revert hK K);refine W0 ?_;repeat with_reducible intro K hK
    exact ⟨by rw [hr],by rw [hr]; exact h14.less fun q hq => .inl hq,Upd.trans (Upd.trans (Upd.trans (Upd.trans hx10.upd hu11 fun _ _ h => h) hu12 fun _ _ h => h) hu13 fun _ _ h => h) hu14 fun _ _ h => h⟩
  rw [if_neg s5] at hr
  have s5' := eq_false_of_ne_true s5
  (repeat revert hK K);refine Wc2 @hp10 @s5' ?_;repeat with_reducible intro K hK
  rw [← hrow]
  refine hstrange_c.mono ?_
  rintro v w11 ⟨rfl,hy11⟩
  have hx11 := hx10.trans hy11
  have hp11 := hy11.blk hp10
  have h11 := h10.pass hy11
  by_cases s6 : strT t = true
  · rw [if_pos (.inl s6)] at hr
    (repeat revert hK K);refine Wc2 @hp11 @s6 ?_;repeat with_reducible intro K hK
    exact ⟨by rw [hr],by rw [hr]; exact h11,hx11.upd⟩
  have s6' := eq_false_of_ne_true s6
  (repeat revert hK K);refine Wc2 @hp11 @s6' ?_;repeat with_reducible intro K hK
  refine bsl (l := lHead) rfl (by decide) (by decide) (by kernel_rfl) ?_
  rintro v w12 hy12 hn12 ⟨bn12,rfl⟩
  (repeat revert hK K);refine W0 ?_;repeat with_reducible intro K hK
  rw [← hrow]
  refine (hend_c hn12 (by decide)).mono ?_
  rintro v w13 ⟨rfl,hy13⟩
  have hx13 := (hx11.trans hy12).trans hy13
  have hp13 := (hy12.trans hy13).blk hp11
  have h13 := h11.pass (hy12.trans hy13)
  by_cases s7 : endT t lHead = true
  · rw [if_pos (.inr s7)] at hr
    (repeat revert hK K);refine Wc2 @hp13 @s7 ?_;repeat with_reducible intro K hK
    exact ⟨by rw [hr],by rw [hr]; exact h13,hx13.upd⟩
  rw [if_neg (fun h => h.elim s6 s7)] at hr
  have s7' := eq_false_of_ne_true s7
  (repeat revert hK K);refine Wc2 @hp13 @s7' ?_;repeat with_reducible intro K hK
  refine (bimply_c h13 hok (by omega) (fun q hq => by have := hQl q hq; have := hx13.sz; omega) _).mono ?_
  rintro v w14 ⟨rfl,h14,hu14⟩
  (repeat revert hK K);refine W0 ?_;repeat with_reducible intro K hK
  refine (bset_c h14 6).mono ?_
  rintro v w15 ⟨h15,hu15⟩
  (repeat revert hK K);refine W0 ?_;repeat with_reducible intro K hK
  exact ⟨by rw [hr],by rw [hr]; exact h15,Upd.trans (Upd.trans (hx13.upd) hu14 fun _ _ h => h) hu15 fun _ _ h => h⟩
end
end Go.Proofs.YtgnnlaeikcnhcaaGreatDoor
end
section
namespace Go.Vk
open Go
theorem byN_at {H : Type} (s : ByteArray) (zd : DataW H) : (DataW.map (byL.map fun x => ((Lit.string x.1.data.toList : Lit),(DataW.lit (.int .i64 x.2) : DataW H)))).atKey (.string s.data.toList) zd = (match byN s with | some n => .lit (.int .i64 n) | none => zd) := by
  unfold DataW.atKey byN
  simp only [List.find?_map,Function.comp_def,Lit.sameKey]
  have e : (fun x : ByteArray × Int => x.1.data.toList == s.data.toList) = fun x => decide (x.1 = s) := by
    funext x
    by_cases h : x.1 = s
    · simp [h]
    · have : x.1.data.toList ≠ s.data.toList := fun h2 => h (ByteArray.ext (Array.toList_inj.1 h2))
      simp only [h,decide_false,beq_eq_false_iff_ne,ne_eq]
      exact this
  rw [e]
  cases byL.find? fun x => decide (x.1 = s) <;> rfl
end Go.Vk
namespace Go.Proofs.YtgnnlaeikcnhcaaGreatDoor
open Go Go.Vk Go.WideElems Go.ChangeMaps
open Go.WideMaps (string_law keyOf_string_mk)
theorem gBy : Tryz.prog.globalNamed "lazaret/builder.by" = some 2 := by kernel_rfl
theorem gByT : (Tryz.prog.globals[2]?).map (·.type) = some 170 := by kernel_rfl
theorem by_laid {H : Type} : (Rows.laid_lazaret_builder_by : DataW H) = .map (byL.map fun x => ((Lit.string x.1.data.toList : Lit),(DataW.lit (.int .i64 x.2) : DataW H))) := rfl
theorem keysS : Go.WideMaps.KeyLaw Tryz.prog 9 := string_law Tryz.underlying9
theorem gb_of_var {W : World} {cs : Array Value} {sp : Nat → Bool} {held : Bool} {fuel : Nat} {x : List MemPlace} {enc : TypeId × Value → Unit}
    (hvar : W.var? Tryz.prog "lazaret/builder.by" = some cs) (hd : DataW.trod enc Tryz.prog W 0 sp held fuel 170 cs.toList = some (Rows.laid_lazaret_builder_by, x)) : GB W := by
  rcases WideElems.open_map Tryz.underlying170 hd with ⟨_,hx⟩ | ⟨bm,es,clock,m,rfl,hcs,hb,_,F,hx⟩
  · simp [by_laid] at hx
  simp only [Prod.mk.injEq] at hx
  have hcell : W.cell? ⟨2,0,none⟩ = some (.map (some bm)) := by
    have := World.var?_cell gBy hvar 0
    rw [Array.eq_one_of_toList hcs] at this
    simpa using this
  refine ⟨bm,hcell,fun w' hx' s hs => ?_⟩
  have hb' : w'.heap[bm]? = some (.map es clock) := by
    have hlt : bm < W.heap.size := (Array.getElem?_eq_some_iff.1 hb).1
    rw [← hb]
    exact hx'.blk hb ▸ hb.symm
  have zero : (zeroValue 3).run Tryz.prog w' = .ok (.int .i64 0) w' := by kernel_rfl
  have hk := keyOf_string_mk (s := s) (P := Tryz.prog) Tryz.underlying9 (by unfold maxLen; omega)
  rcases fit_lookup_ok (w := w') keysS Tryz.underlying170 zero hb' F hk with ⟨hrun,hat⟩ | ⟨v,y,hrun,hRv,hat,_⟩
  · have := hat .nil
    rw [← hx.1,by_laid,byN_at] at this
    cases hn : byN s with
    | none => exact hrun
    | some n => rw [hn] at this; cases this
  · obtain ⟨r, rfl, rfl, _⟩ := elemAt_int Tryz.underlying3 hRv
    have := hat .nil
    rw [← hx.1,by_laid,byN_at] at this
    cases hn : byN s with
    | none => rw [hn] at this; cases this
    | some n =>
      rw [hn] at this
      cases this
      exact hrun
end Go.Proofs.YtgnnlaeikcnhcaaGreatDoor
end
section
namespace Go.Proofs.YtgnnlaeikcnhcaaGreatDoor
open Go Go.Vk Go.WideElems Go.Maps
def stepF (k : Int) : Option FuncId := if k = 0 then some 288 else if k = 1 then some 289 else if k = 2 then some 290 else if k = 3 then some 61 else if k = 4 then some 291 else if k = 5 then some 292 else if k = 7 then some 293 else none
def stepV (k : Int) : Value := match stepF k with | some f => .func (.func f) #[] #[] | none => .nilFunc
theorem gSt : Tryz.prog.globalNamed "lazaret/heads.steps" = some 0 := by kernel_rfl
theorem gStT : (Tryz.prog.globals[0]?).map (·.type) = some 141 := by kernel_rfl
theorem keysI : Keyed Tryz.prog 3 := int_keyed Tryz.underlying3
def GS (w0 : World) : Prop := ∃ bm,w0.cell? ⟨0,0,none⟩ = some (.map (some bm)) ∧ ∀ w',Ext w0 w' → ∀ k : Int,inI64 k → (Instr.lookup 141 (.map (some bm)) (.int .i64 k) false).run Tryz.prog w' = .ok (stepV k) w'
theorem gs_of {W : World} (h : laidMetH Tryz.prog [("lazaret/builder.by", Rows.laid_lazaret_builder_by), ("lazaret/heads.steps", Rows.laid_lazaret_heads_steps)] W) : GS W := by
  obtain ⟨g, t, cs, fuel, p, hg, ht, hvar, hd⟩ := h.funcs (n := "lazaret/heads.steps") (List.mem_cons_of_mem _ (List.mem_singleton.2 rfl))
  obtain rfl := Option.some.inj (gSt.symm.trans hg)
  obtain rfl := Option.some.inj (gStT.symm.trans ht)
  rcases open_map Tryz.underlying141 hd with ⟨_,hx⟩ | ⟨bm,es,clock,m,rfl,hcs,hb,_,F,hx⟩
  · cases hx
  have hcell : W.cell? ⟨0,0,none⟩ = some (.map (some bm)) := by
    have := World.var?_cell gSt hvar 0
    rw [Array.eq_one_of_toList hcs] at this
    simpa using this
  refine ⟨bm,hcell,fun w' hx' k hk => ?_⟩
  have hb' := hx'.blk hb
  have zero : (zeroValue 74).run Tryz.prog w' = .ok .nilFunc w' := by kernel_rfl
  have hkey := keyOf_int_mk (P := Tryz.prog) Tryz.underlying3 (WalkArith.wf_i64 hk)
  have hx1 := congrArg Prod.fst hx
  dsimp only at hx1
  rcases fit_look (w := w') false keysI Tryz.underlying141 zero hb' F hkey with ⟨hrun,_,hat⟩ | ⟨e0,y,_,_,hrun,hR,hat,_⟩
  · rw [← hx1] at hat
    by_cases k0 : k = 0
    · subst k0
      exact nomatch (show DataW.held _ = DataW.nil from hat .nil)
    by_cases k1 : k = 1
    · subst k1
      exact nomatch (show DataW.held _ = DataW.nil from hat .nil)
    by_cases k2 : k = 2
    · subst k2
      exact nomatch (show DataW.held _ = DataW.nil from hat .nil)
    by_cases k3 : k = 3
    · subst k3
      exact nomatch (show DataW.held _ = DataW.nil from hat .nil)
    by_cases k4 : k = 4
    · subst k4
      exact nomatch (show DataW.held _ = DataW.nil from hat .nil)
    by_cases k5 : k = 5
    · subst k5
      exact nomatch (show DataW.held _ = DataW.nil from hat .nil)
    by_cases k7 : k = 7
    · subst k7
      exact nomatch (show DataW.held _ = DataW.nil from hat .nil)
    rw [hrun]
    unfold stepV stepF
    rw [if_neg k0,if_neg k1,if_neg k2,if_neg k3,if_neg k4,if_neg k5,if_neg k7]
    rfl
  · rw [← hx1] at hat
    obtain ⟨y1,y2⟩ := y
    unfold elemAt at hR
    split at hR
    · rename_i hf
      have hc : e0.val.cells.toList = [e0.val] := by
        cases hv : e0.val <;> first | rfl | (rw [hv] at hf; simp [Value.formed,Tryz.underlying74] at hf)
      rw [hc] at hR
      by_cases k0 : k = 0
      · subst k0
        have e := hat .nil
        dsimp only at e
        subst e
        have hv : e0.val = .func (.func 288) #[] #[] := func_of_trod (f0 := 288) Tryz.underlying74 (by kernel_rfl) hR
        rw [hrun,hv]
        rfl
      by_cases k1 : k = 1
      · subst k1
        have e := hat .nil
        dsimp only at e
        subst e
        have hv : e0.val = .func (.func 289) #[] #[] := func_of_trod (f0 := 289) Tryz.underlying74 (by kernel_rfl) hR
        rw [hrun,hv]
        rfl
      by_cases k2 : k = 2
      · subst k2
        have e := hat .nil
        dsimp only at e
        subst e
        have hv : e0.val = .func (.func 290) #[] #[] := func_of_trod (f0 := 290) Tryz.underlying74 (by kernel_rfl) hR
        rw [hrun,hv]
        rfl
      by_cases k3 : k = 3
      · subst k3
        have e := hat .nil
        dsimp only at e
        subst e
        have hv : e0.val = .func (.func 61) #[] #[] := func_of_trod (f0 := 61) Tryz.underlying74 (by kernel_rfl) hR
        rw [hrun,hv]
        rfl
      by_cases k4 : k = 4
      · subst k4
        have e := hat .nil
        dsimp only at e
        subst e
        have hv : e0.val = .func (.func 291) #[] #[] := func_of_trod (f0 := 291) Tryz.underlying74 (by kernel_rfl) hR
        rw [hrun,hv]
        rfl
      by_cases k5 : k = 5
      · subst k5
        have e := hat .nil
        dsimp only at e
        subst e
        have hv : e0.val = .func (.func 292) #[] #[] := func_of_trod (f0 := 292) Tryz.underlying74 (by kernel_rfl) hR
        rw [hrun,hv]
        rfl
      by_cases k7 : k = 7
      · subst k7
        have e := hat .nil
        dsimp only at e
        subst e
        have hv : e0.val = .func (.func 293) #[] #[] := func_of_trod (f0 := 293) Tryz.underlying74 (by kernel_rfl) hR
        rw [hrun,hv]
        rfl
      have m1 := hat .nil
      have m2 := hat (.held [])
      have q : ∀ j : Int,k ≠ j → (Lit.int .i64 j).sameKey (Lit.int .i64 k) = false := fun j hj => by
        unfold Lit.sameKey
        exact decide_eq_false fun h => hj h.2.symm
      simp [DataW.funcsOut,DataW.funcsOutEntries,DataW.atKey,List.find?,q 0 k0,q 1 k1,q 2 k2,q 3 k3,q 4 k4,q 5 k5,q 7 k7] at m1 m2
      rw [← m1] at m2
      cases m2
    · cases hR
end Go.Proofs.YtgnnlaeikcnhcaaGreatDoor
end
section
namespace Go.Proofs.YtgnnlaeikcnhcaaGreatDoor
open Go Go.Vk
set_option maxHeartbeats 40000000
section
variable {w0 w : World} {Q : Nat → Prop} {pb ps pl pa : Nat} {b : BSt}
theorem step_c (h : BuAt w0 w Q pb ps pl pa b) (hO : HdO 6 b) (hg : GB w0) (hS : GS w0) (hM : MaxAt w0) (hQl : ∀ q,Q q → q < w.heap.size) (hmo : inI64 b.mode) {t : HTok} {av : Value} (ha0 : RdAt w0 2 av (attrCells t.attrs)) (ht : SmT t) :
    Gives Tryz.prog 60 #[.pointer (some ⟨pb,0,none⟩),.agg (t.row av)] w fun v w' => v = .bool (stepH b t).2 ∧ BuAt w0 w' Q pb ps pl pa (stepH b t).1 ∧ Upd (AF w0 Q) w w' := by
  have ha := ha0.ext h.out
  obtain ⟨xa,xn,xc,eav,_⟩ := id ha
  subst eav
  obtain ⟨bm,hcell,hlook⟩ := hS
  have hrow : t.row (.slice xa xn xc) = #[.int .i64 t.kind,.string t.name,.string t.text,.slice xa xn xc,.bool t.dup,.bool t.self,.bool t.quirks,.int .i64 t.frm,.int .i64 t.to] := rfl
  have hx := Ext.alloc w (.cells (t.row (.slice xa xn xc)) 37)
  have hp : (w.alloc (.cells (t.row (.slice xa xn xc)) 37)).heap[w.heap.size]? = some (.cells (t.row (.slice xa xn xc)) 37 (0,0)) := by rw [heap_alloc_h,if_pos rfl]
  obtain ⟨r,hr⟩ : ∃ r,r = stepH b t := ⟨_,rfl⟩
  rw [← hr]
  unfold stepH at hr
  refine Gives.of_W Tryz.call60 Tryz.func60 rfl Tryz.ntmps60 (by simp) ?_; intro Z hZ
  (repeat revert hK K);refine W1 @vcells_agg ?_;repeat with_reducible intro K hK
  generalize w.alloc (.cells (t.row (.slice xa xn xc)) 37) = w1 at *
  obtain ⟨p,hpe⟩ : ∃ p,p = w.heap.size := ⟨_,rfl⟩
  rw [← hpe] at hp ⊢
  rw [hrow] at hp
  have h1 := h.pass hx
  have hc1 := cell_ext (h.out.trans hx) hcell
  refine W_draw (.pas 0 (.pas 1 (.act 2 (.act 3 (.pas 4 .fin))))) (fun q => q = 0) (by decide) mixed (by kernel_rfl) ?_
  have hxd := Ext.drew w1
  have hcd := cell_ext hxd hc1
  have h1d := h1.pass hxd
  have hpd := hxd.blk hp
  generalize w1.drew = wd at *
  refine De3 @true_or @or_true @hcd ?_
  refine (bmode_c h1d).mono ?_
  intro v w' ⟨hv,hw⟩
  subst hv; subst w'
  refine ⟨fun _ _ => rfl,?_⟩
  refine De3 @true_or @or_true @hcd ?_
  refine RunV.of (hlook wd ((h.out.trans hx).trans hxd) b.mode hmo) ?_
  refine ⟨fun _ _ => rfl,?_⟩
  have hQd : ∀ q,Q q → q < wd.heap.size := fun q hq => by have := hQl q hq; have := hx.sz; have := hxd.sz; omega
  by_cases m0 : b.mode = 0
  · rw [if_pos m0] at hr
    have e : stepV b.mode = .func (.func 288) #[] #[] := by rw [m0]; rfl
    rw [e]
    refine D0 ?_
    (repeat revert hK K);refine W0 ?_;repeat with_reducible intro K hK
    refine (barena_c h1d).mono ?_
    intro v w' ⟨hv,hw⟩
    subst hv; subst w'
    (repeat revert hK K);refine W0 ?_;repeat with_reducible intro K hK
    refine ⟨.bool false,fun _ => by kernel_rfl,?_⟩
    (repeat revert hK K);refine Wc1 @hpd ?_;repeat with_reducible intro K hK
    rw [← hrow]
    refine (initial_c h1d (hO.mono (by decide)) hg hM hQd ha0 ht).mono ?_
    rintro v w2 ⟨rfl,h2,hu2⟩
    (repeat revert hK K);refine W0 ?_;repeat with_reducible intro K hK
    exact ⟨by rw [hr],by rw [hr]; exact h2,Upd.trans (hx.trans hxd).upd hu2 fun _ _ h => h⟩
  by_cases m1 : b.mode = 1
  · rw [if_neg m0, if_pos m1] at hr
    have e : stepV b.mode = .func (.func 289) #[] #[] := by rw [m1]; rfl
    rw [e]
    refine D0 ?_
    (repeat revert hK K);refine W0 ?_;repeat with_reducible intro K hK
    refine (barena_c h1d).mono ?_
    intro v w' ⟨hv,hw⟩
    subst hv; subst w'
    (repeat revert hK K);refine W0 ?_;repeat with_reducible intro K hK
    refine ⟨.bool false,fun _ => by kernel_rfl,?_⟩
    (repeat revert hK K);refine Wc1 @hpd ?_;repeat with_reducible intro K hK
    rw [← hrow]
    refine (beforeHTML_c h1d (hO.mono (by decide)) hg hM hQd ha0 ht).mono ?_
    rintro v w2 ⟨rfl,h2,hu2⟩
    (repeat revert hK K);refine W0 ?_;repeat with_reducible intro K hK
    exact ⟨by rw [hr],by rw [hr]; exact h2,Upd.trans (hx.trans hxd).upd hu2 fun _ _ h => h⟩
  by_cases m2 : b.mode = 2
  · rw [if_neg m0, if_neg m1, if_pos m2] at hr
    have e : stepV b.mode = .func (.func 290) #[] #[] := by rw [m2]; rfl
    rw [e]
    refine D0 ?_
    (repeat revert hK K);refine W0 ?_;repeat with_reducible intro K hK
    refine (barena_c h1d).mono ?_
    intro v w' ⟨hv,hw⟩
    subst hv; subst w'
    (repeat revert hK K);refine W0 ?_;repeat with_reducible intro K hK
    refine ⟨.bool false,fun _ => by kernel_rfl,?_⟩
    (repeat revert hK K);refine Wc1 @hpd ?_;repeat with_reducible intro K hK
    rw [← hrow]
    refine (beforeHead_c h1d (hO.mono (by decide)) hg hM hQd ha0 ht).mono ?_
    rintro v w2 ⟨rfl,h2,hu2⟩
    (repeat revert hK K);refine W0 ?_;repeat with_reducible intro K hK
    exact ⟨by rw [hr],by rw [hr]; exact h2,Upd.trans (hx.trans hxd).upd hu2 fun _ _ h => h⟩
  by_cases m3 : b.mode = 3
  · rw [if_neg m0, if_neg m1, if_neg m2, if_pos m3] at hr
    have e : stepV b.mode = .func (.func 61) #[] #[] := by rw [m3]; rfl
    rw [e]
    refine D0 ?_
    (repeat revert hK K);refine W0 ?_;repeat with_reducible intro K hK
    refine (barena_c h1d).mono ?_
    intro v w' ⟨hv,hw⟩
    subst hv; subst w'
    (repeat revert hK K);refine W0 ?_;repeat with_reducible intro K hK
    refine ⟨.bool false,fun _ => by kernel_rfl,?_⟩
    (repeat revert hK K);refine Wc1 @hpd ?_;repeat with_reducible intro K hK
    rw [← hrow]
    refine (head_c h1d (hO.mono (by decide)) hg hM hQd ha0 ht).mono ?_
    rintro v w2 ⟨rfl,h2,hu2⟩
    (repeat revert hK K);refine W0 ?_;repeat with_reducible intro K hK
    exact ⟨by rw [hr],by rw [hr]; exact h2,Upd.trans (hx.trans hxd).upd hu2 fun _ _ h => h⟩
  by_cases m4 : b.mode = 4
  · rw [if_neg m0, if_neg m1, if_neg m2, if_neg m3, if_pos m4] at hr
    have e : stepV b.mode = .func (.func 291) #[] #[] := by rw [m4]; rfl
    rw [e]
    refine D0 ?_
    (repeat revert hK K);refine W0 ?_;repeat with_reducible intro K hK
    refine (barena_c h1d).mono ?_
    intro v w' ⟨hv,hw⟩
    subst hv; subst w'
    (repeat revert hK K);refine W0 ?_;repeat with_reducible intro K hK
    refine ⟨.bool false,fun _ => by kernel_rfl,?_⟩
    (repeat revert hK K);refine Wc1 @hpd ?_;repeat with_reducible intro K hK
    rw [← hrow]
    refine (noscript_c h1d (hO.mono (by decide)) hg hM hQd ha0 ht).mono ?_
    rintro v w2 ⟨rfl,h2,hu2⟩
    (repeat revert hK K);refine W0 ?_;repeat with_reducible intro K hK
    exact ⟨by rw [hr],by rw [hr]; exact h2,Upd.trans (hx.trans hxd).upd hu2 fun _ _ h => h⟩
  by_cases m5 : b.mode = 5
  · rw [if_neg m0, if_neg m1, if_neg m2, if_neg m3, if_neg m4, if_pos m5] at hr
    have e : stepV b.mode = .func (.func 292) #[] #[] := by rw [m5]; rfl
    rw [e]
    refine D0 ?_
    (repeat revert hK K);refine W0 ?_;repeat with_reducible intro K hK
    refine (barena_c h1d).mono ?_
    intro v w' ⟨hv,hw⟩
    subst hv; subst w'
    (repeat revert hK K);refine W0 ?_;repeat with_reducible intro K hK
    refine ⟨.bool false,fun _ => by kernel_rfl,?_⟩
    (repeat revert hK K);refine Wc1 @hpd ?_;repeat with_reducible intro K hK
    rw [← hrow]
    refine (afterHead_c h1d hO hg hM hQd ha0 ht).mono ?_
    rintro v w2 ⟨rfl,h2,hu2⟩
    (repeat revert hK K);refine W0 ?_;repeat with_reducible intro K hK
    exact ⟨by rw [hr],by rw [hr]; exact h2,Upd.trans (hx.trans hxd).upd hu2 fun _ _ h => h⟩
  by_cases m7 : b.mode = 7
  · rw [if_neg m0, if_neg m1, if_neg m2, if_neg m3, if_neg m4, if_neg m5, if_pos m7] at hr
    have e : stepV b.mode = .func (.func 293) #[] #[] := by rw [m7]; rfl
    rw [e]
    refine D0 ?_
    (repeat revert hK K);refine W0 ?_;repeat with_reducible intro K hK
    refine (barena_c h1d).mono ?_
    intro v w' ⟨hv,hw⟩
    subst hv; subst w'
    (repeat revert hK K);refine W0 ?_;repeat with_reducible intro K hK
    refine ⟨.bool false,fun _ => by kernel_rfl,?_⟩
    (repeat revert hK K);refine Wc1 @hpd ?_;repeat with_reducible intro K hK
    rw [← hrow]
    refine (htext_c h1d (hO.mono (by decide)) hg hM hQd ha0 ht).mono ?_
    rintro v w2 ⟨rfl,h2,hu2⟩
    (repeat revert hK K);refine W0 ?_;repeat with_reducible intro K hK
    exact ⟨by rw [hr],by rw [hr]; exact h2,Upd.trans (hx.trans hxd).upd hu2 fun _ _ h => h⟩
  rw [if_neg m0,if_neg m1,if_neg m2,if_neg m3,if_neg m4,if_neg m5,if_neg m7] at hr
  have e : stepV b.mode = .nilFunc := by unfold stepV stepF; rw [if_neg m0,if_neg m1,if_neg m2,if_neg m3,if_neg m4,if_neg m5,if_neg m7]
  rw [e]
  refine D0 ?_
  (repeat revert hK K);refine W0 ?_;repeat with_reducible intro K hK
  refine (barena_c h1d).mono ?_
  intro v w' ⟨hv,hw⟩
  subst hv; subst w'
  (repeat revert hK K);refine W0 ?_;repeat with_reducible intro K hK
  refine ⟨.bool true,fun _ => by kernel_rfl,?_⟩
  (repeat revert hK K);refine W0 ?_;repeat with_reducible intro K hK
  exact ⟨by rw [hr],by rw [hr]; exact h1d,(hx.trans hxd).upd⟩
end
end Go.Proofs.YtgnnlaeikcnhcaaGreatDoor
end
section
namespace Go.Vk
def ownM (k : Int) : Bool := (decide (0 ≤ k) && decide (k ≤ 5)) || decide (k = 7)
end Go.Vk
namespace Go.Proofs.YtgnnlaeikcnhcaaGreatDoor
open Go Go.Vk
set_option maxHeartbeats 40000000
theorem own19_c {w : World} (k : Int) : Gives Tryz.prog 85 #[.int .i64 k] w fun v w' => v = .bool (ownM k) ∧ w' = w := by
  unfold ownM
  by_cases h0 : 0 ≤ k
  · by_cases h5 : k ≤ 5
    · rw [decide_eq_true h0, decide_eq_true h5]
      refine Gives.of_W Tryz.call85 Tryz.func85 rfl Tryz.ntmps85 (by simp) ?_; intro Z hZ
      (repeat first|(with_reducible first|(refine hK _ _ ?_;clear hK K)|refine ‹∀σ w,_→K σ w› _ _ ?_|(refine W_st ?_;constructor;try intro K hK))|((with_reducible first|refine hZ _ _ ?_|refine W_rg ?_|skip);repeat1' simp only[push_cast,seval,-Nat.reduceSubDiff,h0,h5])|((repeat((fail_if_success with_reducible refine hK _ _ ?_);clear hK K));with_reducible refine hK _ _ ?_;clear hK K))
    · have h5' := eq_false h5
      by_cases h7 : k = 7
      · subst h7
        refine Gives.of_W Tryz.call85 Tryz.func85 rfl Tryz.ntmps85 (by simp) ?_; intro Z hZ
        (repeat first|(with_reducible first|(refine hK _ _ ?_;clear hK K)|refine ‹∀σ w,_→K σ w› _ _ ?_|(refine W_st ?_;constructor;try intro K hK))|((with_reducible first|refine hZ _ _ ?_|refine W_rg ?_|skip);repeat1' simp only[push_cast,seval,-Nat.reduceSubDiff,h5'])|((repeat((fail_if_success with_reducible refine hK _ _ ?_);clear hK K));with_reducible refine hK _ _ ?_;clear hK K))
        try rfl
      · have h7' := eq_false h7
        rw [decide_eq_true h0,decide_eq_false h5,decide_eq_false h7]
        refine Gives.of_W Tryz.call85 Tryz.func85 rfl Tryz.ntmps85 (by simp) ?_; intro Z hZ
        (repeat first|(with_reducible first|(refine hK _ _ ?_;clear hK K)|refine ‹∀σ w,_→K σ w› _ _ ?_|(refine W_st ?_;constructor;try intro K hK))|((with_reducible first|refine hZ _ _ ?_|refine W_rg ?_|skip);repeat1' simp only[push_cast,seval,-Nat.reduceSubDiff,h0,h5',h7'])|((repeat((fail_if_success with_reducible refine hK _ _ ?_);clear hK K));with_reducible refine hK _ _ ?_;clear hK K))
  · have h0' := eq_false h0
    have h7 : ¬ k = 7 := by omega
    have h7' := eq_false h7
    rw [decide_eq_false h0,decide_eq_false h7]
    refine Gives.of_W Tryz.call85 Tryz.func85 rfl Tryz.ntmps85 (by simp) ?_; intro Z hZ
    (repeat first|(with_reducible first|(refine hK _ _ ?_;clear hK K)|refine ‹∀σ w,_→K σ w› _ _ ?_|(refine W_st ?_;constructor;try intro K hK))|((with_reducible first|refine hZ _ _ ?_|refine W_rg ?_|skip);repeat1' simp only[push_cast,seval,-Nat.reduceSubDiff,h0',h7'])|((repeat((fail_if_success with_reducible refine hK _ _ ?_);clear hK K));with_reducible refine hK _ _ ?_;clear hK K))
end Go.Proofs.YtgnnlaeikcnhcaaGreatDoor
end
section
namespace Go.Vk
open Go
def tok19 (k : Int) (x : ByteArray) : HTok := ⟨k,x,⟨#[]⟩,[],false,false,false,0,0⟩
end Go.Vk
namespace Go.Proofs.YtgnnlaeikcnhcaaGreatDoor
open Go Go.Vk
set_option maxHeartbeats 40000000
theorem start19_c {w : World} (x : ByteArray) : Gives Tryz.prog 63 #[.string x] w fun v w' => v = .agg ((tok19 2 x).row (.slice none 0 0)) ∧ Ext w w' := by
  refine Gives.of_W Tryz.call63 Tryz.func63 rfl Tryz.ntmps63 (by simp) ?_; intro Z hZ
  (repeat revert hK K);refine W1 (RunV_zero Tryz.zeroValue37) ?_;repeat with_reducible intro K hK
  refine build_struct Tryz.zeroValue37 unTo plTo (cs := #[.int .i64 2,.string x,.string ⟨#[]⟩,.slice none 0 0,.bool false,.bool false,.bool false,.int .i64 0,.int .i64 0]) (by rfl) ?_
  (repeat revert hK K);refine W0 ?_;repeat with_reducible intro K hK
  simp only [vcells_agg,can_h,heap_alloc_h,if_true,canO_cells,List.size_toArray,List.length_cons,List.length_nil,Nat.zero_add,Nat.reduceAdd,Nat.reduceLT,true_and]
  have z1 : (w.alloc (.cells #[.int .i64 0,.string ⟨#[]⟩,.string ⟨#[]⟩,.slice none 0 0,.bool false,.bool false,.bool false,.int .i64 0,.int .i64 0] 37)).heap[w.heap.size]? = some (.cells #[.int .i64 0,.string ⟨#[]⟩,.string ⟨#[]⟩,.slice none 0 0,.bool false,.bool false,.bool false,.int .i64 0,.int .i64 0] 37 (0,0)) := by rw [heap_alloc_h,if_pos rfl]
  have hp3 := setCells_all z1 (l := [.int .i64 2,.string x,.string ⟨#[]⟩,.slice none 0 0,.bool false,.bool false,.bool false,.int .i64 0,.int .i64 0]) rfl
  have hx3 : Ext w (setCells (w.alloc (.cells #[.int .i64 0,.string ⟨#[]⟩,.string ⟨#[]⟩,.slice none 0 0,.bool false,.bool false,.bool false,.int .i64 0,.int .i64 0] 37)) ⟨w.heap.size,0,none⟩ [.int .i64 2,.string x,.string ⟨#[]⟩,.slice none 0 0,.bool false,.bool false,.bool false,.int .i64 0,.int .i64 0] 0) := Upd.trans (Ext.alloc w _) (Upd.setCells (F := fun b => b = w.heap.size) (a := ⟨w.heap.size,0,none⟩) _ rfl _ 0) fun i hi e => by omega
  generalize setCells (w.alloc (.cells #[.int .i64 0,.string ⟨#[]⟩,.string ⟨#[]⟩,.slice none 0 0,.bool false,.bool false,.bool false,.int .i64 0,.int .i64 0] 37)) ⟨w.heap.size,0,none⟩ [.int .i64 2,.string x,.string ⟨#[]⟩,.slice none 0 0,.bool false,.bool false,.bool false,.int .i64 0,.int .i64 0] 0 = w3 at *
  (repeat revert hK K);refine Wc1 @hp3 ?_;repeat with_reducible intro K hK
  exact ⟨rfl,hx3⟩
theorem end19_c {w : World} (x : ByteArray) : Gives Tryz.prog 58 #[.string x] w fun v w' => v = .agg ((tok19 3 x).row (.slice none 0 0)) ∧ Ext w w' := by
  refine Gives.of_W Tryz.call58 Tryz.func58 rfl Tryz.ntmps58 (by simp) ?_; intro Z hZ
  (repeat revert hK K);refine W1 (RunV_zero Tryz.zeroValue37) ?_;repeat with_reducible intro K hK
  refine build_struct Tryz.zeroValue37 unTo plTo (cs := #[.int .i64 3,.string x,.string ⟨#[]⟩,.slice none 0 0,.bool false,.bool false,.bool false,.int .i64 0,.int .i64 0]) (by rfl) ?_
  (repeat revert hK K);refine W0 ?_;repeat with_reducible intro K hK
  simp only [vcells_agg,can_h,heap_alloc_h,if_true,canO_cells,List.size_toArray,List.length_cons,List.length_nil,Nat.zero_add,Nat.reduceAdd,Nat.reduceLT,true_and]
  have z1 : (w.alloc (.cells #[.int .i64 0,.string ⟨#[]⟩,.string ⟨#[]⟩,.slice none 0 0,.bool false,.bool false,.bool false,.int .i64 0,.int .i64 0] 37)).heap[w.heap.size]? = some (.cells #[.int .i64 0,.string ⟨#[]⟩,.string ⟨#[]⟩,.slice none 0 0,.bool false,.bool false,.bool false,.int .i64 0,.int .i64 0] 37 (0,0)) := by rw [heap_alloc_h,if_pos rfl]
  have hp3 := setCells_all z1 (l := [.int .i64 3,.string x,.string ⟨#[]⟩,.slice none 0 0,.bool false,.bool false,.bool false,.int .i64 0,.int .i64 0]) rfl
  have hx3 : Ext w (setCells (w.alloc (.cells #[.int .i64 0,.string ⟨#[]⟩,.string ⟨#[]⟩,.slice none 0 0,.bool false,.bool false,.bool false,.int .i64 0,.int .i64 0] 37)) ⟨w.heap.size,0,none⟩ [.int .i64 3,.string x,.string ⟨#[]⟩,.slice none 0 0,.bool false,.bool false,.bool false,.int .i64 0,.int .i64 0] 0) := Upd.trans (Ext.alloc w _) (Upd.setCells (F := fun b => b = w.heap.size) (a := ⟨w.heap.size,0,none⟩) _ rfl _ 0) fun i hi e => by omega
  generalize setCells (w.alloc (.cells #[.int .i64 0,.string ⟨#[]⟩,.string ⟨#[]⟩,.slice none 0 0,.bool false,.bool false,.bool false,.int .i64 0,.int .i64 0] 37)) ⟨w.heap.size,0,none⟩ [.int .i64 3,.string x,.string ⟨#[]⟩,.slice none 0 0,.bool false,.bool false,.bool false,.int .i64 0,.int .i64 0] 0 = w3 at *
  (repeat revert hK K);refine Wc1 @hp3 ?_;repeat with_reducible intro K hK
  exact ⟨rfl,hx3⟩
end Go.Proofs.YtgnnlaeikcnhcaaGreatDoor
end
section
namespace Go.Vk
open Go Go.Proofs.YtgnnlaeikcnhcaaGreatDoor
def doesB : Nat → BSt → HTok → BSt
  | 0,b,_ => b
  | n + 1,b,t => if ownM b.mode = true then (if (stepH b t).2 = true then doesB n (stepH b t).1 t else (stepH b t).1) else b
def doOk : Nat → BSt → HTok → Prop
  | 0,_,_ => True
  | n + 1,b,t => inI64 b.mode ∧ (ownM b.mode = true → HdO 6 b ∧ ((stepH b t).2 = true → doOk n (stepH b t).1 t))
end Go.Vk
namespace Go.Proofs.YtgnnlaeikcnhcaaGreatDoor
open Go Go.Vk
set_option maxHeartbeats 40000000
section
variable {w0 w : World} {Q : Nat → Prop} {pb ps pl pa : Nat} {b : BSt}
theorem does_c (h : BuAt w0 w Q pb ps pl pa b) (hg : GB w0) (hS : GS w0) (hM : MaxAt w0) (hQl : ∀ q,Q q → q < w.heap.size) {t : HTok} {av : Value} (ha0 : RdAt w0 2 av (attrCells t.attrs)) (ht : SmT t) (hd : doOk 20 b t) :
    Gives Tryz.prog 57 #[.pointer (some ⟨pb,0,none⟩),.agg (t.row av)] w fun _ w' => BuAt w0 w' Q pb ps pl pa (doesB 20 b t) ∧ Upd (AF w0 Q) w w' := by
  have ha := ha0.ext h.out
  obtain ⟨xa,xn,xc,eav,_⟩ := id ha
  subst eav
  have hrow : t.row (.slice xa xn xc) = #[.int .i64 t.kind,.string t.name,.string t.text,.slice xa xn xc,.bool t.dup,.bool t.self,.bool t.quirks,.int .i64 t.frm,.int .i64 t.to] := rfl
  have hx := Ext.alloc w (.cells (t.row (.slice xa xn xc)) 37)
  have hp : (w.alloc (.cells (t.row (.slice xa xn xc)) 37)).heap[w.heap.size]? = some (.cells (t.row (.slice xa xn xc)) 37 (0,0)) := by rw [heap_alloc_h,if_pos rfl]
  obtain ⟨R,hR⟩ : ∃ R,R = doesB 20 b t := ⟨_,rfl⟩
  rw [← hR]
  refine Gives.of_W Tryz.call57 Tryz.func57 rfl Tryz.ntmps57 (by simp) ?_; intro Z hZ
  (repeat revert hK K);refine W1 @vcells_agg ?_;repeat with_reducible intro K hK
  generalize w.alloc (.cells (t.row (.slice xa xn xc)) 37) = w1 at *
  obtain ⟨p,hpe⟩ : ∃ p,p = w.heap.size := ⟨_,rfl⟩
  rw [← hpe] at hp ⊢
  rw [hrow] at hp
  have lp := blk_lt hp
  have hQd : ∀ q,(Q q ∨ q = p) → q < w1.heap.size := by
    intro q hq
    have := hx.sz
    rcases hq with hq | hq
    · have := hQl q hq; omega
    · omega
  have h1 : BuAt w0 w1 (fun q => Q q ∨ q = p) pb ps pl pa b := h.more hx fun q hq => by
    rcases hq with hq | hq
    · exact .inl hq
    · exact .inr ⟨by omega,by omega⟩
  refine W_loop (S := Nat × BSt) (fun z => [(0, .pointer (some ⟨pb, 0, none⟩)), (3, .pointer (some ⟨p, 0, none⟩)), (4, .int .i64 (z.1 : Int))])
    (fun z w4 => z.1 ≤ 20 ∧ R = doesB (20 - z.1) z.2 t ∧ doOk (20 - z.1) z.2 t ∧ BuAt w0 w4 (fun q => Q q ∨ q = p) pb ps pl pa z.2 ∧ Upd (AF w0 (fun q => Q q ∨ q = p)) w1 w4) (fun z => 20 - z.1) (0,b) ?_ ?_ ?_
  · (repeat simp only [push_cast,seval,-Nat.reduceSubDiff])
  · exact ⟨by omega,hR,hd,h1,Upd.refl _ _⟩
  rintro ⟨j,c⟩ w5 ⟨hj,hRj,hrj,h5,hu5⟩
  dsimp only at hj hRj hrj h5 ⊢
  have hs5 := hu5.alike.size
  have hp5 := (hu5.same p lp (fun hf => hf.2 (.inr rfl))).trans hp
  have fin : ∀ {wz : World} {c' : BSt},R = c' → BuAt w0 wz (fun q => Q q ∨ q = p) pb ps pl pa c' → Upd (AF w0 (fun q => Q q ∨ q = p)) w1 wz → BuAt w0 wz Q pb ps pl pa R ∧ Upd (AF w0 Q) w wz := fun e hz hu =>
    ⟨e ▸ hz.less fun q hq => .inl hq,Upd.trans hx.upd (hu.mono fun q _ hf => ⟨hf.1,fun hq => hf.2 (.inl hq)⟩) fun _ _ h => h⟩
  by_cases hj8 : j < 20
  · have b0 : (j : Int) < 20 := by omega
    have b2 : inI64 ((j : Int) + 1) := by unfold inI64; omega
    have e8 : 20 - j = (20 - (j + 1)) + 1 := by omega
    rw [e8,doOk] at hrj
    rw [e8,doesB] at hRj
    obtain ⟨hmo,hrn⟩ := hrj
    (repeat revert hK K);refine W1 @b0 ?_;repeat with_reducible intro K hK
    refine (bmode_c h5).mono ?_
    intro v w' ⟨hv,hw⟩
    subst hv; subst w'
    (repeat revert hK K);refine W0 ?_;repeat with_reducible intro K hK
    refine (own19_c c.mode).mono ?_
    intro v w' ⟨hv,hw⟩
    subst hv; subst w'
    cases ho : ownM c.mode with
    | false =>
      rw [if_neg (by rw [ho]; decide)] at hRj
      (repeat revert hK K);refine W0 ?_;repeat with_reducible intro K hK
      exact fin hRj h5 hu5
    | true =>
      obtain ⟨hO,hn⟩ := hrn ho
      rw [if_pos ho] at hRj
      (repeat revert hK K);refine Wc1 @hp5 ?_;repeat with_reducible intro K hK
      rw [← hrow]
      refine (step_c h5 hO hg hS hM (fun q hq => by have := hQd q hq; omega) hmo ha0 ht).mono ?_
      rintro v w6 ⟨rfl,h6,hu6⟩
      have hu06 := Upd.trans hu5 hu6 fun _ _ h => h
      cases hm : (stepH c t).2 with
      | false =>
        rw [if_neg (by rw [hm]; decide)] at hRj
        (repeat revert hK K);refine W0 ?_;repeat with_reducible intro K hK
        exact fin hRj h6 hu06
      | true =>
        rw [if_pos hm] at hRj
        (repeat revert hK K);refine W1 @b2 ?_;repeat with_reducible intro K hK
        refine ⟨(j + 1,(stepH c t).1),by show 20 - (j + 1) < 20 - j; omega,?_⟩
        (repeat simp only [push_cast,seval,-Nat.reduceSubDiff])
        exact ⟨by omega,hRj,hn hm,h6,hu06⟩
  · have hje : j = 20 := by omega
    subst hje
    rw [Nat.sub_self,doesB] at hRj
    (repeat revert hK K);refine W0 ?_;repeat with_reducible intro K hK
    exact fin hRj h5 hu5
end
end Go.Proofs.YtgnnlaeikcnhcaaGreatDoor
end
section
namespace Go.Vk
open Go
end Go.Vk
end
section
namespace Go.Vk
open Go Go.Proofs.YtgnnlaeikcnhcaaGreatDoor
def hdOb (m : Nat) (b : BSt) : Bool := decide (b.L.length + m < 90000) && (decide (b.s.length + m < 10000) && (decide (b.l.length + m < 10000) && (decide (b.modes.length + m < 99000) && ((b.L.all fun n => decide (n.name.size < 4294967281) && (decide (n.text.size < 1000000000) && decide (n.attrs.length < 1000000))) && b.s.all fun o => decide (o.name.size < 4294967281)))))
theorem hdOb_ok {m : Nat} {b : BSt} (h : hdOb m b = true) : HdO m b := by
  simp only [hdOb,Bool.and_eq_true,decide_eq_true_eq,List.all_eq_true] at h
  obtain ⟨h1,h2,h3,h4,h5,h6⟩ := h
  exact ⟨h1,h2,h3,h4,fun n hn => h5 n hn,h6⟩
def doOkb : Nat → BSt → HTok → Bool
  | 0,_,_ => true
  | n + 1,b,t => (decide (-9223372036854775808 ≤ b.mode) && decide (b.mode ≤ 9223372036854775807)) && (!ownM b.mode || (hdOb 6 b && (!(stepH b t).2 || doOkb n (stepH b t).1 t)))
theorem doOkb_ok {t : HTok} : ∀ {n : Nat} {b : BSt}, doOkb n b t = true → doOk n b t
  | 0,_,_ => trivial
  | n + 1,b,h => by
    rw [doOkb,Bool.and_eq_true,Bool.and_eq_true,decide_eq_true_eq,decide_eq_true_eq] at h
    refine ⟨⟨h.1.1,h.1.2⟩,fun ho => ?_⟩
    have h2 := h.2
    rw [ho,Bool.not_true,Bool.false_or,Bool.and_eq_true] at h2
    refine ⟨hdOb_ok h2.1,fun hs => ?_⟩
    have h3 := h2.2
    rw [hs,Bool.not_true,Bool.false_or] at h3
    exact doOkb_ok h3
def tEOF : HTok := ⟨8,⟨#[]⟩,⟨#[]⟩,[],false,false,false,0,0⟩
def tDoc : HTok := ⟨1,sHtml,⟨#[]⟩,[],false,false,false,0,0⟩
def tCom : HTok := ⟨4,⟨#[]⟩,⟨#[99]⟩,[],false,false,false,0,0⟩
def bgA : BSt := doesB 20 newB tEOF
def bgB1 : BSt := doesB 20 newB tDoc
def bgB2 : BSt := doesB 20 bgB1 tCom
def bgB3 : BSt := doesB 20 bgB2 (tok19 2 sHtml)
def bgB : BSt := doesB 20 bgB3 (tok19 2 sTitle)
def bgC1 : BSt := doesB 20 newB (tok19 2 sHtml)
def bgC2 : BSt := doesB 20 bgC1 (tok19 2 sHead)
def bgC3 : BSt := doesB 20 bgC2 (tok19 2 tmpl)
def bgC : BSt := (headH bgC3 (tok19 3 tmpl)).1
theorem bg_ok : (doOkb 20 newB tEOF,doOkb 20 newB tDoc,doOkb 20 bgB1 tCom,doOkb 20 bgB2 (tok19 2 sHtml),doOkb 20 bgB3 (tok19 2 sTitle),doOkb 20 newB (tok19 2 sHtml),doOkb 20 bgC1 (tok19 2 sHead),doOkb 20 bgC2 (tok19 2 tmpl),hdOb 6 bgC3) = (true,true,true,true,true,true,true,true,true) := by kernel_rfl
end Go.Vk
end
section
namespace Go.Vk
open Go Go.Proofs.YtgnnlaeikcnhcaaGreatDoor
section
variable {L : List Nd} {ns : List Int} {hd : Int}
theorem Sha.i0 (h : Sha L 0 ns hd) : ns = [] ∧ elK L 0 = [] := by
  rcases h with ⟨_,e⟩ | ⟨e,_⟩ | ⟨e,_⟩ | ⟨e,_⟩ | ⟨e,_⟩ | ⟨e,_⟩
  · exact e
  all_goals omega
theorem Sha.i1 (h : Sha L 1 ns hd) : ns = [] ∧ elK L 0 = [] := by
  rcases h with ⟨_,e⟩ | ⟨e,_⟩ | ⟨e,_⟩ | ⟨e,_⟩ | ⟨e,_⟩ | ⟨e,_⟩
  · exact e
  all_goals omega
theorem Sha.i2 (h : Sha L 2 ns hd) : ∃ r,ns = [r] ∧ Rt L r ∧ elK L r = [] := by
  rcases h with ⟨e,_⟩ | ⟨_,e⟩ | ⟨e,_⟩ | ⟨e,_⟩ | ⟨e,_⟩ | ⟨e,_⟩
  · omega
  · exact e
  all_goals omega
theorem Sha.i3 (h : Sha L 3 ns hd) : ∃ r,ns = [r,hd] ∧ Rt L r ∧ elK L r = [hd] ∧ Hd L r hd := by
  rcases h with ⟨e,_⟩ | ⟨e,_⟩ | ⟨_,e⟩ | ⟨e,_⟩ | ⟨e,_⟩ | ⟨e,_⟩
  · omega
  · omega
  · exact e
  all_goals omega
theorem Sha.i4 (h : Sha L 4 ns hd) : ∃ r n,ns = [r,hd,n] ∧ Rt L r ∧ elK L r = [hd] ∧ Hd L r hd ∧ n ≠ r ∧ n ≠ hd := by
  rcases h with ⟨e,_⟩ | ⟨e,_⟩ | ⟨e,_⟩ | ⟨_,e⟩ | ⟨e,_⟩ | ⟨e,_⟩
  · omega
  · omega
  · omega
  · exact e
  all_goals omega
theorem Sha.i5 (h : Sha L 5 ns hd) : ∃ r,ns = [r] ∧ Rt L r ∧ elK L r = [hd] ∧ Hd L r hd := by
  rcases h with ⟨e,_⟩ | ⟨e,_⟩ | ⟨e,_⟩ | ⟨e,_⟩ | ⟨_,e⟩ | ⟨e,_⟩
  · omega
  · omega
  · omega
  · omega
  · exact e
  · omega
theorem Sha.mode {m : Int} (h : Sha L m ns hd) : m = 0 ∨ m = 1 ∨ m = 2 ∨ m = 3 ∨ m = 4 ∨ m = 5 ∨ m = 6 := by
  rcases h with ⟨e,_⟩ | ⟨e,_⟩ | ⟨e,_⟩ | ⟨e,_⟩ | ⟨e,_⟩ | ⟨e,_⟩ <;> omega
end
section
variable {b : BSt} {t : HTok}
theorem HInv.of (h : Shp b) (hs : Sha b.L b.mode (nds b.s) b.head) : HInv b := .inr ⟨h,.inl hs⟩
theorem targ0 (e : nds b.s = []) : targB b = 0 := by
  have : b.s = [] := by simpa [nds] using e
  unfold targB topS
  rw [this]; rfl
theorem len500 {m hd : Int} (hs : Sha b.L m (nds b.s) hd) : b.s.length < 500 := by have := hs.lt; rw [nds_len] at this; omega
theorem inv_init (h : Shp b) (hm : b.mode = 0) (hs : Sha b.L 0 (nds b.s) b.head) : HInv (initH b t).1 := by
  obtain ⟨e1,e2⟩ := hs.i0
  unfold initH
  split
  · exact .of h (by rw [hm]; exact hs)
  split
  · obtain ⟨L', e, h1, h2⟩ := hs.comm h t.text (into := 0) (.inr rfl)
    rw [e]
    exact .of h1 (by show Sha L' b.mode _ _; rw [hm]; exact h2)
  split
  · have hpos : 0 < b.L.length := List.length_pos_iff.2 h.gd.ne
    have ea : addN b.L (doctN t) = (b.L ++ [bareN (doctN t)],(b.L.length : Int)) := addN_no rfl (fun hh => by cases hh)
    have eadd : addB b (doctN t) = { b with L := b.L ++ [bareN (doctN t)] } := by unfold addB; rw [ea]
    obtain ⟨L2,e2',hN⟩ := app_new h.gd (n := bareN (doctN t)) rfl rfl rfl (q := 0) ⟨by decide,by omega⟩ (by rw [h.gd.doc]; rfl)
    have hS := h.new hN rfl (fun hh => by cases hh)
    have hs2 := hN.sha hs (.inl (by show (2 : Int) ≠ 3; decide))
    rw [ea,eadd]
    dsimp only
    rw [e2']
    refine .of (hS.set ⟨rfl,rfl,rfl⟩) ?_
    obtain ⟨_,g2⟩ := hs2.i0
    exact .inl ⟨.inr rfl,e1,g2⟩
  · exact .of (h.set ⟨rfl,rfl,rfl⟩) (.inl ⟨.inr rfl,e1,e2⟩)
theorem ins_root (h : Shp b) (e1 : nds b.s = []) (e2 : elK b.L 0 = []) {t : HTok} (hn : t.name = sHtml) : HInv (modeB (insertB b (elTok t 0)).1 2) := by
  obtain ⟨b',n,e,g1,g2,g3,g4,g5,g6,g7,g8,g9,g10⟩ := h.insT (by have := nds_len b; rw [e1] at this; simp at this; omega) (t := t) (by rw [hn]; decide)
  rw [e]
  rw [targ0 e1] at g1
  have hpos : 0 < b.L.length := List.length_pos_iff.2 h.gd.ne
  have hl := g1.len
  refine .of (h10_ g10) (.inr (.inl ⟨rfl,(b.L.length : Int),?_,⟨?_,?_,?_⟩,g1.elk0⟩))
  · show nds b'.s = _
    rw [g5,e1]; rfl
  · show elK b'.L 0 = _
    rw [g1.elk (by omega),if_pos ⟨rfl,g2⟩,e2]; rfl
  · show (gN b'.L _).name = _
    rw [g1.new]
    show n.name = _
    rw [g3,hn]
  · show 1 ≤ (b.L.length : Int) ∧ (b.L.length : Int) < (b'.L.length : Int)
    omega
where h10_ {c : BSt} (h : Shp c) : Shp (modeB c 2) := h.set ⟨rfl,rfl,rfl⟩
theorem inv_bhtml (h : Shp b) (hm : b.mode = 1) (hs : Sha b.L 1 (nds b.s) b.head) : HInv (bhtmlH b t).1 := by
  obtain ⟨e1,e2⟩ := hs.i1
  unfold bhtmlH
  split
  · obtain ⟨L', e, h1, h2⟩ := hs.comm h t.text (into := 0) (.inr rfl)
    rw [e]
    exact .of h1 (by show Sha L' b.mode _ _; rw [hm]; exact h2)
  split
  · exact .of h (by rw [hm]; exact hs)
  split
  · rename_i hh
    have := (startT_nm hh).2
    exact ins_root h e1 e2 (by simpa [lHtml,sHtml] using this)
  · exact ins_root h e1 e2 (t := tokI sHtml) rfl
theorem ins_head (h : Shp b) {r : Int} (e1 : nds b.s = [r]) (hr : Rt b.L r) (e2 : elK b.L r = []) {t : HTok} (hn : t.name = sHead) : HInv { (insertB b (elTok t 0)).1 with head := (insertB b (elTok t 0)).2,mode := 3 } := by
  obtain ⟨b',n,e,g1,g2,g3,g4,g5,g6,g7,g8,g9,g10⟩ := h.insT (by have := nds_len b; rw [e1] at this; simp at this; omega) (t := t) (by rw [hn]; decide)
  rw [e]
  obtain ⟨tr,r1,r2⟩ := topT h (ns := []) e1
  rw [tr] at g1
  have hl := g1.len
  have h0 : elK b'.L 0 = [r] := by rw [g1.elk (by omega),if_neg (fun hh => by have := hh.1; omega)]; exact hr.el
  have hnr : (gN b'.L r).name = sHtml := by rw [(g1.old (t := r) (by omega)).2.1]; exact hr.nm
  refine .of (g10.set ⟨rfl,rfl,rfl⟩) (.inr (.inr (.inl ⟨rfl,r,?_,⟨h0,hnr,by show 1 ≤ r ∧ r < (b'.L.length : Int); omega⟩,?_,⟨?_,?_,?_⟩⟩)))
  · show nds b'.s = _
    rw [g5,e1]; rfl
  · show elK b'.L r = [(b.L.length : Int)]
    rw [g1.elk (by omega),if_pos ⟨rfl,g2⟩,e2]; rfl
  · show (gN b'.L (b.L.length : Int)).name = _
    rw [g1.new]
    show n.name = _
    rw [g3,hn]
  · show 1 ≤ (b.L.length : Int) ∧ (b.L.length : Int) < (b'.L.length : Int)
    omega
  · show (b.L.length : Int) ≠ r
    omega
theorem inv_bhead (h : Shp b) (hm : b.mode = 2) (hs : Sha b.L 2 (nds b.s) b.head) : HInv (bheadH b t).1 := by
  obtain ⟨r,e1,e2,e3⟩ := hs.i2
  unfold bheadH
  split
  · obtain ⟨L', e, h1, h2⟩ := hs.comm h t.text (into := -1) (.inl rfl)
    rw [e]
    exact .of h1 (by show Sha L' b.mode _ _; rw [hm]; exact h2)
  split
  · exact .of h (by rw [hm]; exact hs)
  split
  · obtain ⟨L', e, h1, h2⟩ := hs.more h t
    rw [e]
    exact .of h1 (by show Sha L' b.mode _ _; rw [hm]; exact h2)
  split
  · rename_i hh
    have := (startT_nm hh).2
    exact ins_head h e1 e2 e3 (by simpa [lHead,sHead] using this)
  · exact ins_head h e1 e2 e3 (t := tokI sHead) rfl
theorem own_inv {m : Int} {ns : List Int} {x : Int} (h : Shp b) (hs : Sha b.L m (nds b.s) b.head) (hb : b.mode = m) (hr : rawM m) (hx : nds b.s = ns ++ [x]) (hxn : x ≠ 0 ∧ ∀ r,(nds b.s).head? = some r → x ≠ r) : HInv (ownH b t) := by
  rcases hs.own h hb (len500 hs) hx hxn t with e | ⟨h1,h2,h3,⟨h4,h5⟩ | ⟨h4,h5,o,h6,_⟩⟩
  · exact .inl e
  · refine .of h1 ?_
    rw [h4,h5,h2]; exact h3
  · refine .inr ⟨h1, .inr ⟨h4, by rw [h5]; exact hr, nds b.s, o.node, by rw [h6, nds_one], ?_⟩⟩
    rw [h5,h2]; exact h3
theorem lNo2_or (h : startT t lNo2 = true) : startT t lHtml = true ∨ belT t = true := by
  obtain ⟨h1,h2⟩ := startT_nm h
  simp only [lNo2,List.mem_cons,List.not_mem_nil,or_false] at h2
  have hk : decide (t.kind = 2) = true := decide_eq_true h1
  rcases h2 with e | e | e | e | e | e | e
  · left; unfold startT; rw [hk,e]; decide
  all_goals
    right; unfold belT startT; rw [hk,e]
    rw [Bool.or_eq_true]
    exact .inl (by decide)
theorem inv_head {m : Int} {ns : List Int} {x : Int} (h : Shp b) (hs : Sha b.L m (nds b.s) b.head) (hb : b.mode = m) (hr : m = 3 ∨ m = 4) (hx : nds b.s = ns ++ [x]) (hxn : x ≠ 0 ∧ ∀ r,(nds b.s).head? = some r → x ≠ r) (h4 : m = 3 ∨ t.kind = 5 ∨ t.kind = 4 ∨ startT t lNo2 = true) : HInv (headH b t).1 := by
  have hself : HInv b := .of h (by rw [hb]; exact hs)
  unfold headH
  split
  · exact hself
  split
  · obtain ⟨L', e, h1, h2⟩ := hs.chars h t.text
    rw [e]
    exact .of h1 (by show Sha L' b.mode _ _; rw [hb]; exact h2)
  rename_i k5
  split
  · obtain ⟨L', e, h1, h2⟩ := hs.comm h t.text (into := -1) (.inl rfl)
    rw [e]
    exact .of h1 (by show Sha L' b.mode _ _; rw [hb]; exact h2)
  rename_i k4
  split
  · obtain ⟨L', e, h1, h2⟩ := hs.more h t
    rw [e]
    exact .of h1 (by show Sha L' b.mode _ _; rw [hb]; exact h2)
  rename_i kh
  split
  · exact own_inv h hs hb (by rcases hr with e | e <;> rw [e] <;> simp [rawM]) hx hxn
  rename_i kb
  have h3 : m = 3 := by
    rcases h4 with e | e | e | e
    · exact e
    · exact absurd e k5
    · exact absurd e k4
    · rcases lNo2_or e with e | e
      · exact absurd e kh
      · exact absurd e kb
  subst h3
  obtain ⟨r,e1,e2,e3,e4⟩ := hs.i3
  split
  · rename_i hh
    have hn := (startT_nm hh).2
    obtain ⟨b',n,e,g1,g2,g3,g4,g5,g6,g7,g8,g9,g10⟩ := h.insT (len500 hs) (t := t) (by
      have : t.name = ⟨#[110,111,115,99,114,105,112,116]⟩ := by simpa [lNos] using hn
      rw [this]; decide)
    rw [e]
    obtain ⟨tr,_,_⟩ := topT h (ns := [r]) (x := b.head) e1
    rw [tr] at g1
    have hs' := g1.sha hs (.inr ⟨by have := e4.d0; omega,fun r' hr' => by rw [e1] at hr'; cases hr'; exact e4.dr⟩)
    obtain ⟨r',q1,q2,q3,q4⟩ := hs'.i3
    rw [e1] at q1
    obtain rfl : r = r' := by simpa using q1
    refine .of (g10.set ⟨rfl,rfl,rfl⟩) (.inr (.inr (.inr (.inl ⟨rfl,r,(b.L.length : Int),?_,q2,?_,?_,by have := e2.r0; omega,?_⟩))))
    · show nds b'.s = [r, b'.head, _]
      rw [g5,e1,g8]; rfl
    · show elK b'.L r = [b'.head]
      rw [g8]; exact q3
    · show Hd b'.L r b'.head
      rw [g8]; exact q4
    · show (b.L.length : Int) ≠ b'.head
      rw [g8]; have := e4.d0; omega
  split
  · exact hself
  · refine .of (b := modeB (popS b) 5) ((h.sets (s' := b.s.dropLast) fun o ho => List.mem_of_mem_take (by rwa [List.dropLast_eq_take] at ho)).set ⟨rfl, rfl, rfl⟩) (.inr (.inr (.inr (.inr (.inl ⟨rfl, r, ?_, e2, e3, e4⟩)))))
    show nds b.s.dropLast = [r]
    unfold nds at e1 ⊢
    rw [List.map_dropLast,e1]; rfl
theorem head0 {r x : Int} {l : List Int} (e : nds b.s = r :: l) (h : ∀ q,r = q → x ≠ q) : ∀ q,(nds b.s).head? = some q → x ≠ q := fun q hq => by
  rw [e] at hq
  exact h q (by simpa using hq)
theorem inv_nos (h : Shp b) (hm : b.mode = 4) (hs : Sha b.L 4 (nds b.s) b.head) : HInv (nosH b t).1 := by
  obtain ⟨r,n,e1,e2,e3,e4,e5,e6⟩ := hs.i4
  have hself : HInv b := .of h (by rw [hm]; exact hs)
  obtain ⟨_,n1,_⟩ := topT h (ns := [r,b.head]) (x := n) e1
  unfold nosH
  split
  · exact hself
  split
  · rename_i hh
    exact inv_head h hs hm (.inr rfl) (ns := [r,b.head]) (x := n) e1 ⟨by omega,head0 e1 fun q hq => hq ▸ e5⟩ (.inr hh)
  split
  · exact hself
  · refine .of (b := modeB (popS b) 3) ((h.sets (s' := b.s.dropLast) fun o ho => List.mem_of_mem_take (by rwa [List.dropLast_eq_take] at ho)).set ⟨rfl, rfl, rfl⟩) (.inr (.inr (.inl ⟨rfl, r, ?_, e2, e3, e4⟩)))
    show nds b.s.dropLast = [r,b.head]
    unfold nds at e1 ⊢
    rw [List.map_dropLast,e1]; rfl
theorem ins_body (h : Shp b) {r : Int} (e1 : nds b.s = [r]) (hr : Rt b.L r) (e2 : elK b.L r = [b.head]) (e3 : Hd b.L r b.head) {t : HTok} (hn : t.name = sBody_) : HInv (modeB (insertB b (elTok t 0)).1 6) := by
  obtain ⟨b',n,e,g1,g2,g3,g4,g5,g6,g7,g8,g9,g10⟩ := h.insT (by have := nds_len b; rw [e1] at this; simp at this; omega) (t := t) (by rw [hn]; decide)
  rw [e]
  obtain ⟨tr,r1,r2⟩ := topT h (ns := []) e1
  rw [tr] at g1
  have hl := g1.len
  have h0 : elK b'.L 0 = [r] := by rw [g1.elk (by omega),if_neg (fun hh => by have := hh.1; omega)]; exact hr.el
  have hnr : (gN b'.L r).name = sHtml := by rw [(g1.old (t := r) (by omega)).2.1]; exact hr.nm
  have hd0 := e3.d0
  refine .of (b := modeB b' 6) (g10.set ⟨rfl,rfl,rfl⟩) (.inr (.inr (.inr (.inr (.inr ⟨rfl,r,(b.L.length : Int),?_,⟨h0,hnr,by show 1 ≤ r ∧ r < (b'.L.length : Int); omega⟩,?_,?_,?_,?_⟩)))))
  · show nds b'.s = _
    rw [g5,e1]; rfl
  · show elK b'.L r = [b'.head, (b.L.length : Int)]
    rw [g1.elk (by omega),if_pos ⟨rfl,g2⟩,e2,g8]; rfl
  · show Hd b'.L r b'.head
    rw [g8]
    exact ⟨by rw [(g1.old (t := b.head) (by omega)).2.1]; exact e3.nm,by omega,e3.dr⟩
  · show (gN b'.L (b.L.length : Int)).name = _
    rw [g1.new]
    show n.name = _
    rw [g3,hn]
  · show (gN b'.L (b.L.length : Int)).space = _
    rw [g1.new]
    exact g4
theorem inv_after (h : Shp b) (hm : b.mode = 5) (hs : Sha b.L 5 (nds b.s) b.head) : HInv (afterH b t).1 := by
  obtain ⟨r,e1,e2,e3,e4⟩ := hs.i5
  have hself : HInv b := .of h (by rw [hm]; exact hs)
  unfold afterH
  split
  · obtain ⟨L', e, h1, h2⟩ := hs.chars h t.text
    rw [e]
    exact .of h1 (by show Sha L' b.mode _ _; rw [hm]; exact h2)
  split
  · obtain ⟨L', e, h1, h2⟩ := hs.comm h t.text (into := -1) (.inl rfl)
    rw [e]
    exact .of h1 (by show Sha L' b.mode _ _; rw [hm]; exact h2)
  split
  · exact hself
  split
  · obtain ⟨L', e, h1, h2⟩ := hs.more h t
    rw [e]
    exact .of h1 (by show Sha L' b.mode _ _; rw [hm]; exact h2)
  split
  · rename_i hh
    have := (startT_nm hh).2
    exact ins_body h e1 e2 e3 e4 (by simpa [lBody,sBody_] using this)
  split
  · rename_i hh
    obtain ⟨k3,hn⟩ := endT_nm hh
    have hn : t.name = tmpl := by simpa [lTem,tmpl] using hn
    have hb : belT t = true := by unfold belT; rw [hh,Bool.or_true]
    have hst : startT t lHtml = false := by unfold startT; rw [k3]; rfl
    unfold headH
    rw [if_neg (by rw [k3]; decide),if_neg (by rw [k3]; decide),if_neg (by rw [k3]; decide),if_neg (by rw [hst]; decide),if_pos hb]
    unfold ownH temH
    rw [if_pos hn,if_neg (by rw [k3]; decide),h.noT,if_neg (by decide)]
    exact hself
  split
  · have hd0 := e4.d0
    have hk3 : (gN b.L b.head).kind = 3 := by
      have : b.head ∈ elK b.L r := by rw [e3]; simp
      unfold elK at this
      exact of_decide_eq_true (List.mem_filter.1 this).2
    have hnd : nodeN b.L b.head = gN b.L b.head := nodeN_gN (by omega)
    have hop : opN b.L b.head = ⟨b.head,(gN b.L b.head).space,(gN b.L b.head).name⟩ := by
      unfold nodeN at hnd
      unfold opN; rw [hnd]
    have hlen := len500 hs
    have hpu : pushedB b b.head = { b with s := b.s ++ [opN b.L b.head] } := by
      unfold pushedB pushB insS
      unfold nodeN at hnd
      rw [hnd,if_pos hk3,if_pos ⟨by omega,Int.le_refl _⟩,if_neg (by omega),Int.toNat_natCast,List.take_length,List.drop_length]
      unfold failB
      rw [if_neg (fun h => h.2 rfl)]
    have hnode : (opN b.L b.head).node = b.head := rfl
    have hC : Shp { b with s := b.s ++ [opN b.L b.head] } := ⟨h.gd,h.fo,h.nt,fun o ho => by
      have ho : o ∈ b.s ++ [opN b.L b.head] := ho
      rcases List.mem_append.1 ho with ho | ho
      · exact h.st o ho
      · rw [List.mem_singleton] at ho
        rw [ho,hop]
        exact ⟨by show 1 ≤ b.head; omega,by show b.head < (b.L.length : Int); omega,hk3,rfl⟩⟩
    have hcx : nds ({ b with s := b.s ++ [opN b.L b.head] } : BSt).s = [r] ++ [b.head] := by
      show nds (b.s ++ [opN b.L b.head]) = _
      rw [nds_one,e1,hnode]
    have hs5 : Sha b.L 5 [r] b.head := by rw [← e1]; exact hs
    rw [hpu]
    rcases Sha.own (b := { b with s := b.s ++ [opN b.L b.head] }) (m := 5) (ns0 := [r]) (hd := b.head) hC hs5 hm (by show (b.s ++ [opN b.L b.head]).length < 500; have := nds_len b; rw [e1] at this; simp at this ⊢; omega) hcx ⟨by omega,fun q hq => by
      have : r = q := by simpa using hq
      rw [← this]; exact e4.dr⟩ t with e | ⟨h1,h2,h3,⟨h4,h5⟩ | ⟨h4,h5,o,h6,h7⟩⟩
    · exact .inl e
    · have h2 : (ownH { b with s := b.s ++ [opN b.L b.head] } t).head = b.head := h2
      have h5 : (ownH { b with s := b.s ++ [opN b.L b.head] } t).s = b.s ++ [opN b.L b.head] := h5
      generalize ownH { b with s := b.s ++ [opN b.L b.head] } t = c at *
      have hrem : (remS c.s c.head).1 = b.s := by
        rw [h5,h2]
        have := rem_mid (A := b.s) (B := []) (o := opN b.L b.head) (by simp)
        rw [hnode] at this
        rw [this]; simp
      show HInv (remB c c.head)
      unfold remB
      rw [hrem]
      refine .of (b := { c with s := b.s }) (h1.sets fun o ho => by rw [h5]; simp [ho]) ?_
      show Sha c.L c.mode (nds b.s) c.head
      rw [h4,h2,e1]; exact h3
    · have h2 : (ownH { b with s := b.s ++ [opN b.L b.head] } t).head = b.head := h2
      have h6 : (ownH { b with s := b.s ++ [opN b.L b.head] } t).s = b.s ++ [opN b.L b.head] ++ [o] := h6
      have h7 : (b.L.length : Int) ≤ o.node := h7
      generalize ownH { b with s := b.s ++ [opN b.L b.head] } t = c at *
      have hrem : (remS c.s c.head).1 = b.s ++ [o] := by
        rw [h6,h2]
        have := rem_mid (A := b.s) (B := [o]) (o := opN b.L b.head) (fun z hz => by
          rw [List.mem_singleton] at hz
          rw [hz,hnode]; omega)
        rw [hnode] at this
        rw [List.append_assoc]
        show (remS (b.s ++ opN b.L b.head :: [o]) b.head).1 = _
        rw [this]
      show HInv (remB c c.head)
      unfold remB
      rw [hrem]
      refine .inr ⟨h1.sets (s' := b.s ++ [o]) fun z hz => by
        rw [h6]
        simp only [List.mem_append,List.mem_singleton] at hz ⊢
        rcases hz with hz | hz
        · exact .inl (.inl hz)
        · exact .inr hz,.inr ⟨h4,by show rawM c.back; rw [h5]; simp [rawM],[r],o.node,by show nds (b.s ++ [o]) = _; rw [nds_one,e1],?_⟩⟩
      show Sha c.L c.back [r] c.head
      rw [h5,h2]; exact h3
  split
  · exact hself
  · exact ins_body h e1 e2 e3 e4 (t := tokI sBody_) rfl
theorem inv_text (h : Shp b) (hm : b.mode = 7) (hr : rawM b.back) {ns : List Int} {x : Int} (hx : nds b.s = ns ++ [x]) (hs : Sha b.L b.back ns b.head) : HInv (textH b t).1 := by
  unfold textH
  split
  · obtain ⟨L', e, h1, h2⟩ := hs.chars h t.text
    rw [e]
    exact .inr ⟨h1,.inr ⟨hm,hr,ns,x,hx,h2⟩⟩
  · refine .of (b := modeB (popS b) b.back) ((h.sets (s' := b.s.dropLast) fun o ho => List.mem_of_mem_take (by rwa [List.dropLast_eq_take] at ho)).set ⟨rfl, rfl, rfl⟩) ?_
    show Sha b.L b.back (nds b.s.dropLast) b.head
    have : nds b.s.dropLast = ns := by
      unfold nds at hx ⊢
      rw [List.map_dropLast,hx]; simp
    rw [this]; exact hs
theorem HInv.step (h : HInv b) (t : HTok) : HInv (stepH b t).1 := by
  rcases h with h15 | ⟨h,hs | ⟨hm,hr,ns,x,hx,hs⟩⟩
  · unfold stepH
    rw [if_neg (by omega),if_neg (by omega),if_neg (by omega),if_neg (by omega),if_neg (by omega),if_neg (by omega),if_neg (by omega)]
    exact .inl h15
  · unfold stepH
    split
    · rename_i e; rw [e] at hs; exact inv_init h e hs
    split
    · rename_i e; rw [e] at hs; exact inv_bhtml h e hs
    split
    · rename_i e; rw [e] at hs; exact inv_bhead h e hs
    split
    · rename_i e
      rw [e] at hs
      obtain ⟨r,e1,e2,e3,e4⟩ := hs.i3
      exact inv_head h hs e (.inl rfl) (ns := [r]) (x := b.head) e1 ⟨by have := e4.d0; omega,head0 e1 fun q hq => hq ▸ e4.dr⟩ (.inl rfl)
    split
    · rename_i e; rw [e] at hs; exact inv_nos h e hs
    split
    · rename_i e; rw [e] at hs; exact inv_after h e hs
    split
    · rename_i e
      have := hs.mode
      omega
    · exact .of h hs
  · unfold stepH
    rw [if_neg (by omega),if_neg (by omega),if_neg (by omega),if_neg (by omega),if_neg (by omega),if_neg (by omega),if_pos hm]
    exact inv_text h hm hr hx hs
end
theorem szO_new : SzO 0 newB := ⟨by decide,by decide,by decide,by decide,fun n hn => by
  have : n = docN := by simpa [newB] using hn
  rw [this]; exact ⟨by decide,by decide,by decide⟩,fun o ho => by cases ho⟩
end Go.Vk
end
section
namespace Go.Vk
open Go Go.Proofs.YtgnnlaeikcnhcaaGreatDoor
theorem ins_mode (b : BSt) (m : Int) (n : Nd) : insertB (modeB b m) n = (modeB (insertB b n).1 m,(insertB b n).2) := by
  unfold insertB
  by_cases h : 512 ≤ b.s.length
  · rw [if_pos h, if_pos (show 512 ≤ (modeB b m).s.length from h)]
    unfold failB modeB
    dsimp only
    split <;> rfl
  · rw [if_neg h, if_neg (show ¬ 512 ≤ (modeB b m).s.length from h)]
    have e1 : hungB (modeB b m) n = modeB (hungB b n) m := by
      unfold hungB putB
      have ep : placeB (addB (modeB b m) n) (targB (addB (modeB b m) n)) = placeB (addB b n) (targB (addB b n)) := rfl
      rw [ep]
      split <;> rfl
    rw [e1]
    have e2 : (modeB b m).L = b.L := rfl
    rw [e2]
    have e3 : pushB (modeB (hungB b n) m) (addN b.L n).2 = (modeB (pushB (hungB b n) (addN b.L n).2).1 m,(pushB (hungB b n) (addN b.L n).2).2) := rfl
    rw [e3]
    unfold failB modeB
    dsimp only
    split <;> rfl
def earlyR (b : BSt) (t : HTok) : BSt × Bool :=
  if t.kind = 4 then (if b.mode = 2 then commB b t.text (-1) else commB b t.text 0,true)
  else (b,decide (t.kind = 5) || (decide (0 < b.mode) && (decide (t.kind = 1) || strT t)))
def doctR (b : BSt) (t : HTok) : BSt := { addB b (doctN t) with L := (appendN (addB b (doctN t)).L 0 (addN b.L (doctN t)).2).1,quirks := t.quirks || !decide (t.name = sHtml),mode := 1 }
def beforeR (b : BSt) (t : HTok) : BSt × Bool :=
  if (earlyR b t).2 = true then ((earlyR b t).1,false)
  else if b.mode = 0 then (if t.kind = 1 then (doctR b t,false) else ({ b with quirks := true,mode := 1 },true))
  else if b.mode = 1 then (if startT t lHtml = true then ((insertB (modeB b 2) (elTok t 0)).1,false) else ((implyB (modeB b 2) sHtml).1,true))
  else if startT t lHtml = true then (moreB b t,false)
  else if startT t lHead = true then ({ (insertB (modeB b 3) (elTok t 0)).1 with head := (insertB (modeB b 3) (elTok t 0)).2 },false)
  else ({ (implyB (modeB b 3) sHead).1 with head := (implyB (modeB b 3) sHead).2 },true)
def ownR (b : BSt) (t : HTok) : BSt :=
  if endT t lTem = true then (if 0 ≤ lastBu b tmpl then leaveB (thorB b) else b)
  else if t.name = tmpl then
    let b1 := (insertB b (elTok t 0)).1
    let b2 := failB (markB b1).1 (markB b1).2
    { b2 with mode := 15,modes := b2.modes ++ [15] }
  else if startT t lRaw = true then rawB b t (stateN t.name)
  else (onlyB b t).1
def headR (b : BSt) (t : HTok) : BSt × Bool :=
  if t.kind = 1 ∨ (strT t = true ∧ belT t = false) ∨ startT t lHead = true then (b,false)
  else if t.kind = 5 then (charsB b t.text,false)
  else if t.kind = 4 then (commB b t.text (-1),false)
  else if startT t lHtml = true then (moreB b t,false)
  else if belT t = true then (ownR b t,false)
  else if startT t lNos = true then (modeB (insertB b (elTok t 0)).1 4,false)
  else (modeB (popS b) 5,!endT t lHead)
def lNB : List ByteArray := [sNosc,sBr]
def nosR (b : BSt) (t : HTok) : BSt × Bool :=
  if t.kind = 1 ∨ startT t lHN = true ∨ (t.kind = 3 ∧ endT t lNB = false) then (b,false)
  else if t.kind = 5 ∨ t.kind = 4 ∨ startT t lNo2 = true then headR b t
  else (modeB (popS b) 3,!endT t lNos)
def afterR (b : BSt) (t : HTok) : BSt × Bool :=
  if t.kind = 5 ∨ t.kind = 4 ∨ startT t lHtml = true ∨ endT t lTem = true then headR b t
  else if t.kind = 1 ∨ startT t lHF = true ∨ strT t = true ∨ endT t lHead = true then (b,false)
  else if belT t = true then (remB (ownR (pushedB b b.head) t) (ownR (pushedB b b.head) t).head,false)
  else if startT t lBody = true then (modeB (insertB b (elTok t 0)).1 6,false)
  else (modeB (implyB b sBody_).1 6,true)
def stepR (b : BSt) (t : HTok) : BSt × Bool :=
  if b.mode = 0 ∨ b.mode = 1 ∨ b.mode = 2 then beforeR b t
  else if b.mode = 3 then headR b t
  else if b.mode = 4 then nosR b t
  else if b.mode = 5 then afterR b t
  else if b.mode = 7 then textH b t
  else (b,false)
section
variable {b : BSt} {t : HTok}
theorem startT_k {l : List ByteArray} (h : t.kind ≠ 2) : startT t l = false := by unfold startT; rw [decide_eq_false h]; rfl
theorem endT_k {l : List ByteArray} (h : t.kind ≠ 3) : endT t l = false := by unfold endT; rw [decide_eq_false h]; rfl
theorem strT_k (h : t.kind ≠ 3) : strT t = false := by unfold strT; rw [decide_eq_false h]; rfl
theorem startT_e {l : List ByteArray} (h : t.kind = 2) : startT t l = l.any fun y => decide (t.name = y) := by unfold startT; rw [decide_eq_true h]; rfl
theorem endT_e {l : List ByteArray} (h : t.kind = 3) : endT t l = l.any fun y => decide (t.name = y) := by unfold endT; rw [decide_eq_true h]; rfl
theorem any_mem {l : List ByteArray} {x : ByteArray} : (l.any fun y => decide (x = y)) = true ↔ x ∈ l := by
  rw [List.any_eq_true]
  exact ⟨fun ⟨y,h1,h2⟩ => by rw [of_decide_eq_true h2]; exact h1,fun h => ⟨x,h,decide_eq_true rfl⟩⟩
theorem own_eq (hb : belT t = true) : ownR b t = ownH b t := by
  unfold ownR ownH
  by_cases k3 : t.kind = 3
  · have h1 : startT t lBel = false := startT_k (by omega)
    have h2 : endT t lTem = true := by unfold belT at hb; rw [h1,Bool.false_or] at hb; exact hb
    have hn : t.name = tmpl := by
      rw [endT_e k3,any_mem] at h2
      simpa [lTem,tmpl] using h2
    rw [if_pos h2,if_pos hn]
    unfold temH
    rw [if_neg (show ¬ t.kind = 2 by omega)]
  · have h2 : endT t lTem = false := endT_k k3
    have h1 : startT t lBel = true := by unfold belT at hb; rw [h2,Bool.or_false] at hb; exact hb
    have k2 : t.kind = 2 := by
      unfold startT at h1
      simp only [Bool.and_eq_true,decide_eq_true_eq] at h1
      exact h1.1
    rw [h2,if_neg (by decide)]
    by_cases hn : t.name = tmpl
    · rw [if_pos hn, if_pos hn]
      unfold temH
      rw [if_pos k2]
    · rw [if_neg hn, if_neg hn]
      have e : startT t lRaw = true ↔ (t.name = sTitle ∨ t.name = sNof ∨ t.name = sStyle ∨ t.name = sScript) := by
        rw [startT_e k2,any_mem]
        simp [lRaw,sTitle,sNof,sStyle,sScript]
      by_cases hr : startT t lRaw = true
      · rw [if_pos hr,if_pos (e.1 hr)]
      · rw [if_neg hr,if_neg (fun h => hr (e.2 h))]
theorem head_eq : headR b t = headH b t := by
  unfold headR headH
  by_cases k1 : t.kind = 1
  · rw [if_pos (.inl k1),if_pos k1]
  by_cases k5 : t.kind = 5
  · rw [if_neg (by
      rw [strT_k (by omega),startT_k (by omega)]
      rintro (h | h | h)
      · omega
      · cases h.1
      · cases h),if_pos k5,if_neg k1,if_pos k5]
  by_cases k4 : t.kind = 4
  · rw [if_neg (by
      rw [strT_k (by omega),startT_k (by omega)]
      rintro (h | h | h)
      · omega
      · cases h.1
      · cases h),if_neg k5,if_pos k4,if_neg k1,if_neg k5,if_pos k4]
  rw [if_neg k1,if_neg k5,if_neg k4]
  by_cases hh : startT t lHtml = true
  · obtain ⟨k2,hm⟩ : t.kind = 2 ∧ t.name ∈ lHtml := by
      unfold startT at hh
      rw [Bool.and_eq_true,decide_eq_true_eq,any_mem] at hh
      exact hh
    have hm : t.name = ⟨#[104,116,109,108]⟩ := by simpa [lHtml] using hm
    rw [if_neg (by
      rw [strT_k (by omega),startT_e k2,hm]
      rintro (h | h | h)
      · omega
      · cases h.1
      · revert h; decide),if_neg k5,if_neg k4,if_pos hh,if_pos hh]
  by_cases hb : belT t = true
  · have h3 : ¬ (t.kind = 1 ∨ (strT t = true ∧ belT t = false) ∨ startT t lHead = true) := by
      rintro (h | h | h)
      · exact k1 h
      · rw [hb] at h; cases h.2
      · have k2 : t.kind = 2 := by
          unfold startT at h
          rw [Bool.and_eq_true,decide_eq_true_eq] at h
          exact h.1
        rw [startT_e k2,any_mem] at h
        have hm : t.name = ⟨#[104,101,97,100]⟩ := by simpa [lHead] using h
        unfold belT at hb
        rw [endT_k (by omega),Bool.or_false,startT_e k2,hm] at hb
        revert hb; decide
    rw [if_neg h3,if_neg k5,if_neg k4,if_neg hh,if_pos hb,if_neg hh,if_pos hb,own_eq hb]
  have hbf : belT t = false := by simpa using hb
  rw [if_neg hh,if_neg hb]
  by_cases hn : startT t lNos = true
  · obtain ⟨k2,hm⟩ : t.kind = 2 ∧ t.name ∈ lNos := by
      unfold startT at hn
      rw [Bool.and_eq_true,decide_eq_true_eq,any_mem] at hn
      exact hn
    have hm : t.name = ⟨#[110,111,115,99,114,105,112,116]⟩ := by simpa [lNos] using hm
    rw [if_neg (by
      rw [strT_k (by omega),startT_e k2,hm]
      rintro (h | h | h)
      · omega
      · cases h.1
      · revert h; decide),if_neg k5,if_neg k4,if_neg hh,if_neg hb,if_pos hn,if_pos hn]
  rw [if_neg hn]
  by_cases hs : startT t lHead = true ∨ strT t = true
  · have hc : t.kind = 1 ∨ (strT t = true ∧ belT t = false) ∨ startT t lHead = true := by
      rcases hs with hs | hs
      · exact .inr (.inr hs)
      · exact .inr (.inl ⟨hs,hbf⟩)
    simp only [if_pos hs,if_pos hc,if_neg k5,if_neg k4,if_neg hh,if_neg hb,if_neg hn,if_neg k1]
  · have hc : ¬ (t.kind = 1 ∨ (strT t = true ∧ belT t = false) ∨ startT t lHead = true) := by
      rintro (h | h | h)
      · exact k1 h
      · exact hs (.inr h.1)
      · exact hs (.inl h)
    simp only [if_neg hs,if_neg hc,if_neg k5,if_neg k4,if_neg hh,if_neg hb,if_neg hn,if_neg k1]
theorem nos_eq : nosR b t = nosH b t := by
  unfold nosR nosH
  by_cases k3 : t.kind = 3
  · have h1 : startT t lHN = false := startT_k (by omega)
    have h2 : startT t lNo2 = false := startT_k (by omega)
    have e : endT t lNB = true ↔ (t.name = sNosc ∨ t.name = sBr) := by
      rw [endT_e k3,any_mem]
      simp [lNB]
    by_cases hn : t.name = sNosc ∨ t.name = sBr
    · have h3 := e.2 hn
      rw [if_neg (by
        rw [h1,h3]
        rintro (h | h | h)
        · omega
        · cases h
        · cases h.2),if_neg (by
        rw [h2]
        rintro (h | h | h)
        · omega
        · omega
        · cases h),if_neg (by
        rw [h1]
        rintro (h | h)
        · omega
        · cases h),if_neg (by
        rw [h2]
        rintro (h | h | h)
        · omega
        · omega
        · cases h),if_neg (by
        rintro ⟨_,h5,h6⟩
        rcases hn with hn | hn
        · exact h5 hn
        · exact h6 hn)]
    · have h3 : endT t lNB = false := by
        cases h : endT t lNB with
        | false => rfl
        | true => exact absurd (e.1 h) hn
      rw [if_pos (.inr (.inr ⟨k3,h3⟩)),if_neg (by
        rw [h1]
        rintro (h | h)
        · omega
        · cases h),if_neg (by
        rw [h2]
        rintro (h | h | h)
        · omega
        · omega
        · cases h),if_pos ⟨k3,fun h => hn (.inl h),fun h => hn (.inr h)⟩]
  · by_cases h1 : t.kind = 1 ∨ startT t lHN = true
    · rw [if_pos h1,if_pos (by
        rcases h1 with h | h
        · exact .inl h
        · exact .inr (.inl h))]
    · rw [if_neg h1,if_neg (by
        rintro (h | h | h)
        · exact h1 (.inl h)
        · exact h1 (.inr h)
        · exact k3 h.1),head_eq]
      split
      · rfl
      · rw [if_neg (fun h => k3 h.1)]
theorem after_eq : afterR b t = afterH b t := by
  unfold afterR afterH
  by_cases k5 : t.kind = 5
  · rw [if_pos (.inl k5), if_pos k5, head_eq]
    unfold headH
    rw [if_neg (by omega),if_pos k5]
  rw [if_neg k5]
  by_cases k4 : t.kind = 4
  · rw [if_pos (.inr (.inl k4)), if_pos k4, head_eq]
    unfold headH
    rw [if_neg (by omega),if_neg k5,if_pos k4]
  rw [if_neg k4]
  have nm : ∀ {l : List ByteArray},startT t l = true → t.kind = 2 ∧ t.name ∈ l := fun {l} h => by
    unfold startT at h
    rw [Bool.and_eq_true,decide_eq_true_eq,any_mem] at h
    exact h
  have nme : ∀ {l : List ByteArray},endT t l = true → t.kind = 3 ∧ t.name ∈ l := fun {l} h => by
    unfold endT at h
    rw [Bool.and_eq_true,decide_eq_true_eq,any_mem] at h
    exact h
  by_cases hh : startT t lHtml = true
  · obtain ⟨k2, hm⟩ := nm hh
    have hm : t.name = ⟨#[104,116,109,108]⟩ := by simpa [lHtml] using hm
    rw [if_pos (.inr (.inr (.inl hh))),head_eq,if_neg (by
      rw [startT_e k2,hm]
      rintro (h | h)
      · omega
      · revert h; decide),if_pos hh]
    unfold headH
    rw [if_neg (by omega),if_neg k5,if_neg k4,if_pos hh]
  by_cases he : endT t lTem = true
  · obtain ⟨k3, hm⟩ := nme he
    rw [if_pos (.inr (.inr (.inr he))),head_eq,if_neg (by
      rw [startT_k (by omega)]
      rintro (h | h)
      · omega
      · cases h),if_neg hh,if_neg (by rw [startT_k (by omega)]; decide),if_pos he]
  rw [if_neg (by
    rintro (h | h | h | h)
    · exact k5 h
    · exact k4 h
    · exact hh h
    · exact he h)]
  by_cases h1 : t.kind = 1 ∨ startT t lHF = true
  · rw [if_pos h1,if_pos (by
      rcases h1 with h | h
      · exact .inl h
      · exact .inr (.inl h))]
  rw [if_neg h1,if_neg hh]
  by_cases hbo : startT t lBody = true
  · obtain ⟨k2, hm⟩ := nm hbo
    have hm : t.name = ⟨#[98,111,100,121]⟩ := by simpa [lBody] using hm
    have hbf : belT t = false := by
      unfold belT
      rw [startT_e k2,endT_k (by omega),hm]
      decide
    rw [if_pos hbo,if_neg (by
      rw [strT_k (by omega),endT_k (l := lHead) (by omega)]
      rintro (h | h | h | h)
      · exact h1 (.inl h)
      · exact h1 (.inr h)
      · cases h
      · cases h),hbf,if_neg (by decide),if_pos hbo]
  rw [if_neg hbo,if_neg he]
  by_cases hb : belT t = true
  · have k2 : t.kind = 2 := by
      unfold belT at hb
      rw [show endT t lTem = false by simpa using he,Bool.or_false] at hb
      exact (nm hb).1
    have hc : ¬ (t.kind = 1 ∨ startT t lHF = true ∨ strT t = true ∨ endT t lHead = true) := by
      rw [strT_k (by omega),endT_k (l := lHead) (by omega)]
      rintro (h | h | h | h)
      · exact h1 (.inl h)
      · exact h1 (.inr h)
      · cases h
      · cases h
    simp only [if_neg hc,if_pos hb,own_eq hb,if_neg hbo,if_neg he,if_neg h1,if_neg hh]
  by_cases hs : strT t = true ∨ endT t lHead = true
  · have hc : t.kind = 1 ∨ startT t lHF = true ∨ strT t = true ∨ endT t lHead = true := by
      rcases hs with h | h
      · exact .inr (.inr (.inl h))
      · exact .inr (.inr (.inr h))
    simp only [if_pos hs,if_pos hc,if_neg hb,if_neg hbo,if_neg he,if_neg h1,if_neg hh]
  · have hc : ¬ (t.kind = 1 ∨ startT t lHF = true ∨ strT t = true ∨ endT t lHead = true) := by
      rintro (h | h | h | h)
      · exact h1 (.inl h)
      · exact h1 (.inr h)
      · exact hs (.inl h)
      · exact hs (.inr h)
    simp only [if_neg hs,if_neg hc,if_neg hb,if_neg hbo,if_neg he,if_neg h1,if_neg hh]
theorem imply_mode (b : BSt) (m : Int) (x : ByteArray) : implyB (modeB b m) x = (modeB (implyB b x).1 m,(implyB b x).2) := ins_mode b m _
theorem before0_eq (hm : b.mode = 0) : beforeR b t = initH b t := by
  unfold beforeR initH earlyR
  by_cases k4 : t.kind = 4
  · rw [if_pos k4,if_neg (show ¬ b.mode = 2 by omega),if_pos rfl,if_neg (by omega),if_pos k4]
  · rw [if_neg k4]
    by_cases k5 : t.kind = 5
    · rw [if_pos k5,decide_eq_true k5,Bool.true_or,if_pos rfl]
    · have hc : ((b,decide (t.kind = 5) || (decide (0 < b.mode) && (decide (t.kind = 1) || strT t))) : BSt × Bool).2 = false := by
        rw [decide_eq_false k5,Bool.false_or,decide_eq_false (show ¬ 0 < b.mode by omega),Bool.false_and]
      rw [if_neg (by rw [hc]; decide),if_pos hm,if_neg k5,if_neg k4]
      rfl
theorem before1_eq (hm : b.mode = 1) : beforeR b t = bhtmlH b t := by
  unfold beforeR bhtmlH earlyR
  by_cases k4 : t.kind = 4
  · rw [if_pos k4,if_neg (show ¬ b.mode = 2 by omega),if_pos rfl,if_pos k4]
  · rw [if_neg k4, if_neg k4]
    by_cases h : t.kind = 1 ∨ t.kind = 5 ∨ strT t = true
    · rw [if_pos h, if_pos]
      simp only [Bool.or_eq_true,Bool.and_eq_true,decide_eq_true_eq]
      rcases h with h | h | h
      · exact .inr ⟨by omega,.inl h⟩
      · exact .inl h
      · exact .inr ⟨by omega,.inr h⟩
    · rw [if_neg h, if_neg, if_neg (by omega), if_pos hm, ins_mode, imply_mode]
      simp only [Bool.or_eq_true,Bool.and_eq_true,decide_eq_true_eq]
      rintro (h2 | ⟨_,h2 | h2⟩)
      · exact h (.inr (.inl h2))
      · exact h (.inl h2)
      · exact h (.inr (.inr h2))
theorem before2_eq (hm : b.mode = 2) : beforeR b t = bheadH b t := by
  unfold beforeR bheadH earlyR
  by_cases k4 : t.kind = 4
  · rw [if_pos k4,if_pos hm,if_pos rfl,if_pos k4]
  · rw [if_neg k4, if_neg k4]
    by_cases h : t.kind = 1 ∨ t.kind = 5 ∨ strT t = true
    · rw [if_pos h, if_pos]
      simp only [Bool.or_eq_true,Bool.and_eq_true,decide_eq_true_eq]
      rcases h with h | h | h
      · exact .inr ⟨by omega,.inl h⟩
      · exact .inl h
      · exact .inr ⟨by omega,.inr h⟩
    · rw [if_neg h, if_neg, if_neg (by omega), if_neg (by omega), ins_mode, imply_mode]
      · rfl
      simp only [Bool.or_eq_true,Bool.and_eq_true,decide_eq_true_eq]
      rintro (h2 | ⟨_,h2 | h2⟩)
      · exact h (.inr (.inl h2))
      · exact h (.inl h2)
      · exact h (.inr (.inr h2))
theorem step_eq : stepR b t = stepH b t := by
  unfold stepR stepH
  by_cases m0 : b.mode = 0
  · rw [if_pos (.inl m0),if_pos m0,before0_eq m0]
  by_cases m1 : b.mode = 1
  · rw [if_pos (.inr (.inl m1)),if_neg m0,if_pos m1,before1_eq m1]
  by_cases m2 : b.mode = 2
  · rw [if_pos (.inr (.inr m2)),if_neg m0,if_neg m1,if_pos m2,before2_eq m2]
  rw [if_neg (by omega),if_neg m0,if_neg m1,if_neg m2,head_eq,nos_eq,after_eq]
end
end Go.Vk
end
section
namespace Go.Vk
open Go Go.Proofs.YtgnnlaeikcnhcaaGreatDoor
theorem gN_ext {L L' : List Nd} (hl : L.length = L'.length) (h : ∀ t : Int,0 ≤ t → t < L.length → gN L t = gN L' t) : L = L' := by
  apply List.ext_getElem hl
  intro i h1 h2
  have := h i (by omega) (by omega)
  rwa [gN_nat (List.getElem?_eq_getElem h1),gN_nat (List.getElem?_eq_getElem h2)] at this
def layD (L : List Nd) (q : Int) (n : Nd) : List Nd := ((L ++ [n]).modify q.toNat fun x => { x with kids := x.kids ++ [(L.length : Int)] }).modify L.length fun x => { x with parent := q }
theorem layD_len (L : List Nd) (q : Int) (n : Nd) : (layD L q n).length = L.length + 1 := by unfold layD; simp
theorem New.list {L L2 : List Nd} {q : Int} {n : Nd} (h : New L L2 q n) : L2 = layD L q n := by
  have hq := h.q0
  have hl := h.len
  refine gN_ext (by rw [layD_len,hl]) fun t h0 h1 => ?_
  rw [h.g t]
  unfold layD
  rw [gN_modify (by simp),gN_modify (by simp; omega),gN_push]
  rw [Int.toNat_of_nonneg hq.1]
  by_cases e1 : t = (L.length : Int)
  · rw [if_pos e1,if_pos e1,if_pos e1,if_neg (by omega)]
  · rw [if_neg e1,if_neg e1,if_neg e1]
section
variable {b : BSt} {t : HTok}
def charsD (b : BSt) (x : ByteArray) : BSt :=
  if targB b = 0 ∨ x = ⟨#[]⟩ then b
  else match (gN b.L (targB b)).kids.getLast? with
    | some k => if (gN b.L k).kind = 4 then { b with L := b.L.modify k.toNat (addText x) } else { b with L := layD b.L (targB b) (textNd x) }
    | none => { b with L := layD b.L (targB b) (textNd x) }
theorem Shp.charsD (h : Shp b) (x : ByteArray) : charsB b x = Go.Vk.charsD b x := by
  obtain ⟨⟨t0,t1⟩,hh,hp,_⟩ := h.targ
  have hnew : hangN (b.L ++ [textNd x]) (targB b).toNat (-1) b.L.length = layD b.L (targB b) (textNd x) := by
    have hgn := gN_hang_new h.gd (n := textNd x) rfl rfl (by show (4 : Int) ≠ 1; decide) (p := (targB b).toNat) (by omega)
    rw [Int.toNat_of_nonneg t0] at hgn
    have hN : New b.L (hangN (b.L ++ [textNd x]) (targB b).toNat (-1) b.L.length) (targB b) (textNd x) := ⟨h.gd,h.gd.new_free rfl rfl rfl (by omega) _,by rw [hangN_len]; simp,⟨t0,t1⟩,rfl,hgn⟩
    exact hN.list
  unfold charsB Go.Vk.charsD
  rw [hp]
  dsimp only
  by_cases h0 : targB b = 0
  · rw [if_neg (by omega),if_pos (.inl h0)]
  rw [if_pos (by omega)]
  unfold textN
  rw [if_pos ⟨by rw [holdsN_g]; exact hh,.inl rfl⟩]
  by_cases hx : x = ⟨#[]⟩
  · rw [if_pos hx,if_pos (.inr hx)]
  rw [if_neg hx,if_neg (show ¬ (targB b = 0 ∨ x = ⟨#[]⟩) from fun e => e.elim h0 hx)]
  rcases List.eq_nil_or_concat (gN b.L (targB b)).kids with e | ⟨ks,k,e⟩
  · rw [e, if_neg (by rintro ⟨h1, _⟩; simp [atK] at h1), hnew]
    rfl
  · rw [List.concat_eq_append] at e
    rw [e,List.getLast?_concat]
    have ek : (((ks ++ [k])[(atK (-1) (ks ++ [k]) - 1).toNat]?).getD 0) = k := by
      have : (atK (-1) (ks ++ [k]) - 1).toNat = ks.length := by unfold atK; simp
      rw [this]; simp
    rw [ek]
    dsimp only
    by_cases k4 : (gN b.L k).kind = 4
    · rw [if_pos ⟨by unfold atK; simp <;> omega,k4⟩,if_pos k4]
    · rw [if_neg (fun hc => k4 hc.2),if_neg k4,hnew]
end
end Go.Vk
end
