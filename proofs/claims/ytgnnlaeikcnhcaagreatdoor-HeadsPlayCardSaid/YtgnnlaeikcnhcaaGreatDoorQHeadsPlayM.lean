/- What the proof leans on,part 13 of 15. -/
import Derived.Test.YtgnnlaeikcnhcaaGreatDoorQHeadsPlayL
set_option linter.unusedSimpArgs false
set_option linter.unusedVariables false
section
namespace Go.Proofs.YtgnnlaeikcnhcaaGreatDoor
open Go Go.Vk
set_option maxHeartbeats 40000000
section
variable {w0 w : World} {S : Nat → Prop} {pd : Nat} {b : BSt}
set_option maxHeartbeats 4000000 in
theorem dhead_c (h : Dc w0 S w pd b) {t : HTok} (hd : DH b t) {av : Value} (ha : ∀ w',Upd S w0 w' → RdAt w' 2 av (attrCells t.attrs)) :
    Gives Tryz.prog 138 #[.pointer (some ⟨pd,0,none⟩),.agg (t.row av)] w fun v w' => v = .bool (headR b t).2 ∧ Dc w0 S w' pd (headR b t).1 := by
  obtain ⟨r,hr⟩ : ∃ r,r = headR b t := ⟨_,rfl⟩
  rw [← hr]
  unfold headR at hr
  have hs := hd.s
  have hL := hd.L
  obtain ⟨xa,xn,xc,eav,_⟩ := id (ha w h.1)
  subst eav
  have hrow : t.row (.slice xa xn xc) = #[.int .i64 t.kind,.string t.name,.string t.text,.slice xa xn xc,.bool t.dup,.bool t.self,.bool t.quirks,.int .i64 t.frm,.int .i64 t.to] := rfl
  have hx := Ext.alloc w (.cells (t.row (.slice xa xn xc)) 37)
  have hp : (w.alloc (.cells (t.row (.slice xa xn xc)) 37)).heap[w.heap.size]? = some (.cells (t.row (.slice xa xn xc)) 37 (0,0)) := by rw [heap_alloc_h,if_pos rfl]
  obtain ⟨S1,lo,loS,hbase⟩ := h.base
  refine Gives.of_W Tryz.call138 Tryz.func138 rfl Tryz.ntmps138 (by simp) ?_; intro Z hZ
  (repeat revert hK K);refine W1 @vcells_agg ?_;repeat with_reducible intro K hK
  generalize w.alloc (.cells (t.row (.slice xa xn xc)) 37) = w1 at *
  obtain ⟨p,hpe⟩ : ∃ p,p = w.heap.size := ⟨_,rfl⟩
  rw [← hpe] at hp ⊢
  rw [hrow] at hp
  obtain ⟨h1,hup,hback⟩ := hbase w1 hx
  have np : ¬ S1 p := fun hq => by have := lo p hq; omega
  have ha1 : ∀ w',Upd S1 w1 w' → RdAt w' 2 (.slice xa xn xc) (attrCells t.attrs) := fun w' hu => ha w' (hup w' hu)
  by_cases k1 : t.kind = 1
  · rw [if_pos (.inl k1)] at hr
    (repeat revert hK K);refine Wc2 @hp (eq_true k1) ?_;repeat with_reducible intro K hK
    exact ⟨by rw [hr],by rw [hr]; exact hback _ _ h1⟩
  have k1' := eq_false k1
  (repeat revert hK K);refine Wc2 @hp @k1' ?_;repeat with_reducible intro K hK
  rw [← hrow]
  refine dstrange_c.mono ?_
  rintro v w2 ⟨rfl,hy2⟩
  have h2 := h1.ext hy2
  have hp2 := h2.keep hp np
  cases hst : strT t with
  | true =>
    have k3 : t.kind = 3 := by
      unfold strT at hst
      rw [Bool.and_eq_true,decide_eq_true_eq] at hst
      exact hst.1
    (repeat revert hK K);refine Wc1 @hp2 ?_;repeat with_reducible intro K hK
    rw [← hrow]
    refine dbelongs_c.mono ?_
    rintro v w3 ⟨rfl,hy3⟩
    have h3 := h2.ext hy3
    have hp3 := h3.keep hp np
    cases hb : belT t with
    | false =>
      rw [if_pos (.inr (.inl ⟨hst,hb⟩))] at hr
      (repeat revert hK K);refine W0 ?_;repeat with_reducible intro K hK
      exact ⟨by rw [hr],by rw [hr]; exact hback _ _ h3⟩
    | true =>
      (repeat revert hK K);refine Wc1 @hp3 ?_;repeat with_reducible intro K hK
      refine bsl (l := lHead) rfl (by decide) (by decide) (by kernel_rfl) ?_
      rintro v w4 hy4 hn4 ⟨bn4,rfl⟩
      (repeat revert hK K);refine W0 ?_;repeat with_reducible intro K hK
      rw [← hrow]
      refine (dstart_c hn4 (by decide)).mono ?_
      rintro v w5 ⟨rfl,hy5⟩
      have h5 := (h3.ext hy4).ext hy5
      have hp5 := h5.keep hp np
      rw [startT_k (by omega)]
      rw [if_neg (fun h => by
        rcases h with h | h | h
        · exact k1 h
        · rw [hb] at h; cases h.2
        · rw [startT_k (by omega)] at h; cases h)] at hr
      (repeat revert hK K);refine W0 ?_;repeat with_reducible intro K hK
      by_cases k5 : t.kind = 5
      · rw [if_pos k5] at hr
        (repeat revert hK K);refine Wc2 @hp5 (eq_true k5) ?_;repeat with_reducible intro K hK
        refine (dchars_c h5 hd.sh (by omega) (by omega) hd.tx t.text hd.tt).mono ?_
        intro v w6 h6
        (repeat revert hK K);refine W0 ?_;repeat with_reducible intro K hK
        exact ⟨by rw [hr],by rw [hr]; exact hback _ _ h6⟩
      rw [if_neg k5] at hr
      have k5' := eq_false k5
      by_cases k4 : t.kind = 4
      · rw [if_pos k4] at hr
        (repeat revert hK K);refine Wc3 @hp5 @k5' (eq_true k4) ?_;repeat with_reducible intro K hK
        rw [← hrow]
        refine (dcomm_c h5 hd.sh (by omega) (by omega) ha1 hd.ta (into := -1) (.inl rfl)).mono ?_
        intro v w6 h6
        (repeat revert hK K);refine W0 ?_;repeat with_reducible intro K hK
        exact ⟨by rw [hr],by rw [hr]; exact hback _ _ h6⟩
      rw [if_neg k4] at hr
      have k4' := eq_false k4
      (repeat revert hK K);refine Wc3 @hp5 @k5' @k4' ?_;repeat with_reducible intro K hK
      refine bsl (l := lHtml) rfl (by decide) (by decide) (by kernel_rfl) ?_
      rintro v w6 hy6 hn6 ⟨bn6,rfl⟩
      (repeat revert hK K);refine W0 ?_;repeat with_reducible intro K hK
      rw [← hrow]
      refine (dstart_c hn6 (by decide)).mono ?_
      rintro v w7 ⟨rfl,hy7⟩
      have h7 := (h5.ext hy6).ext hy7
      have hp7 := h7.keep hp np
      by_cases s1 : startT t lHtml = true
      · rw [if_pos s1] at hr
        (repeat revert hK K);refine Wc2 @hp7 @s1 ?_;repeat with_reducible intro K hK
        rw [← hrow]
        refine (dlacks_c h7 hd.sh (by omega) (by omega) ha1 hd.ta hd.at_).mono ?_
        intro v w8 h8
        (repeat revert hK K);refine W0 ?_;repeat with_reducible intro K hK
        exact ⟨by rw [hr],by rw [hr]; exact hback _ _ h8⟩
      rw [if_neg s1] at hr
      have s1' := eq_false_of_ne_true s1
      (repeat revert hK K);refine Wc2 @hp7 @s1' ?_;repeat with_reducible intro K hK
      rw [← hrow]
      refine dbelongs_c.mono ?_
      rintro v w8 ⟨rfl,hy8⟩
      have h8 := h7.ext hy8
      have hp8 := h8.keep hp np
      by_cases b1 : belT t = true
      · rw [if_pos b1] at hr
        (repeat revert hK K);refine Wc2 @hp8 @b1 ?_;repeat with_reducible intro K hK
        rw [← hrow]
        refine (down_c h8 hd ha1).mono ?_
        intro v w9 h9
        (repeat revert hK K);refine W0 ?_;repeat with_reducible intro K hK
        exact ⟨by rw [hr],by rw [hr]; exact hback _ _ h9⟩
      rw [if_neg b1] at hr
      have b1' := eq_false_of_ne_true b1
      (repeat revert hK K);refine Wc2 @hp8 @b1' ?_;repeat with_reducible intro K hK
      refine bsl (l := lNos) rfl (by decide) (by decide) (by kernel_rfl) ?_
      rintro v w9 hy9 hn9 ⟨bn9,rfl⟩
      (repeat revert hK K);refine W0 ?_;repeat with_reducible intro K hK
      rw [← hrow]
      refine (dstart_c hn9 (by decide)).mono ?_
      rintro v w10 ⟨rfl,hy10⟩
      have h10 := (h8.ext hy9).ext hy10
      have hp10 := h10.keep hp np
      by_cases s2 : startT t lNos = true
      · rw [if_pos s2, hd.ins] at hr
        (repeat revert hK K);refine Wc2 @hp10 @s2 ?_;repeat with_reducible intro K hK
        rw [← hrow]
        refine (dins_c h10 hd.sh (by omega) (by omega) ha1 hd.ta 0).mono ?_
        rintro v w11 ⟨rfl,h11⟩
        (repeat revert hK K);refine W0 ?_;repeat with_reducible intro K hK
        obtain ⟨z12,h12⟩ := h11.put (modeB (insL b (elTok t 0)) 4) 3 (.int .i64 4) (by decide) (fun x => rfl) ⟨rfl,rfl,rfl,rfl,rfl⟩
        (repeat revert hK K);refine W1 @z12 ?_;repeat with_reducible intro K hK
        generalize w11.setCell ⟨pd,3,none⟩ (.int .i64 4) = w12 at *
        (repeat revert hK K);refine W0 ?_;repeat with_reducible intro K hK
        exact ⟨by rw [hr],by rw [hr]; exact hback _ _ h12⟩
      rw [if_neg s2] at hr
      have s2' := eq_false_of_ne_true s2
      (repeat revert hK K);refine Wc2 @hp10 @s2' ?_;repeat with_reducible intro K hK
      refine (dpop_c h10 (by omega)).mono ?_
      intro v w11 h11
      (repeat revert hK K);refine W0 ?_;repeat with_reducible intro K hK
      obtain ⟨z12,h12⟩ := h11.put (modeB (popS b) 5) 3 (.int .i64 5) (by decide) (fun x => rfl) ⟨rfl,rfl,rfl,rfl,rfl⟩
      (repeat revert hK K);refine W1 @z12 ?_;repeat with_reducible intro K hK
      generalize w11.setCell ⟨pd,3,none⟩ (.int .i64 5) = w12 at *
      have hp12 := h12.keep hp np
      (repeat revert hK K);refine Wc1 @hp12 ?_;repeat with_reducible intro K hK
      refine bsl (l := lHead) rfl (by decide) (by decide) (by kernel_rfl) ?_
      rintro v w13 hy13 hn13 ⟨bn13,rfl⟩
      (repeat revert hK K);refine W0 ?_;repeat with_reducible intro K hK
      rw [← hrow]
      refine (dend_c hn13 (by decide)).mono ?_
      rintro v w14 ⟨rfl,hy14⟩
      have h14 := (h12.ext hy13).ext hy14
      have hp14 := h14.keep hp np
      (repeat revert hK K);refine W0 ?_;repeat with_reducible intro K hK
      exact ⟨by rw [hr],by rw [hr]; exact hback _ _ h14⟩
  | false =>
    (repeat revert hK K);refine Wc1 @hp2 ?_;repeat with_reducible intro K hK
    refine bsl (l := lHead) rfl (by decide) (by decide) (by kernel_rfl) ?_
    rintro v w3 hy3 hn3 ⟨bn3,rfl⟩
    (repeat revert hK K);refine W0 ?_;repeat with_reducible intro K hK
    rw [← hrow]
    refine (dstart_c hn3 (by decide)).mono ?_
    rintro v w4 ⟨rfl,hy4⟩
    have h4 := (h2.ext hy3).ext hy4
    have hp4 := h4.keep hp np
    by_cases s0 : startT t lHead = true
    · rw [if_pos (.inr (.inr s0))] at hr
      rw [s0]
      (repeat revert hK K);refine W0 ?_;repeat with_reducible intro K hK
      exact ⟨by rw [hr],by rw [hr]; exact hback _ _ h4⟩
    rw [if_neg (fun h => by
      rcases h with h | h | h
      · exact k1 h
      · rw [hst] at h; cases h.1
      · exact s0 h)] at hr
    rw [eq_false_of_ne_true s0]
    (repeat revert hK K);refine W0 ?_;repeat with_reducible intro K hK
    by_cases k5 : t.kind = 5
    · rw [if_pos k5] at hr
      (repeat revert hK K);refine Wc2 @hp4 (eq_true k5) ?_;repeat with_reducible intro K hK
      refine (dchars_c h4 hd.sh (by omega) (by omega) hd.tx t.text hd.tt).mono ?_
      intro v w5 h5
      (repeat revert hK K);refine W0 ?_;repeat with_reducible intro K hK
      exact ⟨by rw [hr],by rw [hr]; exact hback _ _ h5⟩
    rw [if_neg k5] at hr
    have k5' := eq_false k5
    by_cases k4 : t.kind = 4
    · rw [if_pos k4] at hr
      (repeat revert hK K);refine Wc3 @hp4 @k5' (eq_true k4) ?_;repeat with_reducible intro K hK
      rw [← hrow]
      refine (dcomm_c h4 hd.sh (by omega) (by omega) ha1 hd.ta (into := -1) (.inl rfl)).mono ?_
      intro v w5 h5
      (repeat revert hK K);refine W0 ?_;repeat with_reducible intro K hK
      exact ⟨by rw [hr],by rw [hr]; exact hback _ _ h5⟩
    rw [if_neg k4] at hr
    have k4' := eq_false k4
    (repeat revert hK K);refine Wc3 @hp4 @k5' @k4' ?_;repeat with_reducible intro K hK
    refine bsl (l := lHtml) rfl (by decide) (by decide) (by kernel_rfl) ?_
    rintro v w5 hy5 hn5 ⟨bn5,rfl⟩
    (repeat revert hK K);refine W0 ?_;repeat with_reducible intro K hK
    rw [← hrow]
    refine (dstart_c hn5 (by decide)).mono ?_
    rintro v w6 ⟨rfl,hy6⟩
    have h6 := (h4.ext hy5).ext hy6
    have hp6 := h6.keep hp np
    by_cases s1 : startT t lHtml = true
    · rw [if_pos s1] at hr
      (repeat revert hK K);refine Wc2 @hp6 @s1 ?_;repeat with_reducible intro K hK
      rw [← hrow]
      refine (dlacks_c h6 hd.sh (by omega) (by omega) ha1 hd.ta hd.at_).mono ?_
      intro v w7 h7
      (repeat revert hK K);refine W0 ?_;repeat with_reducible intro K hK
      exact ⟨by rw [hr],by rw [hr]; exact hback _ _ h7⟩
    rw [if_neg s1] at hr
    have s1' := eq_false_of_ne_true s1
    (repeat revert hK K);refine Wc2 @hp6 @s1' ?_;repeat with_reducible intro K hK
    rw [← hrow]
    refine dbelongs_c.mono ?_
    rintro v w7 ⟨rfl,hy7⟩
    have h7 := h6.ext hy7
    have hp7 := h7.keep hp np
    by_cases b1 : belT t = true
    · rw [if_pos b1] at hr
      (repeat revert hK K);refine Wc2 @hp7 @b1 ?_;repeat with_reducible intro K hK
      rw [← hrow]
      refine (down_c h7 hd ha1).mono ?_
      intro v w8 h8
      (repeat revert hK K);refine W0 ?_;repeat with_reducible intro K hK
      exact ⟨by rw [hr],by rw [hr]; exact hback _ _ h8⟩
    rw [if_neg b1] at hr
    have b1' := eq_false_of_ne_true b1
    (repeat revert hK K);refine Wc2 @hp7 @b1' ?_;repeat with_reducible intro K hK
    refine bsl (l := lNos) rfl (by decide) (by decide) (by kernel_rfl) ?_
    rintro v w8 hy8 hn8 ⟨bn8,rfl⟩
    (repeat revert hK K);refine W0 ?_;repeat with_reducible intro K hK
    rw [← hrow]
    refine (dstart_c hn8 (by decide)).mono ?_
    rintro v w9 ⟨rfl,hy9⟩
    have h9 := (h7.ext hy8).ext hy9
    have hp9 := h9.keep hp np
    by_cases s2 : startT t lNos = true
    · rw [if_pos s2, hd.ins] at hr
      (repeat revert hK K);refine Wc2 @hp9 @s2 ?_;repeat with_reducible intro K hK
      rw [← hrow]
      refine (dins_c h9 hd.sh (by omega) (by omega) ha1 hd.ta 0).mono ?_
      rintro v w10 ⟨rfl,h10⟩
      (repeat revert hK K);refine W0 ?_;repeat with_reducible intro K hK
      obtain ⟨z11,h11⟩ := h10.put (modeB (insL b (elTok t 0)) 4) 3 (.int .i64 4) (by decide) (fun x => rfl) ⟨rfl,rfl,rfl,rfl,rfl⟩
      (repeat revert hK K);refine W1 @z11 ?_;repeat with_reducible intro K hK
      generalize w10.setCell ⟨pd,3,none⟩ (.int .i64 4) = w11 at *
      (repeat revert hK K);refine W0 ?_;repeat with_reducible intro K hK
      exact ⟨by rw [hr],by rw [hr]; exact hback _ _ h11⟩
    rw [if_neg s2] at hr
    have s2' := eq_false_of_ne_true s2
    (repeat revert hK K);refine Wc2 @hp9 @s2' ?_;repeat with_reducible intro K hK
    refine (dpop_c h9 (by omega)).mono ?_
    intro v w10 h10
    (repeat revert hK K);refine W0 ?_;repeat with_reducible intro K hK
    obtain ⟨z11,h11⟩ := h10.put (modeB (popS b) 5) 3 (.int .i64 5) (by decide) (fun x => rfl) ⟨rfl,rfl,rfl,rfl,rfl⟩
    (repeat revert hK K);refine W1 @z11 ?_;repeat with_reducible intro K hK
    generalize w10.setCell ⟨pd,3,none⟩ (.int .i64 5) = w11 at *
    have hp11 := h11.keep hp np
    (repeat revert hK K);refine Wc1 @hp11 ?_;repeat with_reducible intro K hK
    refine bsl (l := lHead) rfl (by decide) (by decide) (by kernel_rfl) ?_
    rintro v w12 hy12 hn12 ⟨bn12,rfl⟩
    (repeat revert hK K);refine W0 ?_;repeat with_reducible intro K hK
    rw [← hrow]
    refine (dend_c hn12 (by decide)).mono ?_
    rintro v w13 ⟨rfl,hy13⟩
    have h13 := (h11.ext hy12).ext hy13
    have hp13 := h13.keep hp np
    (repeat revert hK K);refine W0 ?_;repeat with_reducible intro K hK
    exact ⟨by rw [hr],by rw [hr]; exact hback _ _ h13⟩
set_option maxHeartbeats 4000000 in
theorem dtext_c (h : Dc w0 S w pd b) {t : HTok} (hd : DH b t) {av : Value} (ha : ∀ w',Upd S w0 w' → RdAt w' 2 av (attrCells t.attrs)) :
    Gives Tryz.prog 141 #[.pointer (some ⟨pd,0,none⟩),.agg (t.row av)] w fun v w' => v = .bool (textH b t).2 ∧ Dc w0 S w' pd (textH b t).1 := by
  obtain ⟨r,hr⟩ : ∃ r,r = textH b t := ⟨_,rfl⟩
  rw [← hr]
  unfold textH at hr
  have hs := hd.s
  have hL := hd.L
  obtain ⟨xa,xn,xc,eav,_⟩ := id (ha w h.1)
  subst eav
  have hrow : t.row (.slice xa xn xc) = #[.int .i64 t.kind,.string t.name,.string t.text,.slice xa xn xc,.bool t.dup,.bool t.self,.bool t.quirks,.int .i64 t.frm,.int .i64 t.to] := rfl
  have hx := Ext.alloc w (.cells (t.row (.slice xa xn xc)) 37)
  have hp : (w.alloc (.cells (t.row (.slice xa xn xc)) 37)).heap[w.heap.size]? = some (.cells (t.row (.slice xa xn xc)) 37 (0,0)) := by rw [heap_alloc_h,if_pos rfl]
  obtain ⟨S1,lo,loS,hbase⟩ := h.base
  refine Gives.of_W Tryz.call141 Tryz.func141 rfl Tryz.ntmps141 (by simp) ?_; intro Z hZ
  (repeat revert hK K);refine W1 @vcells_agg ?_;repeat with_reducible intro K hK
  generalize w.alloc (.cells (t.row (.slice xa xn xc)) 37) = w1 at *
  obtain ⟨p,hpe⟩ : ∃ p,p = w.heap.size := ⟨_,rfl⟩
  rw [← hpe] at hp ⊢
  rw [hrow] at hp
  obtain ⟨h1,hup,hback⟩ := hbase w1 hx
  have np : ¬ S1 p := fun hq => by have := lo p hq; omega
  have ha1 : ∀ w',Upd S1 w1 w' → RdAt w' 2 (.slice xa xn xc) (attrCells t.attrs) := fun w' hu => ha w' (hup w' hu)
  (repeat revert hK K);refine Wc1 @hp ?_;repeat with_reducible intro K hK
  rw [← hrow]
  refine dchart_c.mono ?_
  rintro v w2 ⟨rfl,hy2⟩
  have h2 := h1.ext hy2
  have hp2 := h2.keep hp np
  by_cases kc : t.kind = 5 ∨ t.kind = 7 ∨ t.kind = 6
  · rw [if_pos kc] at hr
    rw [decide_eq_true kc]
    (repeat revert hK K);refine Wc1 @hp2 ?_;repeat with_reducible intro K hK
    refine (dchars_c h2 hd.sh (by omega) (by omega) hd.tx t.text hd.tt).mono ?_
    intro v w3 h3
    (repeat revert hK K);refine W0 ?_;repeat with_reducible intro K hK
    exact ⟨by rw [hr],by rw [hr]; exact hback _ _ h3⟩
  rw [if_neg kc] at hr
  rw [decide_eq_false kc]
  (repeat revert hK K);refine W0 ?_;repeat with_reducible intro K hK
  refine (dpop_c h2 (by omega)).mono ?_
  intro v w3 h3
  obtain ⟨_,cb,_⟩ := h3.cellF
  have eb : (popS b).back = b.back := rfl
  (repeat revert hK K);refine W3 @cell_h @cb @eb ?_;repeat with_reducible intro K hK
  obtain ⟨z4,h4⟩ := h3.put (modeB (popS b) b.back) 3 (.int .i64 b.back) (by decide) (fun x => rfl) ⟨rfl,rfl,rfl,rfl,rfl⟩
  (repeat revert hK K);refine W1 @z4 ?_;repeat with_reducible intro K hK
  generalize w3.setCell ⟨pd,3,none⟩ (.int .i64 b.back) = w4 at *
  have hp4 := h4.keep hp np
  by_cases k8 : t.kind = 8
  · rw [decide_eq_true k8] at hr
    (repeat revert hK K);refine Wc2 @hp4 (eq_true k8) ?_;repeat with_reducible intro K hK
    exact ⟨by rw [hr],by rw [hr]; exact hback _ _ h4⟩
  rw [decide_eq_false k8] at hr
  (repeat revert hK K);refine Wc2 @hp4 (eq_false k8) ?_;repeat with_reducible intro K hK
  exact ⟨by rw [hr],by rw [hr]; exact hback _ _ h4⟩
set_option maxHeartbeats 4000000 in
theorem dearly_c (h : Dc w0 S w pd b) {t : HTok} (hd : DH b t) {av : Value} (ha : ∀ w',Upd S w0 w' → RdAt w' 2 av (attrCells t.attrs)) :
    Gives Tryz.prog 180 #[.pointer (some ⟨pd,0,none⟩),.agg (t.row av)] w fun v w' => v = .bool (earlyR b t).2 ∧ Dc w0 S w' pd (earlyR b t).1 := by
  obtain ⟨r,hr⟩ : ∃ r,r = earlyR b t := ⟨_,rfl⟩
  rw [← hr]
  unfold earlyR at hr
  have hs := hd.s
  have hL := hd.L
  obtain ⟨xa,xn,xc,eav,_⟩ := id (ha w h.1)
  subst eav
  have hrow : t.row (.slice xa xn xc) = #[.int .i64 t.kind,.string t.name,.string t.text,.slice xa xn xc,.bool t.dup,.bool t.self,.bool t.quirks,.int .i64 t.frm,.int .i64 t.to] := rfl
  have hx := Ext.alloc w (.cells (t.row (.slice xa xn xc)) 37)
  have hp : (w.alloc (.cells (t.row (.slice xa xn xc)) 37)).heap[w.heap.size]? = some (.cells (t.row (.slice xa xn xc)) 37 (0,0)) := by rw [heap_alloc_h,if_pos rfl]
  obtain ⟨S1,lo,loS,hbase⟩ := h.base
  refine Gives.of_W Tryz.call180 Tryz.func180 rfl Tryz.ntmps180 (by simp) ?_; intro Z hZ
  (repeat revert hK K);refine W1 @vcells_agg ?_;repeat with_reducible intro K hK
  generalize w.alloc (.cells (t.row (.slice xa xn xc)) 37) = w1 at *
  obtain ⟨p,hpe⟩ : ∃ p,p = w.heap.size := ⟨_,rfl⟩
  rw [← hpe] at hp ⊢
  rw [hrow] at hp
  obtain ⟨h1,hup,hback⟩ := hbase w1 hx
  have np : ¬ S1 p := fun hq => by have := lo p hq; omega
  have ha1 : ∀ w',Upd S1 w1 w' → RdAt w' 2 (.slice xa xn xc) (attrCells t.attrs) := fun w' hu => ha w' (hup w' hu)
  by_cases k4 : t.kind = 4
  · rw [if_pos k4] at hr
    obtain ⟨cm,_,_⟩ := h1.cellF
    by_cases m2 : b.mode = 2
    · rw [if_pos m2] at hr
      (repeat revert hK K);refine Wc4 @hp (eq_true k4) @cm (eq_true m2) ?_;repeat with_reducible intro K hK
      rw [← hrow]
      refine (dcomm_c h1 hd.sh (by omega) (by omega) ha1 hd.ta (into := -1) (.inl rfl)).mono ?_
      intro v w2 h2
      (repeat revert hK K);refine W0 ?_;repeat with_reducible intro K hK
      exact ⟨by rw [hr],by rw [hr]; exact hback _ _ h2⟩
    · rw [if_neg m2] at hr
      (repeat revert hK K);refine Wc4 @hp (eq_true k4) @cm (eq_false m2) ?_;repeat with_reducible intro K hK
      rw [← hrow]
      refine (dcomm_c h1 hd.sh (by omega) (by omega) ha1 hd.ta (into := 0) (.inr rfl)).mono ?_
      intro v w2 h2
      (repeat revert hK K);refine W0 ?_;repeat with_reducible intro K hK
      exact ⟨by rw [hr],by rw [hr]; exact hback _ _ h2⟩
  rw [if_neg k4] at hr
  have k4' := eq_false k4
  obtain ⟨cm,_,_⟩ := h1.cellF
  by_cases k5 : t.kind = 5
  · rw [decide_eq_true k5, Bool.true_or] at hr
    (repeat revert hK K);refine Wc3 @hp @k4' (eq_true k5) ?_;repeat with_reducible intro K hK
    exact ⟨by rw [hr],by rw [hr]; exact hback _ _ h1⟩
  rw [decide_eq_false k5,Bool.false_or] at hr
  have k5' := eq_false k5
  by_cases m0 : 0 < b.mode
  · rw [decide_eq_true m0, Bool.true_and] at hr
    by_cases k1 : t.kind = 1
    · rw [decide_eq_true k1, Bool.true_or] at hr
      (repeat revert hK K);refine Wc6 @hp @k4' @k5' @cm (eq_true m0) (eq_true k1) ?_;repeat with_reducible intro K hK
      exact ⟨by rw [hr],by rw [hr]; exact hback _ _ h1⟩
    rw [decide_eq_false k1,Bool.false_or] at hr
    (repeat revert hK K);refine Wc6 @hp @k4' @k5' @cm (eq_true m0) (eq_false k1) ?_;repeat with_reducible intro K hK
    rw [← hrow]
    refine dstrange_c.mono ?_
    rintro v w2 ⟨rfl,hy2⟩
    have h2 := h1.ext hy2
    have hp2 := h2.keep hp np
    (repeat revert hK K);refine W0 ?_;repeat with_reducible intro K hK
    exact ⟨by rw [hr],by rw [hr]; exact hback _ _ h2⟩
  rw [decide_eq_false m0,Bool.false_and] at hr
  (repeat revert hK K);refine Wc5 @hp @k4' @k5' @cm (eq_false m0) ?_;repeat with_reducible intro K hK
  exact ⟨by rw [hr],by rw [hr]; exact hback _ _ h1⟩
end
end Go.Proofs.YtgnnlaeikcnhcaaGreatDoor
end
section
namespace Go.Vk
open Go Go.Proofs.YtgnnlaeikcnhcaaGreatDoor
section
variable {b : BSt} {t : HTok}
theorem DH.mode (h : DH b t) (m : Int) : DH (modeB b m) t := ⟨h.sh.set ⟨rfl,rfl,rfl⟩,h.s,h.L,h.l,h.md,h.tx,h.at_,h.tt,h.ta⟩
def HdE (b : BSt) : Prop := 1 ≤ b.head ∧ b.head < b.L.length ∧ (gN b.L b.head).kind = 3
def pshB (b : BSt) : BSt := { b with s := b.s ++ [⟨b.head,(gN b.L b.head).space,(gN b.L b.head).name⟩] }
theorem DH.psh (h : DH b t) (hh : HdE b) (hs : b.s.length < 480) : pushedB b b.head = pshB b ∧ DH (pshB b) t := by
  obtain ⟨h1,h2,h3⟩ := hh
  have hn : nodeN b.L b.head = gN b.L b.head := nodeN_gN ⟨by omega,h2⟩
  have hk : ((nd? b.L b.head).getD zN).kind = 3 := by
    unfold nodeN at hn; rw [hn]; exact h3
  refine ⟨?_,?_⟩
  · have e : pushB b b.head = (pshB b,0) := by
      unfold pushB insS pshB
      have e2 : opN b.L b.head = ⟨b.head,(gN b.L b.head).space,(gN b.L b.head).name⟩ := by
        unfold nodeN at hn
        unfold opN; rw [hn]
      rw [if_pos hk,if_pos ⟨by omega,Int.le_refl _⟩,if_neg (by omega),Int.toNat_natCast,List.take_length,List.drop_length,e2]
    unfold pushedB
    rw [e]
    unfold failB
    rw [if_neg (fun h => h.2 rfl)]
  · refine ⟨⟨h.sh.gd, h.sh.fo, h.sh.nt, fun o ho => ?_⟩, ?_, h.L, h.l, h.md, h.tx, h.at_, h.tt, h.ta⟩
    · rcases List.mem_append.1 (show o ∈ b.s ++ [_] from ho) with ho | ho
      · exact h.sh.st o ho
      · rw [List.mem_singleton] at ho
        rw [ho]
        exact ⟨h1,h2,h3,rfl⟩
    · show (b.s ++ [_]).length < 490
      rw [List.length_append]
      show b.s.length + 1 < 490
      omega
theorem DH.own_s (h : DH b t) : (ownR b t).s.length ≤ b.s.length + 1 ∧ (ownR b t).head = b.head := by
  rw [h.own]
  split
  · exact ⟨by omega,rfl⟩
  · split
    · exact ⟨by show (b.s ++ [_]).length ≤ _; simp,rfl⟩
    · split
      · exact ⟨by show (b.s ++ [_]).length ≤ _; simp,rfl⟩
      · exact ⟨by show (b.s ++ [_]).dropLast.length ≤ _; simp,rfl⟩
theorem rem_eq (b : BSt) (i : Int) : remB b i = if 0 ≤ indexS b.s i then { b with s := b.s.eraseIdx (indexS b.s i).toNat } else b := by
  unfold remB remS
  by_cases h : indexS b.s i < 0
  · rw [if_pos h,if_neg (by omega)]
  · rw [if_neg h,if_pos (by omega)]
theorem DH.doct (h : DH b t) : doctR b t = { b with L := hangN (addN b.L (doctN t)).1 0 (-1) b.L.length,quirks := t.quirks || !decide (t.name = sHtml),mode := 1 } := by
  have hpos : 0 < b.L.length := List.length_pos_iff.2 h.sh.gd.ne
  obtain ⟨h1,_⟩ := addN_new (L := b.L) (n := doctN t) rfl
  have happ := add_app h.sh.gd (n := doctN t) rfl (q := 0) ⟨by decide,by omega⟩ (by rw [h.sh.gd.doc]; rfl)
  unfold doctR
  rw [h1,show (addB b (doctN t)).L = (addN b.L (doctN t)).1 from rfl,happ]
  rfl
theorem early_no (h : (earlyR b t).2 = false) : (earlyR b t).1 = b := by
  unfold earlyR at h ⊢
  split
  · rename_i k4; rw [if_pos k4] at h; cases h
  · rfl
end
end Go.Vk
namespace Go.Proofs.YtgnnlaeikcnhcaaGreatDoor
open Go Go.Vk
set_option maxHeartbeats 40000000
section
variable {w0 w : World} {S : Nat → Prop} {pd : Nat} {b : BSt}
set_option maxHeartbeats 4000000 in
theorem dnos_c (h : Dc w0 S w pd b) {t : HTok} (hd : DH b t) {av : Value} (ha : ∀ w',Upd S w0 w' → RdAt w' 2 av (attrCells t.attrs)) :
    Gives Tryz.prog 139 #[.pointer (some ⟨pd,0,none⟩),.agg (t.row av)] w fun v w' => v = .bool (nosR b t).2 ∧ Dc w0 S w' pd (nosR b t).1 := by
  obtain ⟨r,hr⟩ : ∃ r,r = nosR b t := ⟨_,rfl⟩
  rw [← hr]
  unfold nosR at hr
  have hs := hd.s
  have hL := hd.L
  obtain ⟨xa,xn,xc,eav,_⟩ := id (ha w h.1)
  subst eav
  have hrow : t.row (.slice xa xn xc) = #[.int .i64 t.kind,.string t.name,.string t.text,.slice xa xn xc,.bool t.dup,.bool t.self,.bool t.quirks,.int .i64 t.frm,.int .i64 t.to] := rfl
  have hx := Ext.alloc w (.cells (t.row (.slice xa xn xc)) 37)
  have hp : (w.alloc (.cells (t.row (.slice xa xn xc)) 37)).heap[w.heap.size]? = some (.cells (t.row (.slice xa xn xc)) 37 (0,0)) := by rw [heap_alloc_h,if_pos rfl]
  obtain ⟨S1,lo,loS,hbase⟩ := h.base
  refine Gives.of_W Tryz.call139 Tryz.func139 rfl Tryz.ntmps139 (by simp) ?_; intro Z hZ
  (repeat revert hK K);refine W1 @vcells_agg ?_;repeat with_reducible intro K hK
  generalize w.alloc (.cells (t.row (.slice xa xn xc)) 37) = w1 at *
  obtain ⟨p,hpe⟩ : ∃ p,p = w.heap.size := ⟨_,rfl⟩
  rw [← hpe] at hp ⊢
  rw [hrow] at hp
  obtain ⟨h1,hup,hback⟩ := hbase w1 hx
  have np : ¬ S1 p := fun hq => by have := lo p hq; omega
  have ha1 : ∀ w',Upd S1 w1 w' → RdAt w' 2 (.slice xa xn xc) (attrCells t.attrs) := fun w' hu => ha w' (hup w' hu)
  by_cases k1 : t.kind = 1
  · rw [if_pos (.inl k1)] at hr
    (repeat revert hK K);refine Wc2 @hp (eq_true k1) ?_;repeat with_reducible intro K hK
    exact ⟨by rw [hr],by rw [hr]; exact hback _ _ h1⟩
  have k1' := eq_false k1
  (repeat revert hK K);refine Wc2 @hp @k1' ?_;repeat with_reducible intro K hK
  refine bsl (l := lHN) rfl (by decide) (by decide) (by kernel_rfl) ?_
  rintro v w2 hy2 hn2 ⟨bn2,rfl⟩
  (repeat revert hK K);refine W0 ?_;repeat with_reducible intro K hK
  rw [← hrow]
  refine (dstart_c hn2 (by decide)).mono ?_
  rintro v w3 ⟨rfl,hy3⟩
  have h3 := (h1.ext hy2).ext hy3
  have hp3 := h3.keep hp np
  by_cases s1 : startT t lHN = true
  · rw [if_pos (.inr (.inl s1))] at hr
    rw [s1]
    (repeat revert hK K);refine W0 ?_;repeat with_reducible intro K hK
    exact ⟨by rw [hr],by rw [hr]; exact hback _ _ h3⟩
  rw [eq_false_of_ne_true s1]
  by_cases k3 : t.kind = 3
  · have k3' := eq_true k3
    (repeat revert hK K);refine Wc2 @hp3 @k3' ?_;repeat with_reducible intro K hK
    refine bsl (l := lNB) rfl (by decide) (by decide) (by kernel_rfl) ?_
    rintro v w4 hy4 hn4 ⟨bn4,rfl⟩
    (repeat revert hK K);refine W0 ?_;repeat with_reducible intro K hK
    rw [← hrow]
    refine (dend_c hn4 (by decide)).mono ?_
    rintro v w5 ⟨rfl,hy5⟩
    have h5 := (h3.ext hy4).ext hy5
    have hp5 := h5.keep hp np
    cases he : endT t lNB with
    | false =>
      rw [if_pos (.inr (.inr ⟨k3,he⟩))] at hr
      (repeat revert hK K);refine W0 ?_;repeat with_reducible intro K hK
      exact ⟨by rw [hr],by rw [hr]; exact hback _ _ h5⟩
    | true =>
      rw [if_neg (fun h => by
        rcases h with h | h | h
        · exact k1 h
        · exact s1 h
        · rw [he] at h; cases h.2)] at hr
      (repeat revert hK K);refine W0 ?_;repeat with_reducible intro K hK
      by_cases k5 : t.kind = 5
      · rw [if_pos (.inl k5)] at hr
        (repeat revert hK K);refine Wc3 @hp5 @k1' (eq_true k5) ?_;repeat with_reducible intro K hK
        rw [← hrow]
        refine (dhead_c h5 hd ha1).mono ?_
        rintro v w6 ⟨rfl,h6⟩
        (repeat revert hK K);refine W0 ?_;repeat with_reducible intro K hK
        exact ⟨by rw [hr],by rw [hr]; exact hback _ _ h6⟩
      have k5' := eq_false k5
      by_cases k4 : t.kind = 4
      · rw [if_pos (.inr (.inl k4))] at hr
        (repeat revert hK K);refine Wc4 @hp5 @k1' @k5' (eq_true k4) ?_;repeat with_reducible intro K hK
        rw [← hrow]
        refine (dhead_c h5 hd ha1).mono ?_
        rintro v w6 ⟨rfl,h6⟩
        (repeat revert hK K);refine W0 ?_;repeat with_reducible intro K hK
        exact ⟨by rw [hr],by rw [hr]; exact hback _ _ h6⟩
      have k4' := eq_false k4
      (repeat revert hK K);refine Wc4 @hp5 @k1' @k5' @k4' ?_;repeat with_reducible intro K hK
      refine bsl (l := lNo2) rfl (by decide) (by decide) (by kernel_rfl) ?_
      rintro v w6 hy6 hn6 ⟨bn6,rfl⟩
      (repeat revert hK K);refine W0 ?_;repeat with_reducible intro K hK
      rw [← hrow]
      refine (dstart_c hn6 (by decide)).mono ?_
      rintro v w7 ⟨rfl,hy7⟩
      have h7 := (h5.ext hy6).ext hy7
      have hp7 := h7.keep hp np
      by_cases s2 : startT t lNo2 = true
      · rw [if_pos (.inr (.inr s2))] at hr
        (repeat revert hK K);refine Wc2 @hp7 @s2 ?_;repeat with_reducible intro K hK
        rw [← hrow]
        refine (dhead_c h7 hd ha1).mono ?_
        rintro v w8 ⟨rfl,h8⟩
        (repeat revert hK K);refine W0 ?_;repeat with_reducible intro K hK
        exact ⟨by rw [hr],by rw [hr]; exact hback _ _ h8⟩
      rw [if_neg (fun h => by
        rcases h with h | h | h
        · exact k5 h
        · exact k4 h
        · exact s2 h)] at hr
      rw [eq_false_of_ne_true s2]
      (repeat revert hK K);refine W0 ?_;repeat with_reducible intro K hK
      refine (dpop_c h7 (by omega)).mono ?_
      intro v w8 h8
      (repeat revert hK K);refine W0 ?_;repeat with_reducible intro K hK
      obtain ⟨z9,h9⟩ := h8.put (modeB (popS b) 3) 3 (.int .i64 3) (by decide) (fun x => rfl) ⟨rfl,rfl,rfl,rfl,rfl⟩
      (repeat revert hK K);refine W1 @z9 ?_;repeat with_reducible intro K hK
      generalize w8.setCell ⟨pd,3,none⟩ (.int .i64 3) = w9 at *
      have hp9 := h9.keep hp np
      (repeat revert hK K);refine Wc1 @hp9 ?_;repeat with_reducible intro K hK
      refine bsl (l := lNos) rfl (by decide) (by decide) (by kernel_rfl) ?_
      rintro v w10 hy10 hn10 ⟨bn10,rfl⟩
      (repeat revert hK K);refine W0 ?_;repeat with_reducible intro K hK
      rw [← hrow]
      refine (dend_c hn10 (by decide)).mono ?_
      rintro v w11 ⟨rfl,hy11⟩
      have h11 := (h9.ext hy10).ext hy11
      have hp11 := h11.keep hp np
      (repeat revert hK K);refine W0 ?_;repeat with_reducible intro K hK
      exact ⟨by rw [hr],by rw [hr]; exact hback _ _ h11⟩
  have k3' := eq_false k3
  rw [if_neg (fun h => by
    rcases h with h | h | h
    · exact k1 h
    · exact s1 h
    · exact k3 h.1)] at hr
  (repeat revert hK K);refine Wc2 @hp3 @k3' ?_;repeat with_reducible intro K hK
  by_cases k5 : t.kind = 5
  · rw [if_pos (.inl k5)] at hr
    (repeat revert hK K);refine Wc3 @hp3 @k1' (eq_true k5) ?_;repeat with_reducible intro K hK
    rw [← hrow]
    refine (dhead_c h3 hd ha1).mono ?_
    rintro v w4 ⟨rfl,h4⟩
    (repeat revert hK K);refine W0 ?_;repeat with_reducible intro K hK
    exact ⟨by rw [hr],by rw [hr]; exact hback _ _ h4⟩
  have k5' := eq_false k5
  by_cases k4 : t.kind = 4
  · rw [if_pos (.inr (.inl k4))] at hr
    (repeat revert hK K);refine Wc4 @hp3 @k1' @k5' (eq_true k4) ?_;repeat with_reducible intro K hK
    rw [← hrow]
    refine (dhead_c h3 hd ha1).mono ?_
    rintro v w4 ⟨rfl,h4⟩
    (repeat revert hK K);refine W0 ?_;repeat with_reducible intro K hK
    exact ⟨by rw [hr],by rw [hr]; exact hback _ _ h4⟩
  have k4' := eq_false k4
  (repeat revert hK K);refine Wc4 @hp3 @k1' @k5' @k4' ?_;repeat with_reducible intro K hK
  refine bsl (l := lNo2) rfl (by decide) (by decide) (by kernel_rfl) ?_
  rintro v w4 hy4 hn4 ⟨bn4,rfl⟩
  (repeat revert hK K);refine W0 ?_;repeat with_reducible intro K hK
  rw [← hrow]
  refine (dstart_c hn4 (by decide)).mono ?_
  rintro v w5 ⟨rfl,hy5⟩
  have h5 := (h3.ext hy4).ext hy5
  have hp5 := h5.keep hp np
  by_cases s2 : startT t lNo2 = true
  · rw [if_pos (.inr (.inr s2))] at hr
    (repeat revert hK K);refine Wc2 @hp5 @s2 ?_;repeat with_reducible intro K hK
    rw [← hrow]
    refine (dhead_c h5 hd ha1).mono ?_
    rintro v w6 ⟨rfl,h6⟩
    (repeat revert hK K);refine W0 ?_;repeat with_reducible intro K hK
    exact ⟨by rw [hr],by rw [hr]; exact hback _ _ h6⟩
  rw [if_neg (fun h => by
    rcases h with h | h | h
    · exact k5 h
    · exact k4 h
    · exact s2 h)] at hr
  rw [eq_false_of_ne_true s2]
  (repeat revert hK K);refine W0 ?_;repeat with_reducible intro K hK
  refine (dpop_c h5 (by omega)).mono ?_
  intro v w6 h6
  (repeat revert hK K);refine W0 ?_;repeat with_reducible intro K hK
  obtain ⟨z7,h7⟩ := h6.put (modeB (popS b) 3) 3 (.int .i64 3) (by decide) (fun x => rfl) ⟨rfl,rfl,rfl,rfl,rfl⟩
  (repeat revert hK K);refine W1 @z7 ?_;repeat with_reducible intro K hK
  generalize w6.setCell ⟨pd,3,none⟩ (.int .i64 3) = w7 at *
  have hp7 := h7.keep hp np
  (repeat revert hK K);refine Wc1 @hp7 ?_;repeat with_reducible intro K hK
  refine bsl (l := lNos) rfl (by decide) (by decide) (by kernel_rfl) ?_
  rintro v w8 hy8 hn8 ⟨bn8,rfl⟩
  (repeat revert hK K);refine W0 ?_;repeat with_reducible intro K hK
  rw [← hrow]
  refine (dend_c hn8 (by decide)).mono ?_
  rintro v w9 ⟨rfl,hy9⟩
  have h9 := (h7.ext hy8).ext hy9
  have hp9 := h9.keep hp np
  (repeat revert hK K);refine W0 ?_;repeat with_reducible intro K hK
  exact ⟨by rw [hr],by rw [hr]; exact hback _ _ h9⟩
set_option maxHeartbeats 4000000 in
theorem dbefore_c (h : Dc w0 S w pd b) {t : HTok} (hd : DH b t) {av : Value} (ha : ∀ w',Upd S w0 w' → RdAt w' 2 av (attrCells t.attrs)) :
    Gives Tryz.prog 137 #[.pointer (some ⟨pd,0,none⟩),.agg (t.row av)] w fun v w' => v = .bool (beforeR b t).2 ∧ Dc w0 S w' pd (beforeR b t).1 := by
  obtain ⟨r,hr⟩ : ∃ r,r = beforeR b t := ⟨_,rfl⟩
  rw [← hr]
  unfold beforeR at hr
  have hs := hd.s
  have hL := hd.L
  obtain ⟨xa,xn,xc,eav,_⟩ := id (ha w h.1)
  subst eav
  have hrow : t.row (.slice xa xn xc) = #[.int .i64 t.kind,.string t.name,.string t.text,.slice xa xn xc,.bool t.dup,.bool t.self,.bool t.quirks,.int .i64 t.frm,.int .i64 t.to] := rfl
  have hx := Ext.alloc w (.cells (t.row (.slice xa xn xc)) 37)
  have hp : (w.alloc (.cells (t.row (.slice xa xn xc)) 37)).heap[w.heap.size]? = some (.cells (t.row (.slice xa xn xc)) 37 (0,0)) := by rw [heap_alloc_h,if_pos rfl]
  obtain ⟨S1,lo,loS,hbase⟩ := h.base
  refine Gives.of_W Tryz.call137 Tryz.func137 rfl Tryz.ntmps137 (by simp) ?_; intro Z hZ
  (repeat revert hK K);refine W1 @vcells_agg ?_;repeat with_reducible intro K hK
  generalize w.alloc (.cells (t.row (.slice xa xn xc)) 37) = w1 at *
  obtain ⟨p,hpe⟩ : ∃ p,p = w.heap.size := ⟨_,rfl⟩
  rw [← hpe] at hp ⊢
  rw [hrow] at hp
  obtain ⟨h1,hup,hback⟩ := hbase w1 hx
  have np : ¬ S1 p := fun hq => by have := lo p hq; omega
  have ha1 : ∀ w',Upd S1 w1 w' → RdAt w' 2 (.slice xa xn xc) (attrCells t.attrs) := fun w' hu => ha w' (hup w' hu)
  (repeat revert hK K);refine Wc1 @hp ?_;repeat with_reducible intro K hK
  rw [← hrow]
  refine (dearly_c h1 hd ha1).mono ?_
  rintro v w2 ⟨rfl,h2⟩
  cases hE : (earlyR b t).2 with
  | true =>
    rw [if_pos hE] at hr
    (repeat revert hK K);refine W0 ?_;repeat with_reducible intro K hK
    exact ⟨by rw [hr],by rw [hr]; exact hback _ _ h2⟩
  | false =>
  rw [if_neg (by rw [hE]; decide)] at hr
  rw [early_no hE] at h2
  have hp2 := h2.keep hp np
  obtain ⟨cm,_,_⟩ := h2.cellF
  have hpos : 0 < b.L.length := List.length_pos_iff.2 hd.sh.gd.ne
  by_cases m0 : b.mode = 0
  · rw [if_pos m0] at hr
    (repeat revert hK K);refine W3 @cell_h @cm (eq_true m0) ?_;repeat with_reducible intro K hK
    obtain ⟨z3,h3⟩ := h2.put (modeB b 1) 3 (.int .i64 1) (by decide) (fun x => rfl) ⟨rfl,rfl,rfl,rfl,rfl⟩
    (repeat revert hK K);refine W1 @z3 ?_;repeat with_reducible intro K hK
    generalize w2.setCell ⟨pd,3,none⟩ (.int .i64 1) = w3 at *
    obtain ⟨z4,h4⟩ := h3.put { modeB b 1 with quirks := true } 8 (.bool true) (by decide) (fun x => rfl) ⟨rfl,rfl,rfl,rfl,rfl⟩
    (repeat revert hK K);refine W1 @z4 ?_;repeat with_reducible intro K hK
    generalize w3.setCell ⟨pd,8,none⟩ (.bool true) = w4 at *
    have hp4 := h4.keep hp np
    by_cases k1 : t.kind = 1
    · rw [if_pos k1, hd.doct] at hr
      have k1' := eq_true k1
      (repeat revert hK K);refine Wc2 @hp4 @k1' ?_;repeat with_reducible intro K hK
      refine build_struct Tryz.zeroValue46 un30 pl30 (cs := #[.int .i64 2,.string t.name,.string ⟨#[]⟩,.int .i64 0,.slice none 0 0,.bool false,.int .i64 0,.int .i64 0,.slice none 0 0,.int .i64 (-1),.int .i64 (-1)]) (by rfl) ?_
      (repeat revert hK K);refine W0 ?_;repeat with_reducible intro K hK
      refine (dadd_c h4 (by show b.L.length < _; omega) (m := ⟨doctN t,.slice none 0 0,.slice none 0 0,none,none⟩) (SlAt.nil _ _).rd (show (0 : Nat) < 1000000 by decide) rfl rfl).mono ?_
      rintro v w5 ⟨rfl,h5⟩
      rw [show (addN ({ modeB b 1 with quirks := true } : BSt).L ((⟨doctN t,.slice none 0 0,.slice none 0 0,none,none⟩ : Laid).nd)).2 = (b.L.length : Int) from (addN_new (L := b.L) (n := doctN t) rfl).1]
      (repeat revert hK K);refine W0 ?_;repeat with_reducible intro K hK
      refine (dnew_lay (b := { modeB b 1 with quirks := true }) hd.sh.gd h5 (by show b.L.length < _; omega) rfl (q := 0) hpos).mono ?_
      intro v w6 h6
      have hp6 := h6.keep hp np
      have hq : ∀ q : Bool,canStore w6 ⟨pd,8,none⟩ ∧ Dc w1 S1 (w6.setCell ⟨pd,8,none⟩ (.bool q)) pd { modeB b 1 with L := hangN (addN b.L (doctN t)).1 0 (-1) b.L.length,quirks := q } := fun q => h6.put { modeB b 1 with L := hangN (addN b.L (doctN t)).1 0 (-1) b.L.length,quirks := q } 8 (.bool q) (by decide) (fun x => rfl) ⟨rfl,rfl,rfl,rfl,rfl⟩
      cases hqk : t.quirks with
      | true =>
        rw [hqk] at hp6 hr
        rw [Bool.true_or] at hr
        obtain ⟨z7,h7⟩ := hq true
        (repeat revert hK K);refine Wc2 @hp6 @z7 ?_;repeat with_reducible intro K hK
        generalize w6.setCell ⟨pd,8,none⟩ (.bool true) = w7 at *
        have hp7 := h7.keep hp np
        (repeat revert hK K);refine Wc3 @hp7 @k1' @not_true_eq_false ?_;repeat with_reducible intro K hK
        exact ⟨by rw [hr],by rw [hr]; exact hback _ _ h7⟩
      | false =>
        rw [hqk] at hp6 hr
        rw [Bool.false_or] at hr
        by_cases hn : t.name = sHtml
        · rw [decide_eq_true hn] at hr
          have hn : t.name = ⟨#[104,116,109,108]⟩ := hn
          obtain ⟨z7,h7⟩ := hq false
          (repeat revert hK K);refine Wc4 @hp6 (eq_true hn) @not_true_eq_false @z7 ?_;repeat with_reducible intro K hK
          generalize w6.setCell ⟨pd,8,none⟩ (.bool false) = w7 at *
          have hp7 := h7.keep hp np
          (repeat revert hK K);refine Wc3 @hp7 @k1' @not_true_eq_false ?_;repeat with_reducible intro K hK
          exact ⟨by rw [hr],by rw [hr]; exact hback _ _ h7⟩
        · rw [decide_eq_false hn] at hr
          have hn : ¬ t.name = ⟨#[104,116,109,108]⟩ := hn
          obtain ⟨z7,h7⟩ := hq true
          (repeat revert hK K);refine Wc4 @hp6 (eq_false hn) @not_false_eq_true @z7 ?_;repeat with_reducible intro K hK
          generalize w6.setCell ⟨pd,8,none⟩ (.bool true) = w7 at *
          have hp7 := h7.keep hp np
          (repeat revert hK K);refine Wc3 @hp7 @k1' @not_true_eq_false ?_;repeat with_reducible intro K hK
          exact ⟨by rw [hr],by rw [hr]; exact hback _ _ h7⟩
    · rw [if_neg k1] at hr
      (repeat revert hK K);refine Wc3 @hp4 (eq_false k1) @not_false_eq_true ?_;repeat with_reducible intro K hK
      exact ⟨by rw [hr],by rw [hr]; exact hback _ _ h4⟩
  rw [if_neg m0] at hr
  have m0' := eq_false m0
  by_cases m1 : b.mode = 1
  · rw [if_pos m1] at hr
    (repeat revert hK K);refine W4 @cell_h @cm @m0' (eq_true m1) ?_;repeat with_reducible intro K hK
    obtain ⟨z3,h3⟩ := h2.put (modeB b 2) 3 (.int .i64 2) (by decide) (fun x => rfl) ⟨rfl,rfl,rfl,rfl,rfl⟩
    (repeat revert hK K);refine W1 @z3 ?_;repeat with_reducible intro K hK
    generalize w2.setCell ⟨pd,3,none⟩ (.int .i64 2) = w3 at *
    have hp3 := h3.keep hp np
    have hd2 := hd.mode 2
    (repeat revert hK K);refine Wc1 @hp3 ?_;repeat with_reducible intro K hK
    refine bsl (l := lHtml) rfl (by decide) (by decide) (by kernel_rfl) ?_
    rintro v w4 hy4 hn4 ⟨bn4,rfl⟩
    (repeat revert hK K);refine W0 ?_;repeat with_reducible intro K hK
    rw [← hrow]
    refine (dstart_c hn4 (by decide)).mono ?_
    rintro v w5 ⟨rfl,hy5⟩
    have h5 := (h3.ext hy4).ext hy5
    have hp5 := h5.keep hp np
    by_cases s1 : startT t lHtml = true
    · rw [if_pos s1, hd2.ins] at hr
      (repeat revert hK K);refine Wc2 @hp5 @s1 ?_;repeat with_reducible intro K hK
      rw [← hrow]
      refine (dins_c h5 hd2.sh (by show b.s.length < _; omega) (by show b.L.length < _; omega) ha1 hd2.ta 0).mono ?_
      rintro v w6 ⟨rfl,h6⟩
      (repeat revert hK K);refine W0 ?_;repeat with_reducible intro K hK
      exact ⟨by rw [hr],by rw [hr]; exact hback _ _ h6⟩
    rw [if_neg s1,hd2.imp] at hr
    rw [eq_false_of_ne_true s1]
    (repeat revert hK K);refine W0 ?_;repeat with_reducible intro K hK
    refine (dimply_c h5 hd2.sh (by show b.s.length < _; omega) (by show b.L.length < _; omega) _).mono ?_
    rintro v w6 ⟨rfl,h6⟩
    (repeat revert hK K);refine W0 ?_;repeat with_reducible intro K hK
    exact ⟨by rw [hr],by rw [hr]; exact hback _ _ h6⟩
  rw [if_neg m1] at hr
  have m1' := eq_false m1
  (repeat revert hK K);refine Wc4 @hp2 @cm @m0' @m1' ?_;repeat with_reducible intro K hK
  refine bsl (l := lHtml) rfl (by decide) (by decide) (by kernel_rfl) ?_
  rintro v w3 hy3 hn3 ⟨bn3,rfl⟩
  (repeat revert hK K);refine W0 ?_;repeat with_reducible intro K hK
  rw [← hrow]
  refine (dstart_c hn3 (by decide)).mono ?_
  rintro v w4 ⟨rfl,hy4⟩
  have h4 := (h2.ext hy3).ext hy4
  have hp4 := h4.keep hp np
  by_cases s1 : startT t lHtml = true
  · rw [if_pos s1] at hr
    (repeat revert hK K);refine Wc2 @hp4 @s1 ?_;repeat with_reducible intro K hK
    rw [← hrow]
    refine (dlacks_c h4 hd.sh (by omega) (by omega) ha1 hd.ta hd.at_).mono ?_
    intro v w5 h5
    (repeat revert hK K);refine W0 ?_;repeat with_reducible intro K hK
    exact ⟨by rw [hr],by rw [hr]; exact hback _ _ h5⟩
  rw [if_neg s1] at hr
  rw [eq_false_of_ne_true s1]
  (repeat revert hK K);refine W0 ?_;repeat with_reducible intro K hK
  obtain ⟨z5,h5⟩ := h4.put (modeB b 3) 3 (.int .i64 3) (by decide) (fun x => rfl) ⟨rfl,rfl,rfl,rfl,rfl⟩
  (repeat revert hK K);refine W1 @z5 ?_;repeat with_reducible intro K hK
  generalize w4.setCell ⟨pd,3,none⟩ (.int .i64 3) = w5 at *
  have hp5 := h5.keep hp np
  have hd2 := hd.mode 3
  (repeat revert hK K);refine Wc1 @hp5 ?_;repeat with_reducible intro K hK
  refine bsl (l := lHead) rfl (by decide) (by decide) (by kernel_rfl) ?_
  rintro v w6 hy6 hn6 ⟨bn6,rfl⟩
  (repeat revert hK K);refine W0 ?_;repeat with_reducible intro K hK
  rw [← hrow]
  refine (dstart_c hn6 (by decide)).mono ?_
  rintro v w7 ⟨rfl,hy7⟩
  have h7 := (h5.ext hy6).ext hy7
  have hp7 := h7.keep hp np
  by_cases s2 : startT t lHead = true
  · rw [if_pos s2, hd2.ins] at hr
    (repeat revert hK K);refine Wc2 @hp7 @s2 ?_;repeat with_reducible intro K hK
    rw [← hrow]
    refine (dins_c h7 hd2.sh (by show b.s.length < _; omega) (by show b.L.length < _; omega) ha1 hd2.ta 0).mono ?_
    rintro v w8 ⟨rfl,h8⟩
    rw [show ((modeB b 3).L.length : Int) = (b.L.length : Int) from rfl]
    (repeat revert hK K);refine W0 ?_;repeat with_reducible intro K hK
    obtain ⟨z9,h9⟩ := h8.put { insL (modeB b 3) (elTok t 0) with head := (b.L.length : Int) } 6 (.int .i64 (b.L.length : Int)) (by decide) (fun x => rfl) ⟨rfl,rfl,rfl,rfl,rfl⟩
    (repeat revert hK K);refine W1 @z9 ?_;repeat with_reducible intro K hK
    generalize w8.setCell ⟨pd,6,none⟩ (.int .i64 (b.L.length : Int)) = w9 at *
    (repeat revert hK K);refine W0 ?_;repeat with_reducible intro K hK
    exact ⟨by rw [hr],by rw [hr]; exact hback _ _ h9⟩
  rw [if_neg s2,hd2.imp] at hr
  rw [eq_false_of_ne_true s2]
  (repeat revert hK K);refine W0 ?_;repeat with_reducible intro K hK
  refine (dimply_c h7 hd2.sh (by show b.s.length < _; omega) (by show b.L.length < _; omega) _).mono ?_
  rintro v w8 ⟨rfl,h8⟩
  rw [show ((modeB b 3).L.length : Int) = (b.L.length : Int) from rfl]
  (repeat revert hK K);refine W0 ?_;repeat with_reducible intro K hK
  obtain ⟨z9,h9⟩ := h8.put { insL (modeB b 3) (elTok (tokI sHead) 0) with head := (b.L.length : Int) } 6 (.int .i64 (b.L.length : Int)) (by decide) (fun x => rfl) ⟨rfl,rfl,rfl,rfl,rfl⟩
  (repeat revert hK K);refine W1 @z9 ?_;repeat with_reducible intro K hK
  generalize w8.setCell ⟨pd,6,none⟩ (.int .i64 (b.L.length : Int)) = w9 at *
  (repeat revert hK K);refine W0 ?_;repeat with_reducible intro K hK
  exact ⟨by rw [hr],by rw [hr]; exact hback _ _ h9⟩
end
end Go.Proofs.YtgnnlaeikcnhcaaGreatDoor
end
section
namespace Go.Proofs.YtgnnlaeikcnhcaaGreatDoor
open Go Go.Vk
set_option maxHeartbeats 40000000
section
variable {w0 w : World} {S : Nat → Prop} {pd : Nat} {b : BSt}
set_option maxHeartbeats 4000000 in
theorem dafter_c (h : Dc w0 S w pd b) {t : HTok} (hd : DH b t) {av : Value} (ha : ∀ w',Upd S w0 w' → RdAt w' 2 av (attrCells t.attrs)) (hh : HdE b) (hs5 : b.s.length < 480) :
    Gives Tryz.prog 140 #[.pointer (some ⟨pd,0,none⟩),.agg (t.row av)] w fun v w' => v = .bool (afterR b t).2 ∧ Dc w0 S w' pd (afterR b t).1 := by
  obtain ⟨r,hr⟩ : ∃ r,r = afterR b t := ⟨_,rfl⟩
  rw [← hr]
  unfold afterR at hr
  have hs := hd.s
  have hL := hd.L
  obtain ⟨xa,xn,xc,eav,_⟩ := id (ha w h.1)
  subst eav
  have hrow : t.row (.slice xa xn xc) = #[.int .i64 t.kind,.string t.name,.string t.text,.slice xa xn xc,.bool t.dup,.bool t.self,.bool t.quirks,.int .i64 t.frm,.int .i64 t.to] := rfl
  have hx := Ext.alloc w (.cells (t.row (.slice xa xn xc)) 37)
  have hp : (w.alloc (.cells (t.row (.slice xa xn xc)) 37)).heap[w.heap.size]? = some (.cells (t.row (.slice xa xn xc)) 37 (0,0)) := by rw [heap_alloc_h,if_pos rfl]
  obtain ⟨S1,lo,loS,hbase⟩ := h.base
  refine Gives.of_W Tryz.call140 Tryz.func140 rfl Tryz.ntmps140 (by simp) ?_; intro Z hZ
  (repeat revert hK K);refine W1 @vcells_agg ?_;repeat with_reducible intro K hK
  generalize w.alloc (.cells (t.row (.slice xa xn xc)) 37) = w1 at *
  obtain ⟨p,hpe⟩ : ∃ p,p = w.heap.size := ⟨_,rfl⟩
  rw [← hpe] at hp ⊢
  rw [hrow] at hp
  obtain ⟨h1,hup,hback⟩ := hbase w1 hx
  have np : ¬ S1 p := fun hq => by have := lo p hq; omega
  have ha1 : ∀ w',Upd S1 w1 w' → RdAt w' 2 (.slice xa xn xc) (attrCells t.attrs) := fun w' hu => ha w' (hup w' hu)
  by_cases k5 : t.kind = 5
  · rw [if_pos (.inl k5)] at hr
    (repeat revert hK K);refine Wc2 @hp (eq_true k5) ?_;repeat with_reducible intro K hK
    rw [← hrow]
    refine (dhead_c h1 hd ha1).mono ?_
    rintro v w2 ⟨rfl,h2⟩
    (repeat revert hK K);refine W0 ?_;repeat with_reducible intro K hK
    exact ⟨by rw [hr],by rw [hr]; exact hback _ _ h2⟩
  have k5' := eq_false k5
  by_cases k4 : t.kind = 4
  · rw [if_pos (.inr (.inl k4))] at hr
    (repeat revert hK K);refine Wc3 @hp @k5' (eq_true k4) ?_;repeat with_reducible intro K hK
    rw [← hrow]
    refine (dhead_c h1 hd ha1).mono ?_
    rintro v w2 ⟨rfl,h2⟩
    (repeat revert hK K);refine W0 ?_;repeat with_reducible intro K hK
    exact ⟨by rw [hr],by rw [hr]; exact hback _ _ h2⟩
  have k4' := eq_false k4
  (repeat revert hK K);refine Wc3 @hp @k5' @k4' ?_;repeat with_reducible intro K hK
  refine bsl (l := lHtml) rfl (by decide) (by decide) (by kernel_rfl) ?_
  rintro v w2 hy2 hn2 ⟨bn2,rfl⟩
  (repeat revert hK K);refine W0 ?_;repeat with_reducible intro K hK
  rw [← hrow]
  refine (dstart_c hn2 (by decide)).mono ?_
  rintro v w3 ⟨rfl,hy3⟩
  have h3 := (h1.ext hy2).ext hy3
  have hp3 := h3.keep hp np
  by_cases s1 : startT t lHtml = true
  · rw [if_pos (.inr (.inr (.inl s1)))] at hr
    (repeat revert hK K);refine Wc2 @hp3 @s1 ?_;repeat with_reducible intro K hK
    rw [← hrow]
    refine (dhead_c h3 hd ha1).mono ?_
    rintro v w4 ⟨rfl,h4⟩
    (repeat revert hK K);refine W0 ?_;repeat with_reducible intro K hK
    exact ⟨by rw [hr],by rw [hr]; exact hback _ _ h4⟩
  rw [eq_false_of_ne_true s1]
  (repeat revert hK K);refine Wc1 @hp3 ?_;repeat with_reducible intro K hK
  refine bsl (l := lTem) rfl (by decide) (by decide) (by kernel_rfl) ?_
  rintro v w4 hy4 hn4 ⟨bn4,rfl⟩
  (repeat revert hK K);refine W0 ?_;repeat with_reducible intro K hK
  rw [← hrow]
  refine (dend_c hn4 (by decide)).mono ?_
  rintro v w5 ⟨rfl,hy5⟩
  have h5 := (h3.ext hy4).ext hy5
  have hp5 := h5.keep hp np
  by_cases e1 : endT t lTem = true
  · rw [if_pos (.inr (.inr (.inr e1)))] at hr
    (repeat revert hK K);refine Wc2 @hp5 @e1 ?_;repeat with_reducible intro K hK
    rw [← hrow]
    refine (dhead_c h5 hd ha1).mono ?_
    rintro v w6 ⟨rfl,h6⟩
    (repeat revert hK K);refine W0 ?_;repeat with_reducible intro K hK
    exact ⟨by rw [hr],by rw [hr]; exact hback _ _ h6⟩
  rw [eq_false_of_ne_true e1]
  rw [if_neg (fun h => by
    rcases h with h | h | h | h
    · exact k5 h
    · exact k4 h
    · exact s1 h
    · exact e1 h)] at hr
  by_cases k1 : t.kind = 1
  · rw [if_pos (.inl k1)] at hr
    (repeat revert hK K);refine Wc2 @hp5 (eq_true k1) ?_;repeat with_reducible intro K hK
    exact ⟨by rw [hr],by rw [hr]; exact hback _ _ h5⟩
  have k1' := eq_false k1
  (repeat revert hK K);refine Wc2 @hp5 @k1' ?_;repeat with_reducible intro K hK
  refine bsl (l := lHF) rfl (by decide) (by decide) (by kernel_rfl) ?_
  rintro v w6 hy6 hn6 ⟨bn6,rfl⟩
  (repeat revert hK K);refine W0 ?_;repeat with_reducible intro K hK
  rw [← hrow]
  refine (dstart_c hn6 (by decide)).mono ?_
  rintro v w7 ⟨rfl,hy7⟩
  have h7 := (h5.ext hy6).ext hy7
  have hp7 := h7.keep hp np
  by_cases s2 : startT t lHF = true
  · rw [if_pos (.inr (.inl s2))] at hr
    (repeat revert hK K);refine Wc2 @hp7 @s2 ?_;repeat with_reducible intro K hK
    exact ⟨by rw [hr],by rw [hr]; exact hback _ _ h7⟩
  rw [eq_false_of_ne_true s2]
  (repeat revert hK K);refine Wc1 @hp7 ?_;repeat with_reducible intro K hK
  rw [← hrow]
  refine dstrange_c.mono ?_
  rintro v w8 ⟨rfl,hy8⟩
  have h8 := h7.ext hy8
  have hp8 := h8.keep hp np
  by_cases s3 : strT t = true
  · rw [if_pos (.inr (.inr (.inl s3)))] at hr
    (repeat revert hK K);refine Wc2 @hp8 @s3 ?_;repeat with_reducible intro K hK
    exact ⟨by rw [hr],by rw [hr]; exact hback _ _ h8⟩
  rw [eq_false_of_ne_true s3]
  (repeat revert hK K);refine Wc1 @hp8 ?_;repeat with_reducible intro K hK
  refine bsl (l := lHead) rfl (by decide) (by decide) (by kernel_rfl) ?_
  rintro v w9 hy9 hn9 ⟨bn9,rfl⟩
  (repeat revert hK K);refine W0 ?_;repeat with_reducible intro K hK
  rw [← hrow]
  refine (dend_c hn9 (by decide)).mono ?_
  rintro v w10 ⟨rfl,hy10⟩
  have h10 := (h8.ext hy9).ext hy10
  have hp10 := h10.keep hp np
  by_cases e2 : endT t lHead = true
  · rw [if_pos (.inr (.inr (.inr e2)))] at hr
    (repeat revert hK K);refine Wc2 @hp10 @e2 ?_;repeat with_reducible intro K hK
    exact ⟨by rw [hr],by rw [hr]; exact hback _ _ h10⟩
  rw [eq_false_of_ne_true e2]
  rw [if_neg (fun h => by
    rcases h with h | h | h | h
    · exact k1 h
    · exact s2 h
    · exact s3 h
    · exact e2 h)] at hr
  (repeat revert hK K);refine Wc1 @hp10 ?_;repeat with_reducible intro K hK
  rw [← hrow]
  refine dbelongs_c.mono ?_
  rintro v w11 ⟨rfl,hy11⟩
  have h11 := h10.ext hy11
  have hp11 := h11.keep hp np
  by_cases b1 : belT t = true
  · obtain ⟨hpe2, hdp⟩ := hd.psh hh hs5
    rw [if_pos b1,hpe2] at hr
    obtain ⟨_,_,ch⟩ := h11.cellF
    have g0 : (0 : Int) ≤ b.head := by have := hh.1; omega
    (repeat revert hK K);refine W4 @b1 @cell_h @ch @g0 ?_;repeat with_reducible intro K hK
    have hxd := Ext.drew w11
    obtain ⟨hud,x,hMd,hSd⟩ := h11.ext hxd
    obtain ⟨oa,oc,la,lc,ma,mc,eo,ho,_,_,_,_,_,hhd⟩ := hMd.hd
    have hop := hMd.op
    rw [eo] at hop
    have lpd : pd < w11.drew.heap.size := blk_lt hhd
    
    
    refine W_draw (.pas 0 (.pas 1 (.pas 2 (.pas 3 (.pas 4 (.pas 6 (.pas 7 (.pas 8 (.pas 9 (.two 5 (.act 10 (.act 11 (.pas 12 (.pas 13 (.last 14))))) 10 (.act 5 (.act 11 (.pas 12 (.pas 13 (.last 14))))))))))))))) (fun q => q = pd) (by decide) mixed (by kernel_rfl) ?_
    generalize w11.drew = wd at *
    have kp : ∀ {wz : World},Ext wd wz → ∀ q,q = pd → q < wz.heap.size ∧ ¬ none_ q := fun hz q hq => ⟨by have := hz.alike.size; omega,id⟩
    refine Dd1 @hhd ?_
    refine two_mk ?_ ?_
    · refine De2 @true_or @or_true ?_
      refine app_to_rd sty28 sty28.und (by decide) (SlAt.nil _ _) (hop.rd) (intCells_one _) (by rw [intCells_length,nds_lenD]; simp; omega) ?_
      intro v1 wa bo1 g1 g2 g3
      rw [List.nil_append] at g1
      have hxp : Ext wd wa := g2.mono fun q _ e => by cases e
      obtain ⟨va1,vn1,vc1,rfl,_,_⟩ := g1.len
      refine ⟨kept_upd hxp (kp (Ext.refl wd)),?_⟩
      refine De2 @true_or @or_true ?_
      refine bs_one sty28 (by decide) (by decide) (v := .int .i64 b.head) rfl ?_
      have hxq := Ext.alloc wa (.cells (Value.int .i64 b.head).cells 3)
      have hna := SlAt.new wa 1 (Value.int .i64 b.head).cells 3 1 rfl
      refine ⟨kept_upd hxq (kp hxp),?_⟩
      generalize wa.alloc (.cells (Value.int .i64 b.head).cells 3) = wb at *
      have hxz : Ext wd wb := hxp.trans hxq
      have hbo1 : ∀ q,bo1 = some q → wd.heap.size ≤ q := fun q hq => by
        rcases g3 q hq with h | h
        · cases h
        · exact h
      have sz1 := hxz.alike.size
      refine De2 @true_or @or_true ?_
      refine app_to_rd sty28 sty28.und (by decide) (g1.ext hxq) hna.rd (by rfl) (by rw [intCells_length,nds_lenD]; simp [Value.cells]; omega) ?_
      intro v2 w9 bo2 k1 k2 k3
      have e1 : intCells (nds b.s) ++ (Value.int .i64 b.head).cells.toList = intCells (nds (pshB b).s) := by
        rw [show nds (pshB b).s = nds b.s ++ [b.head] by simp [nds,pshB],intCells_append]; rfl
      rw [e1] at k1
      obtain ⟨va2,vn2,vc2,rfl,_,_⟩ := k1.len
      refine ⟨kept_upd k2 fun q hq => ⟨by have := (kp hxz q hq).1; omega,fun e => by have := hbo1 q e; have := (kp (Ext.refl wd) q hq).1; have : q = pd := hq; omega⟩,?_⟩
      obtain ⟨z1,z2,z3,z4⟩ := hMd.opn (w2 := w9) (s' := (pshB b).s) k1 (Upd.trans hxz.upd k2 fun q hq e => by have := hbo1 q e; omega) fun q hq => by
        rcases k3 q hq with h | h
        · exact .inr (hbo1 q h)
        · exact .inr (by omega)
      have hfin := Dc.step hud hMd hSd z3 z2 z4
      refine De0 ?_
      refine ⟨z1,?_⟩
      generalize w9.setCell ⟨pd,1,none⟩ (.slice va2 vn2 vc2) = wz9 at *
      have hfin : Dc w1 S1 wz9 pd (pshB b) := hfin
      have hpz := hfin.keep hp np
      (repeat revert hK K);refine Wc1 @hpz ?_;repeat with_reducible intro K hK
      rw [← hrow]
      refine (down_c hfin hdp ha1).mono ?_
      intro v w20 h20
      obtain ⟨_,_,ch20⟩ := h20.cellF
      have hos := hdp.own_s.1
      have hps := hdp.s
      (repeat revert hK K);refine W2 @cell_h @ch20 ?_;repeat with_reducible intro K hK
      refine (dclose_c h20 (by omega) _).mono ?_
      intro v w21 h21
      rw [← rem_eq] at h21
      (repeat revert hK K);refine W0 ?_;repeat with_reducible intro K hK
      exact ⟨by rw [hr],by rw [hr]; exact hback _ _ h21⟩
    · refine De2 @true_or @or_true ?_
      refine bs_one sty28 (by decide) (by decide) (v := .int .i64 b.head) rfl ?_
      have hxq := Ext.alloc wd (.cells (Value.int .i64 b.head).cells 3)
      have hna := SlAt.new wd 1 (Value.int .i64 b.head).cells 3 1 rfl
      refine ⟨kept_upd hxq (kp (Ext.refl wd)),?_⟩
      generalize wd.alloc (.cells (Value.int .i64 b.head).cells 3) = wa at *
      refine De2 @true_or @or_true ?_
      refine app_to_rd sty28 sty28.und (by decide) (SlAt.nil _ _) ((hop.ext hxq).rd) (intCells_one _) (by rw [intCells_length,nds_lenD]; simp; omega) ?_
      intro v1 wb bo1 g1 g2 g3
      rw [List.nil_append] at g1
      have hxp : Ext wa wb := g2.mono fun q _ e => by cases e
      obtain ⟨va1,vn1,vc1,rfl,_,_⟩ := g1.len
      refine ⟨kept_upd hxp (kp hxq),?_⟩
      have hxz : Ext wd wb := hxq.trans hxp
      have sza := hxq.alike.size
      have hbo1 : ∀ q,bo1 = some q → wd.heap.size ≤ q := fun q hq => by
        rcases g3 q hq with h | h
        · cases h
        · omega
      have sz1 := hxz.alike.size
      refine De2 @true_or @or_true ?_
      refine app_to_rd sty28 sty28.und (by decide) g1 (hna.ext hxp).rd (by rfl) (by rw [intCells_length,nds_lenD]; simp [Value.cells]; omega) ?_
      intro v2 w9 bo2 k1 k2 k3
      have e1 : intCells (nds b.s) ++ (Value.int .i64 b.head).cells.toList = intCells (nds (pshB b).s) := by
        rw [show nds (pshB b).s = nds b.s ++ [b.head] by simp [nds,pshB],intCells_append]; rfl
      rw [e1] at k1
      obtain ⟨va2,vn2,vc2,rfl,_,_⟩ := k1.len
      refine ⟨kept_upd k2 fun q hq => ⟨by have := (kp hxz q hq).1; omega,fun e => by have := hbo1 q e; have := (kp (Ext.refl wd) q hq).1; have : q = pd := hq; omega⟩,?_⟩
      obtain ⟨z1,z2,z3,z4⟩ := hMd.opn (w2 := w9) (s' := (pshB b).s) k1 (Upd.trans hxz.upd k2 fun q hq e => by have := hbo1 q e; omega) fun q hq => by
        rcases k3 q hq with h | h
        · exact .inr (hbo1 q h)
        · exact .inr (by omega)
      have hfin := Dc.step hud hMd hSd z3 z2 z4
      refine De0 ?_
      refine ⟨z1,?_⟩
      generalize w9.setCell ⟨pd,1,none⟩ (.slice va2 vn2 vc2) = wz9 at *
      have hfin : Dc w1 S1 wz9 pd (pshB b) := hfin
      have hpz := hfin.keep hp np
      (repeat revert hK K);refine Wc1 @hpz ?_;repeat with_reducible intro K hK
      rw [← hrow]
      refine (down_c hfin hdp ha1).mono ?_
      intro v w20 h20
      obtain ⟨_,_,ch20⟩ := h20.cellF
      have hos := hdp.own_s.1
      have hps := hdp.s
      (repeat revert hK K);refine W2 @cell_h @ch20 ?_;repeat with_reducible intro K hK
      refine (dclose_c h20 (by omega) _).mono ?_
      intro v w21 h21
      rw [← rem_eq] at h21
      (repeat revert hK K);refine W0 ?_;repeat with_reducible intro K hK
      exact ⟨by rw [hr],by rw [hr]; exact hback _ _ h21⟩
  rw [if_neg b1] at hr
  rw [eq_false_of_ne_true b1]
  (repeat revert hK K);refine Wc1 @hp11 ?_;repeat with_reducible intro K hK
  refine bsl (l := lBody) rfl (by decide) (by decide) (by kernel_rfl) ?_
  rintro v w12 hy12 hn12 ⟨bn12,rfl⟩
  (repeat revert hK K);refine W0 ?_;repeat with_reducible intro K hK
  rw [← hrow]
  refine (dstart_c hn12 (by decide)).mono ?_
  rintro v w13 ⟨rfl,hy13⟩
  have h13 := (h11.ext hy12).ext hy13
  have hp13 := h13.keep hp np
  by_cases s4 : startT t lBody = true
  · rw [if_pos s4, hd.ins] at hr
    (repeat revert hK K);refine Wc2 @hp13 @s4 ?_;repeat with_reducible intro K hK
    rw [← hrow]
    refine (dins_c h13 hd.sh (by omega) (by omega) ha1 hd.ta 0).mono ?_
    rintro v w14 ⟨rfl,h14⟩
    (repeat revert hK K);refine W0 ?_;repeat with_reducible intro K hK
    obtain ⟨z15,h15⟩ := h14.put (modeB (insL b (elTok t 0)) 6) 3 (.int .i64 6) (by decide) (fun x => rfl) ⟨rfl,rfl,rfl,rfl,rfl⟩
    (repeat revert hK K);refine W1 @z15 ?_;repeat with_reducible intro K hK
    generalize w14.setCell ⟨pd,3,none⟩ (.int .i64 6) = w15 at *
    (repeat revert hK K);refine W0 ?_;repeat with_reducible intro K hK
    exact ⟨by rw [hr],by rw [hr]; exact hback _ _ h15⟩
  rw [if_neg s4,hd.imp] at hr
  rw [eq_false_of_ne_true s4]
  (repeat revert hK K);refine W0 ?_;repeat with_reducible intro K hK
  refine (dimply_c h13 hd.sh (by omega) (by omega) _).mono ?_
  rintro v w14 ⟨rfl,h14⟩
  (repeat revert hK K);refine W0 ?_;repeat with_reducible intro K hK
  obtain ⟨z15,h15⟩ := h14.put (modeB (insL b (elTok (tokI sBody_) 0)) 6) 3 (.int .i64 6) (by decide) (fun x => rfl) ⟨rfl,rfl,rfl,rfl,rfl⟩
  (repeat revert hK K);refine W1 @z15 ?_;repeat with_reducible intro K hK
  generalize w14.setCell ⟨pd,3,none⟩ (.int .i64 6) = w15 at *
  (repeat revert hK K);refine W0 ?_;repeat with_reducible intro K hK
  exact ⟨by rw [hr],by rw [hr]; exact hback _ _ h15⟩
theorem dstep_c (h : Dc w0 S w pd b) {t : HTok} (hd : DH b t) {av : Value} (ha : ∀ w',Upd S w0 w' → RdAt w' 2 av (attrCells t.attrs)) (hh : b.mode = 5 → HdE b) (hs5 : b.s.length < 480) :
    Gives Tryz.prog 87 #[.pointer (some ⟨pd,0,none⟩),.agg (t.row av)] w fun v w' => v = .bool (stepR b t).2 ∧ Dc w0 S w' pd (stepR b t).1 := by
  obtain ⟨r,hr⟩ : ∃ r,r = stepR b t := ⟨_,rfl⟩
  rw [← hr]
  unfold stepR at hr
  obtain ⟨xa,xn,xc,eav,_⟩ := id (ha w h.1)
  subst eav
  have hrow : t.row (.slice xa xn xc) = #[.int .i64 t.kind,.string t.name,.string t.text,.slice xa xn xc,.bool t.dup,.bool t.self,.bool t.quirks,.int .i64 t.frm,.int .i64 t.to] := rfl
  have hx := Ext.alloc w (.cells (t.row (.slice xa xn xc)) 37)
  have hp : (w.alloc (.cells (t.row (.slice xa xn xc)) 37)).heap[w.heap.size]? = some (.cells (t.row (.slice xa xn xc)) 37 (0,0)) := by rw [heap_alloc_h,if_pos rfl]
  obtain ⟨S1,lo,loS,hbase⟩ := h.base
  refine Gives.of_W Tryz.call87 Tryz.func87 rfl Tryz.ntmps87 (by simp) ?_; intro Z hZ
  (repeat revert hK K);refine W1 @vcells_agg ?_;repeat with_reducible intro K hK
  generalize w.alloc (.cells (t.row (.slice xa xn xc)) 37) = w1 at *
  obtain ⟨p,hpe⟩ : ∃ p,p = w.heap.size := ⟨_,rfl⟩
  rw [← hpe] at hp ⊢
  rw [hrow] at hp
  obtain ⟨h1,hup,hback⟩ := hbase w1 hx
  have np : ¬ S1 p := fun hq => by have := lo p hq; omega
  have ha1 : ∀ w',Upd S1 w1 w' → RdAt w' 2 (.slice xa xn xc) (attrCells t.attrs) := fun w' hu => ha w' (hup w' hu)
  obtain ⟨cm,_,_⟩ := h1.cellF

  by_cases m0 : b.mode = 0
  · rw [if_pos (.inl m0)] at hr
    (repeat revert hK K);refine Wc3 @hp @cm (eq_true m0) ?_;repeat with_reducible intro K hK
    rw [← hrow]
    refine (dbefore_c h1 hd ha1).mono ?_
    rintro v w2 ⟨rfl,h2⟩
    (repeat revert hK K);refine W0 ?_;repeat with_reducible intro K hK
    exact ⟨by rw [hr],by rw [hr]; exact hback _ _ h2⟩
  have m0' := eq_false m0
  by_cases m1 : b.mode = 1
  · rw [if_pos (.inr (.inl m1))] at hr
    (repeat revert hK K);refine Wc4 @hp @cm @m0' (eq_true m1) ?_;repeat with_reducible intro K hK
    rw [← hrow]
    refine (dbefore_c h1 hd ha1).mono ?_
    rintro v w2 ⟨rfl,h2⟩
    (repeat revert hK K);refine W0 ?_;repeat with_reducible intro K hK
    exact ⟨by rw [hr],by rw [hr]; exact hback _ _ h2⟩
  have m1' := eq_false m1
  by_cases m2 : b.mode = 2
  · rw [if_pos (.inr (.inr m2))] at hr
    (repeat revert hK K);refine Wc5 @hp @cm @m0' @m1' (eq_true m2) ?_;repeat with_reducible intro K hK
    rw [← hrow]
    refine (dbefore_c h1 hd ha1).mono ?_
    rintro v w2 ⟨rfl,h2⟩
    (repeat revert hK K);refine W0 ?_;repeat with_reducible intro K hK
    exact ⟨by rw [hr],by rw [hr]; exact hback _ _ h2⟩
  have m2' := eq_false m2
  rw [if_neg (fun h => by
    rcases h with h | h | h
    · exact m0 h
    · exact m1 h
    · exact m2 h)] at hr
  by_cases m3 : b.mode = 3
  · rw [if_pos m3] at hr
    (repeat revert hK K);refine Wc6 @hp @cm @m0' @m1' @m2' (eq_true m3) ?_;repeat with_reducible intro K hK
    rw [← hrow]
    refine (dhead_c h1 hd ha1).mono ?_
    rintro v w2 ⟨rfl,h2⟩
    (repeat revert hK K);refine W0 ?_;repeat with_reducible intro K hK
    exact ⟨by rw [hr],by rw [hr]; exact hback _ _ h2⟩
  rw [if_neg m3] at hr
  have m3' := eq_false m3
  by_cases m4 : b.mode = 4
  · rw [if_pos m4] at hr
    (repeat revert hK K);refine Wc7 @hp @cm @m0' @m1' @m2' @m3' (eq_true m4) ?_;repeat with_reducible intro K hK
    rw [← hrow]
    refine (dnos_c h1 hd ha1).mono ?_
    rintro v w2 ⟨rfl,h2⟩
    (repeat revert hK K);refine W0 ?_;repeat with_reducible intro K hK
    exact ⟨by rw [hr],by rw [hr]; exact hback _ _ h2⟩
  rw [if_neg m4] at hr
  have m4' := eq_false m4
  by_cases m5 : b.mode = 5
  · rw [if_pos m5] at hr
    (repeat revert hK K);refine Wc8 @hp @cm @m0' @m1' @m2' @m3' @m4' (eq_true m5) ?_;repeat with_reducible intro K hK
    rw [← hrow]
    refine (dafter_c h1 hd ha1 (hh m5) hs5).mono ?_
    rintro v w2 ⟨rfl,h2⟩
    (repeat revert hK K);refine W0 ?_;repeat with_reducible intro K hK
    exact ⟨by rw [hr],by rw [hr]; exact hback _ _ h2⟩
  rw [if_neg m5] at hr
  have m5' := eq_false m5
  by_cases m7 : b.mode = 7
  · rw [if_pos m7] at hr
    (repeat first|(with_reducible first|(refine hK _ _ ?_;clear hK K)|refine ‹∀σ w,_→K σ w› _ _ ?_|(refine W_st ?_;constructor;try intro K hK))|((with_reducible first|refine hZ _ _ ?_|refine W_rg ?_|skip);repeat1' simp only[push_cast,seval,-Nat.reduceSubDiff,cell_h,cellO_cells,hp,cm,m0',m1',m2',m3',m4',m5',eq_true m7])|((repeat((fail_if_success with_reducible refine hK _ _ ?_);clear hK K));with_reducible refine hK _ _ ?_;clear hK K))
    rw [← hrow]
    refine (dtext_c h1 hd ha1).mono ?_
    rintro v w2 ⟨rfl,h2⟩
    (repeat revert hK K);refine W0 ?_;repeat with_reducible intro K hK
    exact ⟨by rw [hr],by rw [hr]; exact hback _ _ h2⟩
  rw [if_neg m7] at hr
  have m7' := eq_false m7
  (repeat first|(with_reducible first|(refine hK _ _ ?_;clear hK K)|refine ‹∀σ w,_→K σ w› _ _ ?_|(refine W_st ?_;constructor;try intro K hK))|((with_reducible first|refine hZ _ _ ?_|refine W_rg ?_|skip);repeat1' simp only[push_cast,seval,-Nat.reduceSubDiff,cell_h,cellO_cells,hp,cm,m0',m1',m2',m3',m4',m5',m7'])|((repeat((fail_if_success with_reducible refine hK _ _ ?_);clear hK K));with_reducible refine hK _ _ ?_;clear hK K))
  exact ⟨by rw [hr],by rw [hr]; exact hback _ _ h1⟩
end
end Go.Proofs.YtgnnlaeikcnhcaaGreatDoor
end
