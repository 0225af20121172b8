/- What the proof leans on, part 11 of 11. -/
import Derived.Test.YtgnnlaeikcnhcaaGreatDoorQHeadsRawJ
section
set_option linter.unusedSimpArgs false
set_option linter.unusedVariables false
namespace Go.Proofs.YtgnnlaeikcnhcaaGreatDoor
open Go Go.Vk
set_option maxHeartbeats 40000000
set_option maxHeartbeats 4000000 in
theorem headsRaw_c {w0 : World} (hg : GB w0) (hS : GS w0) (hM : MaxAt w0) (x : Nat) (hx : x < 256) (s : ByteArray) :
    Gives Tryz.prog 11 #[.int .u8 (x : Int), .string s] w0 fun v w' => v = .bool true ∧ Ext w0 w' := by
  by_cases h1 : 300 < s.size
  · have d : (300 : Int) < (s.size : Int) := by omega
    refine Gives.of_W Tryz.call11 Tryz.func11 rfl Tryz.ntmps11 (by simp) ?_; intro Z hZ
    (repeat first|(with_reducible first|(refine hK _ _ ?_;clear hK K)|refine ‹∀σ w,_→K σ w› _ _ ?_|(refine W_st ?_;constructor;try intro K hK))|((with_reducible first|refine hZ _ _ ?_|refine W_rg ?_|skip);repeat1' simp only[push_cast,seval,-Nat.reduceSubDiff,d])|((repeat((fail_if_success with_reducible refine hK _ _ ?_);clear hK K));with_reducible refine hK _ _ ?_;clear hK K))
    refine (begins_c hg hS hM).mono ?_
    rintro v w' ⟨rfl, hy⟩
    (repeat first|(with_reducible first|(refine hK _ _ ?_;clear hK K)|refine ‹∀σ w,_→K σ w› _ _ ?_|(refine W_st ?_;constructor;try intro K hK))|((with_reducible first|refine hZ _ _ ?_|refine W_rg ?_|skip);repeat1' simp only[push_cast,seval,-Nat.reduceSubDiff])|((repeat((fail_if_success with_reducible refine hK _ _ ?_);clear hK K));with_reducible refine hK _ _ ?_;clear hK K))
    exact hy
  have d1 : ¬ (300 : Int) < (s.size : Int) := by omega
  obtain ⟨k, hk⟩ : ∃ k, k = x % 4 := ⟨_, rfl⟩
  have hk4 : k < 4 := by rw [hk]; exact Nat.mod_lt _ (by decide)
  have hkt : Int.tmod (x : Int) 4 = (k : Int) := by
    rw [hk, Int.tmod_eq_emod_of_nonneg (by omega)]; omega
  have hw : IntKind.i64.wrap (x : Int) = x := wrap_in (by unfold inI64; omega)
  have c4 : ((4 : Int) = 0) = False := by decide
  have b3 : (0 : Int) ≤ (k : Int) := by omega
  have b4 : (k : Int) < 4 := by omega
  have hnk : rwNames[k]? = some (rwName k) := by
    unfold rwName
    rw [List.getD_eq_getElem?_getD, List.getElem?_eq_getElem (show k < rwNames.length from hk4)]; rfl
  have hsk : rwStates[k]? = some (rwState k) := by
    unfold rwState
    rw [List.getD_eq_getElem?_getD, List.getElem?_eq_getElem (show k < rwStates.length from hk4)]; rfl
  obtain ⟨o1, o2, o3, o4, hH5, hH4⟩ := rw_ok k hk4 (x := s) (by omega)
  obtain ⟨e1, e2, e3, e4, e5⟩ := rw_end k hk4 s
  have hn300 := rw_names k hk4
  refine Gives.of_W Tryz.call11 Tryz.func11 rfl Tryz.ntmps11 (by simp) ?_; intro Z hZ
  (repeat first|(with_reducible first|(refine hK _ _ ?_;clear hK K)|refine ‹∀σ w,_→K σ w› _ _ ?_|(refine W_st ?_;constructor;try intro K hK))|((with_reducible first|refine hZ _ _ ?_|refine W_rg ?_|skip);repeat1' simp only[push_cast,seval,-Nat.reduceSubDiff,d1])|((repeat((fail_if_success with_reducible refine hK _ _ ?_);clear hK K));with_reducible refine hK _ _ ?_;clear hK K))
  refine bsl (l := rwNames) rfl (by decide) (by decide) (by kernel_rfl) ?_
  rintro v w1 hx1 hr1 ⟨bn, rfl⟩
  (repeat first|(with_reducible first|(refine hK _ _ ?_;clear hK K)|refine ‹∀σ w,_→K σ w› _ _ ?_|(refine W_st ?_;constructor;try intro K hK))|((with_reducible first|refine hZ _ _ ?_|refine W_rg ?_|skip);repeat1' simp only[push_cast,seval,-Nat.reduceSubDiff])|((repeat((fail_if_success with_reducible refine hK _ _ ?_);clear hK K));with_reducible refine hK _ _ ?_;clear hK K))
  refine bsi (l := rwStates) rfl (by decide) (by decide) (by kernel_rfl) ?_
  rintro v w2 hx2 hr2 ⟨bs, rfl, hbs⟩
  have cn := rd_str hr1 (Ext.refl _) hnk
  have cs := rd_int hr2 (Ext.refl _) hsk
  have cn2 := cell_ext hx2 cn
  have hx02 := hx1.trans hx2
  (repeat first|(with_reducible first|(refine hK _ _ ?_;clear hK K)|refine ‹∀σ w,_→K σ w› _ _ ?_|(refine W_st ?_;constructor;try intro K hK))|((with_reducible first|refine hZ _ _ ?_|refine W_rg ?_|skip);repeat1' simp only[push_cast,seval,-Nat.reduceSubDiff,hw,hkt,c4])|((repeat((fail_if_success with_reducible refine hK _ _ ?_);clear hK K));with_reducible refine hK _ _ ?_;clear hK K))
  refine bnew_c.mono ?_
  rintro v w3 ⟨pb, ps, pl, pa, rfl, h3⟩
  have hg2 := hg.ext hx02
  have hS2 := hS.ext hx02
  have hM2 := hM.ext hx02
  (repeat first|(with_reducible first|(refine hK _ _ ?_;clear hK K)|refine ‹∀σ w,_→K σ w› _ _ ?_|(refine W_st ?_;constructor;try intro K hK))|((with_reducible first|refine hZ _ _ ?_|refine W_rg ?_|skip);repeat1' simp only[push_cast,seval,-Nat.reduceSubDiff])|((repeat((fail_if_success with_reducible refine hK _ _ ?_);clear hK K));with_reducible refine hK _ _ ?_;clear hK K))
  refine (start19_c _).mono ?_
  rintro v w3t ⟨rfl, y3⟩
  have h3t := h3.pass y3
  (repeat first|(with_reducible first|(refine hK _ _ ?_;clear hK K)|refine ‹∀σ w,_→K σ w› _ _ ?_|(refine W_st ?_;constructor;try intro K hK))|((with_reducible first|refine hZ _ _ ?_|refine W_rg ?_|skip);repeat1' simp only[push_cast,seval,-Nat.reduceSubDiff])|((repeat((fail_if_success with_reducible refine hK _ _ ?_);clear hK K));with_reducible refine hK _ _ ?_;clear hK K))
  refine (does_c h3t hg2 hS2 hM2 nP (t := tok19 2 sHead) (av := .slice none 0 0) (SlAt.nil _ _).rd (smT_small (by decide)) o1).mono ?_
  rintro v w4 ⟨h4, _⟩
  replace h4 : BuAt w2 w4 noP pb ps pl pa rw1 := h4
  have cn4 := cell_ext h4.out cn2
  (repeat first|(with_reducible first|(refine hK _ _ ?_;clear hK K)|refine ‹∀σ w,_→K σ w› _ _ ?_|(refine W_st ?_;constructor;try intro K hK))|((with_reducible first|refine hZ _ _ ?_|refine W_rg ?_|skip);repeat1' simp only[push_cast,seval,-Nat.reduceSubDiff,b3,b4,cn4])|((repeat((fail_if_success with_reducible refine hK _ _ ?_);clear hK K));with_reducible refine hK _ _ ?_;clear hK K))
  refine (start19_c _).mono ?_
  rintro v w4t ⟨rfl, y4⟩
  have h4t := h4.pass y4
  (repeat first|(with_reducible first|(refine hK _ _ ?_;clear hK K)|refine ‹∀σ w,_→K σ w› _ _ ?_|(refine W_st ?_;constructor;try intro K hK))|((with_reducible first|refine hZ _ _ ?_|refine W_rg ?_|skip);repeat1' simp only[push_cast,seval,-Nat.reduceSubDiff])|((repeat((fail_if_success with_reducible refine hK _ _ ?_);clear hK K));with_reducible refine hK _ _ ?_;clear hK K))
  refine (does_c h4t hg2 hS2 hM2 nP (t := tok19 2 (rwName k)) (av := .slice none 0 0) (SlAt.nil _ _).rd (t300_tok hn300).sm o2).mono ?_
  rintro v w5 ⟨h5, _⟩
  replace h5 : BuAt w2 w5 noP pb ps pl pa (rw2 k) := h5
  (repeat first|(with_reducible first|(refine hK _ _ ?_;clear hK K)|refine ‹∀σ w,_→K σ w› _ _ ?_|(refine W_st ?_;constructor;try intro K hK))|((with_reducible first|refine hZ _ _ ?_|refine W_rg ?_|skip);repeat1' simp only[push_cast,seval,-Nat.reduceSubDiff])|((repeat((fail_if_success with_reducible refine hK _ _ ?_);clear hK K));with_reducible refine hK _ _ ?_;clear hK K))
  refine (bask_c h5).mono ?_
  rintro v w6 ⟨rfl, h6, _⟩
  replace h6 : BuAt w2 w6 noP pb ps pl pa (rw3 k) := h6
  rw [rw_ask k hk4]
  (repeat first|(with_reducible first|(refine hK _ _ ?_;clear hK K)|refine ‹∀σ w,_→K σ w› _ _ ?_|(refine W_st ?_;constructor;try intro K hK))|((with_reducible first|refine hZ _ _ ?_|refine W_rg ?_|skip);repeat1' simp only[push_cast,seval,-Nat.reduceSubDiff,Option.getD_some,Option.isSome_some,tup0,tup1,tup2])|((repeat((fail_if_success with_reducible refine hK _ _ ?_);clear hK K));with_reducible refine hK _ _ ?_;clear hK K))
  refine build_struct Tryz.zeroValue37 unTo plTo (cs := #[.int .i64 7, .string ⟨#[]⟩, .string s, .slice none 0 0, .bool false, .bool false, .bool false, .int .i64 0, .int .i64 0]) (by rfl) ?_
  (repeat first|(with_reducible first|(refine hK _ _ ?_;clear hK K)|refine ‹∀σ w,_→K σ w› _ _ ?_|(refine W_st ?_;constructor;try intro K hK))|((with_reducible first|refine hZ _ _ ?_|refine W_rg ?_|skip);repeat1' simp only[push_cast,seval,-Nat.reduceSubDiff])|((repeat((fail_if_success with_reducible refine hK _ _ ?_);clear hK K));with_reducible refine hK _ _ ?_;clear hK K))
  refine (does_c h6 hg2 hS2 hM2 nP (t := chT s) (av := .slice none 0 0) (SlAt.nil _ _).rd ⟨by show (0 : Nat) < _; omega, by show s.size < _; omega, by show (0 : Nat) < _; omega⟩ o3).mono ?_
  rintro v w7 ⟨h7, _⟩
  replace h7 : BuAt w2 w7 noP pb ps pl pa (rw4 k s) := h7
  have cn7 := cell_ext h7.out cn2
  have ok4 := (hH4.sz.hdo (m := 6) (by omega)).ok
  (repeat first|(with_reducible first|(refine hK _ _ ?_;clear hK K)|refine ‹∀σ w,_→K σ w› _ _ ?_|(refine W_st ?_;constructor;try intro K hK))|((with_reducible first|refine hZ _ _ ?_|refine W_rg ?_|skip);repeat1' simp only[push_cast,seval,-Nat.reduceSubDiff,b3,b4,cn7])|((repeat((fail_if_success with_reducible refine hK _ _ ?_);clear hK K));with_reducible refine hK _ _ ?_;clear hK K))
  refine bsl (l := [rwName k]) rfl (by decide) (by decide) (by kernel_rfl) ?_
  rintro v w8 hx8 hn8 ⟨b8, rfl⟩
  have h8 := h7.pass hx8
  (repeat first|(with_reducible first|(refine hK _ _ ?_;clear hK K)|refine ‹∀σ w,_→K σ w› _ _ ?_|(refine W_st ?_;constructor;try intro K hK))|((with_reducible first|refine hZ _ _ ?_|refine W_rg ?_|skip);repeat1' simp only[push_cast,seval,-Nat.reduceSubDiff])|((repeat((fail_if_success with_reducible refine hK _ _ ?_);clear hK K));with_reducible refine hK _ _ ?_;clear hK K))
  refine (bis_c h8 ok4 hn8 (show (1 : Nat) < 1000000000 by decide)).mono ?_
  rintro v w9 ⟨rfl, hx9⟩
  have h9 := h8.pass hx9
  rw [e1]
  (repeat first|(with_reducible first|(refine hK _ _ ?_;clear hK K)|refine ‹∀σ w,_→K σ w› _ _ ?_|(refine W_st ?_;constructor;try intro K hK))|((with_reducible first|refine hZ _ _ ?_|refine W_rg ?_|skip);repeat1' simp only[push_cast,seval,-Nat.reduceSubDiff])|((repeat((fail_if_success with_reducible refine hK _ _ ?_);clear hK K));with_reducible refine hK _ _ ?_;clear hK K))
  refine (barena_c h9).mono ?_
  intro v w' ⟨hv', hw'⟩
  subst hv'; subst w'
  (repeat first|(with_reducible first|(refine hK _ _ ?_;clear hK K)|refine ‹∀σ w,_→K σ w› _ _ ?_|(refine W_st ?_;constructor;try intro K hK))|((with_reducible first|refine hZ _ _ ?_|refine W_rg ?_|skip);repeat1' simp only[push_cast,seval,-Nat.reduceSubDiff])|((repeat((fail_if_success with_reducible refine hK _ _ ?_);clear hK K));with_reducible refine hK _ _ ?_;clear hK K))
  obtain ⟨P9, hA9, _⟩ := h9.ar
  refine (len_a hA9).mono ?_
  intro v w' ⟨hv', hw'⟩
  subst hv'; subst w'
  have cn9 := cell_ext h9.out cn2
  obtain ⟨many, hmany⟩ : ∃ m, m = (rw4 k s).L.length := ⟨_, rfl⟩
  rw [← hmany] at e4 e5 ⊢
  have hm9 : many < 9000 := by have := hH4.sz.L; omega
  (repeat first|(with_reducible first|(refine hK _ _ ?_;clear hK K)|refine ‹∀σ w,_→K σ w› _ _ ?_|(refine W_st ?_;constructor;try intro K hK))|((with_reducible first|refine hZ _ _ ?_|refine W_rg ?_|skip);repeat1' simp only[push_cast,seval,-Nat.reduceSubDiff,b3,b4,cn9])|((repeat((fail_if_success with_reducible refine hK _ _ ?_);clear hK K));with_reducible refine hK _ _ ?_;clear hK K))
  refine (end19_c _).mono ?_
  rintro v w9t ⟨rfl, y9⟩
  have h9t := h9.pass y9
  (repeat first|(with_reducible first|(refine hK _ _ ?_;clear hK K)|refine ‹∀σ w,_→K σ w› _ _ ?_|(refine W_st ?_;constructor;try intro K hK))|((with_reducible first|refine hZ _ _ ?_|refine W_rg ?_|skip);repeat1' simp only[push_cast,seval,-Nat.reduceSubDiff])|((repeat((fail_if_success with_reducible refine hK _ _ ?_);clear hK K));with_reducible refine hK _ _ ?_;clear hK K))
  refine (does_c h9t hg2 hS2 hM2 nP (t := tok19 3 (rwName k)) (av := .slice none 0 0) (SlAt.nil _ _).rd (t300_tok hn300).sm o4).mono ?_
  rintro v w10 ⟨h10, _⟩
  replace h10 : BuAt w2 w10 noP pb ps pl pa (rw5 k s) := h10
  have ok5 := (hH5.sz.hdo (m := 6) (by omega)).ok
  have b5 : inI64 ((many : Int) - 1) := by unfold inI64; omega
  (repeat first|(with_reducible first|(refine hK _ _ ?_;clear hK K)|refine ‹∀σ w,_→K σ w› _ _ ?_|(refine W_st ?_;constructor;try intro K hK))|((with_reducible first|refine hZ _ _ ?_|refine W_rg ?_|skip);repeat1' simp only[push_cast,seval,-Nat.reduceSubDiff])|((repeat((fail_if_success with_reducible refine hK _ _ ?_);clear hK K));with_reducible refine hK _ _ ?_;clear hK K))
  refine (barena_c h10).mono ?_
  intro v w' ⟨hv', hw'⟩
  subst hv'; subst w'
  (repeat first|(with_reducible first|(refine hK _ _ ?_;clear hK K)|refine ‹∀σ w,_→K σ w› _ _ ?_|(refine W_st ?_;constructor;try intro K hK))|((with_reducible first|refine hZ _ _ ?_|refine W_rg ?_|skip);repeat1' simp only[push_cast,seval,-Nat.reduceSubDiff,b5])|((repeat((fail_if_success with_reducible refine hK _ _ ?_);clear hK K));with_reducible refine hK _ _ ?_;clear hK K))
  obtain ⟨P10, hA10, _⟩ := h10.ar
  refine (node_a hA10 (by have := ok5.L; omega) ok5.at_ _).mono ?_
  rintro v w11 ⟨m, rfl, em, hok, _, hx11, _, _⟩
  have h11 := h10.pass hx11
  have em' : m.nd = nodeN (rw5 k s).L ((many : Int) - 1) := em
  rw [← em'] at e5
  obtain ⟨nd, hnd⟩ : ∃ nd, nd = m.nd := ⟨_, rfl⟩
  obtain ⟨xa, xn, xc, exa, _, _⟩ := hok.attrs.len
  obtain ⟨ya, yn, yc, eya, _, _⟩ := hok.kids.len
  rw [Laid.val_eq, exa, eya]
  rw [← hnd] at e5 ⊢
  (repeat first|(with_reducible first|(refine hK _ _ ?_;clear hK K)|refine ‹∀σ w,_→K σ w› _ _ ?_|(refine W_st ?_;constructor;try intro K hK))|((with_reducible first|refine hZ _ _ ?_|refine W_rg ?_|skip);repeat1' simp only[push_cast,seval,-Nat.reduceSubDiff,RunV_zero Tryz.zeroValue46,vcells_agg])|((repeat((fail_if_success with_reducible refine hK _ _ ?_);clear hK K));with_reducible refine hK _ _ ?_;clear hK K))
  simp only [can_h, heap_alloc_h, if_true, canO_cells, List.size_toArray, List.length_cons, List.length_nil, Nat.zero_add, Nat.reduceAdd, Nat.reduceLT, true_and]
  obtain ⟨hx12, hp12⟩ := newL w11 #[.int .i64 0, .string ⟨#[]⟩, .string ⟨#[]⟩, .int .i64 0, .slice none 0 0, .bool false, .int .i64 0, .int .i64 0, .slice none 0 0, .int .i64 0, .int .i64 0] [.int .i64 nd.kind, .string nd.name, .string nd.text, .int .i64 nd.space, .slice xa xn xc, .bool nd.dup, .int .i64 nd.parent, .int .i64 nd.content, .slice ya yn yc, .int .i64 nd.frm, .int .i64 nd.to] 46 rfl
  generalize setCells (w11.alloc (.cells #[.int .i64 0, .string ⟨#[]⟩, .string ⟨#[]⟩, .int .i64 0, .slice none 0 0, .bool false, .int .i64 0, .int .i64 0, .slice none 0 0, .int .i64 0, .int .i64 0] 46)) ⟨w11.heap.size, 0, none⟩ [.int .i64 nd.kind, .string nd.name, .string nd.text, .int .i64 nd.space, .slice xa xn xc, .bool nd.dup, .int .i64 nd.parent, .int .i64 nd.content, .slice ya yn yc, .int .i64 nd.frm, .int .i64 nd.to] 0 = w12 at *
  obtain ⟨pn, hpn⟩ : ∃ p, p = w11.heap.size := ⟨_, rfl⟩
  rw [← hpn] at hp12 ⊢
  have h12 := h11.pass hx12
  have lpn := blk_lt hp12
  have cn12 := cell_ext h12.out cn2
  have cs12 := cell_ext h12.out cs
  have lbn := cell_lt cn12
  have lbs := cell_lt cs12
  (repeat first|(with_reducible first|(refine hK _ _ ?_;clear hK K)|refine ‹∀σ w,_→K σ w› _ _ ?_|(refine W_st ?_;constructor;try intro K hK))|((with_reducible first|refine hZ _ _ ?_|refine W_rg ?_|skip);repeat1' simp only[push_cast,seval,-Nat.reduceSubDiff])|((repeat((fail_if_success with_reducible refine hK _ _ ?_);clear hK K));with_reducible refine hK _ _ ?_;clear hK K))
  refine W_draw (.pas 0 (.pas 1 (.pas 2 (.pas 3 (.pas 4 (.pas 5 (.pas 6 (.pas 7 (.pas 8 (.pas 9 (.pas 10 (.pas 11 (.pas 12 (.pas 13 (.pas 14 (.pas 15 (.pas 16 (.pas 17 (.pas 18 (.pas 19 (.pas 20 (.pas 21 (.act 22 (.pas 23 (.pas 24 (.pas 25 (.pas 26 (.act 27 (.act 28 (.pas 29 (.pas 30 (.pas 31 (.pas 32 (.pas 33 (.pas 34 (.pas 35 (.pas 36 (.pas 37 (.pas 38 (.pas 39 (.pas 40 (.pas 41 (.pas 42 (.pas 43 (.pas 44 (.pas 45 (.pas 46 (.pas 47 (.pas 48 (.pas 49 (.act 50 (.pas 51 (.pas 52 .fin))))))))))))))))))))))))))))))))))))))))))))))))))))) (fun q => q = bs ∨ q = bn ∨ q = pn) (by decide) mixed (by kernel_rfl) ?_
  have hxd := Ext.drew w12
  generalize w12.drew = wd at *
  have cnd := cell_ext hxd cn12
  have csd := cell_ext hxd cs12
  have hpd := hxd.blk hp12
  have hsd := hxd.sz
  have hout := (hx02.trans h12.out).trans hxd
  have kp : ∀ {wz : World}, Ext wd wz → ∀ q, (q = bs ∨ q = bn ∨ q = pn) → q < wz.heap.size ∧ ¬ none_ q := fun hz q hq => ⟨by have := hz.sz; rcases hq with hq | hq | hq <;> omega, id⟩
  by_cases hs0 : s = ⟨#[]⟩
  · rw [if_pos hs0] at e5
    have hs0' := eq_true hs0
    · (repeat (first | ((first | refine pas_plain rfl ?_ | refine pas_g rfl rfl ?_ | refine act_plain rfl ?_ | refine act_g rfl rfl ?_ | refine last_plain rfl ?_ | refine tail_plain rfl ?_ | refine tail_g rfl rfl ?_); (repeat simp only [push_cast, seval, -Nat.reduceSubDiff, eq_self, hs0', b3, b4, csd, cnd, true_or, or_true, cell_h, cellO_cells, hpd, e5])) | (refine tail_fin ?_) | (refine sch_fin ?_)))
      refine (bmode_c (h12.pass hxd)).mono ?_
      intro v w' ⟨hv', hw'⟩
      subst hv'; subst w'
      rw [e2]
      refine ⟨kept.refl _ _, ?_⟩
      (repeat (first | ((first | refine pas_plain rfl ?_ | refine pas_g rfl rfl ?_ | refine act_plain rfl ?_ | refine act_g rfl rfl ?_ | refine last_plain rfl ?_ | refine tail_plain rfl ?_ | refine tail_g rfl rfl ?_); (repeat simp only [push_cast, seval, -Nat.reduceSubDiff, eq_self])) | (refine tail_fin ?_) | (refine sch_fin ?_)))
      refine bsl (l := [⟨#[104, 101, 97, 100]⟩]) rfl (by decide) (by decide) (by kernel_rfl) ?_
      rintro v w13 hx13 hn13 ⟨b13, rfl⟩
      refine ⟨kept_upd hx13 (kp (Ext.refl _)), ?_⟩
      (repeat (first | ((first | refine pas_plain rfl ?_ | refine pas_g rfl rfl ?_ | refine act_plain rfl ?_ | refine act_g rfl rfl ?_ | refine last_plain rfl ?_ | refine tail_plain rfl ?_ | refine tail_g rfl rfl ?_); (repeat simp only [push_cast, seval, -Nat.reduceSubDiff, eq_self])) | (refine tail_fin ?_) | (refine sch_fin ?_)))
      refine (bis_c ((h12.pass hxd).pass hx13) ok5 hn13 (show (1 : Nat) < 1000000000 by decide)).mono ?_
      rintro v w14 ⟨rfl, hx14⟩
      rw [show isB (rw5 k s) [⟨#[104, 101, 97, 100]⟩] = true from e3]
      refine ⟨kept_upd hx14 (kp hx13), ?_⟩
      have hp14 := hx14.blk (hx13.blk hpd)
      have cn14 := cell_ext hx14 (cell_ext hx13 cnd)
      rw [cell_h] at cn14
      (repeat (first | ((first | refine pas_plain rfl ?_ | refine pas_g rfl rfl ?_ | refine act_plain rfl ?_ | refine act_g rfl rfl ?_ | refine last_plain rfl ?_ | refine tail_plain rfl ?_ | refine tail_g rfl rfl ?_); (repeat simp only [push_cast, seval, -Nat.reduceSubDiff, eq_self, true_or, or_true, cell_h, cellO_cells, hs0', e5, hp14, cn14, b3, b4])) | (refine tail_fin ?_) | (refine sch_fin ?_)))
      refine (begins_c ((hg.ext hout).ext (hx13.trans hx14)) ((hS.ext hout).ext (hx13.trans hx14)) ((hM.ext hout).ext (hx13.trans hx14))).mono ?_
      rintro v w15 ⟨rfl, hx15⟩
      refine ⟨kept_upd hx15 (kp (hx13.trans hx14)), ?_⟩
      (repeat (first | ((first | refine pas_plain rfl ?_ | refine pas_g rfl rfl ?_ | refine act_plain rfl ?_ | refine act_g rfl rfl ?_ | refine last_plain rfl ?_ | refine tail_plain rfl ?_ | refine tail_g rfl rfl ?_); (repeat simp only [push_cast, seval, -Nat.reduceSubDiff, eq_self])) | (refine tail_fin ?_) | (refine sch_fin ?_)))
      (repeat first|(with_reducible first|(refine hK _ _ ?_;clear hK K)|refine ‹∀σ w,_→K σ w› _ _ ?_|(refine W_st ?_;constructor;try intro K hK))|((with_reducible first|refine hZ _ _ ?_|refine W_rg ?_|skip);repeat1' simp only[push_cast,seval,-Nat.reduceSubDiff])|((repeat((fail_if_success with_reducible refine hK _ _ ?_);clear hK K));with_reducible refine hK _ _ ?_;clear hK K))
      exact hout.trans ((hx13.trans hx14).trans hx15)
  · rw [if_neg hs0] at e5
    have hs0' := eq_false hs0
    · (repeat (first | ((first | refine pas_plain rfl ?_ | refine pas_g rfl rfl ?_ | refine act_plain rfl ?_ | refine act_g rfl rfl ?_ | refine last_plain rfl ?_ | refine tail_plain rfl ?_ | refine tail_g rfl rfl ?_); (repeat simp only [push_cast, seval, -Nat.reduceSubDiff, eq_self, b3, b4, csd, cnd, true_or, or_true, cell_h, cellO_cells, hpd, hs0', e5])) | (refine tail_fin ?_) | (refine sch_fin ?_)))
      refine (bmode_c (h12.pass hxd)).mono ?_
      intro v w' ⟨hv', hw'⟩
      subst hv'; subst w'
      rw [e2]
      refine ⟨kept.refl _ _, ?_⟩
      (repeat (first | ((first | refine pas_plain rfl ?_ | refine pas_g rfl rfl ?_ | refine act_plain rfl ?_ | refine act_g rfl rfl ?_ | refine last_plain rfl ?_ | refine tail_plain rfl ?_ | refine tail_g rfl rfl ?_); (repeat simp only [push_cast, seval, -Nat.reduceSubDiff, eq_self])) | (refine tail_fin ?_) | (refine sch_fin ?_)))
      refine bsl (l := [⟨#[104, 101, 97, 100]⟩]) rfl (by decide) (by decide) (by kernel_rfl) ?_
      rintro v w13 hx13 hn13 ⟨b13, rfl⟩
      refine ⟨kept_upd hx13 (kp (Ext.refl _)), ?_⟩
      (repeat (first | ((first | refine pas_plain rfl ?_ | refine pas_g rfl rfl ?_ | refine act_plain rfl ?_ | refine act_g rfl rfl ?_ | refine last_plain rfl ?_ | refine tail_plain rfl ?_ | refine tail_g rfl rfl ?_); (repeat simp only [push_cast, seval, -Nat.reduceSubDiff, eq_self])) | (refine tail_fin ?_) | (refine sch_fin ?_)))
      refine (bis_c ((h12.pass hxd).pass hx13) ok5 hn13 (show (1 : Nat) < 1000000000 by decide)).mono ?_
      rintro v w14 ⟨rfl, hx14⟩
      rw [show isB (rw5 k s) [⟨#[104, 101, 97, 100]⟩] = true from e3]
      refine ⟨kept_upd hx14 (kp hx13), ?_⟩
      have hp14 := hx14.blk (hx13.blk hpd)
      have cn14 := cell_ext hx14 (cell_ext hx13 cnd)
      rw [cell_h] at cn14
      (repeat (first | ((first | refine pas_plain rfl ?_ | refine pas_g rfl rfl ?_ | refine act_plain rfl ?_ | refine act_g rfl rfl ?_ | refine last_plain rfl ?_ | refine tail_plain rfl ?_ | refine tail_g rfl rfl ?_); (repeat simp only [push_cast, seval, -Nat.reduceSubDiff, eq_self, true_or, or_true, cell_h, cellO_cells, hs0', e5, hp14, cn14, b3, b4])) | (refine tail_fin ?_) | (refine sch_fin ?_)))
      refine (begins_c ((hg.ext hout).ext (hx13.trans hx14)) ((hS.ext hout).ext (hx13.trans hx14)) ((hM.ext hout).ext (hx13.trans hx14))).mono ?_
      rintro v w15 ⟨rfl, hx15⟩
      refine ⟨kept_upd hx15 (kp (hx13.trans hx14)), ?_⟩
      (repeat (first | ((first | refine pas_plain rfl ?_ | refine pas_g rfl rfl ?_ | refine act_plain rfl ?_ | refine act_g rfl rfl ?_ | refine last_plain rfl ?_ | refine tail_plain rfl ?_ | refine tail_g rfl rfl ?_); (repeat simp only [push_cast, seval, -Nat.reduceSubDiff, eq_self])) | (refine tail_fin ?_) | (refine sch_fin ?_)))
      (repeat first|(with_reducible first|(refine hK _ _ ?_;clear hK K)|refine ‹∀σ w,_→K σ w› _ _ ?_|(refine W_st ?_;constructor;try intro K hK))|((with_reducible first|refine hZ _ _ ?_|refine W_rg ?_|skip);repeat1' simp only[push_cast,seval,-Nat.reduceSubDiff])|((repeat((fail_if_success with_reducible refine hK _ _ ?_);clear hK K));with_reducible refine hK _ _ ?_;clear hK K))
      exact hout.trans ((hx13.trans hx14).trans hx15)
end Go.Proofs.YtgnnlaeikcnhcaaGreatDoor
end
section
set_option linter.unusedSimpArgs false
set_option linter.unusedVariables false
namespace Go.Proofs.YtgnnlaeikcnhcaaGreatDoor
open Go Go.Vk Go.RowKit Go.Extern.Stop Go.Stop Go.Extern
def hv (t : Nat) : Value := .pointer (some ⟨5, t, none⟩)
end Go.Proofs.YtgnnlaeikcnhcaaGreatDoor
end
section
set_option linter.unusedSimpArgs false
set_option linter.unusedVariables false
namespace Go.Proofs.YtgnnlaeikcnhcaaGreatDoor
open Go Go.Vk Go.RowKit
/-- the error's type, as it lies -/
def ET (w : World) : Prop := w.cell? ⟨1, 0, none⟩ = some (.iface 192 (.agg #[.pointer (some ⟨5, 65, none⟩)]))
theorem ET.ext {w w' : World} (h : ET w) (hx : Ext w w') : ET w' := cell_ext hx h
set_option maxHeartbeats 40000000
end Go.Proofs.YtgnnlaeikcnhcaaGreatDoor
end
section
set_option linter.unusedSimpArgs false
set_option linter.unusedVariables false
namespace Go.Vk
theorem and_split {a b : Bool} (ha : a = true) (hb : b = true) : (a && b) = true := by rw [ha, hb]; rfl
end Go.Vk
end
section
set_option linter.unusedSimpArgs false
set_option linter.unusedVariables false
namespace Go.Vk
open Go Go.RowKit Go.WideShapes Go.ChangeShapes
structure AcF where
  kd : Int
  i : Int
  j : Int
def AcF.cells (x : AcF) : List Value := [.int .u8 x.kd, .int .i64 x.i, .int .i64 x.j]
end Go.Vk
end
