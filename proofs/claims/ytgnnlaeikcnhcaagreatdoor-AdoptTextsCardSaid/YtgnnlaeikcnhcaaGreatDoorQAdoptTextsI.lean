/- What the proof leans on, part 9 of 10. -/
import Derived.Test.YtgnnlaeikcnhcaaGreatDoorQAdoptTextsH
section
set_option linter.unusedSimpArgs false
set_option linter.unusedVariables false
namespace Go.Vk
open Go Go.Proofs.YtgnnlaeikcnhcaaGreatDoor
def adNames : List ByteArray := [⟨#[98]⟩, ⟨#[105]⟩, ⟨#[117]⟩, ⟨#[101, 109]⟩, ⟨#[97]⟩, ⟨#[110, 111, 98, 114]⟩, ⟨#[100, 105, 118]⟩, ⟨#[112]⟩, ⟨#[115, 112, 97, 110]⟩, ⟨#[99, 101, 110, 116, 101, 114]⟩]
def adName (k : Nat) : ByteArray := adNames.getD k ⟨#[]⟩
def op1 (b : BSt) (x : Nat) : BSt := (implyB b (adName (x % 10))).1
def opI (b : BSt) (x : Nat) : Int := (implyB b (adName (x % 10))).2
def op2 (b : BSt) (x : Nat) : BSt := if x % 10 < 6 then { op1 b x with l := (pushN (op1 b x).L (op1 b x).l (opI b x)).1 } else op1 b x
def opC (i : Nat) : ByteArray := ⟨#[UInt8.ofNat (97 + i % 26)]⟩
def opS (b : BSt) (i x : Nat) : BSt := charsB (op2 b x) (opC i)
def opB : Nat → List Nat → BSt
  | 0, _ => gb2
  | n + 1, l => opS (opB n l) n (l.getD n 0)
/-- what each step asks -/
structure OpOk (b : BSt) (x : Nat) : Prop where
  ok : okB b
  L : b.L.length + 2 < 90000
  push : x % 10 < 6 → (pushN (op1 b x).L (op1 b x).l (opI b x)).2 = 0
  ok1 : okB (op1 b x)
  ok2 : okB (op2 b x)
  txt : ∀ n ∈ (op2 b x).L, n.text.size < 1000000000
end Go.Vk
namespace Go.Proofs.YtgnnlaeikcnhcaaGreatDoor
open Go Go.Vk
set_option maxHeartbeats 40000000
theorem names_c {w : World} : Gives Tryz.prog 51 #[] w fun v w' => Ext w w' ∧ RdAt w' 1 v (strCells adNames) ∧ ∃ b, v = .slice (some ⟨b, 0, none⟩) 10 10 ∧ w.heap.size ≤ b := by
  refine Gives.of_W Tryz.call51 Tryz.func51 rfl Tryz.ntmps51 (by simp) ?_; intro Z hZ
  (repeat first|(with_reducible first|(refine hK _ _ ?_;clear hK K)|refine ‹∀σ w,_→K σ w› _ _ ?_|(refine W_st ?_;constructor;try intro K hK))|((with_reducible first|refine hZ _ _ ?_|refine W_rg ?_|skip);repeat1' simp only[push_cast,seval,-Nat.reduceSubDiff])|((repeat((fail_if_success with_reducible refine hK _ _ ?_);clear hK K));with_reducible refine hK _ _ ?_;clear hK K))
  refine bs_of styS (n := 10) (by omega) (by omega) Tryz.zeroValue9 (cs := (strCells adNames).toArray) (by kernel_rfl) ?_
  have hx := Ext.alloc w (.cells (strCells adNames).toArray 9)
  have hr := (SlAt.new w 1 (strCells adNames).toArray 9 10 (by simp [strCells, adNames])).rd
  generalize w.alloc (.cells (strCells adNames).toArray 9) = w1 at *
  (repeat first|(with_reducible first|(refine hK _ _ ?_;clear hK K)|refine ‹∀σ w,_→K σ w› _ _ ?_|(refine W_st ?_;constructor;try intro K hK))|((with_reducible first|refine hZ _ _ ?_|refine W_rg ?_|skip);repeat1' simp only[push_cast,seval,-Nat.reduceSubDiff])|((repeat((fail_if_success with_reducible refine hK _ _ ?_);clear hK K));with_reducible refine hK _ _ ?_;clear hK K))
  exact ⟨hx, by simpa using hr, _, rfl, Nat.le_refl _⟩
set_option maxHeartbeats 1000000 in
theorem opened_c {w0 : World} {v0 : Value} {l : List Nat} (hv : RdAt w0 1 v0 (u8Cells l)) (hb : ∀ c ∈ l, c < 256) (hl : l.length < 1000) (hok : ∀ i x, l[i]? = some x → OpOk (opB i l) x) :
    Gives Tryz.prog 66 #[v0] w0 fun v w' => ∃ pb ps pl pa, v = .pointer (some ⟨pb, 0, none⟩) ∧ BuAt w0 w' noP pb ps pl pa (opB l.length l) := by
  obtain ⟨va, vc, rfl, hvc, hcell⟩ := u8_len hv
  obtain ⟨k0, j0, _⟩ := okb_ok okg0
  obtain ⟨k1, j1, _⟩ := okb_ok okg1
  refine Gives.of_W Tryz.call66 Tryz.func66 rfl Tryz.ntmps66 (by simp) ?_; intro Z hZ
  (repeat first|(with_reducible first|(refine hK _ _ ?_;clear hK K)|refine ‹∀σ w,_→K σ w› _ _ ?_|(refine W_st ?_;constructor;try intro K hK))|((with_reducible first|refine hZ _ _ ?_|refine W_rg ?_|skip);repeat1' simp only[push_cast,seval,-Nat.reduceSubDiff])|((repeat((fail_if_success with_reducible refine hK _ _ ?_);clear hK K));with_reducible refine hK _ _ ?_;clear hK K))
  refine bnew_c.mono ?_
  rintro v w1 ⟨pb, ps, pl, pa, rfl, h0⟩
  (repeat first|(with_reducible first|(refine hK _ _ ?_;clear hK K)|refine ‹∀σ w,_→K σ w› _ _ ?_|(refine W_st ?_;constructor;try intro K hK))|((with_reducible first|refine hZ _ _ ?_|refine W_rg ?_|skip);repeat1' simp only[push_cast,seval,-Nat.reduceSubDiff])|((repeat((fail_if_success with_reducible refine hK _ _ ?_);clear hK K));with_reducible refine hK _ _ ?_;clear hK K))
  refine (bimply_c h0 k0 j0 nP _).mono ?_
  rintro v w2 ⟨rfl, h1, -⟩
  replace h1 : BuAt w0 w2 noP pb ps pl pa gb1 := h1
  (repeat first|(with_reducible first|(refine hK _ _ ?_;clear hK K)|refine ‹∀σ w,_→K σ w› _ _ ?_|(refine W_st ?_;constructor;try intro K hK))|((with_reducible first|refine hZ _ _ ?_|refine W_rg ?_|skip);repeat1' simp only[push_cast,seval,-Nat.reduceSubDiff])|((repeat((fail_if_success with_reducible refine hK _ _ ?_);clear hK K));with_reducible refine hK _ _ ?_;clear hK K))
  refine (bimply_c h1 k1 j1 nP _).mono ?_
  rintro v w3 ⟨rfl, h2, -⟩
  replace h2 : BuAt w0 w3 noP pb ps pl pa (opB 0 l) := h2
  (repeat first|(with_reducible first|(refine hK _ _ ?_;clear hK K)|refine ‹∀σ w,_→K σ w› _ _ ?_|(refine W_st ?_;constructor;try intro K hK))|((with_reducible first|refine hZ _ _ ?_|refine W_rg ?_|skip);repeat1' simp only[push_cast,seval,-Nat.reduceSubDiff])|((repeat((fail_if_success with_reducible refine hK _ _ ?_);clear hK K));with_reducible refine hK _ _ ?_;clear hK K))
  refine W_loop (S := Nat) (fun k => [(0, .slice va l.length vc), (3, .pointer (some ⟨pb, 0, none⟩)), (4, .int .i64 (k : Int))])
    (fun k w4 => k ≤ l.length ∧ BuAt w0 w4 noP pb ps pl pa (opB k l)) (fun k => l.length - k) 0 ?_ ?_ ?_
  · (repeat simp only [push_cast, seval, -Nat.reduceSubDiff])
  · exact ⟨by omega, h2⟩
  rintro k w4 ⟨hk, h4⟩
  by_cases hkl : k < l.length
  · obtain ⟨x, hx⟩ : ∃ x, l[k]? = some x := ⟨_, List.getElem?_eq_getElem hkl⟩
    have hO := hok k x hx
    have hx256 := hb x (List.mem_of_getElem? hx)
    obtain ⟨y, hy⟩ : ∃ y, y = x % 10 := ⟨_, rfl⟩
    have hy10 : y < 10 := by rw [hy]; exact Nat.mod_lt _ (by decide)
    have hyt : Int.tmod (x : Int) 10 = (y : Int) := by
      rw [hy, Int.tmod_eq_emod_of_nonneg (by omega)]; omega
    have hw : IntKind.i64.wrap (x : Int) = x := wrap_in (by unfold inI64; omega)
    obtain ⟨bx, ox, rfl, hc⟩ := hcell k x hx
    have b0 : (k : Int) < (l.length : Int) := by omega
    have b1 : (0 : Int) ≤ (k : Int) := by omega
    have b2 : inI64 ((k : Int) + 1) := by unfold inI64; omega
    have b3 : (0 : Int) ≤ (y : Int) := by omega
    have b4 : (y : Int) < 10 := by omega
    have c10 : ((10 : Int) = 0) = False := by decide
    have c26 : ((26 : Int) = 0) = False := by decide
    obtain ⟨nm, hnm⟩ : ∃ nm, adNames[y]? = some nm := ⟨_, List.getElem?_eq_getElem (show y < 10 from hy10)⟩
    have hnm2 : adName (x % 10) = nm := by unfold adName; rw [← hy, List.getD_eq_getElem?_getD, hnm]; rfl
    have hc4 := cell_ext h4.out hc
    have lbx : bx < w4.heap.size := cell_lt hc4
    (repeat first|(with_reducible first|(refine hK _ _ ?_;clear hK K)|refine ‹∀σ w,_→K σ w› _ _ ?_|(refine W_st ?_;constructor;try intro K hK))|((with_reducible first|refine hZ _ _ ?_|refine W_rg ?_|skip);repeat1' simp only[push_cast,seval,-Nat.reduceSubDiff,b0,b1])|((repeat((fail_if_success with_reducible refine hK _ _ ?_);clear hK K));with_reducible refine hK _ _ ?_;clear hK K))
    refine W_draw (.pas 0 (.pas 1 (.pas 2 (.pas 3 (.pas 4 (.act 5 (.pas 6 (.pas 7 (.pas 8 .fin))))))))) (fun q => q = bx) (by decide) mixed (by kernel_rfl) ?_
    have hxd := Ext.drew w4
    generalize w4.drew = wd at *
    have hcd := cell_ext hxd hc4
    have hsd := hxd.sz
    (repeat (first | ((first | refine pas_plain rfl ?_ | refine pas_g rfl rfl ?_ | refine act_plain rfl ?_ | refine act_g rfl rfl ?_ | refine last_plain rfl ?_ | refine tail_plain rfl ?_ | refine tail_g rfl rfl ?_); (repeat simp only [push_cast, seval, -Nat.reduceSubDiff, eq_self, b0, b1, hcd, hw])) | (refine tail_fin ?_) | (refine sch_fin ?_)))
    refine names_c.mono ?_
    rintro v w5 ⟨hx5, hr5, bn, rfl, hbn⟩
    refine ⟨kept_upd hx5 fun q hq => ⟨by have : q = bx := hq; omega, id⟩, ?_⟩
    have hx45 := hxd.trans hx5
    (repeat (first | ((first | refine pas_plain rfl ?_ | refine pas_g rfl rfl ?_ | refine act_plain rfl ?_ | refine act_g rfl rfl ?_ | refine last_plain rfl ?_ | refine tail_plain rfl ?_ | refine tail_g rfl rfl ?_); (repeat simp only [push_cast, seval, -Nat.reduceSubDiff, eq_self, hyt, c10])) | (refine tail_fin ?_) | (refine sch_fin ?_)))
    (repeat first|(with_reducible first|(refine hK _ _ ?_;clear hK K)|refine ‹∀σ w,_→K σ w› _ _ ?_|(refine W_st ?_;constructor;try intro K hK))|((with_reducible first|refine hZ _ _ ?_|refine W_rg ?_|skip);repeat1' simp only[push_cast,seval,-Nat.reduceSubDiff])|((repeat((fail_if_success with_reducible refine hK _ _ ?_);clear hK K));with_reducible refine hK _ _ ?_;clear hK K))
    refine names_c.mono ?_
    rintro v w6 ⟨hx6, hr6, bn6, rfl, hbn6⟩
    have n6 := rd_str hr6 (Ext.refl _) hnm
    have hx46 := hx45.trans hx6
    have h6 := h4.pass hx46
    (repeat first|(with_reducible first|(refine hK _ _ ?_;clear hK K)|refine ‹∀σ w,_→K σ w› _ _ ?_|(refine W_st ?_;constructor;try intro K hK))|((with_reducible first|refine hZ _ _ ?_|refine W_rg ?_|skip);repeat1' simp only[push_cast,seval,-Nat.reduceSubDiff,b3,b4,n6])|((repeat((fail_if_success with_reducible refine hK _ _ ?_);clear hK K));with_reducible refine hK _ _ ?_;clear hK K))
    refine (bimply_c h6 hO.ok hO.L nP nm).mono ?_
    rintro v w7 ⟨rfl, h7, -⟩
    rw [← hnm2] at h7 ⊢
    replace h7 : BuAt w0 w7 noP pb ps pl pa (op1 (opB k l) x) := h7
    rw [show (implyB (opB k l) (adName (x % 10))).2 = opI (opB k l) x from rfl]
    have d1 : Int.tmod (k : Int) 26 = ((k % 26 : Nat) : Int) := by
      rw [Int.tmod_eq_emod_of_nonneg (by omega)]; omega
    obtain ⟨z, hz⟩ : ∃ z, z = k % 26 := ⟨_, rfl⟩
    have hz26 : z < 26 := by rw [hz]; exact Nat.mod_lt _ (by decide)
    rw [← hz] at d1
    have d2 : inI64 (97 + (z : Int)) := by unfold inI64; omega
    have d3 : IntKind.u8.wrap (97 + (z : Int)) = ((UInt8.ofNat (97 + z)).toNat : Int) := by
      have : ∀ k, k < 26 → IntKind.u8.wrap (97 + ((k : Nat) : Int)) = ((UInt8.ofNat (97 + k)).toNat : Int) := by decide +kernel
      exact this z hz26
    have hS : opB (k + 1) l = charsB (op2 (opB k l) x) ⟨#[UInt8.ofNat (97 + z)]⟩ := by
      rw [opB, opS, opC, ← hz, List.getD_eq_getElem?_getD, hx]; rfl
    by_cases h6' : y < 6
    · have g6 : (y : Int) < 6 := by omega
      have e2 : op2 (opB k l) x = { op1 (opB k l) x with l := (pushN (op1 (opB k l) x).L (op1 (opB k l) x).l (opI (opB k l) x)).1 } := by unfold op2; rw [if_pos (by omega)]
      (repeat first|(with_reducible first|(refine hK _ _ ?_;clear hK K)|refine ‹∀σ w,_→K σ w› _ _ ?_|(refine W_st ?_;constructor;try intro K hK))|((with_reducible first|refine hZ _ _ ?_|refine W_rg ?_|skip);repeat1' simp only[push_cast,seval,-Nat.reduceSubDiff,g6])|((repeat((fail_if_success with_reducible refine hK _ _ ?_);clear hK K));with_reducible refine hK _ _ ?_;clear hK K))
      refine (bforms_c h7).mono ?_
      intro v w' ⟨hv, hw⟩
      subst hv; subst w'
      (repeat first|(with_reducible first|(refine hK _ _ ?_;clear hK K)|refine ‹∀σ w,_→K σ w› _ _ ?_|(refine W_st ?_;constructor;try intro K hK))|((with_reducible first|refine hZ _ _ ?_|refine W_rg ?_|skip);repeat1' simp only[push_cast,seval,-Nat.reduceSubDiff])|((repeat((fail_if_success with_reducible refine hK _ _ ?_);clear hK K));with_reducible refine hK _ _ ?_;clear hK K))
      refine (bfpush_c h7 hO.ok1 _).mono ?_
      rintro v w8 ⟨rfl, h8, -⟩
      rw [← e2] at h8
      rw [hO.push (by omega)]
      (repeat first|(with_reducible first|(refine hK _ _ ?_;clear hK K)|refine ‹∀σ w,_→K σ w› _ _ ?_|(refine W_st ?_;constructor;try intro K hK))|((with_reducible first|refine hZ _ _ ?_|refine W_rg ?_|skip);repeat1' simp only[push_cast,seval,-Nat.reduceSubDiff,eq_self,not_true_eq_false,c26,d1,d2,d3])|((repeat((fail_if_success with_reducible refine hK _ _ ?_);clear hK K));with_reducible refine hK _ _ ?_;clear hK K))
      refine one_byte _ fun b1_ w9 hx9 hb9 => ?_
      (repeat first|(with_reducible first|(refine hK _ _ ?_;clear hK K)|refine ‹∀σ w,_→K σ w› _ _ ?_|(refine W_st ?_;constructor;try intro K hK))|((with_reducible first|refine hZ _ _ ?_|refine W_rg ?_|skip);repeat1' simp only[push_cast,seval,-Nat.reduceSubDiff])|((repeat((fail_if_success with_reducible refine hK _ _ ?_);clear hK K));with_reducible refine hK _ _ ?_;clear hK K))
      refine one_text hb9 ?_
      (repeat first|(with_reducible first|(refine hK _ _ ?_;clear hK K)|refine ‹∀σ w,_→K σ w› _ _ ?_|(refine W_st ?_;constructor;try intro K hK))|((with_reducible first|refine hZ _ _ ?_|refine W_rg ?_|skip);repeat1' simp only[push_cast,seval,-Nat.reduceSubDiff])|((repeat((fail_if_success with_reducible refine hK _ _ ?_);clear hK K));with_reducible refine hK _ _ ?_;clear hK K))
      refine (bchars_c (h8.pass hx9) hO.ok2 ⟨#[UInt8.ofNat (97 + z)]⟩ (show (1 : Nat) < 1000000000 by decide) hO.txt).mono ?_
      rintro v w10 ⟨h10, -⟩
      (repeat first|(with_reducible first|(refine hK _ _ ?_;clear hK K)|refine ‹∀σ w,_→K σ w› _ _ ?_|(refine W_st ?_;constructor;try intro K hK))|((with_reducible first|refine hZ _ _ ?_|refine W_rg ?_|skip);repeat1' simp only[push_cast,seval,-Nat.reduceSubDiff,b2])|((repeat((fail_if_success with_reducible refine hK _ _ ?_);clear hK K));with_reducible refine hK _ _ ?_;clear hK K))
      refine ⟨k + 1, by omega, ?_⟩
      (repeat simp only [push_cast, seval, -Nat.reduceSubDiff])
      exact ⟨by omega, by rw [hS]; exact h10⟩
    · have g6 : ¬ (y : Int) < 6 := by omega
      have e2 : op2 (opB k l) x = op1 (opB k l) x := by unfold op2; rw [if_neg (by omega)]
      rw [← e2] at h7
      (repeat first|(with_reducible first|(refine hK _ _ ?_;clear hK K)|refine ‹∀σ w,_→K σ w› _ _ ?_|(refine W_st ?_;constructor;try intro K hK))|((with_reducible first|refine hZ _ _ ?_|refine W_rg ?_|skip);repeat1' simp only[push_cast,seval,-Nat.reduceSubDiff,g6,c26,d1,d2,d3])|((repeat((fail_if_success with_reducible refine hK _ _ ?_);clear hK K));with_reducible refine hK _ _ ?_;clear hK K))
      refine one_byte _ fun b1_ w9 hx9 hb9 => ?_
      (repeat first|(with_reducible first|(refine hK _ _ ?_;clear hK K)|refine ‹∀σ w,_→K σ w› _ _ ?_|(refine W_st ?_;constructor;try intro K hK))|((with_reducible first|refine hZ _ _ ?_|refine W_rg ?_|skip);repeat1' simp only[push_cast,seval,-Nat.reduceSubDiff])|((repeat((fail_if_success with_reducible refine hK _ _ ?_);clear hK K));with_reducible refine hK _ _ ?_;clear hK K))
      refine one_text hb9 ?_
      (repeat first|(with_reducible first|(refine hK _ _ ?_;clear hK K)|refine ‹∀σ w,_→K σ w› _ _ ?_|(refine W_st ?_;constructor;try intro K hK))|((with_reducible first|refine hZ _ _ ?_|refine W_rg ?_|skip);repeat1' simp only[push_cast,seval,-Nat.reduceSubDiff])|((repeat((fail_if_success with_reducible refine hK _ _ ?_);clear hK K));with_reducible refine hK _ _ ?_;clear hK K))
      refine (bchars_c (h7.pass hx9) hO.ok2 ⟨#[UInt8.ofNat (97 + z)]⟩ (show (1 : Nat) < 1000000000 by decide) hO.txt).mono ?_
      rintro v w10 ⟨h10, -⟩
      (repeat first|(with_reducible first|(refine hK _ _ ?_;clear hK K)|refine ‹∀σ w,_→K σ w› _ _ ?_|(refine W_st ?_;constructor;try intro K hK))|((with_reducible first|refine hZ _ _ ?_|refine W_rg ?_|skip);repeat1' simp only[push_cast,seval,-Nat.reduceSubDiff,b2])|((repeat((fail_if_success with_reducible refine hK _ _ ?_);clear hK K));with_reducible refine hK _ _ ?_;clear hK K))
      refine ⟨k + 1, by omega, ?_⟩
      (repeat simp only [push_cast, seval, -Nat.reduceSubDiff])
      exact ⟨by omega, by rw [hS]; exact h10⟩
  · have hke : k = l.length := by omega
    subst hke
    have b0 : ¬ (l.length : Int) < (l.length : Int) := by omega
    (repeat first|(with_reducible first|(refine hK _ _ ?_;clear hK K)|refine ‹∀σ w,_→K σ w› _ _ ?_|(refine W_st ?_;constructor;try intro K hK))|((with_reducible first|refine hZ _ _ ?_|refine W_rg ?_|skip);repeat1' simp only[push_cast,seval,-Nat.reduceSubDiff,b0])|((repeat((fail_if_success with_reducible refine hK _ _ ?_);clear hK K));with_reducible refine hK _ _ ?_;clear hK K))
    exact ⟨pb, rfl, ps, pl, pa, h4⟩
end Go.Proofs.YtgnnlaeikcnhcaaGreatDoor
end
section
set_option linter.unusedSimpArgs false
set_option linter.unusedVariables false
namespace Go.Vk
open Go
def txK (f : Int → ByteArray) : List Int → ByteArray → ByteArray
  | [], s => s
  | k :: r, s => txK f r (s ++ f k)
def txF (L : List Nd) : Nat → Int → ByteArray
  | 0, _ => ⟨#[]⟩
  | n + 1, i => if i < 0 ∨ (L.length : Int) ≤ i then ⟨#[]⟩ else txK (txF L n) (gN L i).kids (gN L i).text
/-- so deep it goes, and no text is too large -/
def txD (L : List Nd) : Nat → Int → Bool
  | 0, _ => false
  | n + 1, i => if i < 0 ∨ (L.length : Int) ≤ i then true else decide ((txF L (n + 1) i).size < 1000000) && (decide ((gN L i).kids.length < 1000000) && (gN L i).kids.all (txD L n))
theorem txK_size (f : Int → ByteArray) : ∀ (l : List Int) (s : ByteArray), s.size ≤ (txK f l s).size
  | [], s => Nat.le_refl _
  | k :: l, s => by
    rw [txK]
    have := txK_size f l (s ++ f k)
    rw [ByteArray.size_append] at this
    omega
end Go.Vk
namespace Go.Proofs.YtgnnlaeikcnhcaaGreatDoor
open Go Go.Vk
set_option maxHeartbeats 40000000
set_option maxRecDepth 10000 in
theorem texts_c {w : World} {v : Value} {T : List Laid} {bo : Option Nat} (hT : NdsAt w v T bo) (hb : T.length < 100000) : ∀ (n : Nat) (i : Int), txD (T.map Laid.nd) n i = true →
    Gives Tryz.prog 67 #[v, .int .i64 i] w fun u w' => u = .string (txF (T.map Laid.nd) n i) ∧ w' = w
  | 0, _, h => by simp [txD] at h
  | n + 1, i, h => by
    obtain ⟨a, c, rfl, hc⟩ := hT.len
    have hN : (T.map Laid.nd).length = T.length := by simp
    obtain ⟨S, hS⟩ : ∃ S, S = txF (T.map Laid.nd) (n + 1) i := ⟨_, rfl⟩
    rw [← hS]
    rw [txF, hN] at hS
    by_cases h0 : i < 0
    · rw [if_pos (.inl h0)] at hS
      subst hS
      refine Gives.of_W Tryz.call67 Tryz.func67 rfl Tryz.ntmps67 (by simp) ?_; intro Z hZ
      (repeat first|(with_reducible first|(refine hK _ _ ?_;clear hK K)|refine ‹∀σ w,_→K σ w› _ _ ?_|(refine W_st ?_;constructor;try intro K hK))|((with_reducible first|refine hZ _ _ ?_|refine W_rg ?_|skip);repeat1' simp only[push_cast,seval,-Nat.reduceSubDiff,h0])|((repeat((fail_if_success with_reducible refine hK _ _ ?_);clear hK K));with_reducible refine hK _ _ ?_;clear hK K))
    by_cases h1 : (T.length : Int) ≤ i
    · rw [if_pos (.inr h1)] at hS
      subst hS
      refine Gives.of_W Tryz.call67 Tryz.func67 rfl Tryz.ntmps67 (by simp) ?_; intro Z hZ
      (repeat first|(with_reducible first|(refine hK _ _ ?_;clear hK K)|refine ‹∀σ w,_→K σ w› _ _ ?_|(refine W_st ?_;constructor;try intro K hK))|((with_reducible first|refine hZ _ _ ?_|refine W_rg ?_|skip);repeat1' simp only[push_cast,seval,-Nat.reduceSubDiff,h0,h1])|((repeat((fail_if_success with_reducible refine hK _ _ ?_);clear hK K));with_reducible refine hK _ _ ?_;clear hK K))
    rw [if_neg (by omega)] at hS
    obtain ⟨j, rfl⟩ : ∃ j : Nat, i = j := ⟨i.toNat, by omega⟩
    have hj : j < T.length := by omega
    obtain ⟨m, hm⟩ : ∃ m, T[j]? = some m := ⟨_, List.getElem?_eq_getElem hj⟩
    have hg : gN (T.map Laid.nd) j = m.nd := gN_nat (by rw [List.getElem?_map, hm]; rfl)
    rw [txD, hN, if_neg (by omega), hg] at h
    simp only [Bool.and_eq_true, decide_eq_true_eq] at h
    obtain ⟨hsz, hkl9, hks⟩ := h
    rw [hg] at hS
    have hSz : S.size < 1000000 := by
      have e : txF (T.map Laid.nd) (n + 1) j = S := by rw [txF, hN, if_neg (by omega), hg, hS]
      rw [e] at hsz; exact hsz
    obtain ⟨b, o, n', c', e, _⟩ := hT.sl.some_of (by intro e; have := flat_length T; rw [e] at this; simp at this; omega)
    cases e
    have c2 := hT.get hm (j := 2) (by decide)
    have c8 := hT.get hm (j := 8) (by decide)
    simp only [Laid.cells, List.getElem?_cons_zero, List.getElem?_cons_succ] at c2 c8
    have hkk := (hT.ok m (List.mem_of_getElem? hm)).kids
    obtain ⟨ka, kc, ekv, _⟩ := hkk.ints_len
    rw [ekv] at c8 hkk
    have b0 : (0 : Int) ≤ (j : Int) := by omega
    have b1 : (j : Int) < (T.length : Int) := by omega
    refine Gives.of_W Tryz.call67 Tryz.func67 rfl Tryz.ntmps67 (by simp) ?_; intro Z hZ
    (repeat first|(with_reducible first|(refine hK _ _ ?_;clear hK K)|refine ‹∀σ w,_→K σ w› _ _ ?_|(refine W_st ?_;constructor;try intro K hK))|((with_reducible first|refine hZ _ _ ?_|refine W_rg ?_|skip);repeat1' simp only[push_cast,seval,-Nat.reduceSubDiff,h0,h1,b0,b1,c2])|((repeat((fail_if_success with_reducible refine hK _ _ ?_);clear hK K));with_reducible refine hK _ _ ?_;clear hK K))
    refine W_loop (S := Nat × ByteArray) (fun z => [(0, .slice (some ⟨b, o, none⟩) T.length c), (1, .int .i64 (j : Int)), (5, .string z.2), (6, .int .i64 (z.1 : Int))])
      (fun z w2 => z.1 ≤ m.nd.kids.length ∧ S = txK (txF (T.map Laid.nd) n) (m.nd.kids.drop z.1) z.2 ∧ w2 = w) (fun z => m.nd.kids.length - z.1) (0, m.nd.text) ?_ ?_ ?_
    · (repeat simp only [push_cast, seval, -Nat.reduceSubDiff])
    · exact ⟨by simp, hS, rfl⟩
    rintro ⟨k, s⟩ w2 ⟨hk, he, hw2⟩
    subst w2
    dsimp only at hk he ⊢
    by_cases hkl : k < m.nd.kids.length
    · obtain ⟨t, ht⟩ : ∃ t, m.nd.kids[k]? = some t := ⟨_, List.getElem?_eq_getElem hkl⟩
      have d0 : (k : Int) < (m.nd.kids.length : Int) := by omega
      have d1 : (0 : Int) ≤ (k : Int) := by omega
      have d2 : inI64 ((k : Int) + 1) := by unfold inI64; omega
      obtain ⟨kb, ko, kn, kc', e, _⟩ := hkk.some_of (kids_ne hkl)
      cases e
      have d3 := hkk.ints_cell ht
      have hdr : m.nd.kids.drop k = t :: m.nd.kids.drop (k + 1) := by
        rw [List.drop_eq_getElem_cons hkl]
        congr 1
        have := List.getElem?_eq_getElem hkl
        rw [ht] at this
        exact (Option.some.inj this).symm
      rw [hdr, txK] at he
      have hkt := List.all_eq_true.1 hks t (List.mem_of_getElem? ht)
      have hle := txK_size (txF (T.map Laid.nd) n) (m.nd.kids.drop (k + 1)) (s ++ txF (T.map Laid.nd) n t)
      rw [← he, ByteArray.size_append] at hle
      have hss : s.size + (txF (T.map Laid.nd) n t).size ≤ 9223372036854775807 := by omega
      (repeat first|(with_reducible first|(refine hK _ _ ?_;clear hK K)|refine ‹∀σ w,_→K σ w› _ _ ?_|(refine W_st ?_;constructor;try intro K hK))|((with_reducible first|refine hZ _ _ ?_|refine W_rg ?_|skip);repeat1' simp only[push_cast,seval,-Nat.reduceSubDiff,b0,b1,c8,d0,d1,d3])|((repeat((fail_if_success with_reducible refine hK _ _ ?_);clear hK K));with_reducible refine hK _ _ ?_;clear hK K))
      refine (texts_c hT hb n t hkt).mono ?_
      intro v w' ⟨hv, hw⟩
      subst hv; subst w'
      (repeat first|(with_reducible first|(refine hK _ _ ?_;clear hK K)|refine ‹∀σ w,_→K σ w› _ _ ?_|(refine W_st ?_;constructor;try intro K hK))|((with_reducible first|refine hZ _ _ ?_|refine W_rg ?_|skip);repeat1' simp only[push_cast,seval,-Nat.reduceSubDiff,hss,d2])|((repeat((fail_if_success with_reducible refine hK _ _ ?_);clear hK K));with_reducible refine hK _ _ ?_;clear hK K))
      refine ⟨(k + 1, s ++ txF (T.map Laid.nd) n t), by show _ - (k + 1) < _ - k; omega, ?_⟩
      (repeat simp only [push_cast, seval, -Nat.reduceSubDiff])
      exact ⟨by omega, he⟩
    · have d0 : ¬ (k : Int) < (m.nd.kids.length : Int) := by omega
      rw [List.drop_eq_nil_of_le (by omega), txK] at he
      (repeat first|(with_reducible first|(refine hK _ _ ?_;clear hK K)|refine ‹∀σ w,_→K σ w› _ _ ?_|(refine W_st ?_;constructor;try intro K hK))|((with_reducible first|refine hZ _ _ ?_|refine W_rg ?_|skip);repeat1' simp only[push_cast,seval,-Nat.reduceSubDiff,b0,b1,c8,d0])|((repeat((fail_if_success with_reducible refine hK _ _ ?_);clear hK K));with_reducible refine hK _ _ ?_;clear hK K))
      rw [he]
end Go.Proofs.YtgnnlaeikcnhcaaGreatDoor
end
section
set_option linter.unusedSimpArgs false
set_option linter.unusedVariables false
namespace Go.Vk
open Go
theorem ba_assoc (a b c : ByteArray) : a ++ b ++ c = a ++ (b ++ c) := by
  apply ByteArray.ext; simp [ByteArray.data_append, Array.append_assoc]
theorem ba_emp (a : ByteArray) : a ++ (⟨#[]⟩ : ByteArray) = a := by
  apply ByteArray.ext; simp [ByteArray.data_append]
theorem nil_ba (a : ByteArray) : (⟨#[]⟩ : ByteArray) ++ a = a := by
  apply ByteArray.ext; simp [ByteArray.data_append]
/-- a forest: its nodes in order, and its texts -/
inductive Fo (L : List Nd) : List Int → List Int → ByteArray → Prop
  | nil : Fo L [] [] ⟨#[]⟩
  | cons {i : Int} {r N M : List Int} {s t : ByteArray} : 0 ≤ i → i < L.length → Fo L (gN L i).kids N s → Fo L r M t → Fo L (i :: r) (i :: (N ++ M)) ((gN L i).text ++ s ++ t)
theorem Fo.app {L : List Nd} {a b N M : List Int} {s t : ByteArray} (h1 : Fo L a N s) (h2 : Fo L b M t) : Fo L (a ++ b) (N ++ M) (s ++ t) := by
  induction h1 with
  | nil => rw [nil_ba]; exact h2
  | cons h0 hl hk _ _ ih =>
    have := Fo.cons h0 hl hk ih
    rw [List.cons_append, List.cons_append, List.append_assoc, ba_assoc (_ ++ _)]
    exact this
theorem Fo.split {L : List Nd} : ∀ {a b K : List Int} {u : ByteArray}, Fo L (a ++ b) K u → ∃ N M s t, Fo L a N s ∧ Fo L b M t ∧ K = N ++ M ∧ u = s ++ t
  | [], b, K, u, h => ⟨[], K, _, u, .nil, h, rfl, (nil_ba u).symm⟩
  | i :: a, b, K, u, h => by
    rw [List.cons_append] at h
    cases h with
    | cons h0 hl hk hr =>
      obtain ⟨N, M, s, t, h1, h2, rfl, rfl⟩ := Fo.split hr
      exact ⟨_, M, _, t, .cons h0 hl hk h1, h2, by rw [List.cons_append, List.append_assoc], by rw [ba_assoc (_ ++ _)]⟩
theorem Fo.upd {L L' : List Nd} (hl : L.length ≤ L'.length) {l N : List Int} {s : ByteArray} (h : Fo L l N s) (hs : ∀ i ∈ N, (gN L' i).kids = (gN L i).kids ∧ (gN L' i).text = (gN L i).text) : Fo L' l N s := by
  induction h with
  | nil => exact .nil
  | cons h0 hi _ _ ih1 ih2 =>
    obtain ⟨e1, e2⟩ := hs _ List.mem_cons_self
    rw [← e2]
    refine .cons h0 (by omega) ?_ (ih2 fun j hj => hs j (by simp [hj]))
    rw [e1]
    exact ih1 fun j hj => hs j (by simp [hj])
theorem Fo.rng {L : List Nd} {l N : List Int} {s : ByteArray} (h : Fo L l N s) : ∀ i ∈ N, 0 ≤ i ∧ i < L.length := by
  induction h with
  | nil => exact fun i hi => by simp at hi
  | cons h0 hi _ _ ih1 ih2 =>
    intro j hj
    simp only [List.mem_cons, List.mem_append] at hj
    rcases hj with rfl | hj | hj
    · exact ⟨h0, hi⟩
    · exact ih1 j hj
    · exact ih2 j hj
theorem Fo.sub {L : List Nd} {l N : List Int} {s : ByteArray} (h : Fo L l N s) : l.Sublist N := by
  induction h with
  | nil => exact .slnil
  | cons h0 hi _ _ ih1 ih2 => exact (ih2.trans (List.sublist_append_right _ _)).cons_cons _
theorem Fo.txt {L : List Nd} {l N : List Int} {s : ByteArray} (h : Fo L l N s) : ∀ n, N.length < n → ∀ u, txK (txF L n) l u = u ++ s := by
  induction h with
  | nil => intro n _ u; rw [txK, ba_emp]
  | @cons i r N M s t h0 hi hk hr ih1 ih2 =>
    intro n hn u
    simp only [List.length_cons, List.length_append] at hn
    obtain ⟨m, rfl⟩ : ∃ m, n = m + 1 := ⟨n - 1, by omega⟩
    have e : txF L (m + 1) i = (gN L i).text ++ s := by
      rw [txF, if_neg (by omega), ih1 m (by omega)]
    rw [txK, e, ih2 (m + 1) (by omega)]
    simp only [ba_assoc]
theorem Fo.deep {L : List Nd} {l N : List Int} {s : ByteArray} (h : Fo L l N s) : N.length < 1000000 → s.size < 1000000 → ∀ n, N.length < n → l.all (txD L n) = true := by
  induction h with
  | nil => intro _ _ n _; rfl
  | @cons i r N M s t h0 hi hk hr ih1 ih2 =>
    intro hN hs n hn
    simp only [List.length_cons, List.length_append] at hn hN
    rw [ByteArray.size_append, ByteArray.size_append] at hs
    obtain ⟨m, rfl⟩ : ∃ m, n = m + 1 := ⟨n - 1, by omega⟩
    have e : txF L (m + 1) i = (gN L i).text ++ s := by
      rw [txF, if_neg (by omega), hk.txt m (by omega)]
    have hkl := hk.sub.length_le
    rw [List.all_cons, ih2 (by omega) (by omega) (m + 1) (by omega), Bool.and_true, txD, if_neg (by omega), e]
    rw [ih1 (by omega) (by omega) m (by omega), Bool.and_true, Bool.and_eq_true, decide_eq_true_eq, decide_eq_true_eq, ByteArray.size_append]
    omega
/-- a way down to q, each the last kid of the one above: what stands ahead of q -/
inductive Cx (L : List Nd) : List Int → Int → List Int → ByteArray → Prop
  | nil {q : Int} : Cx L [] q [] ⟨#[]⟩
  | cons {p q : Int} {r ks N M : List Int} {s t : ByteArray} : 0 ≤ p → p < L.length → (gN L p).kids = ks ++ [r.headD q] → Fo L ks N s → Cx L r q M t → Cx L (p :: r) q (p :: (N ++ M)) ((gN L p).text ++ s ++ t)
theorem Cx.fo {L : List Nd} {A N M : List Int} {q : Int} {s t : ByteArray} (h : Cx L A q N s) (h2 : Fo L [q] M t) : Fo L [A.headD q] (N ++ M) (s ++ t) := by
  induction h with
  | nil => rw [nil_ba]; exact h2
  | @cons p q r ks N M' s t' h0 hl hk hf _ ih =>
    have h3 := hf.app (ih h2)
    rw [← hk] at h3
    have := Fo.cons h0 hl h3 .nil
    rw [List.append_nil, ba_emp] at this
    rw [List.cons_append, List.append_assoc, ba_assoc (_ ++ _), ba_assoc, ← ba_assoc, ba_assoc]
    exact this
theorem headD_app (r B : List Int) (q : Int) : (r ++ B).headD q = r.headD (B.headD q) := by cases r <;> rfl
theorem Cx.app {L : List Nd} {A B N M : List Int} {r : Int} {s t : ByteArray} (h2 : Cx L B r M t) : ∀ {q}, q = B.headD r → Cx L A q N s → Cx L (A ++ B) r (N ++ M) (s ++ t) := by
  intro q hq h
  induction h with
  | nil => rw [nil_ba]; exact h2
  | @cons p q r' ks N M' s t' h0 hl hk hf _ ih =>
    have := Cx.cons (q := r) (r := r' ++ B) h0 hl (by rw [hk, headD_app, hq]) hf (ih hq)
    rw [List.cons_append, List.cons_append, List.append_assoc, ba_assoc (_ ++ _)]
    exact this
theorem Cx.split {L : List Nd} : ∀ {A B K : List Int} {r : Int} {u : ByteArray}, Cx L (A ++ B) r K u → ∃ N M s t, Cx L A (B.headD r) N s ∧ Cx L B r M t ∧ K = N ++ M ∧ u = s ++ t
  | [], B, K, r, u, h => ⟨[], K, _, u, .nil, h, rfl, (nil_ba u).symm⟩
  | p :: A, B, K, r, u, h => by
    rw [List.cons_append] at h
    cases h with
    | cons h0 hl hk hf hr =>
      obtain ⟨N, M, s, t, h1, h2, rfl, rfl⟩ := Cx.split hr
      exact ⟨_, M, _, t, .cons h0 hl (by rw [hk, headD_app]) hf h1, h2, by rw [List.cons_append, List.append_assoc], by rw [ba_assoc (_ ++ _)]⟩
theorem Cx.upd {L L' : List Nd} (hl : L.length ≤ L'.length) {A N : List Int} {q : Int} {s : ByteArray} (h : Cx L A q N s) (hs : ∀ i ∈ N, (gN L' i).kids = (gN L i).kids ∧ (gN L' i).text = (gN L i).text) : Cx L' A q N s := by
  induction h with
  | nil => exact .nil
  | cons h0 hi hk hf _ ih =>
    obtain ⟨e1, e2⟩ := hs _ List.mem_cons_self
    rw [← e2]
    exact .cons h0 (by omega) (by rw [e1, hk]) (hf.upd hl fun j hj => hs j (by simp [hj])) (ih fun j hj => hs j (by simp [hj]))
theorem Cx.sub {L : List Nd} {A N : List Int} {q : Int} {s : ByteArray} (h : Cx L A q N s) : A.Sublist N := by
  induction h with
  | nil => exact .slnil
  | cons _ _ _ _ _ ih => exact (ih.trans (List.sublist_append_right _ _)).cons_cons _
theorem Cx.rng {L : List Nd} {A N : List Int} {q : Int} {s : ByteArray} (h : Cx L A q N s) : ∀ i ∈ N, 0 ≤ i ∧ i < L.length := by
  induction h with
  | nil => exact fun i hi => by simp at hi
  | cons h0 hi _ hf _ ih2 =>
    intro j hj
    simp only [List.mem_cons, List.mem_append] at hj
    rcases hj with rfl | hj | hj
    · exact ⟨h0, hi⟩
    · exact hf.rng j hj
    · exact ih2 j hj
theorem Cx.par {L : List Nd} (hG : Gd L) {A N : List Int} {q : Int} {s : ByteArray} (h : Cx L A q N s) : ∀ x ∈ A ++ [q], x = A.headD q ∨ (gN L x).parent ∈ A := by
  induction h with
  | nil => intro x hx; simp at hx; exact .inl hx
  | @cons p q r ks N M s t h0 hl hk hf _ ih =>
    intro x hx
    rw [List.cons_append, List.mem_cons] at hx
    rcases hx with rfl | hx
    · exact .inl rfl
    · rcases ih x hx with e | e
      · have : x ∈ (gN L p).kids := by rw [hk, e]; simp
        exact .inr (by rw [((hG.kid p x).1 this).2]; simp)
      · exact .inr (List.mem_cons_of_mem _ e)
/-- a way down, and all that the last one on it has -/
def Sp (L : List Nd) (C N : List Int) (u : ByteArray) : Prop := ∃ A q N1 N2 u1 u2, C = A ++ [q] ∧ Cx L A q N1 u1 ∧ Fo L [q] N2 u2 ∧ N = N1 ++ N2 ∧ u = u1 ++ u2
theorem Sp.fo {L : List Nd} {C N : List Int} {u : ByteArray} {p : Int} (h : Sp L (p :: C) N u) : Fo L [p] N u := by
  obtain ⟨A, q, N1, N2, u1, u2, e, h1, h2, rfl, rfl⟩ := h
  have := h1.fo h2
  have e2 : A.headD q = p := by cases A <;> simp at e <;> simp [e]
  rwa [e2] at this
theorem Sp.upd {L L' : List Nd} (hl : L.length ≤ L'.length) {C N : List Int} {u : ByteArray} (h : Sp L C N u) (hs : ∀ i ∈ N, (gN L' i).kids = (gN L i).kids ∧ (gN L' i).text = (gN L i).text) : Sp L' C N u := by
  obtain ⟨A, q, N1, N2, u1, u2, e, h1, h2, rfl, rfl⟩ := h
  exact ⟨A, q, N1, N2, u1, u2, e, h1.upd hl fun i hi => hs i (by simp [hi]), h2.upd hl fun i hi => hs i (by simp [hi]), rfl, rfl⟩
theorem Sp.rng {L : List Nd} {C N : List Int} {u : ByteArray} (h : Sp L C N u) : ∀ i ∈ N, 0 ≤ i ∧ i < L.length := by
  obtain ⟨A, q, N1, N2, u1, u2, e, h1, h2, rfl, rfl⟩ := h
  intro i hi
  rcases List.mem_append.1 hi with hi | hi
  · exact h1.rng i hi
  · exact h2.rng i hi
theorem Sp.sub {L : List Nd} {C N : List Int} {u : ByteArray} (h : Sp L C N u) : C.Sublist N := by
  obtain ⟨A, q, N1, N2, u1, u2, rfl, h1, h2, rfl, rfl⟩ := h
  exact h1.sub.append h2.sub
theorem Sp.pop {L : List Nd} {C N : List Int} {u : ByteArray} {p q : Int} (h : Sp L (C ++ [p, q]) N u) : Sp L (C ++ [p]) N u := by
  obtain ⟨A, q', N1, N2, u1, u2, e, h1, h2, rfl, rfl⟩ := h
  rw [show C ++ [p, q] = (C ++ [p]) ++ [q] by simp] at e
  obtain ⟨e1, e2⟩ := List.append_inj' e rfl
  subst e1
  obtain rfl : q = q' := by simpa using e2
  obtain ⟨N, M, s, t, g1, g2, rfl, rfl⟩ := h1.split
  have := g2.fo h2
  exact ⟨C, p, N, _, s, _, rfl, g1, this, by rw [List.append_assoc], by rw [ba_assoc]⟩
theorem Sp.take {L : List Nd} {N : List Int} {u : ByteArray} {p : Int} : ∀ (n : Nat) {D C : List Int}, D.length = n → Sp L (C ++ p :: D) N u → Sp L (C ++ [p]) N u
  | 0, D, C, hn, h => by rw [List.length_eq_zero_iff.1 hn] at h; exact h
  | n + 1, D, C, hn, h => by
    rcases List.eq_nil_or_concat D with rfl | ⟨E, q, rfl⟩
    · exact h
    · rw [List.concat_eq_append] at h hn
      simp only [List.length_append, List.length_cons, List.length_nil] at hn
      refine Sp.take n (D := E) (by omega) ?_
      rcases List.eq_nil_or_concat E with rfl | ⟨F, r, rfl⟩
      · exact h.pop
      · rw [List.concat_eq_append] at h ⊢
        have : C ++ p :: (F ++ [r] ++ [q]) = (C ++ p :: F) ++ [r, q] := by simp
        rw [this] at h
        have := h.pop
        rwa [List.append_assoc] at this
theorem Sp.split {L : List Nd} {A R N : List Int} {q : Int} {u : ByteArray} (h : Sp L (A ++ q :: R) N u) : ∃ N1 N2 u1 u2, Cx L A q N1 u1 ∧ Sp L (q :: R) N2 u2 ∧ N = N1 ++ N2 ∧ u = u1 ++ u2 := by
  obtain ⟨B, z, N1, N2, u1, u2, e, h1, h2, rfl, rfl⟩ := h
  rcases List.eq_nil_or_concat R with rfl | ⟨S, r, rfl⟩
  · obtain ⟨e1, e2⟩ := List.append_inj' e rfl
    subst e1
    obtain rfl : q = z := by simpa using e2
    exact ⟨N1, N2, u1, u2, h1, ⟨[], q, [], N2, _, u2, rfl, .nil, h2, rfl, (nil_ba _).symm⟩, rfl, rfl⟩
  · rw [List.concat_eq_append, ← List.cons_append, ← List.append_assoc] at e
    obtain ⟨e1, e2⟩ := List.append_inj' e rfl
    subst e1
    obtain rfl : r = z := by simpa using e2
    obtain ⟨N, M, s, t, g1, g2, rfl, rfl⟩ := h1.split
    exact ⟨N, _, s, _, g1, ⟨q :: S, r, M, N2, t, u2, by simp, g2, h2, rfl, rfl⟩, by rw [List.append_assoc], by rw [ba_assoc]⟩
theorem Sp.join {L : List Nd} {A R N1 N2 : List Int} {q : Int} {u1 u2 : ByteArray} (h1 : Cx L A q N1 u1) (h2 : Sp L (q :: R) N2 u2) : Sp L (A ++ q :: R) (N1 ++ N2) (u1 ++ u2) := by
  obtain ⟨B, z, M1, M2, v1, v2, e, g1, g2, rfl, rfl⟩ := h2
  have e2 : q = B.headD z := by cases B <;> simp at e <;> simp [e]
  exact ⟨A ++ B, z, _, M2, _, v2, by rw [e, List.append_assoc], g1.app e2 h1, g2, by rw [List.append_assoc], by rw [ba_assoc]⟩
/-- the last one on the way down loses its last kid -/
theorem Cx.cut {L L' : List Nd} (hl : L.length ≤ L'.length) {A N : List Int} {a q : Int} {u : ByteArray} (h : Cx L (A ++ [a]) q N u) (hn : N.Nodup) (hq : q ∉ N) (hs : ∀ i ∈ N, i ≠ a → (gN L' i).kids = (gN L i).kids ∧ (gN L' i).text = (gN L i).text) (ha : (gN L' a).kids = (gN L a).kids.erase q ∧ (gN L' a).text = (gN L a).text) : Sp L' (A ++ [a]) N u := by
  obtain ⟨N1, M, u1, t, g1, g2, rfl, rfl⟩ := h.split
  cases g2 with
  | @cons _ _ _ ks N2 M' s t' h0 hi hk hf hr =>
    cases hr
    rw [List.nodup_append] at hn
    obtain ⟨hn1, hn2, hn3⟩ := hn
    rw [List.append_nil] at hn2 hn3 hq hs ⊢
    rw [List.nodup_cons] at hn2
    simp only [List.mem_append, List.mem_cons, not_or] at hq
    have hqk : q ∉ ks := fun hm => hq.2.2 (hf.sub.mem hm)
    have ek : (gN L' a).kids = ks := by
      rw [ha.1, hk, List.erase_append_right _ hqk]; simp
    have f1 : Cx L' A a N1 u1 := g1.upd hl fun i hi => hs i (by simp [hi]) fun e => hn3 i hi a (by simp) e
    have f2 : Fo L' (gN L' a).kids N2 s := by
      rw [ek]
      exact hf.upd hl fun i hi => hs i (by simp [hi]) fun e => hn2.1 (e ▸ hi)
    have f3 := Fo.cons h0 (by omega) f2 .nil
    rw [List.append_nil, ha.2] at f3
    exact ⟨A, a, N1, _, u1, _, rfl, f1, f3, rfl, rfl⟩
/-- it gets one more -/
theorem Sp.hook {L L' : List Nd} (hl : L.length ≤ L'.length) {A N : List Int} {a q : Int} {u : ByteArray} (h : Sp L (A ++ [a]) N u) (hn : N.Nodup) (hs : ∀ i ∈ N, i ≠ a → (gN L' i).kids = (gN L i).kids ∧ (gN L' i).text = (gN L i).text) (ha : (gN L' a).kids = (gN L a).kids ++ [q] ∧ (gN L' a).text = (gN L a).text) : Cx L' (A ++ [a]) q N u := by
  obtain ⟨B, z, N1, N2, u1, u2, e, g1, g2, rfl, rfl⟩ := h
  obtain ⟨e1, e2⟩ := List.append_inj' e rfl
  subst e1
  obtain rfl : a = z := by simpa using e2
  cases g2 with
  | @cons _ _ M1 M2 s t h0 hi hk hr =>
    cases hr
    rw [List.nodup_append] at hn
    obtain ⟨hn1, hn2, hn3⟩ := hn
    rw [List.append_nil] at hn2 hn3 hs ⊢
    rw [List.nodup_cons] at hn2
    have f1 : Cx L' A a N1 u1 := g1.upd hl fun i hi => hs i (by simp [hi]) fun e => hn3 i hi a (by simp) e
    have f2 : Fo L' (gN L a).kids M1 s := hk.upd hl fun i hi => hs i (by simp [hi]) fun e => hn2.1 (e ▸ hi)
    have f3 : Cx L' [a] q (a :: (M1 ++ [])) ((gN L' a).text ++ s ++ ⟨#[]⟩) := .cons h0 (by omega) (by rw [ha.1]; rfl) f2 .nil
    rw [List.append_nil, ha.2] at f3
    exact f3.app rfl f1
/-- its kids are of another one that is its only kid -/
theorem Sp.wrap {L L' : List Nd} (hl : L.length ≤ L'.length) {R N : List Int} {a y : Int} {u : ByteArray} (h : Sp L (a :: R) N u) (hn : N.Nodup) (hy : 0 ≤ y ∧ y < L'.length) (hs : ∀ i ∈ N, i ≠ a → (gN L' i).kids = (gN L i).kids ∧ (gN L' i).text = (gN L i).text) (ha : (gN L' a).kids = [y] ∧ (gN L' a).text = (gN L a).text) (hk : (gN L' y).kids = (gN L a).kids ∧ (gN L' y).text = ⟨#[]⟩) : ∃ M, N = a :: M ∧ Sp L' (a :: y :: R) (a :: y :: M) u := by
  have key : ∀ {ks : List Int} {M : List Int} {s : ByteArray}, N = a :: M → u = (gN L a).text ++ s → 0 ≤ a → a < L.length → Sp L' (y :: R) (y :: M) s → ∃ M, N = a :: M ∧ Sp L' (a :: y :: R) (a :: y :: M) u := fun {ks M s} e1 e2 h0 hi h3 => by
    refine ⟨M, e1, ?_⟩
    have f : Cx L' [a] y (a :: ([] ++ [])) ((gN L' a).text ++ ⟨#[]⟩ ++ ⟨#[]⟩) := .cons h0 (by omega) (by rw [ha.1]; rfl) .nil .nil
    rw [ba_emp, ba_emp, ha.2] at f
    have := Sp.join f h3
    rw [e2]
    exact this
  rcases R with _ | ⟨r, R⟩
  · have h1 := h.fo
    cases h1 with
    | @cons _ _ M1 M2 s t h0 hi hk1 hr =>
      cases hr
      rw [List.append_nil] at hn hs key
      rw [List.append_nil]
      rw [List.nodup_cons] at hn
      refine key (ks := []) (s := s) rfl (by rw [ba_emp]) h0 hi ?_
      have f2 : Fo L' (gN L' y).kids M1 s := by
        rw [hk.1]
        exact hk1.upd hl fun i hi => hs i (by simp [hi]) fun e => hn.1 (e ▸ hi)
      have f3 := Fo.cons hy.1 hy.2 f2 .nil
      rw [List.append_nil, ba_emp, hk.2, nil_ba] at f3
      exact ⟨[], y, [], _, _, _, rfl, .nil, f3, rfl, (nil_ba _).symm⟩
  · obtain ⟨N1, N2, u1, u2, g1, g2, rfl, rfl⟩ := Sp.split (A := [a]) h
    cases g1 with
    | @cons _ _ _ ks M1 M' s t' h0 hi hk1 hf hr =>
      cases hr
      rw [List.append_nil] at hn hs key
      rw [List.append_nil]
      rw [List.cons_append] at hn hs key ⊢
      rw [List.nodup_cons] at hn
      refine key (ks := []) (s := s ++ u2) rfl (by rw [ba_emp, ba_assoc]) h0 hi ?_
      have f2 : Fo L' ks M1 s := hf.upd hl fun i hi => hs i (by simp [hi]) fun e => hn.1 (by rw [← e]; simp [hi])
      have f3 : Sp L' (r :: R) N2 u2 := g2.upd hl fun i hi => hs i (by simp [hi]) fun e => hn.1 (by rw [← e]; simp [hi])
      have f4 : Cx L' [y] r (y :: (M1 ++ [])) ((gN L' y).text ++ s ++ ⟨#[]⟩) := .cons hy.1 hy.2 (by rw [hk.1, hk1, List.headD_nil]) f2 .nil
      rw [List.append_nil, ba_emp, hk.2, nil_ba] at f4
      exact Sp.join f4 f3
end Go.Vk
end
section
set_option linter.unusedSimpArgs false
set_option linter.unusedVariables false
namespace Go.Vk
open Go Go.Proofs.YtgnnlaeikcnhcaaGreatDoor
theorem Sp.dropl {L : List Nd} {C N : List Int} {u : ByteArray} {x : Int} (h : Sp L (C ++ [x]) N u) (hc : C ≠ []) : Sp L C N u := by
  rcases List.eq_nil_or_concat C with rfl | ⟨B, p, rfl⟩
  · exact absurd rfl hc
  · rw [List.concat_eq_append] at h ⊢
    rw [List.append_assoc] at h
    exact h.pop
/-- one more at the end -/
theorem Sp.more {L L' : List Nd} (hl : L.length ≤ L'.length) {A N : List Int} {a q : Int} {u : ByteArray} (h : Sp L (A ++ [a]) N u) (hn : N.Nodup) (hq : 0 ≤ q ∧ q < L'.length) (hs : ∀ i ∈ N, i ≠ a → (gN L' i).kids = (gN L i).kids ∧ (gN L' i).text = (gN L i).text) (ha : (gN L' a).kids = (gN L a).kids ++ [q] ∧ (gN L' a).text = (gN L a).text) (hk : (gN L' q).kids = []) : Sp L' (A ++ [a, q]) (N ++ [q]) (u ++ (gN L' q).text) := by
  have h1 := h.hook hl hn hs ha
  have h2 : Fo L' [q] (q :: ([] ++ [])) ((gN L' q).text ++ ⟨#[]⟩ ++ ⟨#[]⟩) := .cons hq.1 hq.2 (by rw [hk]; exact .nil) .nil
  rw [ba_emp, ba_emp] at h2
  exact ⟨A ++ [a], q, N, [q], u, _, by simp, h1, h2, rfl, rfl⟩
theorem addK_m1 (i : Int) (l : List Int) : addK (-1) i l = l ++ [i] := by simp [addK]
def nds (s : List OpS) : List Int := s.map OpS.node
/-- what appends: where nothing bars it -/
structure Hung (L L' : List Nd) (p i : Int) : Prop where
  gd : Gd L'
  len : L'.length = L.length
  same : ∀ t, (gN L' t).kind = (gN L t).kind ∧ (gN L' t).name = (gN L t).name ∧ (gN L' t).attrs = (gN L t).attrs ∧ (gN L' t).text = (gN L t).text
  kids : ∀ t, (gN L' t).kids = if t = p then (gN L t).kids.erase i ++ [i] else (gN L t).kids.erase i
  par : ∀ t, (gN L' t).parent = if t = i then p else (gN L t).parent
theorem app_hung {L : List Nd} (hG : Gd L) {p i : Int} (hp : 0 ≤ p ∧ p < L.length) (hpk : holdK (gN L p).kind = true) (hi : 0 ≤ i ∧ i < L.length) (hik : kidK (gN L i).kind = true) (hab : ∀ k, ab (upN L) i k p = false) : ∃ L', appendN L p i = (L', 0) ∧ Hung L L' p i := by
  have e : appendN L p i = (hangN L p.toNat (-1) i.toNat, 0) := by
    unfold appendN
    rw [if_pos ⟨by rw [holdsN_g]; exact hpk, by rw [hangsN_g]; exact hik, by unfold aboveN; rw [aboveF_ab]; exact hab _⟩]
  have hg := append_gd hG p i
  rw [e] at hg
  refine ⟨_, e, hg, hangN_len _ _ _ _, fun t => ?_, fun t => ?_, fun t => ?_⟩
  all_goals
    rw [gN_hang hG (by omega) (by omega)]
  · exact ⟨rfl, rfl, rfl, rfl⟩
  · show (if t = (p.toNat : Int) then addK (-1) (i.toNat : Int) ((gN L t).kids.erase (i.toNat : Int)) else (gN L t).kids.erase (i.toNat : Int)) = _
    rw [Int.toNat_of_nonneg hp.1, Int.toNat_of_nonneg hi.1, addK_m1]
  · show (if t = (i.toNat : Int) then (p.toNat : Int) else (gN L t).parent) = _
    rw [Int.toNat_of_nonneg hp.1, Int.toNat_of_nonneg hi.1]
theorem ab_orph {up : Int → Int} {i y : Int} (hy : y ≠ i) (hu : up y < 0) : ∀ k, ab up i k y = false
  | 0 => rfl
  | k + 1 => by
    rw [ab]
    split
    · rfl
    · rw [decide_eq_false hy, Bool.false_or]
      cases k with
      | zero => rfl
      | succ k => rw [ab, if_pos hu]
theorem ab_closed {up : Int → Int} {i : Int} (S : Int → Prop) (hS : ∀ x, S x → x ≠ i ∧ (up x < 0 ∨ S (up x))) : ∀ k x, S x → ab up i k x = false
  | 0, _, _ => rfl
  | k + 1, x, hx => by
    obtain ⟨h1, h2⟩ := hS x hx
    rw [ab]
    split
    · rfl
    · rw [decide_eq_false h1, Bool.false_or]
      rcases h2 with h2 | h2
      · cases k with
        | zero => rfl
        | succ k => rw [ab, if_pos h2]
      · exact ab_closed S hS k _ h2
theorem Gd.up {L : List Nd} (h : Gd L) {x : Int} (hk : (gN L x).kind ≠ 6) : upN L x = (gN L x).parent := by
  rw [upN_g, if_neg hk]
theorem Gd.par0 {L : List Nd} (h : Gd L) : (gN L 0).parent = -1 := by
  have h1 := h.low 0
  by_cases h0 : 0 ≤ (gN L 0).parent
  · have := h.knd 0 h0
    rw [h.doc] at this
    cases this
  · omega
theorem Gd.nok {L : List Nd} (h : Gd L) {i t : Int} (ht : (gN L i).parent ≠ t) : (gN L t).kids.erase i = (gN L t).kids :=
  List.erase_of_not_mem fun hm => ht ((h.kid t i).1 hm).2
/-- what is on the way down from the document has nobody above it that is not -/
theorem Cx.ab {L : List Nd} (hG : Gd L) {A N : List Int} {q i : Int} {s : ByteArray} (h : Cx L A q N s) (h0 : A.headD q = 0) (hi : i ∉ A ++ [q]) (hk : ∀ x ∈ A ++ [q], (gN L x).kind ≠ 6) (k : Nat) : ab (upN L) i k q = false := by
  refine ab_closed (fun x => x ∈ A ++ [q]) (fun x hx => ⟨fun e => hi (by rw [← e]; exact hx), ?_⟩) k q (by simp)
  rw [hG.up (hk x hx)]
  rcases h.par hG x hx with e | e
  · left; rw [e, h0, hG.par0]; decide
  · right; simp [e]
/-- what a last kid was taken from, or that has no parent: behind free -/
theorem loose {L : List Nd} (hG : Gd L) {C N M Q : List Int} {v v' : ByteArray} {last : Int} (hr : 0 ≤ last ∧ last < L.length) (hkk : kidK (gN L last).kind = true) (hn : (N ++ M).Nodup) (hQ : Sp L (last :: Q) M v') (hc : C ≠ [])
    (hd : (∃ G, Cx L (C ++ G) last N v) ∨ ((gN L last).parent = -1 ∧ Sp L C N v)) :
    Sp (freeN L last.toNat) C N v ∧ Sp (freeN L last.toNat) (last :: Q) M v' ∧ C.Sublist N := by
  have hg := gN_free hG (i := last.toNat) (by omega)
  have hl := freeN_len L last.toNat
  simp only [Int.toNat_of_nonneg hr.1] at hg
  rw [List.nodup_append] at hn
  obtain ⟨hn1, hn2, hn3⟩ := hn
  have hlM : last ∈ M := hQ.sub.mem (by simp)
  rcases hd with ⟨G, hC⟩ | ⟨hp, hS⟩
  · obtain ⟨B, a, e⟩ : ∃ B a, C ++ G = B ++ [a] := by
      rcases List.eq_nil_or_concat (C ++ G) with e | ⟨B, a, e⟩
      · simp at e; exact absurd e.1 hc
      · exact ⟨B, a, by rw [e, List.concat_eq_append]⟩
    have hsub := hC.sub
    rw [e] at hC
    have haN : a ∈ N := hC.sub.mem (by simp)
    have hpa : (gN L last).parent = a := by
      obtain ⟨N1, N2, s1, s2, g1, g2, _, _⟩ := hC.split
      cases g2 with
      | cons h0 hi hk hf hr =>
        have : last ∈ (gN L a).kids := by rw [hk]; simp
        exact ((hG.kid a last).1 this).2
    have hoth : ∀ t, t ≠ a → (gN (freeN L last.toNat) t).kids = (gN L t).kids ∧ (gN (freeN L last.toNat) t).text = (gN L t).text := fun t ht => by
      rw [hg t]
      exact ⟨hG.nok (by rw [hpa]; exact fun e => ht e.symm), rfl⟩
    have hqN : last ∉ N := fun hm => hn3 _ hm _ hlM rfl
    have h1 := hC.cut (by rw [hl]; exact Nat.le_refl _) hn1 hqN (fun i _ => hoth i) (by rw [hg a]; exact ⟨rfl, rfl⟩)
    rw [← e] at h1
    refine ⟨?_, hQ.upd (by rw [hl]; exact Nat.le_refl _) fun i hi => hoth i fun e => hn3 _ haN _ hi e.symm, (List.sublist_append_left C G).trans hsub⟩
    rcases List.eq_nil_or_concat C with rfl | ⟨B', p, rfl⟩
    · exact absurd rfl hc
    · rw [List.concat_eq_append] at h1 ⊢
      rw [List.append_assoc] at h1
      exact h1.take _ rfl
  · have hoth : ∀ t, (gN (freeN L last.toNat) t).kids = (gN L t).kids ∧ (gN (freeN L last.toNat) t).text = (gN L t).text := fun t => by
      rw [hg t]
      refine ⟨?_, rfl⟩
      by_cases ht : (gN L last).parent = t
      · rw [hp] at ht
        rw [gN_none (by omega)]; rfl
      · exact hG.nok ht
    exact ⟨hS.upd (by rw [hl]; exact Nat.le_refl _) fun i _ => hoth i, hQ.upd (by rw [hl]; exact Nat.le_refl _) fun i _ => hoth i, hS.sub⟩
theorem hung_free {L L' : List Nd} (hG : Gd L) {p i : Int} (h : Hung L L' p i) (hi : 0 ≤ i ∧ i < L.length) (hp : i ≠ p) : ∀ t, (gN L' t).kids = (if t = p then (gN (freeN L i.toNat) t).kids ++ [i] else (gN (freeN L i.toNat) t).kids) ∧ (gN L' t).text = (gN (freeN L i.toNat) t).text := fun t => by
  have hg := gN_free hG (i := i.toNat) (by omega) t
  simp only [Int.toNat_of_nonneg hi.1] at hg
  rw [hg, h.kids t, (h.same t).2.2.2]
  exact ⟨rfl, rfl⟩
theorem gD_lt {s : List OpS} {j : Nat} (h : j < s.length) : s.getD j zS = s[j] := by simp [List.getD, h]
theorem idx_mid {A B : List OpS} {o : OpS} (h : ∀ z ∈ B, z.node ≠ o.node) : indexS (A ++ o :: B) o.node = A.length := by
  have hlt : A.length < (A ++ o :: B).length := by simp
  have g0 : (A ++ o :: B).getD A.length zS = o := by simp [List.getD_eq_getElem?_getD]
  have h1 := indexS_ge (s := A ++ o :: B) (k := A.length) (i := o.node) hlt (by rw [g0])
  obtain ⟨h2, h3⟩ := indexS_is (s := A ++ o :: B) (i := o.node) (by omega)
  obtain ⟨j, hj⟩ : ∃ j : Nat, indexS (A ++ o :: B) o.node = j := ⟨(indexS (A ++ o :: B) o.node).toNat, by omega⟩
  rw [hj, Int.toNat_natCast] at h2 h3
  rw [hj] at h1 ⊢
  by_cases e : j = A.length
  · rw [e]
  · exfalso
    have hj2 : (A ++ o :: B).getD j zS ∈ B := by
      rw [List.getD_eq_getElem?_getD, List.getElem?_append_right (by omega)]
      obtain ⟨m, hm⟩ : ∃ m, j - A.length = m + 1 := ⟨j - A.length - 1, by omega⟩
      rw [hm, List.getElem?_cons_succ]
      have : m < B.length := by simp at h3; omega
      rw [List.getElem?_eq_getElem this]
      exact List.getElem_mem this
    exact h _ hj2 h2
theorem rem_mid {A B : List OpS} {o : OpS} (h : ∀ z ∈ B, z.node ≠ o.node) : remS (A ++ o :: B) o.node = (A ++ B, 0) := by
  unfold remS
  rw [idx_mid h, if_neg (by omega), Int.toNat_natCast]
  rw [List.eraseIdx_append_of_length_le (Nat.le_refl _)]
  simp
end Go.Vk
end
section
set_option linter.unusedSimpArgs false
set_option linter.unusedVariables false
namespace Go.Vk
open Go Go.Proofs.YtgnnlaeikcnhcaaGreatDoor
/-- elements and texts, none of them a template; what is open, and what is in the list, are elements, and the list has none of the first two -/
structure BT (b : BSt) : Prop where
  gd : Gd b.L
  el : ∀ i : Int, 1 ≤ i → i < b.L.length → (gN b.L i).kind = 3 ∨ (gN b.L i).kind = 4
  nm : ∀ i : Int, (gN b.L i).attrs = [] ∧ (gN b.L i).name.size < 100 ∧ (gN b.L i).name ≠ tmpl
  sk : ∀ o ∈ b.s, 1 ≤ o.node ∧ o.node < b.L.length ∧ (gN b.L o.node).kind = 3 ∧ o.name.size < 100
  hn : (gN b.L 1).name = sHtml
  l : ∀ x ∈ b.l, 2 ≤ x ∧ x < b.L.length ∧ (gN b.L x).kind = 3
  ln : b.l.length ≤ 64
  sn : b.s.length < 500
  fo : b.foster = false
  er : b.err = none
theorem Gd.pos {L : List Nd} (h : Gd L) : 0 < L.length := List.length_pos_iff.2 h.ne
theorem BT.no6 {b : BSt} (h : BT b) (x : Int) : (gN b.L x).kind ≠ 6 := by
  by_cases hx : 0 ≤ x ∧ x < b.L.length
  · by_cases h0 : x = 0
    · rw [h0, h.gd.doc]; decide
    · rcases h.el x (by omega) hx.2 with e | e <;> rw [e] <;> decide
  · rw [gN_none hx]; decide
theorem BT.tree {b : BSt} (h : BT b) {L' : List Nd} (hG : Gd L') (hl : L'.length = b.L.length) (hs : ∀ t, (gN L' t).kind = (gN b.L t).kind ∧ (gN L' t).name = (gN b.L t).name ∧ (gN L' t).attrs = (gN b.L t).attrs) : BT { b with L := L' } :=
  ⟨hG, fun i h1 h2 => by
      have h2 : i < (L'.length : Int) := h2
      show (gN L' i).kind = 3 ∨ (gN L' i).kind = 4
      rw [(hs i).1]; exact h.el i h1 (by omega),
    fun i => by
      show (gN L' i).attrs = [] ∧ (gN L' i).name.size < 100 ∧ (gN L' i).name ≠ tmpl
      rw [(hs i).2.1, (hs i).2.2]; exact h.nm i,
    fun o ho => by
      obtain ⟨h1, h2, h3, h4⟩ := h.sk o ho
      show 1 ≤ o.node ∧ o.node < (L'.length : Int) ∧ (gN L' o.node).kind = 3 ∧ o.name.size < 100
      rw [(hs _).1]; exact ⟨h1, by omega, h3, h4⟩,
    by show (gN L' 1).name = sHtml; rw [(hs 1).2.1]; exact h.hn,
    fun x hx => by
      obtain ⟨h1, h2, h3⟩ := h.l x hx
      show 2 ≤ x ∧ x < (L'.length : Int) ∧ (gN L' x).kind = 3
      rw [(hs _).1]; exact ⟨h1, by omega, h3⟩, h.ln, h.sn, h.fo, h.er⟩
theorem BT.hung {b : BSt} (h : BT b) {L' : List Nd} {p i : Int} (hh : Hung b.L L' p i) : BT { b with L := L' } := h.tree hh.gd hh.len fun t => ⟨(hh.same t).1, (hh.same t).2.1, (hh.same t).2.2.1⟩
theorem BT.setl {b : BSt} (h : BT b) {l' : List Int} (hl : ∀ x ∈ l', x ∈ b.l ∨ (2 ≤ x ∧ x < b.L.length ∧ (gN b.L x).kind = 3)) (hn : l'.length ≤ 64) : BT { b with l := l' } :=
  ⟨h.gd, h.el, h.nm, h.sk, h.hn, fun x hx => (hl x hx).elim (h.l x) id, hn, h.sn, h.fo, h.er⟩
theorem BT.sets {b : BSt} (h : BT b) {s' : List OpS} (hl : ∀ o ∈ s', o ∈ b.s ∨ (1 ≤ o.node ∧ o.node < b.L.length ∧ (gN b.L o.node).kind = 3 ∧ o.name.size < 100)) (hn : s'.length < 500) : BT { b with s := s' } :=
  ⟨h.gd, h.el, h.nm, fun o ho => (hl o ho).elim (h.sk o) id, h.hn, h.l, h.ln, hn, h.fo, h.er⟩
theorem nodeN_g {L : List Nd} {i : Int} (h : 0 ≤ i ∧ i < L.length) : nodeN L i = gN L i := nodeN_gN h
theorem remN_mem {l : List Int} {i x : Int} (h : x ∈ (removeN l i).1) : x ∈ l := by
  unfold removeN at h
  split at h
  · exact h
  · exact List.mem_of_mem_eraseIdx h
theorem replN_mem {L : List Nd} {l : List Int} {k i x : Int} (h : x ∈ (replN L l k i).1) : x ∈ l ∨ x = i := by
  unfold replN at h
  split at h
  · split at h
    · exact (List.mem_or_eq_of_mem_set h)
    · exact .inl h
  · exact .inl h
theorem insL_mem {L : List Nd} {l : List Int} {k i x : Int} (h : x ∈ (insertL L l k i).1) : x ∈ l ∨ x = i := by
  unfold insertL layN at h
  split at h
  · split at h
    · split at h
      · exact .inl h
      · simp only [List.mem_append, List.mem_cons] at h
        rcases h with h | h | h
        · exact .inl (List.mem_of_mem_take h)
        · exact .inr h
        · exact .inl (List.mem_of_mem_drop h)
    · exact .inl h
  · exact .inl h
theorem insL_len {L : List Nd} {l : List Int} {k i : Int} (h : l.length ≤ 64) : (insertL L l k i).1.length ≤ 64 := by
  unfold insertL layN
  split
  · split
    · split
      · exact h
      · simp only [List.length_append, List.length_cons, List.length_take, List.length_drop]
        omega
    · exact h
  · exact h
/-- a new element of the tag of another one -/
structure Frsh (L L' : List Nd) (y : Int) : Prop where
  gd : Gd L'
  len : L'.length = L.length + 1
  yl : y = L.length
  old : ∀ t, t ≠ y → gN L' t = gN L t
  new : (gN L' y).kind = 3 ∧ (gN L' y).attrs = [] ∧ (gN L' y).name.size < 100 ∧ (gN L' y).name ≠ tmpl ∧ (gN L' y).text = ⟨#[]⟩ ∧ (gN L' y).kids = [] ∧ (gN L' y).parent = -1
theorem BT.fresh {b : BSt} (h : BT b) {x : Int} (hx : 0 ≤ x ∧ x < b.L.length) : Frsh b.L (freshB b x).L (freshI_ b x) ∧ freshB b x = { b with L := (freshB b x).L } ∧ BT (freshB b x) := by
  have hn := h.nm x
  rw [← nodeN_g hx] at hn
  obtain ⟨n, hnn⟩ : ∃ n, n = frN (nodeN b.L x) := ⟨_, rfl⟩
  have hk : n.kind = 3 := by rw [hnn]; rfl
  have hnm : n.name ≠ tmpl := by rw [hnn]; exact hn.2.2
  have ea : addN b.L n = (b.L ++ [bareN n], (b.L.length : Int)) := addN_pl (by rw [hk]; rfl) hnm
  have e1 : freshB b x = { b with L := b.L ++ [bareN n] } := by unfold freshB addB; rw [← hnn, ea]
  have e2 : freshI_ b x = (b.L.length : Int) := by unfold freshI_; rw [← hnn, ea]
  have hg := gN_push b.L (bareN n)
  have hG : Gd (b.L ++ [bareN n]) := h.gd.push rfl rfl (by show n.kind ≠ 1; rw [hk]; decide)
  have hlen : (b.L ++ [bareN n]).length = b.L.length + 1 := by simp
  have hF : Frsh b.L (b.L ++ [bareN n]) b.L.length := by
    refine ⟨hG, hlen, rfl, fun t ht => by rw [hg, if_neg ht], ?_⟩
    rw [hg, if_pos rfl]
    refine ⟨hk, ?_, ?_, hnm, ?_, rfl, rfl⟩
    · show n.attrs = []; rw [hnn]; exact hn.1
    · show n.name.size < 100; rw [hnn]; exact hn.2.1
    · show n.text = _; rw [hnn]; rfl
  rw [e1, e2]
  refine ⟨hF, rfl, ?_⟩
  have hpos := h.gd.pos
  have hold : ∀ t : Int, t < b.L.length → gN (b.L ++ [bareN n]) t = gN b.L t := fun t ht => hF.old t (by omega)
  refine ⟨hG, fun i h1 h2 => ?_, fun i => ?_, fun o ho => ?_, ?_, fun z hz => ?_, h.ln, h.sn, h.fo, h.er⟩
  · show (gN (b.L ++ [bareN n]) i).kind = 3 ∨ (gN (b.L ++ [bareN n]) i).kind = 4
    by_cases e : i = b.L.length
    · rw [e]; exact .inl hF.new.1
    · rw [hF.old i e]
      have h2 : i < ((b.L ++ [bareN n]).length : Int) := h2
      exact h.el i h1 (by omega)
  · show (gN (b.L ++ [bareN n]) i).attrs = [] ∧ (gN (b.L ++ [bareN n]) i).name.size < 100 ∧ (gN (b.L ++ [bareN n]) i).name ≠ tmpl
    by_cases e : i = b.L.length
    · rw [e]; exact ⟨hF.new.2.1, hF.new.2.2.1, hF.new.2.2.2.1⟩
    · rw [hF.old i e]; exact h.nm i
  · obtain ⟨g1, g2, g3, g4⟩ := h.sk o ho
    show 1 ≤ o.node ∧ o.node < ((b.L ++ [bareN n]).length : Int) ∧ (gN (b.L ++ [bareN n]) o.node).kind = 3 ∧ o.name.size < 100
    rw [hold _ g2]; exact ⟨g1, by omega, g3, g4⟩
  · show (gN (b.L ++ [bareN n]) 1).name = sHtml
    by_cases e : (1 : Int) = b.L.length
    · have := h.hn
      rw [gN_none (by omega)] at this
      cases this
    · rw [hF.old _ e]; exact h.hn
  · obtain ⟨g1, g2, g3⟩ := h.l z hz
    show 2 ≤ z ∧ z < ((b.L ++ [bareN n]).length : Int) ∧ (gN (b.L ++ [bareN n]) z).kind = 3
    rw [hold _ g2]; exact ⟨g1, by omega, g3⟩
/-- on the way inward -/
structure IW (blk : Int) (u : ByteArray) (A Q : List OpS) (r : IR) : Prop where
  bt : BT r.b
  s : r.b.s = A ++ Q
  q : ∃ o Q', Q = o :: Q' ∧ o.node = r.last
  bk : blk ∈ nds Q
  sp : ∃ N M v v', (N ++ M).Nodup ∧ u = v ++ v' ∧ Sp r.b.L (nds Q) M v' ∧ ((r.last = blk ∧ ∃ G, Cx r.b.L (0 :: nds A ++ G) blk N v) ∨ ((gN r.b.L r.last).parent = -1 ∧ Sp r.b.L (0 :: nds A) N v))
section
variable {blk : Int} {u : ByteArray} {A Q : List OpS} {r : IR} {o : OpS}
theorem IW.sep (h : IW blk u A Q r) : ∀ z ∈ Q, ∀ x ∈ A, z.node ≠ x.node := by
  obtain ⟨N, M, v, v', hn, _, h1, h2⟩ := h.sp
  rw [List.nodup_append] at hn
  intro z hz x hx e
  have hzM : z.node ∈ M := h1.sub.mem (List.mem_map_of_mem hz)
  have hxN : x.node ∈ N := by
    have hm : x.node ∈ nds A := List.mem_map_of_mem hx
    rcases h2 with ⟨_, G, h2⟩ | ⟨_, h2⟩
    · exact h2.sub.mem (by simp [hm])
    · exact h2.sub.mem (by simp [hm])
  exact hn.2.2 _ hxN _ hzM e.symm
theorem IW.lastQ (h : IW blk u A Q r) : ∃ Q', nds Q = r.last :: Q' ∧ 1 ≤ r.last ∧ r.last < r.b.L.length ∧ (gN r.b.L r.last).kind = 3 := by
  obtain ⟨o, Q', e, e2⟩ := h.q
  obtain ⟨h1, h2, h3, _⟩ := h.bt.sk o (by rw [h.s, e]; simp)
  rw [← e2]
  exact ⟨nds Q', by rw [e]; rfl, h1, h2, h3⟩
theorem gD_mid {A Q : List OpS} {o : OpS} : (A ++ [o] ++ Q).getD A.length zS = o := by simp [List.getD_eq_getElem?_getD]
theorem IW.step (h : IW blk u (A ++ [o]) Q r) (many : Int) : ∃ Q', IW blk u A Q' (inwStep blk A.length many r) ∧ ∀ z ∈ Q', z ∈ Q ∨ r.b.L.length ≤ z.node := by
  have hsep := h.sep
  have hs := h.s
  have eg : (r.b.s.getD A.length zS) = o := by rw [hs, gD_mid]
  obtain ⟨Q', eQ, l1, l2, l3⟩ := h.lastQ
  obtain ⟨xo1, xo2, xo3, xo4⟩ := h.bt.sk o (by rw [hs]; simp)
  have hrem : (remS r.b.s o.node).1 = A ++ Q := by
    rw [hs, List.append_assoc]
    show (remS (A ++ o :: Q) o.node).1 = _
    rw [rem_mid fun z hz => hsep z hz o (by simp)]
  have hO : (inwOut many o.node r).b.L = r.b.L ∧ (inwOut many o.node r).b.s = r.b.s ∧ (inwOut many o.node r).last = r.last ∧ BT (inwOut many o.node r).b := by
    unfold inwOut
    split
    · exact ⟨rfl, rfl, rfl, h.bt.setl (fun x hx => .inl (remN_mem hx)) (by have := removeN_len r.b.l o.node; have := h.bt.ln; omega)⟩
    · exact ⟨rfl, rfl, rfl, h.bt⟩
  unfold inwStep
  rw [eg]
  generalize inwOut many o.node r = ro at *
  obtain ⟨o1, o2, o3, o4⟩ := hO
  obtain ⟨N, M, v, v', hn, hu, h1, h2⟩ := h.sp
  have hsn := h.bt.sn
  rw [hs] at hsn
  simp only [List.length_append, List.length_cons, List.length_nil] at hsn
  split
  · refine ⟨Q, ⟨?_, ?_, ?_, h.bk, N, M, v, v', hn, hu, ?_, ?_⟩, fun z hz => .inl hz⟩
    · refine o4.sets (fun z hz => .inl ?_) ?_
      · rw [o2, hs]
        rw [hrem] at hz
        rcases List.mem_append.1 hz with hz | hz
        · simp [hz]
        · simp [hz]
      · rw [hrem, List.length_append]; omega
    · exact hrem
    · show ∃ o Q', Q = o :: Q' ∧ o.node = ro.last
      rw [o3]; exact h.q
    · show Sp ro.b.L _ _ _
      rw [o1]; exact h1
    · show (ro.last = blk ∧ ∃ G, Cx ro.b.L _ _ _ _) ∨ ((gN ro.b.L ro.last).parent = -1 ∧ Sp ro.b.L _ _ _)
      rw [o1, o3]
      rcases h2 with ⟨e, G, h2⟩ | ⟨e, h2⟩
      · refine .inl ⟨e, o.node :: G, ?_⟩
        have : (0 :: nds A ++ o.node :: G : List Int) = 0 :: nds (A ++ [o]) ++ G := by simp [nds]
        rw [this]; exact h2
      · refine .inr ⟨e, Sp.dropl (x := o.node) ?_ (by simp)⟩
        have : (0 :: nds A ++ [o.node] : List Int) = 0 :: nds (A ++ [o]) := by simp [nds]
        rw [this]; exact h2
  · obtain ⟨F, e1, hB⟩ := o4.fresh (x := o.node) (by rw [o1]; omega)
    unfold inwNew
    dsimp only
    obtain ⟨L1, hL1⟩ : ∃ L1, L1 = (freshB ro.b o.node).L := ⟨_, rfl⟩
    obtain ⟨y, hy⟩ : ∃ y, y = freshI_ ro.b o.node := ⟨_, rfl⟩
    rw [← hL1] at F e1
    rw [← hy] at F ⊢
    rw [e1]
    dsimp only
    have hB1 : BT { ro.b with L := L1 } := by rw [← e1]; exact hB
    have hyL : y = (r.b.L.length : Int) := by rw [F.yl, o1]
    have hlen1 : L1.length = r.b.L.length + 1 := by rw [F.len, o1]
    have old : ∀ t, t < (r.b.L.length : Int) → gN L1 t = gN r.b.L t := fun t ht => by rw [F.old t (by omega), o1]
    have hyk : ((nd? L1 y).getD zN).kind = 3 := by
      have : nodeN L1 y = gN L1 y := nodeN_g (by omega)
      unfold nodeN at this
      rw [this]; exact F.new.1
    have hyn : (opN L1 y).name.size < 100 := by
      have : nodeN L1 y = gN L1 y := nodeN_g (by omega)
      unfold nodeN at this
      unfold opN
      rw [this]; exact F.new.2.2.1
    have hrep : (replS L1 r.b.s A.length y).1 = A ++ opN L1 y :: Q := by
      unfold replS
      rw [if_pos hyk, if_pos ⟨by omega, by rw [hs]; simp; omega⟩, Int.toNat_natCast, hs, List.append_assoc]
      rw [List.set_append_right _ _ (Nat.le_refl _)]
      simp
    rw [o2, o3, hrep]
    have hab : ∀ k, ab (upN L1) r.last k y = false := ab_orph (by omega) (by rw [upN_g, F.new.1, if_neg (by decide), F.new.2.2.2.2.2.2]; decide)
    obtain ⟨L2, e2, H⟩ := app_hung F.gd (p := y) (i := r.last) (by omega) (by rw [F.new.1]; rfl) (by omega) (by rw [old _ l2, l3]; rfl) hab
    rw [e2]
    have rngN : ∀ i ∈ N, i < (r.b.L.length : Int) := fun i hi => by
      rcases h2 with ⟨_, G, h2⟩ | ⟨_, h2⟩
      · exact (h2.rng i hi).2
      · exact (h2.rng i hi).2
    have rngM : ∀ i ∈ M, i < (r.b.L.length : Int) := fun i hi => (h1.rng i hi).2
    have hle : r.b.L.length ≤ L1.length := by omega
    have g1 : Sp L1 (r.last :: Q') M v' := by
      rw [eQ] at h1
      exact h1.upd hle fun i hi => by rw [old i (rngM i hi)]; exact ⟨rfl, rfl⟩
    have g2 : (∃ G, Cx L1 (0 :: nds (A ++ [o]) ++ G) r.last N v) ∨ ((gN L1 r.last).parent = -1 ∧ Sp L1 (0 :: nds (A ++ [o])) N v) := by
      rcases h2 with ⟨e, G, h2⟩ | ⟨e, h2⟩
      · rw [e]
        exact .inl ⟨G, h2.upd hle fun i hi => by rw [old i (rngN i hi)]; exact ⟨rfl, rfl⟩⟩
      · exact .inr ⟨by rw [old _ l2]; exact e, h2.upd hle fun i hi => by rw [old i (rngN i hi)]; exact ⟨rfl, rfl⟩⟩
    obtain ⟨f1, f2, _⟩ := loose F.gd (by omega) (by rw [old _ l2, l3]; rfl) hn g1 (by simp) g2
    have hf := hung_free F.gd H (by omega) (by omega)
    have hlF : (freeN L1 r.last.toNat).length ≤ L2.length := by rw [freeN_len, H.len]; exact Nat.le_refl _
    have hks : ∀ t, t ≠ y → (gN L2 t).kids = (gN (freeN L1 r.last.toNat) t).kids ∧ (gN L2 t).text = (gN (freeN L1 r.last.toNat) t).text := fun t ht => by
      have := hf t
      rwa [if_neg ht] at this
    have q1 : Sp L2 (0 :: nds (A ++ [o])) N v := f1.upd hlF fun i hi => hks i (by have := rngN i hi; omega)
    have q2 : Sp L2 (r.last :: Q') M v' := f2.upd hlF fun i hi => hks i (by have := rngM i hi; omega)
    have hky : (gN L2 y).kids = [r.last] := by
      rw [H.kids, if_pos rfl, F.new.2.2.2.2.2.1]; rfl
    have hty : (gN L2 y).text = ⟨#[]⟩ := by rw [(H.same y).2.2.2, F.new.2.2.2.2.1]
    have q3 : Cx L2 [y] r.last (y :: ([] ++ [])) ((gN L2 y).text ++ ⟨#[]⟩ ++ ⟨#[]⟩) := .cons (by omega) (by rw [H.len]; omega) (by rw [hky]; rfl) .nil .nil
    rw [hty, ba_emp, ba_emp] at q3
    have q4 := Sp.join q3 q2
    rw [nil_ba] at q4
    refine ⟨opN L1 y :: Q, ⟨?_, rfl, ⟨opN L1 y, Q, rfl, rfl⟩, by have := h.bk; simp only [nds, List.map_cons, List.mem_cons]; exact .inr this, N, y :: M, v, v', ?_, hu, ?_, .inr ⟨?_, ?_⟩⟩, fun z hz => ?_⟩
    · have b1 : BT { ro.b with L := L1, l := (replN L1 ro.b.l (inwAt many o.node r) y).1 } := hB1.setl (fun x hx => (replN_mem hx).elim .inl fun e => .inr (by rw [e]; exact ⟨by have := h.bt.sk o (by rw [hs]; simp); omega, by show y < (L1.length : Int); omega, F.new.1⟩)) (by rw [replN_len]; exact o4.ln)
      have b2 := b1.sets (s' := A ++ opN L1 y :: Q) (fun z hz => by
        simp only [List.mem_append, List.mem_cons] at hz
        rcases hz with hz | rfl | hz
        · left; show z ∈ ro.b.s; rw [o2, hs]; simp [hz]
        · right; exact ⟨by show 1 ≤ y; omega, by show y < (L1.length : Int); omega, F.new.1, hyn⟩
        · left; show z ∈ ro.b.s; rw [o2, hs]; simp [hz]) (by simp only [List.length_append, List.length_cons]; omega)
      exact b2.hung H
    · rw [List.nodup_append] at hn ⊢
      refine ⟨hn.1, List.nodup_cons.2 ⟨fun hm => by have := rngM y hm; omega, hn.2.1⟩, fun a ha c hc e => ?_⟩
      rw [List.mem_cons] at hc
      rcases hc with rfl | hc
      · have := rngN a ha; omega
      · exact hn.2.2 a ha c hc e
    · show Sp L2 (nds (opN L1 y :: Q)) (y :: M) v'
      have : nds (opN L1 y :: Q) = y :: nds Q := rfl
      rw [this, eQ]
      exact q4
    · show (gN L2 y).parent = -1
      rw [H.par, if_neg (by omega), F.new.2.2.2.2.2.2]
    · refine Sp.dropl (x := o.node) ?_ (by simp)
      have : (0 :: nds A ++ [o.node] : List Int) = 0 :: nds (A ++ [o]) := by simp [nds]
      rw [this]; exact q1
    · simp only [List.mem_cons] at hz
      rcases hz with rfl | hz
      · right; show (r.b.L.length : Int) ≤ y; omega
      · exact .inl hz
theorem inwN_W {fmt : Int} {S1 : List OpS} {of : OpS} (hf : of.node = fmt) : ∀ (k : Nat) (X Q : List OpS) (many : Int) (r : IR), k = S1.length + 1 + X.length → IW blk u (S1 ++ of :: X) Q r → (∀ z ∈ X, z.node ≠ fmt) → ∃ Q', IW blk u (S1 ++ [of]) Q' (inwN fmt blk k many r)
  | 0, X, Q, many, r, hk, h, hx => by omega
  | k + 1, X, Q, many, r, hk, h, hx => by
    rw [inwN]
    rcases List.eq_nil_or_concat X with rfl | ⟨X', o, rfl⟩
    · have : k = S1.length := by simpa using hk
      rw [if_pos (by rw [h.s, this, gD_mid, hf])]
      exact ⟨Q, h⟩
    · rw [List.concat_eq_append] at hk h hx
      have hk2 : k = (S1 ++ of :: X').length := by simp at hk ⊢; omega
      have h' : IW blk u ((S1 ++ of :: X') ++ [o]) Q r := by rw [List.append_assoc]; exact h
      have eg : (r.b.s.getD k zS) = o := by rw [h'.s, hk2, gD_mid]
      rw [if_neg (by rw [eg]; exact hx o (by simp))]
      obtain ⟨Q', g, _⟩ := h'.step many
      rw [← hk2] at g
      exact inwN_W hf k X' Q' (many + 1) _ (by rw [hk2]; simp; omega) g fun z hz => hx z (by simp [hz])
end
end Go.Vk
end
section
set_option linter.unusedSimpArgs false
set_option linter.unusedVariables false
namespace Go.Vk
open Go Go.Proofs.YtgnnlaeikcnhcaaGreatDoor
theorem BT.place {b : BSt} (h : BT b) (t : Int) : placeB b t = (t, -1) := by
  have e1 : place1 b t = (t, -1) := by
    unfold place1
    rw [if_neg (by rw [h.fo]; simp)]
  unfold placeB
  rw [e1, if_neg]
  rintro ⟨_, hh⟩
  unfold htmlN at hh
  simp only [List.any_cons, List.any_nil, Bool.or_false, Bool.and_eq_true, decide_eq_true_eq] at hh
  have hk := hh.1
  by_cases ht : 0 ≤ t ∧ t < b.L.length
  · have := h.nm t
    rw [← nodeN_g ht] at this
    exact this.2.2 hh.2.2
  · have : nodeN b.L t = zN := by
      unfold nodeN
      have := nd?_isSome b.L t
      rw [decide_eq_false ht] at this
      simp only [Option.isSome_eq_false_iff, Option.isNone_iff_eq_none] at this
      rw [this]; rfl
    rw [this] at hk
    cases hk
theorem nds_app (A B : List OpS) : nds (A ++ B) = nds A ++ nds B := List.map_append
section
variable {blk : Int} {u : ByteArray} {S0 Q : List OpS} {r : IR} {oa of : OpS}
theorem IW.put (h : IW blk u (S0 ++ [oa, of]) Q r) : ∃ L', putB r.b r.last oa.node = { r.b with L := L' } ∧ BT { r.b with L := L' } ∧ L'.length = r.b.L.length ∧ ∃ N, N.Nodup ∧ Sp L' (0 :: nds (S0 ++ [oa]) ++ nds Q) N u := by
  obtain ⟨Q', eQ, l1, l2, l3⟩ := h.lastQ
  obtain ⟨xo1, xo2, xo3, xo4⟩ := h.bt.sk oa (by rw [h.s]; simp)
  obtain ⟨N, M, v, v', hn, hu, h1, h2⟩ := h.sp
  have hpl := h.bt.place oa.node
  have hput : putB r.b r.last oa.node = { r.b with L := (appendN r.b.L oa.node r.last).1 } := by
    unfold putB
    rw [hpl, if_neg (show ¬ (0 : Int) ≤ -1 by decide)]
  rw [hput]
  have hG := h.bt.gd
  rw [eQ] at h1
  have hlM : r.last ∈ M := h1.sub.mem (by simp)
  have hn' := hn
  rw [List.nodup_append] at hn'
  have hch : ∃ N1 s1, Cx r.b.L (0 :: nds S0) oa.node N1 s1 ∧ ∀ x ∈ (0 :: nds S0) ++ [oa.node], x ∈ N := by
    have e0 : (0 :: nds (S0 ++ [oa, of]) : List Int) = (0 :: nds S0) ++ oa.node :: [of.node] := by simp [nds]
    rcases h2 with ⟨_, G, h2⟩ | ⟨_, h2⟩
    · have hs := h2.sub
      rw [e0, List.append_assoc] at h2 hs
      obtain ⟨N1, _, s1, _, g1, _, _, _⟩ := h2.split
      refine ⟨N1, s1, g1, fun x hx => hs.mem ?_⟩
      simp only [List.mem_append, List.mem_cons, List.not_mem_nil, or_false] at hx ⊢
      rcases hx with (hx | hx) | hx
      · exact .inl (.inl hx)
      · exact .inl (.inr hx)
      · exact .inr (.inl (.inl hx))
    · have hs := h2.sub
      rw [e0] at h2 hs
      obtain ⟨N1, _, s1, _, g1, _, _, _⟩ := h2.split
      refine ⟨N1, s1, g1, fun x hx => hs.mem ?_⟩
      simp only [List.mem_append, List.mem_cons, List.not_mem_nil, or_false] at hx ⊢
      rcases hx with (hx | hx) | hx
      · exact .inl (.inl hx)
      · exact .inl (.inr hx)
      · exact .inr (.inl hx)
  obtain ⟨N1, s1, gC, hCN⟩ := hch
  have hlne : r.last ≠ oa.node := fun e => hn'.2.2 _ (hCN oa.node (by simp)) _ hlM e.symm
  have hab : ∀ k, ab (upN r.b.L) r.last k oa.node = false := gC.ab hG rfl (fun hm => hn'.2.2 _ (hCN _ hm) _ hlM rfl) fun x _ => h.bt.no6 x
  obtain ⟨L2, e2, H⟩ := app_hung hG (p := oa.node) (i := r.last) (by omega) (by rw [xo3]; rfl) (by omega) (by rw [l3]; rfl) hab
  rw [e2]
  refine ⟨L2, rfl, h.bt.hung H, H.len, N ++ M, hn, ?_⟩
  have g2 : (∃ G, Cx r.b.L (0 :: nds (S0 ++ [oa, of]) ++ G) r.last N v) ∨ ((gN r.b.L r.last).parent = -1 ∧ Sp r.b.L (0 :: nds (S0 ++ [oa, of])) N v) := by
    rcases h2 with ⟨e, G, h2⟩ | h2
    · rw [e]; exact .inl ⟨G, h2⟩
    · exact .inr h2
  obtain ⟨f1, f2, _⟩ := loose hG (by omega) (by rw [l3]; rfl) hn h1 (by simp) g2
  have hf := hung_free hG H (by omega) hlne
  have hlF : (freeN r.b.L r.last.toNat).length ≤ L2.length := by rw [freeN_len, H.len]; exact Nat.le_refl _
  have hks : ∀ t, t ≠ oa.node → (gN L2 t).kids = (gN (freeN r.b.L r.last.toNat) t).kids ∧ (gN L2 t).text = (gN (freeN r.b.L r.last.toNat) t).text := fun t ht => by
    have := hf t
    rwa [if_neg ht] at this
  have f3 : Sp (freeN r.b.L r.last.toNat) ((0 :: nds S0) ++ [oa.node]) N v := by
    refine Sp.dropl (x := of.node) ?_ (by simp)
    have : ((0 :: nds S0) ++ [oa.node] ++ [of.node] : List Int) = 0 :: nds (S0 ++ [oa, of]) := by simp [nds]
    rw [this]; exact f1
  have f4 : Cx L2 ((0 :: nds S0) ++ [oa.node]) r.last N v := f3.hook hlF hn'.1 (fun i _ hne => hks i hne) (by
    have := hf oa.node
    rwa [if_pos rfl] at this)
  have f5 : Sp L2 (r.last :: Q') M v' := f2.upd hlF fun i hi => hks i fun e => hn'.2.2 _ (hCN oa.node (by simp)) _ hi e.symm
  have f6 := Sp.join f4 f5
  rw [← hu] at f6
  have e9 : (0 :: nds (S0 ++ [oa]) ++ nds Q : List Int) = (0 :: nds S0) ++ [oa.node] ++ r.last :: Q' := by rw [eQ]; simp [nds]
  rw [e9]; exact f6
end
theorem hangAll_g {n : Nat} {a : Int} {b : Nat} (hne : a ≠ b) : ∀ {ks : List Int} {L : List Nd}, Mv n a b ks L → (gN L a).kids = ks → Gd (hangAll b ks L) ∧ (hangAll b ks L).length = L.length ∧
    ∀ t, ((gN (hangAll b ks L) t).kind = (gN L t).kind ∧ (gN (hangAll b ks L) t).name = (gN L t).name ∧ (gN (hangAll b ks L) t).attrs = (gN L t).attrs ∧ (gN (hangAll b ks L) t).text = (gN L t).text) ∧
      (gN (hangAll b ks L) t).kids = (if t = a then [] else if t = b then (gN L t).kids ++ ks else (gN L t).kids) ∧
      (gN (hangAll b ks L) t).parent = (if t ∈ ks then (b : Int) else (gN L t).parent)
  | [], L, h, hk => ⟨h.gd, rfl, fun t => ⟨⟨rfl, rfl, rfl, rfl⟩, by
      show (gN L t).kids = _
      by_cases e : t = a
      · rw [if_pos e, e, hk]
      · rw [if_neg e, List.append_nil, ite_self], by rw [if_neg (by simp)]; rfl⟩⟩
  | j :: l, L, h, hk => by
    obtain ⟨i, rfl, hi, hb, hbi, h'⟩ := h.head
    have hpi : (gN L i).parent = a := h.par i (by simp)
    have hg := gN_hang h.gd hi hb (-1)
    have hla : (gN (hangN L b (-1) i) a).kids = l := by
      rw [hg a]
      show (if a = (b : Int) then _ else (gN L a).kids.erase (i : Int)) = l
      rw [if_neg hne, hk]; simp
    obtain ⟨r1, r2, r3⟩ := hangAll_g hne h' hla
    refine ⟨r1, by rw [hangAll, Int.toNat_natCast, r2, hangN_len], fun t => ?_⟩
    obtain ⟨⟨s1, s2, s3, s4⟩, s5, s6⟩ := r3 t
    rw [hangAll, Int.toNat_natCast]
    rw [hg t] at s1 s2 s3 s4 s5 s6
    refine ⟨⟨s1, s2, s3, s4⟩, ?_, ?_⟩
    · rw [s5]
      by_cases e1 : t = a
      · rw [if_pos e1, if_pos e1]
      · rw [if_neg e1, if_neg e1]
        have hnk : (gN L t).kids.erase (i : Int) = (gN L t).kids := h.gd.nok (by rw [hpi]; exact fun e => e1 e.symm)
        by_cases e2 : t = b
        · simp only [if_pos e2]
          rw [hnk, addK_m1, List.append_assoc]; rfl
        · simp only [if_neg e2]
          rw [hnk]
    · rw [s6]
      show (if t ∈ l then (b : Int) else if t = (i : Int) then (b : Int) else (gN L t).parent) = _
      by_cases e1 : t = (i : Int)
      · rw [if_pos e1, ite_self, if_pos (by rw [e1]; simp)]
      · rw [if_neg e1]
        by_cases e2 : t ∈ l
        · rw [if_pos e2, if_pos (by simp [e2])]
        · rw [if_neg e2, if_neg (by simp [e1, e2])]
theorem ins_mid {L : List Nd} {A B : List OpS} {o : OpS} {y : Int} (hy : ((nd? L y).getD zN).kind = 3) (hl : (A ++ o :: B).length < 512) (h : ∀ z ∈ B, z.node ≠ o.node) : insS L (A ++ o :: B) (indexS (A ++ o :: B) o.node + 1) y = (A ++ o :: opN L y :: B, 0) := by
  unfold insS
  rw [if_pos hy, idx_mid h, if_pos ⟨by omega, by simp; omega⟩, if_neg (by omega)]
  have : ((A.length : Int) + 1).toNat = A.length + 1 := by omega
  rw [this]
  have e : A ++ o :: B = (A ++ [o]) ++ B := by simp
  have e2 : A.length + 1 = (A ++ [o]).length := by simp
  rw [e, e2, List.take_left, List.drop_left, List.append_assoc]
  rfl
section
variable {b : BSt} {blk : Int} {u : ByteArray} {S1 Q : List OpS} {of : OpS}
theorem BT.renew (h : BT b) (hs : b.s = S1 ++ of :: Q) (hsep : ∀ z ∈ Q, z.node ≠ of.node) {N : List Int} (hn : N.Nodup) (hS : Sp b.L (0 :: nds S1 ++ nds Q) N u) (hbk : blk ∈ nds Q) (mark : Int) :
    BT (renewB b of.node blk mark) ∧ (renewB b of.node blk mark).L.length = b.L.length + 1 ∧ (∃ Q', (renewB b of.node blk mark).s = S1 ++ Q' ∧ Q'.length = Q.length + 1) ∧ ∃ N, N.Nodup ∧ Sp (renewB b of.node blk mark).L (0 :: nds (renewB b of.node blk mark).s) N u := by
  obtain ⟨ob, hob, eb⟩ := List.mem_map.1 hbk
  obtain ⟨Y, R, eQ⟩ := List.append_of_mem hob
  obtain ⟨f1, f2, f3, f4⟩ := h.sk of (by rw [hs]; simp)
  obtain ⟨c1, c2, c3, c4⟩ := h.sk ob (by rw [hs]; simp [hob])
  have hsn := h.sn
  rw [hs] at hsn
  simp only [List.length_append, List.length_cons] at hsn
  obtain ⟨F, e1, hB⟩ := h.fresh (x := of.node) (by omega)
  rw [eb] at c1 c2 c3
  have hcn := hS.sub.nodup hn
  have eC : (0 :: nds S1 ++ nds Q : List Int) = (0 :: nds (S1 ++ Y)) ++ blk :: nds R := by rw [eQ, ← eb]; simp [nds]
  rw [eC] at hS hcn
  rw [List.nodup_append] at hcn
  obtain ⟨k1, k2, k3⟩ := hcn
  rw [List.nodup_cons] at k2
  have hzR : ∀ z ∈ R, z.node ≠ ob.node := fun z hz e => k2.1 (by rw [← eb, ← e]; exact List.mem_map_of_mem hz)
  unfold renewB
  dsimp only
  obtain ⟨L1, hL1⟩ : ∃ L1, L1 = (freshB b of.node).L := ⟨_, rfl⟩
  obtain ⟨y, hy⟩ : ∃ y, y = freshI_ b of.node := ⟨_, rfl⟩
  rw [← hL1, ← hy] at F
  rw [← hL1] at e1
  rw [← hy, e1]
  dsimp only
  have hB1 : BT { b with L := L1 } := by rw [← e1]; exact hB
  have hyL : y = (b.L.length : Int) := F.yl
  have hlen1 := F.len
  have old : ∀ t, t < (b.L.length : Int) → gN L1 t = gN b.L t := fun t ht => F.old t (by omega)
  -- Move
  have hab1 : ∀ k, ab (upN L1) blk k y = false := ab_orph (by omega) (by rw [upN_g, F.new.1, if_neg (by decide), F.new.2.2.2.2.2.2]; decide)
  obtain ⟨yn, hyn⟩ : ∃ yn : Nat, y = yn := ⟨y.toNat, by omega⟩
  have hmv : moveN L1 blk y = (hangAll yn (gN L1 blk).kids L1, 0) := by
    unfold moveN
    rw [if_pos ⟨by rw [holdsN_g, old _ c2, c3]; rfl, by rw [holdsN_g, F.new.1]; rfl, by unfold aboveN; rw [aboveF_ab]; exact hab1 _⟩, hyn, Int.toNat_natCast]
  have hMv : Mv L1.length blk (yn : Int) (gN L1 blk).kids L1 := Mv.of F.gd (by omega) (by omega) (by rw [← hyn]; unfold aboveN; rw [aboveF_ab]; exact hab1 _)
  obtain ⟨gd2, len2, G2⟩ := hangAll_g (by omega) hMv rfl
  rw [hmv]
  dsimp only
  generalize hangAll yn (gN L1 blk).kids L1 = L2 at *
  rw [← hyn] at G2
  have hk1 : (gN L1 blk).kids = (gN b.L blk).kids := by rw [old _ c2]
  have yk : y ∉ (gN L1 blk).kids := fun hm => by
    have := ((F.gd.kid blk y).1 hm).2
    rw [F.new.2.2.2.2.2.2] at this
    omega
  -- Append
  obtain ⟨N1, N2, u1, u2, gC, gS, eN, eu⟩ := hS.split
  have hchain : ∀ x ∈ (0 :: nds (S1 ++ Y)) ++ [blk], 0 ≤ x ∧ x < b.L.length ∧ (gN L2 x).parent = (gN b.L x).parent ∧ (gN L2 x).kind = (gN b.L x).kind := fun x hx => by
    have hxr : 0 ≤ x ∧ x < (b.L.length : Int) := by
      rcases List.mem_append.1 hx with hx | hx
      · exact gC.rng x (gC.sub.mem hx)
      · rw [List.mem_singleton] at hx; omega
    refine ⟨hxr.1, hxr.2, ?_, by rw [(G2 x).1.1, old _ hxr.2]⟩
    rw [(G2 x).2.2, old _ hxr.2, if_neg]
    intro hm
    have hpx := ((F.gd.kid blk x).1 hm).2
    rw [old _ hxr.2] at hpx
    rcases gC.par h.gd x hx with e | e
    · have e : x = 0 := e
      rw [e, h.gd.par0] at hpx; omega
    · rw [hpx] at e
      exact k3 _ e _ (by simp) rfl
  have hab2 : ∀ k, ab (upN L2) y k blk = false := fun k => by
    refine ab_closed (fun x => x ∈ (0 :: nds (S1 ++ Y)) ++ [blk]) (fun x hx => ?_) k blk (by simp)
    obtain ⟨x1, x2, x3, x4⟩ := hchain x hx
    refine ⟨by omega, ?_⟩
    rw [upN_g, x4, if_neg (h.no6 x), x3]
    rcases gC.par h.gd x hx with e | e
    · have e : x = 0 := e
      left; rw [e, h.gd.par0]; decide
    · right; simp only [List.mem_append]; exact .inl e
  obtain ⟨L3, e3, H⟩ := app_hung gd2 (p := blk) (i := y) (by rw [len2]; omega) (by rw [(G2 blk).1.1, old _ c2, c3]; rfl) (by rw [len2]; omega) (by rw [(G2 y).1.1, F.new.1]; rfl) hab2
  rw [e3]
  dsimp only
  have hpy : (gN L2 y).parent = -1 := by rw [(G2 y).2.2, if_neg yk, F.new.2.2.2.2.2.2]
  have hlen3 : L3.length = b.L.length + 1 := by rw [H.len, len2, hlen1]
  have txt3 : ∀ t, t < (b.L.length : Int) → (gN L3 t).text = (gN b.L t).text := fun t ht => by rw [(H.same t).2.2.2, (G2 t).1.2.2.2, old _ ht]
  have kid3 : ∀ t, 0 ≤ t → t < (b.L.length : Int) → t ≠ blk → (gN L3 t).kids = (gN b.L t).kids := fun t h0 ht hne => by
    rw [H.kids, if_neg hne, gd2.nok (by rw [hpy]; omega), (G2 t).2.1, if_neg hne, if_neg (by omega), old _ ht]
  have kidb : (gN L3 blk).kids = [y] := by
    rw [H.kids, if_pos rfl, (G2 blk).2.1, if_pos rfl]; try rfl
  have kidy : (gN L3 y).kids = (gN b.L blk).kids ∧ (gN L3 y).text = ⟨#[]⟩ := by
    refine ⟨?_, by rw [(H.same y).2.2.2, (G2 y).1.2.2.2, F.new.2.2.2.2.1]⟩
    rw [H.kids, if_neg (by omega), gd2.nok (by rw [hpy]; omega), (G2 y).2.1, if_neg (by omega), if_pos rfl, F.new.2.2.2.2.2.1, hk1]; try rfl
  have hB3 : BT { b with L := L3 } := by
    have h2 := hB1.tree (L' := L2) gd2 len2 fun t => ⟨(G2 t).1.1, (G2 t).1.2.1, (G2 t).1.2.2.1⟩
    exact h2.hung (L' := L3) H
  have hyk : (gN L3 y).kind = 3 := by rw [(H.same y).1, (G2 y).1.1, F.new.1]
  have hyk' : ((nd? L3 y).getD zN).kind = 3 := by
    have : nodeN L3 y = gN L3 y := nodeN_g (by omega)
    unfold nodeN at this
    rw [this]; exact hyk
  have hynm : (opN L3 y).name.size < 100 := by
    have : nodeN L3 y = gN L3 y := nodeN_g (by omega)
    unfold nodeN at this
    unfold opN
    rw [this]; exact (hB3.nm y).2.1
  -- the stack
  have hrem : (remS b.s of.node).1 = (S1 ++ Y) ++ ob :: R := by
    rw [hs, rem_mid hsep, eQ, List.append_assoc]
  have hl1 : ((S1 ++ Y) ++ ob :: R).length = S1.length + Q.length := by rw [eQ]; simp <;> omega
  rw [hrem]
  have hins : (insS L3 (S1 ++ Y ++ ob :: R) (indexS (S1 ++ Y ++ ob :: R) blk + 1) y).1 = S1 ++ Y ++ ob :: opN L3 y :: R := by
    rw [← eb, ins_mid hyk' (by omega) hzR]
  rw [hins]
  generalize lessM mark (indexN b.l of.node) = mk
  have hl4 : ∀ x ∈ (removeN b.l of.node).1, x ∈ b.l := fun x hx => remN_mem hx
  have hln4 : (removeN b.l of.node).1.length ≤ 64 := by have := removeN_len b.l of.node; have := h.ln; omega
  have hB4 : BT { b with L := L3, l := (insertL L3 (removeN b.l of.node).1 mk y).1 } := hB3.setl (fun x hx => by
    rcases insL_mem hx with e | e
    · exact .inl (hl4 x e)
    · rw [e]; exact .inr ⟨by omega, by show y < (L3.length : Int); omega, hyk⟩) (insL_len hln4)
  have hB5 := hB4.sets (s' := S1 ++ Y ++ ob :: opN L3 y :: R) (fun z hz => by
    have hz' : z ∈ S1 ∨ z ∈ Q ∨ z = opN L3 y := by
      rw [eQ]
      simp only [List.mem_append, List.mem_cons] at hz ⊢
      rcases hz with (hz | hz) | hz | hz | hz
      · exact .inl hz
      · exact .inr (.inl (.inl hz))
      · exact .inr (.inl (.inr (.inl hz)))
      · exact .inr (.inr hz)
      · exact .inr (.inl (.inr (.inr hz)))
    rcases hz' with hz | hz | rfl
    · left; show z ∈ b.s; rw [hs]; simp [hz]
    · left; show z ∈ b.s; rw [hs]; simp [hz]
    · right; exact ⟨by show 1 ≤ y; omega, by show y < (L3.length : Int); omega, hyk, hynm⟩) (by
    have : (S1 ++ Y ++ ob :: opN L3 y :: R).length = (S1 ++ Y ++ ob :: R).length + 1 := by simp; omega
    rw [this, hl1]; omega)
  refine ⟨hB5, hlen3, ⟨Y ++ ob :: opN L3 y :: R, by rw [List.append_assoc], by rw [eQ]; simp; omega⟩, ?_⟩
  -- the texts
  rw [eN, List.nodup_append] at hn
  obtain ⟨hn1, hn2, hn3⟩ := hn
  have hle : b.L.length ≤ L3.length := by omega
  have hbN2 : blk ∈ N2 := gS.sub.mem (by simp)
  have gC3 : Cx L3 (0 :: nds (S1 ++ Y)) blk N1 u1 := gC.upd hle fun i hi => by
    obtain ⟨r1, r2⟩ := gC.rng i hi
    exact ⟨kid3 i r1 r2 fun e => hn3 i hi _ hbN2 e, txt3 i r2⟩
  obtain ⟨M, eM, gS3⟩ := gS.wrap hle hn2 (y := y) (by omega) (fun i hi hne => by
    obtain ⟨r1, r2⟩ := gS.rng i hi
    exact ⟨kid3 i r1 r2 hne, txt3 i r2⟩) ⟨kidb, txt3 _ c2⟩ kidy
  refine ⟨N1 ++ blk :: y :: M, ?_, ?_⟩
  · rw [eM] at hn2 hn3
    rw [List.nodup_cons] at hn2
    have ry1 : y ∉ N1 := fun hm => by have := (gC.rng y hm).2; omega
    have ry2 : y ∉ M := fun hm => by have := (gS.rng y (by rw [eM]; simp [hm])).2; omega
    rw [List.nodup_append]
    refine ⟨hn1, List.nodup_cons.2 ⟨?_, List.nodup_cons.2 ⟨ry2, hn2.2⟩⟩, fun a ha c hc e => ?_⟩
    · simp only [List.mem_cons, not_or]
      exact ⟨by omega, hn2.1⟩
    · simp only [List.mem_cons] at hc
      rcases hc with hc | hc | hc
      · exact hn3 a ha c (by simp [hc]) e
      · exact ry1 (by rw [← hc, ← e]; exact ha)
      · exact hn3 a ha c (by simp [hc]) e
  · have := Sp.join gC3 gS3
    rw [eu]
    have e9 : (0 :: nds (S1 ++ Y ++ ob :: opN L3 y :: R) : List Int) = (0 :: nds (S1 ++ Y)) ++ blk :: y :: nds R := by rw [← eb]; simp [nds, opN]
    rw [e9]; exact this
end
end Go.Vk
end
section
set_option linter.unusedSimpArgs false
set_option linter.unusedVariables false
namespace Go.Vk
open Go Go.Proofs.YtgnnlaeikcnhcaaGreatDoor
theorem Sp.pre {L : List Nd} {C D N : List Int} {u : ByteArray} (h : Sp L (C ++ D) N u) (hc : C ≠ []) : Sp L C N u := by
  rcases List.eq_nil_or_concat C with rfl | ⟨B, p, rfl⟩
  · exact absurd rfl hc
  · rw [List.concat_eq_append] at h ⊢
    rw [List.append_assoc] at h
    exact h.take _ rfl
/-- all texts of a builder, in order; html is what is open first -/
structure AT (b : BSt) (u : ByteArray) : Prop where
  bt : BT b
  s1 : ∃ h r, b.s = h :: r ∧ h.node = 1
  sp : ∃ N, N.Nodup ∧ Sp b.L (0 :: nds b.s) N u
theorem AT.setl {b : BSt} {u : ByteArray} (h : AT b u) (i : Int) : AT { b with l := (removeN b.l i).1 } u :=
  ⟨h.bt.setl (fun x hx => .inl (remN_mem hx)) (by have := removeN_len b.l i; have := h.bt.ln; omega), h.s1, h.sp⟩
theorem AT.take {b : BSt} {u : ByteArray} (h : AT b u) {k : Nat} (hk : 0 < k) : AT (toB b k) u := by
  refine ⟨h.bt.sets (fun o ho => .inl (List.mem_of_mem_take ho)) ?_, ?_, ?_⟩
  · rw [List.length_take]; have := h.bt.sn; omega
  · obtain ⟨o, r, e, e2⟩ := h.s1
    refine ⟨o, r.take (k - 1), ?_, e2⟩
    show b.s.take k = _
    rw [e]
    obtain ⟨m, rfl⟩ : ∃ m, k = m + 1 := ⟨k - 1, by omega⟩
    rw [List.take_succ_cons, Nat.add_sub_cancel]
  · obtain ⟨N, hn, hS⟩ := h.sp
    refine ⟨N, hn, Sp.pre (D := nds (b.s.drop k)) ?_ (by simp)⟩
    have : (0 :: nds (toB b k).s ++ nds (b.s.drop k) : List Int) = 0 :: nds b.s := by
      show (0 :: (nds (b.s.take k) ++ nds (b.s.drop k)) : List Int) = _
      rw [← nds_app, List.take_append_drop]
    rw [this]; exact hS
theorem lastName_mem {L : List Nd} {l : List Int} {s : ByteArray} (h : 0 ≤ lastName L l s) : lastName L l s ∈ l := by
  unfold lastName at h ⊢
  split
  · rename_i hh; rw [if_pos hh] at h; omega
  · rename_i hh
    obtain ⟨q, h1, h2, _, _⟩ := Go.Proofs.YtgnnlaeikcnhcaaGreatDoor.lastF_sat _ _ _ _ (Int.not_lt.1 hh)
    rw [h1, Int.toNat_natCast, List.getD_eq_getElem?_getD, List.getElem?_eq_getElem h2]
    exact List.getElem_mem h2
theorem stk_at {s : List OpS} {k : Nat} (h : k < s.length) : ∃ A o B, s = A ++ o :: B ∧ A.length = k ∧ s.getD k zS = o ∧ A = s.take k ∧ B = s.drop (k + 1) :=
  ⟨s.take k, s[k], s.drop (k + 1), by simp, by rw [List.length_take]; omega, gD_lt h, rfl, rfl⟩
theorem AT.once {b : BSt} {u : ByteArray} (h : AT b u) (x : ByteArray) : AT (onceB b x).1 u ∧ (onceB b x).1.s.length ≤ b.s.length ∧ (onceB b x).1.L.length ≤ b.L.length + 2 * b.s.length + 1 := by
  obtain ⟨fmt, hf⟩ : ∃ f, f = lastName b.L b.l x := ⟨_, rfl⟩
  unfold onceB
  dsimp only
  rw [← hf]
  split
  · exact ⟨h, Nat.le_refl _, by show b.L.length ≤ _; omega⟩
  rename_i h0
  split
  · exact ⟨h.setl _, Nat.le_refl _, by show b.L.length ≤ _; omega⟩
  rename_i h1
  split
  · exact ⟨h, Nat.le_refl _, by show b.L.length ≤ _; omega⟩
  have hfl : fmt ∈ b.l := by rw [hf]; exact lastName_mem (by rw [← hf]; omega)
  obtain ⟨hf2, hf3, hf4⟩ := h.bt.l fmt hfl
  obtain ⟨f, hfk⟩ : ∃ f : Nat, indexS b.s fmt = f := ⟨(indexS b.s fmt).toNat, by omega⟩
  obtain ⟨hn1, hn2⟩ := indexS_is (s := b.s) (i := fmt) (by omega)
  rw [hfk, Int.toNat_natCast] at hn1 hn2
  obtain ⟨h1', r1, es, eh⟩ := h.s1
  have hfpos : 0 < f := by
    rcases Nat.eq_zero_or_pos f with e | e
    · rw [e, es] at hn1
      have : h1'.node = fmt := hn1
      omega
    · exact e
  rw [hfk, Int.toNat_natCast]
  split
  · refine ⟨(h.take hfpos).setl _, ?_, ?_⟩
    · show (b.s.take f).length ≤ _
      rw [List.length_take]; omega
    · show b.L.length ≤ _; omega
  rename_i h3
  obtain ⟨blk, hb⟩ : ∃ k, k = furB b f := ⟨_, rfl⟩
  obtain ⟨j, hj1, hj2, hj3⟩ := furN_at b (b.s.length - (f + 1)) (f + 1) (by show 0 ≤ furB b f; omega)
  have hj3 : (b.s.getD j zS).node = blk := hj3.trans hb.symm
  rw [← hb]
  -- the stack's parts
  obtain ⟨S1, of, T, e1, lS1, eof, eS1, _⟩ := stk_at hn2
  rw [eof] at hn1
  have hjT : j - (f + 1) < T.length := by rw [e1] at hj2; simp at hj2; omega
  obtain ⟨X, ob, R, e2, lX, eob, _, _⟩ := stk_at hjT
  have ej : (b.s.getD j zS) = ob := by
    rw [← eob, e1, List.getD_eq_getElem?_getD, List.getElem?_append_right (by omega), List.getD_eq_getElem?_getD]
    have : j - S1.length = (j - (f + 1)) + 1 := by omega
    rw [this, List.getElem?_cons_succ]
  rw [ej] at hj3
  obtain ⟨S0, oa, eS0⟩ : ∃ S0 oa, S1 = S0 ++ [oa] := by
    rcases List.eq_nil_or_concat S1 with e | ⟨S0, oa, e⟩
    · rw [e] at lS1; simp at lS1; omega
    · exact ⟨S0, oa, by rw [e, List.concat_eq_append]⟩
  have hat : atS b.s ((f : Int) - 1) = oa.node := by
    have lS0 : S0.length + 1 = f := by rw [← lS1, eS0]; simp
    unfold atS
    rw [if_pos (by omega)]
    have : ((f : Int) - 1).toNat = S0.length := by omega
    rw [this, e1, eS0, List.append_assoc, List.getD_eq_getElem?_getD]
    simp
  obtain ⟨N, hnN, hS⟩ := h.sp
  have eC : (0 :: nds b.s : List Int) = (0 :: nds (S1 ++ of :: X)) ++ blk :: nds R := by rw [e1, e2, ← hj3]; simp [nds]
  rw [eC] at hS
  have hcn := hS.sub.nodup hnN
  have hcn2 : (nds b.s).Nodup := by
    rw [← eC] at hcn
    exact (List.nodup_cons.1 hcn).2
  have hbR : ∀ z ∈ R, z.node ≠ ob.node := fun z hz e => by
    rw [List.nodup_append] at hcn
    exact (List.nodup_cons.1 hcn.2.1).1 (by rw [← hj3, ← e]; exact List.mem_map_of_mem hz)
  have hXf : ∀ z ∈ X, z.node ≠ fmt := fun z hz e => by
    rw [e1, e2] at hcn2
    have : nds (S1 ++ of :: (X ++ ob :: R)) = nds S1 ++ of.node :: (nds X ++ nds (ob :: R)) := by simp [nds]
    rw [this, List.nodup_append] at hcn2
    exact (List.nodup_cons.1 hcn2.2.1).1 (by rw [hn1, ← e]; exact List.mem_append_left _ (List.mem_map_of_mem hz))
  have hbs : b.s = (S1 ++ of :: X) ++ ob :: R := by rw [e1, e2]; simp
  have hix : indexS b.s blk = ((S1 ++ of :: X).length : Int) := by rw [hbs, ← hj3, idx_mid hbR]
  obtain ⟨N1, N2, u1, u2, gC, gS, eN, eu⟩ := hS.split
  have hI : IW blk u (S1 ++ of :: X) (ob :: R) ⟨b, blk, indexN b.l fmt⟩ := by
    refine ⟨h.bt, hbs, ⟨ob, R, rfl, hj3⟩, by rw [← hj3]; simp [nds], N1, N2, u1, u2, by rw [← eN]; exact hnN, eu, ?_, .inl ⟨rfl, [], ?_⟩⟩
    · have : nds (ob :: R) = blk :: nds R := by rw [← hj3]; rfl
      rw [this]; exact gS
    · rw [List.append_nil]; exact gC
  obtain ⟨Q', g⟩ := inwN_W hn1 (S1 ++ of :: X).length X (ob :: R) 1 _ (by simp; omega) hI hXf
  obtain ⟨le1, le2, le3⟩ := inwN_le (fmt := fmt) (blk := blk) (S1 ++ of :: X).length 1 ⟨b, blk, indexN b.l fmt⟩
  have hRi : inwR b fmt blk = inwN fmt blk (S1 ++ of :: X).length 1 ⟨b, blk, indexN b.l fmt⟩ := by unfold inwR; rw [hix, Int.toNat_natCast]
  unfold onceR
  rw [hRi, hat]
  generalize inwN fmt blk (S1 ++ of :: X).length 1 ⟨b, blk, indexN b.l fmt⟩ = r at *
  dsimp only at le1 le3
  have hsep := g.sep
  have gs := g.s
  have gb := g.bk
  have lj : (S1 ++ of :: X).length ≤ b.s.length := by rw [hbs]; simp
  rw [eS0, List.append_assoc] at g
  obtain ⟨L', eP, bP, lP, N', hn', hS'⟩ := g.put
  rw [eP]
  have hs' : ({ r.b with L := L' } : BSt).s = S1 ++ of :: Q' := by
    show r.b.s = _
    rw [gs]; simp
  rw [← eS0] at hS'
  obtain ⟨q1, q2, ⟨Q2, q3, q4⟩, q5⟩ := bP.renew hs' (fun z hz => hsep z hz of (by simp)) hn' hS' gb r.mark
  rw [hn1] at q1 q2 q3 q5
  refine ⟨⟨q1, ?_, q5⟩, ?_, ?_⟩
  · refine ⟨h1', r1.take (f - 1) ++ Q2, ?_, eh⟩
    show (renewB { r.b with L := L' } fmt blk r.mark).s = _
    rw [q3, eS1, es]
    obtain ⟨m, rfl⟩ : ∃ m, f = m + 1 := ⟨f - 1, by omega⟩
    rw [List.take_succ_cons, Nat.add_sub_cancel]; rfl
  · show (renewB { r.b with L := L' } fmt blk r.mark).s.length ≤ _
    rw [q3]
    rw [gs] at le1
    simp only [List.length_append, List.length_cons, List.length_nil] at le1 ⊢
    omega
  · show (renewB { r.b with L := L' } fmt blk r.mark).L.length ≤ _
    rw [q2]
    show L'.length + 1 ≤ _
    omega
theorem AT.ok {b : BSt} {u : ByteArray} (h : AT b u) (hl : b.L.length < 80000) : AdOk b := by
  have hn : ∀ n ∈ b.L, n.attrs = [] ∧ n.name.size < 100 := fun n hn => by
    obtain ⟨k, hk, e⟩ := List.getElem_of_mem hn
    have := h.bt.nm (k : Int)
    rw [gN_nat (by rw [List.getElem?_eq_getElem hk, e])] at this
    exact ⟨this.1, this.2.1⟩
  have h1 := h.bt.sn
  have h2 := h.bt.ln
  exact ⟨⟨by omega, fun n hm => by rw [(hn n hm).1]; decide, by omega, by omega⟩, by omega, by omega, by omega, fun n hm => by have := (hn n hm).2; omega, fun o ho => by have := (h.bt.sk o ho).2.2.2; omega⟩
theorem AT.adopt {x : ByteArray} {u : ByteArray} : ∀ (n : Nat) {b : BSt}, AT b u → b.L.length + n * (2 * b.s.length + 1) < 80000 → runOk x n b ∧ AT (adoptN x n b).1 u ∧ (adoptN x n b).1.s.length ≤ b.s.length ∧ (adoptN x n b).1.L.length ≤ b.L.length + n * (2 * b.s.length + 1)
  | 0, b, h, hl => ⟨trivial, h, Nat.le_refl _, by show b.L.length ≤ _; omega⟩
  | n + 1, b, h, hl => by
    obtain ⟨g1, g2, g3⟩ := h.once x
    have e : (n + 1) * (2 * b.s.length + 1) = n * (2 * b.s.length + 1) + (2 * b.s.length + 1) := Nat.succ_mul _ _
    rw [e] at hl ⊢
    have hm : n * (2 * (onceB b x).1.s.length + 1) ≤ n * (2 * b.s.length + 1) := Nat.mul_le_mul_left _ (by omega)
    have ih := AT.adopt (x := x) n g1 (by omega)
    have hA := h.ok (by omega)
    refine ⟨⟨hA, fun _ _ => ih.1⟩, ?_⟩
    rw [adoptN]
    split
    · exact ⟨g1, g2, by show (onceB b x).1.L.length ≤ _; omega⟩
    · split
      · exact ⟨g1, g2, by show (onceB b x).1.L.length ≤ _; omega⟩
      · exact ⟨ih.2.1, by omega, by omega⟩
theorem AT.run {b : BSt} {u x : ByteArray} (h : AT b u) (hx : x ≠ sHtml) (hl : b.L.length + 8 * (2 * b.s.length + 1) < 80000) : runOk x 8 b ∧ AT (runB b x).1 u ∧ (runB b x).1.s.length ≤ b.s.length ∧ (runB b x).1.L.length ≤ b.L.length + 8 * (2 * b.s.length + 1) := by
  obtain ⟨g1, g2, g3, g4⟩ := h.adopt (x := x) 8 hl
  refine ⟨g1, ?_⟩
  unfold runB
  split
  · rename_i hh
    obtain ⟨o, r, e, e2⟩ := h.s1
    have hlen : 2 ≤ b.s.length := by
      rcases r with _ | ⟨o2, r⟩
      · exfalso
        have ht : topS b.s = 1 := by rw [topS_eq, e]; exact e2
        have hh1 := hh.1
        unfold isB curB at hh1
        obtain ⟨z1, z2, _⟩ := h.bt.sk o (by rw [e]; simp)
        rw [ht, nodeN_g (by omega)] at hh1
        unfold htmlN at hh1
        simp only [List.any_cons, List.any_nil, Bool.or_false, Bool.and_eq_true, decide_eq_true_eq] at hh1
        rw [h.bt.hn] at hh1
        exact hx hh1.2.2.symm
      · rw [e]; simp
    have ed : b.s.dropLast = b.s.take (b.s.length - 1) := List.dropLast_eq_take
    have := h.take (k := b.s.length - 1) (by omega)
    refine ⟨?_, ?_, ?_⟩
    · show AT { b with s := b.s.dropLast } u
      rw [ed]; exact this
    · show b.s.dropLast.length ≤ _
      rw [ed, List.length_take]; omega
    · show b.L.length ≤ _; omega
  · exact ⟨g2, g3, g4⟩
end Go.Vk
end
section
set_option linter.unusedSimpArgs false
set_option linter.unusedVariables false
namespace Go.Vk
open Go
def zRow : Array Value := #[.pointer none, .pointer none, .pointer none, .int .i64 0, .int .i64 0, .slice none 0 0, .int .i64 0, .int .i64 0, .bool false, .bool false, .bool false, .string ⟨#[]⟩, .pointer none, .nilIface]
def NoB (w : World) (pv : Option Addr) : Prop := pv = none ∨ ∃ pb, pv = some ⟨pb, 0, none⟩ ∧ w.heap[pb]? = some (.cells zRow 67 (0, 0))
theorem NoB.ext {w w' : World} {pv : Option Addr} (h : NoB w pv) (hx : Ext w w') : NoB w' pv := h.imp id fun ⟨pb, e, h⟩ => ⟨pb, e, hx.blk h⟩
end Go.Vk
end
section
set_option linter.unusedSimpArgs false
set_option linter.unusedVariables false
namespace Go.Vk
open Go Go.RowKit Go.WideShapes Go.ChangeShapes
variable {H : Type} {enc : TypeId × Value → H} {P : Program}
theorem Ext.below {w w' : World} (h : Ext w w') : Below w.heap.size w w' := ⟨h.alike.os, h.alike.tape, h.alike.output, h.alike.size, fun _ hk => h.heap hk⟩
theorem post_ext {f : Func} {s : ChangeSpec} {apart fresh handsOn again : Bool} {W W' : World} {args : Array Value} {v : Value} {ds gs : List (DataW H)} {before pa pv : List MemPlace}
    (hW : DataW.Whole enc P f.params.toList s.vars apart W args.toList ds gs before)
    (hres : ∀ (b : Nat) (sp : Nat → Bool) (hd : Bool), DataW.TrodAll enc P W' b sp hd f.resultTypes.toList (v.resultList f.resultTypes.size) (s.fn H (ds ++ gs)).results [])
    (hargs : ∀ sp : Nat → Bool, (∀ p ∈ before, sp p.block = true) → DataW.TrodAll enc P W' 0 sp true f.params.toList args.toList (s.fn H (ds ++ gs)).args pa)
    (hvars : ∀ sp : Nat → Bool, (∀ p ∈ before, sp p.block = true) → DataW.TrodVars enc P W' sp s.vars (s.fn H (ds ++ gs)).vars pv)
    (hps : before = pa ++ pv) (hx : Ext W W')
    (hok : ∀ (j : Nat) (t : TypeId) (r : Value), f.resultTypes[j]? = some t → (v.resultList f.resultTypes.size)[j]? = some r → Value.okWide P W' .any 0 t r) :
    s.post enc P f apart fresh handsOn again W args v W' := by
  subst hps
  have hb := hx.below
  have lt : ∀ p ∈ pa ++ pv, p.block < W.heap.size := fun p hp => hW.lt p hp
  have old : ∀ p ∈ pa ++ pv, (fun b => decide (b < W.heap.size)) p.block = true := fun p hp => by simpa using lt p hp
  refine ⟨ds, gs, pa ++ pv, [], pa, pv, hW, hres _ _ _, hargs _ old, hvars _ old, World.keptBut_mono (fun p hp => ⟨hp, .inr (List.mem_append.1 hp)⟩) (hb.frame (· ∈ pa ++ pv)), fun _ => ?_⟩
  obtain ⟨_, _, _, _, _, hz, hn⟩ := hW
  refine ⟨hok, _, _, ([] ++ pa) ++ pv, ⟨[] ++ pa, pv, trodAll_append (hargs _ fun _ _ => rfl) (hres _ _ _), hvars _ fun _ _ => rfl, rfl, fun b off hp => ?_, fun ha => by simpa using hn ha⟩, fun p hp _ => by simpa using hp⟩
  have hin : MemPlace.cell b off ∈ pa ++ pv := by simpa using hp
  rw [hb.frozen (lt _ hin)]
  exact hz b off hin
end Go.Vk
end
section
set_option linter.unusedSimpArgs false
set_option linter.unusedVariables false
namespace Go.Vk
open Go Go.RowKit Go.WideShapes Go.ChangeShapes
variable {H : Type} {enc : TypeId × Value → H} {P : Program}
theorem stays_all (hl : laidOutB P = true) {W W' : World} (hx : Ext W W') {sp : Nat → Bool} : ∀ {ts : List TypeId} {vs : List Value} {ds : List (DataW H)} {ps : List MemPlace},
    DataW.TrodAll enc P W 0 (fun _ => true) true ts vs ds ps → (ts.all fun t => P.readableRec t && decide (t < P.types.size)) = true → (∀ p ∈ ps, p.block < W.heap.size) → (∀ p ∈ ps, sp p.block = true) →
    DataW.TrodAll enc P W' 0 sp true ts vs ds ps
  | [], vs, ds, ps, h, _, _, _ => by
    obtain ⟨rfl, rfl, rfl⟩ := trodAll_nil h
    exact trodAll_mk0
  | t :: ts, vs, ds, ps, h, ht, hlt, hs => by
    obtain ⟨v, vs', d, ds', p, q, rfl, rfl, rfl, h0, hr⟩ := trodAll_cons h
    simp only [List.all_cons, Bool.and_eq_true, decide_eq_true_eq] at ht
    exact trodAll_cons_mk (WideElems.Trod_stays hl ht.1.1 ht.1.2 h0 (fun x hx' => hx.below.same (hlt x (by simp [hx']))) (fun x hx' => hs x (by simp [hx'])))
      (stays_all hl hx hr (by simpa using ht.2) (fun x hx' => hlt x (by simp [hx'])) (fun x hx' => hs x (by simp [hx'])))
theorem law_post {f : Func} {s : ChangeSpec} {fresh handsOn again : Bool} {W W' : World} {args : Array Value} {ds gs : List (DataW H)} {before : List MemPlace} {tb : TypeId}
    (hl : laidOutB P = true) (hts : (f.params.toList.all fun t => P.readableRec t && decide (t < P.types.size)) = true) (hb : P.underlying tb = some .bool) (hres : f.resultTypes = #[tb])
    (hvars : s.vars = []) (hfn : s.fn H (ds ++ gs) = { results := [.lit (.bool true)], args := ds })
    (hW : DataW.Whole enc P f.params.toList s.vars false W args.toList ds gs before) (hx : Ext W W') :
    s.post enc P f false fresh handsOn again W args (.bool true) W' := by
  have hlt : ∀ p ∈ before, p.block < W.heap.size := fun p hp => hW.lt p hp
  have hW' := hW
  obtain ⟨p, q, hA, hV, rfl, hfz, hnd⟩ := hW
  rw [hvars] at hV
  obtain ⟨rfl, rfl⟩ := trodVars_none hV
  rw [List.append_nil] at *
  refine post_ext (pa := p) (pv := []) hW' (fun b sp hd => ?_) (fun sp hs => ?_) (fun sp hs => ?_) (by simp) hx (fun j t r hj hv => ?_)
  · rw [hres, List.append_nil, hfn]
    exact trodAll_cons_mk (shut_bool hb _) trodAll_mk0
  · rw [List.append_nil, hfn]
    exact stays_all hl hx hA hts hlt hs
  · rw [List.append_nil, hfn, hvars]; rfl
  · rw [hres] at hj hv
    match j, hj, hv with
    | 0, hj, hv =>
      simp [Value.resultList] at hj hv
      subst hj; subst hv
      exact okWide_bool_mk hb _
/-- a slice that was handed in: what it reads -/
theorem rd_of {W : World} {a : Addr} {n c : Nat} {l : List Value} {es : Nat} (hn : n ≤ c) (hl : l.length = n * es) (hc : ∀ i, i < l.length → W.cell? (a.add i) = l[i]?) : RdAt W es (.slice (some a) n c) l := by
  refine ⟨some a, n, c, rfl, hn, hl, fun i u hu => ?_⟩
  have hi := (List.getElem?_eq_some_iff.1 hu).1
  have h0 := hc 0 (by omega)
  have hs : a.spot = none := by
    rw [List.getElem?_eq_getElem (by omega)] at h0
    simp only [Addr.add, if_pos] at h0
    cases hsp : a.spot with
    | none => rfl
    | some x =>
      exfalso
      unfold World.cell? at h0
      rw [hsp] at h0
      cases hb : W.heap[a.block]? with
      | none => rw [hb] at h0; cases h0
      | some o => rw [hb] at h0; cases o <;> simp at h0
  obtain ⟨b, o, s⟩ := a
  simp only at hs
  subst hs
  refine ⟨b, o, rfl, ?_⟩
  rw [← hu, ← hc i hi, add_mk]
end Go.Vk
end
section
set_option linter.unusedSimpArgs false
set_option linter.unusedVariables false
namespace Go.Vk
def NA (w : World) (v : Value) : Prop := v = .pointer none ∨ ∃ pa t, v = .pointer (some ⟨pa, 0, none⟩) ∧ w.heap[pa]? = some (.cells #[.slice none 0 0] t (0, 0))
theorem NA.ext {w w' : World} {v : Value} (h : NA w v) (hx : Ext w w') : NA w' v := by
  rcases h with h | ⟨pa, t, h1, h2⟩
  · exact .inl h
  · exact .inr ⟨pa, t, h1, hx.blk h2⟩
end Go.Vk
end
section
set_option linter.unusedSimpArgs false
set_option linter.unusedVariables false
namespace Go.Vk
structure ActD where
  kd : Int
  i : Int
  j : Int
  m : Laid
def ActD.cells (x : ActD) : List Value := [.int .u8 x.kd, .int .i64 x.i, .int .i64 x.j, .int .i64 x.m.nd.kind, .string x.m.nd.name, .string x.m.nd.text, .int .i64 x.m.nd.space, x.m.av, .bool x.m.nd.dup, .int .i64 x.m.nd.parent, .int .i64 x.m.nd.content, x.m.kv, .int .i64 x.m.nd.frm, .int .i64 x.m.nd.to]
def ActD.val (x : ActD) : Value := .agg #[.int .u8 x.kd, .int .i64 x.i, .int .i64 x.j, .int .i64 x.m.nd.kind, .string x.m.nd.name, .string x.m.nd.text, .int .i64 x.m.nd.space, x.m.av, .bool x.m.nd.dup, .int .i64 x.m.nd.parent, .int .i64 x.m.nd.content, x.m.kv, .int .i64 x.m.nd.frm, .int .i64 x.m.nd.to]
end Go.Vk
end
section
set_option linter.unusedSimpArgs false
set_option linter.unusedVariables false
namespace Go.Vk
def ActsAt (w : World) (v : Value) (l : List ActD) : Prop := ∃ a c, v = .slice a l.length c ∧ l.length ≤ c ∧ ∀ k x, l[k]? = some x → ∃ b o, a = some ⟨b, o, none⟩ ∧ (∀ j, j < 14 → w.cell? ⟨b, o + k * 14 + j, none⟩ = x.cells[j]?) ∧ RdAt w 2 x.m.av (attrCells x.m.nd.attrs) ∧ ∃ ka kn kc, x.m.kv = .slice ka kn kc
theorem ActD.cells_get (x : ActD) {j : Nat} (hj : j < 14) : ∃ v, x.cells[j]? = some v := ⟨_, List.getElem?_eq_getElem (show j < x.cells.length from hj)⟩
theorem ActsAt.ext {w w' : World} {v : Value} {l : List ActD} (h : ActsAt w v l) (hx : Ext w w') : ActsAt w' v l := by
  obtain ⟨a, c, h1, h2, h3⟩ := h
  refine ⟨a, c, h1, h2, fun k x hk => ?_⟩
  obtain ⟨b, o, g1, g2, g3, g4⟩ := h3 k x hk
  refine ⟨b, o, g1, fun j hj => ?_, g3.ext hx, g4⟩
  obtain ⟨u, hu⟩ := x.cells_get hj
  rw [hu, cell_ext hx ((g2 j hj).trans hu)]
end Go.Vk
end
section
set_option linter.unusedSimpArgs false
set_option linter.unusedVariables false
namespace Go.Vk
theorem NA.set {w : World} {v : Value} {p o : Nat} {u : Value} {cs : Array Value} {t : TypeId} (h : NA w v) (hp : w.heap[p]? = some (.cells cs t (0, 0))) (hs : cs.size = 14) : NA (w.setCell ⟨p, o, none⟩ u) v := by
  rcases h with h | ⟨pa, t', h1, h2⟩
  · exact .inl h
  · refine .inr ⟨pa, t', h1, ?_⟩
    have hne : ¬ pa = p := fun e => by
      subst e
      rw [h2] at hp
      cases hp
      simp at hs
    rw [heap_set_h, if_neg hne]; exact h2
def ActD.row (x : ActD) (k : Int) : Array Value := #[.int .u8 k, .int .i64 x.i, .int .i64 x.j, .int .i64 x.m.nd.kind, .string x.m.nd.name, .string x.m.nd.text, .int .i64 x.m.nd.space, x.m.av, .bool x.m.nd.dup, .int .i64 x.m.nd.parent, .int .i64 x.m.nd.content, x.m.kv, .int .i64 x.m.nd.frm, .int .i64 x.m.nd.to]
end Go.Vk
end
section
set_option linter.unusedSimpArgs false
set_option linter.unusedVariables false
namespace Go.Vk
open Go Go.Proofs.YtgnnlaeikcnhcaaGreatDoor
def adOkb (b : BSt) : Bool := okb b && (decide (b.L.length + 2 * b.s.length + 6 < 80000) && (decide (b.s.length + 2 < 10000) && (decide (b.l.length + 2 < 10000) && b.s.all fun o => decide (o.name.size < 4294967281))))
theorem adOkb_ok {b : BSt} (h : adOkb b = true) : AdOk b := by
  simp only [adOkb, Bool.and_eq_true, decide_eq_true_eq, List.all_eq_true] at h
  obtain ⟨h1, h2, h3, h4, h5⟩ := h
  obtain ⟨k1, _, _, k2, _⟩ := okb_ok h1
  exact ⟨k1, by omega, h3, h4, k2, h5⟩
def runOkb (name : ByteArray) : Nat → BSt → Bool
  | 0, _ => true
  | n + 1, b => adOkb b && (!(onceB b name).2.2 || (!(onceB b name).2.1 || runOkb name n (onceB b name).1))
theorem runOkb_ok {name : ByteArray} : ∀ {n : Nat} {b : BSt}, runOkb name n b = true → runOk name n b
  | 0, _, _ => trivial
  | n + 1, b, h => by
    rw [runOkb, Bool.and_eq_true] at h
    refine ⟨adOkb_ok h.1, fun h1 h2 => ?_⟩
    have h3 := h.2
    rw [h1, h2] at h3
    exact runOkb_ok (by simpa using h3)
def opOkb (b : BSt) (x : Nat) : Bool := okb b && (okb (op1 b x) && (okb (op2 b x) && (decide (¬ x % 10 < 6 ∨ (pushN (op1 b x).L (op1 b x).l (opI b x)).2 = 0) && (op2 b x).L.all fun n => decide (n.text.size < 1000000000))))
theorem opOkb_ok {b : BSt} {x : Nat} (h : opOkb b x = true) : OpOk b x := by
  simp only [opOkb, Bool.and_eq_true, decide_eq_true_eq, List.all_eq_true] at h
  obtain ⟨h1, h2, h3, h4, h5⟩ := h
  obtain ⟨k1, k2, _⟩ := okb_ok h1
  exact ⟨k1, k2, fun hx => h4.resolve_left (fun hn => hn hx), (okb_ok h2).1, (okb_ok h3).1, h5⟩
def sB : ByteArray := ⟨#[98]⟩
def neA : BSt := opB 2 [0, 1]
def neA2 : BSt := (runB neA sB).1
def neC : BSt := opB 2 [0, 7]
def neC2 : BSt := (runB neC sB).1
theorem neA_ok : ∀ i x, ([0, 1] : List Nat)[i]? = some x → OpOk (opB i [0, 1]) x := by
  intro i x h
  match i, h with
  | 0, h => cases h; exact opOkb_ok (by kernel_rfl)
  | 1, h => cases h; exact opOkb_ok (by kernel_rfl)
theorem neC_ok : ∀ i x, ([0, 7] : List Nat)[i]? = some x → OpOk (opB i [0, 7]) x := by
  intro i x h
  match i, h with
  | 0, h => cases h; exact opOkb_ok (by kernel_rfl)
  | 1, h => cases h; exact opOkb_ok (by kernel_rfl)
theorem neA_run : runOkb sB 8 neA = true := by kernel_rfl
theorem neC_run : runOkb sB 8 neC = true := by kernel_rfl
theorem neD_run : runOkb sB 8 gb2 = true := by kernel_rfl
theorem ne_1 : (runB neA sB).2 = true := by kernel_rfl
theorem ne_2 : (neA2.s.length, neA2.l.length) = (2, 1) := by kernel_rfl
theorem ne_3 : (runB neC sB).2 = true := by kernel_rfl
theorem ne_4 : (neC2.s.length, neC2.l.length) = (3, 0) := by kernel_rfl
theorem ne_5 : (runB gb2 sB).2 = false := by kernel_rfl
theorem ne_6 : okb neC2 = true := by kernel_rfl
theorem ne_ad : (adOkb neA, adOkb neC, adOkb gb2) = (true, true, true) := by kernel_rfl
end Go.Vk
end
section
set_option linter.unusedSimpArgs false
set_option linter.unusedVariables false
namespace Go.Vk
open Go Go.Proofs.YtgnnlaeikcnhcaaGreatDoor
/-- a new one at the end of the top -/
theorem AT.new {b : BSt} {u : ByteArray} (h : AT b u) {n : Nd} (hp : n.parent = -1) (hk : n.kids = []) (hkk : n.kind = 3 ∨ n.kind = 4) (hn : n.attrs = [] ∧ n.name.size < 100 ∧ n.name ≠ tmpl) :
    ∃ (A : List OpS) (o : OpS) (q : Nat), b.s = A ++ [o] ∧ o.node = (q : Int) ∧ topS b.s = (q : Int) ∧ 0 < q ∧ q < b.L.length ∧
    (∀ t, gN (hangN (b.L ++ [n]) q (-1) b.L.length) t = if t = b.L.length then { n with parent := (q : Int) } else if t = q then { gN b.L t with kids := (gN b.L t).kids ++ [(b.L.length : Int)] } else gN b.L t) ∧
    appendN (b.L ++ [n]) (q : Int) b.L.length = (hangN (b.L ++ [n]) q (-1) b.L.length, 0) ∧
    BT { b with L := hangN (b.L ++ [n]) q (-1) b.L.length } ∧ ∃ N, N.Nodup ∧ Sp (hangN (b.L ++ [n]) q (-1) b.L.length) (0 :: nds b.s ++ [(b.L.length : Int)]) N (u ++ n.text) := by
  obtain ⟨A, o, es⟩ : ∃ A o, b.s = A ++ [o] := by
    obtain ⟨o, r, e, _⟩ := h.s1
    rcases List.eq_nil_or_concat b.s with e2 | ⟨A, o, e2⟩
    · rw [e] at e2; cases e2
    · exact ⟨A, o, by rw [e2, List.concat_eq_append]⟩
  obtain ⟨o1, o2, o3, o4⟩ := h.bt.sk o (by rw [es]; simp)
  obtain ⟨q, hq⟩ : ∃ q : Nat, o.node = q := ⟨o.node.toNat, by omega⟩
  have ht : topS b.s = (q : Int) := by
    rw [topS_eq, es, List.getLast?_concat]; exact hq
  have h1 : n.kind ≠ 1 := by rcases hkk with e | e <;> rw [e] <;> decide
  have hG := gN_hang_new h.bt.gd hp hk h1 (p := q) (by omega)
  have hgd := h.bt.gd.push hp hk h1
  have hlen : (b.L ++ [n]).length = b.L.length + 1 := by simp
  have hap : appendN (b.L ++ [n]) (q : Int) b.L.length = (hangN (b.L ++ [n]) q (-1) b.L.length, 0) := by
    unfold appendN
    have c1 : holdsN (b.L ++ [n]) q = true := by
      rw [holdsN_g, gN_push, if_neg (by omega), ← hq, o3]; rfl
    have c2 : hangsN (b.L ++ [n]) b.L.length = true := by
      rw [hangsN_g, gN_push, if_pos rfl]
      rcases hkk with e | e <;> rw [e] <;> rfl
    have c3 : aboveN (b.L ++ [n]) b.L.length q = false := aboveF_new h.bt.gd _ _ _ (by omega)
    rw [if_pos ⟨c1, c2, c3⟩, Int.toNat_natCast, Int.toNat_natCast]
  have hgd2 : Gd (hangN (b.L ++ [n]) q (-1) b.L.length) := by
    have := append_gd hgd (q : Int) b.L.length
    rwa [hap] at this
  have hl2 : (hangN (b.L ++ [n]) q (-1) b.L.length).length = b.L.length + 1 := by rw [hangN_len, hlen]
  have hsm : ∀ t : Int, t ≠ b.L.length → (gN (hangN (b.L ++ [n]) q (-1) b.L.length) t).kind = (gN b.L t).kind ∧ (gN (hangN (b.L ++ [n]) q (-1) b.L.length) t).name = (gN b.L t).name ∧ (gN (hangN (b.L ++ [n]) q (-1) b.L.length) t).attrs = (gN b.L t).attrs ∧ (gN (hangN (b.L ++ [n]) q (-1) b.L.length) t).text = (gN b.L t).text := fun t ht => by
    rw [hG t, if_neg ht]
    split
    · exact ⟨rfl, rfl, rfl, rfl⟩
    · exact ⟨rfl, rfl, rfl, rfl⟩
  have hnw : gN (hangN (b.L ++ [n]) q (-1) b.L.length) (b.L.length : Int) = { n with parent := (q : Int) } := by rw [hG, if_pos rfl]
  have hpos := h.bt.gd.pos
  obtain ⟨N, hN, hS⟩ := h.sp
  refine ⟨A, o, q, es, hq, ht, by omega, by omega, hG, hap, ?_, N ++ [(b.L.length : Int)], ?_, ?_⟩
  · generalize hangN (b.L ++ [n]) q (-1) b.L.length = L2 at *
    refine ⟨hgd2, fun i h1 h2 => ?_, fun i => ?_, fun z hz => ?_, ?_, fun z hz => ?_, h.bt.ln, h.bt.sn, h.bt.fo, h.bt.er⟩
    · show (gN L2 i).kind = 3 ∨ (gN L2 i).kind = 4
      have h2 : i < (L2.length : Int) := h2
      by_cases e : i = b.L.length
      · rw [e, hnw]; exact hkk
      · rw [(hsm i e).1]; exact h.bt.el i h1 (by omega)
    · show (gN L2 i).attrs = [] ∧ (gN L2 i).name.size < 100 ∧ (gN L2 i).name ≠ tmpl
      by_cases e : i = b.L.length
      · rw [e, hnw]; exact hn
      · rw [(hsm i e).2.1, (hsm i e).2.2.1]; exact h.bt.nm i
    · obtain ⟨g1, g2, g3, g4⟩ := h.bt.sk z hz
      show 1 ≤ z.node ∧ z.node < (L2.length : Int) ∧ (gN L2 z.node).kind = 3 ∧ z.name.size < 100
      rw [(hsm _ (by omega)).1]; exact ⟨g1, by omega, g3, g4⟩
    · show (gN L2 1).name = sHtml
      rw [(hsm 1 (by omega)).2.1]; exact h.bt.hn
    · obtain ⟨g1, g2, g3⟩ := h.bt.l z hz
      show 2 ≤ z ∧ z < (L2.length : Int) ∧ (gN L2 z).kind = 3
      rw [(hsm _ (by omega)).1]; exact ⟨g1, by omega, g3⟩
  · rw [List.nodup_append]
    refine ⟨hN, by simp, fun a ha c hc e => ?_⟩
    rw [List.mem_singleton] at hc
    have := (hS.rng a ha).2
    omega
  · have e1 : (0 :: nds b.s : List Int) = (0 :: nds A) ++ [(q : Int)] := by rw [es, ← hq]; simp [nds]
    rw [e1] at hS
    have := hS.more (L' := hangN (b.L ++ [n]) q (-1) b.L.length) (q := (b.L.length : Int)) (by rw [hl2]; omega) hN (by rw [hl2]; omega) (fun i hi hne => by
      have := (hS.rng i hi).2
      rw [hG i, if_neg (by omega), if_neg hne]; exact ⟨rfl, rfl⟩) (by
      rw [hG q, if_neg (by omega), if_pos rfl]; exact ⟨rfl, rfl⟩) (by rw [hnw]; exact hk)
    rw [hnw] at this
    rw [e1, List.append_assoc]
    exact this
theorem AT.ins {b : BSt} {u : ByteArray} (h : AT b u) (hs : b.s.length < 499) {n : Nd} (hk : n.kind = 3) (hn : n.attrs = [] ∧ n.name.size < 100 ∧ n.name ≠ tmpl) (htx : n.text = ⟨#[]⟩) :
    ∃ b', insertB b n = (b', (b.L.length : Int)) ∧ AT b' u ∧ b'.L.length = b.L.length + 1 ∧ b'.s.length = b.s.length + 1 ∧ b'.l = b.l ∧ topS b'.s = b.L.length ∧ (gN b'.L b.L.length).kids = [] ∧ (gN b'.L b.L.length).kind = 3 ∧ ((∀ t, (gN b.L t).text.size ≤ 1) → ∀ t, (gN b'.L t).text.size ≤ 1) := by
  obtain ⟨A, o, q, es, eq, et, hq0, hq1, hG, hap, hB, N, hN, hS⟩ := h.new (n := bareN n) rfl rfl (.inl hk) hn
  have ea : addN b.L n = (b.L ++ [bareN n], (b.L.length : Int)) := addN_pl (by rw [hk]; rfl) hn.2.2
  obtain ⟨L2, hL2⟩ : ∃ L2, L2 = hangN (b.L ++ [bareN n]) q (-1) b.L.length := ⟨_, rfl⟩
  rw [← hL2] at hG hap hB hS
  have hl2 : L2.length = b.L.length + 1 := by rw [hL2, hangN_len]; simp
  have ht : targB b = (q : Int) := by unfold targB; rw [et, if_neg (by omega)]
  have hadd : addB b n = { b with L := b.L ++ [bareN n] } := by unfold addB; rw [ea]
  have hhung : hungB b n = { b with L := L2 } := by
    unfold hungB
    rw [ea]
    have ht2 : targB (addB b n) = (q : Int) := by rw [← ht]; rfl
    rw [ht2, hadd]
    have hpl : placeB { b with L := b.L ++ [bareN n] } (q : Int) = ((q : Int), -1) := by
      have e1 : place1 { b with L := b.L ++ [bareN n] } (q : Int) = ((q : Int), -1) := by
        unfold place1
        rw [if_neg (by rw [show ({ b with L := b.L ++ [bareN n] } : BSt).foster = false from h.bt.fo]; simp)]
      unfold placeB
      rw [e1, if_neg]
      rintro ⟨_, hh⟩
      unfold htmlN at hh
      simp only [List.any_cons, List.any_nil, Bool.or_false, Bool.and_eq_true, decide_eq_true_eq] at hh
      rw [nodeN_g (by simp; omega), gN_push, if_neg (by omega)] at hh
      exact (h.bt.nm q).2.2 hh.2.2
    unfold putB
    rw [hpl, if_neg (show ¬ (0 : Int) ≤ -1 by decide)]
    dsimp only
    rw [hap]
  have hnw : gN L2 (b.L.length : Int) = { bareN n with parent := (q : Int) } := by rw [hG, if_pos rfl]
  have hnk : nodeN L2 (b.L.length : Int) = { bareN n with parent := (q : Int) } := by rw [nodeN_g (by omega), hnw]
  have hk3 : ((nd? L2 b.L.length).getD zN).kind = 3 := by
    unfold nodeN at hnk
    rw [hnk]; exact hk
  have hop : (opN L2 b.L.length).name.size < 100 := by
    unfold nodeN at hnk
    unfold opN
    rw [hnk]; exact hn.2.1
  have hins : insertB b n = ({ b with L := L2, s := b.s ++ [opN L2 b.L.length] }, (b.L.length : Int)) := by
    unfold insertB
    rw [if_neg (by omega), ea]
    dsimp only
    rw [hhung]
    have hpush : pushB { b with L := L2 } b.L.length = ({ b with L := L2, s := b.s ++ [opN L2 b.L.length] }, 0) := by
      unfold pushB insS
      dsimp only
      rw [if_pos hk3, if_pos ⟨by omega, Int.le_refl _⟩, if_neg (by omega), Int.toNat_natCast, List.take_length, List.drop_length]
    rw [hpush]
    unfold failB
    rw [if_neg (fun h => h.2 rfl)]
  obtain ⟨s1o, s1r, s1e, s1n⟩ := h.s1
  refine ⟨_, hins, ⟨?_, ⟨s1o, s1r ++ [opN L2 b.L.length], by show b.s ++ _ = _; rw [s1e]; rfl, s1n⟩, N, hN, ?_⟩, hl2, by simp, rfl, ?_, ?_, ?_, ?_⟩
  · refine hB.sets (fun z hz => ?_) (by simp; omega)
    rcases List.mem_append.1 hz with hz | hz
    · exact .inl hz
    · rw [List.mem_singleton] at hz
      rw [hz]
      exact .inr ⟨by show 1 ≤ (b.L.length : Int); omega, by show (b.L.length : Int) < (L2.length : Int); omega, by show (gN L2 (b.L.length : Int)).kind = 3; rw [hnw]; exact hk, hop⟩
  · have e : (bareN n).text = ⟨#[]⟩ := htx
    rw [e, ba_emp] at hS
    have : (0 :: nds (b.s ++ [opN L2 b.L.length]) : List Int) = 0 :: nds b.s ++ [(b.L.length : Int)] := by simp [nds, opN]
    show Sp L2 (0 :: nds (b.s ++ [opN L2 b.L.length])) N u
    rw [this]; exact hS
  · show topS (b.s ++ [opN L2 b.L.length]) = _
    rw [topS_eq, List.getLast?_concat]; rfl
  · show (gN L2 _).kids = []
    rw [hnw]; rfl
  · show (gN L2 _).kind = 3
    rw [hnw]; exact hk
  · intro hx t
    show (gN L2 t).text.size ≤ 1
    rw [hG t]
    split
    · show (bareN n).text.size ≤ 1
      have e : (bareN n).text = ⟨#[]⟩ := htx
      rw [e]; decide
    · split
      · exact hx t
      · exact hx t
theorem AT.txt {b : BSt} {u : ByteArray} (h : AT b u) (hk : (gN b.L (topS b.s)).kids = []) {x : ByteArray} (hx : x ≠ ⟨#[]⟩) :
    ∃ L', charsB b x = { b with L := L' } ∧ AT { b with L := L' } (u ++ x) ∧ L'.length = b.L.length + 1 ∧ (x.size ≤ 1 → (∀ t, (gN b.L t).text.size ≤ 1) → ∀ t, (gN L' t).text.size ≤ 1) := by
  obtain ⟨A, o, q, es, eq, et, hq0, hq1, hG, hap, hB, N, hN, hS⟩ := h.new (n := textNd x) rfl rfl (.inr rfl) ⟨rfl, by show (0 : Nat) < 100; decide, by intro e; cases e⟩
  have ht : targB b = (q : Int) := by unfold targB; rw [et, if_neg (by omega)]
  obtain ⟨o1, o2, o3, o4⟩ := h.bt.sk o (by rw [es]; simp)
  rw [eq] at o1 o2 o3
  rw [et] at hk
  have htx : textN b.L (q : Int) (-1) x = (hangN (b.L ++ [textNd x]) q (-1) b.L.length, 0) := by
    unfold textN
    rw [if_pos ⟨by rw [holdsN_g, o3]; rfl, .inl rfl⟩, if_neg hx, if_neg, Int.toNat_natCast]
    rw [hk]
    rintro ⟨hh, _⟩
    simp [atK] at hh
  refine ⟨_, ?_, ⟨hB, h.s1, N, hN, ?_⟩, by rw [hangN_len]; simp, ?_⟩
  · unfold charsB
    rw [ht, h.bt.place, if_pos (by omega), htx]
  · exact Sp.dropl hS (by simp)
  · intro h1 h2 t
    rw [hG t]
    split
    · exact h1
    · split
      · exact h2 t
      · exact h2 t
theorem AT.push {b : BSt} {u : ByteArray} (h : AT b u) {y : Int} (hy : 2 ≤ y ∧ y < b.L.length) (hk : (gN b.L y).kind = 3) (hl : b.l.length < 64) : (pushN b.L b.l y).2 = 0 ∧ (pushN b.L b.l y).1.length ≤ b.l.length + 1 ∧ AT { b with l := (pushN b.L b.l y).1 } u := by
  have hk' : ((nd? b.L y).getD zN).kind = 3 := by
    have : nodeN b.L y = gN b.L y := nodeN_g (by omega)
    unfold nodeN at this
    rw [this]; exact hk
  obtain ⟨r, hr⟩ : ∃ r, r = pushG (likeP b.L y) b.l (openN b.l) b.l.length 0 0 := ⟨_, rfl⟩
  have hd : (dropN b.l r).length ≤ b.l.length ∧ ∀ x ∈ dropN b.l r, x ∈ b.l := by
    unfold dropN
    split
    · exact ⟨by rw [List.length_eraseIdx]; split <;> omega, fun x hx => List.mem_of_mem_eraseIdx hx⟩
    · exact ⟨Nat.le_refl _, fun x hx => hx⟩
  have e : pushN b.L b.l y = (dropN b.l r ++ [y], 0) := by
    unfold pushN layN
    rw [if_pos hk', ← hr, if_neg (by omega), List.take_length, List.drop_length]
  rw [e]
  refine ⟨rfl, by simp; omega, ⟨h.bt.setl (fun x hx => ?_) (by simp; omega), h.s1, h.sp⟩⟩
  simp only [List.mem_append, List.mem_cons, List.not_mem_nil, or_false] at hx
  rcases hx with hx | hx
  · exact .inl (hd.2 x hx)
  · rw [hx]; exact .inr ⟨hy.1, hy.2, hk⟩
theorem adName_ok : ∀ k, k < 10 → (adName k).size < 100 ∧ adName k ≠ tmpl ∧ adName k ≠ sHtml := by decide +kernel
/-- what stands behind n elements -/
structure OpI (n : Nat) (b : BSt) (u : ByteArray) : Prop where
  at_ : AT b u
  L : b.L.length = 3 + 2 * n
  s : b.s.length = 2 + n
  l : b.l.length ≤ n
  u : u.size = n
  tx : ∀ t, (gN b.L t).text.size ≤ 1
theorem OpI.step {n x i : Nat} {b : BSt} {u : ByteArray} (h : OpI n b u) (hn : n < 60) : OpOk b x ∧ ∃ u', OpI (n + 1) (opS b i x) u' := by
  obtain ⟨k1, k2, k3⟩ := adName_ok (x % 10) (Nat.mod_lt _ (by decide))
  obtain ⟨b1, e1, h1, l1, s1, f1, t1, q1, q2, x1⟩ := h.at_.ins (n := elTok (tokI (adName (x % 10))) 0) (by rw [h.s]; omega) rfl ⟨rfl, k1, k2⟩ rfl
  have eo : op1 b x = b1 := by unfold op1 implyB; rw [e1]
  have ei : opI b x = (b.L.length : Int) := by unfold opI implyB; rw [e1]
  have hL := h.L
  have hl := h.l
  have okOf : ∀ {c : BSt}, AT c u → c.L.length < 80000 → okB c := fun hc hl => (hc.ok hl).ok
  obtain ⟨p1, p2, p3⟩ := h1.push (y := (b.L.length : Int)) (by omega) q2 (by rw [f1]; omega)
  have h2 : AT (op2 b x) u ∧ (op2 b x).L = b1.L ∧ (op2 b x).s = b1.s ∧ (op2 b x).l.length ≤ n + 1 := by
    unfold op2
    rw [eo, ei]
    split
    · exact ⟨p3, rfl, rfl, by show (pushN b1.L b1.l _).1.length ≤ _; rw [f1] at p2; rw [f1]; omega⟩
    · exact ⟨h1, rfl, rfl, by rw [f1]; omega⟩
  obtain ⟨h2, eL, es, el⟩ := h2
  have hx := x1 h.tx
  refine ⟨⟨okOf h.at_ (by omega), by omega, fun _ => by rw [eo, ei]; exact p1, by rw [eo]; exact okOf h1 (by omega), okOf h2 (by rw [eL]; omega), fun m hm => ?_⟩, ?_⟩
  · rw [eL] at hm
    obtain ⟨k, hk, e⟩ := List.getElem_of_mem hm
    have := hx (k : Int)
    rw [gN_nat (by rw [List.getElem?_eq_getElem hk, e])] at this
    omega
  · obtain ⟨L', e3, h3, l3, x3⟩ := h2.txt (x := opC i) (by rw [eL, es, t1]; exact q1) (by unfold opC; intro e; cases e)
    refine ⟨u ++ opC i, ?_⟩
    unfold opS
    rw [e3]
    refine ⟨h3, ?_, ?_, el, ?_, ?_⟩
    · show L'.length = _
      rw [l3, eL, l1]; omega
    · show (op2 b x).s.length = _
      rw [es, s1, h.s]; omega
    · rw [ByteArray.size_append, h.u]; rfl
    · exact x3 (by show (1 : Nat) ≤ 1; omega) (by rw [eL]; exact hx)
theorem OpI.zero : OpI 0 gb2 ⟨#[]⟩ := by
  have r1 := (reg_new.ins (by decide) (n := elTok (tokI sHtml) 0) rfl (by decide)).2.1
  have i1 := (reg_new.ins (by decide) (n := elTok (tokI sHtml) 0) rfl (by decide)).1
  have e1 : gb1 = insR newB (elTok (tokI sHtml) 0) := by unfold gb1 implyB; rw [i1]
  rw [← e1] at r1
  have hl1 : gb1.s.length = 1 := by kernel_rfl
  have i2 := r1.ins (by omega) (n := elTok (tokI sBody) 0) rfl (by decide)
  have e2 : gb2 = insR gb1 (elTok (tokI sBody) 0) := by unfold gb2 implyB; rw [i2.1]
  have r2 := i2.2.1
  rw [← e2] at r2
  have hL : gb2.L = [{ docN with kids := [1] }, { zN with kind := 3, name := sHtml, parent := 0, kids := [2], frm := -1, to := -1 }, { zN with kind := 3, name := sBody, parent := 1, frm := -1, to := -1 }] := by kernel_rfl
  have hs : gb2.s = [⟨1, 0, sHtml⟩, ⟨2, 0, sBody⟩] := by kernel_rfl
  have g0 : gN gb2.L 0 = { docN with kids := [1] } := by rw [hL]; rfl
  have g1 : gN gb2.L 1 = { zN with kind := 3, name := sHtml, parent := 0, kids := [2], frm := -1, to := -1 } := by rw [hL]; rfl
  have g2 : gN gb2.L 2 = { zN with kind := 3, name := sBody, parent := 1, frm := -1, to := -1 } := by rw [hL]; rfl
  have hlen : gb2.L.length = 3 := by rw [hL]; rfl
  have ga : ∀ t : Int, gN gb2.L t = gN gb2.L 0 ∨ gN gb2.L t = gN gb2.L 1 ∨ gN gb2.L t = gN gb2.L 2 ∨ gN gb2.L t = noN := fun t => by
    by_cases h : 0 ≤ t ∧ t < gb2.L.length
    · rw [hlen] at h
      have : t = 0 ∨ t = 1 ∨ t = 2 := by omega
      rcases this with e | e | e <;> rw [e] <;> simp
    · exact .inr (.inr (.inr (gN_none h)))
  refine ⟨⟨⟨r2.gd, fun i h1 h2 => ?_, fun i => ?_, fun o ho => ?_, by rw [g1], fun x hx => ?_, by decide +kernel, by decide +kernel, r2.fo, by kernel_rfl⟩, ⟨⟨1, 0, sHtml⟩, [⟨2, 0, sBody⟩], hs, rfl⟩, [0, 1, 2], by decide, ?_⟩, hlen, by rw [hs]; rfl, by decide +kernel, rfl, fun t => ?_⟩
  · rw [hlen] at h2
    have : i = 1 ∨ i = 2 := by omega
    rcases this with e | e
    · rw [e, g1]; exact .inl rfl
    · rw [e, g2]; exact .inl rfl
  · rcases ga i with e | e | e | e
    · rw [e, g0]; decide
    · rw [e, g1]; decide
    · rw [e, g2]; decide
    · rw [e]; decide
  · rw [hs] at ho
    simp only [List.mem_cons, List.not_mem_nil, or_false] at ho
    rcases ho with rfl | rfl
    · rw [hlen, g1]; decide
    · rw [hlen, g2]; decide
  · have : gb2.l = [] := by kernel_rfl
    rw [this] at hx
    cases hx
  · have f2 : Fo gb2.L [2] [2] ⟨#[]⟩ := by
      have := Fo.cons (L := gb2.L) (i := 2) (r := []) (N := []) (M := []) (s := ⟨#[]⟩) (t := ⟨#[]⟩) (by decide) (by rw [hlen]; decide) (by rw [g2]; exact .nil) .nil
      rw [g2] at this
      exact this
    have c : Cx gb2.L [0, 1] 2 [0, 1] ⟨#[]⟩ := by
      have a1 := Cx.cons (L := gb2.L) (p := 1) (q := 2) (r := []) (ks := []) (N := []) (M := []) (s := ⟨#[]⟩) (t := ⟨#[]⟩) (by decide) (by rw [hlen]; decide) (by rw [g1]; rfl) .nil .nil
      rw [g1] at a1
      have a0 := Cx.cons (L := gb2.L) (p := 0) (q := 2) (r := [1]) (ks := []) (N := []) (s := ⟨#[]⟩) (by decide) (by rw [hlen]; decide) (by rw [g0]; rfl) .nil a1
      rw [g0] at a0
      exact a0
    rw [hs]
    exact ⟨[0, 1], 2, [0, 1], [2], _, _, rfl, c, f2, rfl, rfl⟩
  · rcases ga t with e | e | e | e
    · rw [e, g0]; decide
    · rw [e, g1]; decide
    · rw [e, g2]; decide
    · rw [e]; decide
theorem opI_all (l : List Nat) : ∀ n, n < 60 → ∃ u, OpI n (opB n l) u
  | 0, _ => ⟨_, OpI.zero⟩
  | n + 1, h => by
    obtain ⟨u, hu⟩ := opI_all l n (by omega)
    exact (hu.step (x := l.getD n 0) (i := n) (by omega)).2
end Go.Vk
end
section
set_option linter.unusedSimpArgs false
set_option linter.unusedVariables false
namespace Go.Vk
open Go Go.Proofs.YtgnnlaeikcnhcaaGreatDoor
theorem nodup_len : ∀ (n : Nat) {l : List Int}, l.Nodup → (∀ j ∈ l, 0 ≤ j ∧ j < n) → l.length ≤ n
  | 0, l, _, hr => by
    cases l with
    | nil => simp
    | cons a r => have := hr a (by simp); omega
  | n + 1, l, hn, hr => by
    have := nodup_len n (hn.erase (n : Int)) (fun j hj => by
      have := hn.mem_erase_iff.1 hj
      have := hr j this.2
      omega)
    have h2 : l.length ≤ (l.erase (n : Int)).length + 1 := by
      rw [List.length_erase]; split <;> omega
    omega
theorem AT.texts {b : BSt} {u : ByteArray} (h : AT b u) (hl : b.L.length < 80000) (hu : u.size < 1000000) : txD b.L 90000 0 = true ∧ txF b.L 90000 0 = u := by
  obtain ⟨N, hn, hS⟩ := h.sp
  have hF := hS.fo
  have hlen : N.length ≤ b.L.length := nodup_len _ hn hF.rng
  have h1 := hF.deep (by omega) hu 90000 (by omega)
  have h2 := hF.txt 90000 (by omega) ⟨#[]⟩
  rw [List.all_cons, List.all_nil, Bool.and_true] at h1
  rw [txK, txK, nil_ba, nil_ba] at h2
  exact ⟨h1, h2⟩
/-- behind so many ends -/
structure ATk (k : Nat) (b : BSt) (u : ByteArray) : Prop where
  at_ : AT b u
  s : b.s.length ≤ 42
  L : b.L.length ≤ 83 + 680 * k
theorem ATk.zero {n : Nat} {b : BSt} {u : ByteArray} (h : OpI n b u) (hn : n ≤ 40) : ATk 0 b u := ⟨h.at_, by rw [h.s]; omega, by rw [h.L]; omega⟩
theorem ATk.run {k : Nat} {b : BSt} {u x : ByteArray} (h : ATk k b u) (hk : k ≤ 40) (hx : x ≠ sHtml) : runOk x 8 b ∧ AdOk b ∧ ATk (k + 1) (runB b x).1 u ∧ (runB b x).1.s.length ≤ b.s.length := by
  have h1 := h.s
  have h2 := h.L
  obtain ⟨g1, g2, g3, g4⟩ := h.at_.run hx (by omega)
  exact ⟨g1, h.at_.ok (by omega), ⟨g2, by omega, by omega⟩, g3⟩
theorem ATk.texts {k : Nat} {b : BSt} {u : ByteArray} (h : ATk k b u) (hk : k ≤ 41) (hu : u.size < 1000000) : txD b.L 90000 0 = true ∧ txF b.L 90000 0 = u := h.at_.texts (by have := h.L; omega) hu
end Go.Vk
end
