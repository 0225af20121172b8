/- What the proof leans on, part 6 of 10. -/
import Derived.Test.YtgnnlaeikcnhcaaGreatDoorQAdoptTextsE
section
set_option linter.unusedSimpArgs false
set_option linter.unusedVariables false
namespace Go.Vk
open Go
def spB : ByteArray := ⟨((([32, 97, 100, 100, 114, 101, 115, 115, 32, 97, 112, 112, 108, 101, 116, 32, 97, 114, 101, 97, 32, 97, 114, 116, 105, 99, 108, 101, 32, 97, 115, 105, 100, 101, 32, 98, 97, 115, 101, 32, 98, 97, 115, 101, 102, 111, 110, 116, 32, 98, 103, 115, 111, 117, 110, 100, 32, 98, 108, 111, 99].append [107, 113, 117, 111, 116, 101, 32, 98, 111, 100, 121, 32, 98, 114, 32, 98, 117, 116, 116, 111, 110, 32, 99, 97, 112, 116, 105, 111, 110, 32, 99, 101, 110, 116, 101, 114, 32, 99, 111, 108, 32, 99, 111, 108, 103, 114, 111, 117, 112, 32, 100, 100, 32, 100, 101, 116, 97, 105, 108, 115, 32]).append ([100, 105, 114, 32, 100, 105, 118, 32, 100, 108, 32, 100, 116, 32, 101, 109, 98, 101, 100, 32, 102, 105, 101, 108, 100, 115, 101, 116, 32, 102, 105, 103, 99, 97, 112, 116, 105, 111, 110, 32, 102, 105, 103, 117, 114, 101, 32, 102, 111, 111, 116, 101, 114, 32, 102, 111, 114, 109, 32, 102, 114].append [97, 109, 101, 32, 102, 114, 97, 109, 101, 115, 101, 116, 32, 104, 49, 32, 104, 50, 32, 104, 51, 32, 104, 52, 32, 104, 53, 32, 104, 54, 32, 104, 101, 97, 100, 32, 104, 101, 97, 100, 101, 114, 32, 104, 103, 114, 111, 117, 112, 32, 104, 114, 32, 104, 116, 109, 108, 32, 105, 102, 114, 97])).append (([109, 101, 32, 105, 109, 103, 32, 105, 110, 112, 117, 116, 32, 107, 101, 121, 103, 101, 110, 32, 108, 105, 32, 108, 105, 110, 107, 32, 108, 105, 115, 116, 105, 110, 103, 32, 109, 97, 105, 110, 32, 109, 97, 114, 113, 117, 101, 101, 32, 109, 101, 110, 117, 32, 109, 101, 116, 97, 32, 110, 97].append [118, 32, 110, 111, 101, 109, 98, 101, 100, 32, 110, 111, 102, 114, 97, 109, 101, 115, 32, 110, 111, 115, 99, 114, 105, 112, 116, 32, 111, 98, 106, 101, 99, 116, 32, 111, 108, 32, 112, 32, 112, 97, 114, 97, 109, 32, 112, 108, 97, 105, 110, 116, 101, 120, 116, 32, 112, 114, 101, 32, 115]).append ([99, 114, 105, 112, 116, 32, 115, 101, 97, 114, 99, 104, 32, 115, 101, 99, 116, 105, 111, 110, 32, 115, 101, 108, 101, 99, 116, 32, 115, 111, 117, 114, 99, 101, 32, 115, 116, 121, 108, 101, 32, 115, 117, 109, 109, 97, 114, 121, 32, 116, 97, 98, 108, 101, 32, 116, 98, 111, 100, 121, 32].append [116, 100, 32, 116, 101, 109, 112, 108, 97, 116, 101, 32, 116, 101, 120, 116, 97, 114, 101, 97, 32, 116, 102, 111, 111, 116, 32, 116, 104, 32, 116, 104, 101, 97, 100, 32, 116, 105, 116, 108, 101, 32, 116, 114, 32, 116, 114, 97, 99, 107, 32, 117, 108, 32, 119, 98, 114, 32, 120, 109, 112, 32]))).toArray⟩
def mathB : ByteArray := ⟨#[32, 97, 110, 110, 111, 116, 97, 116, 105, 111, 110, 45, 120, 109, 108, 32, 109, 105, 32, 109, 110, 32, 109, 111, 32, 109, 115, 32, 109, 116, 101, 120, 116, 32]⟩
def svgB : ByteArray := ⟨#[32, 100, 101, 115, 99, 32, 102, 111, 114, 101, 105, 103, 110, 111, 98, 106, 101, 99, 116, 32, 116, 105, 116, 108, 101, 32]⟩
def norB : ByteArray := ⟨#[32, 97, 112, 112, 108, 101, 116, 32, 99, 97, 112, 116, 105, 111, 110, 32, 104, 116, 109, 108, 32, 109, 97, 114, 113, 117, 101, 101, 32, 111, 98, 106, 101, 99, 116, 32, 116, 97, 98, 108, 101, 32, 116, 100, 32, 116, 101, 109, 112, 108, 97, 116, 101, 32, 116, 104, 32]⟩
def tabB : ByteArray := ⟨#[32, 104, 116, 109, 108, 32, 116, 97, 98, 108, 101, 32, 116, 101, 109, 112, 108, 97, 116, 101, 32]⟩
def lisB : ByteArray := ⟨#[32, 97, 112, 112, 108, 101, 116, 32, 99, 97, 112, 116, 105, 111, 110, 32, 104, 116, 109, 108, 32, 109, 97, 114, 113, 117, 101, 101, 32, 111, 98, 106, 101, 99, 116, 32, 116, 97, 98, 108, 101, 32, 116, 100, 32, 116, 101, 109, 112, 108, 97, 116, 101, 32, 116, 104, 32, 111, 108, 32, 117, 108, 32]⟩
def butB : ByteArray := ⟨#[32, 97, 112, 112, 108, 101, 116, 32, 99, 97, 112, 116, 105, 111, 110, 32, 104, 116, 109, 108, 32, 109, 97, 114, 113, 117, 101, 101, 32, 111, 98, 106, 101, 99, 116, 32, 116, 97, 98, 108, 101, 32, 116, 100, 32, 116, 101, 109, 112, 108, 97, 116, 101, 32, 116, 104, 32, 98, 117, 116, 116, 111, 110, 32]⟩
def inB (l s : ByteArray) : Bool := decide (s ≠ ⟨#[]⟩) && !decide (0 ≤ Lib.indexByte s.data.toList 32) && Lib.contains l.data.toList ((⟨#[32]⟩ ++ s ++ ⟨#[32]⟩ : ByteArray).data.toList)
def specN (space : Int) (s : ByteArray) : Bool := if space = 0 then inB spB s else if space = 2 then inB mathB s else if space = 1 then inB svgB s else false
def scB (which : Int) : ByteArray := if which = 0 then norB else if which = 1 then lisB else if which = 2 then butB else tabB
def scopeN (which space : Int) (s : ByteArray) : Bool := if which < 0 ∨ 4 ≤ which then false else if space = 0 then inB (scB which) s else if which = 3 then false else specN space s
end Go.Vk
namespace Go.Proofs.YtgnnlaeikcnhcaaGreatDoor
open Go Go.Vk
structure GL (w : World) : Prop where
  max : MaxAt w
  sc : ∃ t f, w.heap[3]? = some (.cells #[.string norB, .string lisB, .string butB, .string tabB] t f)
theorem GL.ext {w w' : World} (h : GL w) (hx : Ext w w') : GL w' := ⟨h.max.ext hx, let ⟨t, f, h⟩ := h.sc; ⟨t, f, hx.blk h⟩⟩
set_option maxHeartbeats 40000000
theorem in_c (l s : ByteArray) {w : World} (hm : MaxAt w) (hl : l.size < 4294967281) (hs : s.size < 4294967281) : Gives Tryz.prog 171 #[.string l, .string s] w fun v w' => v = .bool (inB l s) ∧ w' = w := by
  by_cases h0 : s = ⟨#[]⟩
  · have e : inB l s = false := by unfold inB; rw [h0]; rfl
    refine Gives.of_W Tryz.call171 Tryz.func171 rfl Tryz.ntmps171 (by simp) ?_; intro Z hZ
    (repeat first|(with_reducible first|(refine hK _ _ ?_;clear hK K)|refine ‹∀σ w,_→K σ w› _ _ ?_|(refine W_st ?_;constructor;try intro K hK))|((with_reducible first|refine hZ _ _ ?_|refine W_rg ?_|skip);repeat1' simp only[push_cast,seval,-Nat.reduceSubDiff,h0,not_true_eq_false])|((repeat((fail_if_success with_reducible refine hK _ _ ?_);clear hK K));with_reducible refine hK _ _ ?_;clear hK K))
    rw [← h0, e]
  · refine Gives.of_W Tryz.call171 Tryz.func171 rfl Tryz.ntmps171 (by simp) ?_; intro Z hZ
    (repeat first|(with_reducible first|(refine hK _ _ ?_;clear hK K)|refine ‹∀σ w,_→K σ w› _ _ ?_|(refine W_st ?_;constructor;try intro K hK))|((with_reducible first|refine hZ _ _ ?_|refine W_rg ?_|skip);repeat1' simp only[push_cast,seval,-Nat.reduceSubDiff,h0,not_false_eq_true])|((repeat((fail_if_success with_reducible refine hK _ _ ?_);clear hK K));with_reducible refine hK _ _ ?_;clear hK K))
    refine (contains_one_c s 32 w).mono ?_
    intro v w' ⟨hv, hw⟩
    subst hv; subst w'
    cases hb : decide (0 ≤ Lib.indexByte s.data.toList 32) with
    | true =>
      have e : inB l s = false := by unfold inB; rw [hb]; simp
      (repeat first|(with_reducible first|(refine hK _ _ ?_;clear hK K)|refine ‹∀σ w,_→K σ w› _ _ ?_|(refine W_st ?_;constructor;try intro K hK))|((with_reducible first|refine hZ _ _ ?_|refine W_rg ?_|skip);repeat1' simp only[push_cast,seval,-Nat.reduceSubDiff])|((repeat((fail_if_success with_reducible refine hK _ _ ?_);clear hK K));with_reducible refine hK _ _ ?_;clear hK K))
      rw [e]
    | false =>
      have e : inB l s = Lib.contains l.data.toList ((⟨#[32]⟩ ++ s ++ ⟨#[32]⟩ : ByteArray).data.toList) := by unfold inB; rw [hb]; simp [h0]
      (repeat first|(with_reducible first|(refine hK _ _ ?_;clear hK K)|refine ‹∀σ w,_→K σ w› _ _ ?_|(refine W_st ?_;constructor;try intro K hK))|((with_reducible first|refine hZ _ _ ?_|refine W_rg ?_|skip);repeat1' simp only[push_cast,seval,-Nat.reduceSubDiff])|((repeat((fail_if_success with_reducible refine hK _ _ ?_);clear hK K));with_reducible refine hK _ _ ?_;clear hK K))
      have a1 : (⟨#[32]⟩ : ByteArray).size = 1 := rfl
      refine ⟨by rw [a1]; omega, by rw [ByteArray.size_append, a1]; omega, ?_⟩
      refine (strcont_c l _ hl hm).mono ?_
      intro v w' ⟨hv, hw⟩
      subst hv; subst w'
      rw [← e]
      (repeat first|(with_reducible first|(refine hK _ _ ?_;clear hK K)|refine ‹∀σ w,_→K σ w› _ _ ?_|(refine W_st ?_;constructor;try intro K hK))|((with_reducible first|refine hZ _ _ ?_|refine W_rg ?_|skip);repeat1' simp only[push_cast,seval,-Nat.reduceSubDiff])|((repeat((fail_if_success with_reducible refine hK _ _ ?_);clear hK K));with_reducible refine hK _ _ ?_;clear hK K))
theorem spB_len : spB.size < 4294967281 := of_decide_eq_true (by kernel_rfl)
set_option maxRecDepth 100000 in
theorem special_c (space : Int) (s : ByteArray) {w : World} (hm : MaxAt w) (hz : s.size < 4294967281) : Gives Tryz.prog 124 #[.int .i64 space, .string s] w fun v w' => v = .bool (specN space s) ∧ w' = w := by
  unfold specN
  by_cases h0 : space = 0
  · rw [if_pos h0]
    refine Gives.of_W Tryz.call124 Tryz.func124 rfl Tryz.ntmps124 (by simp) ?_; intro Z hZ
    (repeat first|(with_reducible first|(refine hK _ _ ?_;clear hK K)|refine ‹∀σ w,_→K σ w› _ _ ?_|(refine W_st ?_;constructor;try intro K hK))|((with_reducible first|refine hZ _ _ ?_|refine W_rg ?_|skip);repeat1' simp only[push_cast,seval,-Nat.reduceSubDiff,h0])|((repeat((fail_if_success with_reducible refine hK _ _ ?_);clear hK K));with_reducible refine hK _ _ ?_;clear hK K))
    refine (in_c spB s hm spB_len hz).mono ?_
    intro v w' ⟨hv, hw⟩
    subst hv; subst w'
    (repeat first|(with_reducible first|(refine hK _ _ ?_;clear hK K)|refine ‹∀σ w,_→K σ w› _ _ ?_|(refine W_st ?_;constructor;try intro K hK))|((with_reducible first|refine hZ _ _ ?_|refine W_rg ?_|skip);repeat1' simp only[push_cast,seval,-Nat.reduceSubDiff])|((repeat((fail_if_success with_reducible refine hK _ _ ?_);clear hK K));with_reducible refine hK _ _ ?_;clear hK K))
  · rw [if_neg h0]
    by_cases h2 : space = 2
    · rw [if_pos h2]
      have n20 : ((2 : Int) = 0) = False := by decide
      refine Gives.of_W Tryz.call124 Tryz.func124 rfl Tryz.ntmps124 (by simp) ?_; intro Z hZ
      (repeat first|(with_reducible first|(refine hK _ _ ?_;clear hK K)|refine ‹∀σ w,_→K σ w› _ _ ?_|(refine W_st ?_;constructor;try intro K hK))|((with_reducible first|refine hZ _ _ ?_|refine W_rg ?_|skip);repeat1' simp only[push_cast,seval,-Nat.reduceSubDiff,h2,n20])|((repeat((fail_if_success with_reducible refine hK _ _ ?_);clear hK K));with_reducible refine hK _ _ ?_;clear hK K))
      refine (in_c mathB s hm (by decide) hz).mono ?_
      intro v w' ⟨hv, hw⟩
      subst hv; subst w'
      (repeat first|(with_reducible first|(refine hK _ _ ?_;clear hK K)|refine ‹∀σ w,_→K σ w› _ _ ?_|(refine W_st ?_;constructor;try intro K hK))|((with_reducible first|refine hZ _ _ ?_|refine W_rg ?_|skip);repeat1' simp only[push_cast,seval,-Nat.reduceSubDiff])|((repeat((fail_if_success with_reducible refine hK _ _ ?_);clear hK K));with_reducible refine hK _ _ ?_;clear hK K))
    · rw [if_neg h2]
      by_cases h1 : space = 1
      · rw [if_pos h1]
        have n10 : ((1 : Int) = 0) = False := by decide
        have n12 : ((1 : Int) = 2) = False := by decide
        refine Gives.of_W Tryz.call124 Tryz.func124 rfl Tryz.ntmps124 (by simp) ?_; intro Z hZ
        (repeat first|(with_reducible first|(refine hK _ _ ?_;clear hK K)|refine ‹∀σ w,_→K σ w› _ _ ?_|(refine W_st ?_;constructor;try intro K hK))|((with_reducible first|refine hZ _ _ ?_|refine W_rg ?_|skip);repeat1' simp only[push_cast,seval,-Nat.reduceSubDiff,h1,n10,n12])|((repeat((fail_if_success with_reducible refine hK _ _ ?_);clear hK K));with_reducible refine hK _ _ ?_;clear hK K))
        refine (in_c svgB s hm (by decide) hz).mono ?_
        intro v w' ⟨hv, hw⟩
        subst hv; subst w'
        (repeat first|(with_reducible first|(refine hK _ _ ?_;clear hK K)|refine ‹∀σ w,_→K σ w› _ _ ?_|(refine W_st ?_;constructor;try intro K hK))|((with_reducible first|refine hZ _ _ ?_|refine W_rg ?_|skip);repeat1' simp only[push_cast,seval,-Nat.reduceSubDiff])|((repeat((fail_if_success with_reducible refine hK _ _ ?_);clear hK K));with_reducible refine hK _ _ ?_;clear hK K))
      · rw [if_neg h1]
        refine Gives.of_W Tryz.call124 Tryz.func124 rfl Tryz.ntmps124 (by simp) ?_; intro Z hZ
        (repeat first|(with_reducible first|(refine hK _ _ ?_;clear hK K)|refine ‹∀σ w,_→K σ w› _ _ ?_|(refine W_st ?_;constructor;try intro K hK))|((with_reducible first|refine hZ _ _ ?_|refine W_rg ?_|skip);repeat1' simp only[push_cast,seval,-Nat.reduceSubDiff,h0,h1,h2])|((repeat((fail_if_success with_reducible refine hK _ _ ?_);clear hK K));with_reducible refine hK _ _ ?_;clear hK K))
theorem scope_c (which space : Int) (s : ByteArray) {w : World} (hg : GL w) (hz : s.size < 4294967281) : Gives Tryz.prog 160 #[.int .i64 which, .int .i64 space, .string s] w fun v w' => v = .bool (scopeN which space s) ∧ w' = w := by
  obtain ⟨hm, t, f, hsc⟩ := hg
  unfold scopeN
  by_cases hr : which < 0 ∨ 4 ≤ which
  · rw [if_pos hr]
    by_cases h0 : which < 0
    · refine Gives.of_W Tryz.call160 Tryz.func160 rfl Tryz.ntmps160 (by simp) ?_; intro Z hZ
      (repeat first|(with_reducible first|(refine hK _ _ ?_;clear hK K)|refine ‹∀σ w,_→K σ w› _ _ ?_|(refine W_st ?_;constructor;try intro K hK))|((with_reducible first|refine hZ _ _ ?_|refine W_rg ?_|skip);repeat1' simp only[push_cast,seval,-Nat.reduceSubDiff,h0])|((repeat((fail_if_success with_reducible refine hK _ _ ?_);clear hK K));with_reducible refine hK _ _ ?_;clear hK K))
    · have h4 : 4 ≤ which := by omega
      refine Gives.of_W Tryz.call160 Tryz.func160 rfl Tryz.ntmps160 (by simp) ?_; intro Z hZ
      (repeat first|(with_reducible first|(refine hK _ _ ?_;clear hK K)|refine ‹∀σ w,_→K σ w› _ _ ?_|(refine W_st ?_;constructor;try intro K hK))|((with_reducible first|refine hZ _ _ ?_|refine W_rg ?_|skip);repeat1' simp only[push_cast,seval,-Nat.reduceSubDiff,h0,h4])|((repeat((fail_if_success with_reducible refine hK _ _ ?_);clear hK K));with_reducible refine hK _ _ ?_;clear hK K))
  · rw [if_neg hr]
    have h0 : ¬ which < 0 := by omega
    have h4 : ¬ 4 ≤ which := by omega
    by_cases hs : space = 0
    · rw [if_pos hs]
      have hw4 : which = 0 ∨ which = 1 ∨ which = 2 ∨ which = 3 := by omega
      have n0 : ¬ ((0 : Int) < 0) := by decide
      have key : ∀ (k : Nat) (b : ByteArray), k < 4 → which = (k : Int) → (#[Value.string norB, .string lisB, .string butB, .string tabB] : Array Value)[k]? = some (.string b) → b.size < 4294967281 → scB which = b → Gives Tryz.prog 160 #[.int .i64 which, .int .i64 space, .string s] w fun v w' => v = .bool (inB (scB which) s) ∧ w' = w := by
        intro k b hk4 hk hb hbs hsb
        rw [hsb]
        have k0 : (0 : Int) ≤ which := by omega
        have k4 : which < 4 := by omega
        have k5 : which.toNat = k := by omega
        refine Gives.of_W Tryz.call160 Tryz.func160 rfl Tryz.ntmps160 (by simp) ?_; intro Z hZ
        (repeat first|(with_reducible first|(refine hK _ _ ?_;clear hK K)|refine ‹∀σ w,_→K σ w› _ _ ?_|(refine W_st ?_;constructor;try intro K hK))|((with_reducible first|refine hZ _ _ ?_|refine W_rg ?_|skip);repeat1' simp only[push_cast,seval,-Nat.reduceSubDiff,h0,h4,hs,k0,k4,k5,cell_h,cellO_cells,hsc,hb])|((repeat((fail_if_success with_reducible refine hK _ _ ?_);clear hK K));with_reducible refine hK _ _ ?_;clear hK K))
        refine (in_c b s hm hbs hz).mono ?_
        intro v w' ⟨hv, hw⟩
        subst hv; subst w'
        (repeat first|(with_reducible first|(refine hK _ _ ?_;clear hK K)|refine ‹∀σ w,_→K σ w› _ _ ?_|(refine W_st ?_;constructor;try intro K hK))|((with_reducible first|refine hZ _ _ ?_|refine W_rg ?_|skip);repeat1' simp only[push_cast,seval,-Nat.reduceSubDiff])|((repeat((fail_if_success with_reducible refine hK _ _ ?_);clear hK K));with_reducible refine hK _ _ ?_;clear hK K))
      rcases hw4 with h | h | h | h
      · exact key 0 norB (by decide) h rfl (by decide) (by rw [h]; rfl)
      · exact key 1 lisB (by decide) h rfl (by decide) (by rw [h]; rfl)
      · exact key 2 butB (by decide) h rfl (by decide) (by rw [h]; rfl)
      · exact key 3 tabB (by decide) h rfl (by decide) (by rw [h]; rfl)
    · rw [if_neg hs]
      by_cases h3 : which = 3
      · rw [if_pos h3]
        have n30 : ¬ ((3 : Int) < 0) := by decide
        have n34 : ¬ ((4 : Int) ≤ 3) := by decide
        refine Gives.of_W Tryz.call160 Tryz.func160 rfl Tryz.ntmps160 (by simp) ?_; intro Z hZ
        (repeat first|(with_reducible first|(refine hK _ _ ?_;clear hK K)|refine ‹∀σ w,_→K σ w› _ _ ?_|(refine W_st ?_;constructor;try intro K hK))|((with_reducible first|refine hZ _ _ ?_|refine W_rg ?_|skip);repeat1' simp only[push_cast,seval,-Nat.reduceSubDiff,h3,n30,n34,hs,not_true_eq_false])|((repeat((fail_if_success with_reducible refine hK _ _ ?_);clear hK K));with_reducible refine hK _ _ ?_;clear hK K))
      · rw [if_neg h3]
        refine Gives.of_W Tryz.call160 Tryz.func160 rfl Tryz.ntmps160 (by simp) ?_; intro Z hZ
        (repeat first|(with_reducible first|(refine hK _ _ ?_;clear hK K)|refine ‹∀σ w,_→K σ w› _ _ ?_|(refine W_st ?_;constructor;try intro K hK))|((with_reducible first|refine hZ _ _ ?_|refine W_rg ?_|skip);repeat1' simp only[push_cast,seval,-Nat.reduceSubDiff,h0,h4,hs,h3,not_false_eq_true])|((repeat((fail_if_success with_reducible refine hK _ _ ?_);clear hK K));with_reducible refine hK _ _ ?_;clear hK K))
        refine (special_c space s hm hz).mono ?_
        intro v w' ⟨hv, hw⟩
        subst hv; subst w'
        (repeat first|(with_reducible first|(refine hK _ _ ?_;clear hK K)|refine ‹∀σ w,_→K σ w› _ _ ?_|(refine W_st ?_;constructor;try intro K hK))|((with_reducible first|refine hZ _ _ ?_|refine W_rg ?_|skip);repeat1' simp only[push_cast,seval,-Nat.reduceSubDiff])|((repeat((fail_if_success with_reducible refine hK _ _ ?_);clear hK K));with_reducible refine hK _ _ ?_;clear hK K))
end Go.Proofs.YtgnnlaeikcnhcaaGreatDoor
end
section
set_option linter.unusedSimpArgs false
set_option linter.unusedVariables false
namespace Go.Vk
open Go
structure SK (w : World) (ps : Nat) (ap sv : Value) (s : List OpS) (bo : Option Nat) : Prop where
  head : w.heap[ps]? = some (.cells #[ap, sv] 120 (0, 0))
  sl : SlAt w 3 sv (opCells s) bo
  ne : bo ≠ some ps
theorem SK.upd {G : Nat → Prop} {w w' : World} {ps : Nat} {ap sv : Value} {s : List OpS} {bo : Option Nat} (h : SK w ps ap sv s bo) (hu : Upd G w w') (h1 : ¬ G ps) (h2 : ∀ b, bo = some b → ¬ G b) : SK w' ps ap sv s bo :=
  ⟨(hu.same ps (blk_lt h.head) h1).trans h.head, h.sl.upd hu h2, h.ne⟩
theorem SK.ext {w w' : World} {ps : Nat} {ap sv : Value} {s : List OpS} {bo : Option Nat} (h : SK w ps ap sv s bo) (hu : Ext w w') : SK w' ps ap sv s bo := h.upd hu id fun _ _ => id
def zS : OpS := ⟨0, 0, ⟨#[]⟩⟩
/-- the last place below one where it is so -/
def lastB (p : Nat → Bool) : Nat → Int
  | 0 => -1
  | k + 1 => if p k = true then k else lastB p k
def indexS (s : List OpS) (i : Int) : Int := lastB (fun k => decide ((s.getD k zS).node = i)) s.length
def atS (s : List OpS) (k : Int) : Int := if 0 ≤ k ∧ k < s.length then (s.getD k.toNat zS).node else -1
def topS (s : List OpS) : Int := atS s ((s.length : Int) - 1)
def strCells (l : List ByteArray) : List Value := l.map Value.string
theorem str_len {w : World} {v : Value} {l : List ByteArray} (h : RdAt w 1 v (strCells l)) : ∃ a c, v = .slice a l.length c ∧ l.length ≤ c ∧ ∀ (i : Nat) (x : ByteArray), l[i]? = some x → ∃ b o, a = some ⟨b, o, none⟩ ∧ w.cell? ⟨b, o + i, none⟩ = some (.string x) := by
  obtain ⟨a, n, c, rfl, h1, h2, h3⟩ := h
  have hl : (strCells l).length = l.length := by simp [strCells]
  rw [hl, Nat.mul_one] at h2
  subst h2
  refine ⟨a, c, rfl, h1, fun i x hx => ?_⟩
  exact h3 i (.string x) (by simp [strCells, hx])
theorem lastB_rng (p : Nat → Bool) : ∀ k : Nat, -1 ≤ lastB p k ∧ lastB p k < k
  | 0 => by simp [lastB]
  | k + 1 => by
    have := lastB_rng p k
    rw [lastB]
    split <;> omega
end Go.Vk
namespace Go.Proofs.YtgnnlaeikcnhcaaGreatDoor
open Go Go.Vk
set_option maxHeartbeats 40000000
section
variable {w : World} {ps pa : Nat} {sv : Value} {s : List OpS} {bo : Option Nat}
theorem slen_c {ap : Value} (h : SK w ps ap sv s bo) : Gives Tryz.prog 34 #[.pointer (some ⟨ps, 0, none⟩)] w fun v w' => v = .int .i64 (s.length : Int) ∧ w' = w := by
  obtain ⟨a, c, rfl, _⟩ := ops_len h.sl
  have h0 := h.head
  refine Gives.of_W Tryz.call34 Tryz.func34 rfl Tryz.ntmps34 (by simp) ?_; intro Z hZ
  (repeat first|(with_reducible first|(refine hK _ _ ?_;clear hK K)|refine ‹∀σ w,_→K σ w› _ _ ?_|(refine W_st ?_;constructor;try intro K hK))|((with_reducible first|refine hZ _ _ ?_|refine W_rg ?_|skip);repeat1' simp only[push_cast,seval,-Nat.reduceSubDiff,cell_h,cellO_cells,h0])|((repeat((fail_if_success with_reducible refine hK _ _ ?_);clear hK K));with_reducible refine hK _ _ ?_;clear hK K))
theorem snone_c (h : SK w ps (.pointer (some ⟨pa, 0, none⟩)) sv s bo) : Gives Tryz.prog 177 #[.pointer (some ⟨ps, 0, none⟩)] w fun v w' => v = .bool false ∧ w' = w := by
  have h0 := h.head
  refine Gives.of_W Tryz.call177 Tryz.func177 rfl Tryz.ntmps177 (by simp) ?_; intro Z hZ
  (repeat first|(with_reducible first|(refine hK _ _ ?_;clear hK K)|refine ‹∀σ w,_→K σ w› _ _ ?_|(refine W_st ?_;constructor;try intro K hK))|((with_reducible first|refine hZ _ _ ?_|refine W_rg ?_|skip);repeat1' simp only[push_cast,seval,-Nat.reduceSubDiff,cell_h,cellO_cells,h0])|((repeat((fail_if_success with_reducible refine hK _ _ ?_);clear hK K));with_reducible refine hK _ _ ?_;clear hK K))
theorem sat_c {ap : Value} (h : SK w ps ap sv s bo) (k : Int) : Gives Tryz.prog 52 #[.pointer (some ⟨ps, 0, none⟩), .int .i64 k] w fun v w' => v = .int .i64 (atS s k) ∧ w' = w := by
  unfold atS
  by_cases hk0 : k < 0
  · rw [if_neg (by omega)]
    refine Gives.of_W Tryz.call52 Tryz.func52 rfl Tryz.ntmps52 (by simp) ?_; intro Z hZ
    (repeat first|(with_reducible first|(refine hK _ _ ?_;clear hK K)|refine ‹∀σ w,_→K σ w› _ _ ?_|(refine W_st ?_;constructor;try intro K hK))|((with_reducible first|refine hZ _ _ ?_|refine W_rg ?_|skip);repeat1' simp only[push_cast,seval,-Nat.reduceSubDiff,hk0])|((repeat((fail_if_success with_reducible refine hK _ _ ?_);clear hK K));with_reducible refine hK _ _ ?_;clear hK K))
  · obtain ⟨k, rfl⟩ : ∃ q : Nat, k = (q : Int) := ⟨k.toNat, by omega⟩
    have b0 : (0 : Int) ≤ (k : Int) := by omega
    by_cases hkl : k < s.length
    · obtain ⟨y, hy⟩ : ∃ y, s[k]? = some y := ⟨_, List.getElem?_eq_getElem hkl⟩
      have hgd : s.getD ((k : Int).toNat) zS = y := by simp [List.getD, hy]
      have b1 : ¬ (s.length : Int) ≤ (k : Int) := by omega
      have b2 : (k : Int) < (s.length : Int) := by omega
      rw [if_pos ⟨b0, b2⟩, hgd]
      have hlen := slen_c h
      obtain ⟨b, o, c, rfl, _, c1, c2, c3⟩ := ops_cell h.sl hy
      have h0 := h.head
      refine Gives.of_W Tryz.call52 Tryz.func52 rfl Tryz.ntmps52 (by simp) ?_; intro Z hZ
      (repeat first|(with_reducible first|(refine hK _ _ ?_;clear hK K)|refine ‹∀σ w,_→K σ w› _ _ ?_|(refine W_st ?_;constructor;try intro K hK))|((with_reducible first|refine hZ _ _ ?_|refine W_rg ?_|skip);repeat1' simp only[push_cast,seval,-Nat.reduceSubDiff,hk0])|((repeat((fail_if_success with_reducible refine hK _ _ ?_);clear hK K));with_reducible refine hK _ _ ?_;clear hK K))
      refine hlen.mono ?_
      intro v w' ⟨hv, hw⟩
      subst hv; subst w'
      (repeat first|(with_reducible first|(refine hK _ _ ?_;clear hK K)|refine ‹∀σ w,_→K σ w› _ _ ?_|(refine W_st ?_;constructor;try intro K hK))|((with_reducible first|refine hZ _ _ ?_|refine W_rg ?_|skip);repeat1' simp only[push_cast,seval,-Nat.reduceSubDiff,b0,b1,b2,cell_h,cellO_cells,h0,c1])|((repeat((fail_if_success with_reducible refine hK _ _ ?_);clear hK K));with_reducible refine hK _ _ ?_;clear hK K))
    · have b1 : (s.length : Int) ≤ (k : Int) := by omega
      rw [if_neg (by omega)]
      refine Gives.of_W Tryz.call52 Tryz.func52 rfl Tryz.ntmps52 (by simp) ?_; intro Z hZ
      (repeat first|(with_reducible first|(refine hK _ _ ?_;clear hK K)|refine ‹∀σ w,_→K σ w› _ _ ?_|(refine W_st ?_;constructor;try intro K hK))|((with_reducible first|refine hZ _ _ ?_|refine W_rg ?_|skip);repeat1' simp only[push_cast,seval,-Nat.reduceSubDiff,hk0])|((repeat((fail_if_success with_reducible refine hK _ _ ?_);clear hK K));with_reducible refine hK _ _ ?_;clear hK K))
      refine (slen_c h).mono ?_
      intro v w' ⟨hv, hw⟩
      subst hv; subst w'
      (repeat first|(with_reducible first|(refine hK _ _ ?_;clear hK K)|refine ‹∀σ w,_→K σ w› _ _ ?_|(refine W_st ?_;constructor;try intro K hK))|((with_reducible first|refine hZ _ _ ?_|refine W_rg ?_|skip);repeat1' simp only[push_cast,seval,-Nat.reduceSubDiff,b1])|((repeat((fail_if_success with_reducible refine hK _ _ ?_);clear hK K));with_reducible refine hK _ _ ?_;clear hK K))
theorem stop_c {ap : Value} (h : SK w ps ap sv s bo) (hs : s.length < 100000) : Gives Tryz.prog 106 #[.pointer (some ⟨ps, 0, none⟩)] w fun v w' => v = .int .i64 (topS s) ∧ w' = w := by
  have b0 : inI64 ((s.length : Int) - 1) := by unfold inI64; omega
  refine Gives.of_W Tryz.call106 Tryz.func106 rfl Tryz.ntmps106 (by simp) ?_; intro Z hZ
  (repeat first|(with_reducible first|(refine hK _ _ ?_;clear hK K)|refine ‹∀σ w,_→K σ w› _ _ ?_|(refine W_st ?_;constructor;try intro K hK))|((with_reducible first|refine hZ _ _ ?_|refine W_rg ?_|skip);repeat1' simp only[push_cast,seval,-Nat.reduceSubDiff])|((repeat((fail_if_success with_reducible refine hK _ _ ?_);clear hK K));with_reducible refine hK _ _ ?_;clear hK K))
  refine (slen_c h).mono ?_
  intro v w' ⟨hv, hw⟩
  subst hv; subst w'
  (repeat first|(with_reducible first|(refine hK _ _ ?_;clear hK K)|refine ‹∀σ w,_→K σ w› _ _ ?_|(refine W_st ?_;constructor;try intro K hK))|((with_reducible first|refine hZ _ _ ?_|refine W_rg ?_|skip);repeat1' simp only[push_cast,seval,-Nat.reduceSubDiff,b0])|((repeat((fail_if_success with_reducible refine hK _ _ ?_);clear hK K));with_reducible refine hK _ _ ?_;clear hK K))
  refine (sat_c h _).mono ?_
  intro v w' ⟨hv, hw⟩
  subst hv; subst w'
  (repeat first|(with_reducible first|(refine hK _ _ ?_;clear hK K)|refine ‹∀σ w,_→K σ w› _ _ ?_|(refine W_st ?_;constructor;try intro K hK))|((with_reducible first|refine hZ _ _ ?_|refine W_rg ?_|skip);repeat1' simp only[push_cast,seval,-Nat.reduceSubDiff])|((repeat((fail_if_success with_reducible refine hK _ _ ?_);clear hK K));with_reducible refine hK _ _ ?_;clear hK K))
  rfl
theorem sindex_c {ap : Value} (h : SK w ps ap sv s bo) (hs : s.length < 100000) (i : Int) : Gives Tryz.prog 30 #[.pointer (some ⟨ps, 0, none⟩), .int .i64 i] w fun v w' => v = .int .i64 (indexS s i) ∧ w' = w := by
  have s0 : inI64 ((s.length : Int) - 1) := by unfold inI64; omega
  have h0 := h.head
  refine Gives.of_W Tryz.call30 Tryz.func30 rfl Tryz.ntmps30 (by simp) ?_; intro Z hZ
  (repeat first|(with_reducible first|(refine hK _ _ ?_;clear hK K)|refine ‹∀σ w,_→K σ w› _ _ ?_|(refine W_st ?_;constructor;try intro K hK))|((with_reducible first|refine hZ _ _ ?_|refine W_rg ?_|skip);repeat1' simp only[push_cast,seval,-Nat.reduceSubDiff])|((repeat((fail_if_success with_reducible refine hK _ _ ?_);clear hK K));with_reducible refine hK _ _ ?_;clear hK K))
  refine (slen_c h).mono ?_
  intro v w' ⟨hv, hw⟩
  subst hv; subst w'
  (repeat first|(with_reducible first|(refine hK _ _ ?_;clear hK K)|refine ‹∀σ w,_→K σ w› _ _ ?_|(refine W_st ?_;constructor;try intro K hK))|((with_reducible first|refine hZ _ _ ?_|refine W_rg ?_|skip);repeat1' simp only[push_cast,seval,-Nat.reduceSubDiff,s0])|((repeat((fail_if_success with_reducible refine hK _ _ ?_);clear hK K));with_reducible refine hK _ _ ?_;clear hK K))
  refine W_loop (S := Nat) (fun k => [(0, .pointer (some ⟨ps, 0, none⟩)), (1, .int .i64 i), (5, .int .i64 ((k : Int) - 1))])
    (fun k w2 => k ≤ s.length ∧ indexS s i = lastB (fun k => decide ((s.getD k zS).node = i)) k ∧ w2 = w) (fun k => k) s.length ?_ ?_ ?_
  · (repeat simp only [push_cast, seval, -Nat.reduceSubDiff])
  · exact ⟨Nat.le_refl _, rfl, rfl⟩
  rintro k w2 ⟨hk, he, hw⟩
  subst w2
  cases k with
  | zero =>
    have e0 : (((0 : Nat) : Int) - 1) = -1 := rfl
    rw [e0]
    have b0 : ¬ (0 : Int) ≤ -1 := by omega
    (repeat first|(with_reducible first|(refine hK _ _ ?_;clear hK K)|refine ‹∀σ w,_→K σ w› _ _ ?_|(refine W_st ?_;constructor;try intro K hK))|((with_reducible first|refine hZ _ _ ?_|refine W_rg ?_|skip);repeat1' simp only[push_cast,seval,-Nat.reduceSubDiff,b0])|((repeat((fail_if_success with_reducible refine hK _ _ ?_);clear hK K));with_reducible refine hK _ _ ?_;clear hK K))
    rw [he]; rfl
  | succ k =>
    have e0 : (((k + 1 : Nat) : Int) - 1) = k := by omega
    rw [e0]
    rw [lastB] at he
    have b2 : inI64 ((k : Int) - 1) := by unfold inI64; omega
    have b0 : (0 : Int) ≤ (k : Int) := by omega
    have hkl : k < s.length := by omega
    have b3 : (k : Int) < (s.length : Int) := by omega
    obtain ⟨y, hy⟩ : ∃ y, s[k]? = some y := ⟨_, List.getElem?_eq_getElem hkl⟩
    have hgd : s.getD k zS = y := by simp [List.getD, hy]
    rw [hgd] at he
    obtain ⟨b, o, c, rfl, _, c1, c2, c3⟩ := ops_cell h.sl hy
    by_cases hyi : y.node = i
    · rw [if_pos (by simpa using hyi)] at he
      rw [hyi] at c1
      (repeat first|(with_reducible first|(refine hK _ _ ?_;clear hK K)|refine ‹∀σ w,_→K σ w› _ _ ?_|(refine W_st ?_;constructor;try intro K hK))|((with_reducible first|refine hZ _ _ ?_|refine W_rg ?_|skip);repeat1' simp only[push_cast,seval,-Nat.reduceSubDiff,b0,b3,cell_h,cellO_cells,h0,c1,eq_self])|((repeat((fail_if_success with_reducible refine hK _ _ ?_);clear hK K));with_reducible refine hK _ _ ?_;clear hK K))
      exact he.symm
    · rw [if_neg (by simpa using hyi)] at he
      (repeat first|(with_reducible first|(refine hK _ _ ?_;clear hK K)|refine ‹∀σ w,_→K σ w› _ _ ?_|(refine W_st ?_;constructor;try intro K hK))|((with_reducible first|refine hZ _ _ ?_|refine W_rg ?_|skip);repeat1' simp only[push_cast,seval,-Nat.reduceSubDiff,b0,b2,b3,cell_h,cellO_cells,h0,c1,hyi])|((repeat((fail_if_success with_reducible refine hK _ _ ?_);clear hK K));with_reducible refine hK _ _ ?_;clear hK K))
      refine ⟨k, by omega, ?_⟩
      (repeat simp only [push_cast, seval, -Nat.reduceSubDiff])
      exact ⟨by omega, he⟩
theorem sidxs_c {v : Value} {l : List ByteArray} (ha : RdAt w 1 v (strCells l)) (hb : l.length < 1000000000) (x : ByteArray) :
    Gives Tryz.prog 204 #[v, .string x] w fun u w' => (∃ n, u = .int .i64 n ∧ decide (0 ≤ n) = l.any fun y => decide (x = y)) ∧ w' = w := by
  obtain ⟨a, c, rfl, _, hcell⟩ := str_len ha
  refine Gives.of_W Tryz.call204 Tryz.func204 rfl Tryz.ntmps204 (by simp) ?_; intro Z hZ
  (repeat first|(with_reducible first|(refine hK _ _ ?_;clear hK K)|refine ‹∀σ w,_→K σ w› _ _ ?_|(refine W_st ?_;constructor;try intro K hK))|((with_reducible first|refine hZ _ _ ?_|refine W_rg ?_|skip);repeat1' simp only[push_cast,seval,-Nat.reduceSubDiff])|((repeat((fail_if_success with_reducible refine hK _ _ ?_);clear hK K));with_reducible refine hK _ _ ?_;clear hK K))
  refine W_loop (S := Nat) (fun k => [(0, .slice a l.length c), (1, .string x), (7, .int .i64 (l.length : Int)), (8, .int .i64 (k : Int))])
    (fun k w2 => k ≤ l.length ∧ ((l.take k).any fun y => decide (x = y)) = false ∧ w2 = w) (fun k => l.length - k) 0 ?_ ?_ ?_
  · (repeat simp only [push_cast, seval, -Nat.reduceSubDiff])
  · exact ⟨by omega, by simp, rfl⟩
  rintro k w2 ⟨hk, hn, hw⟩
  subst w2
  by_cases hkl : k < l.length
  · obtain ⟨y, hy⟩ : ∃ y, l[k]? = some y := ⟨_, List.getElem?_eq_getElem hkl⟩
    obtain ⟨b, o, rfl, c1⟩ := hcell k y hy
    rw [cell_h] at c1
    have b0 : (k : Int) < (l.length : Int) := by omega
    have b1 : (0 : Int) ≤ (k : Int) := by omega
    have b2 : inI64 ((k : Int) + 1) := by unfold inI64; omega
    by_cases hxy : x = y
    · (repeat first|(with_reducible first|(refine hK _ _ ?_;clear hK K)|refine ‹∀σ w,_→K σ w› _ _ ?_|(refine W_st ?_;constructor;try intro K hK))|((with_reducible first|refine hZ _ _ ?_|refine W_rg ?_|skip);repeat1' simp only[push_cast,seval,-Nat.reduceSubDiff,b0,b1,cell_h,cellO_cells,c1,hxy,eq_self])|((repeat((fail_if_success with_reducible refine hK _ _ ?_);clear hK K));with_reducible refine hK _ _ ?_;clear hK K))
      have : (l.any fun y => decide (x = y)) = true := List.any_eq_true.2 ⟨y, List.mem_of_getElem? hy, by simpa using hxy⟩
      rw [← hxy]
      exact this.symm
    · (repeat first|(with_reducible first|(refine hK _ _ ?_;clear hK K)|refine ‹∀σ w,_→K σ w› _ _ ?_|(refine W_st ?_;constructor;try intro K hK))|((with_reducible first|refine hZ _ _ ?_|refine W_rg ?_|skip);repeat1' simp only[push_cast,seval,-Nat.reduceSubDiff,b0,b1,b2,cell_h,cellO_cells,c1,hxy])|((repeat((fail_if_success with_reducible refine hK _ _ ?_);clear hK K));with_reducible refine hK _ _ ?_;clear hK K))
      refine ⟨k + 1, by omega, ?_⟩
      (repeat simp only [push_cast, seval, -Nat.reduceSubDiff])
      refine ⟨by omega, ?_⟩
      rw [List.take_add_one, hy, List.any_append, hn]
      simp [hxy]
  · have hke : k = l.length := by omega
    subst hke
    have b0 : ¬ (l.length : Int) < (l.length : Int) := by omega
    rw [List.take_length] at hn
    (repeat first|(with_reducible first|(refine hK _ _ ?_;clear hK K)|refine ‹∀σ w,_→K σ w› _ _ ?_|(refine W_st ?_;constructor;try intro K hK))|((with_reducible first|refine hZ _ _ ?_|refine W_rg ?_|skip);repeat1' simp only[push_cast,seval,-Nat.reduceSubDiff,b0])|((repeat((fail_if_success with_reducible refine hK _ _ ?_);clear hK K));with_reducible refine hK _ _ ?_;clear hK K))
    rw [hn]
theorem sconts_c {v : Value} {l : List ByteArray} (ha : RdAt w 1 v (strCells l)) (hb : l.length < 1000000000) (x : ByteArray) :
    Gives Tryz.prog 161 #[v, .string x] w fun u w' => u = .bool (l.any fun y => decide (x = y)) ∧ w' = w := by
  obtain ⟨a, c, rfl, _, hcell⟩ := str_len ha
  refine Gives.of_W Tryz.call161 Tryz.func161 rfl Tryz.ntmps161 (by simp) ?_; intro Z hZ
  (repeat first|(with_reducible first|(refine hK _ _ ?_;clear hK K)|refine ‹∀σ w,_→K σ w› _ _ ?_|(refine W_st ?_;constructor;try intro K hK))|((with_reducible first|refine hZ _ _ ?_|refine W_rg ?_|skip);repeat1' simp only[push_cast,seval,-Nat.reduceSubDiff])|((repeat((fail_if_success with_reducible refine hK _ _ ?_);clear hK K));with_reducible refine hK _ _ ?_;clear hK K))
  refine (sidxs_c ha hb x).mono ?_
  rintro u w' ⟨⟨n, rfl, hn⟩, rfl⟩
  (repeat first|(with_reducible first|(refine hK _ _ ?_;clear hK K)|refine ‹∀σ w,_→K σ w› _ _ ?_|(refine W_st ?_;constructor;try intro K hK))|((with_reducible first|refine hZ _ _ ?_|refine W_rg ?_|skip);repeat1' simp only[push_cast,seval,-Nat.reduceSubDiff])|((repeat((fail_if_success with_reducible refine hK _ _ ?_);clear hK K));with_reducible refine hK _ _ ?_;clear hK K))
  rw [hn]
end
end Go.Proofs.YtgnnlaeikcnhcaaGreatDoor
end
section
set_option linter.unusedSimpArgs false
set_option linter.unusedVariables false
namespace Go.Vk
open Go
def StAt (w0 w : World) (Q : Nat → Prop) (ps pa : Nat) (L : List Nd) (s : List OpS) : Prop :=
  ∃ sv bo, SK w ps (.pointer (some ⟨pa, 0, none⟩)) sv s bo ∧ At w0 w (fun b => Q b ∨ b = ps ∨ bo = some b) pa L ∧ w0.heap.size ≤ ps ∧ (∀ b, bo = some b → w0.heap.size ≤ b ∧ ¬ Q b) ∧ ¬ Q ps
theorem StAt.pass {w0 w w' : World} {Q : Nat → Prop} {ps pa : Nat} {L : List Nd} {s : List OpS} (h : StAt w0 w Q ps pa L s) (hx : Ext w w') : StAt w0 w' Q ps pa L s := by
  obtain ⟨sv, bo, h1, h2, h3, h4, h5⟩ := h
  exact ⟨sv, bo, h1.ext hx, h2.pass hx, h3, h4, h5⟩
theorem StAt.out {w0 w : World} {Q : Nat → Prop} {ps pa : Nat} {L : List Nd} {s : List OpS} (h : StAt w0 w Q ps pa L s) : Ext w0 w := by
  obtain ⟨sv, bo, h1, h2, _⟩ := h
  exact h2.ext
theorem StAt.app {G : Nat → Prop} {w0 w w' : World} {Q Q' : Nat → Prop} {ps pa : Nat} {L : List Nd} {s : List OpS} (h : StAt w0 w Q ps pa L s) (hu : Upd G w w') (hG : ∀ b, b < w.heap.size → G b → Q b ∧ w0.heap.size ≤ b) (hQ : ∀ b, Q' b → Q b ∨ (w.heap.size ≤ b ∧ b < w'.heap.size)) : StAt w0 w' Q' ps pa L s := by
  obtain ⟨sv, bo, h1, h2, h3, h4, h5⟩ := h
  have hlt := blk_lt h1.head
  have hng : ¬ G ps := fun hg => h5 (hG ps hlt hg).1
  refine ⟨sv, bo, h1.upd hu hng fun b hb hg => ?_, h2.app hu (fun b hb hg => ⟨.inl (hG b hb hg).1, (hG b hb hg).2⟩) fun b hb => ?_, h3, fun b hb => ⟨(h4 b hb).1, fun hq => ?_⟩, fun hq => ?_⟩
  · have hbl : b < w.heap.size := by subst hb; exact h1.sl.lt
    exact (h4 b hb).2 (hG b hbl hg).1
  · rcases hb with hb | hb | hb
    · rcases hQ b hb with h | h
      · exact .inl (.inl h)
      · exact .inr h
    · exact .inl (.inr (.inl hb))
    · exact .inl (.inr (.inr hb))
  · rcases hQ b hq with h | h
    · exact (h4 b hb).2 h
    · subst hb
      have := h1.sl.lt; omega
  · rcases hQ ps hq with h | h
    · exact h5 h
    · omega
theorem st_put {w0 w w2 : World} {Q : Nat → Prop} {ps pa : Nat} {L : List Nd} {s s' : List OpS} {sv u : Value} {bo bo' : Option Nat} (hF : SK w ps (.pointer (some ⟨pa, 0, none⟩)) sv s bo) (hA : At w0 w (fun b => Q b ∨ b = ps ∨ bo = some b) pa L)
    (hpl : w0.heap.size ≤ ps) (hbo : ∀ b, bo = some b → w0.heap.size ≤ b ∧ ¬ Q b) (hQ : ¬ Q ps) (hQl : ∀ b, Q b → b < w.heap.size) (g1 : SlAt w2 3 u (opCells s') bo') (g2 : Upd (fun b => bo = some b) w w2) (g3 : ∀ b, bo' = some b → bo = some b ∨ w.heap.size ≤ b) :
    canStore w2 ⟨ps, 1, none⟩ ∧ StAt w0 (w2.setCell ⟨ps, 1, none⟩ u) Q ps pa L s' ∧ Upd (AF w0 Q) w (w2.setCell ⟨ps, 1, none⟩ u) := by
  have hlt := blk_lt hF.head
  have hnb : ¬ bo = some ps := hF.ne
  have hp2 := (g2.same ps hlt hnb).trans hF.head
  have h0 := hA.ext.alike.size
  have hne' : bo' ≠ some ps := fun e => by
    rcases g3 ps e with h | h
    · exact hnb h
    · omega
  have hs2 := g2.alike.size
  have up : Upd (fun b => b = ps) w2 (w2.setCell ⟨ps, 1, none⟩ u) := Upd.setCell (F := fun b => b = ps) (a := ⟨ps, 1, none⟩) w2 rfl u
  refine ⟨by rw [can_h, hp2, canO_cells]; exact Nat.lt_succ_self 1, ⟨u, bo', ⟨?_, g1.upd up fun b hb e => hne' (by rw [hb, e]), hne'⟩, ?_, hpl, fun b hb => ?_, hQ⟩, ?_⟩
  · rw [heap_set_h, if_pos rfl, hp2]; rfl
  · have hA2 : At w0 w2 (fun b => Q b ∨ b = ps ∨ bo' = some b) pa L := hA.app g2 (fun b hb e => ⟨.inr (.inr e), (hbo b e).1⟩) fun b hb => by
      rcases hb with hb | hb | hb
      · exact .inl (.inl hb)
      · exact .inl (.inr (.inl hb))
      · rcases g3 b hb with h | h
        · exact .inl (.inr (.inr h))
        · exact .inr ⟨h, by rw [hb] at g1; exact g1.lt⟩
    exact hA2.frame up fun b e => ⟨.inr (.inl e), e ▸ hpl⟩
  · rcases g3 b hb with h | h
    · exact hbo b h
    · exact ⟨by omega, fun hq => by have := hQl b hq; omega⟩
  · refine Upd.trans (g2.mono fun b _ e => ⟨(hbo b e).1, (hbo b e).2⟩) up fun b _ e => ⟨e ▸ hpl, e ▸ hQ⟩
/-- an element that is in place of another one -/
theorem st_same {w0 w w2 : World} {Q : Nat → Prop} {ps pa : Nat} {L : List Nd} {s s' : List OpS} {sv : Value} {bo : Option Nat} (hF : SK w ps (.pointer (some ⟨pa, 0, none⟩)) sv s bo) (hA : At w0 w (fun b => Q b ∨ b = ps ∨ bo = some b) pa L)
    (hpl : w0.heap.size ≤ ps) (hbo : ∀ b, bo = some b → w0.heap.size ≤ b ∧ ¬ Q b) (hQ : ¬ Q ps) (g1 : SlAt w2 3 sv (opCells s') bo) (g2 : Upd (fun b => bo = some b) w w2) : StAt w0 w2 Q ps pa L s' ∧ Upd (AF w0 Q) w w2 := by
  have hlt := blk_lt hF.head
  have hnb : ¬ bo = some ps := hF.ne
  refine ⟨⟨sv, bo, ⟨(g2.same ps hlt hnb).trans hF.head, g1, hnb⟩, hA.app g2 (fun b hb e => ⟨.inr (.inr e), (hbo b e).1⟩) fun b hb => .inl hb, hpl, hbo, hQ⟩, g2.mono fun b _ e => ⟨(hbo b e).1, (hbo b e).2⟩⟩
def opN (L : List Nd) (i : Int) : OpS := ⟨i, ((nd? L i).getD zN).space, ((nd? L i).getD zN).name⟩
end Go.Vk
namespace Go.Proofs.YtgnnlaeikcnhcaaGreatDoor
open Go Go.Vk
theorem pl79 (w : World) : ((fsOf Tryz.prog 127).mapM plOf).run Tryz.prog w = .ok #[(0,1),(1,1),(2,1)] w := by
  simp [fsOf, plOf, Tryz.underlying127, Sem.run, Tryz.sizeOf3, Tryz.sizeOf9]
theorem un79 : Tryz.prog.underlying 127 = some (.struct (fsOf Tryz.prog 127)) := by rw [fsOf, Tryz.underlying127]
theorem pl71 (w : World) : ((fsOf Tryz.prog 120).mapM plOf).run Tryz.prog w = .ok #[(0,1),(1,1)] w := by
  simp [fsOf, plOf, Tryz.underlying120, Sem.run, Tryz.sizeOf42, Tryz.sizeOf118]
theorem un71 : Tryz.prog.underlying 120 = some (.struct (fsOf Tryz.prog 120)) := by rw [fsOf, Tryz.underlying120]
set_option maxHeartbeats 40000000
section
variable {w0 w : World} {Q : Nat → Prop} {ps pa : Nat} {L : List Nd} {s : List OpS}
theorem snew_c (h : At w0 w Q pa L) (hL : L ≠ []) : Gives Tryz.prog 93 #[.pointer (some ⟨pa, 0, none⟩)] w fun v w' => ∃ ps, v = .pointer (some ⟨ps, 0, none⟩) ∧ StAt w0 w' Q ps pa L [] ∧ Ext w w' := by
  have b0 : ((L.length : Int) = 0) = False := eq_false (by have := List.length_pos_iff.2 hL; omega)
  refine Gives.of_W Tryz.call93 Tryz.func93 rfl Tryz.ntmps93 (by simp) ?_; intro Z hZ
  (repeat first|(with_reducible first|(refine hK _ _ ?_;clear hK K)|refine ‹∀σ w,_→K σ w› _ _ ?_|(refine W_st ?_;constructor;try intro K hK))|((with_reducible first|refine hZ _ _ ?_|refine W_rg ?_|skip);repeat1' simp only[push_cast,seval,-Nat.reduceSubDiff])|((repeat((fail_if_success with_reducible refine hK _ _ ?_);clear hK K));with_reducible refine hK _ _ ?_;clear hK K))
  refine (len_a h).mono ?_
  rintro v w' ⟨rfl, rfl⟩
  (repeat first|(with_reducible first|(refine hK _ _ ?_;clear hK K)|refine ‹∀σ w,_→K σ w› _ _ ?_|(refine W_st ?_;constructor;try intro K hK))|((with_reducible first|refine hZ _ _ ?_|refine W_rg ?_|skip);repeat1' simp only[push_cast,seval,-Nat.reduceSubDiff,b0])|((repeat((fail_if_success with_reducible refine hK _ _ ?_);clear hK K));with_reducible refine hK _ _ ?_;clear hK K))
  refine build_struct Tryz.zeroValue120 un71 pl71 (cs := #[.pointer (some ⟨pa, 0, none⟩), .slice none 0 0]) (by rfl) ?_
  (repeat first|(with_reducible first|(refine hK _ _ ?_;clear hK K)|refine ‹∀σ w,_→K σ w› _ _ ?_|(refine W_st ?_;constructor;try intro K hK))|((with_reducible first|refine hZ _ _ ?_|refine W_rg ?_|skip);repeat1' simp only[push_cast,seval,-Nat.reduceSubDiff,vcells_agg])|((repeat((fail_if_success with_reducible refine hK _ _ ?_);clear hK K));with_reducible refine hK _ _ ?_;clear hK K))
  have hx := Ext.alloc w' (.cells #[.pointer (some ⟨pa, 0, none⟩), .slice none 0 0] 120)
  have h0 := h.ext.alike.size
  have hA : At w0 (w'.alloc (.cells #[.pointer (some ⟨pa, 0, none⟩), .slice none 0 0] 120)) (fun b => Q b ∨ b = w'.heap.size ∨ (none : Option Nat) = some b) pa L := h.guard hx fun b hb => by
    rcases hb with hb | rfl | hb
    · exact .inl hb
    · exact .inr ⟨Nat.le_refl _, by rw [size_alloc_h]; omega⟩
    · cases hb
  exact ⟨w'.heap.size, rfl, ⟨_, none, ⟨by rw [heap_alloc_h, if_pos rfl], SlAt.nil _ _, by simp⟩, hA, h0, (fun b hb => by cases hb), fun hq => by have := h.low _ hq; omega⟩, hx⟩
theorem sel_c (h : StAt w0 w Q ps pa L s) (hb : L.length < 100000) (ha : ∀ n ∈ L, n.attrs.length < 1000000) (i : Int) : Gives Tryz.prog 197 #[.pointer (some ⟨ps, 0, none⟩), .int .i64 i] w fun v w' => v = .tuple #[.agg (if ((nd? L i).getD zN).kind = 3 then (opN L i).row else zS.row), .int .i64 (if ((nd? L i).getD zN).kind = 3 then 0 else 2)] ∧ Ext w w' := by
  obtain ⟨sv, bo, hF, hA, hpl, hbo, hQ⟩ := h
  have hx1 := Ext.alloc w (.cells #[.int .i64 0, .int .i64 0, .string ⟨#[]⟩] 127)
  have z1 : (w.alloc (.cells #[.int .i64 0, .int .i64 0, .string ⟨#[]⟩] 127)).heap[w.heap.size]? = some (.cells #[.int .i64 0, .int .i64 0, .string ⟨#[]⟩] 127 (0, 0)) := by rw [heap_alloc_h, if_pos rfl]
  refine Gives.of_W Tryz.call197 Tryz.func197 rfl Tryz.ntmps197 (by simp) ?_; intro Z hZ
  (repeat first|(with_reducible first|(refine hK _ _ ?_;clear hK K)|refine ‹∀σ w,_→K σ w› _ _ ?_|(refine W_st ?_;constructor;try intro K hK))|((with_reducible first|refine hZ _ _ ?_|refine W_rg ?_|skip);repeat1' simp only[push_cast,seval,-Nat.reduceSubDiff,RunV_zero Tryz.zeroValue127,vcells_agg])|((repeat((fail_if_success with_reducible refine hK _ _ ?_);clear hK K));with_reducible refine hK _ _ ?_;clear hK K))
  generalize w.alloc (.cells #[.int .i64 0, .int .i64 0, .string ⟨#[]⟩] 127) = w1 at *
  have hF1 := hF.ext hx1
  have hA1 := hA.pass hx1
  refine (snone_c hF1).mono ?_
  intro v w' ⟨hv, hw⟩
  subst hv; subst w'
  have h0 := hF1.head
  (repeat first|(with_reducible first|(refine hK _ _ ?_;clear hK K)|refine ‹∀σ w,_→K σ w› _ _ ?_|(refine W_st ?_;constructor;try intro K hK))|((with_reducible first|refine hZ _ _ ?_|refine W_rg ?_|skip);repeat1' simp only[push_cast,seval,-Nat.reduceSubDiff,cell_h,cellO_cells,h0])|((repeat((fail_if_success with_reducible refine hK _ _ ?_);clear hK K));with_reducible refine hK _ _ ?_;clear hK K))
  refine (node_a hA1 hb ha i).mono ?_
  rintro v w2 ⟨m, rfl, hm, hok, hA2, hx2, _, _⟩
  have z2 := hx2.blk z1
  obtain ⟨xa, xn, xc, exa, _⟩ := hok.attrs.len
  obtain ⟨ya, yn, yc, eya, _⟩ := hok.kids.len
  rw [Laid.val_eq, exa, eya]
  (repeat first|(with_reducible first|(refine hK _ _ ?_;clear hK K)|refine ‹∀σ w,_→K σ w› _ _ ?_|(refine W_st ?_;constructor;try intro K hK))|((with_reducible first|refine hZ _ _ ?_|refine W_rg ?_|skip);repeat1' simp only[push_cast,seval,-Nat.reduceSubDiff,RunV_zero Tryz.zeroValue46])|((repeat((fail_if_success with_reducible refine hK _ _ ?_);clear hK K));with_reducible refine hK _ _ ?_;clear hK K))
  simp only [vcells_agg, can_h, heap_alloc_h, if_true, canO_cells, List.size_toArray, List.length_cons, List.length_nil, Nat.zero_add, Nat.reduceAdd, Nat.reduceLT, true_and]
  have z6 : (w2.alloc (.cells #[.int .i64 0, .string ⟨#[]⟩, .string ⟨#[]⟩, .int .i64 0, .slice none 0 0, .bool false, .int .i64 0, .int .i64 0, .slice none 0 0, .int .i64 0, .int .i64 0] 46)).heap[w2.heap.size]? = some (.cells #[.int .i64 0, .string ⟨#[]⟩, .string ⟨#[]⟩, .int .i64 0, .slice none 0 0, .bool false, .int .i64 0, .int .i64 0, .slice none 0 0, .int .i64 0, .int .i64 0] 46 (0, 0)) := by rw [heap_alloc_h, if_pos rfl]
  have hp6 := setCells_all z6 (l := [.int .i64 m.nd.kind, .string m.nd.name, .string m.nd.text, .int .i64 m.nd.space, .slice xa xn xc, .bool m.nd.dup, .int .i64 m.nd.parent, .int .i64 m.nd.content, .slice ya yn yc, .int .i64 m.nd.frm, .int .i64 m.nd.to]) rfl
  have hx6 : Ext w2 (setCells (w2.alloc (.cells #[.int .i64 0, .string ⟨#[]⟩, .string ⟨#[]⟩, .int .i64 0, .slice none 0 0, .bool false, .int .i64 0, .int .i64 0, .slice none 0 0, .int .i64 0, .int .i64 0] 46)) ⟨w2.heap.size, 0, none⟩ [.int .i64 m.nd.kind, .string m.nd.name, .string m.nd.text, .int .i64 m.nd.space, .slice xa xn xc, .bool m.nd.dup, .int .i64 m.nd.parent, .int .i64 m.nd.content, .slice ya yn yc, .int .i64 m.nd.frm, .int .i64 m.nd.to] 0) := Upd.trans (Ext.alloc w2 _) (Upd.setCells (F := fun b => b = w2.heap.size) (a := ⟨w2.heap.size, 0, none⟩) _ rfl _ 0) fun i hi e => by omega
  generalize setCells (w2.alloc (.cells #[.int .i64 0, .string ⟨#[]⟩, .string ⟨#[]⟩, .int .i64 0, .slice none 0 0, .bool false, .int .i64 0, .int .i64 0, .slice none 0 0, .int .i64 0, .int .i64 0] 46)) ⟨w2.heap.size, 0, none⟩ [.int .i64 m.nd.kind, .string m.nd.name, .string m.nd.text, .int .i64 m.nd.space, .slice xa xn xc, .bool m.nd.dup, .int .i64 m.nd.parent, .int .i64 m.nd.content, .slice ya yn yc, .int .i64 m.nd.frm, .int .i64 m.nd.to] 0 = w6 at *
  obtain ⟨p8, hp8⟩ : ∃ p8, p8 = w2.heap.size := ⟨_, rfl⟩
  rw [← hp8] at hp6 ⊢
  have z3 := hx6.blk z2
  have hlt := blk_lt z2
  have hne : ¬ w.heap.size = p8 := by omega
  have hx : Ext w w6 := hx1.trans (hx2.trans hx6)
  by_cases hk : ((nd? L i).getD zN).kind = 3
  · rw [← hm] at hk
    (repeat first|(with_reducible first|(refine hK _ _ ?_;clear hK K)|refine ‹∀σ w,_→K σ w› _ _ ?_|(refine W_st ?_;constructor;try intro K hK))|((with_reducible first|refine hZ _ _ ?_|refine W_rg ?_|skip);repeat1' simp only[push_cast,seval,-Nat.reduceSubDiff,cell_h,can_h,cellO_cells,canO_cells,setO_cells,heap_set_h,heap_alloc_h,size_set_h,size_alloc_h,vcells_agg,succ_ne,ne_succ,List.setIfInBounds_toArray,List.set_cons_succ,List.set_cons_zero,setCells,drew_h,hp6,z3,hk,not_true_eq_false,decide_false,decide_true,vcells_agg,hne])|((repeat((fail_if_success with_reducible refine hK _ _ ?_);clear hK K));with_reducible refine hK _ _ ?_;clear hK K))
    refine build_struct Tryz.zeroValue127 un79 pl79 (cs := #[.int .i64 i, .int .i64 m.nd.space, .string m.nd.name]) (by rfl) ?_
    (repeat first|(with_reducible first|(refine hK _ _ ?_;clear hK K)|refine ‹∀σ w,_→K σ w› _ _ ?_|(refine W_st ?_;constructor;try intro K hK))|((with_reducible first|refine hZ _ _ ?_|refine W_rg ?_|skip);repeat1' simp only[push_cast,seval,-Nat.reduceSubDiff,cell_h,can_h,cellO_cells,canO_cells,setO_cells,heap_set_h,heap_alloc_h,size_set_h,size_alloc_h,vcells_agg,succ_ne,ne_succ,List.setIfInBounds_toArray,List.set_cons_succ,List.set_cons_zero,setCells,drew_h,hp6,z3,hk,not_true_eq_false,decide_false,decide_true,vcells_agg,hne])|((repeat((fail_if_success with_reducible refine hK _ _ ?_);clear hK K));with_reducible refine hK _ _ ?_;clear hK K))
    rw [hm] at hk
    rw [if_pos hk, if_pos hk]
    unfold opN OpS.row
    rw [← hm]
    exact ⟨rfl, Upd.trans hx (Upd.setCells (F := fun b => b = w.heap.size) (a := ⟨w.heap.size, 0, none⟩) w6 rfl [.int .i64 i, .int .i64 m.nd.space, .string m.nd.name] 0) fun i hi e => by omega⟩
  · rw [← hm] at hk
    (repeat first|(with_reducible first|(refine hK _ _ ?_;clear hK K)|refine ‹∀σ w,_→K σ w› _ _ ?_|(refine W_st ?_;constructor;try intro K hK))|((with_reducible first|refine hZ _ _ ?_|refine W_rg ?_|skip);repeat1' simp only[push_cast,seval,-Nat.reduceSubDiff,cell_h,can_h,cellO_cells,canO_cells,setO_cells,heap_set_h,heap_alloc_h,size_set_h,size_alloc_h,vcells_agg,succ_ne,ne_succ,List.setIfInBounds_toArray,List.set_cons_succ,List.set_cons_zero,setCells,drew_h,hp6,z3,hk,not_true_eq_false,decide_false,decide_true,vcells_agg,hne])|((repeat((fail_if_success with_reducible refine hK _ _ ?_);clear hK K));with_reducible refine hK _ _ ?_;clear hK K))
    refine build_struct Tryz.zeroValue127 un79 pl79 (cs := #[.int .i64 0, .int .i64 0, .string ⟨#[]⟩]) (by rfl) ?_
    (repeat first|(with_reducible first|(refine hK _ _ ?_;clear hK K)|refine ‹∀σ w,_→K σ w› _ _ ?_|(refine W_st ?_;constructor;try intro K hK))|((with_reducible first|refine hZ _ _ ?_|refine W_rg ?_|skip);repeat1' simp only[push_cast,seval,-Nat.reduceSubDiff,cell_h,can_h,cellO_cells,canO_cells,setO_cells,heap_set_h,heap_alloc_h,size_set_h,size_alloc_h,vcells_agg,succ_ne,ne_succ,List.setIfInBounds_toArray,List.set_cons_succ,List.set_cons_zero,setCells,drew_h,hp6,z3,hk,not_true_eq_false,decide_false,decide_true,vcells_agg,hne])|((repeat((fail_if_success with_reducible refine hK _ _ ?_);clear hK K));with_reducible refine hK _ _ ?_;clear hK K))
    rw [hm] at hk
    rw [if_neg hk, if_neg hk]
    exact ⟨rfl, Upd.trans hx (Upd.setCells (F := fun b => b = w.heap.size) (a := ⟨w.heap.size, 0, none⟩) w6 rfl [.int .i64 0, .int .i64 0, .string ⟨#[]⟩] 0) fun i hi e => by omega⟩
end
end Go.Proofs.YtgnnlaeikcnhcaaGreatDoor
end
section
set_option linter.unusedSimpArgs false
set_option linter.unusedVariables false
namespace Go.Vk
open Go
def insS (L : List Nd) (s : List OpS) (k i : Int) : List OpS × Int := if ((nd? L i).getD zN).kind = 3 then (if 0 ≤ k ∧ k ≤ s.length then (if 512 ≤ s.length then (s, 150) else (s.take k.toNat ++ opN L i :: s.drop k.toNat, 0)) else (s, 2)) else (s, 2)
theorem ext0 {P : Program} (a b : Value) (w : World) (K : Value → World → Prop) : Pure1 P (Instr.extract (.tuple #[a, b]) 0) w K = K a w := Pure1_eq (fun w => by simp [Instr.extract, Sem.run]) w K
theorem ext1 {P : Program} (a b : Value) (w : World) (K : Value → World → Prop) : Pure1 P (Instr.extract (.tuple #[a, b]) 1) w K = K b w := Pure1_eq (fun w => by simp [Instr.extract, Sem.run]) w K
theorem new3 (w : World) (y1 y2 y3 x1 x2 x3 : Value) (t : TypeId) : Ext w (setCells (w.alloc (.cells #[y1, y2, y3] t)) ⟨w.heap.size, 0, none⟩ [x1, x2, x3] 0) ∧ (setCells (w.alloc (.cells #[y1, y2, y3] t)) ⟨w.heap.size, 0, none⟩ [x1, x2, x3] 0).heap[w.heap.size]? = some (.cells #[x1, x2, x3] t (0, 0)) ∧ (setCells (w.alloc (.cells #[y1, y2, y3] t)) ⟨w.heap.size, 0, none⟩ [x1, x2, x3] 0).heap.size = w.heap.size + 1 := by
  have z1 : (w.alloc (.cells #[y1, y2, y3] t)).heap[w.heap.size]? = some (.cells #[y1, y2, y3] t (0, 0)) := by rw [heap_alloc_h, if_pos rfl]
  have up := Upd.setCells (F := fun b => b = w.heap.size) (a := ⟨w.heap.size, 0, none⟩) (w.alloc (.cells #[y1, y2, y3] t)) rfl [x1, x2, x3] 0
  refine ⟨Upd.trans (Ext.alloc w _) up fun i hi e => by omega, setCells_all z1 rfl, ?_⟩
  simp [setCells, size_set_h, size_alloc_h]
end Go.Vk
namespace Go.Proofs.YtgnnlaeikcnhcaaGreatDoor
open Go Go.Vk
set_option maxHeartbeats 40000000
section
variable {w0 w : World} {Q : Nat → Prop} {ps pa : Nat} {L : List Nd} {s : List OpS}
theorem sins_c (h : StAt w0 w Q ps pa L s) (hb : L.length < 100000) (ha : ∀ n ∈ L, n.attrs.length < 1000000) (hs : s.length < 10000) (k i : Int) : Gives Tryz.prog 149 #[.pointer (some ⟨ps, 0, none⟩), .int .i64 k, .int .i64 i] w fun v w' => v = .int .i64 (insS L s k i).2 ∧ StAt w0 w' Q ps pa L (insS L s k i).1 ∧ Upd (AF w0 Q) w w' := by
  refine Gives.of_W Tryz.call149 Tryz.func149 rfl Tryz.ntmps149 (by simp) ?_; intro Z hZ
  (repeat first|(with_reducible first|(refine hK _ _ ?_;clear hK K)|refine ‹∀σ w,_→K σ w› _ _ ?_|(refine W_st ?_;constructor;try intro K hK))|((with_reducible first|refine hZ _ _ ?_|refine W_rg ?_|skip);repeat1' simp only[push_cast,seval,-Nat.reduceSubDiff])|((repeat((fail_if_success with_reducible refine hK _ _ ?_);clear hK K));with_reducible refine hK _ _ ?_;clear hK K))
  refine (sel_c h hb ha i).mono ?_
  rintro v w2 ⟨rfl, hx2⟩
  have h2 := h.pass hx2
  obtain ⟨O, hO⟩ : ∃ O : OpS, (if ((nd? L i).getD zN).kind = 3 then (opN L i).row else zS.row) = O.row ∧ (((nd? L i).getD zN).kind = 3 → O = opN L i) := by
    by_cases hk : ((nd? L i).getD zN).kind = 3
    · exact ⟨opN L i, if_pos hk, fun _ => rfl⟩
    · exact ⟨zS, if_neg hk, fun h => absurd h hk⟩
  rw [hO.1]
  have hO := hO.2
  generalize he : (if ((nd? L i).getD zN).kind = 3 then (0 : Int) else 2) = e
  unfold OpS.row
  (repeat first|(with_reducible first|(refine hK _ _ ?_;clear hK K)|refine ‹∀σ w,_→K σ w› _ _ ?_|(refine W_st ?_;constructor;try intro K hK))|((with_reducible first|refine hZ _ _ ?_|refine W_rg ?_|skip);repeat1' simp only[push_cast,seval,-Nat.reduceSubDiff,RunV_zero Tryz.zeroValue127,ext0,ext1,vcells_agg])|((repeat((fail_if_success with_reducible refine hK _ _ ?_);clear hK K));with_reducible refine hK _ _ ?_;clear hK K))
  obtain ⟨hx3, z3, hs3⟩ := new3 w2 (.int .i64 0) (.int .i64 0) (.string ⟨#[]⟩) (.int .i64 O.node) (.int .i64 O.space) (.string O.name) 127
  simp only [can_h, heap_alloc_h, if_true, canO_cells, List.size_toArray, List.length_cons, List.length_nil, Nat.zero_add, Nat.reduceAdd, Nat.reduceLT, true_and]
  generalize setCells (w2.alloc (.cells #[.int .i64 0, .int .i64 0, .string ⟨#[]⟩] 127)) ⟨w2.heap.size, 0, none⟩ [.int .i64 O.node, .int .i64 O.space, .string O.name] 0 = w3 at *
  have hx13 : Ext w w3 := hx2.trans hx3
  have h3 := h2.pass hx3
  obtain ⟨p7, hp7⟩ : ∃ p7, p7 = w2.heap.size := ⟨_, rfl⟩
  rw [← hp7] at z3 hs3 ⊢
  by_cases hk : ((nd? L i).getD zN).kind = 3
  · rw [if_pos hk] at he
    subst he
    rw [hO hk] at z3
    by_cases hkk : 0 ≤ k ∧ k ≤ s.length
    · have b0 : ¬ k < 0 := by omega
      have b1 : ¬ (s.length : Int) < k := by omega
      have h2' := h2
      obtain ⟨sv, bo, hF2, hA2, hpl, hbo, hQ⟩ := h2'
      have hb7 : ∀ b, bo = some b → b < p7 := fun b hb => by
        have := hF2.sl; rw [hb] at this; have := this.lt; omega
      have hp2 := blk_lt hF2.head
      have hF := hF2.ext hx3
      have hA := hA2.pass hx3
      have h0 := hF.head
      obtain ⟨a, c, rfl, hc⟩ := ops_len hF.sl
      by_cases hd : 512 ≤ s.length
      · have eI : insS L s k i = (s, 150) := by unfold insS; rw [if_pos hk, if_pos hkk, if_pos hd]
        have b2 : (512 : Int) ≤ (s.length : Int) := by omega
        (repeat first|(with_reducible first|(refine hK _ _ ?_;clear hK K)|refine ‹∀σ w,_→K σ w› _ _ ?_|(refine W_st ?_;constructor;try intro K hK))|((with_reducible first|refine hZ _ _ ?_|refine W_rg ?_|skip);repeat1' simp only[push_cast,seval,-Nat.reduceSubDiff,not_true_eq_false,not_false_eq_true,decide_true,decide_false,b0,b1,b2,cell_h,cellO_cells,h0])|((repeat((fail_if_success with_reducible refine hK _ _ ?_);clear hK K));with_reducible refine hK _ _ ?_;clear hK K))
        rw [eI]
        exact ⟨rfl, h3, hx13.upd⟩
      · have eI : insS L s k i = (s.take k.toNat ++ opN L i :: s.drop k.toNat, 0) := by unfold insS; rw [if_pos hk, if_pos hkk, if_neg hd]
        have b2 : ¬ (512 : Int) ≤ (s.length : Int) := by omega
        (repeat first|(with_reducible first|(refine hK _ _ ?_;clear hK K)|refine ‹∀σ w,_→K σ w› _ _ ?_|(refine W_st ?_;constructor;try intro K hK))|((with_reducible first|refine hZ _ _ ?_|refine W_rg ?_|skip);repeat1' simp only[push_cast,seval,-Nat.reduceSubDiff,not_true_eq_false,not_false_eq_true,decide_true,decide_false,b0,b1,b2,cell_h,cellO_cells,h0])|((repeat((fail_if_success with_reducible refine hK _ _ ?_);clear hK K));with_reducible refine hK _ _ ?_;clear hK K))
        refine W_draw (.pas 0 (.pas 1 (.pas 2 (.pas 3 (.pas 4 (.pas 5 (.pas 6 (.act 7 (.act 8 (.pas 9 (.pas 10 (.last 11)))))))))))) (fun q => q = ps ∨ q = p7) (by decide) mixed (by kernel_rfl) ?_
        have hxd := Ext.drew w3
        have hF4 := hF.ext hxd
        have hA4 := hA.pass hxd
        have h04 := hF4.head
        have z4 := hxd.blk z3
        generalize w3.drew = w4 at *
        (repeat (first | ((first | refine pas_plain rfl ?_ | refine pas_g rfl rfl ?_ | refine act_plain rfl ?_ | refine act_g rfl rfl ?_ | refine last_plain rfl ?_ | refine tail_plain rfl ?_ | refine tail_g rfl rfl ?_); (repeat simp only [push_cast, seval, -Nat.reduceSubDiff, cell_h, can_h, cellO_cells, canO_cells, setO_cells, heap_set_h, heap_alloc_h, size_set_h, size_alloc_h, vcells_agg, succ_ne, ne_succ, List.setIfInBounds_toArray, List.set_cons_succ, List.set_cons_zero, setCells, drew_h, true_or, or_true, h04, z4, true_or, or_true, eq_self])) | (refine tail_fin ?_) | (refine sch_fin ?_)))
        have hx4 : Ext w w4 := hx13.trans hxd
        have hs4 := hxd.alike.size
        refine bs_one styO (by decide) (by decide) (v := .agg (opN L i).row) rfl ?_
        refine ⟨kept_upd (Ext.alloc _ _) fun q hq => ⟨by have := blk_lt h04; have := blk_lt z4; rcases hq with hq | hq <;> omega, id⟩, ?_⟩
        (repeat (first | ((first | refine pas_plain rfl ?_ | refine pas_g rfl rfl ?_ | refine act_plain rfl ?_ | refine act_g rfl rfl ?_ | refine last_plain rfl ?_ | refine tail_plain rfl ?_ | refine tail_g rfl rfl ?_); (repeat simp only [push_cast, seval, -Nat.reduceSubDiff, cell_h, can_h, cellO_cells, canO_cells, setO_cells, heap_set_h, heap_alloc_h, size_set_h, size_alloc_h, vcells_agg, succ_ne, ne_succ, List.setIfInBounds_toArray, List.set_cons_succ, List.set_cons_zero, setCells, drew_h, true_or, or_true, h04, z4, true_or, or_true, eq_self])) | (refine tail_fin ?_) | (refine sch_fin ?_)))
        have hx5 := Ext.alloc w4 (.cells (opN L i).row 127)
        have hz5 : (w4.alloc (.cells (opN L i).row 127)).heap[w4.heap.size]? = some (.cells (opN L i).row 127 (0, 0)) := by rw [heap_alloc_h, if_pos rfl]
        have hF5 := hF4.ext hx5
        have hA5 := hA4.pass hx5
        have h05 := hF5.head
        have hl0 := blk_lt h04
        have hl1 := blk_lt z4
        have hs5 : (w4.alloc (.cells (opN L i).row 127)).heap.size = w4.heap.size + 1 := size_alloc_h _ _
        generalize hw5 : w4.alloc (.cells (opN L i).row 127) = w5 at *
        have hne : bo ≠ some w4.heap.size := fun e => by
          have := hF4.sl; rw [e] at this; have := this.lt; omega
        obtain ⟨k, rfl⟩ : ∃ q : Nat, k = (q : Int) := ⟨k.toNat, by omega⟩
        refine (insert_o hF5.sl (by omega) hz5 hne k (by omega)).mono ?_
        rintro v w6 ⟨bo', g1, g2, g3⟩
        refine ⟨kept_upd g2 fun q hq => ⟨by rcases hq with hq | hq <;> omega, fun hb' => ?_⟩, ?_⟩
        · have := hb7 _ hb'
          rcases hq with rfl | rfl
          · exact hF.ne hb'
          · omega
        have hQl : ∀ b, Q b → b < w5.heap.size := fun b hb => hA5.low b (.inl hb)
        obtain ⟨k1, k2, k3⟩ := st_put hF5 hA5 hpl hbo hQ hQl g1 g2 g3
        have hx05 : Ext w w5 := hx4.trans hx5
        obtain ⟨va, vc, rfl, _⟩ := ops_len g1
        (repeat (first | ((first | refine pas_plain rfl ?_ | refine pas_g rfl rfl ?_ | refine act_plain rfl ?_ | refine act_g rfl rfl ?_ | refine last_plain rfl ?_ | refine tail_plain rfl ?_ | refine tail_g rfl rfl ?_); (repeat simp only [push_cast, seval, -Nat.reduceSubDiff, k1])) | (refine tail_fin ?_) | (refine sch_fin ?_)))
        (repeat first|(with_reducible first|(refine hK _ _ ?_;clear hK K)|refine ‹∀σ w,_→K σ w› _ _ ?_|(refine W_st ?_;constructor;try intro K hK))|((with_reducible first|refine hZ _ _ ?_|refine W_rg ?_|skip);repeat1' simp only[push_cast,seval,-Nat.reduceSubDiff,k1])|((repeat((fail_if_success with_reducible refine hK _ _ ?_);clear hK K));with_reducible refine hK _ _ ?_;clear hK K))
        rw [eI]
        exact ⟨rfl, k2, Upd.trans hx05.upd k3 fun _ _ h => h⟩
    · have eI : insS L s k i = (s, 2) := by unfold insS; rw [if_pos hk, if_neg hkk]
      by_cases hk0 : k < 0
      · (repeat first|(with_reducible first|(refine hK _ _ ?_;clear hK K)|refine ‹∀σ w,_→K σ w› _ _ ?_|(refine W_st ?_;constructor;try intro K hK))|((with_reducible first|refine hZ _ _ ?_|refine W_rg ?_|skip);repeat1' simp only[push_cast,seval,-Nat.reduceSubDiff,not_true_eq_false,not_false_eq_true,decide_true,decide_false,hk0])|((repeat((fail_if_success with_reducible refine hK _ _ ?_);clear hK K));with_reducible refine hK _ _ ?_;clear hK K))
        rw [eI]
        exact ⟨rfl, h3, hx13.upd⟩
      · obtain ⟨sv, bo, hF, _⟩ := id h3
        have h0 := hF.head
        obtain ⟨a, c, rfl, hc⟩ := ops_len hF.sl
        have b1 : (s.length : Int) < k := by omega
        (repeat first|(with_reducible first|(refine hK _ _ ?_;clear hK K)|refine ‹∀σ w,_→K σ w› _ _ ?_|(refine W_st ?_;constructor;try intro K hK))|((with_reducible first|refine hZ _ _ ?_|refine W_rg ?_|skip);repeat1' simp only[push_cast,seval,-Nat.reduceSubDiff,not_true_eq_false,not_false_eq_true,decide_true,decide_false,hk0,b1,cell_h,cellO_cells,h0])|((repeat((fail_if_success with_reducible refine hK _ _ ?_);clear hK K));with_reducible refine hK _ _ ?_;clear hK K))
        rw [eI]
        exact ⟨rfl, h3, hx13.upd⟩
  · have eI : insS L s k i = (s, 2) := by unfold insS; rw [if_neg hk]
    rw [if_neg hk] at he
    subst he
    (repeat first|(with_reducible first|(refine hK _ _ ?_;clear hK K)|refine ‹∀σ w,_→K σ w› _ _ ?_|(refine W_st ?_;constructor;try intro K hK))|((with_reducible first|refine hZ _ _ ?_|refine W_rg ?_|skip);repeat1' simp only[push_cast,seval,-Nat.reduceSubDiff,not_true_eq_false,not_false_eq_true,decide_true,decide_false])|((repeat((fail_if_success with_reducible refine hK _ _ ?_);clear hK K));with_reducible refine hK _ _ ?_;clear hK K))
    rw [eI]
    exact ⟨rfl, h3, hx13.upd⟩
theorem spush_c (h : StAt w0 w Q ps pa L s) (hb : L.length < 100000) (ha : ∀ n ∈ L, n.attrs.length < 1000000) (hs : s.length < 10000) (i : Int) : Gives Tryz.prog 101 #[.pointer (some ⟨ps, 0, none⟩), .int .i64 i] w fun v w' => v = .int .i64 (insS L s s.length i).2 ∧ StAt w0 w' Q ps pa L (insS L s s.length i).1 ∧ Upd (AF w0 Q) w w' := by
  obtain ⟨sv, bo, hF, _⟩ := id h
  refine Gives.of_W Tryz.call101 Tryz.func101 rfl Tryz.ntmps101 (by simp) ?_; intro Z hZ
  (repeat first|(with_reducible first|(refine hK _ _ ?_;clear hK K)|refine ‹∀σ w,_→K σ w› _ _ ?_|(refine W_st ?_;constructor;try intro K hK))|((with_reducible first|refine hZ _ _ ?_|refine W_rg ?_|skip);repeat1' simp only[push_cast,seval,-Nat.reduceSubDiff])|((repeat((fail_if_success with_reducible refine hK _ _ ?_);clear hK K));with_reducible refine hK _ _ ?_;clear hK K))
  refine (slen_c hF).mono ?_
  intro v w' ⟨hv, hw⟩
  subst hv; subst w'
  (repeat first|(with_reducible first|(refine hK _ _ ?_;clear hK K)|refine ‹∀σ w,_→K σ w› _ _ ?_|(refine W_st ?_;constructor;try intro K hK))|((with_reducible first|refine hZ _ _ ?_|refine W_rg ?_|skip);repeat1' simp only[push_cast,seval,-Nat.reduceSubDiff])|((repeat((fail_if_success with_reducible refine hK _ _ ?_);clear hK K));with_reducible refine hK _ _ ?_;clear hK K))
  refine (sins_c h hb ha hs s.length i).mono ?_
  rintro v w2 ⟨rfl, h2, hx⟩
  (repeat first|(with_reducible first|(refine hK _ _ ?_;clear hK K)|refine ‹∀σ w,_→K σ w› _ _ ?_|(refine W_st ?_;constructor;try intro K hK))|((with_reducible first|refine hZ _ _ ?_|refine W_rg ?_|skip);repeat1' simp only[push_cast,seval,-Nat.reduceSubDiff])|((repeat((fail_if_success with_reducible refine hK _ _ ?_);clear hK K));with_reducible refine hK _ _ ?_;clear hK K))
  exact ⟨h2, hx⟩
end
end Go.Proofs.YtgnnlaeikcnhcaaGreatDoor
end
section
set_option linter.unusedSimpArgs false
set_option linter.unusedVariables false
namespace Go.Vk
open Go
def replS (L : List Nd) (s : List OpS) (k i : Int) : List OpS × Int := if ((nd? L i).getD zN).kind = 3 then (if 0 ≤ k ∧ k < s.length then (s.set k.toNat (opN L i), 0) else (s, 2)) else (s, 2)
def remS (s : List OpS) (i : Int) : List OpS × Int := if indexS s i < 0 then (s, 4) else (s.eraseIdx (indexS s i).toNat, 0)
theorem opCells_set {s : List OpS} {k : Nat} (hk : k < s.length) (O : OpS) : (opCells s).take (k * 3) ++ O.cells ++ (opCells s).drop (k * 3 + O.cells.length) = opCells (s.set k O) := by
  have h3 : k * 3 + O.cells.length = (k + 1) * 3 := by rw [OpS.len3]; omega
  rw [h3, opCells_take, opCells_drop, List.set_eq_take_append_cons_drop, if_pos hk, opCells_append]
  simp [opCells]
end Go.Vk
namespace Go.Proofs.YtgnnlaeikcnhcaaGreatDoor
open Go Go.Vk
set_option maxHeartbeats 40000000
section
variable {w0 w : World} {Q : Nat → Prop} {ps pa : Nat} {L : List Nd} {s : List OpS}
theorem srep_c (h : StAt w0 w Q ps pa L s) (hb : L.length < 100000) (ha : ∀ n ∈ L, n.attrs.length < 1000000) (hs : s.length < 10000) (k i : Int) : Gives Tryz.prog 208 #[.pointer (some ⟨ps, 0, none⟩), .int .i64 k, .int .i64 i] w fun v w' => v = .int .i64 (replS L s k i).2 ∧ StAt w0 w' Q ps pa L (replS L s k i).1 ∧ Upd (AF w0 Q) w w' := by
  refine Gives.of_W Tryz.call208 Tryz.func208 rfl Tryz.ntmps208 (by simp) ?_; intro Z hZ
  (repeat first|(with_reducible first|(refine hK _ _ ?_;clear hK K)|refine ‹∀σ w,_→K σ w› _ _ ?_|(refine W_st ?_;constructor;try intro K hK))|((with_reducible first|refine hZ _ _ ?_|refine W_rg ?_|skip);repeat1' simp only[push_cast,seval,-Nat.reduceSubDiff])|((repeat((fail_if_success with_reducible refine hK _ _ ?_);clear hK K));with_reducible refine hK _ _ ?_;clear hK K))
  refine (sel_c h hb ha i).mono ?_
  rintro v w2 ⟨rfl, hx2⟩
  have h2 := h.pass hx2
  obtain ⟨O, hO⟩ : ∃ O : OpS, (if ((nd? L i).getD zN).kind = 3 then (opN L i).row else zS.row) = O.row ∧ (((nd? L i).getD zN).kind = 3 → O = opN L i) := by
    by_cases hk : ((nd? L i).getD zN).kind = 3
    · exact ⟨opN L i, if_pos hk, fun _ => rfl⟩
    · exact ⟨zS, if_neg hk, fun h => absurd h hk⟩
  rw [hO.1]
  have hO := hO.2
  generalize he : (if ((nd? L i).getD zN).kind = 3 then (0 : Int) else 2) = e
  unfold OpS.row
  (repeat first|(with_reducible first|(refine hK _ _ ?_;clear hK K)|refine ‹∀σ w,_→K σ w› _ _ ?_|(refine W_st ?_;constructor;try intro K hK))|((with_reducible first|refine hZ _ _ ?_|refine W_rg ?_|skip);repeat1' simp only[push_cast,seval,-Nat.reduceSubDiff,RunV_zero Tryz.zeroValue127,ext0,ext1,vcells_agg])|((repeat((fail_if_success with_reducible refine hK _ _ ?_);clear hK K));with_reducible refine hK _ _ ?_;clear hK K))
  obtain ⟨hx3, z3, hs3⟩ := new3 w2 (.int .i64 0) (.int .i64 0) (.string ⟨#[]⟩) (.int .i64 O.node) (.int .i64 O.space) (.string O.name) 127
  simp only [can_h, heap_alloc_h, if_true, canO_cells, List.size_toArray, List.length_cons, List.length_nil, Nat.zero_add, Nat.reduceAdd, Nat.reduceLT, true_and]
  generalize setCells (w2.alloc (.cells #[.int .i64 0, .int .i64 0, .string ⟨#[]⟩] 127)) ⟨w2.heap.size, 0, none⟩ [.int .i64 O.node, .int .i64 O.space, .string O.name] 0 = w3 at *
  have hx13 : Ext w w3 := hx2.trans hx3
  have h3 := h2.pass hx3
  obtain ⟨p7, hp7⟩ : ∃ p7, p7 = w2.heap.size := ⟨_, rfl⟩
  rw [← hp7] at z3 hs3 ⊢
  by_cases hk : ((nd? L i).getD zN).kind = 3
  · rw [if_pos hk] at he
    subst he
    rw [hO hk] at z3
    by_cases hkk : 0 ≤ k ∧ k < s.length
    · obtain ⟨k, rfl⟩ : ∃ q : Nat, k = (q : Int) := ⟨k.toNat, by omega⟩
      have b0 : ¬ (k : Int) < 0 := by omega
      have b1 : ¬ (s.length : Int) ≤ (k : Int) := by omega
      have b2 : (0 : Int) ≤ (k : Int) := by omega
      have b3 : (k : Int) < (s.length : Int) := by omega
      have hkl : k < s.length := by omega
      have eI : replS L s k i = (s.set k (opN L i), 0) := by unfold replS; rw [if_pos hk, if_pos hkk, Int.toNat_natCast]
      obtain ⟨sv, bo, hF, hA, hpl, hbo, hQ⟩ := id h3
      have h0 := hF.head
      obtain ⟨b, o, n, c, rfl, hbo1⟩ := hF.sl.some_of (ops_ne hkl)
      obtain ⟨_, _, e2, hc⟩ := ops_len hF.sl
      cases e2
      (repeat first|(with_reducible first|(refine hK _ _ ?_;clear hK K)|refine ‹∀σ w,_→K σ w› _ _ ?_|(refine W_st ?_;constructor;try intro K hK))|((with_reducible first|refine hZ _ _ ?_|refine W_rg ?_|skip);repeat1' simp only[push_cast,seval,-Nat.reduceSubDiff,not_true_eq_false,not_false_eq_true,decide_true,decide_false,b0,b1,b2,b3,cell_h,cellO_cells,h0])|((repeat((fail_if_success with_reducible refine hK _ _ ?_);clear hK K));with_reducible refine hK _ _ ?_;clear hK K))
      refine W_draw (.pas 0 (.pas 1 (.pas 2 (.pas 3 (.pas 4 (.pas 5 (.pas 6 (.last 7)))))))) (fun q => q = ps ∨ q = p7) (by decide) mixed (by kernel_rfl) ?_
      have hxd := Ext.drew w3
      have hF4 := hF.ext hxd
      have hA4 := hA.pass hxd
      have h04 := hF4.head
      have z4 := hxd.blk z3
      generalize w3.drew = w4 at *
      have hsl := hF4.sl
      have c0 : canStore w4 ⟨b, o + k * 3, none⟩ := hsl.canW (q := k * 3) (by omega)
      have c1 : canStore w4 ⟨b, o + k * 3 + 1, none⟩ := hsl.canW (q := k * 3 + 1) (by omega)
      have c2 : canStore w4 ⟨b, o + k * 3 + 2, none⟩ := hsl.canW (q := k * 3 + 2) (by omega)
      rw [can_h] at c0 c1 c2
      have g1 := hsl.writeW (q := k * 3) (opN L i).cells (by rw [OpS.len3]; omega)
      rw [opCells_set hkl] at g1
      have g2 : Upd (fun q => bo = some q) w4 (setCells w4 ⟨b, o + k * 3, none⟩ (opN L i).cells 0) := Upd.setCells (F := fun q => bo = some q) (a := ⟨b, o + k * 3, none⟩) w4 hbo1 (opN L i).cells 0
      obtain ⟨k1, k2⟩ := st_same (s' := s.set k (opN L i)) hF4 hA4 hpl hbo hQ g1 g2
      (repeat (first | ((first | refine pas_plain rfl ?_ | refine pas_g rfl rfl ?_ | refine act_plain rfl ?_ | refine act_g rfl rfl ?_ | refine last_plain rfl ?_ | refine tail_plain rfl ?_ | refine tail_g rfl rfl ?_); (repeat simp only [push_cast, seval, -Nat.reduceSubDiff, cell_h, can_h, cellO_cells, canO_cells, setO_cells, heap_set_h, heap_alloc_h, size_set_h, size_alloc_h, vcells_agg, succ_ne, ne_succ, List.setIfInBounds_toArray, List.set_cons_succ, List.set_cons_zero, setCells, drew_h, true_or, or_true, h04, z4, b0, b1, b2, b3, c0, c1, c2, true_or, or_true, eq_self])) | (refine tail_fin ?_) | (refine sch_fin ?_)))
      (repeat first|(with_reducible first|(refine hK _ _ ?_;clear hK K)|refine ‹∀σ w,_→K σ w› _ _ ?_|(refine W_st ?_;constructor;try intro K hK))|((with_reducible first|refine hZ _ _ ?_|refine W_rg ?_|skip);repeat1' simp only[push_cast,seval,-Nat.reduceSubDiff,c0,c1,c2])|((repeat((fail_if_success with_reducible refine hK _ _ ?_);clear hK K));with_reducible refine hK _ _ ?_;clear hK K))
      rw [eI]
      exact ⟨rfl, k1, Upd.trans (hx13.trans hxd).upd k2 fun _ _ h => h⟩
    · have eI : replS L s k i = (s, 2) := by unfold replS; rw [if_pos hk, if_neg hkk]
      by_cases hk0 : k < 0
      · (repeat first|(with_reducible first|(refine hK _ _ ?_;clear hK K)|refine ‹∀σ w,_→K σ w› _ _ ?_|(refine W_st ?_;constructor;try intro K hK))|((with_reducible first|refine hZ _ _ ?_|refine W_rg ?_|skip);repeat1' simp only[push_cast,seval,-Nat.reduceSubDiff,not_true_eq_false,not_false_eq_true,decide_true,decide_false,hk0])|((repeat((fail_if_success with_reducible refine hK _ _ ?_);clear hK K));with_reducible refine hK _ _ ?_;clear hK K))
        rw [eI]
        exact ⟨rfl, h3, hx13.upd⟩
      · obtain ⟨sv, bo, hF, _⟩ := id h3
        have h0 := hF.head
        obtain ⟨a, c, rfl, hc⟩ := ops_len hF.sl
        have b1 : (s.length : Int) ≤ k := by omega
        (repeat first|(with_reducible first|(refine hK _ _ ?_;clear hK K)|refine ‹∀σ w,_→K σ w› _ _ ?_|(refine W_st ?_;constructor;try intro K hK))|((with_reducible first|refine hZ _ _ ?_|refine W_rg ?_|skip);repeat1' simp only[push_cast,seval,-Nat.reduceSubDiff,not_true_eq_false,not_false_eq_true,decide_true,decide_false,hk0,b1,cell_h,cellO_cells,h0])|((repeat((fail_if_success with_reducible refine hK _ _ ?_);clear hK K));with_reducible refine hK _ _ ?_;clear hK K))
        rw [eI]
        exact ⟨rfl, h3, hx13.upd⟩
  · have eI : replS L s k i = (s, 2) := by unfold replS; rw [if_neg hk]
    rw [if_neg hk] at he
    subst he
    (repeat first|(with_reducible first|(refine hK _ _ ?_;clear hK K)|refine ‹∀σ w,_→K σ w› _ _ ?_|(refine W_st ?_;constructor;try intro K hK))|((with_reducible first|refine hZ _ _ ?_|refine W_rg ?_|skip);repeat1' simp only[push_cast,seval,-Nat.reduceSubDiff,not_true_eq_false,not_false_eq_true,decide_true,decide_false])|((repeat((fail_if_success with_reducible refine hK _ _ ?_);clear hK K));with_reducible refine hK _ _ ?_;clear hK K))
    rw [eI]
    exact ⟨rfl, h3, hx13.upd⟩
theorem spop_c (h : StAt w0 w Q ps pa L s) (hs : s.length < 10000) : Gives Tryz.prog 24 #[.pointer (some ⟨ps, 0, none⟩)] w fun v w' => v = .int .i64 (topS s) ∧ StAt w0 w' Q ps pa L s.dropLast ∧ Upd (AF w0 Q) w w' := by
  obtain ⟨sv, bo, hF, hA, hpl, hbo, hQ⟩ := id h
  have hQl : ∀ b, Q b → b < w.heap.size := fun b hb => hA.low b (.inl hb)
  have h0 := hF.head
  refine Gives.of_W Tryz.call24 Tryz.func24 rfl Tryz.ntmps24 (by simp) ?_; intro Z hZ
  (repeat first|(with_reducible first|(refine hK _ _ ?_;clear hK K)|refine ‹∀σ w,_→K σ w› _ _ ?_|(refine W_st ?_;constructor;try intro K hK))|((with_reducible first|refine hZ _ _ ?_|refine W_rg ?_|skip);repeat1' simp only[push_cast,seval,-Nat.reduceSubDiff])|((repeat((fail_if_success with_reducible refine hK _ _ ?_);clear hK K));with_reducible refine hK _ _ ?_;clear hK K))
  refine (stop_c hF (by omega)).mono ?_
  intro v w' ⟨hv, hw⟩
  subst hv; subst w'
  (repeat first|(with_reducible first|(refine hK _ _ ?_;clear hK K)|refine ‹∀σ w,_→K σ w› _ _ ?_|(refine W_st ?_;constructor;try intro K hK))|((with_reducible first|refine hZ _ _ ?_|refine W_rg ?_|skip);repeat1' simp only[push_cast,seval,-Nat.reduceSubDiff])|((repeat((fail_if_success with_reducible refine hK _ _ ?_);clear hK K));with_reducible refine hK _ _ ?_;clear hK K))
  refine (slen_c hF).mono ?_
  intro v w' ⟨hv, hw⟩
  subst hv; subst w'
  by_cases hn : 0 < s.length
  · have b0 : (0 : Int) < (s.length : Int) := by omega
    have s0 : inI64 ((s.length : Int) - 1) := by unfold inI64; omega
    obtain ⟨b, o, n, c, rfl, hbo1⟩ := hF.sl.some_of (ops_ne hn)
    obtain ⟨_, _, e2, hc⟩ := ops_len hF.sl
    cases e2
    obtain ⟨m, hm⟩ : ∃ m : Nat, (s.length : Int) - 1 = m := ⟨s.length - 1, by omega⟩
    rw [hm] at s0
    have b1 : (0 : Int) ≤ (m : Int) := by omega
    have b2 : (m : Int) ≤ (c : Int) := by omega
    have b3 : (0 : Int) ≤ (c : Int) := by omega
    have x1 := hF.sl.partW (l := 0) (k := m) (m := c) (by omega) (by omega) (by omega) (by omega)
    simp only [Nat.zero_mul, Nat.sub_zero, List.drop_zero, opCells_take] at x1
    obtain ⟨k1, k2, k3⟩ := st_put hF hA hpl hbo hQ hQl x1 (Upd.refl _ _) (fun b hb => .inl hb)
    have e : s.dropLast = s.take m := by rw [List.dropLast_eq_take]; congr 1; omega
    (repeat first|(with_reducible first|(refine hK _ _ ?_;clear hK K)|refine ‹∀σ w,_→K σ w› _ _ ?_|(refine W_st ?_;constructor;try intro K hK))|((with_reducible first|refine hZ _ _ ?_|refine W_rg ?_|skip);repeat1' simp only[push_cast,seval,-Nat.reduceSubDiff,b0,hm,s0,b1,b2,b3,cell_h,cellO_cells,h0,Nat.sub_zero,k1])|((repeat((fail_if_success with_reducible refine hK _ _ ?_);clear hK K));with_reducible refine hK _ _ ?_;clear hK K))
    rw [e]
    exact ⟨k2, k3⟩
  · have b0 : ¬ (0 : Int) < (s.length : Int) := by omega
    have e : s.dropLast = s := by rw [List.eq_nil_of_length_eq_zero (by omega : s.length = 0)]; rfl
    (repeat first|(with_reducible first|(refine hK _ _ ?_;clear hK K)|refine ‹∀σ w,_→K σ w› _ _ ?_|(refine W_st ?_;constructor;try intro K hK))|((with_reducible first|refine hZ _ _ ?_|refine W_rg ?_|skip);repeat1' simp only[push_cast,seval,-Nat.reduceSubDiff,b0])|((repeat((fail_if_success with_reducible refine hK _ _ ?_);clear hK K));with_reducible refine hK _ _ ?_;clear hK K))
    rw [e]
    exact ⟨h, Upd.refl _ _⟩
theorem srem_c (h : StAt w0 w Q ps pa L s) (hs : s.length < 10000) (i : Int) : Gives Tryz.prog 206 #[.pointer (some ⟨ps, 0, none⟩), .int .i64 i] w fun v w' => v = .int .i64 (remS s i).2 ∧ StAt w0 w' Q ps pa L (remS s i).1 ∧ Upd (AF w0 Q) w w' := by
  obtain ⟨sv, bo, hF, hA, hpl, hbo, hQ⟩ := id h
  have hQl : ∀ b, Q b → b < w.heap.size := fun b hb => hA.low b (.inl hb)
  have h0 := hF.head
  have hir := lastB_rng (fun k => decide ((s.getD k zS).node = i)) s.length
  have hidx := sindex_c hF (by omega : s.length < 100000) i
  unfold remS
  unfold indexS at *
  generalize lastB (fun k => decide ((s.getD k zS).node = i)) s.length = q at *
  refine Gives.of_W Tryz.call206 Tryz.func206 rfl Tryz.ntmps206 (by simp) ?_; intro Z hZ
  (repeat first|(with_reducible first|(refine hK _ _ ?_;clear hK K)|refine ‹∀σ w,_→K σ w› _ _ ?_|(refine W_st ?_;constructor;try intro K hK))|((with_reducible first|refine hZ _ _ ?_|refine W_rg ?_|skip);repeat1' simp only[push_cast,seval,-Nat.reduceSubDiff])|((repeat((fail_if_success with_reducible refine hK _ _ ?_);clear hK K));with_reducible refine hK _ _ ?_;clear hK K))
  refine (snone_c hF).mono ?_
  intro v w' ⟨hv, hw⟩
  subst hv; subst w'
  (repeat first|(with_reducible first|(refine hK _ _ ?_;clear hK K)|refine ‹∀σ w,_→K σ w› _ _ ?_|(refine W_st ?_;constructor;try intro K hK))|((with_reducible first|refine hZ _ _ ?_|refine W_rg ?_|skip);repeat1' simp only[push_cast,seval,-Nat.reduceSubDiff])|((repeat((fail_if_success with_reducible refine hK _ _ ?_);clear hK K));with_reducible refine hK _ _ ?_;clear hK K))
  refine hidx.mono ?_
  intro v w' ⟨hv, hw⟩
  subst hv; subst w'
  by_cases hq : q < 0
  · (repeat first|(with_reducible first|(refine hK _ _ ?_;clear hK K)|refine ‹∀σ w,_→K σ w› _ _ ?_|(refine W_st ?_;constructor;try intro K hK))|((with_reducible first|refine hZ _ _ ?_|refine W_rg ?_|skip);repeat1' simp only[push_cast,seval,-Nat.reduceSubDiff,hq])|((repeat((fail_if_success with_reducible refine hK _ _ ?_);clear hK K));with_reducible refine hK _ _ ?_;clear hK K))
    exact ⟨h, Upd.refl _ _⟩
  · obtain ⟨k, rfl⟩ : ∃ k : Nat, q = (k : Int) := ⟨q.toNat, by omega⟩
    have b1 : inI64 ((k : Int) + 1) := by unfold inI64; omega
    (repeat first|(with_reducible first|(refine hK _ _ ?_;clear hK K)|refine ‹∀σ w,_→K σ w› _ _ ?_|(refine W_st ?_;constructor;try intro K hK))|((with_reducible first|refine hZ _ _ ?_|refine W_rg ?_|skip);repeat1' simp only[push_cast,seval,-Nat.reduceSubDiff,hq,b1,cell_h,cellO_cells,h0])|((repeat((fail_if_success with_reducible refine hK _ _ ?_);clear hK K));with_reducible refine hK _ _ ?_;clear hK K))
    refine (delete_o hF.sl (by omega) k (by omega)).mono ?_
    rintro v w2 ⟨g1, g2⟩
    obtain ⟨k1, k2, k3⟩ := st_put hF hA hpl hbo hQ hQl g1 g2 fun b hb => .inl hb
    obtain ⟨va, vc, rfl, _⟩ := ops_len g1
    (repeat first|(with_reducible first|(refine hK _ _ ?_;clear hK K)|refine ‹∀σ w,_→K σ w› _ _ ?_|(refine W_st ?_;constructor;try intro K hK))|((with_reducible first|refine hZ _ _ ?_|refine W_rg ?_|skip);repeat1' simp only[push_cast,seval,-Nat.reduceSubDiff,k1])|((repeat((fail_if_success with_reducible refine hK _ _ ?_);clear hK K));with_reducible refine hK _ _ ?_;clear hK K))
    rw [if_neg hq]
    exact ⟨rfl, k2, k3⟩
end
end Go.Proofs.YtgnnlaeikcnhcaaGreatDoor
end
section
set_option linter.unusedSimpArgs false
set_option linter.unusedVariables false
namespace Go.Vk
open Go
theorem vc_str (s : ByteArray) : (Value.string s).cells = #[.string s] := rfl
theorem vc_int (k : IntKind) (n : Int) : (Value.int k n).cells = #[.int k n] := rfl
theorem vc_ptr (a : Option Addr) : (Value.pointer a).cells = #[.pointer a] := rfl
theorem StAt.less {w0 w : World} {Q Q' : Nat → Prop} {ps pa : Nat} {L : List Nd} {s : List OpS} (h : StAt w0 w Q ps pa L s) (hq : ∀ b, Q' b → Q b) : StAt w0 w Q' ps pa L s := h.app (Ext.refl w) (fun _ _ h => h.elim) fun b hb => .inl (hq b hb)
end Go.Vk
end
section
set_option linter.unusedSimpArgs false
set_option linter.unusedVariables false
namespace Go.Vk
open Go
/-- a stack and a formatting list over one arena, off the blocks of X -/
def TwX (X : Nat → Prop) (ps pl : Nat) (bo bl : Option Nat) (q : Nat) : Prop := X q ∨ q = ps ∨ bo = some q ∨ q = pl ∨ bl = some q
def Two (w0 w : World) (X : Nat → Prop) (ps pl pa : Nat) (L : List Nd) (s : List OpS) (l : List Int) : Prop :=
  ∃ sv bo lv bl, SK w ps (.pointer (some ⟨pa, 0, none⟩)) sv s bo ∧ FL w pl (.pointer (some ⟨pa, 0, none⟩)) lv l bl ∧ At w0 w (TwX X ps pl bo bl) pa L ∧ w0.heap.size ≤ ps ∧ w0.heap.size ≤ pl ∧
    (∀ b, bo = some b → w0.heap.size ≤ b ∧ ¬ X b ∧ b ≠ pl ∧ bl ≠ some b) ∧ (∀ b, bl = some b → w0.heap.size ≤ b ∧ ¬ X b ∧ b ≠ ps) ∧ ¬ X ps ∧ ¬ X pl ∧ ps ≠ pl
section
variable {w0 w w' : World} {X : Nat → Prop} {ps pl pa : Nat} {L : List Nd} {s : List OpS} {l : List Int}
theorem Two.out (h : Two w0 w X ps pl pa L s l) : Ext w0 w := let ⟨_, _, _, _, _, _, h, _⟩ := h; h.ext
theorem Two.app {G X' : Nat → Prop} (h : Two w0 w X ps pl pa L s l) (hu : Upd G w w') (hG : ∀ b, b < w.heap.size → G b → X b ∧ w0.heap.size ≤ b) (hX : ∀ b, X' b → X b ∨ (w.heap.size ≤ b ∧ b < w'.heap.size)) : Two w0 w' X' ps pl pa L s l := by
  obtain ⟨sv, bo, lv, bl, h1, h2, h3, h4, h5, h6, h7, h8, h9, h10⟩ := h
  have hps := blk_lt h1.head
  have hpl := blk_lt h2.head
  have nX : ∀ b, b < w.heap.size → ¬ X b → ¬ X' b := fun b hb hn hx => by
    rcases hX b hx with h | h
    · exact hn h
    · omega
  have lbo : ∀ b, bo = some b → b < w.heap.size := fun b hb => by subst hb; exact h1.sl.lt
  have lbl : ∀ b, bl = some b → b < w.heap.size := fun b hb => by subst hb; exact h2.sl.lt
  refine ⟨sv, bo, lv, bl, h1.upd hu (fun hg => h8 (hG _ hps hg).1) fun b hb hg => (h6 b hb).2.1 (hG b (lbo b hb) hg).1, h2.upd hu (fun hg => h9 (hG _ hpl hg).1) fun b hb hg => (h7 b hb).2.1 (hG b (lbl b hb) hg).1,
    h3.app hu (fun b hb hg => ⟨.inl (hG b hb hg).1, (hG b hb hg).2⟩) fun b hb => ?_, h4, h5, fun b hb => ⟨(h6 b hb).1, nX b (lbo b hb) (h6 b hb).2.1, (h6 b hb).2.2⟩, fun b hb => ⟨(h7 b hb).1, nX b (lbl b hb) (h7 b hb).2.1, (h7 b hb).2.2⟩, nX _ hps h8, nX _ hpl h9, h10⟩
  rcases hb with hb | hb
  · rcases hX b hb with h | h
    · exact .inl (.inl h)
    · exact .inr h
  · exact .inl (.inr hb)
theorem Two.stk (h : Two w0 w X ps pl pa L s l) : ∃ Q', StAt w0 w Q' ps pa L s ∧ ∀ w' L' s', StAt w0 w' Q' ps pa L' s' → Upd (AF w0 Q') w w' → Two w0 w' X ps pl pa L' s' l ∧ Upd (AF w0 X) w w' := by
  obtain ⟨sv, bo, lv, bl, h1, h2, h3, h4, h5, h6, h7, h8, h9, h10⟩ := h
  refine ⟨fun q => X q ∨ q = pl ∨ bl = some q, ⟨sv, bo, h1, h3.guard (Ext.refl _) fun b hb => .inl ?_, h4, fun b hb => ⟨(h6 b hb).1, fun hq => ?_⟩, fun hq => ?_⟩, fun w' L' s' ⟨sv', bo', g1, g2, g3, g4, g5⟩ hu => ?_⟩
  · rcases hb with (hb | hb | hb) | hb | hb
    · exact .inl hb
    · exact .inr (.inr (.inr (.inl hb)))
    · exact .inr (.inr (.inr (.inr hb)))
    · exact .inr (.inl hb)
    · exact .inr (.inr (.inl hb))
  · rcases hq with hq | hq | hq
    · exact (h6 b hb).2.1 hq
    · exact (h6 b hb).2.2.1 hq
    · exact (h6 b hb).2.2.2 hq
  · rcases hq with hq | hq | hq
    · exact h8 hq
    · exact h10 hq
    · exact (h7 ps hq).2.2 rfl
  · refine ⟨⟨sv', bo', lv, bl, g1, h2.upd hu (fun hg => hg.2 (.inr (.inl rfl))) fun b hb hg => hg.2 (.inr (.inr hb)), g2.guard (Ext.refl _) fun b hb => .inl ?_, g3, h5, fun b hb => ⟨(g4 b hb).1, fun hx => (g4 b hb).2 (.inl hx), fun hx => (g4 b hb).2 (.inr (.inl hx)), fun hx => (g4 b hb).2 (.inr (.inr hx))⟩, h7, h8, h9, h10⟩, hu.mono fun b _ hf => ⟨hf.1, fun hx => hf.2 (.inl hx)⟩⟩
    rcases hb with hb | hb | hb | hb | hb
    · exact .inl (.inl hb)
    · exact .inr (.inl hb)
    · exact .inr (.inr hb)
    · exact .inl (.inr (.inl hb))
    · exact .inl (.inr (.inr hb))
theorem Two.fmt (h : Two w0 w X ps pl pa L s l) : ∃ Q', LsAt w0 w Q' pl pa L l ∧ ∀ w' L' l', LsAt w0 w' Q' pl pa L' l' → Upd (AF w0 Q') w w' → Two w0 w' X ps pl pa L' s l' ∧ Upd (AF w0 X) w w' := by
  obtain ⟨sv, bo, lv, bl, h1, h2, h3, h4, h5, h6, h7, h8, h9, h10⟩ := h
  refine ⟨fun q => X q ∨ q = ps ∨ bo = some q, ⟨lv, bl, h2, h3.guard (Ext.refl _) fun b hb => .inl ?_, h5, fun b hb => ⟨(h7 b hb).1, fun hq => ?_⟩, fun hq => ?_⟩, fun w' L' l' ⟨lv', bl', g1, g2, g3, g4, g5⟩ hu => ?_⟩
  · rcases hb with (hb | hb | hb) | hb | hb
    · exact .inl hb
    · exact .inr (.inl hb)
    · exact .inr (.inr (.inl hb))
    · exact .inr (.inr (.inr (.inl hb)))
    · exact .inr (.inr (.inr (.inr hb)))
  · rcases hq with hq | hq | hq
    · exact (h7 b hb).2.1 hq
    · exact (h7 b hb).2.2 hq
    · exact (h6 b hq).2.2.2 hb
  · rcases hq with hq | hq | hq
    · exact h9 hq
    · exact h10 hq.symm
    · exact (h6 pl hq).2.2.1 rfl
  · refine ⟨⟨sv, bo, lv', bl', h1.upd hu (fun hg => hg.2 (.inr (.inl rfl))) fun b hb hg => hg.2 (.inr (.inr hb)), g1, g2.guard (Ext.refl _) fun b hb => .inl ?_, h4, g3, fun b hb => ⟨(h6 b hb).1, (h6 b hb).2.1, (h6 b hb).2.2.1, fun hx => (g4 b hx).2 (.inr (.inr hb))⟩, fun b hb => ⟨(g4 b hb).1, fun hx => (g4 b hb).2 (.inl hx), fun hx => (g4 b hb).2 (.inr (.inl hx))⟩, h8, h9, h10⟩, hu.mono fun b _ hf => ⟨hf.1, fun hx => hf.2 (.inl hx)⟩⟩
    rcases hb with hb | hb | hb | hb | hb
    · exact .inl (.inl hb)
    · exact .inl (.inr (.inl hb))
    · exact .inl (.inr (.inr hb))
    · exact .inr (.inl hb)
    · exact .inr (.inr hb)
theorem Two.arK (h : Two w0 w X ps pl pa L s l) : ∃ P, (∀ q, X q → P q) ∧ At w0 w P pa L ∧ ∀ w' L', At w0 w' P pa L' → Upd (AF w0 P) w w' → Two w0 w' X ps pl pa L' s l ∧ Upd (AF w0 X) w w' := by
  obtain ⟨sv, bo, lv, bl, h1, h2, h3, h4, h5, h6, h7, h8, h9, h10⟩ := h
  refine ⟨_, fun q hq => .inl hq, h3, fun w' L' g hu => ⟨⟨sv, bo, lv, bl, h1.upd hu (fun hg => hg.2 (.inr (.inl rfl))) fun b hb hg => hg.2 (.inr (.inr (.inl hb))), h2.upd hu (fun hg => hg.2 (.inr (.inr (.inr (.inl rfl))))) fun b hb hg => hg.2 (.inr (.inr (.inr (.inr hb)))), g, h4, h5, h6, h7, h8, h9, h10⟩, hu.mono fun b _ hf => ⟨hf.1, fun hx => hf.2 (.inl hx)⟩⟩⟩
theorem Two.ar (h : Two w0 w X ps pl pa L s l) : ∃ P, At w0 w P pa L ∧ ∀ w' L', At w0 w' P pa L' → Upd (AF w0 P) w w' → Two w0 w' X ps pl pa L' s l ∧ Upd (AF w0 X) w w' := let ⟨P, _, h⟩ := h.arK; ⟨P, h⟩
end
/-- a builder -/
structure BSt where
  L : List Nd
  s : List OpS
  l : List Int
  mode : Int
  back : Int
  modes : List Int
  head : Int
  form : Int
  quirks : Bool
  foster : Bool
  skip : Bool
  pending : ByteArray
  ask : Option (Int × ByteArray)
  err : Option Int
def errV : Option Int → Value
  | none => .nilIface
  | some e => .iface 28 (.int .i64 e)
def BSt.row (b : BSt) (pa ps pl : Nat) (mv av : Value) : Array Value := #[.pointer (some ⟨pa, 0, none⟩), .pointer (some ⟨ps, 0, none⟩), .pointer (some ⟨pl, 0, none⟩), .int .i64 b.mode, .int .i64 b.back, mv, .int .i64 b.head, .int .i64 b.form, .bool b.quirks, .bool b.foster, .bool b.skip, .string b.pending, av, errV b.err]
def AskAt (w : World) (a : Option (Int × ByteArray)) (v : Value) (ba : Option Nat) : Prop := match a with
  | none => v = .pointer none ∧ ba = none
  | some (st, nm) => ∃ p, v = .pointer (some ⟨p, 0, none⟩) ∧ ba = some p ∧ w.heap[p]? = some (.cells #[.int .i64 st, .string nm] 145 (0, 0))
theorem AskAt.upd {G : Nat → Prop} {w w' : World} {a : Option (Int × ByteArray)} {v : Value} {ba : Option Nat} (h : AskAt w a v ba) (hu : Upd G w w') (hG : ∀ b, ba = some b → ¬ G b) : AskAt w' a v ba := by
  cases a with
  | none => exact h
  | some x =>
    obtain ⟨p, h1, h2, h3⟩ := h
    exact ⟨p, h1, h2, (hu.same p (blk_lt h3) (hG p h2)).trans h3⟩
theorem AskAt.lt {w : World} {a : Option (Int × ByteArray)} {v : Value} {p : Nat} (h : AskAt w a v (some p)) : p < w.heap.size := by
  cases a with
  | none => cases h.2
  | some x =>
    obtain ⟨q, h1, h2, h3⟩ := h
    cases h2; exact blk_lt h3
def BuX (Q : Nat → Prop) (pb : Nat) (bm ba : Option Nat) (q : Nat) : Prop := Q q ∨ q = pb ∨ bm = some q ∨ ba = some q
def BuAt (w0 w : World) (Q : Nat → Prop) (pb ps pl pa : Nat) (b : BSt) : Prop := ∃ mv bm av ba, w.heap[pb]? = some (.cells (b.row pa ps pl mv av) 67 (0, 0)) ∧ SlAt w 1 mv (intCells b.modes) bm ∧ AskAt w b.ask av ba ∧
  Two w0 w (BuX Q pb bm ba) ps pl pa b.L b.s b.l ∧ w0.heap.size ≤ pb ∧ ¬ Q pb ∧ (∀ q, bm = some q → w0.heap.size ≤ q ∧ ¬ Q q ∧ q ≠ pb ∧ ba ≠ some q) ∧ ∀ q, ba = some q → w0.heap.size ≤ q ∧ ¬ Q q ∧ q ≠ pb
section
variable {w0 w w' : World} {Q : Nat → Prop} {pb ps pl pa : Nat} {b : BSt}
theorem BuAt.out (h : BuAt w0 w Q pb ps pl pa b) : Ext w0 w := let ⟨_, _, _, _, _, _, _, h, _⟩ := h; h.out
theorem BuAt.app {G Q' : Nat → Prop} (h : BuAt w0 w Q pb ps pl pa b) (hu : Upd G w w') (hG : ∀ q, q < w.heap.size → G q → Q q ∧ w0.heap.size ≤ q) (hQ : ∀ q, Q' q → Q q ∨ (w.heap.size ≤ q ∧ q < w'.heap.size)) : BuAt w0 w' Q' pb ps pl pa b := by
  obtain ⟨mv, bm, av, ba, h1, h2, h3, h4, h5, h6, h7, h8⟩ := h
  have hpb := blk_lt h1
  have nQ : ∀ q, q < w.heap.size → ¬ Q q → ¬ Q' q := fun q hb hn hx => by
    rcases hQ q hx with h | h
    · exact hn h
    · omega
  have lm : ∀ q, bm = some q → q < w.heap.size := fun q hq => by subst hq; exact h2.lt
  have la : ∀ q, ba = some q → q < w.heap.size := fun q hq => by subst hq; exact h3.lt
  refine ⟨mv, bm, av, ba, (hu.same pb hpb fun hg => h6 (hG _ hpb hg).1).trans h1, h2.upd hu fun q hq hg => (h7 q hq).2.1 (hG q (lm q hq) hg).1, h3.upd hu fun q hq hg => (h8 q hq).2.1 (hG q (la q hq) hg).1,
    h4.app hu (fun q hq hg => ⟨.inl (hG q hq hg).1, (hG q hq hg).2⟩) fun q hq => ?_, h5, nQ _ hpb h6, fun q hq => ⟨(h7 q hq).1, nQ q (lm q hq) (h7 q hq).2.1, (h7 q hq).2.2⟩, fun q hq => ⟨(h8 q hq).1, nQ q (la q hq) (h8 q hq).2.1, (h8 q hq).2.2⟩⟩
  rcases hq with hq | hq
  · rcases hQ q hq with h | h
    · exact .inl (.inl h)
    · exact .inr h
  · exact .inl (.inr hq)
theorem BuAt.pass (h : BuAt w0 w Q pb ps pl pa b) (hx : Ext w w') : BuAt w0 w' Q pb ps pl pa b := h.app hx (fun _ _ h => h.elim) fun _ h => .inl h
theorem BuAt.twoK (h : BuAt w0 w Q pb ps pl pa b) : ∃ X, (X pb ∧ ∀ q, Q q → X q) ∧ Two w0 w X ps pl pa b.L b.s b.l ∧ ∀ w' L' s' l', Two w0 w' X ps pl pa L' s' l' → Upd (AF w0 X) w w' → BuAt w0 w' Q pb ps pl pa { b with L := L', s := s', l := l' } ∧ Upd (AF w0 Q) w w' := by
  obtain ⟨mv, bm, av, ba, h1, h2, h3, h4, h5, h6, h7, h8⟩ := h
  refine ⟨_, ⟨.inr (.inl rfl), fun q hq => .inl hq⟩, h4, fun w' L' s' l' g hu => ⟨⟨mv, bm, av, ba, (hu.same pb (blk_lt h1) fun hg => hg.2 (.inr (.inl rfl))).trans h1, h2.upd hu fun q hq hg => hg.2 (.inr (.inr (.inl hq))), h3.upd hu fun q hq hg => hg.2 (.inr (.inr (.inr hq))), g, h5, h6, h7, h8⟩, hu.mono fun q _ hf => ⟨hf.1, fun hx => hf.2 (.inl hx)⟩⟩⟩
theorem BuAt.two (h : BuAt w0 w Q pb ps pl pa b) : ∃ X, Two w0 w X ps pl pa b.L b.s b.l ∧ ∀ w' L' s' l', Two w0 w' X ps pl pa L' s' l' → Upd (AF w0 X) w w' → BuAt w0 w' Q pb ps pl pa { b with L := L', s := s', l := l' } ∧ Upd (AF w0 Q) w w' := let ⟨X, _, h⟩ := h.twoK; ⟨X, h⟩
theorem BuAt.arK (h : BuAt w0 w Q pb ps pl pa b) : ∃ P, (P pb ∧ ∀ q, Q q → P q) ∧ At w0 w P pa b.L ∧ ∀ w' L', At w0 w' P pa L' → Upd (AF w0 P) w w' → BuAt w0 w' Q pb ps pl pa { b with L := L' } ∧ Upd (AF w0 Q) w w' := by
  obtain ⟨X, ⟨k1, k2⟩, h1, h2⟩ := h.twoK
  obtain ⟨P, k3, h3, h4⟩ := h1.arK
  refine ⟨P, ⟨k3 _ k1, fun q hq => k3 _ (k2 q hq)⟩, h3, fun w' L' g hu => ?_⟩
  obtain ⟨g1, g2⟩ := h4 w' L' g hu
  exact h2 w' L' b.s b.l g1 g2
theorem BuAt.less {Q' : Nat → Prop} (h : BuAt w0 w Q pb ps pl pa b) (hQ : ∀ q, Q' q → Q q) : BuAt w0 w Q' pb ps pl pa b := h.app (Ext.refl w) (fun _ _ h => h.elim) fun q hq => .inl (hQ q hq)
theorem BuAt.more {Q' : Nat → Prop} (h : BuAt w0 w Q pb ps pl pa b) (hx : Ext w w') (hQ : ∀ q, Q' q → Q q ∨ (w.heap.size ≤ q ∧ q < w'.heap.size)) : BuAt w0 w' Q' pb ps pl pa b := h.app hx (fun _ _ h => h.elim) hQ
theorem BuAt.stk (h : BuAt w0 w Q pb ps pl pa b) : ∃ Q', StAt w0 w Q' ps pa b.L b.s ∧ ∀ w' L' s', StAt w0 w' Q' ps pa L' s' → Upd (AF w0 Q') w w' → BuAt w0 w' Q pb ps pl pa { b with L := L', s := s' } ∧ Upd (AF w0 Q) w w' := by
  obtain ⟨X, h1, h2⟩ := h.two
  obtain ⟨Q', h3, h4⟩ := h1.stk
  refine ⟨Q', h3, fun w' L' s' g hu => ?_⟩
  obtain ⟨g1, g2⟩ := h4 w' L' s' g hu
  exact h2 w' L' s' b.l g1 g2
theorem BuAt.fmt (h : BuAt w0 w Q pb ps pl pa b) : ∃ Q', LsAt w0 w Q' pl pa b.L b.l ∧ ∀ w' L' l', LsAt w0 w' Q' pl pa L' l' → Upd (AF w0 Q') w w' → BuAt w0 w' Q pb ps pl pa { b with L := L', l := l' } ∧ Upd (AF w0 Q) w w' := by
  obtain ⟨X, h1, h2⟩ := h.two
  obtain ⟨Q', h3, h4⟩ := h1.fmt
  refine ⟨Q', h3, fun w' L' l' g hu => ?_⟩
  obtain ⟨g1, g2⟩ := h4 w' L' l' g hu
  exact h2 w' L' b.s l' g1 g2
theorem BuAt.ar (h : BuAt w0 w Q pb ps pl pa b) : ∃ P, At w0 w P pa b.L ∧ ∀ w' L', At w0 w' P pa L' → Upd (AF w0 P) w w' → BuAt w0 w' Q pb ps pl pa { b with L := L' } ∧ Upd (AF w0 Q) w w' := by
  obtain ⟨X, h1, h2⟩ := h.two
  obtain ⟨P, h3, h4⟩ := h1.ar
  refine ⟨P, h3, fun w' L' g hu => ?_⟩
  obtain ⟨g1, g2⟩ := h4 w' L' g hu
  exact h2 w' L' b.s b.l g1 g2
theorem BuAt.hd (h : BuAt w0 w Q pb ps pl pa b) : ∃ ma mn mc av, mn = b.modes.length ∧ mn ≤ mc ∧ w.heap[pb]? = some (.cells #[.pointer (some ⟨pa, 0, none⟩), .pointer (some ⟨ps, 0, none⟩), .pointer (some ⟨pl, 0, none⟩), .int .i64 b.mode, .int .i64 b.back, .slice ma mn mc, .int .i64 b.head, .int .i64 b.form, .bool b.quirks, .bool b.foster, .bool b.skip, .string b.pending, .pointer av, errV b.err] 67 (0, 0)) := by
  obtain ⟨mv, bm, av, ba, h1, h2, h3, _⟩ := h
  obtain ⟨ma, mc, rfl, hmc⟩ := h2.ints_len
  have : ∃ p, av = .pointer p := by
    cases hb : b.ask with
    | none => rw [hb] at h3; exact ⟨_, h3.1⟩
    | some x => rw [hb] at h3; obtain ⟨p, h, _⟩ := h3; exact ⟨_, h⟩
  obtain ⟨p, rfl⟩ := this
  exact ⟨ma, _, mc, p, rfl, hmc, h1⟩
/-- a field that is a number, a bool or a text -/
theorem BuAt.put (h : BuAt w0 w Q pb ps pl pa b) (b' : BSt) (k : Nat) (v : Value) (hr : ∀ mv av, (b.row pa ps pl mv av).setIfInBounds k v = b'.row pa ps pl mv av) (hk : k < 14) (he : b'.L = b.L ∧ b'.s = b.s ∧ b'.l = b.l ∧ b'.modes = b.modes ∧ b'.ask = b.ask) :
    canStore w ⟨pb, k, none⟩ ∧ BuAt w0 (w.setCell ⟨pb, k, none⟩ v) Q pb ps pl pa b' ∧ Upd (AF w0 Q) w (w.setCell ⟨pb, k, none⟩ v) := by
  obtain ⟨mv, bm, av, ba, h1, h2, h3, h4, h5, h6, h7, h8⟩ := h
  obtain ⟨e1, e2, e3, e4, e5⟩ := he
  have up : Upd (fun q => q = pb) w (w.setCell ⟨pb, k, none⟩ v) := Upd.setCell (F := fun q => q = pb) (a := ⟨pb, k, none⟩) w rfl v
  refine ⟨by rw [can_h, h1, canO_cells]; exact hk, ⟨mv, bm, av, ba, ?_, by rw [e4]; exact h2.upd up fun q hq e => (h7 q hq).2.2.1 e, by rw [e5]; exact h3.upd up fun q hq e => (h8 q hq).2.2 e, ?_, h5, h6, h7, h8⟩, up.mono fun q _ e => ⟨e ▸ h5, e ▸ h6⟩⟩
  · rw [heap_set_h, if_pos rfl, h1, setO_cells, hr]
  · rw [e1, e2, e3]
    exact h4.app up (fun q _ e => ⟨.inr (.inl e), e ▸ h5⟩) fun q hq => .inl hq
end
end Go.Vk
end
section
set_option linter.unusedSimpArgs false
set_option linter.unusedVariables false
namespace Go.Vk
open Go
theorem Does.wide {P : Program} {a : Act} {o : Oper} {w : World} {K : Value → World → Prop} {N : Act → World → Prop} {Q : Exit → Act → World → Prop} {m : Nat}
    (h : Does P a.eval o w K) (hn : ∀ v w', K v w' → N (a.put o.dst v) w') : o.wpIn Fence.wide m P a w N Q := by
  refine ⟨fun _ _ => trivial, ?_⟩
  rw [show Fence.wide.round = none from rfl, Oper.semAt_none]
  unfold Does at h
  generalize (execOp a.eval o).run P w = r at h
  cases r with
  | halt x w' => exact h.elim
  | ok n w' =>
    cases n <;> simp only [Oper.uponIn] at h ⊢
    case value v => exact hn _ _ h
    case skip => exact hn _ _ h
    case enter f args =>
      refine ⟨fun hd => (by cases hd), callsIn_wide.2 (h.mono ?_)⟩
      intro e w'' he
      obtain ⟨v, he, hk⟩ := he
      subst he
      exact hn _ _ hk
theorem step_wide {P : Program} {n : Nat} (hn : n ≤ 1000000) {ops : Array Oper} {o : Oper} {σ : Regs} {w : World} {a : Act} (hk : Known n σ a) {N : Act → World → Prop} {Q : Exit → Act → World → Prop} {m : Nat}
    {F : Value → World → Prop}
    (h : match (conv ops o).grd with
      | none => vcOp P o.op o.type σ w F
      | some (g, want) => on (find σ g) fun gv => ∃ b, gdv gv b want ∧ (b = want → vcOp P o.op o.type σ w F) ∧ (b ≠ want → F undef w))
    (hF : ∀ v w', F v w' → N (a.put o.dst v) w') :
    (if Region.wanted o (yielded ops a.tmps) then o.wpIn Fence.wide m P a w N Q else (∀ f, o.about P w a.eval = some f → Fence.wide.fn f) ∧ N (a.put o.dst undef) w) := by
  cases hg : (conv ops o).grd with
  | none =>
    rw [hg] at h
    rw [if_pos (wanted_none (conv_none hg))]
    exact (vcOp_spec hk h).wide hF
  | some gw =>
    obtain ⟨g, want⟩ := gw
    rw [hg] at h
    obtain ⟨gv, hgv, b, hgb, h1, h0⟩ := on_spec h
    have ht := hk.reg g _ hgv
    have hlt : g < n := by
      have := (Array.getElem?_eq_some_iff.1 ht).1
      rw [hk.size] at this; exact this
    obtain ⟨j, hj, hjd⟩ := conv_guard hg (by omega)
    rcases hgb with rfl | ⟨rfl, rfl⟩
    case inr =>
      rw [wanted_undef hj hjd ht]
      rw [if_neg (by simp)]
      exact ⟨fun _ _ => trivial, hF _ _ (h0 (by cases want <;> simp))⟩
    rw [wanted_some hj hjd ht]
    by_cases e : b = want
    · rw [if_pos (by simpa using e)]
      exact (vcOp_spec hk (h1 e)).wide hF
    · rw [if_neg (by simpa using e)]
      exact ⟨fun _ _ => trivial, hF _ _ (h0 e)⟩
theorem Wk_wide {P : Program} {n : Nat} (hn : n ≤ 1000000) {ops : Array Oper} {K : Regs → World → Prop} {Q : Exit → Act → World → Prop} {m : Nat} {rest : List Oper} (hQ : ∀ σ w a, Known n σ a → K σ w → wpListIn Fence.wide m P ops Q rest a w) :
    ∀ (l : List Oper) (σ : Regs) (w : World) (a : Act), Known n σ a → Wk P n (l.map (conv ops)) σ w K → wpListIn Fence.wide m P ops Q (l ++ rest) a w
  | [], σ, w, a, hk, h => hQ σ w a hk h
  | o :: r, σ, w, a, hk, h => by
    obtain ⟨hd, h⟩ := h
    rw [List.cons_append]
    unfold wpListIn
    exact step_wide hn hk (F := fun v w' => Wk P n (r.map (conv ops)) (put σ o.dst v) w' K) h fun v w' hK => Wk_wide hn hQ r _ w' _ (hk.put hd v) hK
/-- a round of a loop over a function: what yield hands back -/
def Yields (P : Program) (l : Nat) (args : List Value) (w : World) (R : Value → World → Prop) : Prop :=
  YieldAt Fence.wide 0 P l args.toArray w fun e w' => ∃ v, e = .returned v ∧ R v w'
theorem Yields.mono {P : Program} {l : Nat} {args : List Value} {w : World} {R R' : Value → World → Prop} (h : Yields P l args w R) (hr : ∀ v w', R v w' → R' v w') : Yields P l args w R' :=
  YieldAt.mono h fun _ _ ⟨v, he, hv⟩ => ⟨v, he, hr v _ hv⟩
/-- a region in which one step calls yield -/
theorem W_yield {P : Program} {n : Nat} {σ : Regs} {w : World} {K : Regs → World → Prop} {X : Outs} (hn : n ≤ 1000000) {id : Nat} (l1 l2 : List Oper) (d : Nat) (c : Call) (t : TypeId) (p : String) (e : Array Edge) (x : Operand) (hc : c.callee = .value x) (hd : d < n)
    (h1 : (l1 ++ ⟨some d, .call c, t, p, e, none⟩ :: l2).all (dLt n) = true) {ops : List Oper} (hops : ops = l1 ++ ⟨some d, .call c, t, p, e, none⟩ :: l2)
    (h : Wo P ops.toArray l1 σ w fun σ' w' => on (evO σ' x) fun fv => onL σ' c.args.toList fun vs => ∃ l, fv = .func (.yield l) #[] #[] ∧ Yields P l vs w' fun v w'' => Wo P ops.toArray l2 (put σ' (some d) v) w'' K) :
    W P n σ w (.region id ops.toArray false) K X := by
  intro a hk
  have hal := h1
  simp only [List.all_append, List.all_cons, Bool.and_eq_true] at hal
  refine wpIn_wide.1 (wpIn_region_list (n := 0) ?_)
  have e0 : ops.toArray.toList = l1 ++ ⟨some d, .call c, t, p, e, none⟩ :: l2 := by rw [List.toList_toArray]; exact hops
  rw [e0]
  rw [← Wo_eq l1 σ w hal.1] at h
  refine Wk_wide hn (m := 0) ?_ l1 σ w a hk h
  intro σ' w' a' hk' hK
  obtain ⟨fv, hfv, h2⟩ := on_spec hK
  obtain ⟨l, hl, hY⟩ := onL_spec hk' h2
  subst hl
  have hx := hk'.ev hfv
  obtain ⟨fn, tmps, assign, body, hy, hR⟩ := hY
  unfold wpListIn
  rw [if_pos (wanted_none rfl)]
  refine ⟨fun _ _ => trivial, ?_⟩
  rw [show Fence.wide.round = none from rfl, Oper.semAt_none]
  have hex : (execOp a'.eval ⟨some d, .call c, t, p, e, none⟩).run P w' = .ok (.round l fn tmps assign body) w' := by
    simp only [execOp, resolve, hc, hx, Deferred.ofValue, Sem.run_bind, Sem.run_pure, Result.andThen_ok, invoke]
    have ea : (#[] ++ Array.map a'.eval c.args : Array Value) = (c.args.toList.map a'.eval).toArray := by
      apply Array.toList_inj.1
      simp
    rw [ea]
    exact hy
  rw [hex]
  refine ⟨fun hd => (by cases hd), RoundIn.mono hR ?_⟩
  intro e2 w2 he
  obtain ⟨v, he, hv⟩ := he
  subst he
  have hv : Wo P ops.toArray l2 (put σ' (some d) v) w2 K := hv
  rw [← Wo_eq l2 _ w2 hal.2.2] at hv
  have := Wk_wide hn (m := 0) (rest := []) (Q := post n K X) (fun σ w a hk h => ⟨σ, hk, h⟩) l2 _ w2 _ (hk'.put (d := some d) hd v) hv
  rwa [List.append_nil] at this
end Go.Vk
end
section
set_option linter.unusedSimpArgs false
set_option linter.unusedVariables false
namespace Go.Vk
open Go Go.RowKit
/-- blocks that are no cells -/
def NC (w : World) (b : Nat) : Prop := ∃ o : Obj, w.heap[b]? = some o ∧ o.isCells = false
/-- whatever is cells lies as it lay -/
def Keep (w w' : World) : Prop := Upd (NC w) w w'
theorem Ext.keep {w w' : World} (h : Ext w w') : Keep w w' := h.upd
theorem Keep.trans {a b c : World} (h : Keep a b) (k : Keep b c) : Keep a c := Upd.trans h k fun i hi ⟨o, h1, h2⟩ => by
  apply Classical.byContradiction
  intro hn
  have e := h.same i hi hn
  exact hn ⟨o, by rw [← e]; exact h1, h2⟩
theorem Keep.blk {w w' : World} (h : Keep w w') {b : Nat} {cs : Array Value} {t : TypeId} {f : Nat × Nat} (hb : w.heap[b]? = some (.cells cs t f)) : w'.heap[b]? = some (.cells cs t f) :=
  (h.same b (blk_lt hb) (fun ⟨o, h1, h2⟩ => by rw [hb] at h1; cases h1; cases h2)).trans hb
theorem nc_not {w : World} {b : Nat} {o : Obj} (hb : w.heap[b]? = some o) (hc : o.isCells = true) : ¬ NC w b := fun ⟨o', h1, h2⟩ => by
  rw [hb] at h1; cases h1; rw [hc] at h2; cases h2
theorem Keep.putObj (W : World) (l : Nat) (o o' : Obj) (h : W.heap[l]? = some o) (hc : o.isCells = false) : Keep W (W.putObj l o') := by
  have hg := grownBy_putObj' W l o'
  exact ⟨⟨hg.os, hg.tape, hg.output, hg.size⟩, fun b hb hn => hg.block b hb fun e => by cases e; exact hn ⟨o, h, hc⟩⟩
theorem Keep.cell {w w' : World} (h : Keep w w') {a : Addr} {v : Value} (hv : w.cell? a = some v) : w'.cell? a = some v := by
  obtain ⟨o, h1, h2⟩ := cells_of_cell hv
  have e := h.same a.block (blk_lt h1) (nc_not h1 h2)
  exact (World.cell?_of_block e).trans hv
theorem Ext.grown {w w' : World} (h : Ext w w') : w.grownBy w' none := ⟨h.alike.os, h.alike.tape, h.alike.output, h.alike.size, fun k hk _ => h.same k hk id⟩
theorem Upd.grown {w0 w w' : World} {F : Nat → Prop} {row : Option Nat} (h : Upd F w0 w) (hg : w.grownBy w' row) (hr : ∀ r, row = some r → w0.heap.size ≤ r) : Upd F w0 w' :=
  ⟨h.alike.trans ⟨hg.os, hg.tape, hg.output, hg.size⟩, fun b hb hf => (hg.block b (Nat.lt_of_lt_of_le hb h.alike.size) fun e => by have := hr b e.symm; omega).trans (h.same b hb hf)⟩
theorem Below.upd {B : Nat} {w w' : World} (h : Below B w w') : Upd (fun b => B ≤ b) w w' := ⟨⟨h.os, h.tape, h.output, h.size⟩, fun b _ hb => h.block b (by omega)⟩
theorem Ext.keepsFrom {w w' : World} (h : Ext w w') (B : Nat) : KeepsFrom B w w' := ⟨h.alike.size, fun k o _ hk _ => h.blk hk⟩
theorem Upd.keepsFrom {F : Nat → Prop} {w w' : World} (h : Upd F w w') {B : Nat} (hf : ∀ b, F b → ∃ o : Obj, w.heap[b]? = some o ∧ o.isCells = true) : KeepsFrom B w w' :=
  ⟨h.alike.size, fun k o _ hk hc => (h.same k (blk_lt hk) fun hF => by
    obtain ⟨o', h1, h2⟩ := hf k hF
    rw [hk] at h1; cases h1; rw [hc] at h2; cases h2).trans hk⟩
/-- the fence of a round -/
def Rd (r : Option Nat) : Fence := { Fence.wide with round := r }
def nodef (o : Oper) : Bool := match o.op with
  | .defer _ => false
  | _ => true
theorem sem_rd (r : Option Nat) (ρ : Operand → Value) (o : Oper) (h : nodef o = true) : Oper.semAt r ρ o = execOp ρ o := by
  cases r with
  | none => exact Oper.semAt_none ρ o
  | some l => exact Oper.semAt_some l ρ o fun c e => by unfold nodef at h; rw [e] at h; cases h
theorem calls_rd {r : Option Nat} {n : Nat} {P : Program} {f : FuncId} {args : Array Value} {w : World} {R : Ending → World → Prop} (h : Calls P f args w R) : CallsIn (Rd r) n P f args w R :=
  (callsIn_wide (n := n)).2 h
theorem Does.rd {r : Option Nat} {P : Program} {a : Act} {o : Oper} {w : World} {K : Value → World → Prop} {N : Act → World → Prop} {Q : Exit → Act → World → Prop} {m : Nat} (hnd : nodef o = true)
    (h : Does P a.eval o w K) (hn : ∀ v w', K v w' → N (a.put o.dst v) w') : o.wpIn (Rd r) m P a w N Q := by
  refine ⟨fun _ _ => trivial, ?_⟩
  rw [show (Rd r).round = r from rfl, sem_rd r _ _ hnd]
  unfold Does at h
  generalize (execOp a.eval o).run P w = z at h
  cases z with
  | halt x w' => exact h.elim
  | ok n w' =>
    cases n <;> simp only [Oper.uponIn] at h ⊢
    case value v => exact hn _ _ h
    case skip => exact hn _ _ h
    case enter f args =>
      refine ⟨fun hd => (by cases hd), calls_rd (h.mono ?_)⟩
      intro e w'' he
      obtain ⟨v, he, hk⟩ := he
      subst he
      exact hn _ _ hk
/-- a state that is known but for its deferred calls -/
def Kn (n : Nat) (σ : Regs) (a : Act) : Prop := Known n σ { a with defers := [] }
theorem Kn.put {n : Nat} {σ : Regs} {a : Act} (h : Kn n σ a) {d : Option Nat} (hd : dOk n d) (v : Value) : Kn n (put σ d v) (a.put d v) := by
  have := Known.put h hd v
  cases d <;> exact this
theorem step_rd {r : Option Nat} {P : Program} {n : Nat} (hn : n ≤ 1000000) {ops : Array Oper} {o : Oper} {σ : Regs} {w : World} {a : Act} (hk : Kn n σ a) (hnd : nodef o = true) {N : Act → World → Prop} {Q : Exit → Act → World → Prop} {m : Nat}
    {F : Value → World → Prop}
    (h : match (conv ops o).grd with
      | none => vcOp P o.op o.type σ w F
      | some (g, want) => on (find σ g) fun gv => ∃ b, gdv gv b want ∧ (b = want → vcOp P o.op o.type σ w F) ∧ (b ≠ want → F undef w))
    (hF : ∀ v w', F v w' → N (a.put o.dst v) w') :
    (if Region.wanted o (yielded ops a.tmps) then o.wpIn (Rd r) m P a w N Q else (∀ f, o.about P w a.eval = some f → (Rd r).fn f) ∧ N (a.put o.dst undef) w) := by
  cases hg : (conv ops o).grd with
  | none =>
    rw [hg] at h
    rw [if_pos (wanted_none (conv_none hg))]
    exact Does.rd hnd (vcOp_spec hk h) hF
  | some gw =>
    obtain ⟨g, want⟩ := gw
    rw [hg] at h
    obtain ⟨gv, hgv, b, hgb, h1, h0⟩ := on_spec h
    have ht : a.tmps[g]? = some gv := hk.reg g _ hgv
    have hsz : a.tmps.size = n := hk.size
    have hlt : g < n := by
      have := (Array.getElem?_eq_some_iff.1 ht).1
      rw [hsz] at this; exact this
    obtain ⟨j, hj, hjd⟩ := conv_guard hg (by omega)
    rcases hgb with rfl | ⟨rfl, rfl⟩
    case inr =>
      rw [wanted_undef hj hjd ht]
      rw [if_neg (by simp)]
      exact ⟨fun _ _ => trivial, hF _ _ (h0 (by cases want <;> simp))⟩
    rw [wanted_some hj hjd ht]
    by_cases e : b = want
    · rw [if_pos (by simpa using e)]
      exact Does.rd hnd (vcOp_spec hk (h1 e)) hF
    · rw [if_neg (by simpa using e)]
      exact ⟨fun _ _ => trivial, hF _ _ (h0 e)⟩
theorem Wk_rd {r : Option Nat} {P : Program} {n : Nat} (hn : n ≤ 1000000) {ops : Array Oper} {K : Regs → World → Prop} {Q : Exit → Act → World → Prop} {m : Nat} {D : List Deferred} (hQ : ∀ σ w a, Kn n σ a → a.defers = D → K σ w → Q .normal a w) :
    ∀ (l : List Oper) (σ : Regs) (w : World) (a : Act), l.all nodef = true → Kn n σ a → a.defers = D → Wk P n (l.map (conv ops)) σ w K → wpListIn (Rd r) m P ops Q l a w
  | [], σ, w, a, _, hk, hD, h => hQ σ w a hk hD h
  | o :: l, σ, w, a, hnd, hk, hD, h => by
    obtain ⟨hd, h⟩ := h
    rw [List.all_cons, Bool.and_eq_true] at hnd
    unfold wpListIn
    exact step_rd hn hk hnd.1 (F := fun v w' => Wk P n (l.map (conv ops)) (put σ o.dst v) w' K) h fun v w' hK => Wk_rd hn hQ l _ w' _ hnd.2 (hk.put hd v) (by cases o.dst <;> exact hD) hK
theorem reg_rd {r : Option Nat} {P : Program} {n : Nat} (hn : n ≤ 1000000) {id : Nat} {l : List Oper} {Q : Exit → Act → World → Prop} {m : Nat} {σ : Regs} {w : World} {a : Act} (hk : Kn n σ a) (hd : l.all (dLt n) = true) (hnd : l.all nodef = true)
    (h : Wo P l.toArray l σ w fun σ' w' => ∀ a', Kn n σ' a' → a'.defers = a.defers → Q .normal a' w') : (Code.region id l.toArray false).wpIn (Rd r) m P Q a w := by
  refine wpIn_region_list ?_
  rw [List.toList_toArray]
  rw [← Wo_eq l σ w hd] at h
  exact Wk_rd hn (D := a.defers) (fun σ' w' a' h1 h2 h3 => h3 a' h1 h2) l σ w a hnd hk rfl h
theorem cond_rd {r : Option Nat} {P : Program} {n : Nat} {Q : Exit → Act → World → Prop} {m : Nat} {σ : Regs} {w : World} {a : Act} {c : Operand} {x y : Code} (hk : Kn n σ a) {b : Bool} (hc : evO σ c = some (.bool b)) (h1 : b = true → x.wpIn (Rd r) m P Q a w) (h2 : b = false → y.wpIn (Rd r) m P Q a w) :
    (Code.cond c x y).wpIn (Rd r) m P Q a w :=
  wpIn_cond_split (t := b) (hk.ev hc) h1 h2
end Go.Vk
end
section
set_option linter.unusedSimpArgs false
set_option linter.unusedVariables false
namespace Go.Vk
open Go Go.RowKit
theorem SK.keep {w w' : World} {ps : Nat} {ap sv : Value} {s : List OpS} {bo : Option Nat} (h : SK w ps ap sv s bo) (hk : Keep w w') : SK w' ps ap sv s bo :=
  h.upd hk (nc_not h.head rfl) fun b hb => by
    have hs := h.sl
    rcases hs with ⟨e, _⟩ | ⟨b', o, n, c, cs, t, e, _, _, _, hh, _⟩
    · rw [hb] at e; cases e
    · rw [hb] at e; cases e
      obtain ⟨f, _, hh⟩ := hh
      exact nc_not hh rfl
/-- from the top on, up to the first that ends it -/
def scp (e : OpS → Bool) (s : List OpS) : Nat → List OpS
  | 0 => []
  | k + 1 => s.getD k zS :: if e (s.getD k zS) = true then [] else scp e s k
def scE (which : Int) (o : OpS) : Bool := scopeN which o.space o.name
end Go.Vk
namespace Go.Proofs.YtgnnlaeikcnhcaaGreatDoor
open Go Go.Vk Go.RowKit
theorem GL.keep {w w' : World} (h : GL w) (hx : Keep w w') : GL w' := ⟨let ⟨m, h⟩ := h.max; ⟨m, hx.cell h⟩, let ⟨t, f, h⟩ := h.sc; ⟨t, f, hx.blk h⟩⟩
set_option maxHeartbeats 40000000
section
variable {W : World} {ps : Nat} {ap sv : Value} {s : List OpS} {bo : Option Nat}
theorem scope1_c {l bs bw : Nat} {which : Int} {J Jx : List OpS → World → Prop} (hs : s.length < 10000) (hz : ∀ o ∈ s, o.name.size < 4294967281)
    (hg : GL W) (hS : SK W ps ap sv s bo) (h1 : W.heap[bs]? = some (.cells #[.pointer (some ⟨ps, 0, none⟩)] 39 (0, 0))) (h2 : W.heap[bw]? = some (.cells #[.int .i64 which] 3 (0, 0)))
    (hJ : ∀ pre W1 W2, J pre W1 → Ext W1 W2 → J pre W2) (hJx : ∀ pre W1 W2, Jx pre W1 → Ext W1 W2 → Jx pre W2)
    (hY : ∀ pre (x : OpS) W1, J pre W1 → pre.length < s.length → YieldAt Fence.wide 0 Tryz.prog l #[.agg x.row] W1 fun e W' => (e = .returned (.bool true) ∧ J (pre ++ [x]) W' ∧ Keep W1 W') ∨ (e = .returned (.bool false) ∧ Jx (pre ++ [x]) W'))
    (h0 : J [] W) : Gives Tryz.prog 159 #[.func (.yield l) #[] #[], .pointer (some ⟨bs, 0, none⟩), .pointer (some ⟨bw, 0, none⟩)] W fun _ w' =>
      (∃ xs, xs = scp (scE which) s s.length ∧ J xs w') ∨ ∃ pre, pre <+: scp (scE which) s s.length ∧ Jx pre w' := by
  have s0 : inI64 ((s.length : Int) - 1) := by unfold inI64; omega
  refine Gives.of_W Tryz.call159 Tryz.func159 rfl Tryz.ntmps159 (by simp) ?_; intro Z hZ
  (repeat first|(with_reducible first|(refine hK _ _ ?_;clear hK K)|refine ‹∀σ w,_→K σ w› _ _ ?_|(refine W_st ?_;constructor;try intro K hK))|((with_reducible first|refine hZ _ _ ?_|refine W_rg ?_|skip);repeat1' simp only[push_cast,seval,-Nat.reduceSubDiff,cell_h,cellO_cells,h1])|((repeat((fail_if_success with_reducible refine hK _ _ ?_);clear hK K));with_reducible refine hK _ _ ?_;clear hK K))
  refine (slen_c hS).mono ?_
  intro v w' ⟨hv, hw⟩
  subst hv; subst w'
  (repeat first|(with_reducible first|(refine hK _ _ ?_;clear hK K)|refine ‹∀σ w,_→K σ w› _ _ ?_|(refine W_st ?_;constructor;try intro K hK))|((with_reducible first|refine hZ _ _ ?_|refine W_rg ?_|skip);repeat1' simp only[push_cast,seval,-Nat.reduceSubDiff,s0])|((repeat((fail_if_success with_reducible refine hK _ _ ?_);clear hK K));with_reducible refine hK _ _ ?_;clear hK K))
  refine W_loop (S := Nat × List OpS) (fun z => [(0, .func (.yield l) #[] #[]), (1, .pointer (some ⟨bs, 0, none⟩)), (2, .pointer (some ⟨bw, 0, none⟩)), (4, .int .i64 ((z.1 : Int) - 1))])
    (fun z w2 => z.2.length + z.1 = s.length ∧ z.2 ++ scp (scE which) s z.1 = scp (scE which) s s.length ∧ Keep W w2 ∧ J z.2 w2) (fun z => z.1) (s.length, []) ?_ ?_ ?_
  · (repeat simp only [push_cast, seval, -Nat.reduceSubDiff])
  · exact ⟨by simp, rfl, (Ext.refl W).keep, h0⟩
  rintro ⟨k, pre⟩ w2 ⟨hk, he, hx, hj⟩
  dsimp only at hk he hj ⊢
  have hS2 := hS.keep hx
  have h12 := hx.blk h1
  have h22 := hx.blk h2
  have h02 := hS2.head
  cases k with
  | zero =>
    have e0 : (((0 : Nat) : Int) - 1) = -1 := rfl
    rw [e0]
    have b0 : ¬ (0 : Int) ≤ -1 := by omega
    (repeat first|(with_reducible first|(refine hK _ _ ?_;clear hK K)|refine ‹∀σ w,_→K σ w› _ _ ?_|(refine W_st ?_;constructor;try intro K hK))|((with_reducible first|refine hZ _ _ ?_|refine W_rg ?_|skip);repeat1' simp only[push_cast,seval,-Nat.reduceSubDiff,b0])|((repeat((fail_if_success with_reducible refine hK _ _ ?_);clear hK K));with_reducible refine hK _ _ ?_;clear hK K))
    rw [scp, List.append_nil] at he
    exact .inl ⟨pre, he, hj⟩
  | succ k =>
    have e0 : (((k + 1 : Nat) : Int) - 1) = k := by omega
    rw [e0]
    rw [scp] at he
    have b2 : inI64 ((k : Int) - 1) := by unfold inI64; omega
    have b0 : (0 : Int) ≤ (k : Int) := by omega
    have hkl : k < s.length := by omega
    have b3 : (k : Int) < (s.length : Int) := by omega
    obtain ⟨y, hy⟩ : ∃ y, s[k]? = some y := ⟨_, List.getElem?_eq_getElem hkl⟩
    have hgd : s.getD k zS = y := by simp [List.getD, hy]
    rw [hgd] at he
    obtain ⟨b, o, c, rfl, hbo1, c1, c2, c3⟩ := ops_cell hS2.sl hy
    (repeat first|(with_reducible first|(refine hK _ _ ?_;clear hK K)|refine ‹∀σ w,_→K σ w› _ _ ?_|(refine W_st ?_;constructor;try intro K hK))|((with_reducible first|refine hZ _ _ ?_|refine W_rg ?_|skip);repeat1' simp only[push_cast,seval,-Nat.reduceSubDiff,b0,b3,cell_h,cellO_cells,h02,h12,c1,c2,c3,RunV_zero Tryz.zeroValue127,vcells_agg])|((repeat((fail_if_success with_reducible refine hK _ _ ?_);clear hK K));with_reducible refine hK _ _ ?_;clear hK K))
    obtain ⟨hx3, z3, hs3⟩ := new3 w2 (.int .i64 0) (.int .i64 0) (.string ⟨#[]⟩) (.int .i64 y.node) (.int .i64 y.space) (.string y.name) 127
    simp only [can_h, heap_alloc_h, if_true, canO_cells, List.size_toArray, List.length_cons, List.length_nil, Nat.zero_add, Nat.reduceAdd, Nat.reduceLT, true_and]
    generalize setCells (w2.alloc (.cells #[.int .i64 0, .int .i64 0, .string ⟨#[]⟩] 127)) ⟨w2.heap.size, 0, none⟩ [.int .i64 y.node, .int .i64 y.space, .string y.name] 0 = w3 at *
    obtain ⟨p5, hp5⟩ : ∃ p5, p5 = w2.heap.size := ⟨_, rfl⟩
    rw [← hp5] at z3 hs3 ⊢
    refine hK _ _ ?_
    clear hK K
    refine W_seq_k fun K hK => ?_
    refine W_yield (by decide) [_, _] [_, _, _, _, _, _, _, _, _] 22 _ _ _ _ _ rfl (by decide) (by decide) rfl ?_
    have hj3 := hJ _ _ _ hj hx3
    have hy3 := hY pre y w3 hj3 (by omega)
    (repeat simp only [push_cast, seval, -Nat.reduceSubDiff, cell_h, cellO_cells, z3])
    refine ⟨l, rfl, YieldAt.mono hy3 ?_⟩
    rintro e w4 (⟨rfl, hj4, hk4⟩ | ⟨rfl, hjx⟩)
    · refine ⟨_, rfl, ?_⟩
      have hx4 := (hx.trans hx3.keep).trans hk4
      have z4 := hk4.blk z3
      have h24 := hx4.blk h2
      (repeat first|(with_reducible first|(refine hK _ _ ?_;clear hK K)|refine ‹∀σ w,_→K σ w› _ _ ?_|(refine W_st ?_;constructor;try intro K hK))|((with_reducible first|refine hZ _ _ ?_|refine W_rg ?_|skip);repeat1' simp only[push_cast,seval,-Nat.reduceSubDiff,cell_h,cellO_cells,z4,h24])|((repeat((fail_if_success with_reducible refine hK _ _ ?_);clear hK K));with_reducible refine hK _ _ ?_;clear hK K))
      refine (scope_c which y.space y.name (hg.keep hx4) (hz y (List.mem_of_getElem? hy))).mono ?_
      intro v w' ⟨hv, hw⟩
      subst hv; subst w'
      cases hb : scopeN which y.space y.name
      · rw [if_neg (by unfold scE; rw [hb]; decide)] at he
        (repeat first|(with_reducible first|(refine hK _ _ ?_;clear hK K)|refine ‹∀σ w,_→K σ w› _ _ ?_|(refine W_st ?_;constructor;try intro K hK))|((with_reducible first|refine hZ _ _ ?_|refine W_rg ?_|skip);repeat1' simp only[push_cast,seval,-Nat.reduceSubDiff,b2])|((repeat((fail_if_success with_reducible refine hK _ _ ?_);clear hK K));with_reducible refine hK _ _ ?_;clear hK K))
        refine ⟨(k, pre ++ [y]), by omega, ?_⟩
        (repeat simp only [push_cast, seval, -Nat.reduceSubDiff])
        refine ⟨by simp; omega, ?_, hx4, hj4⟩
        rw [List.append_assoc]
        exact he
      · rw [if_pos (by unfold scE; rw [hb])] at he
        (repeat first|(with_reducible first|(refine hK _ _ ?_;clear hK K)|refine ‹∀σ w,_→K σ w› _ _ ?_|(refine W_st ?_;constructor;try intro K hK))|((with_reducible first|refine hZ _ _ ?_|refine W_rg ?_|skip);repeat1' simp only[push_cast,seval,-Nat.reduceSubDiff])|((repeat((fail_if_success with_reducible refine hK _ _ ?_);clear hK K));with_reducible refine hK _ _ ?_;clear hK K))
        exact .inl ⟨_, he, hj4⟩
    · refine ⟨_, rfl, ?_⟩
      (repeat first|(with_reducible first|(refine hK _ _ ?_;clear hK K)|refine ‹∀σ w,_→K σ w› _ _ ?_|(refine W_st ?_;constructor;try intro K hK))|((with_reducible first|refine hZ _ _ ?_|refine W_rg ?_|skip);repeat1' simp only[push_cast,seval,-Nat.reduceSubDiff])|((repeat((fail_if_success with_reducible refine hK _ _ ?_);clear hK K));with_reducible refine hK _ _ ?_;clear hK K))
      refine .inr ⟨_, ?_, hjx⟩
      rw [← he]
      exact ⟨if scE which y = true then [] else scp (scE which) s k, by simp⟩
end
end Go.Proofs.YtgnnlaeikcnhcaaGreatDoor
end
section
set_option linter.unusedSimpArgs false
set_option linter.unusedVariables false
namespace Go.Vk
open Go Go.RowKit
def Mark (D : Nat) : Deferred := { target := .collected D, args := #[] }
theorem vc_bool (b : Bool) : (Value.bool b).cells = #[.bool b] := rfl
theorem grown_cells {A B : World} {row : Option Nat} {b : Nat} {cs : Array Value} {t : TypeId} {f : Nat × Nat} (h : A.heap[b]? = some (.cells cs t f)) (hg : A.grownBy B row) (hr : ∀ r, row = some r → ∃ o : Obj, A.heap[r]? = some o ∧ o.isCells = false) : B.heap[b]? = some (.cells cs t f) :=
  (hg.block b (blk_lt h) fun e => by
    obtain ⟨o, h1, h2⟩ := hr b e.symm
    rw [h] at h1; cases h1; cases h2).trans h
theorem set_any (a : Act) (v : Value) : ((#[11].zip #[v]).foldl (fun t (x : Nat × Value) => t.setIfInBounds x.1 x.2) a.tmps) = a.tmps.setIfInBounds 11 v := by simp
/-- 'for o := range seq { if p(o) { return true } }', and what is behind it -/
theorem range_any {P : Program} {n gf : Nat} {lb : Array Value} {g : Operand} {assign body : Code} {Q : Exit → Act → World → Prop} {a : Act} {W0 : World} {σ : Regs} (hk : Kn n σ a) (hn : 11 < n) (hg : evO σ g = some (.func (.func gf) #[] lb)) (eg : Enters P gf)
    {N : Nat} {Ls : List OpS} (p : OpS → Bool) {T t p6 : Nat} (h6 : W0.heap[p6]? = some (.cells #[.bool false] t (0, 0)))
    (hseq : SeqStopsK Fence.wide 0 P gf lb (fun o : OpS => #[.agg o.row]) Keep (fun xs => xs = Ls) (fun pre => pre <+: Ls) N W0)
    (ha : ∀ (l : Nat) (x : OpS) (a' : Act) (W : World) (K : Act → World → Prop), Ext W0 W → Kn n (put σ (some 11) (.agg x.row)) a' → a'.defers = [] →
      (∀ (a'' : Act) (W' : World) (p7 : Nat), Ext W W' → W'.heap[p7]? = some (.cells x.row T (0, 0)) → W.heap.size ≤ p7 → Kn n (put σ (some 7) (.pointer (some ⟨p7, 0, none⟩))) a'' → a''.defers = [] → K a'' W') → assign.wpIn (Rd (some l)) 0 P (Exit.then K fun _ _ _ => False) a' W)
    (hb : ∀ (l : Nat) (x : OpS) (a' : Act) (W : World) (p7 : Nat), Ext W0 W → W.heap[p7]? = some (.cells x.row T (0, 0)) → W0.heap.size ≤ p7 → Kn n (put σ (some 7) (.pointer (some ⟨p7, 0, none⟩))) a' → a'.defers = [] →
      body.wpIn (Rd (some l)) 0 P (fun e _ W' => (e = .normal ∧ p x = false ∧ Ext W W') ∨ (e = .ret ∧ p x = true ∧ ∃ W1, Ext W W1 ∧ W' = W1.setCell ⟨p6, 0, none⟩ (.bool true))) a' W)
    (hd : ∀ (D : Nat) (W : World), W0.heap.size ≤ D → Ls.any p = false → Ext W0 W → W.heap[D]? = some (.deferred (some [])) → Q .normal { a with defers := Mark D :: a.defers } W)
    (hs : ∀ (D : Nat) (W : World), W0.heap.size ≤ D → Ls.any p = true → Upd (fun b => b = p6) W0 W → W.heap[p6]? = some (.cells #[.bool true] t (0, 0)) → W.heap[D]? = some (.deferred (some [])) → Q .ret { a with defers := Mark D :: a.defers } W) :
    (Code.rangeFunc g #[11] assign body).wpIn Fence.wide 1 P Q a W0 := by
  have hev : a.eval g = .func (.func gf) #[] lb := hk.ev hg
  have hp6 := blk_lt h6
  refine wpIn_rangeFunc_ownH (F := Fence.wide) (n := 1) rfl (Nat.le_refl _) hev trivial eg hseq (fun h k => Keep.trans h k) (fun W l o o' _ h hc _ => Keep.putObj W l o o' h hc) (Below.refl _ _) (fun _ => rfl)
    (fun pre W => Ext W0 W ∧ pre.any p = false) (fun c pre W => c = .ret ∧ pre.any p = true ∧ Upd (fun b => b = p6) W0 W ∧ W.heap[p6]? = some (.cells #[.bool true] t (0, 0))) ?_ ?_ ⟨Ext.refl _, rfl⟩
    (fun x a' W => ∃ p7, W.heap[p7]? = some (.cells x.row T (0, 0)) ∧ W0.heap.size ≤ p7 ∧ Kn n (put σ (some 7) (.pointer (some ⟨p7, 0, none⟩))) a' ∧ a'.defers = []) ?_ ?_ ?_ ?_ ?_
  · rintro pre A B row ⟨h1, h2⟩ hgr hr
    exact ⟨Upd.grown h1 hgr fun r e => (hr r e).1, h2⟩
  · rintro c pre A B row ⟨h1, h2, h3, h4⟩ hgr hr
    exact ⟨h1, h2, Upd.grown h3 hgr fun r e => (hr r e).1, grown_cells h4 hgr fun r e => (hr r e).2⟩
  · rintro x a' _ A B row ⟨p7, h1, h2, h3⟩ hgr hr
    exact ⟨p7, grown_cells h1 hgr fun r e => (hr r e).2, h2, h3⟩
  · rintro l pre x W K ⟨hx, hp⟩ hK
    refine ha l x _ W K hx ?_ rfl fun a'' W' p7 h1 h2 h3 h4 h5 => hK a'' W' (h1.keepsFrom _) h1.keep ⟨hx.trans h1, hp⟩ ⟨p7, h2, Nat.le_trans hx.alike.size h3, h4, h5⟩
    have := Known.put hk (d := some 11) hn (.agg x.row)
    rw [set_any]
    exact this
  · rintro l pre x a' W hl _ ⟨hx, hp⟩ ⟨p7, h1, h2, h3, h4⟩ _
    refine wpIn_mono (hb l x a' W p7 hx h1 h2 h3 h4) ?_
    rintro e a3 W3 (⟨rfl, q1, q2⟩ | ⟨rfl, q1, W1, q2, rfl⟩)
    · refine ⟨q2.keepsFrom _, q2.keep, hx.trans q2, ?_⟩
      rw [List.any_append, hp]; simp [q1]
    · refine ⟨(q2.keepsFrom _).trans ((KeepsOthers.setCell _ _ _).from _), rfl, ?_, ?_, ?_⟩
      · rw [List.any_append]; simp [q1]
      · exact Upd.trans (hx.trans q2).upd (Upd.setCell (F := fun b => b = p6) (a := ⟨p6, 0, none⟩) W1 rfl _) fun _ _ h => h
      · rw [heap_set_h, if_pos rfl, (hx.trans q2).blk h6]; rfl
  · rintro D xs W hD rfl ⟨hx, hp⟩ hK
    exact hd D W hD hp hx hK
  · rintro D c pre W hD hpre ⟨rfl, hp, hx, h6'⟩ hK
    refine wpIn_ret (hs D W hD ?_ hx h6' hK)
    obtain ⟨t, ht⟩ := hpre
    rw [← ht, List.any_append, hp, Bool.true_or]
theorem kn_args {n : Nat} {args : Array Value} (ha : args.size ≤ n) : Kn n (argR 0 args.toList) { tmps := args ++ Array.replicate (n - args.size) undef, defers := [] } := by
  refine ⟨rfl, by simp; omega, fun t v hv => ?_⟩
  obtain ⟨_, h2⟩ := argR_find _ _ _ _ hv
  have hlt : t < args.size := by
    have := (List.getElem?_eq_some_iff.1 h2).1
    simpa using this
  rw [Array.getElem?_append_left hlt]
  simpa using h2
theorem leaves_mark {P : Program} {fn : Func} {n : Nat} {σ : Regs} {a : Act} {D : Nat} {w : World} {R : Value → World → Prop} (hk : Kn n σ a) (hd : a.defers = [Mark D]) (hD : w.heap[D]? = some (.deferred (some [])))
    (h : resL P σ (w.putObj D (.deferred none)) fn.results.toList fun vs => R (resV vs) (w.putObj D (.deferred none))) : LeavesInM Fence.wide 1 P fn a.tmps (fun e w' => ∃ v, e = .returned v ∧ R v w') a.defers .returning w := by
  rw [hd]
  refine ⟨by simp, .inl ⟨D, _, rfl, run_takeDeferred hD, ?_⟩⟩
  obtain ⟨v, hr, hR⟩ := results_run (k := fun v => R v (w.putObj D (.deferred none))) hk h
  exact ⟨v, hr, v, rfl, hR⟩
end Go.Vk
namespace Go.Proofs.YtgnnlaeikcnhcaaGreatDoor
open Go Go.Vk Go.RowKit
set_option maxHeartbeats 40000000
section
variable {w : World} {ps : Nat} {ap sv : Value} {s : List OpS} {bo : Option Nat}
theorem sscope_c (pv : Option Addr) (which : Int) : Gives Tryz.prog 116 #[.pointer pv, .int .i64 which] w fun v w' => ∃ bs bw, v = .func (.func 159) #[] #[.pointer (some ⟨bs, 0, none⟩), .pointer (some ⟨bw, 0, none⟩)] ∧ w'.heap[bs]? = some (.cells #[.pointer pv] 39 (0, 0)) ∧ w'.heap[bw]? = some (.cells #[.int .i64 which] 3 (0, 0)) ∧ Ext w w' := by
  refine Gives.of_W Tryz.call116 Tryz.func116 rfl Tryz.ntmps116 (by simp) ?_; intro Z hZ
  (repeat first|(with_reducible first|(refine hK _ _ ?_;clear hK K)|refine ‹∀σ w,_→K σ w› _ _ ?_|(refine W_st ?_;constructor;try intro K hK))|((with_reducible first|refine hZ _ _ ?_|refine W_rg ?_|skip);repeat1' simp only[push_cast,seval,-Nat.reduceSubDiff,vc_ptr,vc_int])|((repeat((fail_if_success with_reducible refine hK _ _ ?_);clear hK K));with_reducible refine hK _ _ ?_;clear hK K))
  have hx := (Ext.alloc w (.cells #[.pointer pv] 39)).trans (Ext.alloc _ (.cells #[.int .i64 which] 3))
  refine ⟨_, _, rfl, ?_, ?_, hx⟩
  · rw [heap_alloc_h, if_neg (by rw [size_alloc_h]; omega), heap_alloc_h, if_pos rfl]
  · rw [heap_alloc_h, if_pos (by rw [size_alloc_h])]
theorem scope_stops {which : Int} {bs bw : Nat} (hs : s.length < 10000) (hz : ∀ o ∈ s, o.name.size < 4294967281)
    (hg : GL w) (hS : SK w ps ap sv s bo) (h1 : w.heap[bs]? = some (.cells #[.pointer (some ⟨ps, 0, none⟩)] 39 (0, 0))) (h2 : w.heap[bw]? = some (.cells #[.int .i64 which] 3 (0, 0))) :
    SeqStopsK Fence.wide 0 Tryz.prog 159 #[.pointer (some ⟨bs, 0, none⟩), .pointer (some ⟨bw, 0, none⟩)] (fun o : OpS => #[.agg o.row]) Keep (fun xs => xs = scp (scE which) s s.length) (fun pre => pre <+: scp (scE which) s s.length) s.length w := by
  intro l J Jx W hW hJ hJx hY h0
  have hu : Ext w W := ⟨⟨hW.os, hW.tape, hW.output, hW.size⟩, fun b hb _ => hW.block b hb⟩
  refine (callsIn_wide (n := 0)).2 ((Gives.calls Tryz.call159 (scope1_c (l := l) (bs := bs) (bw := bw) (which := which) (J := J) (Jx := Jx) hs hz (hg.ext hu) (hS.ext hu) (hu.blk h1) (hu.blk h2)
    (fun pre W1 W2 h hx => hJ pre W1 W2 none h hx.grown fun r e => by cases e) (fun pre W1 W2 h hx => hJx pre W1 W2 none h hx.grown fun r e => by cases e) hY h0)).mono ?_)
  rintro e w' ⟨v, rfl, h⟩
  exact ⟨⟨v, rfl⟩, h⟩
theorem shasn_cg {pv : Option Addr} {which : Int} {i : Int} {Ls : List OpS} {N : Nat}
    (hst : ∀ w2 bs bw, Ext w w2 → w2.heap[bs]? = some (.cells #[.pointer pv] 39 (0, 0)) → w2.heap[bw]? = some (.cells #[.int .i64 which] 3 (0, 0)) →
      SeqStopsK Fence.wide 0 Tryz.prog 159 #[.pointer (some ⟨bs, 0, none⟩), .pointer (some ⟨bw, 0, none⟩)] (fun o : OpS => #[.agg o.row]) Keep (fun xs => xs = Ls) (fun pre => pre <+: Ls) N w2) :
    Gives Tryz.prog 164 #[.pointer pv, .int .i64 which, .int .i64 i] w fun v w' => v = .bool (Ls.any fun o => decide (o.node = i)) ∧ Ext w w' := by
  refine .inl ⟨Tryz.call164, (callsIn_wide (n := 1)).1 (callsIn_of_wp_marks Tryz.func164 rfl trivial ?_ rfl)⟩
  
  rw [Tryz.ntmps164]
  refine wpIn_seq ?_
  refine reg_rd (r := none) (n := 16) (by decide) (kn_args (by simp)) (by decide) (by decide) ?_
  (repeat simp only [push_cast, seval, -Nat.reduceSubDiff, vc_int, RunV_zero Tryz.zeroValue4, vc_bool])
  have hx1 := (Ext.alloc w (.cells #[.int .i64 i] 3)).trans (Ext.alloc _ (.cells #[.bool false] 4))
  have z5 : ((w.alloc (.cells #[.int .i64 i] 3)).alloc (.cells #[.bool false] 4)).heap[w.heap.size]? = some (.cells #[.int .i64 i] 3 (0, 0)) := by rw [heap_alloc_h, if_neg (by rw [size_alloc_h]; omega), heap_alloc_h, if_pos rfl]
  have z6 : ((w.alloc (.cells #[.int .i64 i] 3)).alloc (.cells #[.bool false] 4)).heap[w.heap.size + 1]? = some (.cells #[.bool false] 4 (0, 0)) := by rw [heap_alloc_h, if_pos (by rw [size_alloc_h])]
  try simp only [size_alloc_h]
  generalize (w.alloc (.cells #[.int .i64 i] 3)).alloc (.cells #[.bool false] 4) = w1 at *
  obtain ⟨p5, hp5⟩ : ∃ p5, p5 = w.heap.size := ⟨_, rfl⟩
  obtain ⟨p6, hp6⟩ : ∃ p6, p6 = w.heap.size + 1 := ⟨_, rfl⟩
  rw [← hp6] at z6 ⊢
  rw [← hp5] at z5 ⊢
  intro a1 hk1 hd1
  refine wpIn_seq ?_
  refine wpIn_seq ?_
  refine reg_rd (r := none) (n := 16) (by decide) hk1 (by decide) (by decide) ?_
  (repeat simp only [push_cast, seval, -Nat.reduceSubDiff])
  refine (sscope_c pv which).mono ?_
  rintro v w2 ⟨bs, bw, rfl, g1, g2, hx2⟩
  (repeat simp only [push_cast, seval, -Nat.reduceSubDiff])
  intro a2 hk2 hd2
  have hx02 := hx1.trans hx2
  have z62 := hx2.blk z6
  have hl2 := hx02.alike.size
  refine wpIn_block ?_
  refine range_any (T := 127) hk2 (by decide) rfl Tryz.call159 (fun o => decide (o.node = i)) z62 (hst w2 bs bw hx02 g1 g2) ?_ ?_ ?_ ?_
  · intro l x a' W K hxW hk' hd' hK
    unfold OpS.row at hk' hK
    refine reg_rd (r := some l) (n := 16) (by decide) hk' (by decide) (by decide) ?_
    (repeat simp only [push_cast, seval, -Nat.reduceSubDiff, RunV_zero Tryz.zeroValue127, vcells_agg])
    obtain ⟨hx3, z3, hs3⟩ := new3 W (.int .i64 0) (.int .i64 0) (.string ⟨#[]⟩) (.int .i64 x.node) (.int .i64 x.space) (.string x.name) 127
    simp only [can_h, heap_alloc_h, if_true, canO_cells, List.size_toArray, List.length_cons, List.length_nil, Nat.zero_add, Nat.reduceAdd, Nat.reduceLT, true_and]
    intro a3 hk3 hd3
    refine hK a3 _ _ hx3 z3 (Nat.le_refl _) (Known.sub hk3 ?_) (hd3.trans hd')
    (repeat simp only [push_cast, seval, -Nat.reduceSubDiff])
  · intro l x a' W p7 hxW z7 hp7 hk' hd'
    have z5W := (hx2.trans hxW).blk z5
    have z6W := (hx2.trans hxW).blk z6
    unfold OpS.row at z7
    refine wpIn_block (wpIn_seq ?_)
    refine reg_rd (r := some l) (n := 16) (by decide) hk' (by decide) (by decide) ?_
    (repeat simp only [push_cast, seval, -Nat.reduceSubDiff, cell_h, cellO_cells, z7, z5W])
    intro a4 hk4 hd4
    have hx4 := Ext.refl W

    refine cond_rd hk4 (b := decide (x.node = i)) rfl (fun hpx => ?_) (fun hpx => ?_)
    · refine wpIn_seq (reg_rd (r := some l) (n := 16) (by decide) hk4 (by decide) (by decide) ?_)
      have z64 := hx4.blk z6W
      (repeat simp only [push_cast, seval, -Nat.reduceSubDiff, cell_h, can_h, canO_cells, z64])
      intro a5 hk5 hd5
      exact wpIn_ret (.inr ⟨rfl, hpx, _, hx4, rfl⟩)
    · exact wpIn_skip (.inl ⟨rfl, hpx, hx4⟩)
  · intro D W hD hany hxW hdD
    rw [hany]
    refine wpIn_seq (reg_rd (r := none) (n := 16) (by decide) (show Kn _ _ _ from hk2) (by decide) (by decide) ?_)
    have z6W := hxW.blk z62
    (repeat simp only [push_cast, seval, -Nat.reduceSubDiff, cell_h, can_h, canO_cells, z6W])
    intro a5 hk5 hd5
    have hneD : D ≠ p6 := fun e => by rw [e] at hdD; rw [z6W] at hdD; cases hdD
    refine wpIn_ret (leaves_mark (D := D) hk5 (hd5.trans (by rw [hd2, hd1])) ?_ ?_)
    · rw [heap_set_h, if_neg (by exact hneD)]; exact hdD
    have hu9 : Ext w ((W.setCell ⟨p6, 0, none⟩ (.bool false)).putObj D (.deferred none)) := by
      refine Upd.grown (Upd.trans (hx02.trans hxW) (Upd.setCell (F := fun b => b = p6) (a := ⟨p6, 0, none⟩) W rfl (.bool false)) fun b hb e => by omega) (grownBy_putObj' _ D _) fun r e => by cases e; omega
    have z9 : ((W.setCell ⟨p6, 0, none⟩ (.bool false)).putObj D (.deferred none)).heap[p6]? = some (.cells #[.bool false] 4 (0, 0)) := by
      rw [World.putObj_heap_other (by omega), heap_set_h, if_pos rfl, z6W]; rfl
    generalize (W.setCell ⟨p6, 0, none⟩ (.bool false)).putObj D (.deferred none) = w9 at *
    (repeat simp only [push_cast, seval, -Nat.reduceSubDiff, cell_h, cellO_cells, z9])
    exact hu9
  · intro D W hD hany hxW z6W hdD
    rw [hany]
    have hneD : D ≠ p6 := fun e => by rw [e] at hdD; rw [z6W] at hdD; cases hdD
    refine leaves_mark (D := D) (show Kn _ _ _ from hk2) (by rw [hd2, hd1]) hdD ?_
    have hu9 : Ext w (W.putObj D (.deferred none)) := by
      refine Upd.grown (Upd.trans hx02 hxW fun b hb e => by omega) (grownBy_putObj' _ D _) fun r e => by cases e; omega
    have z9 : (W.putObj D (.deferred none)).heap[p6]? = some (.cells #[.bool true] 4 (0, 0)) := by
      rw [World.putObj_heap_other (by omega), z6W]
    generalize W.putObj D (.deferred none) = w9 at *
    (repeat simp only [push_cast, seval, -Nat.reduceSubDiff, cell_h, cellO_cells, z9])
    exact hu9
theorem shasn_c {which : Int} {i : Int} (hs : s.length < 10000) (hz : ∀ o ∈ s, o.name.size < 4294967281) (hg : GL w) (hS : SK w ps ap sv s bo) :
    Gives Tryz.prog 164 #[.pointer (some ⟨ps, 0, none⟩), .int .i64 which, .int .i64 i] w fun v w' => v = .bool ((scp (scE which) s s.length).any fun o => decide (o.node = i)) ∧ Ext w w' :=
  shasn_cg (N := s.length) fun w2 bs bw hx g1 g2 => scope_stops hs hz (hg.ext hx) (hS.ext hx) g1 g2
end
end Go.Proofs.YtgnnlaeikcnhcaaGreatDoor
end
section
set_option linter.unusedSimpArgs false
set_option linter.unusedVariables false
namespace Go.Vk
open Go
def u8Cells (l : List Nat) : List Value := l.map fun n : Nat => Value.int .u8 (n : Int)
theorem u8Cells_length (l : List Nat) : (u8Cells l).length = l.length := by simp [u8Cells]
theorem u8_len {w : World} {v : Value} {l : List Nat} (h : RdAt w 1 v (u8Cells l)) : ∃ a c, v = .slice a l.length c ∧ l.length ≤ c ∧ ∀ (i : Nat) (x : Nat), l[i]? = some x → ∃ b o, a = some ⟨b, o, none⟩ ∧ w.cell? ⟨b, o + i, none⟩ = some (.int .u8 (x : Int)) := by
  obtain ⟨a, n, c, rfl, h1, h2, h3⟩ := h
  rw [u8Cells_length] at h2
  have : n = l.length := by omega
  subst this
  refine ⟨a, c, rfl, h1, fun i x hx => ?_⟩
  obtain ⟨b, o, e1, e2⟩ := h3 i (.int .u8 (x : Int)) (by simp [u8Cells, hx])
  exact ⟨b, o, e1, e2⟩
theorem bs_of {P : Program} {t e es : Nat} (hT : STy P t e es) {n : Nat} (h0 : 0 < n * es) (h1 : n * es ≤ 4096) {w : World} {parts : List (Nat × Value)} {z : Value} (hz : ∀ w, (zeroValue e).run P w = .ok z w) {cs : Array Value}
    (hf : Instr.fill (fun i => some (i * es, es)) ((Array.range (n * es)).map (z.cells[· % z.cells.size]!)) parts = some cs) {K : Value → World → Prop}
    (h : K (.slice (some ⟨w.heap.size, 0, none⟩) n n) (w.alloc (.cells cs e))) : RunV P (Instr.buildSlice t n parts.toArray) w K := by
  refine .of (w' := w.alloc (.cells cs e)) ?_ h
  have hlim : ¬ (n * es > 2 ^ 24) := by omega
  have hne : ¬ (n * es = 0) := by omega
  simp only [Instr.buildSlice, Sem.run_bind, run_underlying hT.und, hT.size, Result.andThen_ok, hlim, if_false, hne, hz, Sem.run_pure, hf, newRow, newObj]
  simp [Sem.run]
end Go.Vk
end
