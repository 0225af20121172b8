/- What the proof leans on,part 8 of 15. -/
import Derived.Test.YtgnnlaeikcnhcaaGreatDoorQHeadsPlayG
set_option linter.unusedSimpArgs false
set_option linter.unusedVariables false
section
namespace Go.Vk
end Go.Vk
end
section
namespace Go.Vk
open Go Go.RowKit Go.WideShapes Go.ChangeShapes
theorem attrCells_at {l : List (ByteArray × ByteArray)} {q : Nat} (hq : q < l.length * 2) : ∃ x,l[q / 2]? = some x ∧ (attrCells l)[q]? = some (.string (if q % 2 = 0 then x.1 else x.2)) := by
  have h : q / 2 < l.length := by omega
  refine ⟨l[q / 2],List.getElem?_eq_getElem h,?_⟩
  obtain ⟨g1,g2⟩ := attrCells_get0 (List.getElem?_eq_getElem h)
  by_cases e : q % 2 = 0
  · have e0 : q = q / 2 * 2 := by omega
    rw [if_pos e]
    rw [← e0] at g1; exact g1
  · have e0 : q = q / 2 * 2 + 1 := by omega
    rw [if_neg e]
    rw [← e0] at g2; exact g2
end Go.Vk
namespace Go.Proofs.YtgnnlaeikcnhcaaGreatDoor
open Go Go.Vk Go.RowKit Go.WideShapes Go.ChangeShapes
theorem cells3 : Tryz.prog.cellsOf 3 = 1 := by kernel_rfl
theorem cells4 : Tryz.prog.cellsOf 4 = 1 := by kernel_rfl
theorem cells9' : Tryz.prog.cellsOf 9 = 1 := by kernel_rfl
theorem cells27 : Tryz.prog.cellsOf 35 = 1 := by kernel_rfl
theorem cells94 : Tryz.prog.cellsOf 34 = 2 := by kernel_rfl
section
variable {H : Type} {enc : TypeId × Value → H} {W : World} {base : Nat} {sp : Nat → Bool} {hd : Bool}
theorem rd_attrs {fuel : Nat} {v : Value} {x : DataW H × List MemPlace} (h : DataW.trod enc Tryz.prog W base sp hd fuel 35 [v] = some x) : ∃ l : List (ByteArray × ByteArray),RdAt W 2 v (attrCells l) := by
  rcases Deep.open_slice_pairs Tryz.underlying35 Tryz.underlying34 cells94 rfl rfl cells9' cells9' h with ⟨h1,_⟩ | ⟨a,len,cap,m,n,V0,V1,D0,D1,P0,P1,h1,h2,h3,h4,h5,h6,h7⟩
  · cases h1
    exact ⟨[],none,0,0,rfl,Nat.le_refl _,rfl,fun i u hu => by simp [attrCells] at hu⟩
  · simp only [List.cons.injEq, and_true] at h1
    subst h1
    have hlm : len ≤ m := by rw [h5]; split <;> omega
    have each : ∀ i,i < m → ∃ q : ByteArray × ByteArray,V0 i = .string q.1 ∧ V1 i = .string q.2 := fun i hi => by
      obtain ⟨_,_,t0,t1⟩ := h7 i hi
      obtain ⟨s0,e0,_⟩ := DataW.trod_string Tryz.underlying9 t0
      obtain ⟨s1,e1,_⟩ := DataW.trod_string Tryz.underlying9 t1
      simp only [List.cons.injEq,and_true] at e0 e1
      exact ⟨(s0,s1),e0,e1⟩
    obtain ⟨q,hq⟩ := Deep.choose_lt each
    refine ⟨(List.range len).map q,rd_of h3 (by rw [attrCells_length]; simp) fun i hi => ?_⟩
    rw [attrCells_length,List.length_map,List.length_range] at hi
    obtain ⟨x,hx1,hx2⟩ := attrCells_at (l := (List.range len).map q) (q := i) (by simpa using hi)
    have hi2 : i / 2 < len := by omega
    have ex : x = q (i / 2) := by
      rw [List.getElem?_map,List.getElem?_range hi2] at hx1
      exact (Option.some.inj hx1).symm
    rw [hx2,ex]
    obtain ⟨g0,g1,_,_⟩ := h7 (i / 2) (by omega)
    obtain ⟨k0,k1⟩ := hq (i / 2) (by omega)
    by_cases e : i % 2 = 0
    · rw [if_pos e,← k0,← g0]; congr 2; omega
    · rw [if_neg e,← k1,← g1]; congr 2; omega
theorem spot_none {w : World} {a : Addr} {v : Value} (h : w.cell? a = some v) : ∃ b o,a = ⟨b,o,none⟩ := by
  obtain ⟨b,o,s⟩ := a
  cases s with
  | none => exact ⟨b,o,rfl⟩
  | some x =>
    exfalso
    unfold World.cell? at h
    simp only at h
    cases hb : w.heap[b]? with
    | none => rw [hb] at h; cases h
    | some o => rw [hb] at h; cases o <;> simp at h
end
end Go.Proofs.YtgnnlaeikcnhcaaGreatDoor
end
section
namespace Go.Vk
open Go
def bigA (a : ByteArray × ByteArray) : Bool := decide (300 < a.1.size) || decide (300 < a.2.size)
def largeT (t : HTok) : Bool := decide (300 < t.name.size) || (decide (300 < t.text.size) || (decide (10 < t.attrs.length) || t.attrs.any bigA))
theorem att_len {w : World} {v : Value} {l : List (ByteArray × ByteArray)} (h : RdAt w 2 v (attrCells l)) : ∃ a c,v = .slice a l.length c ∧ l.length ≤ c ∧
    ∀ (k : Nat) (x : ByteArray × ByteArray),l[k]? = some x → ∃ b o,a = some ⟨b,o,none⟩ ∧ w.cell? ⟨b,o + k * 2,none⟩ = some (.string x.1) ∧ w.cell? ⟨b,o + k * 2 + 1,none⟩ = some (.string x.2) := by
  obtain ⟨a,n,c,rfl,h1,h2,h3⟩ := h
  have hl : (attrCells l).length = l.length * 2 := by
    have := attrCells_length l
    omega
  have hn : n = l.length := by omega
  subst hn
  refine ⟨a,c,rfl,h1,fun k x hx => ?_⟩
  have hk := (List.getElem?_eq_some_iff.1 hx).1
  obtain ⟨y,hy,e0⟩ := attrCells_at (l := l) (q := k * 2) (by omega)
  obtain ⟨z,hz,e1⟩ := attrCells_at (l := l) (q := k * 2 + 1) (by omega)
  have q0 : k * 2 / 2 = k := by omega
  have q1 : (k * 2 + 1) / 2 = k := by omega
  rw [q0,hx] at hy
  rw [q1,hx] at hz
  cases hy; cases hz
  rw [if_pos (by omega)] at e0
  rw [if_neg (by omega)] at e1
  obtain ⟨b,o,rfl,c0⟩ := h3 _ _ e0
  obtain ⟨b',o',e,c1⟩ := h3 _ _ e1
  cases e
  exact ⟨b,o,rfl,c0,by rw [Nat.add_assoc]; exact c1⟩
end Go.Vk
namespace Go.Proofs.YtgnnlaeikcnhcaaGreatDoor
open Go Go.Vk
set_option maxHeartbeats 40000000
theorem large_c {w : World} {t : HTok} {av : Value} (ha : RdAt w 2 av (attrCells t.attrs)) : Gives Tryz.prog 69 #[.agg (t.row av)] w fun v w' => v = .bool (largeT t) ∧ Ext w w' := by
  obtain ⟨xa,xc,rfl,hxc,hcell⟩ := att_len ha
  have hrow : t.row (.slice xa t.attrs.length xc) = #[.int .i64 t.kind,.string t.name,.string t.text,.slice xa t.attrs.length xc,.bool t.dup,.bool t.self,.bool t.quirks,.int .i64 t.frm,.int .i64 t.to] := rfl
  have hx := Ext.alloc w (.cells (t.row (.slice xa t.attrs.length xc)) 37)
  have hp : (w.alloc (.cells (t.row (.slice xa t.attrs.length xc)) 37)).heap[w.heap.size]? = some (.cells (t.row (.slice xa t.attrs.length xc)) 37 (0,0)) := by rw [heap_alloc_h,if_pos rfl]
  obtain ⟨r,hr⟩ : ∃ r,r = largeT t := ⟨_,rfl⟩
  rw [← hr]
  unfold largeT at hr
  refine Gives.of_W Tryz.call69 Tryz.func69 rfl Tryz.ntmps69 (by simp) ?_; intro Z hZ
  (repeat revert hK K);refine W1 @vcells_agg ?_;repeat with_reducible intro K hK
  generalize w.alloc (.cells (t.row (.slice xa t.attrs.length xc)) 37) = w1 at *
  obtain ⟨p,hpe⟩ : ∃ p,p = w.heap.size := ⟨_,rfl⟩
  rw [← hpe] at hp ⊢
  rw [hrow] at hp
  by_cases h1 : 300 < t.name.size
  · have d1 : (300 : Int) < (t.name.size : Int) := by omega
    rw [decide_eq_true h1,Bool.true_or] at hr
    (repeat revert hK K);refine Wc2 @hp @d1 ?_;repeat with_reducible intro K hK
    exact ⟨by rw [hr],hx⟩
  have d1 : ¬ (300 : Int) < (t.name.size : Int) := by omega
  rw [decide_eq_false h1,Bool.false_or] at hr
  by_cases h2 : 300 < t.text.size
  · have d2 : (300 : Int) < (t.text.size : Int) := by omega
    rw [decide_eq_true h2,Bool.true_or] at hr
    (repeat revert hK K);refine Wc3 @hp @d1 @d2 ?_;repeat with_reducible intro K hK
    exact ⟨by rw [hr],hx⟩
  have d2 : ¬ (300 : Int) < (t.text.size : Int) := by omega
  rw [decide_eq_false h2,Bool.false_or] at hr
  by_cases h3 : 10 < t.attrs.length
  · have d3 : (10 : Int) < (t.attrs.length : Int) := by omega
    rw [decide_eq_true h3,Bool.true_or] at hr
    (repeat revert hK K);refine Wc4 @hp @d1 @d2 @d3 ?_;repeat with_reducible intro K hK
    exact ⟨by rw [hr],hx⟩
  have d3 : ¬ (10 : Int) < (t.attrs.length : Int) := by omega
  rw [decide_eq_false h3,Bool.false_or] at hr
  (repeat revert hK K);refine Wc4 @hp @d1 @d2 @d3 ?_;repeat with_reducible intro K hK
  refine W_loop (S := Nat) (fun k => [(1, .pointer (some ⟨p, 0, none⟩)), (3, .int .i64 (k : Int))])
    (fun k w2 => k ≤ t.attrs.length ∧ r = (t.attrs.drop k).any bigA ∧ w2 = w1) (fun k => t.attrs.length - k) 0 ?_ ?_ ?_
  · (repeat simp only [push_cast,seval,-Nat.reduceSubDiff])
  · exact ⟨by omega,hr,rfl⟩
  rintro k w2 ⟨hk,he,hw2⟩
  subst w2
  by_cases hkl : k < t.attrs.length
  · obtain ⟨x, hxk⟩ : ∃ x, t.attrs[k]? = some x := ⟨_, List.getElem?_eq_getElem hkl⟩
    obtain ⟨b,o,rfl,c0,c1⟩ := hcell k x hxk
    have c0 := cell_ext hx c0
    have c1 := cell_ext hx c1
    rw [cell_h] at c0 c1
    have hdr : t.attrs.drop k = x :: t.attrs.drop (k + 1) := by
      rw [List.drop_eq_getElem_cons hkl]
      congr 1
      have := List.getElem?_eq_getElem hkl
      rw [hxk] at this
      exact (Option.some.inj this).symm
    rw [hdr,List.any_cons] at he
    have b0 : (k : Int) < (t.attrs.length : Int) := by omega
    have b1 : (0 : Int) ≤ (k : Int) := by omega
    have b2 : inI64 ((k : Int) + 1) := by unfold inI64; omega
    by_cases g1 : 300 < x.1.size
    · have e1 : (300 : Int) < (x.1.size : Int) := by omega
      have : bigA x = true := by unfold bigA; rw [decide_eq_true g1]; rfl
      rw [this,Bool.true_or] at he
      (repeat revert hK K);refine Wc6 @b0 @b1 @hp @c0 @c1 @e1 ?_;repeat with_reducible intro K hK
      exact ⟨by rw [he],hx⟩
    have e1 : ¬ (300 : Int) < (x.1.size : Int) := by omega
    by_cases g2 : 300 < x.2.size
    · have e2 : (300 : Int) < (x.2.size : Int) := by omega
      have : bigA x = true := by unfold bigA; rw [decide_eq_true g2,Bool.or_true]
      rw [this,Bool.true_or] at he
      (repeat revert hK K);refine Wc7 @b0 @b1 @hp @c0 @c1 @e1 @e2 ?_;repeat with_reducible intro K hK
      exact ⟨by rw [he],hx⟩
    have e2 : ¬ (300 : Int) < (x.2.size : Int) := by omega
    have : bigA x = false := by unfold bigA; rw [decide_eq_false g1,decide_eq_false g2]; rfl
    rw [this,Bool.false_or] at he
    (repeat revert hK K);refine Wc8 @b0 @b1 @hp @c0 @c1 @e1 @e2 @b2 ?_;repeat with_reducible intro K hK
    refine ⟨k + 1,by omega,?_⟩
    (repeat simp only [push_cast,seval,-Nat.reduceSubDiff])
    exact ⟨by omega,he⟩
  · have hke : k = t.attrs.length := by omega
    subst hke
    have b0 : ¬ (t.attrs.length : Int) < (t.attrs.length : Int) := by omega
    rw [List.drop_length,List.any_nil] at he
    (repeat revert hK K);refine Wc2 @b0 @hp ?_;repeat with_reducible intro K hK
    exact ⟨by rw [he],hx⟩
end Go.Proofs.YtgnnlaeikcnhcaaGreatDoor
end
section
namespace Go.Proofs.YtgnnlaeikcnhcaaGreatDoor
open Go Go.Vk
set_option maxHeartbeats 40000000
section
variable {w : World} {t : HTok} {xa : Option Addr} {xn xc : Nat}
theorem hstart_c {nv : Value} {l : List ByteArray} (hn : RdAt w 1 nv (strCells l)) (hl : l.length < 1000000000) : Gives Tryz.prog 125 #[.agg (t.row (.slice xa xn xc)),nv] w fun v w' => v = .bool (startT t l) ∧ Ext w w' := by
  have hrow : t.row (.slice xa xn xc) = #[.int .i64 t.kind,.string t.name,.string t.text,.slice xa xn xc,.bool t.dup,.bool t.self,.bool t.quirks,.int .i64 t.frm,.int .i64 t.to] := rfl
  have hx := Ext.alloc w (.cells (t.row (.slice xa xn xc)) 37)
  have hp : (w.alloc (.cells (t.row (.slice xa xn xc)) 37)).heap[w.heap.size]? = some (.cells (t.row (.slice xa xn xc)) 37 (0,0)) := by rw [heap_alloc_h,if_pos rfl]
  obtain ⟨r,hr⟩ : ∃ r,r = startT t l := ⟨_,rfl⟩
  rw [← hr]
  unfold startT at hr
  refine Gives.of_W Tryz.call125 Tryz.func125 rfl Tryz.ntmps125 (by simp) ?_; intro Z hZ
  (repeat revert hK K);refine W1 @vcells_agg ?_;repeat with_reducible intro K hK
  generalize w.alloc (.cells (t.row (.slice xa xn xc)) 37) = w1 at *
  obtain ⟨p,hpe⟩ : ∃ p,p = w.heap.size := ⟨_,rfl⟩
  rw [← hpe] at hp ⊢
  rw [hrow] at hp
  by_cases hk : t.kind = 2
  · rw [decide_eq_true hk, Bool.true_and] at hr
    (repeat revert hK K);refine Wd2 @hp @hk ?_;repeat with_reducible intro K hK
    refine (sconts_c (hn.ext hx) hl t.name).mono ?_
    intro v w' ⟨hv,hw⟩
    subst hv; subst w'
    (repeat revert hK K);refine W0 ?_;repeat with_reducible intro K hK
    exact ⟨by rw [hr],hx⟩
  · rw [decide_eq_false hk, Bool.false_and] at hr
    (repeat revert hK K);refine Wc2 @hp @hk ?_;repeat with_reducible intro K hK
    exact ⟨by rw [hr],hx⟩
theorem hend_c {nv : Value} {l : List ByteArray} (hn : RdAt w 1 nv (strCells l)) (hl : l.length < 1000000000) : Gives Tryz.prog 128 #[.agg (t.row (.slice xa xn xc)),nv] w fun v w' => v = .bool (endT t l) ∧ Ext w w' := by
  have hrow : t.row (.slice xa xn xc) = #[.int .i64 t.kind,.string t.name,.string t.text,.slice xa xn xc,.bool t.dup,.bool t.self,.bool t.quirks,.int .i64 t.frm,.int .i64 t.to] := rfl
  have hx := Ext.alloc w (.cells (t.row (.slice xa xn xc)) 37)
  have hp : (w.alloc (.cells (t.row (.slice xa xn xc)) 37)).heap[w.heap.size]? = some (.cells (t.row (.slice xa xn xc)) 37 (0,0)) := by rw [heap_alloc_h,if_pos rfl]
  obtain ⟨r,hr⟩ : ∃ r,r = endT t l := ⟨_,rfl⟩
  rw [← hr]
  unfold endT at hr
  refine Gives.of_W Tryz.call128 Tryz.func128 rfl Tryz.ntmps128 (by simp) ?_; intro Z hZ
  (repeat revert hK K);refine W1 @vcells_agg ?_;repeat with_reducible intro K hK
  generalize w.alloc (.cells (t.row (.slice xa xn xc)) 37) = w1 at *
  obtain ⟨p,hpe⟩ : ∃ p,p = w.heap.size := ⟨_,rfl⟩
  rw [← hpe] at hp ⊢
  rw [hrow] at hp
  by_cases hk : t.kind = 3
  · rw [decide_eq_true hk, Bool.true_and] at hr
    (repeat revert hK K);refine Wd2 @hp @hk ?_;repeat with_reducible intro K hK
    refine (sconts_c (hn.ext hx) hl t.name).mono ?_
    intro v w' ⟨hv,hw⟩
    subst hv; subst w'
    (repeat revert hK K);refine W0 ?_;repeat with_reducible intro K hK
    exact ⟨by rw [hr],hx⟩
  · rw [decide_eq_false hk, Bool.false_and] at hr
    (repeat revert hK K);refine Wc2 @hp @hk ?_;repeat with_reducible intro K hK
    exact ⟨by rw [hr],hx⟩
theorem hstrange_c : Gives Tryz.prog 127 #[.agg (t.row (.slice xa xn xc))] w fun v w' => v = .bool (strT t) ∧ Ext w w' := by
  have hrow : t.row (.slice xa xn xc) = #[.int .i64 t.kind,.string t.name,.string t.text,.slice xa xn xc,.bool t.dup,.bool t.self,.bool t.quirks,.int .i64 t.frm,.int .i64 t.to] := rfl
  have hx := Ext.alloc w (.cells (t.row (.slice xa xn xc)) 37)
  have hp : (w.alloc (.cells (t.row (.slice xa xn xc)) 37)).heap[w.heap.size]? = some (.cells (t.row (.slice xa xn xc)) 37 (0,0)) := by rw [heap_alloc_h,if_pos rfl]
  obtain ⟨r,hr⟩ : ∃ r,r = strT t := ⟨_,rfl⟩
  rw [← hr]
  unfold strT at hr
  refine Gives.of_W Tryz.call127 Tryz.func127 rfl Tryz.ntmps127 (by simp) ?_; intro Z hZ
  (repeat revert hK K);refine W1 @vcells_agg ?_;repeat with_reducible intro K hK
  generalize w.alloc (.cells (t.row (.slice xa xn xc)) 37) = w1 at *
  obtain ⟨p,hpe⟩ : ∃ p,p = w.heap.size := ⟨_,rfl⟩
  rw [← hpe] at hp ⊢
  rw [hrow] at hp
  by_cases hk : t.kind = 3
  · rw [decide_eq_true hk, Bool.true_and] at hr
    (repeat revert hK K);refine Wd2 @hp @hk ?_;repeat with_reducible intro K hK
    refine bsl (l := lStr) rfl (by decide) (by decide) (by kernel_rfl) ?_
    rintro v w2 hx2 hn2 ⟨bn,rfl⟩
    have hp2 := hx2.blk hp
    (repeat revert hK K);refine Wc1 @hp2 ?_;repeat with_reducible intro K hK
    refine (sconts_c hn2 (by decide) t.name).mono ?_
    intro v w' ⟨hv,hw⟩
    subst hv; subst w'
    (repeat revert hK K);refine W0 ?_;repeat with_reducible intro K hK
    exact ⟨by rw [hr],hx.trans hx2⟩
  · rw [decide_eq_false hk, Bool.false_and] at hr
    (repeat revert hK K);refine Wc2 @hp @hk ?_;repeat with_reducible intro K hK
    exact ⟨by rw [hr],hx⟩
theorem hbelongs_c : Gives Tryz.prog 89 #[.agg (t.row (.slice xa xn xc))] w fun v w' => v = .bool (belT t) ∧ Ext w w' := by
  have hrow : t.row (.slice xa xn xc) = #[.int .i64 t.kind,.string t.name,.string t.text,.slice xa xn xc,.bool t.dup,.bool t.self,.bool t.quirks,.int .i64 t.frm,.int .i64 t.to] := rfl
  have hx := Ext.alloc w (.cells (t.row (.slice xa xn xc)) 37)
  have hp : (w.alloc (.cells (t.row (.slice xa xn xc)) 37)).heap[w.heap.size]? = some (.cells (t.row (.slice xa xn xc)) 37 (0,0)) := by rw [heap_alloc_h,if_pos rfl]
  obtain ⟨r,hr⟩ : ∃ r,r = belT t := ⟨_,rfl⟩
  rw [← hr]
  unfold belT at hr
  refine Gives.of_W Tryz.call89 Tryz.func89 rfl Tryz.ntmps89 (by simp) ?_; intro Z hZ
  (repeat revert hK K);refine W1 @vcells_agg ?_;repeat with_reducible intro K hK
  generalize w.alloc (.cells (t.row (.slice xa xn xc)) 37) = w1 at *
  obtain ⟨p,hpe⟩ : ∃ p,p = w.heap.size := ⟨_,rfl⟩
  rw [← hpe] at hp ⊢
  rw [hrow] at hp
  (repeat revert hK K);refine Wc1 @hp ?_;repeat with_reducible intro K hK
  refine bsl (l := lBel) rfl (by decide) (by decide) (by kernel_rfl) ?_
  rintro v w2 hx2 hn2 ⟨bn,rfl⟩
  have hp2 := hx2.blk hp
  (repeat revert hK K);refine W0 ?_;repeat with_reducible intro K hK
  rw [← hrow]
  refine (hstart_c hn2 (by decide)).mono ?_
  rintro v w3 ⟨rfl,hx3⟩
  have hp3 := hx3.blk hp2
  cases hst : startT t lBel with
  | true =>
    rw [hst,Bool.true_or] at hr
    (repeat revert hK K);refine W0 ?_;repeat with_reducible intro K hK
    exact ⟨by rw [hr],(hx.trans hx2).trans hx3⟩
  | false =>
    (repeat revert hK K);refine Wc1 @hp3 ?_;repeat with_reducible intro K hK
    refine bsl (l := lTem) rfl (by decide) (by decide) (by kernel_rfl) ?_
    rintro v w4 hx4 hn4 ⟨bn4,rfl⟩
    (repeat revert hK K);refine W0 ?_;repeat with_reducible intro K hK
    rw [← hrow]
    refine (hend_c hn4 (by decide)).mono ?_
    rintro v w5 ⟨rfl,hx5⟩
    rw [hst,Bool.false_or] at hr
    (repeat revert hK K);refine W0 ?_;repeat with_reducible intro K hK
    exact ⟨by rw [hr],(((hx.trans hx2).trans hx3).trans hx4).trans hx5⟩
end
section
variable {w0 w : World} {Q : Nat → Prop} {pb ps pl pa : Nat} {b : BSt}
theorem bcomment_c (h : BuAt w0 w Q pb ps pl pa b) (hb : okB b) (hL : b.L.length + 2 < 90000) (hQl : ∀ q,Q q → q < w.heap.size) (t : HTok) {xa : Option Addr} {xn xc : Nat} (into : Int) :
    Gives Tryz.prog 75 #[.pointer (some ⟨pb,0,none⟩),.agg (t.row (.slice xa xn xc)),.int .i64 into] w fun _ w' => BuAt w0 w' Q pb ps pl pa (commB b t.text into) ∧ Upd (AF w0 Q) w w' := by
  have hrow : t.row (.slice xa xn xc) = #[.int .i64 t.kind,.string t.name,.string t.text,.slice xa xn xc,.bool t.dup,.bool t.self,.bool t.quirks,.int .i64 t.frm,.int .i64 t.to] := rfl
  have hx := Ext.alloc w (.cells (t.row (.slice xa xn xc)) 37)
  have hp : (w.alloc (.cells (t.row (.slice xa xn xc)) 37)).heap[w.heap.size]? = some (.cells (t.row (.slice xa xn xc)) 37 (0,0)) := by rw [heap_alloc_h,if_pos rfl]
  obtain ⟨r,hr⟩ : ∃ r,r = commB b t.text into := ⟨_,rfl⟩
  rw [← hr]
  unfold commB at hr
  refine Gives.of_W Tryz.call75 Tryz.func75 rfl Tryz.ntmps75 (by simp) ?_; intro Z hZ
  (repeat revert hK K);refine W1 @vcells_agg ?_;repeat with_reducible intro K hK
  generalize w.alloc (.cells (t.row (.slice xa xn xc)) 37) = w1 at *
  obtain ⟨p,hpe⟩ : ∃ p,p = w.heap.size := ⟨_,rfl⟩
  rw [← hpe] at hp ⊢
  rw [hrow] at hp
  have h1 := h.pass hx
  have hsz := hx.sz
  have lp := blk_lt hp
  have hval : (Laid.mk (comTok t.text) (.slice none 0 0) (.slice none 0 0) none none).val = .agg #[.int .i64 5,.string ⟨#[]⟩,.string t.text,.int .i64 0,.slice none 0 0,.bool false,.int .i64 0,.int .i64 0,.slice none 0 0,.int .i64 (-1),.int .i64 (-1)] := by rw [Laid.val_eq]; rfl
  refine (bnone_c h1).mono ?_
  intro v w' ⟨hv,hw⟩
  subst hv; subst w'
  obtain ⟨ma,mn,mc,av',_,_,hh⟩ := h1.hd
  (repeat revert hK K);refine W0 ?_;repeat with_reducible intro K hK
  refine W_drawN (.pas 0 (.pas 1 (.pas 2 (.pas 3 (.pas 4 (.pas 5 (.pas 6 (.act 7 (.pas 8 .fin))))))))) (fun q => q = pb ∨ q = p) 9 rfl (by decide) mixed (by kernel_rfl) ?_
  have hxd := Ext.drew w1
  generalize w1.drew = wd at *
  have hpd := hxd.blk hp
  have hhd := hxd.blk hh
  have hsd := hxd.sz
  have l1 : pb < w1.heap.size := blk_lt hh
  have hd : BuAt w0 wd (fun q => Q q ∨ q = p) pb ps pl pa b := h.more (hx.trans hxd) fun q hq => by
    rcases hq with hq | hq
    · exact .inl hq
    · exact .inr ⟨by omega,by omega⟩
  refine Dd4 @true_or @or_true @hpd @hhd ?_
  refine build_struct Tryz.zeroValue46 un30 pl30 (cs := #[.int .i64 5,.string ⟨#[]⟩,.string t.text,.int .i64 0,.slice none 0 0,.bool false,.int .i64 0,.int .i64 0,.slice none 0 0,.int .i64 (-1),.int .i64 (-1)]) (by rfl) ?_
  refine Dd4 @true_or @or_true @hpd @hhd ?_
  rw [← hval]
  obtain ⟨P,⟨kb,kq⟩,hA,hback⟩ := hd.arK
  have hLb := hb.L
  refine (add_a hA (by omega) (m := Laid.mk (comTok t.text) (.slice none 0 0) (.slice none 0 0) none none) (SlAt.nil _ _).rd (show (0 : Nat) < 1000000 by decide)).mono ?_
  rintro v w3 ⟨rfl,g1,g2⟩
  obtain ⟨h3',hu3'⟩ := hback _ _ g1 g2
  have h3 : BuAt w0 w3 Q pb ps pl pa (addB b (comTok t.text)) := h3'.less fun q hq => .inl hq
  have hu3 : Upd (AF w0 Q) wd w3 := hu3'.mono fun q _ hf => ⟨hf.1,fun hq => hf.2 (.inl hq)⟩
  refine ⟨kept_upd g2 fun q hq => ⟨by rcases hq with hq | hq <;> omega,fun hf => ?_⟩,?_⟩
  · rcases hq with hq | hq
    · exact hf.2 (hq ▸ kb)
    · exact hf.2 (hq ▸ kq p (.inr rfl))
  have hb3 : okB (addB b (comTok t.text)) := hb.add hL (show (0 : Nat) < 1000000 by decide)
  have hu03 := Upd.trans (hx.trans hxd).upd hu3 fun _ _ h => h
  obtain ⟨ma3,mn3,mc3,av3,_,_,hh3⟩ := h3.hd
  refine De0 ?_
  by_cases hi : into < 0
  · rw [if_pos hi] at hr
    (repeat revert hK K);refine W1 @hi ?_;repeat with_reducible intro K hK
    refine (btarg_c h3 hb3).mono ?_
    intro v w' ⟨hv,hw⟩
    subst hv; subst w'
    (repeat revert hK K);refine W0 ?_;repeat with_reducible intro K hK
    refine (bput_c h3 hb3 _ _).mono ?_
    rintro v w4 ⟨h4,hu4⟩
    (repeat revert hK K);refine W0 ?_;repeat with_reducible intro K hK
    rw [hr]
    exact ⟨h4,Upd.trans hu03 hu4 fun _ _ h => h⟩
  · rw [if_neg hi] at hr
    (repeat revert hK K);refine Wc2 @hi @hh3 ?_;repeat with_reducible intro K hK
    refine (bappend_c h3 hb3 _ _).mono ?_
    rintro v w4 ⟨rfl,h4,hu4⟩
    (repeat revert hK K);refine W0 ?_;repeat with_reducible intro K hK
    rw [hr]
    exact ⟨h4,Upd.trans hu03 hu4 fun _ _ h => h⟩
end
end Go.Proofs.YtgnnlaeikcnhcaaGreatDoor
end
section
namespace Go.Vk
open Go Go.Proofs.YtgnnlaeikcnhcaaGreatDoor
end Go.Vk
end
section
namespace Go.Vk
open Go Go.Proofs.YtgnnlaeikcnhcaaGreatDoor
theorem lastB_none {p : Nat → Bool} : ∀ {k : Nat}, (∀ j, j < k → p j = false) → lastB p k = -1
  | 0,_ => rfl
  | k + 1,h => by
    rw [lastB,h k (by omega),if_neg (by decide)]
    exact lastB_none fun j hj => h j (by omega)
theorem lastB_ge {p : Nat → Bool} : ∀ {k j : Nat}, j < k → p j = true → (j : Int) ≤ lastB p k
  | 0,j,h,_ => by omega
  | k + 1,j,h,hp => by
    rw [lastB]
    split
    · omega
    · rename_i hk
      have : j ≠ k := fun e => by subst e; exact hk hp
      exact lastB_ge (by omega) hp
end Go.Vk
end
section
namespace Go.Vk
open Go Go.Proofs.YtgnnlaeikcnhcaaGreatDoor
theorem indexS_ge {s : List OpS} {k : Nat} {i : Int} (hk : k < s.length) (h : (s.getD k zS).node = i) : (k : Int) ≤ indexS s i := by
  unfold indexS
  exact lastB_ge hk (decide_eq_true h)
end Go.Vk
end
section
namespace Go.Vk
open Go Go.Proofs.YtgnnlaeikcnhcaaGreatDoor
end Go.Vk
end
section
namespace Go.Vk
open Go Go.Proofs.YtgnnlaeikcnhcaaGreatDoor
theorem insS_le {L : List Nd} {s : List OpS} {k i : Int} : (insS L s k i).1.length ≤ s.length + 1 := by
  unfold insS
  split
  · split
    · split
      · exact Nat.le_succ _
      · simp; omega
    · exact Nat.le_succ _
  · exact Nat.le_succ _
theorem remS_le (s : List OpS) (i : Int) : (remS s i).1.length ≤ s.length := by
  unfold remS
  split
  · exact Nat.le_refl _
  · dsimp only; rw [List.length_eraseIdx]; split <;> omega
end Go.Vk
end
section
namespace Go.Vk
open Go Go.Proofs.YtgnnlaeikcnhcaaGreatDoor
def AllN (P : Nd → Prop) (L : List Nd) : Prop := ∀ n ∈ L,P n
def Stay (P : Nd → Prop) : Prop := ∀ (n : Nd) (p : Int) (ks : List Int),P n → P { n with parent := p,kids := ks }
section
variable {P : Nd → Prop}
theorem all_modify {L : List Nd} {f : Nd → Nd} (hf : ∀ n,P n → P (f n)) (h : AllN P L) (k : Nat) : AllN P (L.modify k f) := by
  intro n hn
  obtain ⟨j,hj⟩ := List.mem_iff_getElem?.1 hn
  rw [List.getElem?_modify] at hj
  cases hl : L[j]? with
  | none => rw [hl] at hj; simp at hj
  | some x =>
    have hx := h x (List.mem_of_getElem? hl)
    have e : n = if k = j then f x else x := by
      rw [hl] at hj
      exact (Option.some.inj hj).symm
    rw [e]
    split
    · exact hf _ hx
    · exact hx
theorem st_par (hP : Stay P) (p : Int) (n : Nd) (h : P n) : P (setPar p n) := hP n p n.kids h
theorem st_unkid (hP : Stay P) (x : Int) (n : Nd) (h : P n) : P (unkid x n) := hP n n.parent _ h
theorem st_add (hP : Stay P) (r x : Int) (n : Nd) (h : P n) : P (addKid r x n) := hP n n.parent _ h
theorem all_free (hP : Stay P) {L : List Nd} (h : AllN P L) (i : Nat) : AllN P (freeN L i) := by
  unfold freeN
  split
  · exact h
  · split
    · exact h
    · exact all_modify (st_par hP _) (all_modify (st_unkid hP _) h _) _
theorem all_hang (hP : Stay P) {L : List Nd} (h : AllN P L) (p : Nat) (r : Int) (i : Nat) : AllN P (hangN L p r i) := all_modify (st_par hP _) (all_modify (st_add hP _ _) (all_free hP h _) _) _
theorem all_append (hP : Stay P) {L : List Nd} (h : AllN P L) (p i : Int) : AllN P (appendN L p i).1 := by
  unfold appendN; split
  · exact all_hang hP h _ _ _
  · exact h
theorem all_before (hP : Stay P) {L : List Nd} (h : AllN P L) (p i : Int) : AllN P (beforeN L p i).1 := by
  unfold beforeN; split
  · exact all_hang hP h _ _ _
  · exact h
theorem all_push {L : List Nd} (h : AllN P L) {n : Nd} (hn : P n) : AllN P (L ++ [n]) := by
  intro x hx
  simp only [List.mem_append,List.mem_cons,List.not_mem_nil,or_false] at hx
  rcases hx with hx | rfl
  · exact h x hx
  · exact hn
theorem all_add {L : List Nd} (h : AllN P L) {n : Nd} (hn : P (bareN n)) (hc : P { bareN n with content := (L.length : Int) + 1 }) (h0 : P contN) : AllN P (addN L n).1 := by
  unfold addN
  split
  · split
    · intro x hx
      simp only [List.mem_append,List.mem_cons,List.not_mem_nil,or_false] at hx
      rcases hx with hx | rfl | rfl
      · exact h x hx
      · exact hc
      · exact h0
    · exact all_push h hn
  · exact h
theorem all_put (hP : Stay P) {b : BSt} (h : AllN P b.L) (i t : Int) : AllN P (putB b i t).L := by
  unfold putB; split
  · exact all_before hP h _ _
  · exact all_append hP h _ _
theorem all_node {L : List Nd} (h : AllN P L) (h0 : P zN) (i : Int) : P (nodeN L i) := by
  unfold nodeN
  cases hx : nd? L i with
  | none => exact h0
  | some x =>
    obtain ⟨k,_,hk,_⟩ := nd?_some hx
    exact h x (List.mem_of_getElem? hk)
end
def Sml (n : Nd) : Prop := n.name.size < 4294967281 ∧ n.text.size < 1000000000 ∧ n.attrs.length < 1000000
theorem sml_stay : Stay Sml := fun _ _ _ h => h
theorem sml_zN : Sml zN := ⟨by decide,by decide,by decide⟩
structure HdO (m : Nat) (b : BSt) : Prop where
  L : b.L.length + m < 90000
  s : b.s.length + m < 10000
  l : b.l.length + m < 10000
  md : b.modes.length + m < 99000
  nd : AllN Sml b.L
  sn : ∀ o ∈ b.s,o.name.size < 4294967281
section
variable {b : BSt} {m m' : Nat}
theorem HdO.ok (h : HdO m b) : okB b := ⟨by have := h.L; omega,fun n hn => (h.nd n hn).2.2,by have := h.s; omega,by have := h.l; omega⟩
theorem HdO.nms (h : HdO m b) : Nms b.L := fun n hn => (h.nd n hn).1
theorem HdO.txt (h : HdO m b) : ∀ n ∈ b.L,n.text.size < 1000000000 := fun n hn => (h.nd n hn).2.1
theorem HdO.mono (h : HdO m b) (hm : m' ≤ m) : HdO m' b := ⟨by have := h.L; omega,by have := h.s; omega,by have := h.l; omega,by have := h.md; omega,h.nd,h.sn⟩
theorem HdO.fail (h : HdO m b) (e : Int) : HdO m (failB b e) := by
  unfold failB; split
  · exact ⟨h.L,h.s,h.l,h.md,h.nd,h.sn⟩
  · exact h
theorem opN_name {L : List Nd} (h : AllN Sml L) (i : Int) : (opN L i).name.size < 4294967281 := (all_node h sml_zN i).1
theorem HdO.push (h : HdO (m + 1) b) (i : Int) : HdO m (pushB b i).1 := by
  have hle := insS_le (L := b.L) (s := b.s) (k := b.s.length) (i := i)
  have := h.s
  refine ⟨by have := h.L; show b.L.length + m < _; omega,by show (insS b.L b.s b.s.length i).1.length + m < _; omega,by have := h.l; show b.l.length + m < _; omega,by have := h.md; show b.modes.length + m < _; omega,h.nd,?_⟩
  show ∀ o ∈ (insS b.L b.s b.s.length i).1,_
  unfold insS
  split
  · split
    · split
      · exact h.sn
      · intro o ho
        simp only [List.mem_append,List.mem_cons] at ho
        rcases ho with ho | rfl | ho
        · exact h.sn o (List.mem_of_mem_take ho)
        · exact opN_name h.nd i
        · exact h.sn o (List.mem_of_mem_drop ho)
    · exact h.sn
  · exact h.sn
theorem hung_f (b : BSt) (n : Nd) : (hungB b n).s = b.s ∧ (hungB b n).l = b.l ∧ (hungB b n).modes = b.modes ∧ (hungB b n).L.length ≤ b.L.length + 2 := by
  obtain ⟨h1,h2⟩ := putB_s (addB b n) (addN b.L n).2 (targB (addB b n))
  refine ⟨h1,h2,?_,?_⟩
  · unfold hungB putB; split <;> rfl
  · have := len_add b.L n
    unfold hungB putB
    split
    · show (beforeN _ _ _).1.length ≤ _; rw [len_before]; exact this
    · show (appendN _ _ _).1.length ≤ _; rw [len_append]; exact this
theorem HdO.ins (h : HdO (m + 3) b) {n : Nd} (hn : Sml n) : HdO m (insertB b n).1 := by
  unfold insertB
  split
  · exact (h.fail _).mono (by omega)
  · obtain ⟨e1, e2, e3, e4⟩ := hung_f b n
    have h1 := h.L; have h2 := h.s; have h3 := h.l; have h4 := h.md
    have hH : HdO (m + 1) (hungB b n) := by
      refine ⟨by omega,by rw [e1]; omega,by rw [e2]; omega,by rw [e3]; omega,?_,by rw [e1]; exact h.sn⟩
      exact all_put sml_stay (b := addB b n) (all_add h.nd ⟨hn.1,hn.2.1,hn.2.2⟩ ⟨hn.1,hn.2.1,hn.2.2⟩ ⟨by decide,by decide,by decide⟩) _ _
    exact (hH.push _).fail _
theorem HdO.str {s' : List OpS} {l' : List Int} (h : HdO m b) (hs : s'.length ≤ b.s.length) (hn : ∀ o ∈ s',o ∈ b.s) (hl : l'.length ≤ b.l.length) : HdO m { b with s := s',l := l' } :=
  ⟨h.L,by have := h.s; show s'.length + m < _; omega,by have := h.l; show l'.length + m < _; omega,h.md,h.nd,fun o ho => h.sn o (hn o ho)⟩
theorem HdO.set (h : HdO m b) {b' : BSt} (e : b'.L = b.L ∧ b'.s = b.s ∧ b'.l = b.l ∧ b'.modes = b.modes) : HdO m b' := by
  obtain ⟨e1,e2,e3,e4⟩ := e
  exact ⟨by rw [e1]; exact h.L,by rw [e2]; exact h.s,by rw [e3]; exact h.l,by rw [e4]; exact h.md,by rw [e1]; exact h.nd,by rw [e2]; exact h.sn⟩
end
end Go.Vk
end
section
namespace Go.Vk
open Go Go.Proofs.YtgnnlaeikcnhcaaGreatDoor
def SmT (t : HTok) : Prop := t.name.size < 4294967281 ∧ t.text.size < 1000000000 ∧ t.attrs.length < 1000000
theorem smT_el {t : HTok} (h : SmT t) (sp : Int) : Sml (elTok t sp) := ⟨h.1,by show (0 : Nat) < _; decide,h.2.2⟩
end Go.Vk
namespace Go.Proofs.YtgnnlaeikcnhcaaGreatDoor
open Go Go.Vk
set_option maxHeartbeats 40000000
theorem hstate_c {w : World} (x : ByteArray) : Gives Tryz.prog 173 #[.string x] w fun v w' => v = .int .i64 (stateN x) ∧ w' = w := by
  unfold stateN
  by_cases h1 : x = ⟨#[116,101,120,116,97,114,101,97]⟩
  · rw [if_pos (.inl h1)]
    refine Gives.of_W Tryz.call173 Tryz.func173 rfl Tryz.ntmps173 (by simp) ?_; intro Z hZ
    (repeat first|(with_reducible first|(refine hK _ _ ?_;clear hK K)|refine ‹∀σ w,_→K σ w› _ _ ?_|(refine W_st ?_;constructor;try intro K hK))|((with_reducible first|refine hZ _ _ ?_|refine W_rg ?_|skip);repeat1' simp only[push_cast,seval,-Nat.reduceSubDiff,h1,eq_self])|((repeat((fail_if_success with_reducible refine hK _ _ ?_);clear hK K));with_reducible refine hK _ _ ?_;clear hK K))
  by_cases h2 : x = ⟨#[116,105,116,108,101]⟩
  · rw [if_pos (.inr h2)]
    subst h2
    refine Gives.of_W Tryz.call173 Tryz.func173 rfl Tryz.ntmps173 (by simp) ?_; intro Z hZ
    (repeat first|(with_reducible first|(refine hK _ _ ?_;clear hK K)|refine ‹∀σ w,_→K σ w› _ _ ?_|(refine W_st ?_;constructor;try intro K hK))|((with_reducible first|refine hZ _ _ ?_|refine W_rg ?_|skip);repeat1' simp only[push_cast,seval,-Nat.reduceSubDiff,h1,eq_self])|((repeat((fail_if_success with_reducible refine hK _ _ ?_);clear hK K));with_reducible refine hK _ _ ?_;clear hK K))
  rw [if_neg (fun h => h.elim h1 h2)]
  by_cases h3 : x = ⟨#[105,102,114,97,109,101]⟩
  · rw [if_pos (.inl h3)]
    subst h3
    refine Gives.of_W Tryz.call173 Tryz.func173 rfl Tryz.ntmps173 (by simp) ?_; intro Z hZ
    (repeat first|(with_reducible first|(refine hK _ _ ?_;clear hK K)|refine ‹∀σ w,_→K σ w› _ _ ?_|(refine W_st ?_;constructor;try intro K hK))|((with_reducible first|refine hZ _ _ ?_|refine W_rg ?_|skip);repeat1' simp only[push_cast,seval,-Nat.reduceSubDiff,h1,h2,eq_self])|((repeat((fail_if_success with_reducible refine hK _ _ ?_);clear hK K));with_reducible refine hK _ _ ?_;clear hK K))
  by_cases h4 : x = ⟨#[110,111,101,109,98,101,100]⟩
  · rw [if_pos (.inr (.inl h4))]
    subst h4
    refine Gives.of_W Tryz.call173 Tryz.func173 rfl Tryz.ntmps173 (by simp) ?_; intro Z hZ
    (repeat first|(with_reducible first|(refine hK _ _ ?_;clear hK K)|refine ‹∀σ w,_→K σ w› _ _ ?_|(refine W_st ?_;constructor;try intro K hK))|((with_reducible first|refine hZ _ _ ?_|refine W_rg ?_|skip);repeat1' simp only[push_cast,seval,-Nat.reduceSubDiff,h1,h2,h3,eq_self])|((repeat((fail_if_success with_reducible refine hK _ _ ?_);clear hK K));with_reducible refine hK _ _ ?_;clear hK K))
  by_cases h5 : x = ⟨#[110,111,102,114,97,109,101,115]⟩
  · rw [if_pos (.inr (.inr (.inl h5)))]
    subst h5
    refine Gives.of_W Tryz.call173 Tryz.func173 rfl Tryz.ntmps173 (by simp) ?_; intro Z hZ
    (repeat first|(with_reducible first|(refine hK _ _ ?_;clear hK K)|refine ‹∀σ w,_→K σ w› _ _ ?_|(refine W_st ?_;constructor;try intro K hK))|((with_reducible first|refine hZ _ _ ?_|refine W_rg ?_|skip);repeat1' simp only[push_cast,seval,-Nat.reduceSubDiff,h1,h2,h3,h4,eq_self])|((repeat((fail_if_success with_reducible refine hK _ _ ?_);clear hK K));with_reducible refine hK _ _ ?_;clear hK K))
  by_cases h6 : x = ⟨#[115,116,121,108,101]⟩
  · rw [if_pos (.inr (.inr (.inr (.inl h6))))]
    subst h6
    refine Gives.of_W Tryz.call173 Tryz.func173 rfl Tryz.ntmps173 (by simp) ?_; intro Z hZ
    (repeat first|(with_reducible first|(refine hK _ _ ?_;clear hK K)|refine ‹∀σ w,_→K σ w› _ _ ?_|(refine W_st ?_;constructor;try intro K hK))|((with_reducible first|refine hZ _ _ ?_|refine W_rg ?_|skip);repeat1' simp only[push_cast,seval,-Nat.reduceSubDiff,h1,h2,h3,h4,h5,eq_self])|((repeat((fail_if_success with_reducible refine hK _ _ ?_);clear hK K));with_reducible refine hK _ _ ?_;clear hK K))
  by_cases h7 : x = ⟨#[120,109,112]⟩
  · rw [if_pos (.inr (.inr (.inr (.inr h7))))]
    subst h7
    refine Gives.of_W Tryz.call173 Tryz.func173 rfl Tryz.ntmps173 (by simp) ?_; intro Z hZ
    (repeat first|(with_reducible first|(refine hK _ _ ?_;clear hK K)|refine ‹∀σ w,_→K σ w› _ _ ?_|(refine W_st ?_;constructor;try intro K hK))|((with_reducible first|refine hZ _ _ ?_|refine W_rg ?_|skip);repeat1' simp only[push_cast,seval,-Nat.reduceSubDiff,h1,h2,h3,h4,h5,h6,eq_self])|((repeat((fail_if_success with_reducible refine hK _ _ ?_);clear hK K));with_reducible refine hK _ _ ?_;clear hK K))
  rw [if_neg (fun h => by rcases h with h | h | h | h | h <;> first | exact h3 h | exact h4 h | exact h5 h | exact h6 h | exact h7 h)]
  by_cases h8 : x = ⟨#[115,99,114,105,112,116]⟩
  · rw [if_pos h8]
    subst h8
    refine Gives.of_W Tryz.call173 Tryz.func173 rfl Tryz.ntmps173 (by simp) ?_; intro Z hZ
    (repeat first|(with_reducible first|(refine hK _ _ ?_;clear hK K)|refine ‹∀σ w,_→K σ w› _ _ ?_|(refine W_st ?_;constructor;try intro K hK))|((with_reducible first|refine hZ _ _ ?_|refine W_rg ?_|skip);repeat1' simp only[push_cast,seval,-Nat.reduceSubDiff,h1,h2,h3,h4,h5,h6,h7,eq_self])|((repeat((fail_if_success with_reducible refine hK _ _ ?_);clear hK K));with_reducible refine hK _ _ ?_;clear hK K))
  rw [if_neg h8]
  by_cases h9 : x = ⟨#[112,108,97,105,110,116,101,120,116]⟩
  · rw [if_pos h9]
    subst h9
    refine Gives.of_W Tryz.call173 Tryz.func173 rfl Tryz.ntmps173 (by simp) ?_; intro Z hZ
    (repeat first|(with_reducible first|(refine hK _ _ ?_;clear hK K)|refine ‹∀σ w,_→K σ w› _ _ ?_|(refine W_st ?_;constructor;try intro K hK))|((with_reducible first|refine hZ _ _ ?_|refine W_rg ?_|skip);repeat1' simp only[push_cast,seval,-Nat.reduceSubDiff,h1,h2,h3,h4,h5,h6,h7,h8,eq_self])|((repeat((fail_if_success with_reducible refine hK _ _ ?_);clear hK K));with_reducible refine hK _ _ ?_;clear hK K))
  rw [if_neg h9]
  refine Gives.of_W Tryz.call173 Tryz.func173 rfl Tryz.ntmps173 (by simp) ?_; intro Z hZ
  (repeat first|(with_reducible first|(refine hK _ _ ?_;clear hK K)|refine ‹∀σ w,_→K σ w› _ _ ?_|(refine W_st ?_;constructor;try intro K hK))|((with_reducible first|refine hZ _ _ ?_|refine W_rg ?_|skip);repeat1' simp only[push_cast,seval,-Nat.reduceSubDiff,h1,h2,h3,h4,h5,h6,h7,h8,h9])|((repeat((fail_if_success with_reducible refine hK _ _ ?_);clear hK K));with_reducible refine hK _ _ ?_;clear hK K))
section
variable {w0 w : World} {Q : Nat → Prop} {pb ps pl pa : Nat} {b : BSt}
theorem leave_c (h : BuAt w0 w Q pb ps pl pa b) (hO : HdO 2 b) (hg : GB w0) (hQl : ∀ q,Q q → q < w.heap.size) : Gives Tryz.prog 129 #[.pointer (some ⟨pb,0,none⟩)] w fun _ w' => BuAt w0 w' Q pb ps pl pa (leaveB b) ∧ Upd (AF w0 Q) w w' := by
  obtain ⟨b1,hb1⟩ : ∃ b1,b1 = untB b lTem := ⟨_,rfl⟩
  obtain ⟨b2,hb2⟩ : ∃ b2,b2 = clearB b1 := ⟨_,rfl⟩
  obtain ⟨b3,hb3⟩ : ∃ b3,b3 = popM b2 := ⟨_,rfl⟩
  have hR : leaveB b = resetB b3 := by rw [hb3,hb2,hb1]; rfl
  rw [hR]
  have O1 : HdO 2 b1 := by
    rw [hb1]
    have : HdO 2 { b with s := (untS b.s lTem).1,l := b.l } := by
      refine hO.str ?_ ?_ (Nat.le_refl _)
      · unfold untS; split
        · exact Nat.le_refl _
        · dsimp only; rw [List.length_take]; omega
      · unfold untS; split
        · exact fun o ho => ho
        · exact fun o ho => List.mem_of_mem_take ho
    exact this
  have O2 : HdO 2 b2 := by
    rw [hb2]
    have : HdO 2 { b1 with s := b1.s,l := clearN b1.l (openN b1.l) } := by
      refine O1.str (Nat.le_refl _) (fun o ho => ho) ?_
      unfold clearN; rw [List.length_take]; omega
    exact this
  have O3 : HdO 2 b3 := by
    rw [hb3]
    exact ⟨O2.L,O2.s,O2.l,by have := O2.md; show b2.modes.dropLast.length + 2 < _; rw [List.length_dropLast]; omega,O2.nd,O2.sn⟩
  refine Gives.of_W Tryz.call129 Tryz.func129 rfl Tryz.ntmps129 (by simp) ?_; intro Z hZ
  (repeat revert hK K);refine W0 ?_;repeat with_reducible intro K hK
  refine (bstack_c h).mono ?_
  intro v w' ⟨hv,hw⟩
  subst hv; subst w'
  (repeat revert hK K);refine W0 ?_;repeat with_reducible intro K hK
  refine bsl (l := lTem) rfl (by decide) (by decide) (by kernel_rfl) ?_
  rintro v w2 hx2 hn2 ⟨bn,rfl⟩
  have h2 := h.pass hx2
  (repeat revert hK K);refine W0 ?_;repeat with_reducible intro K hK
  refine (buntil_c h2 hO.ok hn2 (by decide)).mono ?_
  rintro v w3 ⟨rfl,h3,hu3⟩
  replace h3 : BuAt w0 w3 Q pb ps pl pa b1 := hb1 ▸ h3
  (repeat revert hK K);refine W0 ?_;repeat with_reducible intro K hK
  refine (bforms_c h3).mono ?_
  intro v w' ⟨hv,hw⟩
  subst hv; subst w'
  (repeat revert hK K);refine W0 ?_;repeat with_reducible intro K hK
  refine (bfclear_c h3 O1.ok).mono ?_
  rintro v w4 ⟨h4,hu4⟩
  replace h4 : BuAt w0 w4 Q pb ps pl pa b2 := hb2 ▸ h4
  (repeat revert hK K);refine W0 ?_;repeat with_reducible intro K hK
  have hs2 := hx2.sz
  have hs3 := hu3.alike.size
  have hs4 := hu4.alike.size
  refine (bpopm_c h4 (fun q hq => by have := hQl q hq; omega) (by have := O2.md; omega)).mono ?_
  rintro v w5 ⟨h5,hu5⟩
  rw [← hb3] at h5
  (repeat revert hK K);refine W0 ?_;repeat with_reducible intro K hK
  refine (breset_c h5 O3.ok hg O3.nms (by have := O3.md; omega)).mono ?_
  rintro v w6 ⟨h6,hu6⟩
  (repeat revert hK K);refine W0 ?_;repeat with_reducible intro K hK
  exact ⟨h6,Upd.trans (Upd.trans (Upd.trans (Upd.trans hx2.upd hu3 fun _ _ h => h) hu4 fun _ _ h => h) hu5 fun _ _ h => h) hu6 fun _ _ h => h⟩
end
end Go.Proofs.YtgnnlaeikcnhcaaGreatDoor
end
section
namespace Go.Proofs.YtgnnlaeikcnhcaaGreatDoor
open Go Go.Vk
set_option maxHeartbeats 40000000
section
variable {w0 w : World} {Q : Nat → Prop} {pb ps pl pa : Nat} {b : BSt}
theorem bmore_c (h : BuAt w0 w Q pb ps pl pa b) (hb : okB b) (hQl : ∀ q,Q q → q < w.heap.size) {t : HTok} {av : Value} (ha0 : RdAt w0 2 av (attrCells t.attrs)) (hal : t.attrs.length < 1000000) :
    Gives Tryz.prog 79 #[.pointer (some ⟨pb,0,none⟩),.agg (t.row av)] w fun _ w' => BuAt w0 w' Q pb ps pl pa (moreB b t) ∧ Upd (AF w0 Q) w w' := by
  obtain ⟨xa,xn,xc,eav,_⟩ := id ha0
  subst eav
  have hrow : t.row (.slice xa xn xc) = #[.int .i64 t.kind,.string t.name,.string t.text,.slice xa xn xc,.bool t.dup,.bool t.self,.bool t.quirks,.int .i64 t.frm,.int .i64 t.to] := rfl
  have hx := Ext.alloc w (.cells (t.row (.slice xa xn xc)) 37)
  have hp : (w.alloc (.cells (t.row (.slice xa xn xc)) 37)).heap[w.heap.size]? = some (.cells (t.row (.slice xa xn xc)) 37 (0,0)) := by rw [heap_alloc_h,if_pos rfl]
  obtain ⟨r,hr⟩ : ∃ r,r = moreB b t := ⟨_,rfl⟩
  rw [← hr]
  unfold moreB at hr
  refine Gives.of_W Tryz.call79 Tryz.func79 rfl Tryz.ntmps79 (by simp) ?_; intro Z hZ
  (repeat revert hK K);refine W1 @vcells_agg ?_;repeat with_reducible intro K hK
  generalize w.alloc (.cells (t.row (.slice xa xn xc)) 37) = w1 at *
  obtain ⟨p,hpe⟩ : ∃ p,p = w.heap.size := ⟨_,rfl⟩
  rw [← hpe] at hp ⊢
  rw [hrow] at hp
  have h1 := h.pass hx
  have hsz := hx.sz
  refine (bnone_c h1).mono ?_
  intro v w' ⟨hv,hw⟩
  subst hv; subst w'
  (repeat revert hK K);refine W0 ?_;repeat with_reducible intro K hK
  refine (bopen_c h1 hb _).mono ?_
  rintro v w2 ⟨rfl,hx2⟩
  have h2 := h1.pass hx2
  have hp2 := hx2.blk hp
  have hs2 := hx2.sz
  have lp := blk_lt hp2
  obtain ⟨ma,mn,mc,av',_,_,hh⟩ := h2.hd
  by_cases ho : 0 ≤ lastBu b tmpl
  · rw [if_pos ho] at hr
    have ho' : decide (0 ≤ lastBu b ⟨#[116,101,109,112,108,97,116,101]⟩) = true := decide_eq_true ho
    (repeat revert hK K);refine W1 @ho' ?_;repeat with_reducible intro K hK
    rw [hr]
    exact ⟨h2,(hx.trans hx2).upd⟩
  rw [if_neg ho] at hr
  have ho' : decide (0 ≤ lastBu b ⟨#[116,101,109,112,108,97,116,101]⟩) = false := decide_eq_false ho
  (repeat revert hK K);refine W1 @ho' ?_;repeat with_reducible intro K hK
  have l1 : pb < w2.heap.size := blk_lt hh
  refine W_draw (.pas 0 (.pas 1 (.pas 2 (.pas 3 (.pas 4 (.pas 5 (.pas 6 (.pas 7 (.pas 9 (.pas 10 (.act 8 (.act 11 .fin)))))))))))) (fun q => q = pb ∨ q = p) (by decide) mixed (by kernel_rfl) ?_
  have hxd := Ext.drew w2
  generalize w2.drew = wd at *
  have hpd := hxd.blk hp2
  have hhd := hxd.blk hh
  have hsd := hxd.sz
  have hd : BuAt w0 wd (fun q => Q q ∨ q = p) pb ps pl pa b := h.more ((hx.trans hx2).trans hxd) fun q hq => by
    rcases hq with hq | hq
    · exact .inl hq
    · exact .inr ⟨by omega,by omega⟩
  refine Dd4 @true_or @or_true @hpd @hhd ?_
  refine (bsat_c hd 0).mono ?_
  intro v w' ⟨hv,hw⟩
  subst hv; subst w'
  refine ⟨fun _ _ => rfl,?_⟩
  refine Dd4 @true_or @or_true @hpd @hhd ?_
  obtain ⟨P,⟨kb,kq⟩,hA,hback⟩ := hd.arK
  have hLb := hb.L
  refine (more_a hA (by omega) hb.at_ ha0 hal _).mono ?_
  rintro v w3 ⟨rfl,g1,g2⟩
  obtain ⟨h3',hu3'⟩ := hback _ _ g1 g2
  have h3 := h3'.less (Q' := Q) fun q hq => .inl hq
  have hu3 : Upd (AF w0 Q) wd w3 := hu3'.mono fun q _ hf => ⟨hf.1,fun hq => hf.2 (.inl hq)⟩
  refine ⟨kept_upd g2 fun q hq => ⟨by rcases hq with hq | hq <;> omega,fun hf => ?_⟩,?_⟩
  · rcases hq with hq | hq
    · exact hf.2 (hq ▸ kb)
    · exact hf.2 (hq ▸ kq p (.inr rfl))
  refine De0 ?_
  (repeat revert hK K);refine W0 ?_;repeat with_reducible intro K hK
  rw [hr]
  exact ⟨h3,Upd.trans ((hx.trans hx2).trans hxd).upd hu3 fun _ _ h => h⟩
end
end Go.Proofs.YtgnnlaeikcnhcaaGreatDoor
end
section
namespace Go.Vk
open Go Go.Proofs.YtgnnlaeikcnhcaaGreatDoor
theorem dropK_down (p : OpS → Bool) (s : List OpS) : ∀ k : Nat, dropK p s k ≤ k
  | 0 => Nat.le_refl _
  | k + 1 => by
    have := dropK_down p s k
    rw [dropK]; split <;> omega
theorem HdO.mark {b : BSt} {m : Nat} (h : HdO (m + 1) b) : HdO m (markB b).1 := by
  refine ⟨by have := h.L; show b.L.length + m < _; omega,by have := h.s; show b.s.length + m < _; omega,?_,by have := h.md; show b.modes.length + m < _; omega,h.nd,h.sn⟩
  have := h.l
  show (layN b.l b.l.length (-1)).1.length + m < _
  unfold layN
  split
  · show b.l.length + m < _
    omega
  · show (b.l.take b.l.length ++ -1 :: b.l.drop b.l.length).length + m < _
    simp only [List.length_append,List.length_take,List.length_cons,List.length_drop]; omega
theorem HdO.thor {b : BSt} {m : Nat} (h : HdO m b) : HdO m (thorB b) :=
  h.str (s' := dropS thoN b.s) (l' := b.l) (by unfold dropS; rw [List.length_take]; have := dropK_down (goP thoN) b.s b.s.length; omega) (fun o ho => List.mem_of_mem_take ho) (Nat.le_refl _)
end Go.Vk
namespace Go.Proofs.YtgnnlaeikcnhcaaGreatDoor
open Go Go.Vk
set_option maxHeartbeats 40000000
section
variable {w0 w : World} {Q : Nat → Prop} {pb ps pl pa : Nat} {b : BSt}
theorem template_c (h : BuAt w0 w Q pb ps pl pa b) (hO : HdO 5 b) (hg : GB w0) (hM : MaxAt w0) (hQl : ∀ q,Q q → q < w.heap.size) {t : HTok} {av : Value} (ha : RdAt w 2 av (attrCells t.attrs)) (ht : SmT t) :
    Gives Tryz.prog 172 #[.pointer (some ⟨pb,0,none⟩),.agg (t.row av)] w fun _ w' => BuAt w0 w' Q pb ps pl pa (temH b t) ∧ Upd (AF w0 Q) w w' := by
  obtain ⟨xa,xn,xc,eav,_⟩ := id ha
  subst eav
  have hrow : t.row (.slice xa xn xc) = #[.int .i64 t.kind,.string t.name,.string t.text,.slice xa xn xc,.bool t.dup,.bool t.self,.bool t.quirks,.int .i64 t.frm,.int .i64 t.to] := rfl
  have hx := Ext.alloc w (.cells (t.row (.slice xa xn xc)) 37)
  have hp : (w.alloc (.cells (t.row (.slice xa xn xc)) 37)).heap[w.heap.size]? = some (.cells (t.row (.slice xa xn xc)) 37 (0,0)) := by rw [heap_alloc_h,if_pos rfl]
  obtain ⟨r,hr⟩ : ∃ r,r = temH b t := ⟨_,rfl⟩
  rw [← hr]
  unfold temH at hr
  refine Gives.of_W Tryz.call172 Tryz.func172 rfl Tryz.ntmps172 (by simp) ?_; intro Z hZ
  (repeat revert hK K);refine W1 @vcells_agg ?_;repeat with_reducible intro K hK
  generalize w.alloc (.cells (t.row (.slice xa xn xc)) 37) = w1 at *
  obtain ⟨p,hpe⟩ : ∃ p,p = w.heap.size := ⟨_,rfl⟩
  rw [← hpe] at hp ⊢
  rw [hrow] at hp
  have h1 := h.pass hx
  have hsz := hx.sz
  by_cases hk : t.kind = 2
  · rw [if_pos hk] at hr
    dsimp only at hr
    obtain ⟨b1,hb1⟩ : ∃ b1,b1 = (insertB b (elTok t 0)).1 := ⟨_,rfl⟩
    rw [← hb1] at hr
    obtain ⟨b2,hb2⟩ : ∃ b2,b2 = (markB b1).1 := ⟨_,rfl⟩
    obtain ⟨b3,hb3⟩ : ∃ b3,b3 = failB b2 (markB b1).2 := ⟨_,rfl⟩
    rw [← hb2,← hb3] at hr
    have O1 : HdO 2 b1 := by rw [hb1]; exact hO.ins (smT_el ht 0)
    have O2 : HdO 1 b2 := by rw [hb2]; exact O1.mark
    have O3 : HdO 1 b3 := by rw [hb3]; exact O2.fail _
    have hk' := eq_true hk
    (repeat revert hK K);refine Wc2 @hp @hk' ?_;repeat with_reducible intro K hK
    rw [← hrow]
    refine (binsert_c h1 hO.ok (by have := hO.L; omega) (fun q hq => by have := hQl q hq; omega) (ha.ext hx) ht.2.2 0).mono ?_
    rintro v w2 ⟨rfl,h2,hu2⟩
    rw [← hb1] at h2
    (repeat revert hK K);refine W0 ?_;repeat with_reducible intro K hK
    refine (bforms_c h2).mono ?_
    intro v w' ⟨hv,hw⟩
    subst hv; subst w'
    (repeat revert hK K);refine W0 ?_;repeat with_reducible intro K hK
    refine (bfmark_c h2 O1.ok).mono ?_
    rintro v w3 ⟨rfl,h3,hu3⟩
    replace h3 : BuAt w0 w3 Q pb ps pl pa b2 := hb2 ▸ h3
    (repeat revert hK K);refine W0 ?_;repeat with_reducible intro K hK
    refine (bfail_c h3 _).mono ?_
    rintro v w4 ⟨h4,hu4⟩
    replace h4 : BuAt w0 w4 Q pb ps pl pa b3 := hb3 ▸ h4
    (repeat revert hK K);refine W0 ?_;repeat with_reducible intro K hK
    refine (bset_c h4 15).mono ?_
    rintro v w5 ⟨h5,hu5⟩
    (repeat revert hK K);refine W0 ?_;repeat with_reducible intro K hK
    have z2 := hu2.alike.size
    have z3 := hu3.alike.size
    have z4 := hu4.alike.size
    have z5 := hu5.alike.size
    refine (bpushm_c h5 (fun q hq => by have := hQl q hq; omega) (by have := O3.md; show b3.modes.length < _; omega) 15).mono ?_
    rintro v w6 ⟨h6,hu6⟩
    (repeat revert hK K);refine W0 ?_;repeat with_reducible intro K hK
    rw [hr]
    exact ⟨h6,Upd.trans (Upd.trans (Upd.trans (Upd.trans (Upd.trans hx.upd hu2 fun _ _ h => h) hu3 fun _ _ h => h) hu4 fun _ _ h => h) hu5 fun _ _ h => h) hu6 fun _ _ h => h⟩
  rw [if_neg hk] at hr
  (repeat revert hK K);refine Wc2 @hp @hk ?_;repeat with_reducible intro K hK
  refine (bopen_c h1 hO.ok _).mono ?_
  rintro v w2 ⟨rfl,hx2⟩
  have h2 := h1.pass hx2
  have z2 := hx2.sz
  by_cases ho : 0 ≤ lastBu b tmpl
  · rw [if_pos ho] at hr
    have ho' : decide (0 ≤ lastBu b ⟨#[116,101,109,112,108,97,116,101]⟩) = true := decide_eq_true ho
    obtain ⟨b1,hb1⟩ : ∃ b1,b1 = thorB b := ⟨_,rfl⟩
    rw [← hb1] at hr
    have O1 : HdO 2 b1 := by rw [hb1]; exact hO.thor.mono (by decide)
    (repeat revert hK K);refine W1 @ho' ?_;repeat with_reducible intro K hK
    refine (bstack_c h2).mono ?_
    intro v w' ⟨hv,hw⟩
    subst hv; subst w'
    (repeat revert hK K);refine W0 ?_;repeat with_reducible intro K hK
    refine (bthor_c h2 hO.ok hM hO.sn).mono ?_
    rintro v w3 ⟨h3,hu3⟩
    replace h3 : BuAt w0 w3 Q pb ps pl pa b1 := hb1 ▸ h3
    have z3 := hu3.alike.size
    (repeat revert hK K);refine W0 ?_;repeat with_reducible intro K hK
    refine (leave_c h3 O1 hg (fun q hq => by have := hQl q hq; omega)).mono ?_
    rintro v w4 ⟨h4,hu4⟩
    (repeat revert hK K);refine W0 ?_;repeat with_reducible intro K hK
    rw [hr]
    exact ⟨h4,Upd.trans (Upd.trans (hx.trans hx2).upd hu3 fun _ _ h => h) hu4 fun _ _ h => h⟩
  rw [if_neg ho] at hr
  have ho' : decide (0 ≤ lastBu b ⟨#[116,101,109,112,108,97,116,101]⟩) = false := decide_eq_false ho
  (repeat revert hK K);refine W1 @ho' ?_;repeat with_reducible intro K hK
  rw [hr]
  exact ⟨h2,(hx.trans hx2).upd⟩
end
end Go.Proofs.YtgnnlaeikcnhcaaGreatDoor
end
section
namespace Go.Proofs.YtgnnlaeikcnhcaaGreatDoor
open Go Go.Vk
set_option maxHeartbeats 40000000
section
variable {w0 w : World} {Q : Nat → Prop} {pb ps pl pa : Nat} {b : BSt}
theorem own_c (h : BuAt w0 w Q pb ps pl pa b) (hO : HdO 5 b) (hg : GB w0) (hM : MaxAt w0) (hQl : ∀ q,Q q → q < w.heap.size) {t : HTok} {av : Value} (ha : RdAt w 2 av (attrCells t.attrs)) (ht : SmT t) :
    Gives Tryz.prog 126 #[.pointer (some ⟨pb,0,none⟩),.agg (t.row av)] w fun _ w' => BuAt w0 w' Q pb ps pl pa (ownH b t) ∧ Upd (AF w0 Q) w w' := by
  obtain ⟨xa,xn,xc,eav,_⟩ := id ha
  subst eav
  have hrow : t.row (.slice xa xn xc) = #[.int .i64 t.kind,.string t.name,.string t.text,.slice xa xn xc,.bool t.dup,.bool t.self,.bool t.quirks,.int .i64 t.frm,.int .i64 t.to] := rfl
  have hx := Ext.alloc w (.cells (t.row (.slice xa xn xc)) 37)
  have hp : (w.alloc (.cells (t.row (.slice xa xn xc)) 37)).heap[w.heap.size]? = some (.cells (t.row (.slice xa xn xc)) 37 (0,0)) := by rw [heap_alloc_h,if_pos rfl]
  obtain ⟨r,hr⟩ : ∃ r,r = ownH b t := ⟨_,rfl⟩
  rw [← hr]
  unfold ownH at hr
  have hL := hO.L
  refine Gives.of_W Tryz.call126 Tryz.func126 rfl Tryz.ntmps126 (by simp) ?_; intro Z hZ
  (repeat revert hK K);refine W1 @vcells_agg ?_;repeat with_reducible intro K hK
  generalize w.alloc (.cells (t.row (.slice xa xn xc)) 37) = w1 at *
  obtain ⟨p,hpe⟩ : ∃ p,p = w.heap.size := ⟨_,rfl⟩
  rw [← hpe] at hp ⊢
  rw [hrow] at hp
  have h1 := h.pass hx
  have hsz := hx.sz
  have lp := blk_lt hp
  by_cases n1 : t.name = tmpl
  · rw [if_pos n1] at hr
    have n1' : (t.name = (⟨#[116,101,109,112,108,97,116,101]⟩ : ByteArray)) = True := eq_true n1
    (repeat revert hK K);refine Wc2 @hp @n1' ?_;repeat with_reducible intro K hK
    rw [← hrow]
    refine (template_c h1 hO hg hM (fun q hq => by have := hQl q hq; omega) (ha.ext hx) ht).mono ?_
    rintro v w2 ⟨h2,hu2⟩
    (repeat revert hK K);refine W0 ?_;repeat with_reducible intro K hK
    rw [hr]
    exact ⟨h2,Upd.trans hx.upd hu2 fun _ _ h => h⟩
  rw [if_neg n1] at hr
  have n1' : (t.name = (⟨#[116,101,109,112,108,97,116,101]⟩ : ByteArray)) = False := eq_false n1
  (repeat revert hK K);refine Wc2 @hp @n1' ?_;repeat with_reducible intro K hK
  by_cases n2 : t.name = sTitle ∨ t.name = sNof ∨ t.name = sStyle ∨ t.name = sScript
  · rw [if_pos n2] at hr
    by_cases m0 : t.name = sTitle
    · have m0' : (t.name = (⟨#[116, 105, 116, 108, 101]⟩ : ByteArray)) = True := eq_true m0
      (repeat revert hK K);refine Wc2 @hp @m0' ?_;repeat with_reducible intro K hK
      refine W_draw (.pas 0 (.pas 1 (.pas 2 (.pas 3 (.act 4 (.act 5 .fin)))))) (fun q => q = p) (by decide) mixed (by kernel_rfl) ?_
      have hxd := Ext.drew w1
      generalize w1.drew = wd at *
      have hpd := hxd.blk hp
      refine Dd3 @true_or @or_true @hpd ?_
      refine (hstate_c t.name).mono ?_
      intro v w' ⟨hv,hw⟩
      subst hv; subst w'
      refine ⟨fun _ _ => rfl,?_⟩
      refine Dd3 @true_or @or_true @hpd ?_
      rw [← hrow]
      have hd : BuAt w0 wd (fun q => Q q ∨ q = p) pb ps pl pa b := h.more (hx.trans hxd) fun q hq => by
        rcases hq with hq | hq
        · exact .inl hq
        · exact .inr ⟨by omega,by have := hxd.sz; omega⟩
      have hQd : ∀ q,(Q q ∨ q = p) → q < wd.heap.size := by
        intro q hq
        have := hxd.sz
        rcases hq with hq | hq
        · have := hQl q hq; omega
        · omega
      refine (braw_c hd hO.ok (by omega) hQd (ha.ext (hx.trans hxd)) ht.2.2 (stateN t.name)).mono ?_
      rintro v w3 ⟨h3',g3⟩
      have h3 : BuAt w0 w3 Q pb ps pl pa (rawB b t (stateN t.name)) := h3'.less fun q hq => .inl hq
      have hu3 : Upd (AF w0 Q) wd w3 := g3.mono fun q _ hf => ⟨hf.1,fun hq => hf.2 (.inl hq)⟩
      refine ⟨kept_upd g3 fun q hq => ⟨by have := hxd.sz; omega,fun hf => hf.2 (.inr hq)⟩,?_⟩
      refine D0 ?_
      (repeat revert hK K);refine W0 ?_;repeat with_reducible intro K hK
      rw [hr]
      exact ⟨h3,Upd.trans (hx.trans hxd).upd hu3 fun _ _ h => h⟩
    have m0' : (t.name = (⟨#[116,105,116,108,101]⟩ : ByteArray)) = False := eq_false m0
    by_cases m1 : t.name = sNof
    · have m1' : (t.name = (⟨#[110, 111, 102, 114, 97, 109, 101, 115]⟩ : ByteArray)) = True := eq_true m1
      (repeat revert hK K);refine Wc3 @hp @m0' @m1' ?_;repeat with_reducible intro K hK
      refine W_draw (.pas 0 (.pas 1 (.pas 2 (.pas 3 (.act 4 (.act 5 .fin)))))) (fun q => q = p) (by decide) mixed (by kernel_rfl) ?_
      have hxd := Ext.drew w1
      generalize w1.drew = wd at *
      have hpd := hxd.blk hp
      refine Dd3 @true_or @or_true @hpd ?_
      refine (hstate_c t.name).mono ?_
      intro v w' ⟨hv,hw⟩
      subst hv; subst w'
      refine ⟨fun _ _ => rfl,?_⟩
      refine Dd3 @true_or @or_true @hpd ?_
      rw [← hrow]
      have hd : BuAt w0 wd (fun q => Q q ∨ q = p) pb ps pl pa b := h.more (hx.trans hxd) fun q hq => by
        rcases hq with hq | hq
        · exact .inl hq
        · exact .inr ⟨by omega,by have := hxd.sz; omega⟩
      have hQd : ∀ q,(Q q ∨ q = p) → q < wd.heap.size := by
        intro q hq
        have := hxd.sz
        rcases hq with hq | hq
        · have := hQl q hq; omega
        · omega
      refine (braw_c hd hO.ok (by omega) hQd (ha.ext (hx.trans hxd)) ht.2.2 (stateN t.name)).mono ?_
      rintro v w3 ⟨h3',g3⟩
      have h3 : BuAt w0 w3 Q pb ps pl pa (rawB b t (stateN t.name)) := h3'.less fun q hq => .inl hq
      have hu3 : Upd (AF w0 Q) wd w3 := g3.mono fun q _ hf => ⟨hf.1,fun hq => hf.2 (.inl hq)⟩
      refine ⟨kept_upd g3 fun q hq => ⟨by have := hxd.sz; omega,fun hf => hf.2 (.inr hq)⟩,?_⟩
      refine D0 ?_
      (repeat revert hK K);refine W0 ?_;repeat with_reducible intro K hK
      rw [hr]
      exact ⟨h3,Upd.trans (hx.trans hxd).upd hu3 fun _ _ h => h⟩
    have m1' : (t.name = (⟨#[110,111,102,114,97,109,101,115]⟩ : ByteArray)) = False := eq_false m1
    by_cases m2 : t.name = sStyle
    · have m2' : (t.name = (⟨#[115, 116, 121, 108, 101]⟩ : ByteArray)) = True := eq_true m2
      (repeat revert hK K);refine Wc4 @hp @m0' @m1' @m2' ?_;repeat with_reducible intro K hK
      refine W_draw (.pas 0 (.pas 1 (.pas 2 (.pas 3 (.act 4 (.act 5 .fin)))))) (fun q => q = p) (by decide) mixed (by kernel_rfl) ?_
      have hxd := Ext.drew w1
      generalize w1.drew = wd at *
      have hpd := hxd.blk hp
      refine Dd3 @true_or @or_true @hpd ?_
      refine (hstate_c t.name).mono ?_
      intro v w' ⟨hv,hw⟩
      subst hv; subst w'
      refine ⟨fun _ _ => rfl,?_⟩
      refine Dd3 @true_or @or_true @hpd ?_
      rw [← hrow]
      have hd : BuAt w0 wd (fun q => Q q ∨ q = p) pb ps pl pa b := h.more (hx.trans hxd) fun q hq => by
        rcases hq with hq | hq
        · exact .inl hq
        · exact .inr ⟨by omega,by have := hxd.sz; omega⟩
      have hQd : ∀ q,(Q q ∨ q = p) → q < wd.heap.size := by
        intro q hq
        have := hxd.sz
        rcases hq with hq | hq
        · have := hQl q hq; omega
        · omega
      refine (braw_c hd hO.ok (by omega) hQd (ha.ext (hx.trans hxd)) ht.2.2 (stateN t.name)).mono ?_
      rintro v w3 ⟨h3',g3⟩
      have h3 : BuAt w0 w3 Q pb ps pl pa (rawB b t (stateN t.name)) := h3'.less fun q hq => .inl hq
      have hu3 : Upd (AF w0 Q) wd w3 := g3.mono fun q _ hf => ⟨hf.1,fun hq => hf.2 (.inl hq)⟩
      refine ⟨kept_upd g3 fun q hq => ⟨by have := hxd.sz; omega,fun hf => hf.2 (.inr hq)⟩,?_⟩
      refine D0 ?_
      (repeat revert hK K);refine W0 ?_;repeat with_reducible intro K hK
      rw [hr]
      exact ⟨h3,Upd.trans (hx.trans hxd).upd hu3 fun _ _ h => h⟩
    have m2' : (t.name = (⟨#[115,116,121,108,101]⟩ : ByteArray)) = False := eq_false m2
    by_cases m3 : t.name = sScript
    · have m3' : (t.name = (⟨#[115, 99, 114, 105, 112, 116]⟩ : ByteArray)) = True := eq_true m3
      (repeat revert hK K);refine Wc5 @hp @m0' @m1' @m2' @m3' ?_;repeat with_reducible intro K hK
      refine W_draw (.pas 0 (.pas 1 (.pas 2 (.pas 3 (.act 4 (.act 5 .fin)))))) (fun q => q = p) (by decide) mixed (by kernel_rfl) ?_
      have hxd := Ext.drew w1
      generalize w1.drew = wd at *
      have hpd := hxd.blk hp
      refine Dd3 @true_or @or_true @hpd ?_
      refine (hstate_c t.name).mono ?_
      intro v w' ⟨hv,hw⟩
      subst hv; subst w'
      refine ⟨fun _ _ => rfl,?_⟩
      refine Dd3 @true_or @or_true @hpd ?_
      rw [← hrow]
      have hd : BuAt w0 wd (fun q => Q q ∨ q = p) pb ps pl pa b := h.more (hx.trans hxd) fun q hq => by
        rcases hq with hq | hq
        · exact .inl hq
        · exact .inr ⟨by omega,by have := hxd.sz; omega⟩
      have hQd : ∀ q,(Q q ∨ q = p) → q < wd.heap.size := by
        intro q hq
        have := hxd.sz
        rcases hq with hq | hq
        · have := hQl q hq; omega
        · omega
      refine (braw_c hd hO.ok (by omega) hQd (ha.ext (hx.trans hxd)) ht.2.2 (stateN t.name)).mono ?_
      rintro v w3 ⟨h3',g3⟩
      have h3 : BuAt w0 w3 Q pb ps pl pa (rawB b t (stateN t.name)) := h3'.less fun q hq => .inl hq
      have hu3 : Upd (AF w0 Q) wd w3 := g3.mono fun q _ hf => ⟨hf.1,fun hq => hf.2 (.inl hq)⟩
      refine ⟨kept_upd g3 fun q hq => ⟨by have := hxd.sz; omega,fun hf => hf.2 (.inr hq)⟩,?_⟩
      refine D0 ?_
      (repeat revert hK K);refine W0 ?_;repeat with_reducible intro K hK
      rw [hr]
      exact ⟨h3,Upd.trans (hx.trans hxd).upd hu3 fun _ _ h => h⟩
    have m3' : (t.name = (⟨#[115,99,114,105,112,116]⟩ : ByteArray)) = False := eq_false m3
    exact absurd n2 (fun h => by rcases h with h | h | h | h <;> first | exact m0 h | exact m1 h | exact m2 h | exact m3 h)
  rw [if_neg n2] at hr
  have n3 : (t.name = (⟨#[116,105,116,108,101]⟩ : ByteArray)) = False := eq_false fun h => n2 (.inl h)
  have n4 : (t.name = (⟨#[110,111,102,114,97,109,101,115]⟩ : ByteArray)) = False := eq_false fun h => n2 (.inr (.inl h))
  have n5 : (t.name = (⟨#[115,116,121,108,101]⟩ : ByteArray)) = False := eq_false fun h => n2 (.inr (.inr (.inl h)))
  have n6 : (t.name = (⟨#[115,99,114,105,112,116]⟩ : ByteArray)) = False := eq_false fun h => n2 (.inr (.inr (.inr h)))
  (repeat revert hK K);refine Wc5 @hp @n3 @n4 @n5 @n6 ?_;repeat with_reducible intro K hK
  rw [← hrow]
  refine (bonly_c h1 hO.ok (by omega) (fun q hq => by have := hQl q hq; omega) (ha.ext hx) ht.2.2).mono ?_
  rintro v w2 ⟨rfl,h2,hu2⟩
  (repeat revert hK K);refine W0 ?_;repeat with_reducible intro K hK
  rw [hr]
  exact ⟨h2,Upd.trans hx.upd hu2 fun _ _ h => h⟩
end
end Go.Proofs.YtgnnlaeikcnhcaaGreatDoor
end
section
namespace Go.Proofs.YtgnnlaeikcnhcaaGreatDoor
open Go Go.Vk
set_option maxHeartbeats 40000000
section
variable {w0 w : World} {Q : Nat → Prop} {pb ps pl pa : Nat} {b : BSt}
theorem head_c (h : BuAt w0 w Q pb ps pl pa b) (hO : HdO 5 b) (hg : GB w0) (hM : MaxAt w0) (hQl : ∀ q,Q q → q < w.heap.size) {t : HTok} {av : Value} (ha0 : RdAt w0 2 av (attrCells t.attrs)) (ht : SmT t) :
    Gives Tryz.prog 61 #[.pointer (some ⟨pb,0,none⟩),.agg (t.row av)] w fun v w' => v = .bool (headH b t).2 ∧ BuAt w0 w' Q pb ps pl pa (headH b t).1 ∧ Upd (AF w0 Q) w w' := by
  have ha := ha0.ext h.out
  obtain ⟨xa,xn,xc,eav,_⟩ := id ha
  subst eav
  have hrow : t.row (.slice xa xn xc) = #[.int .i64 t.kind,.string t.name,.string t.text,.slice xa xn xc,.bool t.dup,.bool t.self,.bool t.quirks,.int .i64 t.frm,.int .i64 t.to] := rfl
  have hx := Ext.alloc w (.cells (t.row (.slice xa xn xc)) 37)
  have hp : (w.alloc (.cells (t.row (.slice xa xn xc)) 37)).heap[w.heap.size]? = some (.cells (t.row (.slice xa xn xc)) 37 (0,0)) := by rw [heap_alloc_h,if_pos rfl]
  obtain ⟨r,hr⟩ : ∃ r,r = headH b t := ⟨_,rfl⟩
  rw [← hr]
  unfold headH at hr
  have hL := hO.L
  have hok := hO.ok
  refine Gives.of_W Tryz.call61 Tryz.func61 rfl Tryz.ntmps61 (by simp) ?_; intro Z hZ
  (repeat revert hK K);refine W1 @vcells_agg ?_;repeat with_reducible intro K hK
  generalize w.alloc (.cells (t.row (.slice xa xn xc)) 37) = w1 at *
  obtain ⟨p,hpe⟩ : ∃ p,p = w.heap.size := ⟨_,rfl⟩
  rw [← hpe] at hp ⊢
  rw [hrow] at hp
  have h1 := h.pass hx
  have hx1 := hx
  have hp1 := hp
  refine (barena_c h1).mono ?_
  intro v w' ⟨hv,hw⟩
  subst hv; subst w'
  by_cases k1 : t.kind = 1
  · have k1' := eq_true k1
    rw [if_pos k1] at hr
    (repeat revert hK K);refine Wc2 @hp1 @k1' ?_;repeat with_reducible intro K hK
    exact ⟨by rw [hr],by rw [hr]; exact h1,hx1.upd⟩
  have k1' := eq_false k1
  rw [if_neg k1] at hr
  by_cases k5 : t.kind = 5
  · have k5' := eq_true k5
    rw [if_pos k5] at hr
    (repeat revert hK K);refine Wc3 @hp1 @k1' @k5' ?_;repeat with_reducible intro K hK
    refine (bchars_c h1 hok t.text ht.2.1 hO.txt).mono ?_
    rintro v w2 ⟨h2,hu2⟩
    (repeat revert hK K);refine W0 ?_;repeat with_reducible intro K hK
    exact ⟨by rw [hr],by rw [hr]; exact h2,Upd.trans hx1.upd hu2 fun _ _ h => h⟩
  have k5' := eq_false k5
  rw [if_neg k5] at hr
  by_cases k4 : t.kind = 4
  · have k4' := eq_true k4
    rw [if_pos k4] at hr
    (repeat revert hK K);refine Wc4 @hp1 @k1' @k5' @k4' ?_;repeat with_reducible intro K hK
    rw [← hrow]
    refine (bcomment_c h1 hok (by omega) (fun q hq => by have := hQl q hq; have := hx1.sz; omega) t (-1)).mono ?_
    rintro v w2 ⟨h2,hu2⟩
    (repeat revert hK K);refine W0 ?_;repeat with_reducible intro K hK
    exact ⟨by rw [hr],by rw [hr]; exact h2,Upd.trans hx1.upd hu2 fun _ _ h => h⟩
  have k4' := eq_false k4
  rw [if_neg k4] at hr
  (repeat revert hK K);refine Wc4 @hp1 @k1' @k5' @k4' ?_;repeat with_reducible intro K hK
  refine bsl (l := lHtml) rfl (by decide) (by decide) (by kernel_rfl) ?_
  rintro v w2 hy2 hn2 ⟨bn2,rfl⟩
  (repeat revert hK K);refine W0 ?_;repeat with_reducible intro K hK
  rw [← hrow]
  refine (hstart_c hn2 (by decide)).mono ?_
  rintro v w3 ⟨rfl,hy3⟩
  have hx3 := (hx1.trans hy2).trans hy3
  have hp3 := (hy2.trans hy3).blk hp1
  have h3 := h1.pass (hy2.trans hy3)
  by_cases s1 : startT t lHtml = true
  · rw [if_pos s1] at hr
    (repeat revert hK K);refine Wc2 @hp3 @s1 ?_;repeat with_reducible intro K hK
    rw [← hrow]
    refine (bmore_c h3 hok (fun q hq => by have := hQl q hq; have := hx3.sz; omega) ha0 ht.2.2).mono ?_
    rintro v w4 ⟨h4,hu4⟩
    (repeat revert hK K);refine W0 ?_;repeat with_reducible intro K hK
    exact ⟨by rw [hr],by rw [hr]; exact h4,Upd.trans hx3.upd hu4 fun _ _ h => h⟩
  rw [if_neg s1] at hr
  have s1' := eq_false_of_ne_true s1
  (repeat revert hK K);refine Wc2 @hp3 @s1' ?_;repeat with_reducible intro K hK
  rw [← hrow]
  refine hbelongs_c.mono ?_
  rintro v w4 ⟨rfl,hy4⟩
  have hx4 := hx3.trans hy4
  have hp4 := hy4.blk hp3
  have h4 := h3.pass hy4
  by_cases s2 : belT t = true
  · rw [if_pos s2] at hr
    (repeat revert hK K);refine Wc2 @hp4 @s2 ?_;repeat with_reducible intro K hK
    rw [← hrow]
    refine (own_c h4 hO hg hM (fun q hq => by have := hQl q hq; have := hx4.sz; omega) (ha.ext hx4) ht).mono ?_
    rintro v w5 ⟨h5,hu5⟩
    (repeat revert hK K);refine W0 ?_;repeat with_reducible intro K hK
    exact ⟨by rw [hr],by rw [hr]; exact h5,Upd.trans hx4.upd hu5 fun _ _ h => h⟩
  rw [if_neg s2] at hr
  have s2' := eq_false_of_ne_true s2
  (repeat revert hK K);refine Wc2 @hp4 @s2' ?_;repeat with_reducible intro K hK
  refine bsl (l := lNos) rfl (by decide) (by decide) (by kernel_rfl) ?_
  rintro v w5 hy5 hn5 ⟨bn5,rfl⟩
  (repeat revert hK K);refine W0 ?_;repeat with_reducible intro K hK
  rw [← hrow]
  refine (hstart_c hn5 (by decide)).mono ?_
  rintro v w6 ⟨rfl,hy6⟩
  have hx6 := (hx4.trans hy5).trans hy6
  have hp6 := (hy5.trans hy6).blk hp4
  have h6 := h4.pass (hy5.trans hy6)
  by_cases s3 : startT t lNos = true
  · rw [if_pos s3] at hr
    (repeat revert hK K);refine Wc2 @hp6 @s3 ?_;repeat with_reducible intro K hK
    rw [← hrow]
    refine (binsert_c h6 hok (by omega) (fun q hq => by have := hQl q hq; have := hx6.sz; omega) (ha.ext hx6) ht.2.2 0).mono ?_
    rintro v w7 ⟨rfl,h7,hu7⟩
    (repeat revert hK K);refine W0 ?_;repeat with_reducible intro K hK
    refine (bset_c h7 4).mono ?_
    rintro v w8 ⟨h8,hu8⟩
    (repeat revert hK K);refine W0 ?_;repeat with_reducible intro K hK
    exact ⟨by rw [hr],by rw [hr]; exact h8,Upd.trans (Upd.trans hx6.upd hu7 fun _ _ h => h) hu8 fun _ _ h => h⟩
  rw [if_neg s3] at hr
  have s3' := eq_false_of_ne_true s3
  (repeat revert hK K);refine Wc2 @hp6 @s3' ?_;repeat with_reducible intro K hK
  refine bsl (l := lHead) rfl (by decide) (by decide) (by kernel_rfl) ?_
  rintro v w7 hy7 hn7 ⟨bn7,rfl⟩
  (repeat revert hK K);refine W0 ?_;repeat with_reducible intro K hK
  rw [← hrow]
  refine (hstart_c hn7 (by decide)).mono ?_
  rintro v w8 ⟨rfl,hy8⟩
  have hx8 := (hx6.trans hy7).trans hy8
  have hp8 := (hy7.trans hy8).blk hp6
  have h8 := h6.pass (hy7.trans hy8)
  by_cases s4 : startT t lHead = true
  · rw [if_pos (.inl s4)] at hr
    (repeat revert hK K);refine Wc2 @hp8 @s4 ?_;repeat with_reducible intro K hK
    exact ⟨by rw [hr],by rw [hr]; exact h8,hx8.upd⟩
  have s4' := eq_false_of_ne_true s4
  (repeat revert hK K);refine Wc2 @hp8 @s4' ?_;repeat with_reducible intro K hK
  rw [← hrow]
  refine hstrange_c.mono ?_
  rintro v w9 ⟨rfl,hy9⟩
  have hx9 := hx8.trans hy9
  have hp9 := hy9.blk hp8
  have h9 := h8.pass hy9
  by_cases s5 : strT t = true
  · rw [if_pos (.inr s5)] at hr
    (repeat revert hK K);refine Wc2 @hp9 @s5 ?_;repeat with_reducible intro K hK
    exact ⟨by rw [hr],by rw [hr]; exact h9,hx9.upd⟩
  rw [if_neg (fun h => h.elim s4 s5)] at hr
  have s5' := eq_false_of_ne_true s5
  (repeat revert hK K);refine Wc2 @hp9 @s5' ?_;repeat with_reducible intro K hK
  have lp9 := blk_lt hp9
  have hd : BuAt w0 w9 (fun q => Q q ∨ q = p) pb ps pl pa b := h.more hx9 fun q hq => by
    rcases hq with hq | hq
    · exact .inl hq
    · exact .inr ⟨by omega,by omega⟩
  refine (bstack_c hd).mono ?_
  intro v w' ⟨hv,hw⟩
  subst hv; subst w'
  (repeat revert hK K);refine W0 ?_;repeat with_reducible intro K hK
  refine (bpop_c hd hok).mono ?_
  rintro v w10 ⟨rfl,h10,g10⟩
  have hp10 := (g10.same p lp9 (fun hf => hf.2 (.inr rfl))).trans hp9
  have lp10 := blk_lt hp10
  (repeat revert hK K);refine W0 ?_;repeat with_reducible intro K hK
  refine (bset_c h10 5).mono ?_
  rintro v w11 ⟨h11',g11⟩
  have hp11 := (g11.same p lp10 (fun hf => hf.2 (.inr rfl))).trans hp10
  have h11 : BuAt w0 w11 Q pb ps pl pa (modeB (popS b) 5) := h11'.less fun q hq => .inl hq
  have hu10 : Upd (AF w0 Q) w9 w10 := g10.mono fun q _ hf => ⟨hf.1,fun hq => hf.2 (.inl hq)⟩
  have hu11 : Upd (AF w0 Q) w10 w11 := g11.mono fun q _ hf => ⟨hf.1,fun hq => hf.2 (.inl hq)⟩
  (repeat revert hK K);refine Wc1 @hp11 ?_;repeat with_reducible intro K hK
  refine bsl (l := lHead) rfl (by decide) (by decide) (by kernel_rfl) ?_
  rintro v w12 hy12 hn12 ⟨bn12,rfl⟩
  (repeat revert hK K);refine W0 ?_;repeat with_reducible intro K hK
  rw [← hrow]
  refine (hend_c hn12 (by decide)).mono ?_
  rintro v w13 ⟨rfl,hy13⟩
  (repeat revert hK K);refine W0 ?_;repeat with_reducible intro K hK
  exact ⟨by rw [hr],by rw [hr]; exact h11.pass (hy12.trans hy13),Upd.trans (Upd.trans (Upd.trans hx9.upd hu10 fun _ _ h => h) hu11 fun _ _ h => h) (hy12.trans hy13).upd fun _ _ h => h⟩
end
end Go.Proofs.YtgnnlaeikcnhcaaGreatDoor
end
