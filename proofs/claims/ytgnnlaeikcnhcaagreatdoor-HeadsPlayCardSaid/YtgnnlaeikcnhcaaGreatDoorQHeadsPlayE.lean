/- What the proof leans on,part 5 of 15. -/
import Derived.Test.YtgnnlaeikcnhcaaGreatDoorQHeadsPlayD
set_option linter.unusedSimpArgs false
set_option linter.unusedVariables false
section
namespace Go.Vk
end Go.Vk
end
section
namespace Go.Vk
theorem At.app {G Q : Nat → Prop} {w0 w w' : World} {P : Nat → Prop} {pa : Nat} {L : List Nd} (h : At w0 w P pa L) (hu : Upd G w w') (hG : ∀ b,b < w.heap.size → G b → P b ∧ w0.heap.size ≤ b) (hQ : ∀ b,Q b → P b ∨ (w.heap.size ≤ b ∧ b < w'.heap.size)) : At w0 w' Q pa L := by
  have hs := hu.alike.size
  have h1 := h.ar.mono (G := fun b => AF w0 P b ∧ b < w.heap.size) fun b hl hf => ⟨hf,hl⟩
  have h2 := h1.frame hu fun b hf hg => hf.1.2 (hG b hf.2 hg).1
  refine ⟨h2.mono fun b _ hf => ⟨hf.1.1,fun hq => ?_⟩,h.gd,Upd.trans h.ext hu fun i hi hg => ?_,fun b hb => ?_⟩
  · rcases hQ b hq with hp | hp
    · exact hf.1.2 hp
    · have := hf.2; omega
  · have h0 := h.ext.alike.size
    have := (hG i (by omega) hg).2; omega
  · rcases hQ b hb with hp | hp
    · have := h.low b hp; omega
    · exact hp.2
end Go.Vk
end
section
namespace Go.Vk
open Go
def LsAt (w0 w : World) (Q : Nat → Prop) (pl pa : Nat) (L : List Nd) (l : List Int) : Prop :=
  ∃ lv bo,FL w pl (.pointer (some ⟨pa,0,none⟩)) lv l bo ∧ At w0 w (fun b => Q b ∨ b = pl ∨ bo = some b) pa L ∧ w0.heap.size ≤ pl ∧ (∀ b,bo = some b → w0.heap.size ≤ b ∧ ¬ Q b) ∧ ¬ Q pl
theorem LsAt.pass {w0 w w' : World} {Q : Nat → Prop} {pl pa : Nat} {L : List Nd} {l : List Int} (h : LsAt w0 w Q pl pa L l) (hx : Ext w w') : LsAt w0 w' Q pl pa L l := by
  obtain ⟨lv,bo,h1,h2,h3,h4,h5⟩ := h
  exact ⟨lv,bo,h1.ext hx,h2.pass hx,h3,h4,h5⟩
theorem ls_put {w0 w w2 : World} {Q : Nat → Prop} {pl pa : Nat} {L : List Nd} {l l' : List Int} {lv u : Value} {bo bo' : Option Nat} (hF : FL w pl (.pointer (some ⟨pa, 0, none⟩)) lv l bo) (hA : At w0 w (fun b => Q b ∨ b = pl ∨ bo = some b) pa L)
    (hpl : w0.heap.size ≤ pl) (hbo : ∀ b,bo = some b → w0.heap.size ≤ b ∧ ¬ Q b) (hQ : ¬ Q pl) (hQl : ∀ b,Q b → b < w.heap.size) (g1 : SlAt w2 1 u (intCells l') bo') (g2 : Upd (fun b => bo = some b) w w2) (g3 : ∀ b,bo' = some b → bo = some b ∨ w.heap.size ≤ b) :
    canStore w2 ⟨pl,1,none⟩ ∧ LsAt w0 (w2.setCell ⟨pl,1,none⟩ u) Q pl pa L l' ∧ Upd (AF w0 Q) w (w2.setCell ⟨pl,1,none⟩ u) := by
  have hlt := blk_lt hF.head
  have hnb : ¬ bo = some pl := hF.ne
  have hp2 := (g2.same pl hlt hnb).trans hF.head
  have h0 := hA.ext.alike.size
  have hne' : bo' ≠ some pl := fun e => by
    rcases g3 pl e with h | h
    · exact hnb h
    · omega
  have hs2 := g2.alike.size
  have up : Upd (fun b => b = pl) w2 (w2.setCell ⟨pl,1,none⟩ u) := Upd.setCell (F := fun b => b = pl) (a := ⟨pl,1,none⟩) w2 rfl u
  refine ⟨by rw [can_h,hp2,canO_cells]; exact Nat.lt_succ_self 1,⟨u,bo',⟨?_,g1.upd up fun b hb e => hne' (by rw [hb,e]),hne'⟩,?_,hpl,fun b hb => ?_,hQ⟩,?_⟩
  · rw [heap_set_h,if_pos rfl,hp2]; rfl
  · have hA2 : At w0 w2 (fun b => Q b ∨ b = pl ∨ bo' = some b) pa L := hA.app g2 (fun b hb e => ⟨.inr (.inr e),(hbo b e).1⟩) fun b hb => by
      rcases hb with hb | hb | hb
      · exact .inl (.inl hb)
      · exact .inl (.inr (.inl hb))
      · rcases g3 b hb with h | h
        · exact .inl (.inr (.inr h))
        · exact .inr ⟨h,by rw [hb] at g1; exact g1.lt⟩
    exact hA2.frame up fun b e => ⟨.inr (.inl e),e ▸ hpl⟩
  · rcases g3 b hb with h | h
    · exact hbo b h
    · exact ⟨by omega,fun hq => by have := hQl b hq; omega⟩
  · refine Upd.trans (g2.mono fun b _ e => ⟨(hbo b e).1,(hbo b e).2⟩) up fun b _ e => ⟨e ▸ hpl,e ▸ hQ⟩
def layN (l : List Int) (k : Nat) (i : Int) : List Int × Int := if 64 ≤ l.length then (l,3) else (l.take k ++ i :: l.drop k,0)
end Go.Vk
namespace Go.Proofs.YtgnnlaeikcnhcaaGreatDoor
open Go Go.Vk
set_option maxHeartbeats 40000000
section
variable {w0 w : World} {Q : Nat → Prop} {pl pa : Nat} {L : List Nd} {l : List Int}
theorem lay_c (h : LsAt w0 w Q pl pa L l) (hl : l.length < 10000) (k : Nat) (hk : k ≤ l.length) (i : Int) : Gives Tryz.prog 97 #[.pointer (some ⟨pl,0,none⟩),.int .i64 (k : Int),.int .i64 i] w fun v w' => v = .int .i64 (layN l k i).2 ∧ LsAt w0 w' Q pl pa L (layN l k i).1 ∧ Upd (AF w0 Q) w w' := by
  have h' := h
  obtain ⟨lv,bo,hF,hA,hpl,hbo,hQ⟩ := h
  have hQl : ∀ b,Q b → b < w.heap.size := fun b hb => hA.low b (.inl hb)
  have h1 := hF.c1
  obtain ⟨a,c,rfl,hc⟩ := hF.sl.ints_len
  by_cases hb : 64 ≤ l.length
  · have b0 : (64 : Int) ≤ (l.length : Int) := by omega
    have e : layN l k i = (l,3) := if_pos hb
    rw [e]
    refine Gives.of_W Tryz.call97 Tryz.func97 rfl Tryz.ntmps97 (by simp) ?_; intro Z hZ
    (repeat revert hK K);refine W2 @h1 @b0 ?_;repeat with_reducible intro K hK
    exact ⟨h',Upd.refl _ _⟩
  · have b0 : ¬ (64 : Int) ≤ (l.length : Int) := by omega
    have e : layN l k i = (l.take k ++ i :: l.drop k,0) := if_neg hb
    rw [e]
    refine Gives.of_W Tryz.call97 Tryz.func97 rfl Tryz.ntmps97 (by simp) ?_; intro Z hZ
    (repeat revert hK K);refine W2 @h1 @b0 ?_;repeat with_reducible intro K hK
    refine bs_one sty28 (by decide) (by decide) (v := .int .i64 i) rfl ?_
    have hx := Ext.alloc w (.cells (Value.int .i64 i).cells 3)
    have hb1 : (w.alloc (.cells (Value.int .i64 i).cells 3)).heap[w.heap.size]? = some (.cells #[.int .i64 i] 3 (0,0)) := by rw [heap_alloc_h,if_pos rfl]; rfl
    have hF1 := hF.ext hx
    have hA1 := hA.pass hx
    have hne : bo ≠ some w.heap.size := fun e => by
      have := hF.sl; rw [e] at this; have := this.lt; omega
    refine (insert_c hF1.sl (by omega) hb1 hne k hk).mono ?_
    rintro v w2 ⟨bo',g1,g2,g3⟩
    have hsz : (w.alloc (.cells (Value.int .i64 i).cells 3)).heap.size = w.heap.size + 1 := size_alloc_h _ _
    obtain ⟨k1,k2,k3⟩ := ls_put hF1 hA1 hpl hbo hQ (fun b hb => by have := hQl b hb; omega) g1 g2 g3
    obtain ⟨va,vn,vc,rfl,_,_⟩ := g1.len
    (repeat revert hK K);refine W1 @k1 ?_;repeat with_reducible intro K hK
    exact ⟨k2,Upd.trans hx.upd k3 fun _ _ h => h⟩
theorem mark_c (h : LsAt w0 w Q pl pa L l) (hl : l.length < 10000) : Gives Tryz.prog 20 #[.pointer (some ⟨pl,0,none⟩)] w fun v w' => v = .int .i64 (layN l l.length (-1)).2 ∧ LsAt w0 w' Q pl pa L (layN l l.length (-1)).1 ∧ Upd (AF w0 Q) w w' := by
  have h' := h
  obtain ⟨lv,bo,hF,hA,hpl,hbo,hQ⟩ := h
  have h1 := hF.c1
  have hn := fnone_c hF
  obtain ⟨a,c,rfl,hc⟩ := hF.sl.ints_len
  refine Gives.of_W Tryz.call20 Tryz.func20 rfl Tryz.ntmps20 (by simp) ?_; intro Z hZ
  (repeat revert hK K);refine W0 ?_;repeat with_reducible intro K hK
  refine hn.mono ?_
  rintro v w' ⟨rfl,rfl⟩
  (repeat revert hK K);refine W1 @h1 ?_;repeat with_reducible intro K hK
  refine (lay_c h' hl l.length (Nat.le_refl _) (-1)).mono ?_
  rintro v w' ⟨rfl,k2,k3⟩
  (repeat revert hK K);refine W0 ?_;repeat with_reducible intro K hK
  exact ⟨k2,k3⟩
end
end Go.Proofs.YtgnnlaeikcnhcaaGreatDoor
end
section
namespace Go.Proofs.YtgnnlaeikcnhcaaGreatDoor
open Go Go.Vk
set_option maxHeartbeats 40000000
section
variable {w0 w : World} {Q : Nat → Prop} {pl pa : Nat} {L : List Nd} {l : List Int}
theorem pl84 (w : World) : ((fsOf Tryz.prog 112).mapM plOf).run Tryz.prog w = .ok #[(0,1),(1,1)] w := by
  simp [fsOf,plOf,Tryz.underlying112,Sem.run,Tryz.sizeOf42,Tryz.sizeOf44]
theorem un84 : Tryz.prog.underlying 112 = some (.struct (fsOf Tryz.prog 112)) := by rw [fsOf,Tryz.underlying112]
theorem fnew_c (h : At w0 w Q pa L) (hL : L ≠ []) : Gives Tryz.prog 94 #[.pointer (some ⟨pa,0,none⟩)] w fun v w' => ∃ pl,v = .pointer (some ⟨pl,0,none⟩) ∧ LsAt w0 w' Q pl pa L [] ∧ Ext w w' := by
  have b0 : ((L.length : Int) = 0) = False := eq_false (by have := List.length_pos_iff.2 hL; omega)
  refine Gives.of_W Tryz.call94 Tryz.func94 rfl Tryz.ntmps94 (by simp) ?_; intro Z hZ
  (repeat revert hK K);refine W0 ?_;repeat with_reducible intro K hK
  refine (len_a h).mono ?_
  rintro v w' ⟨rfl,rfl⟩
  (repeat revert hK K);refine W1 @b0 ?_;repeat with_reducible intro K hK
  refine build_struct Tryz.zeroValue112 un84 pl84 (cs := #[.pointer (some ⟨pa,0,none⟩),.slice none 0 0]) (by rfl) ?_
  (repeat revert hK K);refine W1 @vcells_agg ?_;repeat with_reducible intro K hK
  have hx := Ext.alloc w' (.cells #[.pointer (some ⟨pa,0,none⟩),.slice none 0 0] 112)
  have h0 := h.ext.alike.size
  have hA : At w0 (w'.alloc (.cells #[.pointer (some ⟨pa,0,none⟩),.slice none 0 0] 112)) (fun b => Q b ∨ b = w'.heap.size ∨ (none : Option Nat) = some b) pa L := h.guard hx fun b hb => by
    rcases hb with hb | rfl | hb
    · exact .inl hb
    · exact .inr ⟨Nat.le_refl _,by rw [size_alloc_h]; omega⟩
    · cases hb
  exact ⟨w'.heap.size,rfl,⟨_,none,⟨by rw [heap_alloc_h,if_pos rfl],SlAt.nil _ _,by simp⟩,hA,h0,(fun b hb => by cases hb),fun hq => by have := h.low _ hq; omega⟩,hx⟩
theorem fat_c (h : LsAt w0 w Q pl pa L l) (k : Int) : Gives Tryz.prog 91 #[.pointer (some ⟨pl,0,none⟩),.int .i64 k] w fun v w' => v = .tuple #[.int .i64 (if 0 ≤ k ∧ k < l.length then l.getD k.toNat 0 else -1),.bool (decide ((0 ≤ k ∧ k < l.length) ∧ l.getD k.toNat 0 = -1))] ∧ Ext w w' := by
  obtain ⟨lv,bo,hF,hA,hpl,hbo,hQ⟩ := h
  by_cases hk : 0 ≤ k ∧ k < l.length
  · obtain ⟨k, rfl⟩ : ∃ q : Nat, k = q := ⟨k.toNat, by omega⟩
    have hkl : k < l.length := by omega
    have hxk : l[k]? = some l[k] := List.getElem?_eq_getElem hkl
    have hgd : l.getD ((k : Int).toNat) 0 = l[k] := by simp [List.getD,hxk]
    rw [if_pos hk,hgd]
    have b0 : ¬ (k : Int) < 0 := by omega
    have b1 : ¬ (l.length : Int) ≤ (k : Int) := by omega
    have b2 : (0 : Int) ≤ (k : Int) := by omega
    have b3 : (k : Int) < (l.length : Int) := by omega
    have hlen := flen_c hF
    obtain ⟨b,o,n,c,e1,hbo1⟩ := hF.sl.some_of (kids_ne hkl)
    obtain ⟨_,_,e2,_⟩ := hF.sl.ints_len
    rw [e1] at e2
    cases e2
    have hFd := hF.ext (Ext.drew w)
    have h1 := hFd.c1
    rw [e1] at h1
    have hs := hFd.sl
    rw [e1] at hs
    have hcell := hs.ints_cell hxk
    generalize l[k] = y at *
    refine Gives.of_W Tryz.call91 Tryz.func91 rfl Tryz.ntmps91 (by simp) ?_; intro Z hZ
    (repeat revert hK K);refine W1 @b0 ?_;repeat with_reducible intro K hK
    refine hlen.mono ?_
    rintro v w' ⟨rfl,rfl⟩
    (repeat revert hK K);refine W1 @b1 ?_;repeat with_reducible intro K hK
    refine W_draw (.pas 0 (.pas 1 (.pas 2 (.pas 3 (.pas 4 (.pas 5 (.pas 6 (.pas 7 (.pas 8 (.pas 9 (.pas 10 (.pas 11 (.pas 12 (.pas 13 (.pas 14 (.pas 15 (.pas 16 .fin))))))))))))))))) (fun _ => True) (by decide) mixed (by kernel_rfl) ?_
    refine D4 @h1 @b2 @b3 @hcell ?_
    (repeat revert hK K);refine W0 ?_;repeat with_reducible intro K hK
    refine ⟨?_,Ext.drew _⟩
    have e : (0 ≤ (k : Int) ∧ (k : Int) < (l.length : Int) ∧ y = -1) = (y = -1) := propext ⟨fun h => h.2.2,fun h => ⟨b2,b3,h⟩⟩
    simp only [e]
  · rw [if_neg hk]
    have e : decide ((0 ≤ k ∧ k < (l.length : Int)) ∧ l.getD k.toNat 0 = -1) = false := by simp; intro h1 h2; exact absurd ⟨h1,h2⟩ hk
    rw [e]
    have hlen := flen_c hF
    by_cases hk0 : k < 0
    · refine Gives.of_W Tryz.call91 Tryz.func91 rfl Tryz.ntmps91 (by simp) ?_; intro Z hZ
      (repeat revert hK K);refine W1 @hk0 ?_;repeat with_reducible intro K hK
      exact Ext.refl _
    · have b1 : (l.length : Int) ≤ k := by omega
      refine Gives.of_W Tryz.call91 Tryz.func91 rfl Tryz.ntmps91 (by simp) ?_; intro Z hZ
      (repeat revert hK K);refine W1 @hk0 ?_;repeat with_reducible intro K hK
      refine hlen.mono ?_
      rintro v w' ⟨rfl,rfl⟩
      (repeat revert hK K);refine W1 @b1 ?_;repeat with_reducible intro K hK
      exact Ext.refl _
theorem openN_rng (l : List Int) : 0 ≤ openN l ∧ openN l ≤ l.length := by
  have := lastF_rng (fun i => decide (i = -1)) l 0 l.length
  unfold openN; omega
end
end Go.Proofs.YtgnnlaeikcnhcaaGreatDoor
end
section
namespace Go.Vk
open Go
theorem max_int {P : Program} {ats : Array TypeId} {t : TypeId} {k j : IntKind} {x y : Int} (w : World) (K : Value → World → Prop) : RunV P (Builtin.max_ ats t #[.int k x,.int j y]) w K = K (.int k (if y > x then y else x)) w := by
  have : (Builtin.max_ ats t #[.int k x,.int j y]).run P w = .ok (.int k (if y > x then y else x)) w := by simp [Builtin.max_,Builtin.max2,Sem.run]
  refine propext ⟨fun h => ?_,fun h => .of this h⟩
  obtain ⟨v,w',h1,h2⟩ := h.spec
  rw [this] at h1; cases h1; exact h2
def clearN (l : List Int) (q : Int) : List Int := l.take (q - 1).toNat
end Go.Vk
namespace Go.Proofs.YtgnnlaeikcnhcaaGreatDoor
open Go Go.Vk
set_option maxHeartbeats 40000000
section
variable {w0 w : World} {Q : Nat → Prop} {pl pa : Nat} {L : List Nd} {l : List Int}
theorem clear_c (h : LsAt w0 w Q pl pa L l) (hl : l.length < 10000) : Gives Tryz.prog 174 #[.pointer (some ⟨pl,0,none⟩)] w fun v w' => LsAt w0 w' Q pl pa L (clearN l (openN l)) ∧ Upd (AF w0 Q) w w' := by
  have h' := h
  obtain ⟨lv,bo,hF,hA,hpl,hbo,hQ⟩ := h
  have hQl : ∀ b,Q b → b < w.heap.size := fun b hb => hA.low b (.inl hb)
  have hor := openN_rng l
  by_cases hl0 : l.length = 0
  · have el : l = [] := List.eq_nil_of_length_eq_zero hl0
    have e : clearN l (openN l) = l := by rw [el]; simp [clearN]
    rw [e]
    have b0 : ¬ (0 : Int) < (l.length : Int) := by omega
    refine Gives.of_W Tryz.call174 Tryz.func174 rfl Tryz.ntmps174 (by simp) ?_; intro Z hZ
    (repeat revert hK K);refine W0 ?_;repeat with_reducible intro K hK
    refine (open_c hF (by omega)).mono ?_
    rintro v w2 ⟨rfl,hx⟩
    (repeat revert hK K);refine W0 ?_;repeat with_reducible intro K hK
    refine (flen_c (hF.ext hx)).mono ?_
    rintro v w' ⟨rfl,rfl⟩
    (repeat revert hK K);refine W1 @b0 ?_;repeat with_reducible intro K hK
    exact ⟨h'.pass hx,hx.upd⟩
  · have b0 : (0 : Int) < (l.length : Int) := by omega
    have s0 : inI64 (openN l - 1) := by unfold inI64; omega
    obtain ⟨b,o,n,c,rfl,hbo1⟩ := hF.sl.some_of (kids_ne (k := 0) (by omega))
    obtain ⟨_,_,e2,hc⟩ := hF.sl.ints_len
    cases e2
    obtain ⟨m,hm⟩ : ∃ m : Nat,(if (0 : Int) > openN l - 1 then (0 : Int) else openN l - 1) = m := by
      split
      · exact ⟨0,rfl⟩
      · exact ⟨(openN l - 1).toNat,by omega⟩
    have hml : m ≤ l.length := by split at hm <;> omega
    have em : clearN l (openN l) = l.take m := by
      unfold clearN
      congr 1
      split at hm <;> omega
    rw [em]
    have b1 : (0 : Int) ≤ (m : Int) := by omega
    have b2 : (m : Int) ≤ (c : Int) := by omega
    have b3 : (0 : Int) ≤ (c : Int) := by omega
    refine Gives.of_W Tryz.call174 Tryz.func174 rfl Tryz.ntmps174 (by simp) ?_; intro Z hZ
    (repeat revert hK K);refine W0 ?_;repeat with_reducible intro K hK
    refine (open_c hF (by omega)).mono ?_
    rintro v w2 ⟨rfl,hx⟩
    (repeat revert hK K);refine W0 ?_;repeat with_reducible intro K hK
    refine (flen_c (hF.ext hx)).mono ?_
    rintro v w' ⟨rfl,rfl⟩
    have hF2 := hF.ext hx
    have h1 := hF2.c1
    (repeat first|(with_reducible first|(refine hK _ _ ?_;clear hK K)|refine ‹∀σ w,_→K σ w› _ _ ?_|(refine W_st ?_;constructor;try intro K hK))|((with_reducible first|refine hZ _ _ ?_|refine W_rg ?_|skip);repeat1' simp only[push_cast,seval,-Nat.reduceSubDiff,b0,h1,s0,max_int,hm,b1,b2,b3,Nat.sub_zero])|((repeat((fail_if_success with_reducible refine hK _ _ ?_);clear hK K));with_reducible refine hK _ _ ?_;clear hK K))
    have x1 := hF2.sl.part1 (l := 0) (k := m) (m := c) (by omega) (by omega) (by omega) (by omega)
    rw [intCells_part,List.drop_zero,Nat.sub_zero,Nat.sub_zero] at x1
    have hs := hx.alike.size
    obtain ⟨k1,k2,k3⟩ := ls_put hF2 (hA.pass hx) hpl hbo hQ (fun b hb => by have := hQl b hb; omega) x1 (Upd.refl _ _) (fun b hb => .inl hb)
    refine ⟨k1,?_⟩
    (repeat revert hK K);refine W0 ?_;repeat with_reducible intro K hK
    exact ⟨k2,Upd.trans hx.upd k3 fun _ _ h => h⟩
end
end Go.Proofs.YtgnnlaeikcnhcaaGreatDoor
end
section
namespace Go.Vk
open Go
theorem zeroCells_all {z : Array Value} {n : Nat} (ho : z.toList.all oneCell = true) : (Builtin.zeroCells z n).toList.all oneCell = true := by
  rw [List.all_eq_true] at ho ⊢
  intro v hv
  unfold Builtin.zeroCells at hv
  simp only [Array.toList_map,List.mem_map,Array.toList_range,List.mem_range] at hv
  obtain ⟨i,hi,rfl⟩ := hv
  have hp : 0 < z.size := by
    apply Classical.byContradiction
    intro h
    have : z.size = 0 := by omega
    rw [this] at hi; omega
  have hlt : i % z.size < z.size := Nat.mod_lt _ hp
  rw [getElem!_pos z (i % z.size) hlt]
  exact ho _ (by simp)
theorem app_zerosW {P : Program} {t e t3 ty : Nat} {k0 : IntKind} {es : Nat} (hes : 0 < es) (hT : STy P t e es) (h3 : P.underlying t3 = some (.int k0)) {z : Value} (hz : ∀ w, (zeroValue e).run P w = .ok z w) (hz1 : z.cells.size = es) (ho : z.cells.toList.all oneCell = true)
    {w : World} {s : Value} {c1 : List Value} {b1 : Option Nat} (h1 : SlAt w es s c1 b1) {n : Nat} {m : Int} (hm : m = n) (hl : c1.length + n * es ≤ 1000000) {K : Value → World → Prop}
    (h : ∀ v w' bo,SlAt w' es v (c1 ++ (Builtin.zeroCells z.cells n).toList) bo → Upd (fun b => b1 = some b) w w' → (∀ b,bo = some b → b1 = some b ∨ w.heap.size ≤ b) → (∀ a n1 c,s = .slice a n1 c → c < n1 + n → Ext w w' ∧ (∀ b,bo = some b → w.heap.size ≤ b) ∧ ∃ b o c',v = .slice (some ⟨b,o,none⟩) (n1 + n) c') → K v w') :
    RunV P (Builtin.append_ #[t,t3] ty #[s,.int .i64 m]) w K := by
  subst hm
  obtain ⟨a1,n1,k1,rfl,hk1,hc1⟩ := h1.len
  have hzl : (Builtin.zeroCells z.cells n).toList.length = n * es := by rw [Array.length_toList,zeroCells_size,hz1]
  have hzo := zeroCells_all (n := n) ho
  have hnn : n ≤ n * es := Nat.le_mul_of_pos_right _ hes
  have hn1 : n1 ≤ n1 * es := Nat.le_mul_of_pos_right _ hes
  have hf1 := firstCells_run (P := P) h1 hc1
  have hw : IntKind.i64.wrap (n : Int) = n := wrap_in (by unfold inI64; omega)
  have hneg : ¬ (n : Int) < 0 := by omega
  obtain ⟨i,hi,hi1,hi2⟩ := hT.bytes w
  have hbig : ¬ ((n : Int) * (i.bytes : Int) > 2 ^ 48) := by
    have : n * i.bytes ≤ 1000000 * 1024 := Nat.mul_le_mul (by omega) hi2
    rw [← Int.natCast_mul]; omega
  have happ : ∀ w : World,(if n * es = 0 then (pure #[] : Sem (Array Value)) else do pure (Builtin.zeroCells (← zeroValue e).cells n)).run P w = .ok (Builtin.zeroCells z.cells n) w := by
    intro w
    by_cases h0 : n = 0
    · subst h0
      have : Builtin.zeroCells z.cells 0 = #[] := Array.eq_empty_of_size_eq_zero (by rw [zeroCells_size]; omega)
      simp [Sem.run,this]
    · rw [if_neg (by intro h; rcases Nat.mul_eq_zero.1 h with h | h <;> omega)]
      simp [hz w]
  by_cases hfits : n1 + n ≤ k1
  · have key : ∃ w',(Builtin.append_ #[t,t3] ty #[.slice a1 n1 k1,.int .i64 (n : Int)]).run P w = .ok (.slice a1 (n1 + n) k1) w' ∧ SlAt w' es (.slice a1 (n1 + n) k1) (c1 ++ (Builtin.zeroCells z.cells n).toList) b1 ∧ Upd (fun b => b1 = some b) w w' := by
      rcases h1 with ⟨rfl,hv,rfl⟩ | ⟨b,o,m,c,cs,tt,rfl,hv,g3,g4,g5,g6,g7⟩
      · cases hv
        have hn2 : n = 0 := by omega
        subst hn2
        have hz0 : (Builtin.zeroCells z.cells 0).toList = [] := List.length_eq_zero_iff.1 (by rw [hzl]; omega)
        refine ⟨w,?_,.inl ⟨rfl,rfl,by rw [hz0]; rfl⟩,.refl _ _⟩
        have hh := happ w
        simp only [Builtin.append_,List.getElem?_toArray,List.getElem?_cons_zero,List.getElem?_cons_succ,Sem.run_bind,Sem.run_pure,Result.andThen_ok,run_underlying hT.und,run_underlying h3,hT.size,asInt,asIntOf,
          hi,hw,hneg,hbig,if_false,if_true,hfits,Bool.not_true,hh,Bool.false_eq_true,Int.toNat_natCast]
      · cases hv
        have hin : n1 * es + n * es ≤ k1 * es := by rw [← Nat.add_mul]; exact Nat.mul_le_mul_right _ hfits
        have hst := run_storeCells (P := P) (a := ⟨b,o + n1 * es,none⟩) (Builtin.zeroCells z.cells n).toList 0 w hzo (fun j _ hj => by rw [add_mk]; exact g5.can (by omega))
        refine ⟨setCells w ⟨b,o + n1 * es,none⟩ (Builtin.zeroCells z.cells n).toList 0,?_,.inr ⟨b,o,n1 + n,k1,ovw cs (o + n1 * es) (Builtin.zeroCells z.cells n).toList,tt,rfl,rfl,hfits,by rw [List.length_append,hc1,hzl,Nat.add_mul],g5.sets _ (o + n1 * es) 0,by rw [ovw_size]; exact g6,?_⟩,
          Upd.setCells (F := fun i => some b = some i) (a := ⟨b,o + n1 * es,none⟩) w rfl _ 0⟩
        · have hh := happ w
          simp only [Builtin.append_,List.getElem?_toArray,List.getElem?_cons_zero,List.getElem?_cons_succ,Sem.run_bind,Sem.run_pure,Result.andThen_ok,run_underlying hT.und,run_underlying h3,hT.size,asInt,asIntOf,
            hi,hw,hneg,hbig,if_false,if_true,hfits,Bool.not_true,hh,Bool.false_eq_true,Int.toNat_natCast,add_mk,hst]
        · intro i hi
          rw [List.length_append] at hi
          by_cases hlt : i < c1.length
          · rw [ovw_out _ _ _ _ (by omega),g7 i hlt,List.getElem?_append_left hlt]
          · rw [List.getElem?_append_right (by omega)]
            have := ovw_in (Builtin.zeroCells z.cells n).toList cs (o + n1 * es) (i - c1.length) (by omega) (by omega)
            rw [show o + n1 * es + (i - c1.length) = o + i by omega] at this
            exact this
    obtain ⟨w',hr,hS,hU⟩ := key
    exact .of hr (h _ _ _ hS hU (fun b hb => .inl hb) fun a n1 c e hlt => by cases e; omega)
  · have hcap := nextcap_le (need := n1 + n) (old := k1) (by omega)
    obtain ⟨i',hi',_,_⟩ := hT.bytes w.drew
    have hii : i' = i := by
      have e1 : (typeInfo e).run P w.drew = (match (typeInfo e).run P w with | .ok x _ => .ok x w.drew | .halt h _ => .halt h w.drew) := by
        simp only [typeInfo,program,Sem.run_bind,Sem.run,Result.andThen_ok]
        cases P.info? e <;> simp [stuck,Sem.run]
      rw [hi] at e1
      rw [hi'] at e1
      cases e1; rfl
    subst hii
    have hbytes : ¬ (Builtin.nextslicecap (n1 + n) k1 * i'.bytes > 2 ^ 48) := by
      have : Builtin.nextslicecap (n1 + n) k1 * i'.bytes ≤ (2 * (n1 + n) + 1000) * 1024 := Nat.mul_le_mul hcap hi2
      omega
    have hmax : ¬ (((n1 + n : Nat) : Int) > IntKind.i64.max) := by
      simp [IntKind.max,IntKind.bits,IntKind.signed]; omega
    have h1' : SlAt w.drew es (.slice a1 n1 k1) c1 b1 := h1.ext (Ext.drew w)
    have hf1' := firstCells_run (P := P) (n := n1) h1' hc1
    have hroom : ∀ (n : Nat) (w : World),(askRoom n).run P w = .ok () w := by
      intro n w; unfold askRoom; split <;> simp [mark,Sem.run]
    let nc := (Question.appendCap (n1 + n) k1 e).cut (w.tape w.drawn (.appendCap (n1 + n) k1 e))
    have hnc : n1 + n ≤ nc := by simp only [nc,Question.cut]; omega
    have hch : (choose (.appendCap (n1 + n) k1 e)).run P w = .ok nc w.drew := rfl
    have hh := happ w.drew
    have hr : (Builtin.append_ #[t, t3] ty #[.slice a1 n1 k1, .int .i64 (n : Int)]).run P w =
        .ok (.slice (some ⟨w.heap.size,0,none⟩) (n1 + n) nc) (w.drew.alloc (.cells (c1.toArray ++ Builtin.zeroCells z.cells n ++ Builtin.zeroCells z.cells (nc - (n1 + n))) e)) := by
      simp only [Builtin.append_,List.getElem?_toArray,List.getElem?_cons_zero,List.getElem?_cons_succ,Sem.run_bind,Sem.run_pure,Result.andThen_ok,run_underlying hT.und,run_underlying h3,hT.size,asInt,asIntOf,
        hi,hw,hneg,hbig,if_false,if_true,hfits,hmax,false_and,hbytes,hch,hroom,hi',hf1',Bool.not_true,hh,hz,newRow,newObj,Bool.false_eq_true,Int.toNat_natCast]
      simp [Sem.run,World.alloc_eq]
      rfl
    refine .of hr (h _ _ _ ?_ ((Ext.drew w).trans (Ext.alloc _ _)).upd (fun b hb => .inr (Nat.le_of_eq (Option.some.inj hb))) fun a n1 c e _ => ⟨(Ext.drew w).trans (Ext.alloc _ _),fun b hb => Nat.le_of_eq (Option.some.inj hb),by cases e; exact ⟨_,_,_,rfl⟩⟩)
    refine .inr ⟨w.heap.size,0,n1 + n,nc,_,e,rfl,rfl,hnc,by rw [List.length_append,hc1,hzl,Nat.add_mul],.of (heap_alloc_new' w.drew _),?_,?_⟩
    · simp only [Array.size_append, List.size_toArray, zeroCells_size, hz1, hc1]
      rw [← Nat.add_mul,← Nat.add_mul,Nat.zero_add]
      exact Nat.mul_le_mul_right _ (by omega)
    · intro j hj
      have hj2 : j < (c1.toArray ++ Builtin.zeroCells z.cells n).size := by
        simp only [List.length_append,hzl] at hj
        simp only [Array.size_append,List.size_toArray,zeroCells_size,hz1]; exact hj
      rw [Nat.zero_add,Array.getElem?_append_left hj2]
      have : c1.toArray ++ Builtin.zeroCells z.cells n = (c1 ++ (Builtin.zeroCells z.cells n).toList).toArray := by simp
      rw [this,List.getElem?_toArray]
theorem firstCells_takeW {P : Program} {w : World} {es n m c n' c' : Nat} {a : Option Addr} {cells : List Value} (h : RdAt w es (.slice a n c) cells) (hm : m * es ≤ cells.length) :
    (Builtin.firstCells es m (.slice a n' c')).run P w = .ok (cells.take (m * es)).toArray w := by
  obtain ⟨a',n0,c0,e,_,_,h4⟩ := h
  cases e
  cases a with
  | none =>
    have : cells = [] := by
      cases cells with
      | nil => rfl
      | cons x r => obtain ⟨b,o,e,_⟩ := h4 0 x rfl; cases e
    subst this
    simp [Builtin.firstCells]
  | some a =>
    have hc : cellsAt w a (cells.take (m * es)) := by
      intro i v hv
      have hi : cells[i]? = some v := by
        rw [List.getElem?_take] at hv
        split at hv
        · exact hv
        · cases hv
      obtain ⟨b,o,e,h5⟩ := h4 i v hi
      cases e
      rw [add_mk]; exact h5
    have hr := run_loadCells (P := P) hc
    rw [List.length_take,Nat.min_eq_left hm] at hr
    simpa [Builtin.firstCells] using hr
theorem copy_W {P : Program} {t e es ty t2 : Nat} (hT : P.underlying t = some (.slice e)) (hs : ∀ w, (sizeOf e).run P w = .ok es w) {w : World} {b o n c : Nat} {a2 : Option Addr} {n2 k2 : Nat} {c2 : List Value} {k : Nat}
    (h2 : RdAt w es (.slice a2 n2 k2) c2) (ho : (c2.take (k * es)).all oneCell = true) (hk : k = min n2 n) (hc : ∀ j,j < k * es → canStore w ⟨b,o + j,none⟩) {K : Value → World → Prop}
    (h : K (.int .i64 (k : Int)) (setCells w ⟨b,o,none⟩ (c2.take (k * es)) 0)) : RunV P (Builtin.copy_ #[t,t2] ty #[.slice (some ⟨b,o,none⟩) n c,.slice a2 n2 k2]) w K := by
  have h2' := h2
  obtain ⟨a2',n2',k2',e0,hk2,hc2,_⟩ := h2'
  cases e0
  have hle : k * es ≤ n2 * es := Nat.mul_le_mul_right _ (by omega)
  have hf2 := firstCells_takeW (P := P) (m := k) (n' := n2) (c' := k2) h2 (by omega)
  have hst := run_storeCells (P := P) (a := ⟨b,o,none⟩) (c2.take (k * es)) 0 w ho (fun j _ hj => by rw [add_mk]; exact hc j (by rw [List.length_take] at hj; omega))
  refine .of (w' := setCells w ⟨b,o,none⟩ (c2.take (k * es)) 0) ?_ h
  have hm : Nat.min n2 n = k := hk.symm
  simp [Builtin.copy_,run_underlying hT,hs,Builtin.lenOf,hm,hf2,hst,goInt]
theorem clear_W {P : Program} {t e es ty : Nat} (hT : P.underlying t = some (.slice e)) {z : Value} (hz : ∀ w, (zeroValue e).run P w = .ok z w) (hz1 : z.cells.size = es) (ho : z.cells.toList.all oneCell = true) {w : World} {b o n c : Nat}
    (hc : ∀ j,j < n * es → canStore w ⟨b,o + j,none⟩) {K : Value → World → Prop} (h : K (.tuple #[]) (setCells w ⟨b,o,none⟩ (Builtin.zeroCells z.cells n).toList 0)) : RunV P (Builtin.clear_ #[t] ty #[.slice (some ⟨b,o,none⟩) n c]) w K := by
  refine .of (w' := setCells w ⟨b,o,none⟩ (Builtin.zeroCells z.cells n).toList 0) ?_ h
  have hzl : (Builtin.zeroCells z.cells n).toList.length = n * es := by rw [Array.length_toList,zeroCells_size,hz1]
  cases n with
  | zero =>
    have : (Builtin.zeroCells z.cells 0).toList = [] := List.length_eq_zero_iff.1 (by rw [hzl]; omega)
    rw [this]
    simp [Builtin.clear_,run_underlying hT,setCells]
  | succ n =>
    have hst := run_storeCells (P := P) (a := ⟨b,o,none⟩) (Builtin.zeroCells z.cells (n + 1)).toList 0 w (zeroCells_all ho) (fun j _ hj => by rw [add_mk]; exact hc j (by omega))
    simp [Builtin.clear_,run_underlying hT,hz,hst]
theorem SlAt.canW {w : World} {es b o n c : Nat} {cells : List Value} {bo : Option Nat} (h : SlAt w es (.slice (some ⟨b,o,none⟩) n c) cells bo) {q : Nat} (hq : q < c * es) : canStore w ⟨b,o + q,none⟩ := by
  obtain ⟨g1,g3,g4,cs,t,g5,g6,g7⟩ := h.inv
  exact g5.can (by omega)
theorem SlAt.partW {w : World} {es b o n c : Nat} {cells : List Value} {bo : Option Nat} (h : SlAt w es (.slice (some ⟨b,o,none⟩) n c) cells bo) {l k m : Nat} (h1 : l ≤ k) (h2 : k ≤ n) (h3 : k ≤ m) (h4 : m ≤ c) :
    SlAt w es (.slice (if m = l then some ⟨b,o,none⟩ else Option.map (fun x : Addr => x.add (l * es)) (some ⟨b,o,none⟩)) (k - l) (m - l)) ((cells.drop (l * es)).take ((k - l) * es)) bo := by
  have hp := h.part (l := l) (k := k) (m := m) h1 h2 h3 h4
  by_cases e : m = l
  · rw [if_pos e]
    have e1 : k - l = 0 := by omega
    have e2 : m - l = 0 := by omega
    obtain ⟨g1,g3,g4,cs,t,g5,g6,g7⟩ := h.inv
    rw [e1,e2]
    refine .inr ⟨b,o,0,0,cs,t,g1,rfl,Nat.le_refl _,by simp,g5,by omega,fun i hi => by simp at hi⟩
  · rw [if_neg e,Option.map_some,add_mk]; exact hp
theorem SlAt.writeW {w : World} {es b o n c : Nat} {cells : List Value} {bo : Option Nat} (h : SlAt w es (.slice (some ⟨b,o,none⟩) n c) cells bo) {q : Nat} (xs : List Value) (hq : q + xs.length ≤ n * es) :
    SlAt (setCells w ⟨b,o + q,none⟩ xs 0) es (.slice (some ⟨b,o,none⟩) n c) (cells.take q ++ xs ++ cells.drop (q + xs.length)) bo := by
  obtain ⟨g1,g3,g4,cs,t,g5,g6,g7⟩ := h.inv
  have hnc : n * es ≤ c * es := Nat.mul_le_mul_right _ g3
  refine .inr ⟨b,o,n,c,ovw cs (o + q + 0) xs,t,g1,rfl,g3,by simp; omega,g5.sets xs (o + q) 0,by rw [ovw_size]; exact g6,fun i hi => ?_⟩
  have hlen : i < n * es := by simp at hi; omega
  rw [Nat.add_zero]
  have hqt : (cells.take q).length = q := by rw [List.length_take]; omega
  by_cases h1 : i < q
  · rw [ovw_out _ _ _ _ (.inl (by omega)),g7 i (by omega),List.append_assoc,List.getElem?_append_left (by omega),List.getElem?_take,if_pos h1]
  · by_cases h2 : i < q + xs.length
    · have := ovw_in xs cs (o + q) (i - q) (by omega) (by omega)
      rw [show o + q + (i - q) = o + i by omega] at this
      rw [this,List.getElem?_append_left (by rw [List.length_append]; omega),List.getElem?_append_right (by omega),hqt]
    · rw [ovw_out _ _ _ _ (.inr (by omega)),g7 i (by omega),List.getElem?_append_right (by rw [List.length_append]; omega),List.getElem?_drop,List.length_append,hqt,show q + xs.length + (i - (q + xs.length)) = i by omega]
theorem SlAt.longerW {w : World} {es b o n c : Nat} {cells : List Value} {bo : Option Nat} (h : SlAt w es (.slice (some ⟨b,o,none⟩) n c) cells bo) (hc : n + 1 ≤ c) : ∃ us : List Value,us.length = es ∧ SlAt w es (.slice (some ⟨b,o,none⟩) (n + 1) c) (cells ++ us) bo := by
  obtain ⟨g1,g3,g4,cs,t,g5,g6,g7⟩ := h.inv
  have hmul : (n + 1) * es ≤ c * es := Nat.mul_le_mul_right _ hc
  rw [Nat.add_mul,Nat.one_mul] at hmul
  have hlen : ((cs.toList.drop (o + n * es)).take es).length = es := by
    simp only [List.length_take,List.length_drop,Array.length_toList]; omega
  refine ⟨(cs.toList.drop (o + n * es)).take es,hlen,.inr ⟨b,o,n + 1,c,cs,t,g1,rfl,hc,by rw [List.length_append,hlen,g4,Nat.add_mul,Nat.one_mul],g5,g6,fun i hi => ?_⟩⟩
  rw [List.length_append,hlen] at hi
  by_cases h1 : i < cells.length
  · rw [g7 i h1,List.getElem?_append_left h1]
  · rw [List.getElem?_append_right (by omega),List.getElem?_take,if_pos (by omega),List.getElem?_drop,Array.getElem?_toList,show o + n * es + (i - cells.length) = o + i by omega]
theorem ins_growW (l X Z : List Value) (K E : Nat) (hk : K ≤ l.length) (hX : X.length = E) (hZ : l.length + E = K + Z.length) :
    ((l.take K ++ Z).take K ++ X ++ (l.take K ++ Z).drop (K + E)).take (K + E) ++ l.drop K ++ ((l.take K ++ Z).take K ++ X ++ (l.take K ++ Z).drop (K + E)).drop (K + E + (l.drop K).length) = l.take K ++ X ++ l.drop K := by
  have hlt : (l.take K).length = K := by rw [List.length_take]; omega
  have e1 : (l.take K ++ Z).take K = l.take K := by
    rw [List.take_append_of_le_length (by omega),List.take_take,Nat.min_self]
  rw [e1]
  have hl1 : (l.take K ++ X).length = K + E := by rw [List.length_append,hlt,hX]
  have e2 : (l.take K ++ X ++ (l.take K ++ Z).drop (K + E)).take (K + E) = l.take K ++ X := by
    rw [List.take_append_of_le_length (by omega),List.take_of_length_le (by omega)]
  have e3 : (l.take K ++ X ++ (l.take K ++ Z).drop (K + E)).drop (K + E + (l.drop K).length) = [] :=
    List.drop_eq_nil_of_le (by simp only [List.length_append,List.length_take,List.length_drop,hX]; omega)
  rw [e2,e3,List.append_nil]
theorem ins_hereW (l X U : List Value) (K E : Nat) (hk : K ≤ l.length) (hX : X.length = E) (hU : U.length = E) (hE : K + E ≤ l.length) :
    (((l ++ U).take (K + E) ++ l.drop K ++ (l ++ U).drop (K + E + (l.drop K).length)).take K ++ X ++ ((l ++ U).take (K + E) ++ l.drop K ++ (l ++ U).drop (K + E + (l.drop K).length)).drop (K + E)) = l.take K ++ X ++ l.drop K := by
  have e0 : (l ++ U).take (K + E) = l.take (K + E) := List.take_append_of_le_length hE
  have hlt : (l.take (K + E)).length = K + E := by rw [List.length_take]; omega
  have e3 : (l ++ U).drop (K + E + (l.drop K).length) = [] := List.drop_eq_nil_of_le (by simp only [List.length_append,List.length_drop]; omega)
  rw [e0,e3,List.append_nil]
  have e1 : (l.take (K + E) ++ l.drop K).take K = l.take K := by
    rw [List.take_append_of_le_length (by omega),List.take_take,Nat.min_eq_left (by omega)]
  have e2 : (l.take (K + E) ++ l.drop K).drop (K + E) = l.drop K := by
    rw [List.drop_append_of_le_length (by omega),List.drop_eq_nil_of_le (by omega),List.nil_append]
  rw [e1,e2]
end Go.Vk
end
section
namespace Go.Vk
open Go
structure OpS where
  node : Int
  space : Int
  name : ByteArray
def OpS.cells (o : OpS) : List Value := [.int .i64 o.node,.int .i64 o.space,.string o.name]
def OpS.row (o : OpS) : Array Value := #[.int .i64 o.node,.int .i64 o.space,.string o.name]
theorem OpS.len3 (o : OpS) : o.cells.length = 3 := rfl
def opCells (l : List OpS) : List Value := l.flatMap OpS.cells
def zO : Value := .agg #[.int .i64 0,.int .i64 0,.string ⟨#[]⟩]
theorem opCells_length (l : List OpS) : (opCells l).length = l.length * 3 := by
  induction l with
  | nil => rfl
  | cons y l ih => simp only [opCells,List.flatMap_cons,List.length_append,List.length_cons] at ih ⊢; rw [ih]; simp [OpS.cells]; omega
theorem opCells_append (a b : List OpS) : opCells (a ++ b) = opCells a ++ opCells b := by simp [opCells]
theorem opCells_one (l : List OpS) : (opCells l).all oneCell = true := by simp [opCells,OpS.cells,oneCell]
theorem opCells_take : ∀ (l : List OpS) (k : Nat), (opCells l).take (k * 3) = opCells (l.take k)
  | [],k => by simp [opCells]
  | z :: l,0 => by simp [opCells]
  | z :: l,k + 1 => by
    have e : opCells (z :: l) = [.int .i64 z.node,.int .i64 z.space,.string z.name] ++ opCells l := by simp [opCells,OpS.cells]
    rw [List.take_succ_cons,e,show (k + 1) * 3 = k * 3 + 1 + 1 + 1 by omega]
    simp only [List.cons_append,List.nil_append,List.take_succ_cons]
    rw [opCells_take l k]
    simp [opCells,OpS.cells]
theorem opCells_drop : ∀ (l : List OpS) (k : Nat), (opCells l).drop (k * 3) = opCells (l.drop k)
  | [],k => by simp [opCells]
  | z :: l,0 => by simp
  | z :: l,k + 1 => by
    have e : opCells (z :: l) = [.int .i64 z.node,.int .i64 z.space,.string z.name] ++ opCells l := by simp [opCells,OpS.cells]
    rw [List.drop_succ_cons,e,show (k + 1) * 3 = k * 3 + 1 + 1 + 1 by omega]
    simp only [List.cons_append,List.nil_append,List.drop_succ_cons]
    exact opCells_drop l k
theorem opCells_ins (l : List OpS) (x : OpS) (k : Nat) : opCells (l.take k ++ x :: l.drop k) = (opCells l).take (k * 3) ++ x.cells ++ (opCells l).drop (k * 3) := by
  rw [opCells_take,opCells_drop]; simp [opCells]
theorem opCells_get : ∀ {l : List OpS} {i : Nat} {y : OpS}, l[i]? = some y → (opCells l)[i * 3]? = some (.int .i64 y.node) ∧ (opCells l)[i * 3 + 1]? = some (.int .i64 y.space) ∧ (opCells l)[i * 3 + 2]? = some (.string y.name)
  | [],i,y,h => by simp at h
  | z :: l,0,y,h => by
    simp at h; subst h
    exact ⟨rfl,rfl,rfl⟩
  | z :: l,i + 1,y,h => by
    have := opCells_get (l := l) (i := i) (y := y) (by simpa using h)
    have e : opCells (z :: l) = [.int .i64 z.node,.int .i64 z.space,.string z.name] ++ opCells l := by simp [opCells,OpS.cells]
    rw [e,show (i + 1) * 3 = i * 3 + 1 + 1 + 1 by omega]
    exact this
theorem ops_ne {l : List OpS} {k : Nat} (h : k < l.length) : opCells l ≠ [] := fun e => by
  have := opCells_length l
  rw [e] at this; simp at this; omega
theorem ops_len {w : World} {v : Value} {l : List OpS} {bo : Option Nat} (h : SlAt w 3 v (opCells l) bo) : ∃ a c,v = .slice a l.length c ∧ l.length ≤ c := by
  obtain ⟨a,n,c,rfl,h1,h2⟩ := h.len
  rw [opCells_length] at h2
  obtain rfl : n = l.length := by omega
  exact ⟨a,c,rfl,h1⟩
theorem ops_cell {w : World} {v : Value} {l : List OpS} {bo : Option Nat} (h : SlAt w 3 v (opCells l) bo) {i : Nat} {y : OpS} (hy : l[i]? = some y) : ∃ b o c,v = .slice (some ⟨b,o,none⟩) l.length c ∧ bo = some b ∧ cellO (w.heap[b]?) (o + i * 3) = some (.int .i64 y.node) ∧ cellO (w.heap[b]?) (o + i * 3 + 1) = some (.int .i64 y.space) ∧ cellO (w.heap[b]?) (o + i * 3 + 2) = some (.string y.name) := by
  obtain ⟨a,c,rfl,h1⟩ := ops_len h
  obtain ⟨b,o,n',c',e,hb⟩ := h.some_of (ops_ne (List.getElem?_eq_some_iff.1 hy).1)
  cases e
  obtain ⟨g1,g2,g3⟩ := opCells_get hy
  refine ⟨b,o,c,rfl,hb,?_,?_,?_⟩
  · rw [← cell_h]; exact h.get g1
  · rw [← cell_h,Nat.add_assoc]; exact h.get g2
  · rw [← cell_h,Nat.add_assoc]; exact h.get g3
end Go.Vk
namespace Go.Proofs.YtgnnlaeikcnhcaaGreatDoor
open Go Go.Vk
theorem styO : STy Tryz.prog 118 127 3 := ⟨Tryz.underlying118,fun w => by simp [Tryz.sizeOf127,Sem.run],fun w => ⟨_,by simp [Tryz.typeInfo127,Sem.run]; rfl,by decide,by decide⟩,fun w => ⟨_,by simp [Tryz.zeroValue127,Sem.run]; rfl,by decide⟩⟩
set_option maxHeartbeats 40000000
theorem overlaps_o {w : World} {va vb : Value} {a b : Addr} {la ca lb cb : Nat} (ea : va = .slice (some a) la ca) (eb : vb = .slice (some b) lb cb) (hne : a.block ≠ b.block) {tA tB : TypeId} {kA kB : Nat}
    (hsa : w.shape? a.block = some (tA,kA)) (hsb : w.shape? b.block = some (tB,kB)) (hkB : kB ≠ 0) (hfa : w.frozen? a = false) (hfe : w.frozen? { block := a.block,off := kA } = false) :
    Gives Tryz.prog 231 #[va,vb] w fun v w' => v = .bool false ∧ w' = w := by
  subst ea; subst eb
  refine Gives.of_ext (v := .bool false) (w' := w) ?_ ⟨rfl,rfl⟩
  rw [run_callFunc_extern Tryz.func231 (by kernel_rfl) (by kernel_rfl) (by kernel_rfl) (e := Extern.SlicesOverlaps.overlaps #[118,118] #[4]) (by kernel_rfl),
    Lib.run_overlaps_apart w 118 4 127 Tryz.underlying118 3 (fun w => by simp [Tryz.sizeOf127,Sem.run]) a b la ca lb cb hne tA tB kA kB hsa hsb hkB hfa hfe]
  rfl
theorem delete_o {w : World} {v : Value} {l : List OpS} {bo : Option Nat} (h : SlAt w 3 v (opCells l) bo) (hl : l.length < 100000) (k : Nat) (hk : k < l.length) :
    Gives Tryz.prog 233 #[v,.int .i64 (k : Int),.int .i64 ((k : Int) + 1)] w fun u w' => SlAt w' 3 u (opCells (l.eraseIdx k)) bo ∧ Upd (fun b => bo = some b) w w' := by
  obtain ⟨b,o,n,c,rfl,hbo⟩ := h.some_of (ops_ne hk)
  obtain ⟨_,g3,g4,_⟩ := h.inv
  rw [opCells_length] at g4
  have g4 : l.length = n := by omega
  obtain ⟨N,hN⟩ : ∃ N,n = N + 1 := ⟨n - 1,by omega⟩
  subst hN
  have s1 : (0 : Int) ≤ k := by omega
  have s2 : (k : Int) ≤ c := by omega
  have s3 : (k : Int) + 1 ≤ (N : Int) + 1 := by omega
  have s4 : (N : Int) + 1 ≤ c := by omega
  have s5 : (0 : Int) ≤ (k : Int) + 1 := by omega
  have s7 : ((k : Int) + 1).toNat = k + 1 := by omega
  have s8 : (k : Int) + 1 ≤ c := by omega
  have s9 : (k : Int) ≤ (k : Int) + 1 := by omega
  have s10 : ((k : Int) = (k : Int) + 1) = False := eq_false (by omega)
  have s11 : (0 : Int) ≤ (N : Int) + 1 := by omega
  have s12 : ((N : Int) + 1).toNat = N + 1 := by omega
  have s13 : (k : Int) ≤ (N : Int) + 1 := by omega
  refine Gives.of_W Tryz.call233 Tryz.func233 rfl Tryz.ntmps233 (by simp) ?_; intro Z hZ
  (repeat first|(with_reducible first|(refine hK _ _ ?_;clear hK K)|refine ‹∀σ w,_→K σ w› _ _ ?_|(refine W_st ?_;constructor;try intro K hK))|((with_reducible first|refine hZ _ _ ?_|refine W_rg ?_|skip);repeat1' simp only[push_cast,seval,-Nat.reduceSubDiff,s1,s2,s3,s4,s5,s7,s8,s9,s10,s11,s12,s13,Int.le_refl])|((repeat((fail_if_success with_reducible refine hK _ _ ?_);clear hK K));with_reducible refine hK _ _ ?_;clear hK K))
  refine W_draw (.pas 0 (.pas 1 (.pas 2 (.pas 3 (.pas 4 (.pas 5 (.tail [6,7]))))))) (fun _ => False) (by decide) mixed (by kernel_rfl) ?_
  (repeat (first | ((first | refine pas_plain rfl ?_ | refine pas_g rfl rfl ?_ | refine act_plain rfl ?_ | refine act_g rfl rfl ?_ | refine last_plain rfl ?_ | refine tail_plain rfl ?_ | refine tail_g rfl rfl ?_); (repeat simp only [push_cast,seval,-Nat.reduceSubDiff,s1,s2,s3,s4,s5,s7,s8,s9,s10,s11,s12,s13,Int.le_refl])) | (refine tail_fin ?_) | (refine sch_fin ?_)))
  have hd := h.ext (Ext.drew w)
  have x1 := hd.partW (l := 0) (k := k) (m := c) (by omega) (by omega) (by omega) (by omega)
  have x2 := hd.partW (l := k + 1) (k := N + 1) (m := c) (by omega) (by omega) (by omega) (by omega)
  rw [opCells_drop,opCells_take] at x1 x2
  refine app_in styO styO.und (by decide) (m := N + 1 - (k + 1)) x1 x2.rd (opCells_one _) (by rw [opCells_length,opCells_length]; simp; omega) (by rw [opCells_length]; simp; omega) (by omega) ?_
  intro w1 g1 g2
  have eA : (if c = 0 then some (⟨b,o,none⟩ : Addr) else Option.map (fun x : Addr => x.add (0 * 3)) (some ⟨b,o,none⟩)) = some ⟨b,o,none⟩ := by rw [if_neg (by omega)]; rfl
  have eN : k - 0 + (N + 1 - (k + 1)) = N := by omega
  rw [eA,eN,Nat.sub_zero,← opCells_append] at g1
  rw [eA,eN,Nat.sub_zero,Nat.sub_zero]
  have eL : (l.drop 0).take k ++ (l.drop (k + 1)).take (N + 1 - (k + 1)) = l.eraseIdx k := by
    rw [List.eraseIdx_eq_take_drop_succ,List.drop_zero,List.take_of_length_le (l := l.drop (k + 1)) (by simp; omega)]
  rw [List.drop_zero] at eL g1
  rw [Nat.sub_zero,eL] at g1
  have s20 : (0 : Int) ≤ (N : Int) := by omega
  have s21 : (N : Int) ≤ (N : Int) + 1 := by omega
  have s22 : (c = N) = False := eq_false (by omega)
  have s23 : N + 1 - N = 1 := by omega
  refine D0 ?_
  (repeat revert hK K);refine W7 @s4 @s11 @s12 @s20 @s21 @s22 @s23 ?_;repeat with_reducible intro K hK
  rw [Option.map_some,add_mk]
  refine clear_W styO.und (es := 3) (z := zO) (fun w => by simp [zO,Tryz.zeroValue127,Sem.run]) rfl rfl (fun j hj => ?_) ?_
  · have := g1.canW (q := N * 3 + j) (by omega)
    rw [Nat.add_assoc]; exact this
  have hb1 : bo = some b := hbo
  have hlen : (opCells (l.eraseIdx k)).length = N * 3 := by rw [opCells_length,List.length_eraseIdx,if_pos hk]; congr 1; omega
  have g3 := g1.beyond (q := o + N * 3) (by omega) (Builtin.zeroCells zO.cells 1).toList
  have g4 : Upd (fun b => bo = some b) w (setCells w1 ⟨b,o + N * 3,none⟩ (Builtin.zeroCells zO.cells 1).toList 0) :=
    Upd.trans ((Ext.drew w).upd.trans g2 fun _ _ h => h) (Upd.setCells (F := fun b => bo = some b) (a := ⟨b,o + N * 3,none⟩) w1 hb1 _ 0) fun _ _ h => h
  (repeat revert hK K);refine W0 ?_;repeat with_reducible intro K hK
  exact ⟨g3,g4⟩
theorem insert_o {w : World} {v : Value} {l : List OpS} {bo : Option Nat} (h : SlAt w 3 v (opCells l) bo) (hl : l.length < 100000) {bx : Nat} {x : OpS} (hx : w.heap[bx]? = some (.cells x.row 127 (0,0))) (hne : bo ≠ some bx) (k : Nat) (hk : k ≤ l.length) :
    Gives Tryz.prog 198 #[v,.int .i64 (k : Int),.slice (some ⟨bx,0,none⟩) 1 1] w fun u w' => ∃ bo',SlAt w' 3 u (opCells (l.take k ++ x :: l.drop k)) bo' ∧ Upd (fun b => bo = some b) w w' ∧ ∀ b,bo' = some b → bo = some b ∨ w.heap.size ≤ b := by
  have hxs : SlAt w 3 (.slice (some ⟨bx,0,none⟩) 1 1) (opCells [x]) (some bx) := .inr ⟨bx,0,1,1,_,_,rfl,rfl,Nat.le_refl _,rfl,.of hx,by simp [OpS.row],fun i hi => by
    rw [Nat.zero_add]; simp [opCells,OpS.cells,OpS.row]⟩
  obtain ⟨a,c,rfl,hc⟩ := ops_len h
  have s1 : (0 : Int) ≤ k := by omega
  have s2 : (k : Int) ≤ (l.length : Int) := by omega
  have s3 : (l.length : Int) ≤ c := by omega
  have s4 : (k : Int) ≤ c := by omega
  have s5 : ((1 : Int) = 0) = False := by decide
  by_cases hkl : k = l.length
  · subst hkl
    refine Gives.of_W Tryz.call198 Tryz.func198 rfl Tryz.ntmps198 (by simp) ?_; intro Z hZ
    (repeat revert hK K);refine W6 @s1 @s2 @s3 @s4 @s5 @Int.le_refl ?_;repeat with_reducible intro K hK
    refine app_to styO styO.und (by decide) h hxs (opCells_one _) (by rw [opCells_length,opCells_length]; simp; omega) ?_
    intro v' w' bo' g1 g2 g3
    rw [← opCells_append] at g1
    (repeat revert hK K);refine W0 ?_;repeat with_reducible intro K hK
    rw [List.take_length,List.drop_length]
    exact ⟨bo',g1,g2,g3⟩
  · have hlt : k < l.length := by omega
    obtain ⟨b,o,n0,c0,e0,hbo⟩ := h.some_of (ops_ne hlt)
    cases e0
    obtain ⟨_,_,_,cs,ct,hHB,hcs,_⟩ := h.inv
    have hbx : b ≠ bx := fun e => hne (by rw [hbo,e])
    generalize hn : l.length = n at *
    have s6 : ((k : Int) = (n : Int)) = False := eq_false (by omega)
    have s7 : inI64 ((n : Int) + 1) := by unfold inI64; omega
    have s8 : inI64 ((n : Int) + 1 - k) := by unfold inI64; omega
    have s9 : inI64 ((k : Int) + 1) := by unfold inI64; omega
    have s10 : (0 : Int) ≤ (k : Int) + 1 := by omega
    have s11 : ((k : Int) + 1).toNat = k + 1 := by omega
    have s12 : (0 : Int) ≤ (n : Int) + 1 := by omega
    have s13 : ((n : Int) + 1).toNat = n + 1 := by omega
    have s14 : (k : Int) ≤ (n : Int) + 1 := by omega
    have s15 : (k : Int) + 1 ≤ (n : Int) + 1 := by omega
    by_cases hroom : n + 1 ≤ c
    · have r1 : ¬ (c : Int) < (n : Int) + 1 := by omega
      have r2 : (n : Int) + 1 ≤ c := by omega
      obtain ⟨u,hul,hu⟩ := h.longerW hroom
      refine Gives.of_W Tryz.call198 Tryz.func198 rfl Tryz.ntmps198 (by simp) ?_; intro Z hZ
      (repeat revert hK K);refine W8 @s1 @s2 @s3 @s4 @s5 @s6 @s7 @Int.le_refl ?_;repeat with_reducible intro K hK
      refine cap_part styO.und ?_
      have z0 : (c = 0) = False := eq_false (by omega)
      have z1 : (c = k) = False := eq_false (by omega)
      have z2 : (c = k + 1) = False := eq_false (by omega)
      have hHB' := hHB
      obtain ⟨f,hf,hbk⟩ := hHB'
      have hsb : w.shape? b = some (ct,cs.size) := by simp [World.shape?,hbk]
      have hsx : w.shape? bx = some (127,3) := by simp [World.shape?,hx,OpS.row]
      have hfa : w.frozen? ⟨bx,0,none⟩ = false := by rw [froz_h,hx]; rfl
      have hfe : w.frozen? ⟨bx,3,none⟩ = false := by rw [froz_h,hx]; rfl
      (repeat first|(with_reducible first|(refine hK _ _ ?_;clear hK K)|refine ‹∀σ w,_→K σ w› _ _ ?_|(refine W_st ?_;constructor;try intro K hK))|((with_reducible first|refine hZ _ _ ?_|refine W_rg ?_|skip);repeat1' simp only[push_cast,seval,-Nat.reduceSubDiff,r1,r2,s7,s9,s10,s11,s12,s13,s14,s15,z0,z1,z2,Nat.sub_zero,Int.sub_zero,Option.map_some])|((repeat((fail_if_success with_reducible refine hK _ _ ?_);clear hK K));with_reducible refine hK _ _ ?_;clear hK K))
      refine (overlaps_o (a := ⟨bx,0,none⟩) (b := ⟨b,o + (k + 1) * 3,none⟩) rfl rfl (fun e => hbx e.symm) hsx hsb (by omega) hfa hfe).mono ?_
      rintro v' w' ⟨rfl,rfl⟩
      (repeat revert hK K);refine W1 @s9 ?_;repeat with_reducible intro K hK
      refine W_draw (.pas 0 (.pas 1 (.pas 2 (.pas 3 (.pas 4 (.pas 5 (.pas 6 (.pas 7 (.tail [8]))))))))) (fun _ => False) (by decide) mixed (by kernel_rfl) ?_
      (repeat (first | ((first | refine pas_plain rfl ?_ | refine pas_g rfl rfl ?_ | refine act_plain rfl ?_ | refine act_g rfl rfl ?_ | refine last_plain rfl ?_ | refine tail_plain rfl ?_ | refine tail_g rfl rfl ?_); (repeat simp only [push_cast,seval,-Nat.reduceSubDiff,s1,s2,s3,s4,r2,s9,s10,s11,s12,s13,s14,s15,z0,z1,z2,Nat.sub_zero,Int.sub_zero,Option.map_some])) | (refine tail_fin ?_) | (refine sch_fin ?_)))
      have hLl : (opCells l).length = n * 3 := by rw [opCells_length,hn]
      have hud := hu.ext (Ext.drew w')
      have p1 := hud.part (l := k) (k := n + 1) (m := c) (by omega) (by omega) (by omega) (by omega)
      have hc2l : (((opCells l ++ u).drop (k * 3)).take ((n + 1 - k) * 3)).length = (n + 1 - k) * 3 := by
        simp only [List.length_take,List.length_drop,List.length_append,hul,hLl]; omega
      have e1 : (((opCells l ++ u).drop (k * 3)).take ((n + 1 - k) * 3)).take ((n - k) * 3) = (opCells l).drop (k * 3) := by
        rw [List.take_take,Nat.min_eq_left (by omega),List.drop_append_of_le_length (by omega),List.take_append_of_le_length (by rw [List.length_drop]; omega),List.take_of_length_le (by rw [List.length_drop]; omega)]
      have p2 : RdAt w'.drew 3 (.slice (some ⟨b,o + k * 3,none⟩) (n + 1 - k) (c - k)) (((opCells l ++ u).drop (k * 3)).take ((n + 1 - k) * 3)) := p1.rd
      refine copy_W styO.und (es := 3) (fun w => by simp [Tryz.sizeOf127,Sem.run]) (k := n - k) p2 (by rw [e1]; have := opCells_one l; rw [List.all_eq_true] at this ⊢; exact fun y hy => this y (List.mem_of_mem_drop hy)) (by omega) (fun q hq => ?_) ?_
      · have := hud.canW (q := (k + 1) * 3 + q) (by omega)
        rw [Nat.add_assoc]; exact this
      rw [e1]
      have hu1 := hud.writeW (q := (k + 1) * 3) ((opCells l).drop (k * 3)) (by rw [List.length_drop]; omega)
      have hbo' : bo = some b := hbo
      have up1 : Upd (fun b => bo = some b) w' (setCells w'.drew ⟨b,o + (k + 1) * 3,none⟩ ((opCells l).drop (k * 3)) 0) :=
        Upd.trans (Ext.drew w').upd (Upd.setCells (F := fun b => bo = some b) (a := ⟨b,o + (k + 1) * 3,none⟩) w'.drew hbo' _ 0) fun _ _ h => h
      have hxs1 := hxs.upd up1 fun q hq e => hne (by rw [e]; exact hq.symm ▸ rfl)
      generalize setCells w'.drew ⟨b,o + (k + 1) * 3,none⟩ ((opCells l).drop (k * 3)) 0 = w1 at *
      refine D0 ?_
      (repeat first|(with_reducible first|(refine hK _ _ ?_;clear hK K)|refine ‹∀σ w,_→K σ w› _ _ ?_|(refine W_st ?_;constructor;try intro K hK))|((with_reducible first|refine hZ _ _ ?_|refine W_rg ?_|skip);repeat1' simp only[push_cast,seval,-Nat.reduceSubDiff,s1,s2,s3,s4,r2,s14,s12,z0,z1,z2,Nat.sub_zero,Int.sub_zero,Option.map_some])|((repeat((fail_if_success with_reducible refine hK _ _ ?_);clear hK K));with_reducible refine hK _ _ ?_;clear hK K))
      refine copy_W styO.und (es := 3) (fun w => by simp [Tryz.sizeOf127,Sem.run]) (k := 1) hxs1.rd (by simp [opCells,OpS.cells,oneCell]) (by omega) (fun q hq => ?_) ?_
      · have := hu1.canW (q := k * 3 + q) (by omega)
        rw [Nat.add_assoc]; exact this
      have e3 : (opCells [x]).take (1 * 3) = x.cells := rfl
      rw [e3]
      have hu2 := hu1.writeW (q := k * 3) x.cells (by rw [x.len3]; omega)
      rw [x.len3,show (k + 1) * 3 = k * 3 + 3 by omega,ins_hereW (opCells l) x.cells u (k * 3) 3 (by omega) x.len3 hul (by omega)] at hu2
      have up2 : Upd (fun b => bo = some b) w' (setCells w1 ⟨b,o + k * 3,none⟩ x.cells 0) :=
        Upd.trans up1 (Upd.setCells (F := fun b => bo = some b) (a := ⟨b,o + k * 3,none⟩) w1 hbo' _ 0) fun _ _ h => h
      (repeat revert hK K);refine W0 ?_;repeat with_reducible intro K hK
      exact ⟨bo,by rw [opCells_ins]; exact hu2,up2,fun b hb => .inl hb⟩
    · have r1 : (c : Int) < (n : Int) + 1 := by omega
      refine Gives.of_W Tryz.call198 Tryz.func198 rfl Tryz.ntmps198 (by simp) ?_; intro Z hZ
      (repeat revert hK K);refine W8 @s1 @s2 @s3 @s4 @s5 @s6 @s7 @Int.le_refl ?_;repeat with_reducible intro K hK
      refine cap_part styO.und ?_
      (repeat revert hK K);refine W5 @r1 @s1 @s4 @s7 @s8 ?_;repeat with_reducible intro K hK
      have hLl : (opCells l).length = n * 3 := by rw [opCells_length,hn]
      have x1 := h.partW (l := 0) (k := k) (m := c) (by omega) (by omega) (by omega) (by omega)
      rw [Nat.zero_mul,List.drop_zero,Nat.sub_zero] at x1
      refine app_zerosW (es := 3) (by decide) styO Tryz.underlying3 (z := zO) (fun w => by simp [zO,Tryz.zeroValue127,Sem.run]) rfl rfl x1 (n := n + 1 - k) (by omega) (by simp [hLl]; omega) ?_
      intro v1 w1 bo1 g1 g2 g3 g4
      obtain ⟨hx1,hf1,b1,o1,c1,rfl⟩ := g4 _ _ _ rfl (by omega)
      have eN : k - 0 + (n + 1 - k) = n + 1 := by omega
      rw [Nat.sub_zero] at eN
      rw [eN] at g1
      rw [Nat.sub_zero,eN]
      have hZl : (Builtin.zeroCells zO.cells (n + 1 - k)).toList.length = (n + 1 - k) * 3 := by rw [Array.length_toList,zeroCells_size]; rfl
      obtain ⟨hb1,hc1,_⟩ := g1.inv
      have t1 : (k : Int) ≤ c1 := by omega
      have t2 : (c1 = k) = False := eq_false (by omega)
      have t3 : (c1 = k + 1) = False := eq_false (by omega)
      have t4 : (n : Int) + 1 ≤ c1 := by omega
      have t5 : (c = k) = False := eq_false (by omega)
      have hxs1 := hxs.ext hx1
      have hh1 := h.ext hx1
      have hfr := hf1 b1 hb1
      (repeat first|(with_reducible first|(refine hK _ _ ?_;clear hK K)|refine ‹∀σ w,_→K σ w› _ _ ?_|(refine W_st ?_;constructor;try intro K hK))|((with_reducible first|refine hZ _ _ ?_|refine W_rg ?_|skip);repeat1' simp only[push_cast,seval,-Nat.reduceSubDiff,s1,s2,s3,s4,s9,s10,s11,s12,s13,s14,s15,t1,t2,t4,Option.map_some])|((repeat((fail_if_success with_reducible refine hK _ _ ?_);clear hK K));with_reducible refine hK _ _ ?_;clear hK K))
      refine copy_W styO.und (es := 3) (fun w => by simp [Tryz.sizeOf127,Sem.run]) (k := 1) hxs1.rd (by simp [opCells,OpS.cells,oneCell]) (by omega) (fun q hq => ?_) ?_
      · have := g1.canW (q := k * 3 + q) (by omega)
        rw [Nat.add_assoc]; exact this
      have e3 : (opCells [x]).take (1 * 3) = x.cells := rfl
      rw [e3]
      have hu1 := g1.writeW (q := k * 3) x.cells (by rw [x.len3]; omega)
      rw [x.len3] at hu1
      have hbl : ∀ q,bo = some q → q < w.heap.size := fun q hq => by rw [hq] at h; exact h.lt
      have hh2 := hh1.upd (Upd.setCells (F := fun q => q = b1) (a := ⟨b1,o1 + k * 3,none⟩) w1 rfl x.cells 0) fun q hq e => by have := hbl q hq; omega
      have hx2 : Ext w (setCells w1 ⟨b1,o1 + k * 3,none⟩ x.cells 0) := Upd.trans hx1 (Upd.setCells (F := fun q => q = b1) (a := ⟨b1,o1 + k * 3,none⟩) w1 rfl _ 0) fun q hq e => by omega
      generalize setCells w1 ⟨b1,o1 + k * 3,none⟩ x.cells 0 = w2 at *
      (repeat revert hK K);refine W0 ?_;repeat with_reducible intro K hK
      refine W_draw (.pas 0 (.pas 1 (.pas 2 (.pas 3 (.pas 4 (.pas 5 (.pas 6 (.pas 7 (.tail [8]))))))))) (fun _ => False) (by decide) mixed (by kernel_rfl) ?_
      (repeat (first | ((first | refine pas_plain rfl ?_ | refine pas_g rfl rfl ?_ | refine act_plain rfl ?_ | refine act_g rfl rfl ?_ | refine last_plain rfl ?_ | refine tail_plain rfl ?_ | refine tail_g rfl rfl ?_); (repeat simp only [push_cast,seval,-Nat.reduceSubDiff,s1,s2,s3,s4,s9,s10,s11,s12,s13,s14,s15,t1,t2,t3,t4,t5,Option.map_some,Int.le_refl])) | (refine tail_fin ?_) | (refine sch_fin ?_)))
      have q1 := (hh2.ext (Ext.drew w2)).part (l := k) (k := n) (m := c) (by omega) (by omega) (by omega) (by omega)
      have eD : ((opCells l).drop (k * 3)).take ((n - k) * 3) = (opCells l).drop (k * 3) := List.take_of_length_le (by rw [List.length_drop]; omega)
      rw [eD] at q1
      have hdl : ((opCells l).drop (k * 3)).length = (n - k) * 3 := by rw [List.length_drop]; omega
      have hone : ((opCells l).drop (k * 3)).all oneCell = true := by
        have := opCells_one l
        rw [List.all_eq_true] at this ⊢
        exact fun y hy => this y (List.mem_of_mem_drop hy)
      have hud := hu1.ext (Ext.drew w2)
      refine copy_W styO.und (es := 3) (fun w => by simp [Tryz.sizeOf127,Sem.run]) (k := n - k) q1.rd (by rw [eD]; exact hone) (by omega) (fun q hq => ?_) ?_
      · have := hud.canW (q := (k + 1) * 3 + q) (by omega)
        rw [Nat.add_assoc]; exact this
      rw [eD]
      have hu3 := hud.writeW (q := (k + 1) * 3) ((opCells l).drop (k * 3)) (by omega)
      have e13 : (k + 1) * 3 = k * 3 + 3 := by omega
      rw [e13,ins_growW (opCells l) x.cells (Builtin.zeroCells zO.cells (n + 1 - k)).toList (k * 3) 3 (by omega) x.len3 (by omega),← e13] at hu3
      have hx3 : Ext w (setCells w2.drew ⟨b1,o1 + (k + 1) * 3,none⟩ ((opCells l).drop (k * 3)) 0) := Upd.trans (hx2.trans (Ext.drew w2)) (Upd.setCells (F := fun q => q = b1) (a := ⟨b1,o1 + (k + 1) * 3,none⟩) w2.drew rfl _ 0) fun q hq e => by omega
      refine D0 ?_
      (repeat revert hK K);refine W0 ?_;repeat with_reducible intro K hK
      exact ⟨bo1,by rw [opCells_ins]; exact hu3,hx3.upd,fun b hb => .inr (hf1 b hb)⟩
end Go.Proofs.YtgnnlaeikcnhcaaGreatDoor
end
section
namespace Go.Proofs.YtgnnlaeikcnhcaaGreatDoor
open Go Go.Shelf Go.Vk Go.Proofs
def laysContains_ren : Go.Shelf.Ren := ⟨fun | 144 => 211 | 143 => 234 | 219 => 244 | 217 => 249 | 225 => 250 | 224 => 251 | 267 => 252 | 266 => 253 | 314 => 254 | n => n,fun | 9 => 9 | 4 => 4 | 3 => 3 | 5 => 5 | 46 => 220 | 146 => 222 | 51 => 221 | n => n,fun | 1 => 4 | n => n⟩
theorem laysContains : Go.Proofs.Lays.n144 Tryz.prog laysContains_ren := {
  mixed := by kernel_rfl
  f143 := Tryz.func234.trans (congrArg some (by kernel_rfl))
  f144 := Tryz.func211.trans (congrArg some (by kernel_rfl))
  f217 := Tryz.func249.trans (congrArg some (by kernel_rfl))
  f219 := Tryz.func244.trans (congrArg some (by kernel_rfl))
  f224 := Tryz.func251.trans (congrArg some (by kernel_rfl))
  f225 := Tryz.func250.trans (congrArg some (by kernel_rfl))
  f266 := Tryz.func253.trans (congrArg some (by kernel_rfl))
  f267 := Tryz.func252.trans (congrArg some (by kernel_rfl))
  f314 := Tryz.func254.trans (congrArg some (by kernel_rfl))
  t3 := Tryz.underlying3
  a3 := Tryz.isAgg3
  z3 := Tryz.sizeOf3
  v3 := Tryz.zeroValue3
  t4 := Tryz.underlying4
  a4 := Tryz.isAgg4
  z4 := Tryz.sizeOf4
  v4 := Tryz.zeroValue4
  t5 := Tryz.underlying5
  a5 := Tryz.isAgg5
  z5 := Tryz.sizeOf5
  v5 := Tryz.zeroValue5
  t9 := Tryz.underlying9
  a9 := Tryz.isAgg9
  z9 := Tryz.sizeOf9
  v9 := Tryz.zeroValue9
  t46 := Tryz.underlying220
  a46 := Tryz.isAgg220
  z46 := Tryz.sizeOf220
  v46 := Tryz.zeroValue220
  t51 := Tryz.underlying221
  a51 := Tryz.isAgg221
  z51 := Tryz.sizeOf221
  v51 := Tryz.zeroValue221
  t146 := Tryz.underlying222
  a146 := Tryz.isAgg222
  z146 := Tryz.sizeOf222
  v146 := Tryz.zeroValue222
  g1 := by kernel_rfl }
def MaxAt (w : World) : Prop := ∃ m,w.cell? ⟨4,0,none⟩ = some (.int .i64 m)
theorem MaxAt.ext {w w' : World} (h : MaxAt w) (hx : Ext w w') : MaxAt w' := let ⟨m,h⟩ := h; ⟨m,cell_ext hx h⟩
theorem maxAt_of {w : World} (h : w.ShapedOpen Tryz.prog) : MaxAt w :=
  Go.Proofs.cell_of_shapedOpen_int (zero := #[.int .i64 0]) (t := 3) h (of_decide_eq_true (by kernel_rfl)) (by kernel_rfl) rfl (by kernel_rfl) (by kernel_rfl) Tryz.underlying3
theorem contains_one_c (s : ByteArray) (c : UInt8) (w : World) : Gives Tryz.prog 211 #[.string s,.string ⟨#[c]⟩] w fun v w' => v = .bool (decide (0 ≤ Lib.indexByte s.data.toList c)) ∧ w' = w :=
  .inl ⟨Tryz.call211,(Any.strings_Contains_one laysContains s c w).mono fun _ _ ⟨h1,h2⟩ => ⟨_,h1,rfl,h2⟩⟩
theorem strcont_c (s sub : ByteArray) {w : World} (hs : s.size < 4294967281) (hm : MaxAt w) : Gives Tryz.prog 211 #[.string s,.string sub] w fun v w' => v = .bool (Lib.contains s.data.toList sub.data.toList) ∧ w' = w := by
  obtain ⟨m,hm⟩ := hm
  exact .inl ⟨Tryz.call211,(Any.strings_Contains laysContains s sub m w hs hm).mono fun _ _ ⟨h1,h2⟩ => ⟨_,h1,rfl,h2⟩⟩
end Go.Proofs.YtgnnlaeikcnhcaaGreatDoor
end
section
namespace Go.Vk
open Go
def impB : ByteArray := ⟨#[32,100,100,32,100,116,32,108,105,32,111,112,116,103,114,111,117,112,32,111,112,116,105,111,110,32,112,32,114,98,32,114,112,32,114,116,32,114,116,99,32]⟩
def thoB : ByteArray := ⟨#[32,99,97,112,116,105,111,110,32,99,111,108,103,114,111,117,112,32,116,98,111,100,121,32,116,100,32,116,102,111,111,116,32,116,104,32,116,104,101,97,100,32,116,114,32]⟩
def inB (l s : ByteArray) : Bool := decide (s ≠ ⟨#[]⟩) && !decide (0 ≤ Lib.indexByte s.data.toList 32) && Lib.contains l.data.toList ((⟨#[32]⟩ ++ s ++ ⟨#[32]⟩ : ByteArray).data.toList)
def impN (s : ByteArray) : Bool := inB impB s
def thoN (s : ByteArray) : Bool := impN s || inB thoB s
end Go.Vk
namespace Go.Proofs.YtgnnlaeikcnhcaaGreatDoor
open Go Go.Vk
set_option maxHeartbeats 40000000
theorem in_c (l s : ByteArray) {w : World} (hm : MaxAt w) (hl : l.size < 4294967281) (hs : s.size < 4294967281) : Gives Tryz.prog 171 #[.string l,.string s] w fun v w' => v = .bool (inB l s) ∧ w' = w := by
  by_cases h0 : s = ⟨#[]⟩
  · have e : inB l s = false := by unfold inB; rw [h0]; rfl
    refine Gives.of_W Tryz.call171 Tryz.func171 rfl Tryz.ntmps171 (by simp) ?_; intro Z hZ
    (repeat revert hK K);refine W2 @h0 @not_true_eq_false ?_;repeat with_reducible intro K hK
    rw [← h0,e]
  · refine Gives.of_W Tryz.call171 Tryz.func171 rfl Tryz.ntmps171 (by simp) ?_; intro Z hZ
    (repeat revert hK K);refine W2 @h0 @not_false_eq_true ?_;repeat with_reducible intro K hK
    refine (contains_one_c s 32 w).mono ?_
    intro v w' ⟨hv,hw⟩
    subst hv; subst w'
    cases hb : decide (0 ≤ Lib.indexByte s.data.toList 32) with
    | true =>
      have e : inB l s = false := by unfold inB; rw [hb]; simp
      (repeat revert hK K);refine W0 ?_;repeat with_reducible intro K hK
      rw [e]
    | false =>
      have e : inB l s = Lib.contains l.data.toList ((⟨#[32]⟩ ++ s ++ ⟨#[32]⟩ : ByteArray).data.toList) := by unfold inB; rw [hb]; simp [h0]
      (repeat revert hK K);refine W0 ?_;repeat with_reducible intro K hK
      have a1 : (⟨#[32]⟩ : ByteArray).size = 1 := rfl
      refine ⟨by rw [a1]; omega,by rw [ByteArray.size_append,a1]; omega,?_⟩
      refine (strcont_c l _ hl hm).mono ?_
      intro v w' ⟨hv,hw⟩
      subst hv; subst w'
      rw [← e]
      (repeat first|(with_reducible first|(refine hK _ _ ?_;clear hK K)|refine ‹∀σ w,_→K σ w› _ _ ?_|(refine W_st ?_;constructor;try intro K hK))|((with_reducible first|refine hZ _ _ ?_|refine W_rg ?_|skip);repeat1' simp only[push_cast,seval,-Nat.reduceSubDiff])|((repeat((fail_if_success with_reducible refine hK _ _ ?_);clear hK K));with_reducible refine hK _ _ ?_;clear hK K))
theorem implied_c (s : ByteArray) {w : World} (hm : MaxAt w) (hz : s.size < 4294967281) : Gives Tryz.prog 170 #[.string s] w fun v w' => v = .bool (impN s) ∧ w' = w := by
  refine Gives.of_W Tryz.call170 Tryz.func170 rfl Tryz.ntmps170 (by simp) ?_; intro Z hZ
  (repeat revert hK K);refine W0 ?_;repeat with_reducible intro K hK
  refine (in_c impB s hm (by decide) hz).mono ?_
  intro v w' ⟨hv,hw⟩
  subst hv; subst w'
  (repeat revert hK K);refine W0 ?_;repeat with_reducible intro K hK
  rfl
theorem thorough_c (s : ByteArray) {w : World} (hm : MaxAt w) (hz : s.size < 4294967281) : Gives Tryz.prog 235 #[.string s] w fun v w' => v = .bool (thoN s) ∧ w' = w := by
  unfold thoN
  cases hb : impN s with
  | true =>
    refine Gives.of_W Tryz.call235 Tryz.func235 rfl Tryz.ntmps235 (by simp) ?_; intro Z hZ
    (repeat revert hK K);refine W0 ?_;repeat with_reducible intro K hK
    refine (implied_c s hm hz).mono ?_
    intro v w' ⟨hv,hw⟩
    subst hv; subst w'
    rw [hb]
    (repeat first|(with_reducible first|(refine hK _ _ ?_;clear hK K)|refine ‹∀σ w,_→K σ w› _ _ ?_|(refine W_st ?_;constructor;try intro K hK))|((with_reducible first|refine hZ _ _ ?_|refine W_rg ?_|skip);repeat1' simp only[push_cast,seval,-Nat.reduceSubDiff])|((repeat((fail_if_success with_reducible refine hK _ _ ?_);clear hK K));with_reducible refine hK _ _ ?_;clear hK K))
  | false =>
    refine Gives.of_W Tryz.call235 Tryz.func235 rfl Tryz.ntmps235 (by simp) ?_; intro Z hZ
    (repeat revert hK K);refine W0 ?_;repeat with_reducible intro K hK
    refine (implied_c s hm hz).mono ?_
    intro v w' ⟨hv,hw⟩
    subst hv; subst w'
    rw [hb]
    (repeat revert hK K);refine W0 ?_;repeat with_reducible intro K hK
    refine (in_c thoB s hm (by decide) hz).mono ?_
    intro v w' ⟨hv,hw⟩
    subst hv; subst w'
    (repeat first|(with_reducible first|(refine hK _ _ ?_;clear hK K)|refine ‹∀σ w,_→K σ w› _ _ ?_|(refine W_st ?_;constructor;try intro K hK))|((with_reducible first|refine hZ _ _ ?_|refine W_rg ?_|skip);repeat1' simp only[push_cast,seval,-Nat.reduceSubDiff])|((repeat((fail_if_success with_reducible refine hK _ _ ?_);clear hK K));with_reducible refine hK _ _ ?_;clear hK K))
end Go.Proofs.YtgnnlaeikcnhcaaGreatDoor
end
section
namespace Go.Vk
open Go
structure SK (w : World) (ps : Nat) (ap sv : Value) (s : List OpS) (bo : Option Nat) : Prop where
  head : w.heap[ps]? = some (.cells #[ap,sv] 120 (0,0))
  sl : SlAt w 3 sv (opCells s) bo
  ne : bo ≠ some ps
theorem SK.upd {G : Nat → Prop} {w w' : World} {ps : Nat} {ap sv : Value} {s : List OpS} {bo : Option Nat} (h : SK w ps ap sv s bo) (hu : Upd G w w') (h1 : ¬ G ps) (h2 : ∀ b,bo = some b → ¬ G b) : SK w' ps ap sv s bo :=
  ⟨(hu.same ps (blk_lt h.head) h1).trans h.head,h.sl.upd hu h2,h.ne⟩
theorem SK.ext {w w' : World} {ps : Nat} {ap sv : Value} {s : List OpS} {bo : Option Nat} (h : SK w ps ap sv s bo) (hu : Ext w w') : SK w' ps ap sv s bo := h.upd hu id fun _ _ => id
def zS : OpS := ⟨0,0,⟨#[]⟩⟩
def lastB (p : Nat → Bool) : Nat → Int
  | 0 => -1
  | k + 1 => if p k = true then k else lastB p k
def indexS (s : List OpS) (i : Int) : Int := lastB (fun k => decide ((s.getD k zS).node = i)) s.length
def atS (s : List OpS) (k : Int) : Int := if 0 ≤ k ∧ k < s.length then (s.getD k.toNat zS).node else -1
def topS (s : List OpS) : Int := atS s ((s.length : Int) - 1)
def strCells (l : List ByteArray) : List Value := l.map Value.string
def htmlS (o : OpS) (l : List ByteArray) : Bool := decide (o.space = 0) && l.any fun x => decide (o.name = x)
theorem str_len {w : World} {v : Value} {l : List ByteArray} (h : RdAt w 1 v (strCells l)) : ∃ a c,v = .slice a l.length c ∧ l.length ≤ c ∧ ∀ (i : Nat) (x : ByteArray),l[i]? = some x → ∃ b o,a = some ⟨b,o,none⟩ ∧ w.cell? ⟨b,o + i,none⟩ = some (.string x) := by
  obtain ⟨a,n,c,rfl,h1,h2,h3⟩ := h
  have hl : (strCells l).length = l.length := by simp [strCells]
  rw [hl,Nat.mul_one] at h2
  subst h2
  refine ⟨a,c,rfl,h1,fun i x hx => ?_⟩
  exact h3 i (.string x) (by simp [strCells,hx])
theorem lastB_rng (p : Nat → Bool) : ∀ k : Nat, -1 ≤ lastB p k ∧ lastB p k < k
  | 0 => by simp [lastB]
  | k + 1 => by
    have := lastB_rng p k
    rw [lastB]
    split <;> omega
end Go.Vk
namespace Go.Proofs.YtgnnlaeikcnhcaaGreatDoor
open Go Go.Vk
set_option maxHeartbeats 40000000
section
variable {w : World} {ps pa : Nat} {sv : Value} {s : List OpS} {bo : Option Nat}
theorem slen_c {ap : Value} (h : SK w ps ap sv s bo) : Gives Tryz.prog 34 #[.pointer (some ⟨ps,0,none⟩)] w fun v w' => v = .int .i64 (s.length : Int) ∧ w' = w := by
  obtain ⟨a,c,rfl,_⟩ := ops_len h.sl
  have h0 := h.head
  refine Gives.of_W Tryz.call34 Tryz.func34 rfl Tryz.ntmps34 (by simp) ?_; intro Z hZ
  (repeat first|(with_reducible first|(refine hK _ _ ?_;clear hK K)|refine ‹∀σ w,_→K σ w› _ _ ?_|(refine W_st ?_;constructor;try intro K hK))|((with_reducible first|refine hZ _ _ ?_|refine W_rg ?_|skip);repeat1' simp only[push_cast,seval,-Nat.reduceSubDiff,cell_h,cellO_cells,h0])|((repeat((fail_if_success with_reducible refine hK _ _ ?_);clear hK K));with_reducible refine hK _ _ ?_;clear hK K))
theorem snone_c (h : SK w ps (.pointer (some ⟨pa,0,none⟩)) sv s bo) : Gives Tryz.prog 177 #[.pointer (some ⟨ps,0,none⟩)] w fun v w' => v = .bool false ∧ w' = w := by
  have h0 := h.head
  refine Gives.of_W Tryz.call177 Tryz.func177 rfl Tryz.ntmps177 (by simp) ?_; intro Z hZ
  (repeat first|(with_reducible first|(refine hK _ _ ?_;clear hK K)|refine ‹∀σ w,_→K σ w› _ _ ?_|(refine W_st ?_;constructor;try intro K hK))|((with_reducible first|refine hZ _ _ ?_|refine W_rg ?_|skip);repeat1' simp only[push_cast,seval,-Nat.reduceSubDiff,cell_h,cellO_cells,h0])|((repeat((fail_if_success with_reducible refine hK _ _ ?_);clear hK K));with_reducible refine hK _ _ ?_;clear hK K))
theorem sat_c {ap : Value} (h : SK w ps ap sv s bo) (k : Int) : Gives Tryz.prog 52 #[.pointer (some ⟨ps,0,none⟩),.int .i64 k] w fun v w' => v = .int .i64 (atS s k) ∧ w' = w := by
  unfold atS
  by_cases hk0 : k < 0
  · rw [if_neg (by omega)]
    refine Gives.of_W Tryz.call52 Tryz.func52 rfl Tryz.ntmps52 (by simp) ?_; intro Z hZ
    (repeat first|(with_reducible first|(refine hK _ _ ?_;clear hK K)|refine ‹∀σ w,_→K σ w› _ _ ?_|(refine W_st ?_;constructor;try intro K hK))|((with_reducible first|refine hZ _ _ ?_|refine W_rg ?_|skip);repeat1' simp only[push_cast,seval,-Nat.reduceSubDiff,hk0])|((repeat((fail_if_success with_reducible refine hK _ _ ?_);clear hK K));with_reducible refine hK _ _ ?_;clear hK K))
  · obtain ⟨k, rfl⟩ : ∃ q : Nat, k = (q : Int) := ⟨k.toNat, by omega⟩
    have b0 : (0 : Int) ≤ (k : Int) := by omega
    by_cases hkl : k < s.length
    · obtain ⟨y, hy⟩ : ∃ y, s[k]? = some y := ⟨_, List.getElem?_eq_getElem hkl⟩
      have hgd : s.getD ((k : Int).toNat) zS = y := by simp [List.getD,hy]
      have b1 : ¬ (s.length : Int) ≤ (k : Int) := by omega
      have b2 : (k : Int) < (s.length : Int) := by omega
      rw [if_pos ⟨b0,b2⟩,hgd]
      have hlen := slen_c h
      obtain ⟨b,o,c,rfl,_,c1,c2,c3⟩ := ops_cell h.sl hy
      have h0 := h.head
      refine Gives.of_W Tryz.call52 Tryz.func52 rfl Tryz.ntmps52 (by simp) ?_; intro Z hZ
      (repeat revert hK K);refine W1 @hk0 ?_;repeat with_reducible intro K hK
      refine hlen.mono ?_
      intro v w' ⟨hv,hw⟩
      subst hv; subst w'
      (repeat first|(with_reducible first|(refine hK _ _ ?_;clear hK K)|refine ‹∀σ w,_→K σ w› _ _ ?_|(refine W_st ?_;constructor;try intro K hK))|((with_reducible first|refine hZ _ _ ?_|refine W_rg ?_|skip);repeat1' simp only[push_cast,seval,-Nat.reduceSubDiff,b0,b1,b2,cell_h,cellO_cells,h0,c1])|((repeat((fail_if_success with_reducible refine hK _ _ ?_);clear hK K));with_reducible refine hK _ _ ?_;clear hK K))
    · have b1 : (s.length : Int) ≤ (k : Int) := by omega
      rw [if_neg (by omega)]
      refine Gives.of_W Tryz.call52 Tryz.func52 rfl Tryz.ntmps52 (by simp) ?_; intro Z hZ
      (repeat revert hK K);refine W1 @hk0 ?_;repeat with_reducible intro K hK
      refine (slen_c h).mono ?_
      intro v w' ⟨hv,hw⟩
      subst hv; subst w'
      (repeat first|(with_reducible first|(refine hK _ _ ?_;clear hK K)|refine ‹∀σ w,_→K σ w› _ _ ?_|(refine W_st ?_;constructor;try intro K hK))|((with_reducible first|refine hZ _ _ ?_|refine W_rg ?_|skip);repeat1' simp only[push_cast,seval,-Nat.reduceSubDiff,b1])|((repeat((fail_if_success with_reducible refine hK _ _ ?_);clear hK K));with_reducible refine hK _ _ ?_;clear hK K))
theorem stop_c {ap : Value} (h : SK w ps ap sv s bo) (hs : s.length < 100000) : Gives Tryz.prog 106 #[.pointer (some ⟨ps,0,none⟩)] w fun v w' => v = .int .i64 (topS s) ∧ w' = w := by
  have b0 : inI64 ((s.length : Int) - 1) := by unfold inI64; omega
  refine Gives.of_W Tryz.call106 Tryz.func106 rfl Tryz.ntmps106 (by simp) ?_; intro Z hZ
  (repeat revert hK K);refine W0 ?_;repeat with_reducible intro K hK
  refine (slen_c h).mono ?_
  intro v w' ⟨hv,hw⟩
  subst hv; subst w'
  (repeat revert hK K);refine W1 @b0 ?_;repeat with_reducible intro K hK
  refine (sat_c h _).mono ?_
  intro v w' ⟨hv,hw⟩
  subst hv; subst w'
  (repeat revert hK K);refine W0 ?_;repeat with_reducible intro K hK
  rfl
theorem sindex_c {ap : Value} (h : SK w ps ap sv s bo) (hs : s.length < 100000) (i : Int) : Gives Tryz.prog 30 #[.pointer (some ⟨ps,0,none⟩),.int .i64 i] w fun v w' => v = .int .i64 (indexS s i) ∧ w' = w := by
  have s0 : inI64 ((s.length : Int) - 1) := by unfold inI64; omega
  have h0 := h.head
  refine Gives.of_W Tryz.call30 Tryz.func30 rfl Tryz.ntmps30 (by simp) ?_; intro Z hZ
  (repeat revert hK K);refine W0 ?_;repeat with_reducible intro K hK
  refine (slen_c h).mono ?_
  intro v w' ⟨hv,hw⟩
  subst hv; subst w'
  (repeat revert hK K);refine W1 @s0 ?_;repeat with_reducible intro K hK
  refine W_loop (S := Nat) (fun k => [(0, .pointer (some ⟨ps, 0, none⟩)), (1, .int .i64 i), (5, .int .i64 ((k : Int) - 1))])
    (fun k w2 => k ≤ s.length ∧ indexS s i = lastB (fun k => decide ((s.getD k zS).node = i)) k ∧ w2 = w) (fun k => k) s.length ?_ ?_ ?_
  · (repeat simp only [push_cast,seval,-Nat.reduceSubDiff])
  · exact ⟨Nat.le_refl _,rfl,rfl⟩
  rintro k w2 ⟨hk,he,hw⟩
  subst w2
  cases k with
  | zero =>
    have e0 : (((0 : Nat) : Int) - 1) = -1 := rfl
    rw [e0]
    have b0 : ¬ (0 : Int) ≤ -1 := by omega
    (repeat revert hK K);refine W1 @b0 ?_;repeat with_reducible intro K hK
    rw [he]; rfl
  | succ k =>
    have e0 : (((k + 1 : Nat) : Int) - 1) = k := by omega
    rw [e0]
    rw [lastB] at he
    have b2 : inI64 ((k : Int) - 1) := by unfold inI64; omega
    have b0 : (0 : Int) ≤ (k : Int) := by omega
    have hkl : k < s.length := by omega
    have b3 : (k : Int) < (s.length : Int) := by omega
    obtain ⟨y,hy⟩ : ∃ y,s[k]? = some y := ⟨_,List.getElem?_eq_getElem hkl⟩
    have hgd : s.getD k zS = y := by simp [List.getD,hy]
    rw [hgd] at he
    obtain ⟨b,o,c,rfl,_,c1,c2,c3⟩ := ops_cell h.sl hy
    by_cases hyi : y.node = i
    · rw [if_pos (by simpa using hyi)] at he
      rw [hyi] at c1
      (repeat revert hK K);refine Wd4 @b0 @b3 @h0 @c1 ?_;repeat with_reducible intro K hK
      exact he.symm
    · rw [if_neg (by simpa using hyi)] at he
      (repeat revert hK K);refine Wc6 @b0 @b2 @b3 @h0 @c1 @hyi ?_;repeat with_reducible intro K hK
      refine ⟨k,by omega,?_⟩
      (repeat simp only [push_cast,seval,-Nat.reduceSubDiff])
      exact ⟨by omega,he⟩
theorem sidxs_c {v : Value} {l : List ByteArray} (ha : RdAt w 1 v (strCells l)) (hb : l.length < 1000000000) (x : ByteArray) :
    Gives Tryz.prog 204 #[v,.string x] w fun u w' => (∃ n,u = .int .i64 n ∧ decide (0 ≤ n) = l.any fun y => decide (x = y)) ∧ w' = w := by
  obtain ⟨a,c,rfl,_,hcell⟩ := str_len ha
  refine Gives.of_W Tryz.call204 Tryz.func204 rfl Tryz.ntmps204 (by simp) ?_; intro Z hZ
  (repeat revert hK K);refine W0 ?_;repeat with_reducible intro K hK
  refine W_loop (S := Nat) (fun k => [(0, .slice a l.length c), (1, .string x), (7, .int .i64 (l.length : Int)), (8, .int .i64 (k : Int))])
    (fun k w2 => k ≤ l.length ∧ ((l.take k).any fun y => decide (x = y)) = false ∧ w2 = w) (fun k => l.length - k) 0 ?_ ?_ ?_
  · (repeat simp only [push_cast,seval,-Nat.reduceSubDiff])
  · exact ⟨by omega,by simp,rfl⟩
  rintro k w2 ⟨hk,hn,hw⟩
  subst w2
  by_cases hkl : k < l.length
  · obtain ⟨y, hy⟩ : ∃ y, l[k]? = some y := ⟨_, List.getElem?_eq_getElem hkl⟩
    obtain ⟨b,o,rfl,c1⟩ := hcell k y hy
    rw [cell_h] at c1
    have b0 : (k : Int) < (l.length : Int) := by omega
    have b1 : (0 : Int) ≤ (k : Int) := by omega
    have b2 : inI64 ((k : Int) + 1) := by unfold inI64; omega
    by_cases hxy : x = y
    · (repeat revert hK K);refine Wd4 @b0 @b1 @c1 @hxy ?_;repeat with_reducible intro K hK
      have : (l.any fun y => decide (x = y)) = true := List.any_eq_true.2 ⟨y,List.mem_of_getElem? hy,by simpa using hxy⟩
      rw [← hxy]
      exact this.symm
    · (repeat revert hK K);refine Wc5 @b0 @b1 @b2 @c1 @hxy ?_;repeat with_reducible intro K hK
      refine ⟨k + 1,by omega,?_⟩
      (repeat simp only [push_cast,seval,-Nat.reduceSubDiff])
      refine ⟨by omega,?_⟩
      rw [List.take_add_one,hy,List.any_append,hn]
      simp [hxy]
  · have hke : k = l.length := by omega
    subst hke
    have b0 : ¬ (l.length : Int) < (l.length : Int) := by omega
    rw [List.take_length] at hn
    (repeat revert hK K);refine W1 @b0 ?_;repeat with_reducible intro K hK
    rw [hn]
theorem sconts_c {v : Value} {l : List ByteArray} (ha : RdAt w 1 v (strCells l)) (hb : l.length < 1000000000) (x : ByteArray) :
    Gives Tryz.prog 161 #[v,.string x] w fun u w' => u = .bool (l.any fun y => decide (x = y)) ∧ w' = w := by
  obtain ⟨a,c,rfl,_,hcell⟩ := str_len ha
  refine Gives.of_W Tryz.call161 Tryz.func161 rfl Tryz.ntmps161 (by simp) ?_; intro Z hZ
  (repeat revert hK K);refine W0 ?_;repeat with_reducible intro K hK
  refine (sidxs_c ha hb x).mono ?_
  rintro u w' ⟨⟨n,rfl,hn⟩,rfl⟩
  (repeat revert hK K);refine W0 ?_;repeat with_reducible intro K hK
  rw [hn]
theorem html_c {v : Value} {l : List ByteArray} (ha : RdAt w 1 v (strCells l)) (hb : l.length < 1000000000) (o : OpS) :
    Gives Tryz.prog 117 #[.agg o.row,v] w fun u w' => u = .bool (htmlS o l) ∧ Ext w w' := by
  obtain ⟨a,c,rfl,_,hcell⟩ := str_len ha
  have hx := Ext.alloc w (.cells o.row 127)
  unfold OpS.row at hx ⊢
  unfold htmlS
  by_cases hs : o.space = 0
  · rw [hs] at hx
    refine Gives.of_W Tryz.call117 Tryz.func117 rfl Tryz.ntmps117 (by simp) ?_; intro Z hZ
    (repeat first|(with_reducible first|(refine hK _ _ ?_;clear hK K)|refine ‹∀σ w,_→K σ w› _ _ ?_|(refine W_st ?_;constructor;try intro K hK))|((with_reducible first|refine hZ _ _ ?_|refine W_rg ?_|skip);repeat1' simp only[push_cast,seval,-Nat.reduceSubDiff,cell_h,can_h,cellO_cells,canO_cells,setO_cells,heap_set_h,heap_alloc_h,size_set_h,size_alloc_h,vcells_agg,succ_ne,ne_succ,List.setIfInBounds_toArray,List.set_cons_succ,List.set_cons_zero,setCells,drew_h,hs])|((repeat((fail_if_success with_reducible refine hK _ _ ?_);clear hK K));with_reducible refine hK _ _ ?_;clear hK K))
    refine (sconts_c (ha.ext hx) hb o.name).mono ?_
    intro u w' ⟨hv,hw⟩
    subst hv; subst w'
    (repeat revert hK K);refine W0 ?_;repeat with_reducible intro K hK
    exact ⟨by simp [hs],hx⟩
  · refine Gives.of_W Tryz.call117 Tryz.func117 rfl Tryz.ntmps117 (by simp) ?_; intro Z hZ
    (repeat first|(with_reducible first|(refine hK _ _ ?_;clear hK K)|refine ‹∀σ w,_→K σ w› _ _ ?_|(refine W_st ?_;constructor;try intro K hK))|((with_reducible first|refine hZ _ _ ?_|refine W_rg ?_|skip);repeat1' simp only[push_cast,seval,-Nat.reduceSubDiff,cell_h,can_h,cellO_cells,canO_cells,setO_cells,heap_set_h,heap_alloc_h,size_set_h,size_alloc_h,vcells_agg,succ_ne,ne_succ,List.setIfInBounds_toArray,List.set_cons_succ,List.set_cons_zero,setCells,drew_h,hs])|((repeat((fail_if_success with_reducible refine hK _ _ ?_);clear hK K));with_reducible refine hK _ _ ?_;clear hK K))
    exact hx
end
end Go.Proofs.YtgnnlaeikcnhcaaGreatDoor
end
section
namespace Go.Vk
open Go
def StAt (w0 w : World) (Q : Nat → Prop) (ps pa : Nat) (L : List Nd) (s : List OpS) : Prop :=
  ∃ sv bo,SK w ps (.pointer (some ⟨pa,0,none⟩)) sv s bo ∧ At w0 w (fun b => Q b ∨ b = ps ∨ bo = some b) pa L ∧ w0.heap.size ≤ ps ∧ (∀ b,bo = some b → w0.heap.size ≤ b ∧ ¬ Q b) ∧ ¬ Q ps
theorem StAt.pass {w0 w w' : World} {Q : Nat → Prop} {ps pa : Nat} {L : List Nd} {s : List OpS} (h : StAt w0 w Q ps pa L s) (hx : Ext w w') : StAt w0 w' Q ps pa L s := by
  obtain ⟨sv,bo,h1,h2,h3,h4,h5⟩ := h
  exact ⟨sv,bo,h1.ext hx,h2.pass hx,h3,h4,h5⟩
theorem StAt.out {w0 w : World} {Q : Nat → Prop} {ps pa : Nat} {L : List Nd} {s : List OpS} (h : StAt w0 w Q ps pa L s) : Ext w0 w := by
  obtain ⟨sv,bo,h1,h2,_⟩ := h
  exact h2.ext
theorem st_put {w0 w w2 : World} {Q : Nat → Prop} {ps pa : Nat} {L : List Nd} {s s' : List OpS} {sv u : Value} {bo bo' : Option Nat} (hF : SK w ps (.pointer (some ⟨pa, 0, none⟩)) sv s bo) (hA : At w0 w (fun b => Q b ∨ b = ps ∨ bo = some b) pa L)
    (hpl : w0.heap.size ≤ ps) (hbo : ∀ b,bo = some b → w0.heap.size ≤ b ∧ ¬ Q b) (hQ : ¬ Q ps) (hQl : ∀ b,Q b → b < w.heap.size) (g1 : SlAt w2 3 u (opCells s') bo') (g2 : Upd (fun b => bo = some b) w w2) (g3 : ∀ b,bo' = some b → bo = some b ∨ w.heap.size ≤ b) :
    canStore w2 ⟨ps,1,none⟩ ∧ StAt w0 (w2.setCell ⟨ps,1,none⟩ u) Q ps pa L s' ∧ Upd (AF w0 Q) w (w2.setCell ⟨ps,1,none⟩ u) := by
  have hlt := blk_lt hF.head
  have hnb : ¬ bo = some ps := hF.ne
  have hp2 := (g2.same ps hlt hnb).trans hF.head
  have h0 := hA.ext.alike.size
  have hne' : bo' ≠ some ps := fun e => by
    rcases g3 ps e with h | h
    · exact hnb h
    · omega
  have hs2 := g2.alike.size
  have up : Upd (fun b => b = ps) w2 (w2.setCell ⟨ps,1,none⟩ u) := Upd.setCell (F := fun b => b = ps) (a := ⟨ps,1,none⟩) w2 rfl u
  refine ⟨by rw [can_h,hp2,canO_cells]; exact Nat.lt_succ_self 1,⟨u,bo',⟨?_,g1.upd up fun b hb e => hne' (by rw [hb,e]),hne'⟩,?_,hpl,fun b hb => ?_,hQ⟩,?_⟩
  · rw [heap_set_h,if_pos rfl,hp2]; rfl
  · have hA2 : At w0 w2 (fun b => Q b ∨ b = ps ∨ bo' = some b) pa L := hA.app g2 (fun b hb e => ⟨.inr (.inr e),(hbo b e).1⟩) fun b hb => by
      rcases hb with hb | hb | hb
      · exact .inl (.inl hb)
      · exact .inl (.inr (.inl hb))
      · rcases g3 b hb with h | h
        · exact .inl (.inr (.inr h))
        · exact .inr ⟨h,by rw [hb] at g1; exact g1.lt⟩
    exact hA2.frame up fun b e => ⟨.inr (.inl e),e ▸ hpl⟩
  · rcases g3 b hb with h | h
    · exact hbo b h
    · exact ⟨by omega,fun hq => by have := hQl b hq; omega⟩
  · refine Upd.trans (g2.mono fun b _ e => ⟨(hbo b e).1,(hbo b e).2⟩) up fun b _ e => ⟨e ▸ hpl,e ▸ hQ⟩
def opN (L : List Nd) (i : Int) : OpS := ⟨i,((nd? L i).getD zN).space,((nd? L i).getD zN).name⟩
end Go.Vk
namespace Go.Proofs.YtgnnlaeikcnhcaaGreatDoor
open Go Go.Vk
theorem pl79 (w : World) : ((fsOf Tryz.prog 127).mapM plOf).run Tryz.prog w = .ok #[(0,1),(1,1),(2,1)] w := by
  simp [fsOf,plOf,Tryz.underlying127,Sem.run,Tryz.sizeOf3,Tryz.sizeOf9]
theorem un79 : Tryz.prog.underlying 127 = some (.struct (fsOf Tryz.prog 127)) := by rw [fsOf,Tryz.underlying127]
theorem pl71 (w : World) : ((fsOf Tryz.prog 120).mapM plOf).run Tryz.prog w = .ok #[(0,1),(1,1)] w := by
  simp [fsOf,plOf,Tryz.underlying120,Sem.run,Tryz.sizeOf42,Tryz.sizeOf118]
theorem un71 : Tryz.prog.underlying 120 = some (.struct (fsOf Tryz.prog 120)) := by rw [fsOf,Tryz.underlying120]
set_option maxHeartbeats 40000000
section
variable {w0 w : World} {Q : Nat → Prop} {ps pa : Nat} {L : List Nd} {s : List OpS}
theorem snew_c (h : At w0 w Q pa L) (hL : L ≠ []) : Gives Tryz.prog 93 #[.pointer (some ⟨pa,0,none⟩)] w fun v w' => ∃ ps,v = .pointer (some ⟨ps,0,none⟩) ∧ StAt w0 w' Q ps pa L [] ∧ Ext w w' := by
  have b0 : ((L.length : Int) = 0) = False := eq_false (by have := List.length_pos_iff.2 hL; omega)
  refine Gives.of_W Tryz.call93 Tryz.func93 rfl Tryz.ntmps93 (by simp) ?_; intro Z hZ
  (repeat revert hK K);refine W0 ?_;repeat with_reducible intro K hK
  refine (len_a h).mono ?_
  rintro v w' ⟨rfl,rfl⟩
  (repeat revert hK K);refine W1 @b0 ?_;repeat with_reducible intro K hK
  refine build_struct Tryz.zeroValue120 un71 pl71 (cs := #[.pointer (some ⟨pa,0,none⟩),.slice none 0 0]) (by rfl) ?_
  (repeat revert hK K);refine W1 @vcells_agg ?_;repeat with_reducible intro K hK
  have hx := Ext.alloc w' (.cells #[.pointer (some ⟨pa,0,none⟩),.slice none 0 0] 120)
  have h0 := h.ext.alike.size
  have hA : At w0 (w'.alloc (.cells #[.pointer (some ⟨pa,0,none⟩),.slice none 0 0] 120)) (fun b => Q b ∨ b = w'.heap.size ∨ (none : Option Nat) = some b) pa L := h.guard hx fun b hb => by
    rcases hb with hb | rfl | hb
    · exact .inl hb
    · exact .inr ⟨Nat.le_refl _,by rw [size_alloc_h]; omega⟩
    · cases hb
  exact ⟨w'.heap.size,rfl,⟨_,none,⟨by rw [heap_alloc_h,if_pos rfl],SlAt.nil _ _,by simp⟩,hA,h0,(fun b hb => by cases hb),fun hq => by have := h.low _ hq; omega⟩,hx⟩
theorem sel_c (h : StAt w0 w Q ps pa L s) (hb : L.length < 100000) (ha : ∀ n ∈ L,n.attrs.length < 1000000) (i : Int) : Gives Tryz.prog 197 #[.pointer (some ⟨ps,0,none⟩),.int .i64 i] w fun v w' => v = .tuple #[.agg (if ((nd? L i).getD zN).kind = 3 then (opN L i).row else zS.row),.int .i64 (if ((nd? L i).getD zN).kind = 3 then 0 else 2)] ∧ Ext w w' := by
  obtain ⟨sv,bo,hF,hA,hpl,hbo,hQ⟩ := h
  have hx1 := Ext.alloc w (.cells #[.int .i64 0,.int .i64 0,.string ⟨#[]⟩] 127)
  have z1 : (w.alloc (.cells #[.int .i64 0,.int .i64 0,.string ⟨#[]⟩] 127)).heap[w.heap.size]? = some (.cells #[.int .i64 0,.int .i64 0,.string ⟨#[]⟩] 127 (0,0)) := by rw [heap_alloc_h,if_pos rfl]
  refine Gives.of_W Tryz.call197 Tryz.func197 rfl Tryz.ntmps197 (by simp) ?_; intro Z hZ
  (repeat revert hK K);refine W2 (RunV_zero Tryz.zeroValue127) @vcells_agg ?_;repeat with_reducible intro K hK
  generalize w.alloc (.cells #[.int .i64 0,.int .i64 0,.string ⟨#[]⟩] 127) = w1 at *
  have hF1 := hF.ext hx1
  have hA1 := hA.pass hx1
  refine (snone_c hF1).mono ?_
  intro v w' ⟨hv,hw⟩
  subst hv; subst w'
  have h0 := hF1.head
  (repeat revert hK K);refine Wc1 @h0 ?_;repeat with_reducible intro K hK
  refine (node_a hA1 hb ha i).mono ?_
  rintro v w2 ⟨m,rfl,hm,hok,hA2,hx2,_,_⟩
  have z2 := hx2.blk z1
  obtain ⟨xa,xn,xc,exa,_⟩ := hok.attrs.len
  obtain ⟨ya,yn,yc,eya,_⟩ := hok.kids.len
  rw [Laid.val_eq,exa,eya]
  (repeat revert hK K);refine W1 (RunV_zero Tryz.zeroValue46) ?_;repeat with_reducible intro K hK
  simp only [vcells_agg,can_h,heap_alloc_h,if_true,canO_cells,List.size_toArray,List.length_cons,List.length_nil,Nat.zero_add,Nat.reduceAdd,Nat.reduceLT,true_and]
  have z6 : (w2.alloc (.cells #[.int .i64 0,.string ⟨#[]⟩,.string ⟨#[]⟩,.int .i64 0,.slice none 0 0,.bool false,.int .i64 0,.int .i64 0,.slice none 0 0,.int .i64 0,.int .i64 0] 46)).heap[w2.heap.size]? = some (.cells #[.int .i64 0,.string ⟨#[]⟩,.string ⟨#[]⟩,.int .i64 0,.slice none 0 0,.bool false,.int .i64 0,.int .i64 0,.slice none 0 0,.int .i64 0,.int .i64 0] 46 (0,0)) := by rw [heap_alloc_h,if_pos rfl]
  have hp6 := setCells_all z6 (l := [.int .i64 m.nd.kind,.string m.nd.name,.string m.nd.text,.int .i64 m.nd.space,.slice xa xn xc,.bool m.nd.dup,.int .i64 m.nd.parent,.int .i64 m.nd.content,.slice ya yn yc,.int .i64 m.nd.frm,.int .i64 m.nd.to]) rfl
  have hx6 : Ext w2 (setCells (w2.alloc (.cells #[.int .i64 0,.string ⟨#[]⟩,.string ⟨#[]⟩,.int .i64 0,.slice none 0 0,.bool false,.int .i64 0,.int .i64 0,.slice none 0 0,.int .i64 0,.int .i64 0] 46)) ⟨w2.heap.size,0,none⟩ [.int .i64 m.nd.kind,.string m.nd.name,.string m.nd.text,.int .i64 m.nd.space,.slice xa xn xc,.bool m.nd.dup,.int .i64 m.nd.parent,.int .i64 m.nd.content,.slice ya yn yc,.int .i64 m.nd.frm,.int .i64 m.nd.to] 0) := Upd.trans (Ext.alloc w2 _) (Upd.setCells (F := fun b => b = w2.heap.size) (a := ⟨w2.heap.size,0,none⟩) _ rfl _ 0) fun i hi e => by omega
  generalize setCells (w2.alloc (.cells #[.int .i64 0,.string ⟨#[]⟩,.string ⟨#[]⟩,.int .i64 0,.slice none 0 0,.bool false,.int .i64 0,.int .i64 0,.slice none 0 0,.int .i64 0,.int .i64 0] 46)) ⟨w2.heap.size,0,none⟩ [.int .i64 m.nd.kind,.string m.nd.name,.string m.nd.text,.int .i64 m.nd.space,.slice xa xn xc,.bool m.nd.dup,.int .i64 m.nd.parent,.int .i64 m.nd.content,.slice ya yn yc,.int .i64 m.nd.frm,.int .i64 m.nd.to] 0 = w6 at *
  obtain ⟨p8,hp8⟩ : ∃ p8,p8 = w2.heap.size := ⟨_,rfl⟩
  rw [← hp8] at hp6 ⊢
  have z3 := hx6.blk z2
  have hlt := blk_lt z2
  have hne : ¬ w.heap.size = p8 := by omega
  have hx : Ext w w6 := hx1.trans (hx2.trans hx6)
  by_cases hk : ((nd? L i).getD zN).kind = 3
  · rw [← hm] at hk
    (repeat first|(with_reducible first|(refine hK _ _ ?_;clear hK K)|refine ‹∀σ w,_→K σ w› _ _ ?_|(refine W_st ?_;constructor;try intro K hK))|((with_reducible first|refine hZ _ _ ?_|refine W_rg ?_|skip);repeat1' simp only[push_cast,seval,-Nat.reduceSubDiff,cell_h,can_h,cellO_cells,canO_cells,setO_cells,heap_set_h,heap_alloc_h,size_set_h,size_alloc_h,vcells_agg,succ_ne,ne_succ,List.setIfInBounds_toArray,List.set_cons_succ,List.set_cons_zero,setCells,drew_h,hp6,z3,hk,not_true_eq_false,decide_false,decide_true,vcells_agg,hne])|((repeat((fail_if_success with_reducible refine hK _ _ ?_);clear hK K));with_reducible refine hK _ _ ?_;clear hK K))
    refine build_struct Tryz.zeroValue127 un79 pl79 (cs := #[.int .i64 i,.int .i64 m.nd.space,.string m.nd.name]) (by rfl) ?_
    (repeat first|(with_reducible first|(refine hK _ _ ?_;clear hK K)|refine ‹∀σ w,_→K σ w› _ _ ?_|(refine W_st ?_;constructor;try intro K hK))|((with_reducible first|refine hZ _ _ ?_|refine W_rg ?_|skip);repeat1' simp only[push_cast,seval,-Nat.reduceSubDiff,cell_h,can_h,cellO_cells,canO_cells,setO_cells,heap_set_h,heap_alloc_h,size_set_h,size_alloc_h,vcells_agg,succ_ne,ne_succ,List.setIfInBounds_toArray,List.set_cons_succ,List.set_cons_zero,setCells,drew_h,hp6,z3,hk,not_true_eq_false,decide_false,decide_true,vcells_agg,hne])|((repeat((fail_if_success with_reducible refine hK _ _ ?_);clear hK K));with_reducible refine hK _ _ ?_;clear hK K))
    rw [hm] at hk
    rw [if_pos hk,if_pos hk]
    unfold opN OpS.row
    rw [← hm]
    exact ⟨rfl,Upd.trans hx (Upd.setCells (F := fun b => b = w.heap.size) (a := ⟨w.heap.size,0,none⟩) w6 rfl [.int .i64 i,.int .i64 m.nd.space,.string m.nd.name] 0) fun i hi e => by omega⟩
  · rw [← hm] at hk
    (repeat first|(with_reducible first|(refine hK _ _ ?_;clear hK K)|refine ‹∀σ w,_→K σ w› _ _ ?_|(refine W_st ?_;constructor;try intro K hK))|((with_reducible first|refine hZ _ _ ?_|refine W_rg ?_|skip);repeat1' simp only[push_cast,seval,-Nat.reduceSubDiff,cell_h,can_h,cellO_cells,canO_cells,setO_cells,heap_set_h,heap_alloc_h,size_set_h,size_alloc_h,vcells_agg,succ_ne,ne_succ,List.setIfInBounds_toArray,List.set_cons_succ,List.set_cons_zero,setCells,drew_h,hp6,z3,hk,not_true_eq_false,decide_false,decide_true,vcells_agg,hne])|((repeat((fail_if_success with_reducible refine hK _ _ ?_);clear hK K));with_reducible refine hK _ _ ?_;clear hK K))
    refine build_struct Tryz.zeroValue127 un79 pl79 (cs := #[.int .i64 0,.int .i64 0,.string ⟨#[]⟩]) (by rfl) ?_
    (repeat first|(with_reducible first|(refine hK _ _ ?_;clear hK K)|refine ‹∀σ w,_→K σ w› _ _ ?_|(refine W_st ?_;constructor;try intro K hK))|((with_reducible first|refine hZ _ _ ?_|refine W_rg ?_|skip);repeat1' simp only[push_cast,seval,-Nat.reduceSubDiff,cell_h,can_h,cellO_cells,canO_cells,setO_cells,heap_set_h,heap_alloc_h,size_set_h,size_alloc_h,vcells_agg,succ_ne,ne_succ,List.setIfInBounds_toArray,List.set_cons_succ,List.set_cons_zero,setCells,drew_h,hp6,z3,hk,not_true_eq_false,decide_false,decide_true,vcells_agg,hne])|((repeat((fail_if_success with_reducible refine hK _ _ ?_);clear hK K));with_reducible refine hK _ _ ?_;clear hK K))
    rw [hm] at hk
    rw [if_neg hk,if_neg hk]
    exact ⟨rfl,Upd.trans hx (Upd.setCells (F := fun b => b = w.heap.size) (a := ⟨w.heap.size,0,none⟩) w6 rfl [.int .i64 0,.int .i64 0,.string ⟨#[]⟩] 0) fun i hi e => by omega⟩
end
end Go.Proofs.YtgnnlaeikcnhcaaGreatDoor
end
