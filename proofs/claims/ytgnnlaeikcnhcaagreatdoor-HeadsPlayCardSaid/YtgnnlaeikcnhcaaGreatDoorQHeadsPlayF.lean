/- What the proof leans on,part 6 of 15. -/
import Derived.Test.YtgnnlaeikcnhcaaGreatDoorQHeadsPlayE
set_option linter.unusedSimpArgs false
set_option linter.unusedVariables false
section
namespace Go.Vk
open Go
def insS (L : List Nd) (s : List OpS) (k i : Int) : List OpS × Int := if ((nd? L i).getD zN).kind = 3 then (if 0 ≤ k ∧ k ≤ s.length then (if 512 ≤ s.length then (s,150) else (s.take k.toNat ++ opN L i :: s.drop k.toNat,0)) else (s,2)) else (s,2)
theorem ext0 {P : Program} (a b : Value) (w : World) (K : Value → World → Prop) : Pure1 P (Instr.extract (.tuple #[a,b]) 0) w K = K a w := Pure1_eq (fun w => by simp [Instr.extract,Sem.run]) w K
theorem ext1 {P : Program} (a b : Value) (w : World) (K : Value → World → Prop) : Pure1 P (Instr.extract (.tuple #[a,b]) 1) w K = K b w := Pure1_eq (fun w => by simp [Instr.extract,Sem.run]) w K
theorem new3 (w : World) (y1 y2 y3 x1 x2 x3 : Value) (t : TypeId) : Ext w (setCells (w.alloc (.cells #[y1,y2,y3] t)) ⟨w.heap.size,0,none⟩ [x1,x2,x3] 0) ∧ (setCells (w.alloc (.cells #[y1,y2,y3] t)) ⟨w.heap.size,0,none⟩ [x1,x2,x3] 0).heap[w.heap.size]? = some (.cells #[x1,x2,x3] t (0,0)) ∧ (setCells (w.alloc (.cells #[y1,y2,y3] t)) ⟨w.heap.size,0,none⟩ [x1,x2,x3] 0).heap.size = w.heap.size + 1 := by
  have z1 : (w.alloc (.cells #[y1,y2,y3] t)).heap[w.heap.size]? = some (.cells #[y1,y2,y3] t (0,0)) := by rw [heap_alloc_h,if_pos rfl]
  have up := Upd.setCells (F := fun b => b = w.heap.size) (a := ⟨w.heap.size,0,none⟩) (w.alloc (.cells #[y1,y2,y3] t)) rfl [x1,x2,x3] 0
  refine ⟨Upd.trans (Ext.alloc w _) up fun i hi e => by omega,setCells_all z1 rfl,?_⟩
  simp [setCells,size_set_h,size_alloc_h]
end Go.Vk
namespace Go.Proofs.YtgnnlaeikcnhcaaGreatDoor
open Go Go.Vk
set_option maxHeartbeats 40000000
section
variable {w0 w : World} {Q : Nat → Prop} {ps pa : Nat} {L : List Nd} {s : List OpS}
theorem sins_c (h : StAt w0 w Q ps pa L s) (hb : L.length < 100000) (ha : ∀ n ∈ L,n.attrs.length < 1000000) (hs : s.length < 10000) (k i : Int) : Gives Tryz.prog 149 #[.pointer (some ⟨ps,0,none⟩),.int .i64 k,.int .i64 i] w fun v w' => v = .int .i64 (insS L s k i).2 ∧ StAt w0 w' Q ps pa L (insS L s k i).1 ∧ Upd (AF w0 Q) w w' := by
  refine Gives.of_W Tryz.call149 Tryz.func149 rfl Tryz.ntmps149 (by simp) ?_; intro Z hZ
  (repeat revert hK K);refine W0 ?_;repeat with_reducible intro K hK
  refine (sel_c h hb ha i).mono ?_
  rintro v w2 ⟨rfl,hx2⟩
  have h2 := h.pass hx2
  obtain ⟨O,hO⟩ : ∃ O : OpS,(if ((nd? L i).getD zN).kind = 3 then (opN L i).row else zS.row) = O.row ∧ (((nd? L i).getD zN).kind = 3 → O = opN L i) := by
    by_cases hk : ((nd? L i).getD zN).kind = 3
    · exact ⟨opN L i,if_pos hk,fun _ => rfl⟩
    · exact ⟨zS,if_neg hk,fun h => absurd h hk⟩
  rw [hO.1]
  have hO := hO.2
  generalize he : (if ((nd? L i).getD zN).kind = 3 then (0 : Int) else 2) = e
  unfold OpS.row
  (repeat revert hK K);refine W4 (RunV_zero Tryz.zeroValue127) @ext0 @ext1 @vcells_agg ?_;repeat with_reducible intro K hK
  obtain ⟨hx3,z3,hs3⟩ := new3 w2 (.int .i64 0) (.int .i64 0) (.string ⟨#[]⟩) (.int .i64 O.node) (.int .i64 O.space) (.string O.name) 127
  simp only [can_h,heap_alloc_h,if_true,canO_cells,List.size_toArray,List.length_cons,List.length_nil,Nat.zero_add,Nat.reduceAdd,Nat.reduceLT,true_and]
  generalize setCells (w2.alloc (.cells #[.int .i64 0,.int .i64 0,.string ⟨#[]⟩] 127)) ⟨w2.heap.size,0,none⟩ [.int .i64 O.node,.int .i64 O.space,.string O.name] 0 = w3 at *
  have hx13 : Ext w w3 := hx2.trans hx3
  have h3 := h2.pass hx3
  obtain ⟨p7,hp7⟩ : ∃ p7,p7 = w2.heap.size := ⟨_,rfl⟩
  rw [← hp7] at z3 hs3 ⊢
  by_cases hk : ((nd? L i).getD zN).kind = 3
  · rw [if_pos hk] at he
    subst he
    rw [hO hk] at z3
    by_cases hkk : 0 ≤ k ∧ k ≤ s.length
    · have b0 : ¬ k < 0 := by omega
      have b1 : ¬ (s.length : Int) < k := by omega
      have h2' := h2
      obtain ⟨sv,bo,hF2,hA2,hpl,hbo,hQ⟩ := h2'
      have hb7 : ∀ b,bo = some b → b < p7 := fun b hb => by
        have := hF2.sl; rw [hb] at this; have := this.lt; omega
      have hp2 := blk_lt hF2.head
      have hF := hF2.ext hx3
      have hA := hA2.pass hx3
      have h0 := hF.head
      obtain ⟨a,c,rfl,hc⟩ := ops_len hF.sl
      by_cases hd : 512 ≤ s.length
      · have eI : insS L s k i = (s, 150) := by unfold insS; rw [if_pos hk, if_pos hkk, if_pos hd]
        have b2 : (512 : Int) ≤ (s.length : Int) := by omega
        (repeat revert hK K);refine Wc8 @not_true_eq_false @not_false_eq_true @decide_true @decide_false @b0 @b1 @b2 @h0 ?_;repeat with_reducible intro K hK
        rw [eI]
        exact ⟨rfl,h3,hx13.upd⟩
      · have eI : insS L s k i = (s.take k.toNat ++ opN L i :: s.drop k.toNat, 0) := by unfold insS; rw [if_pos hk, if_pos hkk, if_neg hd]
        have b2 : ¬ (512 : Int) ≤ (s.length : Int) := by omega
        (repeat revert hK K);refine Wc8 @not_true_eq_false @not_false_eq_true @decide_true @decide_false @b0 @b1 @b2 @h0 ?_;repeat with_reducible intro K hK
        refine W_draw (.pas 0 (.pas 1 (.pas 2 (.pas 3 (.pas 4 (.pas 5 (.pas 6 (.act 7 (.act 8 (.pas 9 (.pas 10 (.last 11)))))))))))) (fun q => q = ps ∨ q = p7) (by decide) mixed (by kernel_rfl) ?_
        have hxd := Ext.drew w3
        have hF4 := hF.ext hxd
        have hA4 := hA.pass hxd
        have h04 := hF4.head
        have z4 := hxd.blk z3
        generalize w3.drew = w4 at *
        (repeat (first | ((first | refine pas_plain rfl ?_ | refine pas_g rfl rfl ?_ | refine act_plain rfl ?_ | refine act_g rfl rfl ?_ | refine last_plain rfl ?_ | refine tail_plain rfl ?_ | refine tail_g rfl rfl ?_); (repeat simp only [push_cast,seval,-Nat.reduceSubDiff,cell_h,can_h,cellO_cells,canO_cells,setO_cells,heap_set_h,heap_alloc_h,size_set_h,size_alloc_h,vcells_agg,succ_ne,ne_succ,List.setIfInBounds_toArray,List.set_cons_succ,List.set_cons_zero,setCells,drew_h,true_or,or_true,h04,z4,true_or,or_true,eq_self])) | (refine tail_fin ?_) | (refine sch_fin ?_)))
        have hx4 : Ext w w4 := hx13.trans hxd
        have hs4 := hxd.alike.size
        refine bs_one styO (by decide) (by decide) (v := .agg (opN L i).row) rfl ?_
        refine ⟨kept_upd (Ext.alloc _ _) fun q hq => ⟨by have := blk_lt h04; have := blk_lt z4; rcases hq with hq | hq <;> omega,id⟩,?_⟩
        (repeat (first | ((first | refine pas_plain rfl ?_ | refine pas_g rfl rfl ?_ | refine act_plain rfl ?_ | refine act_g rfl rfl ?_ | refine last_plain rfl ?_ | refine tail_plain rfl ?_ | refine tail_g rfl rfl ?_); (repeat simp only [push_cast,seval,-Nat.reduceSubDiff,cell_h,can_h,cellO_cells,canO_cells,setO_cells,heap_set_h,heap_alloc_h,size_set_h,size_alloc_h,vcells_agg,succ_ne,ne_succ,List.setIfInBounds_toArray,List.set_cons_succ,List.set_cons_zero,setCells,drew_h,true_or,or_true,h04,z4,true_or,or_true,eq_self])) | (refine tail_fin ?_) | (refine sch_fin ?_)))
        have hx5 := Ext.alloc w4 (.cells (opN L i).row 127)
        have hz5 : (w4.alloc (.cells (opN L i).row 127)).heap[w4.heap.size]? = some (.cells (opN L i).row 127 (0,0)) := by rw [heap_alloc_h,if_pos rfl]
        have hF5 := hF4.ext hx5
        have hA5 := hA4.pass hx5
        have h05 := hF5.head
        have hl0 := blk_lt h04
        have hl1 := blk_lt z4
        have hs5 : (w4.alloc (.cells (opN L i).row 127)).heap.size = w4.heap.size + 1 := size_alloc_h _ _
        generalize hw5 : w4.alloc (.cells (opN L i).row 127) = w5 at *
        have hne : bo ≠ some w4.heap.size := fun e => by
          have := hF4.sl; rw [e] at this; have := this.lt; omega
        obtain ⟨k,rfl⟩ : ∃ q : Nat,k = (q : Int) := ⟨k.toNat,by omega⟩
        refine (insert_o hF5.sl (by omega) hz5 hne k (by omega)).mono ?_
        rintro v w6 ⟨bo',g1,g2,g3⟩
        refine ⟨kept_upd g2 fun q hq => ⟨by rcases hq with hq | hq <;> omega,fun hb' => ?_⟩,?_⟩
        · have := hb7 _ hb'
          rcases hq with rfl | rfl
          · exact hF.ne hb'
          · omega
        have hQl : ∀ b,Q b → b < w5.heap.size := fun b hb => hA5.low b (.inl hb)
        obtain ⟨k1,k2,k3⟩ := st_put hF5 hA5 hpl hbo hQ hQl g1 g2 g3
        have hx05 : Ext w w5 := hx4.trans hx5
        obtain ⟨va,vc,rfl,_⟩ := ops_len g1
        refine D1 @k1 ?_
        (repeat revert hK K);refine W1 @k1 ?_;repeat with_reducible intro K hK
        rw [eI]
        exact ⟨rfl,k2,Upd.trans hx05.upd k3 fun _ _ h => h⟩
    · have eI : insS L s k i = (s, 2) := by unfold insS; rw [if_pos hk, if_neg hkk]
      by_cases hk0 : k < 0
      · (repeat revert hK K);refine W5 @not_true_eq_false @not_false_eq_true @decide_true @decide_false @hk0 ?_;repeat with_reducible intro K hK
        rw [eI]
        exact ⟨rfl,h3,hx13.upd⟩
      · obtain ⟨sv, bo, hF, _⟩ := id h3
        have h0 := hF.head
        obtain ⟨a,c,rfl,hc⟩ := ops_len hF.sl
        have b1 : (s.length : Int) < k := by omega
        (repeat revert hK K);refine Wc7 @not_true_eq_false @not_false_eq_true @decide_true @decide_false @hk0 @b1 @h0 ?_;repeat with_reducible intro K hK
        rw [eI]
        exact ⟨rfl,h3,hx13.upd⟩
  · have eI : insS L s k i = (s, 2) := by unfold insS; rw [if_neg hk]
    rw [if_neg hk] at he
    subst he
    (repeat revert hK K);refine W4 @not_true_eq_false @not_false_eq_true @decide_true @decide_false ?_;repeat with_reducible intro K hK
    rw [eI]
    exact ⟨rfl,h3,hx13.upd⟩
theorem spush_c (h : StAt w0 w Q ps pa L s) (hb : L.length < 100000) (ha : ∀ n ∈ L,n.attrs.length < 1000000) (hs : s.length < 10000) (i : Int) : Gives Tryz.prog 101 #[.pointer (some ⟨ps,0,none⟩),.int .i64 i] w fun v w' => v = .int .i64 (insS L s s.length i).2 ∧ StAt w0 w' Q ps pa L (insS L s s.length i).1 ∧ Upd (AF w0 Q) w w' := by
  obtain ⟨sv,bo,hF,_⟩ := id h
  refine Gives.of_W Tryz.call101 Tryz.func101 rfl Tryz.ntmps101 (by simp) ?_; intro Z hZ
  (repeat revert hK K);refine W0 ?_;repeat with_reducible intro K hK
  refine (slen_c hF).mono ?_
  intro v w' ⟨hv,hw⟩
  subst hv; subst w'
  (repeat revert hK K);refine W0 ?_;repeat with_reducible intro K hK
  refine (sins_c h hb ha hs s.length i).mono ?_
  rintro v w2 ⟨rfl,h2,hx⟩
  (repeat revert hK K);refine W0 ?_;repeat with_reducible intro K hK
  exact ⟨h2,hx⟩
end
end Go.Proofs.YtgnnlaeikcnhcaaGreatDoor
end
section
namespace Go.Vk
open Go
def remS (s : List OpS) (i : Int) : List OpS × Int := if indexS s i < 0 then (s,4) else (s.eraseIdx (indexS s i).toNat,0)
end Go.Vk
namespace Go.Proofs.YtgnnlaeikcnhcaaGreatDoor
open Go Go.Vk
set_option maxHeartbeats 40000000
section
variable {w0 w : World} {Q : Nat → Prop} {ps pa : Nat} {L : List Nd} {s : List OpS}
theorem spop_c (h : StAt w0 w Q ps pa L s) (hs : s.length < 10000) : Gives Tryz.prog 24 #[.pointer (some ⟨ps,0,none⟩)] w fun v w' => v = .int .i64 (topS s) ∧ StAt w0 w' Q ps pa L s.dropLast ∧ Upd (AF w0 Q) w w' := by
  obtain ⟨sv,bo,hF,hA,hpl,hbo,hQ⟩ := id h
  have hQl : ∀ b,Q b → b < w.heap.size := fun b hb => hA.low b (.inl hb)
  have h0 := hF.head
  refine Gives.of_W Tryz.call24 Tryz.func24 rfl Tryz.ntmps24 (by simp) ?_; intro Z hZ
  (repeat revert hK K);refine W0 ?_;repeat with_reducible intro K hK
  refine (stop_c hF (by omega)).mono ?_
  intro v w' ⟨hv,hw⟩
  subst hv; subst w'
  (repeat revert hK K);refine W0 ?_;repeat with_reducible intro K hK
  refine (slen_c hF).mono ?_
  intro v w' ⟨hv,hw⟩
  subst hv; subst w'
  by_cases hn : 0 < s.length
  · have b0 : (0 : Int) < (s.length : Int) := by omega
    have s0 : inI64 ((s.length : Int) - 1) := by unfold inI64; omega
    obtain ⟨b,o,n,c,rfl,hbo1⟩ := hF.sl.some_of (ops_ne hn)
    obtain ⟨_,_,e2,hc⟩ := ops_len hF.sl
    cases e2
    obtain ⟨m,hm⟩ : ∃ m : Nat,(s.length : Int) - 1 = m := ⟨s.length - 1,by omega⟩
    rw [hm] at s0
    have b1 : (0 : Int) ≤ (m : Int) := by omega
    have b2 : (m : Int) ≤ (c : Int) := by omega
    have b3 : (0 : Int) ≤ (c : Int) := by omega
    have x1 := hF.sl.partW (l := 0) (k := m) (m := c) (by omega) (by omega) (by omega) (by omega)
    simp only [Nat.zero_mul,Nat.sub_zero,List.drop_zero,opCells_take] at x1
    obtain ⟨k1,k2,k3⟩ := st_put hF hA hpl hbo hQ hQl x1 (Upd.refl _ _) (fun b hb => .inl hb)
    have e : s.dropLast = s.take m := by rw [List.dropLast_eq_take]; congr 1; omega
    (repeat first|(with_reducible first|(refine hK _ _ ?_;clear hK K)|refine ‹∀σ w,_→K σ w› _ _ ?_|(refine W_st ?_;constructor;try intro K hK))|((with_reducible first|refine hZ _ _ ?_|refine W_rg ?_|skip);repeat1' simp only[push_cast,seval,-Nat.reduceSubDiff,b0,hm,s0,b1,b2,b3,cell_h,cellO_cells,h0,Nat.sub_zero,k1])|((repeat((fail_if_success with_reducible refine hK _ _ ?_);clear hK K));with_reducible refine hK _ _ ?_;clear hK K))
    rw [e]
    exact ⟨k2,k3⟩
  · have b0 : ¬ (0 : Int) < (s.length : Int) := by omega
    have e : s.dropLast = s := by rw [List.eq_nil_of_length_eq_zero (by omega : s.length = 0)]; rfl
    (repeat revert hK K);refine W1 @b0 ?_;repeat with_reducible intro K hK
    rw [e]
    exact ⟨h,Upd.refl _ _⟩
theorem srem_c (h : StAt w0 w Q ps pa L s) (hs : s.length < 10000) (i : Int) : Gives Tryz.prog 206 #[.pointer (some ⟨ps,0,none⟩),.int .i64 i] w fun v w' => v = .int .i64 (remS s i).2 ∧ StAt w0 w' Q ps pa L (remS s i).1 ∧ Upd (AF w0 Q) w w' := by
  obtain ⟨sv,bo,hF,hA,hpl,hbo,hQ⟩ := id h
  have hQl : ∀ b,Q b → b < w.heap.size := fun b hb => hA.low b (.inl hb)
  have h0 := hF.head
  have hir := lastB_rng (fun k => decide ((s.getD k zS).node = i)) s.length
  have hidx := sindex_c hF (by omega : s.length < 100000) i
  unfold remS
  unfold indexS at *
  generalize lastB (fun k => decide ((s.getD k zS).node = i)) s.length = q at *
  refine Gives.of_W Tryz.call206 Tryz.func206 rfl Tryz.ntmps206 (by simp) ?_; intro Z hZ
  (repeat revert hK K);refine W0 ?_;repeat with_reducible intro K hK
  refine (snone_c hF).mono ?_
  intro v w' ⟨hv,hw⟩
  subst hv; subst w'
  (repeat revert hK K);refine W0 ?_;repeat with_reducible intro K hK
  refine hidx.mono ?_
  intro v w' ⟨hv,hw⟩
  subst hv; subst w'
  by_cases hq : q < 0
  · (repeat revert hK K);refine W1 @hq ?_;repeat with_reducible intro K hK
    exact ⟨h,Upd.refl _ _⟩
  · obtain ⟨k, rfl⟩ : ∃ k : Nat, q = (k : Int) := ⟨q.toNat, by omega⟩
    have b1 : inI64 ((k : Int) + 1) := by unfold inI64; omega
    (repeat revert hK K);refine Wc3 @hq @b1 @h0 ?_;repeat with_reducible intro K hK
    refine (delete_o hF.sl (by omega) k (by omega)).mono ?_
    rintro v w2 ⟨g1,g2⟩
    obtain ⟨k1,k2,k3⟩ := st_put hF hA hpl hbo hQ hQl g1 g2 fun b hb => .inl hb
    obtain ⟨va,vc,rfl,_⟩ := ops_len g1
    (repeat revert hK K);refine W1 @k1 ?_;repeat with_reducible intro K hK
    rw [if_neg hq]
    exact ⟨rfl,k2,k3⟩
end
end Go.Proofs.YtgnnlaeikcnhcaaGreatDoor
end
section
namespace Go.Vk
open Go
def untS (s : List OpS) (l : List ByteArray) : List OpS × Int := if lastB (fun k => htmlS (s.getD k zS) l) s.length < 0 then (s,4) else (s.take (lastB (fun k => htmlS (s.getD k zS) l) s.length).toNat,0)
def dropK (p : OpS → Bool) (s : List OpS) : Nat → Nat
  | 0 => 0
  | k + 1 => if p (s.getD k zS) = true then dropK p s k else k + 1
def goP (pn : ByteArray → Bool) (o : OpS) : Bool := decide (o.space = 0) && pn o.name
def dropS (pn : ByteArray → Bool) (s : List OpS) : List OpS := s.take (dropK (goP pn) s s.length)
theorem vc_str (s : ByteArray) : (Value.string s).cells = #[.string s] := rfl
theorem StAt.out2 {w0 w w1 : World} {Q : Nat → Prop} {ps pa : Nat} {L : List Nd} {s : List OpS} (h : StAt w0 w Q ps pa L s) (hu : Upd (AF w0 Q) w w1) : Ext w0 w1 := Upd.trans h.out hu fun b hb hf => by have := hf.1; omega
end Go.Vk
namespace Go.Proofs.YtgnnlaeikcnhcaaGreatDoor
open Go Go.Vk
set_option maxHeartbeats 40000000
section
variable {w0 w : World} {Q : Nat → Prop} {ps pa : Nat} {L : List Nd} {s : List OpS}
theorem suntil_c (h : StAt w0 w Q ps pa L s) (hs : s.length < 10000) {nv : Value} {l : List ByteArray} (hn : RdAt w 1 nv (strCells l)) (hl : l.length < 1000000000) : Gives Tryz.prog 133 #[.pointer (some ⟨ps,0,none⟩),nv] w fun v w' => v = .int .i64 (untS s l).2 ∧ StAt w0 w' Q ps pa L (untS s l).1 ∧ Upd (AF w0 Q) w w' := by
  obtain ⟨sv,bo,hF,hA,hpl,hbo,hQ⟩ := id h
  have hQl : ∀ b,Q b → b < w.heap.size := fun b hb => hA.low b (.inl hb)
  have h0 := hF.head
  have s0 : inI64 ((s.length : Int) - 1) := by unfold inI64; omega
  obtain ⟨a0,c0,e0,hc0⟩ := ops_len hF.sl
  subst e0
  refine Gives.of_W Tryz.call133 Tryz.func133 rfl Tryz.ntmps133 (by simp) ?_; intro Z hZ
  (repeat revert hK K);refine W0 ?_;repeat with_reducible intro K hK
  refine (snone_c hF).mono ?_
  intro v w' ⟨hv,hw⟩
  subst hv; subst w'
  (repeat revert hK K);refine Wc2 @s0 @h0 ?_;repeat with_reducible intro K hK
  refine W_loop (S := Nat) (fun k => [(0, .pointer (some ⟨ps, 0, none⟩)), (1, nv), (4, .int .i64 0), (5, .int .i64 ((k : Int) - 1))])
    (fun k w2 => k ≤ s.length ∧ lastB (fun k => htmlS (s.getD k zS) l) s.length = lastB (fun k => htmlS (s.getD k zS) l) k ∧ Ext w w2) (fun k => k) s.length ?_ ?_ ?_
  · (repeat simp only [push_cast,seval,-Nat.reduceSubDiff])
  · exact ⟨Nat.le_refl _,rfl,Ext.refl _⟩
  rintro k w2 ⟨hk,he,hx⟩
  have hF2 := hF.ext hx
  have h02 := hF2.head
  cases k with
  | zero =>
    have e0 : (((0 : Nat) : Int) - 1) = -1 := rfl
    rw [e0]
    have b0 : ¬ (0 : Int) ≤ -1 := by omega
    (repeat revert hK K);refine W1 @b0 ?_;repeat with_reducible intro K hK
    have : untS s l = (s,4) := by unfold untS; rw [he,lastB,if_pos (by decide)]
    rw [this]
    exact ⟨rfl,h.pass hx,hx.upd⟩
  | succ k =>
    have e0 : (((k + 1 : Nat) : Int) - 1) = k := by omega
    rw [e0]
    rw [lastB] at he
    have b2 : inI64 ((k : Int) - 1) := by unfold inI64; omega
    have b0 : (0 : Int) ≤ (k : Int) := by omega
    have hkl : k < s.length := by omega
    have b3 : (k : Int) < (s.length : Int) := by omega
    obtain ⟨y,hy⟩ : ∃ y,s[k]? = some y := ⟨_,List.getElem?_eq_getElem hkl⟩
    have hgd : s.getD k zS = y := by simp [List.getD,hy]
    rw [hgd] at he
    obtain ⟨b,o,c,e1,hbo1,c1,c2,c3⟩ := ops_cell hF2.sl hy
    cases e1
    (repeat revert hK K);refine Wc6 @b0 @b3 @h02 @c1 @c2 @c3 ?_;repeat with_reducible intro K hK
    refine (html_c (hn.ext hx) hl y).mono ?_
    rintro v w3 ⟨rfl,hx3⟩
    have hF3 := hF2.ext hx3
    have h03 := hF3.head
    have hx03 := hx.trans hx3
    cases hh : htmlS y l
    · rw [hh, if_neg (by decide)] at he
      (repeat revert hK K);refine W1 @b2 ?_;repeat with_reducible intro K hK
      refine ⟨k,by omega,?_⟩
      (repeat simp only [push_cast,seval,-Nat.reduceSubDiff])
      exact ⟨by omega,he,hx03⟩
    · rw [hh, if_pos rfl] at he
      have eU : untS s l = (s.take k,0) := by unfold untS; rw [he,if_neg (by omega)]; rfl
      have x1 := hF3.sl.partW (l := 0) (k := k) (m := c0) (by omega) (by omega) (by omega) (by omega)
      simp only [Nat.zero_mul,Nat.sub_zero,List.drop_zero,opCells_take] at x1
      obtain ⟨k1,k2,k3⟩ := st_put hF3 (hA.pass hx03) hpl hbo hQ (fun b hb => by have := hQl b hb; have := hx03.alike.size; omega) x1 (Upd.refl _ _) (fun b hb => .inl hb)
      have b4 : (k : Int) ≤ (c0 : Int) := by omega
      have b5 : (0 : Int) ≤ (c0 : Int) := by omega
      (repeat revert hK K);refine Wc6 @b0 @b4 @b5 @h03 @k1 @Nat.sub_zero ?_;repeat with_reducible intro K hK
      rw [eU]
      exact ⟨rfl,k2,Upd.trans hx03.upd k3 fun _ _ h => h⟩
theorem sdrop_c (h : StAt w0 w Q ps pa L s) (hs : s.length < 10000) {f : FuncId} {first captured : Array Value} {pn : ByteArray → Bool}
    (hso : ∀ o ∈ s,∀ w1,Upd (AF w0 Q) w w1 → Gives Tryz.prog f (first.toList ++ [Value.string o.name] ++ captured.toList).toArray w1 fun v w' => v = .bool (pn o.name) ∧ Ext w1 w') :
    Gives Tryz.prog 168 #[.pointer (some ⟨ps,0,none⟩),.func (.func f) first captured] w fun v w' => StAt w0 w' Q ps pa L (dropS pn s) ∧ Upd (AF w0 Q) w w' := by
  obtain ⟨sv,bo,hF,hA,hpl,hbo,hQ⟩ := id h
  have s0 : inI64 ((s.length : Int) - 1) := by unfold inI64; omega
  have hQl0 : ∀ b,Q b → b < w.heap.size := fun b hb => hA.low b (.inl hb)
  refine Gives.of_W Tryz.call168 Tryz.func168 rfl Tryz.ntmps168 (by simp) ?_; intro Z hZ
  (repeat revert hK K);refine W0 ?_;repeat with_reducible intro K hK
  refine (slen_c hF).mono ?_
  intro v w' ⟨hv,hw⟩
  subst hv; subst w'
  (repeat revert hK K);refine W1 @s0 ?_;repeat with_reducible intro K hK
  refine W_loop (S := Nat) (fun k => [(0, .pointer (some ⟨ps, 0, none⟩)), (1, .func (.func f) first captured), (4, .int .i64 ((k : Int) - 1))])
    (fun k w2 => k ≤ s.length ∧ dropK (goP pn) s s.length = dropK (goP pn) s k ∧ StAt w0 w2 Q ps pa L (s.take k) ∧ Upd (AF w0 Q) w w2) (fun k => k) s.length ?_ ?_ ?_
  · (repeat simp only [push_cast,seval,-Nat.reduceSubDiff])
  · exact ⟨Nat.le_refl _,rfl,by rw [List.take_length]; exact h,Upd.refl _ _⟩
  rintro k w2 ⟨hk,he,h2,hu⟩
  cases k with
  | zero =>
    have e0 : (((0 : Nat) : Int) - 1) = -1 := rfl
    rw [e0]
    have b0 : ¬ (0 : Int) ≤ -1 := by omega
    (repeat revert hK K);refine W1 @b0 ?_;repeat with_reducible intro K hK
    unfold dropS
    rw [he,dropK]
    exact ⟨h2,hu⟩
  | succ k =>
    have e0 : (((k + 1 : Nat) : Int) - 1) = k := by omega
    rw [e0]
    rw [dropK] at he
    have b2 : inI64 ((k : Int) - 1) := by unfold inI64; omega
    have b0 : (0 : Int) ≤ (k : Int) := by omega
    have hkl : k < s.length := by omega
    obtain ⟨y,hy⟩ : ∃ y,s[k]? = some y := ⟨_,List.getElem?_eq_getElem hkl⟩
    have hgd : s.getD k zS = y := by simp [List.getD,hy]
    rw [hgd] at he
    have hy1 : (s.take (k + 1))[k]? = some y := by rw [List.getElem?_take,if_pos (by omega)]; exact hy
    have hlen : (s.take (k + 1)).length = k + 1 := by rw [List.length_take]; omega
    obtain ⟨sv2,bo2,hF2,hA2,_,hbo2,_⟩ := id h2
    have h02 := hF2.head
    obtain ⟨b,o,c,rfl,hbo1,c1,c2,c3⟩ := ops_cell hF2.sl hy1
    obtain ⟨_,_,e2,hc⟩ := ops_len hF2.sl
    cases e2
    have b3 : (k : Int) < ((s.take (k + 1)).length : Int) := by omega
    by_cases hsp : y.space = 0
    · (repeat revert hK K);refine Wd7 @b0 @b3 @h02 @c1 @c2 @c3 @hsp ?_;repeat with_reducible intro K hK
      refine (hso y (List.mem_of_getElem? hy) w2 hu).mono ?_
      rintro v w3 ⟨rfl,hx3⟩
      have h3 := h2.pass hx3
      have hu3 := Upd.trans hu hx3.upd fun _ _ h => h
      cases hp : pn y.name
      · rw [if_neg (by unfold goP; simp [hp])] at he
        (repeat revert hK K);refine W0 ?_;repeat with_reducible intro K hK
        unfold dropS
        rw [he]
        exact ⟨h3,hu3⟩
      · rw [if_pos (by unfold goP; simp [hp, hsp])] at he
        have hF3 := hF2.ext hx3
        have h03 := hF3.head
        have x1 := hF3.sl.partW (l := 0) (k := k) (m := c) (by omega) (by omega) (by omega) (by omega)
        simp only [Nat.zero_mul,Nat.sub_zero,List.drop_zero,opCells_take,List.take_take,Nat.min_eq_left (Nat.le_succ k)] at x1
        obtain ⟨k1,k2,k3⟩ := st_put hF3 (hA2.pass hx3) hpl hbo2 hQ (fun b hb => by have := hQl0 b hb; have := hu3.alike.size; omega) x1 (Upd.refl _ _) (fun b hb => .inl hb)
        have b4 : (k : Int) ≤ (c : Int) := by omega
        have b5 : (0 : Int) ≤ (c : Int) := by omega
        (repeat revert hK K);refine Wc7 @b0 @b2 @b4 @b5 @h03 @k1 @Nat.sub_zero ?_;repeat with_reducible intro K hK
        refine ⟨k,by omega,?_⟩
        (repeat simp only [push_cast,seval,-Nat.reduceSubDiff])
        exact ⟨by omega,he,k2,Upd.trans hu3 k3 fun _ _ h => h⟩
    · rw [if_neg (by unfold goP; simp [hsp])] at he
      (repeat revert hK K);refine Wc7 @b0 @b3 @h02 @c1 @c2 @c3 @hsp ?_;repeat with_reducible intro K hK
      unfold dropS
      rw [he]
      exact ⟨h2,hu⟩
theorem sthor_c (h : StAt w0 w Q ps pa L s) (hs : s.length < 10000) (hm : MaxAt w0) (hz : ∀ o ∈ s,o.name.size < 4294967281) : Gives Tryz.prog 212 #[.pointer (some ⟨ps,0,none⟩)] w fun v w' => StAt w0 w' Q ps pa L (dropS thoN s) ∧ Upd (AF w0 Q) w w' := by
  refine Gives.of_W Tryz.call212 Tryz.func212 rfl Tryz.ntmps212 (by simp) ?_; intro Z hZ
  (repeat revert hK K);refine W0 ?_;repeat with_reducible intro K hK
  refine (sdrop_c h hs (first := #[]) (captured := #[]) (pn := thoN) fun o ho w1 hu => ?_).mono ?_
  · refine (thorough_c o.name ?_ (hz o ho)).mono ?_
    · exact hm.ext (h.out2 hu)
    · rintro v w' ⟨rfl, rfl⟩
      exact ⟨rfl,Ext.refl _⟩
  rintro v w2 ⟨h2,hx⟩
  (repeat revert hK K);refine W0 ?_;repeat with_reducible intro K hK
  exact ⟨h2,hx⟩
end
end Go.Proofs.YtgnnlaeikcnhcaaGreatDoor
end
section
namespace Go.Vk
open Go
def TwX (X : Nat → Prop) (ps pl : Nat) (bo bl : Option Nat) (q : Nat) : Prop := X q ∨ q = ps ∨ bo = some q ∨ q = pl ∨ bl = some q
def Two (w0 w : World) (X : Nat → Prop) (ps pl pa : Nat) (L : List Nd) (s : List OpS) (l : List Int) : Prop :=
  ∃ sv bo lv bl,SK w ps (.pointer (some ⟨pa,0,none⟩)) sv s bo ∧ FL w pl (.pointer (some ⟨pa,0,none⟩)) lv l bl ∧ At w0 w (TwX X ps pl bo bl) pa L ∧ w0.heap.size ≤ ps ∧ w0.heap.size ≤ pl ∧
    (∀ b,bo = some b → w0.heap.size ≤ b ∧ ¬ X b ∧ b ≠ pl ∧ bl ≠ some b) ∧ (∀ b,bl = some b → w0.heap.size ≤ b ∧ ¬ X b ∧ b ≠ ps) ∧ ¬ X ps ∧ ¬ X pl ∧ ps ≠ pl
section
variable {w0 w w' : World} {X : Nat → Prop} {ps pl pa : Nat} {L : List Nd} {s : List OpS} {l : List Int}
theorem Two.out (h : Two w0 w X ps pl pa L s l) : Ext w0 w := let ⟨_,_,_,_,_,_,h,_⟩ := h; h.ext
theorem Two.app {G X' : Nat → Prop} (h : Two w0 w X ps pl pa L s l) (hu : Upd G w w') (hG : ∀ b,b < w.heap.size → G b → X b ∧ w0.heap.size ≤ b) (hX : ∀ b,X' b → X b ∨ (w.heap.size ≤ b ∧ b < w'.heap.size)) : Two w0 w' X' ps pl pa L s l := by
  obtain ⟨sv,bo,lv,bl,h1,h2,h3,h4,h5,h6,h7,h8,h9,h10⟩ := h
  have hps := blk_lt h1.head
  have hpl := blk_lt h2.head
  have nX : ∀ b,b < w.heap.size → ¬ X b → ¬ X' b := fun b hb hn hx => by
    rcases hX b hx with h | h
    · exact hn h
    · omega
  have lbo : ∀ b,bo = some b → b < w.heap.size := fun b hb => by subst hb; exact h1.sl.lt
  have lbl : ∀ b,bl = some b → b < w.heap.size := fun b hb => by subst hb; exact h2.sl.lt
  refine ⟨sv,bo,lv,bl,h1.upd hu (fun hg => h8 (hG _ hps hg).1) fun b hb hg => (h6 b hb).2.1 (hG b (lbo b hb) hg).1,h2.upd hu (fun hg => h9 (hG _ hpl hg).1) fun b hb hg => (h7 b hb).2.1 (hG b (lbl b hb) hg).1,
    h3.app hu (fun b hb hg => ⟨.inl (hG b hb hg).1,(hG b hb hg).2⟩) fun b hb => ?_,h4,h5,fun b hb => ⟨(h6 b hb).1,nX b (lbo b hb) (h6 b hb).2.1,(h6 b hb).2.2⟩,fun b hb => ⟨(h7 b hb).1,nX b (lbl b hb) (h7 b hb).2.1,(h7 b hb).2.2⟩,nX _ hps h8,nX _ hpl h9,h10⟩
  rcases hb with hb | hb
  · rcases hX b hb with h | h
    · exact .inl (.inl h)
    · exact .inr h
  · exact .inl (.inr hb)
theorem Two.stk (h : Two w0 w X ps pl pa L s l) : ∃ Q',StAt w0 w Q' ps pa L s ∧ ∀ w' L' s',StAt w0 w' Q' ps pa L' s' → Upd (AF w0 Q') w w' → Two w0 w' X ps pl pa L' s' l ∧ Upd (AF w0 X) w w' := by
  obtain ⟨sv,bo,lv,bl,h1,h2,h3,h4,h5,h6,h7,h8,h9,h10⟩ := h
  refine ⟨fun q => X q ∨ q = pl ∨ bl = some q,⟨sv,bo,h1,h3.guard (Ext.refl _) fun b hb => .inl ?_,h4,fun b hb => ⟨(h6 b hb).1,fun hq => ?_⟩,fun hq => ?_⟩,fun w' L' s' ⟨sv',bo',g1,g2,g3,g4,g5⟩ hu => ?_⟩
  · rcases hb with (hb | hb | hb) | hb | hb
    · exact .inl hb
    · exact .inr (.inr (.inr (.inl hb)))
    · exact .inr (.inr (.inr (.inr hb)))
    · exact .inr (.inl hb)
    · exact .inr (.inr (.inl hb))
  · rcases hq with hq | hq | hq
    · exact (h6 b hb).2.1 hq
    · exact (h6 b hb).2.2.1 hq
    · exact (h6 b hb).2.2.2 hq
  · rcases hq with hq | hq | hq
    · exact h8 hq
    · exact h10 hq
    · exact (h7 ps hq).2.2 rfl
  · refine ⟨⟨sv', bo', lv, bl, g1, h2.upd hu (fun hg => hg.2 (.inr (.inl rfl))) fun b hb hg => hg.2 (.inr (.inr hb)), g2.guard (Ext.refl _) fun b hb => .inl ?_, g3, h5, fun b hb => ⟨(g4 b hb).1, fun hx => (g4 b hb).2 (.inl hx), fun hx => (g4 b hb).2 (.inr (.inl hx)), fun hx => (g4 b hb).2 (.inr (.inr hx))⟩, h7, h8, h9, h10⟩, hu.mono fun b _ hf => ⟨hf.1, fun hx => hf.2 (.inl hx)⟩⟩
    rcases hb with hb | hb | hb | hb | hb
    · exact .inl (.inl hb)
    · exact .inr (.inl hb)
    · exact .inr (.inr hb)
    · exact .inl (.inr (.inl hb))
    · exact .inl (.inr (.inr hb))
theorem Two.fmt (h : Two w0 w X ps pl pa L s l) : ∃ Q',LsAt w0 w Q' pl pa L l ∧ ∀ w' L' l',LsAt w0 w' Q' pl pa L' l' → Upd (AF w0 Q') w w' → Two w0 w' X ps pl pa L' s l' ∧ Upd (AF w0 X) w w' := by
  obtain ⟨sv,bo,lv,bl,h1,h2,h3,h4,h5,h6,h7,h8,h9,h10⟩ := h
  refine ⟨fun q => X q ∨ q = ps ∨ bo = some q,⟨lv,bl,h2,h3.guard (Ext.refl _) fun b hb => .inl ?_,h5,fun b hb => ⟨(h7 b hb).1,fun hq => ?_⟩,fun hq => ?_⟩,fun w' L' l' ⟨lv',bl',g1,g2,g3,g4,g5⟩ hu => ?_⟩
  · rcases hb with (hb | hb | hb) | hb | hb
    · exact .inl hb
    · exact .inr (.inl hb)
    · exact .inr (.inr (.inl hb))
    · exact .inr (.inr (.inr (.inl hb)))
    · exact .inr (.inr (.inr (.inr hb)))
  · rcases hq with hq | hq | hq
    · exact (h7 b hb).2.1 hq
    · exact (h7 b hb).2.2 hq
    · exact (h6 b hq).2.2.2 hb
  · rcases hq with hq | hq | hq
    · exact h9 hq
    · exact h10 hq.symm
    · exact (h6 pl hq).2.2.1 rfl
  · refine ⟨⟨sv, bo, lv', bl', h1.upd hu (fun hg => hg.2 (.inr (.inl rfl))) fun b hb hg => hg.2 (.inr (.inr hb)), g1, g2.guard (Ext.refl _) fun b hb => .inl ?_, h4, g3, fun b hb => ⟨(h6 b hb).1, (h6 b hb).2.1, (h6 b hb).2.2.1, fun hx => (g4 b hx).2 (.inr (.inr hb))⟩, fun b hb => ⟨(g4 b hb).1, fun hx => (g4 b hb).2 (.inl hx), fun hx => (g4 b hb).2 (.inr (.inl hx))⟩, h8, h9, h10⟩, hu.mono fun b _ hf => ⟨hf.1, fun hx => hf.2 (.inl hx)⟩⟩
    rcases hb with hb | hb | hb | hb | hb
    · exact .inl (.inl hb)
    · exact .inl (.inr (.inl hb))
    · exact .inl (.inr (.inr hb))
    · exact .inr (.inl hb)
    · exact .inr (.inr hb)
theorem Two.arK (h : Two w0 w X ps pl pa L s l) : ∃ P,(∀ q,X q → P q) ∧ At w0 w P pa L ∧ ∀ w' L',At w0 w' P pa L' → Upd (AF w0 P) w w' → Two w0 w' X ps pl pa L' s l ∧ Upd (AF w0 X) w w' := by
  obtain ⟨sv,bo,lv,bl,h1,h2,h3,h4,h5,h6,h7,h8,h9,h10⟩ := h
  refine ⟨_,fun q hq => .inl hq,h3,fun w' L' g hu => ⟨⟨sv,bo,lv,bl,h1.upd hu (fun hg => hg.2 (.inr (.inl rfl))) fun b hb hg => hg.2 (.inr (.inr (.inl hb))),h2.upd hu (fun hg => hg.2 (.inr (.inr (.inr (.inl rfl))))) fun b hb hg => hg.2 (.inr (.inr (.inr (.inr hb)))),g,h4,h5,h6,h7,h8,h9,h10⟩,hu.mono fun b _ hf => ⟨hf.1,fun hx => hf.2 (.inl hx)⟩⟩⟩
theorem Two.ar (h : Two w0 w X ps pl pa L s l) : ∃ P,At w0 w P pa L ∧ ∀ w' L',At w0 w' P pa L' → Upd (AF w0 P) w w' → Two w0 w' X ps pl pa L' s l ∧ Upd (AF w0 X) w w' := let ⟨P,_,h⟩ := h.arK; ⟨P,h⟩
end
structure BSt where
  L : List Nd
  s : List OpS
  l : List Int
  mode : Int
  back : Int
  modes : List Int
  head : Int
  form : Int
  quirks : Bool
  foster : Bool
  skip : Bool
  pending : ByteArray
  ask : Option (Int × ByteArray)
  err : Option Int
def errV : Option Int → Value
  | none => .nilIface
  | some e => .iface 28 (.int .i64 e)
def BSt.row (b : BSt) (pa ps pl : Nat) (mv av : Value) : Array Value := #[.pointer (some ⟨pa,0,none⟩),.pointer (some ⟨ps,0,none⟩),.pointer (some ⟨pl,0,none⟩),.int .i64 b.mode,.int .i64 b.back,mv,.int .i64 b.head,.int .i64 b.form,.bool b.quirks,.bool b.foster,.bool b.skip,.string b.pending,av,errV b.err]
def AskAt (w : World) (a : Option (Int × ByteArray)) (v : Value) (ba : Option Nat) : Prop := match a with
  | none => v = .pointer none ∧ ba = none
  | some (st,nm) => ∃ p,v = .pointer (some ⟨p,0,none⟩) ∧ ba = some p ∧ w.heap[p]? = some (.cells #[.int .i64 st,.string nm] 145 (0,0))
theorem AskAt.upd {G : Nat → Prop} {w w' : World} {a : Option (Int × ByteArray)} {v : Value} {ba : Option Nat} (h : AskAt w a v ba) (hu : Upd G w w') (hG : ∀ b,ba = some b → ¬ G b) : AskAt w' a v ba := by
  cases a with
  | none => exact h
  | some x =>
    obtain ⟨p,h1,h2,h3⟩ := h
    exact ⟨p,h1,h2,(hu.same p (blk_lt h3) (hG p h2)).trans h3⟩
theorem AskAt.lt {w : World} {a : Option (Int × ByteArray)} {v : Value} {p : Nat} (h : AskAt w a v (some p)) : p < w.heap.size := by
  cases a with
  | none => cases h.2
  | some x =>
    obtain ⟨q,h1,h2,h3⟩ := h
    cases h2; exact blk_lt h3
def BuX (Q : Nat → Prop) (pb : Nat) (bm ba : Option Nat) (q : Nat) : Prop := Q q ∨ q = pb ∨ bm = some q ∨ ba = some q
def BuAt (w0 w : World) (Q : Nat → Prop) (pb ps pl pa : Nat) (b : BSt) : Prop := ∃ mv bm av ba,w.heap[pb]? = some (.cells (b.row pa ps pl mv av) 67 (0,0)) ∧ SlAt w 1 mv (intCells b.modes) bm ∧ AskAt w b.ask av ba ∧
  Two w0 w (BuX Q pb bm ba) ps pl pa b.L b.s b.l ∧ w0.heap.size ≤ pb ∧ ¬ Q pb ∧ (∀ q,bm = some q → w0.heap.size ≤ q ∧ ¬ Q q ∧ q ≠ pb ∧ ba ≠ some q) ∧ ∀ q,ba = some q → w0.heap.size ≤ q ∧ ¬ Q q ∧ q ≠ pb
section
variable {w0 w w' : World} {Q : Nat → Prop} {pb ps pl pa : Nat} {b : BSt}
theorem BuAt.out (h : BuAt w0 w Q pb ps pl pa b) : Ext w0 w := let ⟨_,_,_,_,_,_,_,h,_⟩ := h; h.out
theorem BuAt.app {G Q' : Nat → Prop} (h : BuAt w0 w Q pb ps pl pa b) (hu : Upd G w w') (hG : ∀ q,q < w.heap.size → G q → Q q ∧ w0.heap.size ≤ q) (hQ : ∀ q,Q' q → Q q ∨ (w.heap.size ≤ q ∧ q < w'.heap.size)) : BuAt w0 w' Q' pb ps pl pa b := by
  obtain ⟨mv,bm,av,ba,h1,h2,h3,h4,h5,h6,h7,h8⟩ := h
  have hpb := blk_lt h1
  have nQ : ∀ q,q < w.heap.size → ¬ Q q → ¬ Q' q := fun q hb hn hx => by
    rcases hQ q hx with h | h
    · exact hn h
    · omega
  have lm : ∀ q,bm = some q → q < w.heap.size := fun q hq => by subst hq; exact h2.lt
  have la : ∀ q,ba = some q → q < w.heap.size := fun q hq => by subst hq; exact h3.lt
  refine ⟨mv,bm,av,ba,(hu.same pb hpb fun hg => h6 (hG _ hpb hg).1).trans h1,h2.upd hu fun q hq hg => (h7 q hq).2.1 (hG q (lm q hq) hg).1,h3.upd hu fun q hq hg => (h8 q hq).2.1 (hG q (la q hq) hg).1,
    h4.app hu (fun q hq hg => ⟨.inl (hG q hq hg).1,(hG q hq hg).2⟩) fun q hq => ?_,h5,nQ _ hpb h6,fun q hq => ⟨(h7 q hq).1,nQ q (lm q hq) (h7 q hq).2.1,(h7 q hq).2.2⟩,fun q hq => ⟨(h8 q hq).1,nQ q (la q hq) (h8 q hq).2.1,(h8 q hq).2.2⟩⟩
  rcases hq with hq | hq
  · rcases hQ q hq with h | h
    · exact .inl (.inl h)
    · exact .inr h
  · exact .inl (.inr hq)
theorem BuAt.pass (h : BuAt w0 w Q pb ps pl pa b) (hx : Ext w w') : BuAt w0 w' Q pb ps pl pa b := h.app hx (fun _ _ h => h.elim) fun _ h => .inl h
theorem BuAt.twoK (h : BuAt w0 w Q pb ps pl pa b) : ∃ X,(X pb ∧ ∀ q,Q q → X q) ∧ Two w0 w X ps pl pa b.L b.s b.l ∧ ∀ w' L' s' l',Two w0 w' X ps pl pa L' s' l' → Upd (AF w0 X) w w' → BuAt w0 w' Q pb ps pl pa { b with L := L',s := s',l := l' } ∧ Upd (AF w0 Q) w w' := by
  obtain ⟨mv,bm,av,ba,h1,h2,h3,h4,h5,h6,h7,h8⟩ := h
  refine ⟨_,⟨.inr (.inl rfl),fun q hq => .inl hq⟩,h4,fun w' L' s' l' g hu => ⟨⟨mv,bm,av,ba,(hu.same pb (blk_lt h1) fun hg => hg.2 (.inr (.inl rfl))).trans h1,h2.upd hu fun q hq hg => hg.2 (.inr (.inr (.inl hq))),h3.upd hu fun q hq hg => hg.2 (.inr (.inr (.inr hq))),g,h5,h6,h7,h8⟩,hu.mono fun q _ hf => ⟨hf.1,fun hx => hf.2 (.inl hx)⟩⟩⟩
theorem BuAt.two (h : BuAt w0 w Q pb ps pl pa b) : ∃ X,Two w0 w X ps pl pa b.L b.s b.l ∧ ∀ w' L' s' l',Two w0 w' X ps pl pa L' s' l' → Upd (AF w0 X) w w' → BuAt w0 w' Q pb ps pl pa { b with L := L',s := s',l := l' } ∧ Upd (AF w0 Q) w w' := let ⟨X,_,h⟩ := h.twoK; ⟨X,h⟩
theorem BuAt.arK (h : BuAt w0 w Q pb ps pl pa b) : ∃ P,(P pb ∧ ∀ q,Q q → P q) ∧ At w0 w P pa b.L ∧ ∀ w' L',At w0 w' P pa L' → Upd (AF w0 P) w w' → BuAt w0 w' Q pb ps pl pa { b with L := L' } ∧ Upd (AF w0 Q) w w' := by
  obtain ⟨X,⟨k1,k2⟩,h1,h2⟩ := h.twoK
  obtain ⟨P,k3,h3,h4⟩ := h1.arK
  refine ⟨P,⟨k3 _ k1,fun q hq => k3 _ (k2 q hq)⟩,h3,fun w' L' g hu => ?_⟩
  obtain ⟨g1,g2⟩ := h4 w' L' g hu
  exact h2 w' L' b.s b.l g1 g2
theorem BuAt.less {Q' : Nat → Prop} (h : BuAt w0 w Q pb ps pl pa b) (hQ : ∀ q,Q' q → Q q) : BuAt w0 w Q' pb ps pl pa b := h.app (Ext.refl w) (fun _ _ h => h.elim) fun q hq => .inl (hQ q hq)
theorem BuAt.more {Q' : Nat → Prop} (h : BuAt w0 w Q pb ps pl pa b) (hx : Ext w w') (hQ : ∀ q,Q' q → Q q ∨ (w.heap.size ≤ q ∧ q < w'.heap.size)) : BuAt w0 w' Q' pb ps pl pa b := h.app hx (fun _ _ h => h.elim) hQ
theorem BuAt.stk (h : BuAt w0 w Q pb ps pl pa b) : ∃ Q',StAt w0 w Q' ps pa b.L b.s ∧ ∀ w' L' s',StAt w0 w' Q' ps pa L' s' → Upd (AF w0 Q') w w' → BuAt w0 w' Q pb ps pl pa { b with L := L',s := s' } ∧ Upd (AF w0 Q) w w' := by
  obtain ⟨X,h1,h2⟩ := h.two
  obtain ⟨Q',h3,h4⟩ := h1.stk
  refine ⟨Q',h3,fun w' L' s' g hu => ?_⟩
  obtain ⟨g1,g2⟩ := h4 w' L' s' g hu
  exact h2 w' L' s' b.l g1 g2
theorem BuAt.fmt (h : BuAt w0 w Q pb ps pl pa b) : ∃ Q',LsAt w0 w Q' pl pa b.L b.l ∧ ∀ w' L' l',LsAt w0 w' Q' pl pa L' l' → Upd (AF w0 Q') w w' → BuAt w0 w' Q pb ps pl pa { b with L := L',l := l' } ∧ Upd (AF w0 Q) w w' := by
  obtain ⟨X,h1,h2⟩ := h.two
  obtain ⟨Q',h3,h4⟩ := h1.fmt
  refine ⟨Q',h3,fun w' L' l' g hu => ?_⟩
  obtain ⟨g1,g2⟩ := h4 w' L' l' g hu
  exact h2 w' L' b.s l' g1 g2
theorem BuAt.ar (h : BuAt w0 w Q pb ps pl pa b) : ∃ P,At w0 w P pa b.L ∧ ∀ w' L',At w0 w' P pa L' → Upd (AF w0 P) w w' → BuAt w0 w' Q pb ps pl pa { b with L := L' } ∧ Upd (AF w0 Q) w w' := by
  obtain ⟨X,h1,h2⟩ := h.two
  obtain ⟨P,h3,h4⟩ := h1.ar
  refine ⟨P,h3,fun w' L' g hu => ?_⟩
  obtain ⟨g1,g2⟩ := h4 w' L' g hu
  exact h2 w' L' b.s b.l g1 g2
theorem BuAt.hd (h : BuAt w0 w Q pb ps pl pa b) : ∃ ma mn mc av,mn = b.modes.length ∧ mn ≤ mc ∧ w.heap[pb]? = some (.cells #[.pointer (some ⟨pa,0,none⟩),.pointer (some ⟨ps,0,none⟩),.pointer (some ⟨pl,0,none⟩),.int .i64 b.mode,.int .i64 b.back,.slice ma mn mc,.int .i64 b.head,.int .i64 b.form,.bool b.quirks,.bool b.foster,.bool b.skip,.string b.pending,.pointer av,errV b.err] 67 (0,0)) := by
  obtain ⟨mv,bm,av,ba,h1,h2,h3,_⟩ := h
  obtain ⟨ma,mc,rfl,hmc⟩ := h2.ints_len
  have : ∃ p,av = .pointer p := by
    cases hb : b.ask with
    | none => rw [hb] at h3; exact ⟨_,h3.1⟩
    | some x => rw [hb] at h3; obtain ⟨p,h,_⟩ := h3; exact ⟨_,h⟩
  obtain ⟨p,rfl⟩ := this
  exact ⟨ma,_,mc,p,rfl,hmc,h1⟩
theorem BuAt.put (h : BuAt w0 w Q pb ps pl pa b) (b' : BSt) (k : Nat) (v : Value) (hr : ∀ mv av,(b.row pa ps pl mv av).setIfInBounds k v = b'.row pa ps pl mv av) (hk : k < 14) (he : b'.L = b.L ∧ b'.s = b.s ∧ b'.l = b.l ∧ b'.modes = b.modes ∧ b'.ask = b.ask) :
    canStore w ⟨pb,k,none⟩ ∧ BuAt w0 (w.setCell ⟨pb,k,none⟩ v) Q pb ps pl pa b' ∧ Upd (AF w0 Q) w (w.setCell ⟨pb,k,none⟩ v) := by
  obtain ⟨mv,bm,av,ba,h1,h2,h3,h4,h5,h6,h7,h8⟩ := h
  obtain ⟨e1,e2,e3,e4,e5⟩ := he
  have up : Upd (fun q => q = pb) w (w.setCell ⟨pb,k,none⟩ v) := Upd.setCell (F := fun q => q = pb) (a := ⟨pb,k,none⟩) w rfl v
  refine ⟨by rw [can_h,h1,canO_cells]; exact hk,⟨mv,bm,av,ba,?_,by rw [e4]; exact h2.upd up fun q hq e => (h7 q hq).2.2.1 e,by rw [e5]; exact h3.upd up fun q hq e => (h8 q hq).2.2 e,?_,h5,h6,h7,h8⟩,up.mono fun q _ e => ⟨e ▸ h5,e ▸ h6⟩⟩
  · rw [heap_set_h,if_pos rfl,h1,setO_cells,hr]
  · rw [e1, e2, e3]
    exact h4.app up (fun q _ e => ⟨.inr (.inl e),e ▸ h5⟩) fun q hq => .inl hq
theorem BuAt.modesV (h : BuAt w0 w Q pb ps pl pa b) (hQl : ∀ q,Q q → q < w.heap.size) : ∃ ma mc av bm,b.modes.length ≤ mc ∧ w.heap[pb]? = some (.cells #[.pointer (some ⟨pa,0,none⟩),.pointer (some ⟨ps,0,none⟩),.pointer (some ⟨pl,0,none⟩),.int .i64 b.mode,.int .i64 b.back,.slice ma b.modes.length mc,.int .i64 b.head,.int .i64 b.form,.bool b.quirks,.bool b.foster,.bool b.skip,.string b.pending,.pointer av,errV b.err] 67 (0,0)) ∧
    SlAt w 1 (.slice ma b.modes.length mc) (intCells b.modes) bm ∧ ∀ w2 u ms bm',SlAt w2 1 u (intCells ms) bm' → Upd (fun q => bm = some q) w w2 → (∀ q,bm' = some q → bm = some q ∨ w.heap.size ≤ q) →
    canStore w2 ⟨pb,5,none⟩ ∧ BuAt w0 (w2.setCell ⟨pb,5,none⟩ u) Q pb ps pl pa { b with modes := ms } ∧ Upd (AF w0 Q) w (w2.setCell ⟨pb,5,none⟩ u) := by
  obtain ⟨mv,bm,av,ba,h1,h2,h3,h4,h5,h6,h7,h8⟩ := h
  obtain ⟨ma,mc,rfl,hmc⟩ := h2.ints_len
  obtain ⟨p,rfl⟩ : ∃ p,av = .pointer p := by
    cases hb : b.ask with
    | none => rw [hb] at h3; exact ⟨_,h3.1⟩
    | some x => rw [hb] at h3; obtain ⟨p,h,_⟩ := h3; exact ⟨_,h⟩
  refine ⟨ma,mc,p,bm,hmc,h1,h2,fun w2 u ms bm' g1 g2 g3 => ?_⟩
  have hpb := blk_lt h1
  have hnm : bm ≠ some pb := fun e => (h7 pb e).2.2.1 rfl
  have hp2 := (g2.same pb hpb hnm).trans h1
  have hs2 := g2.alike.size
  have h0 := h4.out.alike.size
  have la : ∀ q,ba = some q → q < w.heap.size := fun q hq => by subst hq; exact h3.lt
  have up : Upd (fun q => q = pb) w2 (w2.setCell ⟨pb,5,none⟩ u) := Upd.setCell (F := fun q => q = pb) (a := ⟨pb,5,none⟩) w2 rfl u
  have hm' : ∀ q,bm' = some q → w0.heap.size ≤ q ∧ ¬ Q q ∧ q ≠ pb ∧ ba ≠ some q := fun q hq => by
    rcases g3 q hq with h | h
    · exact h7 q h
    · exact ⟨by omega,fun hx => by have := hQl q hx; omega,fun e => by omega,fun e => by have := la q e; omega⟩
  have h42 : Two w0 w2 (BuX Q pb bm' ba) ps pl pa b.L b.s b.l := h4.app g2 (fun q _ e => ⟨.inr (.inr (.inl e)),(h7 q e).1⟩) fun q hq => by
    rcases hq with hq | hq | hq | hq
    · exact .inl (.inl hq)
    · exact .inl (.inr (.inl hq))
    · rcases g3 q hq with h | h
      · exact .inl (.inr (.inr (.inl h)))
      · exact .inr ⟨h,by subst hq; exact g1.lt⟩
    · exact .inl (.inr (.inr (.inr hq)))
  refine ⟨by rw [can_h,hp2,canO_cells]; exact (show 5 < 14 by decide),⟨u,bm',_,ba,?_,g1.upd up fun q hq e => (hm' q hq).2.2.1 e,(h3.upd g2 fun q hq e => (h7 q e).2.2.2 hq).upd up fun q hq e => (h8 q hq).2.2 e,h42.app up (fun q _ e => ⟨.inr (.inl e),e ▸ h5⟩) fun q hq => .inl hq,h5,h6,hm',h8⟩,?_⟩
  · rw [heap_set_h,if_pos rfl,hp2]; rfl
  · exact Upd.trans (g2.mono fun q _ e => ⟨(h7 q e).1,(h7 q e).2.1⟩) up fun q _ e => ⟨e ▸ h5,e ▸ h6⟩
theorem BuAt.putA {w2 : World} {st : Int} {nm : ByteArray} {p : Nat} (h : BuAt w0 w Q pb ps pl pa b) (hQl : ∀ q,Q q → q < w.heap.size) (hx : Ext w w2) (hp : w.heap.size ≤ p) (hw : w2.heap[p]? = some (.cells #[.int .i64 st,.string nm] 145 (0,0))) :
    canStore w2 ⟨pb,12,none⟩ ∧ BuAt w0 (w2.setCell ⟨pb,12,none⟩ (.pointer (some ⟨p,0,none⟩))) Q pb ps pl pa { b with ask := some (st,nm) } ∧ Upd (AF w0 Q) w (w2.setCell ⟨pb,12,none⟩ (.pointer (some ⟨p,0,none⟩))) := by
  obtain ⟨mv,bm,av,ba,h1,h2,h3,h4,h5,h6,h7,h8⟩ := h
  have hpb := blk_lt h1
  have hp2 := hx.blk h1
  have hs2 := hx.alike.size
  have h0 := h4.out.alike.size
  have hpl := blk_lt hw
  have lm : ∀ q,bm = some q → q < w.heap.size := fun q hq => by subst hq; exact h2.lt
  have up : Upd (fun q => q = pb) w2 (w2.setCell ⟨pb,12,none⟩ (.pointer (some ⟨p,0,none⟩))) := Upd.setCell (F := fun q => q = pb) (a := ⟨pb,12,none⟩) w2 rfl _
  have h42 : Two w0 w2 (BuX Q pb bm (some p)) ps pl pa b.L b.s b.l := h4.app hx (fun q _ e => e.elim) fun q hq => by
    rcases hq with hq | hq | hq | hq
    · exact .inl (.inl hq)
    · exact .inl (.inr (.inl hq))
    · exact .inl (.inr (.inr (.inl hq)))
    · cases hq; exact .inr ⟨hp,hpl⟩
  refine ⟨by rw [can_h,hp2,canO_cells]; exact (show 12 < 14 by decide),⟨mv,bm,_,some p,?_,(h2.ext hx).upd up fun q hq e => (h7 q hq).2.2.1 e,⟨p,rfl,rfl,(up.same p hpl (by omega)).trans hw⟩,h42.app up (fun q _ e => ⟨.inr (.inl e),e ▸ h5⟩) fun q hq => .inl hq,h5,h6,
    fun q hq => ⟨(h7 q hq).1,(h7 q hq).2.1,(h7 q hq).2.2.1,fun e => by cases e; have := lm _ hq; omega⟩,fun q hq => ?_⟩,?_⟩
  · rw [heap_set_h,if_pos rfl,hp2]; rfl
  · cases hq
    exact ⟨by omega,fun hx => by have := hQl _ hx; omega,fun e => by omega⟩
  · exact Upd.trans hx.upd up fun q _ e => ⟨e ▸ h5,e ▸ h6⟩
theorem BuAt.noA (h : BuAt w0 w Q pb ps pl pa b) :
    canStore w ⟨pb,12,none⟩ ∧ BuAt w0 (w.setCell ⟨pb,12,none⟩ (.pointer none)) Q pb ps pl pa { b with ask := none } ∧ Upd (AF w0 Q) w (w.setCell ⟨pb,12,none⟩ (.pointer none)) := by
  obtain ⟨mv,bm,av,ba,h1,h2,h3,h4,h5,h6,h7,h8⟩ := h
  have up : Upd (fun q => q = pb) w (w.setCell ⟨pb,12,none⟩ (.pointer none)) := Upd.setCell (F := fun q => q = pb) (a := ⟨pb,12,none⟩) w rfl _
  refine ⟨by rw [can_h,h1,canO_cells]; exact (show 12 < 14 by decide),⟨mv,bm,_,none,?_,h2.upd up fun q hq e => (h7 q hq).2.2.1 e,⟨rfl,rfl⟩,h4.app up (fun q _ e => ⟨.inr (.inl e),e ▸ h5⟩) fun q hq => .inl ?_,h5,h6,fun q hq => ⟨(h7 q hq).1,(h7 q hq).2.1,(h7 q hq).2.2.1,by simp⟩,fun q hq => by cases hq⟩,up.mono fun q _ e => ⟨e ▸ h5,e ▸ h6⟩⟩
  · rw [heap_set_h,if_pos rfl,h1]; rfl
  · rcases hq with hq | hq | hq | hq
    · exact .inl hq
    · exact .inr (.inl hq)
    · exact .inr (.inr (.inl hq))
    · cases hq
end
end Go.Vk
end
section
namespace Go.Vk
open Go
end Go.Vk
end
section
namespace Go.Vk
open Go Go.RowKit
end Go.Vk
end
section
namespace Go.Vk
open Go Go.RowKit
end Go.Vk
namespace Go.Proofs.YtgnnlaeikcnhcaaGreatDoor
open Go Go.Vk Go.RowKit
set_option maxHeartbeats 40000000
end Go.Proofs.YtgnnlaeikcnhcaaGreatDoor
end
section
namespace Go.Vk
open Go
theorem bs_of {P : Program} {t e es : Nat} (hT : STy P t e es) {n : Nat} (h0 : 0 < n * es) (h1 : n * es ≤ 4096) {w : World} {parts : List (Nat × Value)} {z : Value} (hz : ∀ w, (zeroValue e).run P w = .ok z w) {cs : Array Value}
    (hf : Instr.fill (fun i => some (i * es,es)) ((Array.range (n * es)).map (z.cells[· % z.cells.size]!)) parts = some cs) {K : Value → World → Prop}
    (h : K (.slice (some ⟨w.heap.size,0,none⟩) n n) (w.alloc (.cells cs e))) : RunV P (Instr.buildSlice t n parts.toArray) w K := by
  refine .of (w' := w.alloc (.cells cs e)) ?_ h
  have hlim : ¬ (n * es > 2 ^ 24) := by omega
  have hne : ¬ (n * es = 0) := by omega
  simp only [Instr.buildSlice,Sem.run_bind,run_underlying hT.und,hT.size,Result.andThen_ok,hlim,if_false,hne,hz,Sem.run_pure,hf,newRow,newObj]
  simp [Sem.run]
end Go.Vk
end
section
namespace Go.Proofs.YtgnnlaeikcnhcaaGreatDoor
open Go Go.Vk
set_option maxHeartbeats 40000000
section
variable {w0 w : World} {Q : Nat → Prop} {ps pa : Nat} {L : List Nd} {s : List OpS}
theorem styS : STy Tryz.prog 24 9 1 := ⟨Tryz.underlying24,Tryz.sizeOf9,fun w => ⟨_,by simp [Tryz.typeInfo9,Sem.run]; rfl,by decide,by decide⟩,fun w => ⟨_,by simp [Tryz.zeroValue9,Sem.run]; rfl,by decide⟩⟩
theorem names1 (w : World) (x : ByteArray) : RdAt (w.alloc (.cells #[.string x] 9)) 1 (.slice (some ⟨w.heap.size,0,none⟩) 1 1) (strCells [x]) :=
  ⟨_,1,1,rfl,Nat.le_refl _,rfl,fun i u hi => ⟨w.heap.size,0,rfl,by
    cases i with
    | zero =>
      simp only [strCells,List.map_cons,List.map_nil,List.getElem?_cons_zero] at hi
      cases hi
      rw [cell_h,heap_alloc_h,if_pos rfl]; rfl
    | succ i => simp [strCells] at hi⟩⟩
theorem bsl {w : World} {l : List ByteArray} {n : Nat} {parts : List (Nat × Value)} {K : Value → World → Prop} (hn : l.length = n) (h0 : 0 < n) (h1 : n ≤ 4096)
    (hf : Instr.fill (fun i => some (i * 1,1)) ((Array.range (n * 1)).map ((Value.string ⟨#[]⟩).cells[· % (Value.string ⟨#[]⟩).cells.size]!)) parts = some (strCells l).toArray)
    (h : ∀ v w',Ext w w' → RdAt w' 1 v (strCells l) → (∃ b,v = .slice (some ⟨b,0,none⟩) n n) → K v w') : RunV Tryz.prog (Instr.buildSlice 24 n parts.toArray) w K := by
  refine bs_of styS (n := n) (by omega) (by omega) Tryz.zeroValue9 hf ?_
  refine h _ _ (Ext.alloc _ _) ?_ ⟨_,rfl⟩
  have := (SlAt.new w 1 (strCells l).toArray 9 n (by simp [strCells,hn])).rd
  simpa using this
theorem len_s (h : StAt w0 w Q ps pa L s) : Gives Tryz.prog 34 #[.pointer (some ⟨ps,0,none⟩)] w fun v w' => v = .int .i64 (s.length : Int) ∧ w' = w := by
  obtain ⟨sv,bo,hF,_⟩ := id h
  exact slen_c hF
theorem at_s (h : StAt w0 w Q ps pa L s) (k : Int) : Gives Tryz.prog 52 #[.pointer (some ⟨ps,0,none⟩),.int .i64 k] w fun v w' => v = .int .i64 (atS s k) ∧ w' = w := by
  obtain ⟨sv,bo,hF,_⟩ := id h
  exact sat_c hF k
theorem top_s (h : StAt w0 w Q ps pa L s) (hs : s.length < 10000) : Gives Tryz.prog 106 #[.pointer (some ⟨ps,0,none⟩)] w fun v w' => v = .int .i64 (topS s) ∧ w' = w := by
  obtain ⟨sv,bo,hF,_⟩ := id h
  exact stop_c hF (by omega)
end
end Go.Proofs.YtgnnlaeikcnhcaaGreatDoor
end
section
namespace Go.Vk
open Go
def newB : BSt := ⟨[docN],[],[],0,0,[],-1,-1,false,false,false,⟨#[]⟩,none,none⟩
def failB (b : BSt) (e : Int) : BSt := if b.err = none ∧ e ≠ 0 then { b with err := some e } else b
end Go.Vk
namespace Go.Proofs.YtgnnlaeikcnhcaaGreatDoor
open Go Go.Vk
set_option maxHeartbeats 40000000
theorem plBu (w : World) : ((fsOf Tryz.prog 67).mapM plOf).run Tryz.prog w = .ok #[(0,1),(1,1),(2,1),(3,1),(4,1),(5,1),(6,1),(7,1),(8,1),(9,1),(10,1),(11,1),(12,1),(13,1)] w := by
  simp [fsOf,plOf,Tryz.underlying67,Sem.run,Tryz.sizeOf42,Tryz.sizeOf39,Tryz.sizeOf29,Tryz.sizeOf3,Tryz.sizeOf44,Tryz.sizeOf4,Tryz.sizeOf9,Tryz.sizeOf63,Tryz.sizeOf65]
theorem unBu : Tryz.prog.underlying 67 = some (.struct (fsOf Tryz.prog 67)) := by rw [fsOf,Tryz.underlying67]
theorem plWa (w : World) : ((fsOf Tryz.prog 145).mapM plOf).run Tryz.prog w = .ok #[(0,1),(1,1)] w := by
  simp [fsOf,plOf,Tryz.underlying145,Sem.run,Tryz.sizeOf3,Tryz.sizeOf9]
theorem unWa : Tryz.prog.underlying 145 = some (.struct (fsOf Tryz.prog 145)) := by rw [fsOf,Tryz.underlying145]
theorem errIf : Tryz.prog.underlying 65 = some (.interface (Tryz.prog.methodsAt 65)) := by kernel_rfl
theorem nilI {o1 : Operand} {c : Value} (w : World) (K : Value → World → Prop) : Pure1 Tryz.prog (do eqGuard .eql 65 o1 (.const c) .nilIface .nilIface; binOp .eql 65 .nilIface .nilIface) w K = K (.bool true) w :=
  Pure1_eq (fun w => by
    have h1 : (eqGuard .eql 65 o1 (.const c) .nilIface .nilIface).run Tryz.prog w = .ok () w := by cases o1 <;> simp [eqGuard,Sem.run]
    rw [Sem.run_bind,h1,Result.andThen_ok,run_eql_nil_nil w _ errIf]) w K
theorem heldI {o1 o2 : Operand} (u : TypeId) (x : Value) (w : World) (K : Value → World → Prop) : Pure1 Tryz.prog (do eqGuard .eql 65 o1 o2 (.iface u x) .nilIface; binOp .eql 65 (.iface u x) .nilIface) w K = K (.bool false) w :=
  Pure1_eq (fun w => by
    have h1 : (eqGuard .eql 65 o1 o2 (.iface u x) .nilIface).run Tryz.prog w = .ok () w := by simp [eqGuard,Sem.run]
    rw [Sem.run_bind,h1,Result.andThen_ok,run_eql_held_nil w _ _ _ errIf]) w K
theorem mkErr (e : Int) (w : World) (K : Value → World → Prop) : Pure1 Tryz.prog (Instr.makeInterface 28 (.int .i64 e)) w K = K (.iface 28 (.int .i64 e)) w := Pure1_eq (fun w => by kernel_rfl) w K
section
variable {w0 w : World} {Q : Nat → Prop} {pb ps pl pa : Nat} {b : BSt}
theorem bnone_c (h : BuAt w0 w Q pb ps pl pa b) : Gives Tryz.prog 95 #[.pointer (some ⟨pb,0,none⟩)] w fun v w' => v = .bool false ∧ w' = w := by
  obtain ⟨ma,mn,mc,av,_,_,hh⟩ := h.hd
  refine Gives.of_W Tryz.call95 Tryz.func95 rfl Tryz.ntmps95 (by simp) ?_; intro Z hZ
  (repeat first|(with_reducible first|(refine hK _ _ ?_;clear hK K)|refine ‹∀σ w,_→K σ w› _ _ ?_|(refine W_st ?_;constructor;try intro K hK))|((with_reducible first|refine hZ _ _ ?_|refine W_rg ?_|skip);repeat1' simp only[push_cast,seval,-Nat.reduceSubDiff,cell_h,cellO_cells,hh])|((repeat((fail_if_success with_reducible refine hK _ _ ?_);clear hK K));with_reducible refine hK _ _ ?_;clear hK K))
theorem barena_c (h : BuAt w0 w Q pb ps pl pa b) : Gives Tryz.prog 25 #[.pointer (some ⟨pb,0,none⟩)] w fun v w' => v = .pointer (some ⟨pa,0,none⟩) ∧ w' = w := by
  obtain ⟨ma,mn,mc,av,_,_,hh⟩ := h.hd
  refine Gives.of_W Tryz.call25 Tryz.func25 rfl Tryz.ntmps25 (by simp) ?_; intro Z hZ
  (repeat revert hK K);refine W0 ?_;repeat with_reducible intro K hK
  refine (bnone_c h).mono ?_
  intro v w' ⟨hv,hw⟩
  subst hv; subst w'
  (repeat first|(with_reducible first|(refine hK _ _ ?_;clear hK K)|refine ‹∀σ w,_→K σ w› _ _ ?_|(refine W_st ?_;constructor;try intro K hK))|((with_reducible first|refine hZ _ _ ?_|refine W_rg ?_|skip);repeat1' simp only[push_cast,seval,-Nat.reduceSubDiff,cell_h,cellO_cells,hh])|((repeat((fail_if_success with_reducible refine hK _ _ ?_);clear hK K));with_reducible refine hK _ _ ?_;clear hK K))
theorem bstack_c (h : BuAt w0 w Q pb ps pl pa b) : Gives Tryz.prog 23 #[.pointer (some ⟨pb,0,none⟩)] w fun v w' => v = .pointer (some ⟨ps,0,none⟩) ∧ w' = w := by
  obtain ⟨ma,mn,mc,av,_,_,hh⟩ := h.hd
  refine Gives.of_W Tryz.call23 Tryz.func23 rfl Tryz.ntmps23 (by simp) ?_; intro Z hZ
  (repeat revert hK K);refine W0 ?_;repeat with_reducible intro K hK
  refine (bnone_c h).mono ?_
  intro v w' ⟨hv,hw⟩
  subst hv; subst w'
  (repeat first|(with_reducible first|(refine hK _ _ ?_;clear hK K)|refine ‹∀σ w,_→K σ w› _ _ ?_|(refine W_st ?_;constructor;try intro K hK))|((with_reducible first|refine hZ _ _ ?_|refine W_rg ?_|skip);repeat1' simp only[push_cast,seval,-Nat.reduceSubDiff,cell_h,cellO_cells,hh])|((repeat((fail_if_success with_reducible refine hK _ _ ?_);clear hK K));with_reducible refine hK _ _ ?_;clear hK K))
theorem bforms_c (h : BuAt w0 w Q pb ps pl pa b) : Gives Tryz.prog 19 #[.pointer (some ⟨pb,0,none⟩)] w fun v w' => v = .pointer (some ⟨pl,0,none⟩) ∧ w' = w := by
  obtain ⟨ma,mn,mc,av,_,_,hh⟩ := h.hd
  refine Gives.of_W Tryz.call19 Tryz.func19 rfl Tryz.ntmps19 (by simp) ?_; intro Z hZ
  (repeat revert hK K);refine W0 ?_;repeat with_reducible intro K hK
  refine (bnone_c h).mono ?_
  intro v w' ⟨hv,hw⟩
  subst hv; subst w'
  (repeat first|(with_reducible first|(refine hK _ _ ?_;clear hK K)|refine ‹∀σ w,_→K σ w› _ _ ?_|(refine W_st ?_;constructor;try intro K hK))|((with_reducible first|refine hZ _ _ ?_|refine W_rg ?_|skip);repeat1' simp only[push_cast,seval,-Nat.reduceSubDiff,cell_h,cellO_cells,hh])|((repeat((fail_if_success with_reducible refine hK _ _ ?_);clear hK K));with_reducible refine hK _ _ ?_;clear hK K))
theorem bmode_c (h : BuAt w0 w Q pb ps pl pa b) : Gives Tryz.prog 44 #[.pointer (some ⟨pb,0,none⟩)] w fun v w' => v = .int .i64 b.mode ∧ w' = w := by
  obtain ⟨ma,mn,mc,av,_,_,hh⟩ := h.hd
  refine Gives.of_W Tryz.call44 Tryz.func44 rfl Tryz.ntmps44 (by simp) ?_; intro Z hZ
  (repeat revert hK K);refine W0 ?_;repeat with_reducible intro K hK
  refine (bnone_c h).mono ?_
  intro v w' ⟨hv,hw⟩
  subst hv; subst w'
  (repeat first|(with_reducible first|(refine hK _ _ ?_;clear hK K)|refine ‹∀σ w,_→K σ w› _ _ ?_|(refine W_st ?_;constructor;try intro K hK))|((with_reducible first|refine hZ _ _ ?_|refine W_rg ?_|skip);repeat1' simp only[push_cast,seval,-Nat.reduceSubDiff,cell_h,cellO_cells,hh])|((repeat((fail_if_success with_reducible refine hK _ _ ?_);clear hK K));with_reducible refine hK _ _ ?_;clear hK K))
theorem bback_c (h : BuAt w0 w Q pb ps pl pa b) : Gives Tryz.prog 43 #[.pointer (some ⟨pb,0,none⟩)] w fun v w' => v = .int .i64 b.back ∧ w' = w := by
  obtain ⟨ma,mn,mc,av,_,_,hh⟩ := h.hd
  refine Gives.of_W Tryz.call43 Tryz.func43 rfl Tryz.ntmps43 (by simp) ?_; intro Z hZ
  (repeat revert hK K);refine W0 ?_;repeat with_reducible intro K hK
  refine (bnone_c h).mono ?_
  intro v w' ⟨hv,hw⟩
  subst hv; subst w'
  (repeat first|(with_reducible first|(refine hK _ _ ?_;clear hK K)|refine ‹∀σ w,_→K σ w› _ _ ?_|(refine W_st ?_;constructor;try intro K hK))|((with_reducible first|refine hZ _ _ ?_|refine W_rg ?_|skip);repeat1' simp only[push_cast,seval,-Nat.reduceSubDiff,cell_h,cellO_cells,hh])|((repeat((fail_if_success with_reducible refine hK _ _ ?_);clear hK K));with_reducible refine hK _ _ ?_;clear hK K))
theorem bhead_c (h : BuAt w0 w Q pb ps pl pa b) : Gives Tryz.prog 45 #[.pointer (some ⟨pb,0,none⟩)] w fun v w' => v = .int .i64 b.head ∧ w' = w := by
  obtain ⟨ma,mn,mc,av,_,_,hh⟩ := h.hd
  refine Gives.of_W Tryz.call45 Tryz.func45 rfl Tryz.ntmps45 (by simp) ?_; intro Z hZ
  (repeat revert hK K);refine W0 ?_;repeat with_reducible intro K hK
  refine (bnone_c h).mono ?_
  intro v w' ⟨hv,hw⟩
  subst hv; subst w'
  (repeat first|(with_reducible first|(refine hK _ _ ?_;clear hK K)|refine ‹∀σ w,_→K σ w› _ _ ?_|(refine W_st ?_;constructor;try intro K hK))|((with_reducible first|refine hZ _ _ ?_|refine W_rg ?_|skip);repeat1' simp only[push_cast,seval,-Nat.reduceSubDiff,cell_h,cellO_cells,hh])|((repeat((fail_if_success with_reducible refine hK _ _ ?_);clear hK K));with_reducible refine hK _ _ ?_;clear hK K))
theorem bform_c (h : BuAt w0 w Q pb ps pl pa b) : Gives Tryz.prog 46 #[.pointer (some ⟨pb,0,none⟩)] w fun v w' => v = .int .i64 b.form ∧ w' = w := by
  obtain ⟨ma,mn,mc,av,_,_,hh⟩ := h.hd
  refine Gives.of_W Tryz.call46 Tryz.func46 rfl Tryz.ntmps46 (by simp) ?_; intro Z hZ
  (repeat revert hK K);refine W0 ?_;repeat with_reducible intro K hK
  refine (bnone_c h).mono ?_
  intro v w' ⟨hv,hw⟩
  subst hv; subst w'
  (repeat first|(with_reducible first|(refine hK _ _ ?_;clear hK K)|refine ‹∀σ w,_→K σ w› _ _ ?_|(refine W_st ?_;constructor;try intro K hK))|((with_reducible first|refine hZ _ _ ?_|refine W_rg ?_|skip);repeat1' simp only[push_cast,seval,-Nat.reduceSubDiff,cell_h,cellO_cells,hh])|((repeat((fail_if_success with_reducible refine hK _ _ ?_);clear hK K));with_reducible refine hK _ _ ?_;clear hK K))
theorem bpend_c (h : BuAt w0 w Q pb ps pl pa b) : Gives Tryz.prog 47 #[.pointer (some ⟨pb,0,none⟩)] w fun v w' => v = .string b.pending ∧ w' = w := by
  obtain ⟨ma,mn,mc,av,_,_,hh⟩ := h.hd
  refine Gives.of_W Tryz.call47 Tryz.func47 rfl Tryz.ntmps47 (by simp) ?_; intro Z hZ
  (repeat revert hK K);refine W0 ?_;repeat with_reducible intro K hK
  refine (bnone_c h).mono ?_
  intro v w' ⟨hv,hw⟩
  subst hv; subst w'
  (repeat first|(with_reducible first|(refine hK _ _ ?_;clear hK K)|refine ‹∀σ w,_→K σ w› _ _ ?_|(refine W_st ?_;constructor;try intro K hK))|((with_reducible first|refine hZ _ _ ?_|refine W_rg ?_|skip);repeat1' simp only[push_cast,seval,-Nat.reduceSubDiff,cell_h,cellO_cells,hh])|((repeat((fail_if_success with_reducible refine hK _ _ ?_);clear hK K));with_reducible refine hK _ _ ?_;clear hK K))
theorem bquirks_c (h : BuAt w0 w Q pb ps pl pa b) : Gives Tryz.prog 59 #[.pointer (some ⟨pb,0,none⟩)] w fun v w' => v = .bool b.quirks ∧ w' = w := by
  obtain ⟨ma,mn,mc,av,_,_,hh⟩ := h.hd
  refine Gives.of_W Tryz.call59 Tryz.func59 rfl Tryz.ntmps59 (by simp) ?_; intro Z hZ
  (repeat revert hK K);refine W0 ?_;repeat with_reducible intro K hK
  refine (bnone_c h).mono ?_
  intro v w' ⟨hv,hw⟩
  subst hv; subst w'
  (repeat first|(with_reducible first|(refine hK _ _ ?_;clear hK K)|refine ‹∀σ w,_→K σ w› _ _ ?_|(refine W_st ?_;constructor;try intro K hK))|((with_reducible first|refine hZ _ _ ?_|refine W_rg ?_|skip);repeat1' simp only[push_cast,seval,-Nat.reduceSubDiff,cell_h,cellO_cells,hh])|((repeat((fail_if_success with_reducible refine hK _ _ ?_);clear hK K));with_reducible refine hK _ _ ?_;clear hK K))
theorem bset_c (h : BuAt w0 w Q pb ps pl pa b) (m : Int) : Gives Tryz.prog 36 #[.pointer (some ⟨pb,0,none⟩),.int .i64 m] w fun _ w' => BuAt w0 w' Q pb ps pl pa { b with mode := m } ∧ Upd (AF w0 Q) w w' := by
  obtain ⟨ma,mn,mc,av,_,_,hh⟩ := h.hd
  obtain ⟨k1,k2,k3⟩ := h.put { b with mode := m } 3 (.int .i64 m) (fun _ _ => rfl) (by decide) ⟨rfl,rfl,rfl,rfl,rfl⟩
  refine Gives.of_W Tryz.call36 Tryz.func36 rfl Tryz.ntmps36 (by simp) ?_; intro Z hZ
  (repeat revert hK K);refine W0 ?_;repeat with_reducible intro K hK
  refine (bnone_c h).mono ?_
  intro v w' ⟨hv,hw⟩
  subst hv; subst w'
  (repeat revert hK K);refine Wc2 @hh @k1 ?_;repeat with_reducible intro K hK
  exact ⟨k2,k3⟩
theorem bkeep_c (h : BuAt w0 w Q pb ps pl pa b)  : Gives Tryz.prog 37 #[.pointer (some ⟨pb,0,none⟩)] w fun _ w' => BuAt w0 w' Q pb ps pl pa { b with back := b.mode } ∧ Upd (AF w0 Q) w w' := by
  obtain ⟨ma,mn,mc,av,_,_,hh⟩ := h.hd
  obtain ⟨k1,k2,k3⟩ := h.put { b with back := b.mode } 4 (.int .i64 b.mode) (fun _ _ => rfl) (by decide) ⟨rfl,rfl,rfl,rfl,rfl⟩
  refine Gives.of_W Tryz.call37 Tryz.func37 rfl Tryz.ntmps37 (by simp) ?_; intro Z hZ
  (repeat revert hK K);refine W0 ?_;repeat with_reducible intro K hK
  refine (bnone_c h).mono ?_
  intro v w' ⟨hv,hw⟩
  subst hv; subst w'
  (repeat revert hK K);refine Wc2 @hh @k1 ?_;repeat with_reducible intro K hK
  exact ⟨k2,k3⟩
theorem bsethead_c (h : BuAt w0 w Q pb ps pl pa b) (m : Int) : Gives Tryz.prog 38 #[.pointer (some ⟨pb,0,none⟩),.int .i64 m] w fun _ w' => BuAt w0 w' Q pb ps pl pa { b with head := m } ∧ Upd (AF w0 Q) w w' := by
  obtain ⟨ma,mn,mc,av,_,_,hh⟩ := h.hd
  obtain ⟨k1,k2,k3⟩ := h.put { b with head := m } 6 (.int .i64 m) (fun _ _ => rfl) (by decide) ⟨rfl,rfl,rfl,rfl,rfl⟩
  refine Gives.of_W Tryz.call38 Tryz.func38 rfl Tryz.ntmps38 (by simp) ?_; intro Z hZ
  (repeat revert hK K);refine W0 ?_;repeat with_reducible intro K hK
  refine (bnone_c h).mono ?_
  intro v w' ⟨hv,hw⟩
  subst hv; subst w'
  (repeat revert hK K);refine Wc2 @hh @k1 ?_;repeat with_reducible intro K hK
  exact ⟨k2,k3⟩
theorem bsetquirks_c (h : BuAt w0 w Q pb ps pl pa b) (m : Bool) : Gives Tryz.prog 72 #[.pointer (some ⟨pb,0,none⟩),.bool m] w fun _ w' => BuAt w0 w' Q pb ps pl pa { b with quirks := m } ∧ Upd (AF w0 Q) w w' := by
  obtain ⟨ma,mn,mc,av,_,_,hh⟩ := h.hd
  obtain ⟨k1,k2,k3⟩ := h.put { b with quirks := m } 8 (.bool m) (fun _ _ => rfl) (by decide) ⟨rfl,rfl,rfl,rfl,rfl⟩
  refine Gives.of_W Tryz.call72 Tryz.func72 rfl Tryz.ntmps72 (by simp) ?_; intro Z hZ
  (repeat revert hK K);refine W0 ?_;repeat with_reducible intro K hK
  refine (bnone_c h).mono ?_
  intro v w' ⟨hv,hw⟩
  subst hv; subst w'
  (repeat revert hK K);refine Wc2 @hh @k1 ?_;repeat with_reducible intro K hK
  exact ⟨k2,k3⟩
theorem bfail_c (h : BuAt w0 w Q pb ps pl pa b) (e : Int) : Gives Tryz.prog 33 #[.pointer (some ⟨pb,0,none⟩),.int .i64 e] w fun _ w' => BuAt w0 w' Q pb ps pl pa (failB b e) ∧ Upd (AF w0 Q) w w' := by
  obtain ⟨ma,mn,mc,av,_,_,hh⟩ := h.hd
  cases hb : b.err with
  | none =>
    rw [hb] at hh
    by_cases he : e = 0
    · have e0 : failB b e = b := by unfold failB; rw [if_neg (fun h => h.2 he)]
      rw [e0]
      refine Gives.of_W Tryz.call33 Tryz.func33 rfl Tryz.ntmps33 (by simp) ?_; intro Z hZ
      (repeat revert hK K);refine W0 ?_;repeat with_reducible intro K hK
      refine (bnone_c h).mono ?_
      intro v w' ⟨hv,hw⟩
      subst hv; subst w'
      (repeat first|(with_reducible first|(refine hK _ _ ?_;clear hK K)|refine ‹∀σ w,_→K σ w› _ _ ?_|(refine W_st ?_;constructor;try intro K hK))|((with_reducible first|refine hZ _ _ ?_|refine W_rg ?_|skip);repeat1' simp only[push_cast,seval,-Nat.reduceSubDiff,cell_h,cellO_cells,hh,errV,nilI,he,not_true_eq_false,decide_true,decide_false])|((repeat((fail_if_success with_reducible refine hK _ _ ?_);clear hK K));with_reducible refine hK _ _ ?_;clear hK K))
      exact ⟨h,Upd.refl _ _⟩
    · have e0 : failB b e = { b with err := some e } := by unfold failB; rw [if_pos ⟨hb, he⟩]
      rw [e0]
      obtain ⟨k1,k2,k3⟩ := h.put { b with err := some e } 13 (.iface 28 (.int .i64 e)) (fun _ _ => rfl) (by decide) ⟨rfl,rfl,rfl,rfl,rfl⟩
      refine Gives.of_W Tryz.call33 Tryz.func33 rfl Tryz.ntmps33 (by simp) ?_; intro Z hZ
      (repeat revert hK K);refine W0 ?_;repeat with_reducible intro K hK
      refine (bnone_c h).mono ?_
      intro v w' ⟨hv,hw⟩
      subst hv; subst w'
      (repeat first|(with_reducible first|(refine hK _ _ ?_;clear hK K)|refine ‹∀σ w,_→K σ w› _ _ ?_|(refine W_st ?_;constructor;try intro K hK))|((with_reducible first|refine hZ _ _ ?_|refine W_rg ?_|skip);repeat1' simp only[push_cast,seval,-Nat.reduceSubDiff,cell_h,cellO_cells,hh,errV,nilI,he,not_false_eq_true,decide_true,decide_false,mkErr,k1])|((repeat((fail_if_success with_reducible refine hK _ _ ?_);clear hK K));with_reducible refine hK _ _ ?_;clear hK K))
      exact ⟨k2,k3⟩
  | some e1 =>
    rw [hb] at hh
    have e0 : failB b e = b := by unfold failB; rw [if_neg (fun h => by rw [hb] at h; cases h.1)]
    rw [e0]
    refine Gives.of_W Tryz.call33 Tryz.func33 rfl Tryz.ntmps33 (by simp) ?_; intro Z hZ
    (repeat revert hK K);refine W0 ?_;repeat with_reducible intro K hK
    refine (bnone_c h).mono ?_
    intro v w' ⟨hv,hw⟩
    subst hv; subst w'
    (repeat first|(with_reducible first|(refine hK _ _ ?_;clear hK K)|refine ‹∀σ w,_→K σ w› _ _ ?_|(refine W_st ?_;constructor;try intro K hK))|((with_reducible first|refine hZ _ _ ?_|refine W_rg ?_|skip);repeat1' simp only[push_cast,seval,-Nat.reduceSubDiff,cell_h,cellO_cells,hh,errV,heldI,not_true_eq_false,decide_true,decide_false])|((repeat((fail_if_success with_reducible refine hK _ _ ?_);clear hK K));with_reducible refine hK _ _ ?_;clear hK K))
    exact ⟨h,Upd.refl _ _⟩
end
end Go.Proofs.YtgnnlaeikcnhcaaGreatDoor
end
section
namespace Go.Vk
open Go
theorem Ext.sz {w w' : World} (h : Ext w w') : w.heap.size ≤ w'.heap.size := h.alike.size
theorem SlAt.preS {w : World} {es n c : Nat} {a : Option Addr} {cells : List Value} {bo : Option Nat} (h : SlAt w es (.slice a n c) cells bo) {hi : Nat} (h2 : hi ≤ n) :
    SlAt w es (.slice (if c = 0 then a else Option.map (fun x => x.add 0) a) (hi - 0) (c - 0)) (cells.take (hi * es)) bo := by
  rw [Nat.sub_zero,Nat.sub_zero]
  rcases h with ⟨h1,h3,h4⟩ | ⟨b,o,n',c',cs,t,h1,h3,h4,h5,h6,h7,h8⟩
  · cases h3; cases h4
    obtain rfl : hi = 0 := by omega
    exact .inl ⟨h1,rfl,by simp⟩
  · cases h3
    have hm := Nat.mul_le_mul_right es h2
    refine .inr ⟨b,o,hi,c,cs,t,h1,?_,by omega,by rw [List.length_take]; omega,h6,h7,fun i hi' => ?_⟩
    · split
      · rfl
      · simp [add_mk]
    · rw [List.length_take] at hi'
      rw [List.getElem?_take,if_pos (by omega)]
      exact h8 i (by omega)
theorem newL (w : World) (zs : Array Value) (l : List Value) (t : TypeId) (hl : zs.size = l.length) : Ext w (setCells (w.alloc (.cells zs t)) ⟨w.heap.size,0,none⟩ l 0) ∧ (setCells (w.alloc (.cells zs t)) ⟨w.heap.size,0,none⟩ l 0).heap[w.heap.size]? = some (.cells l.toArray t (0,0)) := by
  have z1 : (w.alloc (.cells zs t)).heap[w.heap.size]? = some (.cells zs t (0,0)) := by rw [heap_alloc_h,if_pos rfl]
  exact ⟨Upd.trans (Ext.alloc w _) (Upd.setCells (F := fun b => b = w.heap.size) (a := ⟨w.heap.size,0,none⟩) _ rfl _ 0) fun i hi e => by omega,setCells_all z1 hl⟩
end Go.Vk
end
section
namespace Go.Vk
open Go
def popM (b : BSt) : BSt := { b with modes := b.modes.dropLast }
theorem preS1 {w : World} {n c : Nat} {a : Option Addr} {l : List Int} {bo : Option Nat} (h : SlAt w 1 (.slice a n c) (intCells l) bo) {hi : Nat} (h2 : hi ≤ n) :
    SlAt w 1 (.slice (if c = 0 then a else Option.map (fun x => x.add 0) a) (hi - 0) (c - 0)) (intCells (l.take hi)) bo := by
  have := h.preS h2
  have e : (intCells l).take (hi * 1) = intCells (l.take hi) := by unfold intCells; rw [Nat.mul_one,List.map_take]
  rwa [e] at this
end Go.Vk
namespace Go.Proofs.YtgnnlaeikcnhcaaGreatDoor
open Go Go.Vk
set_option maxHeartbeats 40000000
theorem bnew_c {w : World} : Gives Tryz.prog 17 #[] w fun v w' => ∃ pb ps pl pa,v = .pointer (some ⟨pb,0,none⟩) ∧ BuAt w w' noP pb ps pl pa newB := by
  refine Gives.of_W Tryz.call17 Tryz.func17 rfl Tryz.ntmps17 (by simp) ?_; intro Z hZ
  (repeat revert hK K);refine W0 ?_;repeat with_reducible intro K hK
  refine new_a.mono ?_
  rintro v w1 ⟨pa,rfl,hA⟩
  (repeat revert hK K);refine W0 ?_;repeat with_reducible intro K hK
  refine (snew_c hA (by decide)).mono ?_
  rintro v w2 ⟨ps,rfl,⟨sv,bo,hF,hA2,hps,hbo,_⟩,hx2⟩
  (repeat revert hK K);refine W0 ?_;repeat with_reducible intro K hK
  refine (fnew_c hA2 (by decide)).mono ?_
  rintro v w3 ⟨pl,rfl,⟨lv,bl,hG,hA3,hpl,hbl,hnl⟩,hx3⟩
  (repeat revert hK K);refine W0 ?_;repeat with_reducible intro K hK
  refine build_struct Tryz.zeroValue67 unBu plBu (cs := #[.pointer (some ⟨pa,0,none⟩),.pointer (some ⟨ps,0,none⟩),.pointer (some ⟨pl,0,none⟩),.int .i64 0,.int .i64 0,.slice none 0 0,.int .i64 (-1),.int .i64 (-1),.bool false,.bool false,.bool false,.string ⟨#[]⟩,.pointer none,.nilIface]) (by rfl) ?_
  (repeat revert hK K);refine W1 @vcells_agg ?_;repeat with_reducible intro K hK
  have hT : Two w w3 noP ps pl pa [docN] [] [] := by
    refine ⟨sv,bo,lv,bl,hF.ext hx3,hG,hA3.guard (Ext.refl _) fun b hb => .inl ?_,hps,hpl,fun b hb => ⟨(hbo b hb).1,id,fun e => hnl (.inr (.inr (by rw [← e]; exact hb))),fun e => (hbl b e).2 (.inr (.inr hb))⟩,fun b hb => ⟨(hbl b hb).1,id,fun e => (hbl b hb).2 (.inr (.inl e))⟩,id,id,fun e => hnl (.inr (.inl e.symm))⟩
    rcases hb with hb | hb | hb | hb | hb
    · exact hb.elim
    · exact .inl (.inr (.inl hb))
    · exact .inl (.inr (.inr hb))
    · exact .inr (.inl hb)
    · exact .inr (.inr hb)
  have h0 := hT.out.alike.size
  have hz : ∀ o,(w3.alloc o).heap.size = w3.heap.size + 1 := fun o => size_alloc_h _ _
  refine ⟨w3.heap.size,rfl,ps,pl,pa,.slice none 0 0,none,.pointer none,none,by rw [heap_alloc_h,if_pos rfl]; rfl,SlAt.nil _ _,⟨rfl,rfl⟩,hT.app (Ext.alloc _ _) (fun _ _ h => h.elim) fun q hq => ?_,h0,id,fun q hq => (by cases hq),fun q hq => by cases hq⟩
  rcases hq with hq | hq | hq | hq
  · exact hq.elim
  · exact .inr (by rw [hz]; omega)
  · cases hq
  · cases hq
section
variable {w0 w : World} {Q : Nat → Prop} {pb ps pl pa : Nat} {b : BSt}
theorem bpushm_c (h : BuAt w0 w Q pb ps pl pa b) (hQl : ∀ q,Q q → q < w.heap.size) (hm : b.modes.length < 100000) (m : Int) : Gives Tryz.prog 70 #[.pointer (some ⟨pb,0,none⟩),.int .i64 m] w fun _ w' => BuAt w0 w' Q pb ps pl pa { b with modes := b.modes ++ [m] } ∧ Upd (AF w0 Q) w w' := by
  obtain ⟨ma,mc,av,bm,_,hh,hsl,hput⟩ := h.modesV hQl
  refine Gives.of_W Tryz.call70 Tryz.func70 rfl Tryz.ntmps70 (by simp) ?_; intro Z hZ
  (repeat revert hK K);refine W0 ?_;repeat with_reducible intro K hK
  refine (bnone_c h).mono ?_
  intro v w' ⟨hv,hw⟩
  subst hv; subst w'
  (repeat revert hK K);refine Wc1 @hh ?_;repeat with_reducible intro K hK
  refine bs_one sty28 (by decide) (by decide) (v := .int .i64 m) rfl ?_
  have hx2 := Ext.alloc w (.cells (Value.int .i64 m).cells 3)
  have hz2 : (w.alloc (.cells (Value.int .i64 m).cells 3)).heap.size = w.heap.size + 1 := size_alloc_h _ _
  (repeat revert hK K);refine W0 ?_;repeat with_reducible intro K hK
  refine app_to sty28 sty28.und (by decide) (hsl.ext hx2) (SlAt.new w 1 (Value.int .i64 m).cells 3 1 rfl) (by rfl) (by rw [intCells_length]; simp [Value.cells]; omega) ?_
  intro v w3 bo3 s1 s2 s3
  have e5 : intCells b.modes ++ (Value.int .i64 m).cells.toList = intCells (b.modes ++ [m]) := by rw [intCells_append]; rfl
  rw [e5] at s1
  obtain ⟨k1,k2,k3⟩ := hput w3 v (b.modes ++ [m]) bo3 s1 (Upd.trans hx2.upd s2 fun _ _ h => h) fun q hq => by
    rcases s3 q hq with h | h
    · exact .inl h
    · exact .inr (by omega)
  obtain ⟨x,y,z,e,_⟩ := s1.len
  subst e
  (repeat revert hK K);refine W1 @k1 ?_;repeat with_reducible intro K hK
  exact ⟨k2,k3⟩
theorem bpopm_c (h : BuAt w0 w Q pb ps pl pa b) (hQl : ∀ q,Q q → q < w.heap.size) (hm : b.modes.length < 100000) : Gives Tryz.prog 71 #[.pointer (some ⟨pb,0,none⟩)] w fun _ w' => BuAt w0 w' Q pb ps pl pa (popM b) ∧ Upd (AF w0 Q) w w' := by
  obtain ⟨ma,mc,av,bm,hmc,hh,hsl,hput⟩ := h.modesV hQl
  by_cases h0 : b.modes.length = 0
  · have e0 : popM b = b := by
      unfold popM
      rw [List.length_eq_zero_iff.1 h0]
      have : b.modes = [] := List.length_eq_zero_iff.1 h0
      cases b; simp_all
    rw [e0]
    rw [h0] at hh
    have d0 : ¬ (0 : Int) < ((0 : Nat) : Int) := by omega
    refine Gives.of_W Tryz.call71 Tryz.func71 rfl Tryz.ntmps71 (by simp) ?_; intro Z hZ
    (repeat revert hK K);refine W0 ?_;repeat with_reducible intro K hK
    refine (bnone_c h).mono ?_
    intro v w' ⟨hv,hw⟩
    subst hv; subst w'
    (repeat revert hK K);refine Wc3 @hh @d0 @decide_false ?_;repeat with_reducible intro K hK
    exact ⟨h,Upd.refl _ _⟩
  · obtain ⟨k, hk⟩ : ∃ k, b.modes.length = k + 1 := ⟨b.modes.length - 1, by omega⟩
    have eD : b.modes.dropLast = b.modes.take k := by rw [List.dropLast_eq_take]; congr 1; omega
    have d0 : (0 : Int) < (b.modes.length : Int) := by omega
    have e1 : (b.modes.length : Int) - 1 = (k : Int) := by omega
    have e2 : inI64 (k : Int) := by unfold inI64; omega
    have e3 : (0 : Int) ≤ (k : Int) := by omega
    have e5 : (k : Int) ≤ (mc : Int) := by omega
    have e6 : k ≤ b.modes.length := by omega
    have hxd := Ext.drew w
    have hhd := hxd.blk hh
    unfold popM
    rw [eD]
    generalize b.modes.length = n at *
    refine Gives.of_W Tryz.call71 Tryz.func71 rfl Tryz.ntmps71 (by simp) ?_; intro Z hZ
    (repeat revert hK K);refine W0 ?_;repeat with_reducible intro K hK
    refine (bnone_c h).mono ?_
    intro v w' ⟨hv,hw⟩
    subst hv; subst w'
    (repeat revert hK K);refine Wc3 @hh @d0 @decide_true ?_;repeat with_reducible intro K hK
    refine W_draw (.pas 0 (.pas 1 (.pas 2 (.pas 3 (.pas 4 (.pas 5 (.pas 6 (.pas 7 (.pas 8 (.pas 9 (.pas 10 (.pas 11 (.pas 12 (.pas 13 (.last 14))))))))))))))) (fun b' => b' = pb) (by decide) mixed (by kernel_rfl) ?_
    generalize w.drew = wd at *
    refine Dd5 @hhd @e1 @e2 @e3 @e5 ?_
    have hP := preS1 (hsl.ext hxd) (hi := k) e6
    obtain ⟨k1,k2,k3⟩ := hput wd _ (b.modes.take k) bm hP hxd.upd fun q hq => .inl hq
    try rw [Int.toNat_natCast]
    refine ⟨k1,?_⟩
    (repeat revert hK K);refine W0 ?_;repeat with_reducible intro K hK
    exact ⟨k2,k3⟩
theorem bmodes_c (h : BuAt w0 w Q pb ps pl pa b) (hm : b.modes.length < 100000) : Gives Tryz.prog 81 #[.pointer (some ⟨pb,0,none⟩)] w fun v w' => ∃ bo,SlAt w' 1 v (intCells b.modes) bo ∧ Ext w w' ∧ ∀ q,bo = some q → w.heap.size ≤ q := by
  obtain ⟨mv,bm,av,ba,h1,h2,h3,_⟩ := id h
  obtain ⟨ma,mc,rfl,hmc⟩ := h2.ints_len
  unfold BSt.row at h1
  refine Gives.of_W Tryz.call81 Tryz.func81 rfl Tryz.ntmps81 (by simp) ?_; intro Z hZ
  (repeat revert hK K);refine W0 ?_;repeat with_reducible intro K hK
  refine (bnone_c h).mono ?_
  intro v w' ⟨hv,hw⟩
  subst hv; subst w'
  (repeat revert hK K);refine Wc1 @h1 ?_;repeat with_reducible intro K hK
  refine (clone_i h2 (by omega)).mono ?_
  rintro v w2 ⟨bo,g1,g2,g3⟩
  (repeat revert hK K);refine W0 ?_;repeat with_reducible intro K hK
  exact ⟨bo,g1,g2,g3⟩
theorem bask_c (h : BuAt w0 w Q pb ps pl pa b) : Gives Tryz.prog 64 #[.pointer (some ⟨pb,0,none⟩)] w fun v w' => v = .tuple #[.int .i64 ((b.ask.getD (0,⟨#[]⟩)).1),.string ((b.ask.getD (0,⟨#[]⟩)).2),.bool b.ask.isSome] ∧ BuAt w0 w' Q pb ps pl pa { b with ask := none } ∧ Upd (AF w0 Q) w w' := by
  obtain ⟨mv,bm,av,ba,h1,h2,h3,_⟩ := id h
  obtain ⟨ma,mc,rfl,hmc⟩ := h2.ints_len
  unfold BSt.row at h1
  cases hb : b.ask with
  | none =>
    rw [hb] at h3
    obtain ⟨rfl,_⟩ := h3
    refine Gives.of_W Tryz.call64 Tryz.func64 rfl Tryz.ntmps64 (by simp) ?_; intro Z hZ
    (repeat revert hK K);refine W0 ?_;repeat with_reducible intro K hK
    refine (bnone_c h).mono ?_
    intro v w' ⟨hv,hw⟩
    subst hv; subst w'
    (repeat revert hK K);refine Wc1 @h1 ?_;repeat with_reducible intro K hK
    have e : { b with ask := none } = b := by cases b; simp_all
    rw [e]
    exact ⟨rfl,h,Upd.refl _ _⟩
  | some x =>
    obtain ⟨st,nm⟩ := x
    rw [hb] at h3
    obtain ⟨p,rfl,_,hp⟩ := h3
    obtain ⟨hx2,hp2⟩ := newL w #[.int .i64 0,.string ⟨#[]⟩] [.int .i64 st,.string nm] 145 rfl
    have h12 := hx2.blk h1
    have h2' := h.pass hx2
    have hsz := blk_lt h1
    refine Gives.of_W Tryz.call64 Tryz.func64 rfl Tryz.ntmps64 (by simp) ?_; intro Z hZ
    (repeat revert hK K);refine W0 ?_;repeat with_reducible intro K hK
    refine (bnone_c h).mono ?_
    intro v w' ⟨hv,hw⟩
    subst hv; subst w'
    (repeat revert hK K);refine Wc4 @h1 @hp (RunV_zero Tryz.zeroValue145) @vcells_agg ?_;repeat with_reducible intro K hK
    simp only [can_h,heap_alloc_h,if_true,canO_cells,List.size_toArray,List.length_cons,List.length_nil,Nat.zero_add,Nat.reduceAdd,Nat.reduceLT,true_and]
    generalize setCells (w.alloc (.cells #[.int .i64 0,.string ⟨#[]⟩] 145)) ⟨w.heap.size,0,none⟩ [.int .i64 st,.string nm] 0 = w2 at *
    obtain ⟨p8,hp8⟩ : ∃ p8,p8 = w.heap.size := ⟨_,rfl⟩
    rw [← hp8] at hp2 ⊢
    obtain ⟨k1,k2,k3⟩ := h2'.noA

    (repeat revert hK K);refine Wc2 @h12 @k1 ?_;repeat with_reducible intro K hK
    have hne : ¬ p8 = pb := by omega
    have hp3 : (w2.setCell ⟨pb,12,none⟩ (.pointer none)).heap[p8]? = some (.cells #[.int .i64 st,.string nm] 145 (0,0)) := by rw [heap_set_h,if_neg hne]; exact hp2
    generalize w2.setCell ⟨pb,12,none⟩ (.pointer none) = w3 at *
    have hxd := Ext.drew w3
    have hpd := hxd.blk hp3
    refine W_draw (.pas 0 (.pas 1 (.pas 2 (.pas 3 (.pas 4 (.pas 5 (.pas 6 .fin))))))) (fun _ => True) (by decide) mixed (by kernel_rfl) ?_
    generalize w3.drew = wd at *
    refine Dd1 @hpd ?_
    (repeat revert hK K);refine W0 ?_;repeat with_reducible intro K hK
    exact ⟨rfl,k2.pass hxd,Upd.trans hx2.upd (Upd.trans k3 hxd.upd fun _ _ h => h) fun _ _ h => h⟩
end
end Go.Proofs.YtgnnlaeikcnhcaaGreatDoor
end
section
namespace Go.Vk
open Go
def nodeN (L : List Nd) (i : Int) : Nd := (nd? L i).getD zN
def htmlN (n : Nd) (l : List ByteArray) : Bool := decide (n.kind = 3) && (decide (n.space = 0) && l.any fun y => decide (n.name = y))
def lastBu (b : BSt) (name : ByteArray) : Int := lastB (fun k => htmlN (nodeN b.L (b.s.getD k zS).node) [name]) b.s.length
def sTable : ByteArray := ⟨#[116,97,98,108,101]⟩
def tabs5 : List ByteArray := [sTable,⟨#[116,98,111,100,121]⟩,⟨#[116,102,111,111,116]⟩,⟨#[116,104,101,97,100]⟩,⟨#[116,114]⟩]
def fosterB (b : BSt) : Int × Int :=
  if lastBu b sTable < lastBu b tmpl then (atS b.s (lastBu b tmpl),-1)
  else if lastBu b sTable < 0 then (atS b.s 0,-1)
  else if 0 ≤ (nodeN b.L (atS b.s (lastBu b sTable))).parent then ((nodeN b.L (atS b.s (lastBu b sTable))).parent,atS b.s (lastBu b sTable))
  else (atS b.s (lastBu b sTable - 1),-1)
def place1 (b : BSt) (t : Int) : Int × Int := if b.foster = true ∧ htmlN (nodeN b.L t) tabs5 = true then fosterB b else (t,-1)
def placeB (b : BSt) (t : Int) : Int × Int :=
  if (place1 b t).2 < 0 ∧ htmlN (nodeN b.L (place1 b t).1) [tmpl] = true then ((nodeN b.L (place1 b t).1).content,(place1 b t).2) else place1 b t
def putB (b : BSt) (i t : Int) : BSt := if 0 ≤ (placeB b t).2 then { b with L := (beforeN b.L i (placeB b t).2).1 } else { b with L := (appendN b.L (placeB b t).1 i).1 }
def targB (b : BSt) : Int := if 0 > topS b.s then 0 else topS b.s
structure okB (b : BSt) : Prop where
  L : b.L.length < 90000
  at_ : ∀ n ∈ b.L,n.attrs.length < 1000000
  s : b.s.length < 10000
  l : b.l.length < 10000
end Go.Vk
namespace Go.Proofs.YtgnnlaeikcnhcaaGreatDoor
open Go Go.Vk
set_option maxHeartbeats 40000000
theorem bhtml_c {w : World} (m : Laid) {nv : Value} {l : List ByteArray} (hn : RdAt w 1 nv (strCells l)) (hl : l.length < 1000000000) : Gives Tryz.prog 130 #[m.val,nv] w fun v w' => v = .bool (htmlN m.nd l) ∧ Ext w w' := by
  rw [Laid.val_eq]
  have hx := Ext.alloc w (.cells #[.int .i64 m.nd.kind,.string m.nd.name,.string m.nd.text,.int .i64 m.nd.space,m.av,.bool m.nd.dup,.int .i64 m.nd.parent,.int .i64 m.nd.content,m.kv,.int .i64 m.nd.frm,.int .i64 m.nd.to] 46)
  have hp : (w.alloc (.cells #[.int .i64 m.nd.kind,.string m.nd.name,.string m.nd.text,.int .i64 m.nd.space,m.av,.bool m.nd.dup,.int .i64 m.nd.parent,.int .i64 m.nd.content,m.kv,.int .i64 m.nd.frm,.int .i64 m.nd.to] 46)).heap[w.heap.size]? = some (.cells #[.int .i64 m.nd.kind,.string m.nd.name,.string m.nd.text,.int .i64 m.nd.space,m.av,.bool m.nd.dup,.int .i64 m.nd.parent,.int .i64 m.nd.content,m.kv,.int .i64 m.nd.frm,.int .i64 m.nd.to] 46 (0,0)) := by rw [heap_alloc_h,if_pos rfl]
  unfold htmlN
  refine Gives.of_W Tryz.call130 Tryz.func130 rfl Tryz.ntmps130 (by simp) ?_; intro Z hZ
  (repeat revert hK K);refine W1 @vcells_agg ?_;repeat with_reducible intro K hK
  generalize w.alloc (.cells #[.int .i64 m.nd.kind,.string m.nd.name,.string m.nd.text,.int .i64 m.nd.space,m.av,.bool m.nd.dup,.int .i64 m.nd.parent,.int .i64 m.nd.content,m.kv,.int .i64 m.nd.frm,.int .i64 m.nd.to] 46) = w1 at *
  obtain ⟨p,hpe⟩ : ∃ p,p = w.heap.size := ⟨_,rfl⟩
  rw [← hpe] at hp ⊢
  by_cases hk : m.nd.kind = 3
  · by_cases hs : m.nd.space = 0
    · (repeat revert hK K);refine Wc4 @hp @hk @hs @decide_true ?_;repeat with_reducible intro K hK
      refine (sconts_c (hn.ext hx) hl m.nd.name).mono ?_
      intro v w' ⟨hv,hw⟩
      subst hv; subst w'
      (repeat revert hK K);refine W0 ?_;repeat with_reducible intro K hK
      first | exact hx | exact ⟨by simp [hk,hs],hx⟩
    · (repeat revert hK K);refine Wc5 @hp @hk @hs @decide_true @decide_false ?_;repeat with_reducible intro K hK
      first | exact hx | exact ⟨by simp [hs],hx⟩
  · (repeat revert hK K);refine Wc4 @hp @hk @decide_true @decide_false ?_;repeat with_reducible intro K hK
    first | exact hx | exact ⟨by simp [hk],hx⟩
section
variable {w0 w : World} {Q : Nat → Prop} {pb ps pl pa : Nat} {b : BSt}
theorem bnode_c (h : BuAt w0 w Q pb ps pl pa b) (hb : okB b) (i : Int) : Gives Tryz.prog 29 #[.pointer (some ⟨pa,0,none⟩),.int .i64 i] w fun v w' => ∃ m : Laid,v = m.val ∧ m.nd = nodeN b.L i ∧ m.ok w' ∧ Ext w w' ∧ ∀ q ∈ m.blks,w.heap.size ≤ q := by
  obtain ⟨P,hA,_⟩ := h.ar
  refine (node_a hA (by have := hb.L; omega) hb.at_ i).mono ?_
  rintro v w' ⟨m,h1,h2,h3,_,h5,h6,_⟩
  exact ⟨m,h1,h2,h3,h5,h6⟩
theorem btop_c (h : BuAt w0 w Q pb ps pl pa b) (hb : okB b) : Gives Tryz.prog 106 #[.pointer (some ⟨ps,0,none⟩)] w fun v w' => v = .int .i64 (topS b.s) ∧ w' = w := by
  obtain ⟨P,hA,_⟩ := h.stk
  exact top_s hA hb.s
theorem bslen_c (h : BuAt w0 w Q pb ps pl pa b) : Gives Tryz.prog 34 #[.pointer (some ⟨ps,0,none⟩)] w fun v w' => v = .int .i64 (b.s.length : Int) ∧ w' = w := by
  obtain ⟨P,hA,_⟩ := h.stk
  exact len_s hA
theorem bsat_c (h : BuAt w0 w Q pb ps pl pa b) (k : Int) : Gives Tryz.prog 52 #[.pointer (some ⟨ps,0,none⟩),.int .i64 k] w fun v w' => v = .int .i64 (atS b.s k) ∧ w' = w := by
  obtain ⟨P,hA,_⟩ := h.stk
  exact at_s hA k
theorem blast_c (h : BuAt w0 w Q pb ps pl pa b) (hb : okB b) (x : ByteArray) : Gives Tryz.prog 136 #[.pointer (some ⟨pb,0,none⟩),.string x] w fun v w' => v = .int .i64 (lastBu b x) ∧ Ext w w' := by
  obtain ⟨ma,mn,mc,av,_,_,hh⟩ := h.hd
  have hs := hb.s
  have s0 : inI64 ((b.s.length : Int) - 1) := by unfold inI64; omega
  refine Gives.of_W Tryz.call136 Tryz.func136 rfl Tryz.ntmps136 (by simp) ?_; intro Z hZ
  (repeat revert hK K);refine Wc1 @hh ?_;repeat with_reducible intro K hK
  refine (bslen_c h).mono ?_
  intro v w' ⟨hv,hw⟩
  subst hv; subst w'
  (repeat revert hK K);refine W1 @s0 ?_;repeat with_reducible intro K hK
  refine W_loop (S := Nat) (fun k => [(0, .pointer (some ⟨pb, 0, none⟩)), (1, .string x), (5, .int .i64 ((k : Int) - 1))])
    (fun k w2 => k ≤ b.s.length ∧ lastBu b x = lastB (fun k => htmlN (nodeN b.L (b.s.getD k zS).node) [x]) k ∧ Ext w w2) (fun k => k) b.s.length ?_ ?_ ?_
  · (repeat simp only [push_cast,seval,-Nat.reduceSubDiff])
  · exact ⟨Nat.le_refl _,rfl,Ext.refl _⟩
  rintro k w2 ⟨hk,he,hx2⟩
  cases k with
  | zero =>
    have e0 : (((0 : Nat) : Int) - 1) = -1 := rfl
    rw [e0]
    have b0 : ¬ (0 : Int) ≤ -1 := by omega
    (repeat revert hK K);refine W1 @b0 ?_;repeat with_reducible intro K hK
    rw [he]
    exact ⟨rfl,hx2⟩
  | succ k =>
    have e0 : (((k + 1 : Nat) : Int) - 1) = k := by omega
    rw [e0]
    rw [lastB] at he
    have b0 : (0 : Int) ≤ (k : Int) := by omega
    have b2 : inI64 ((k : Int) - 1) := by unfold inI64; omega
    have hkl : k < b.s.length := by omega
    have eA : atS b.s (k : Int) = (b.s.getD k zS).node := by
      unfold atS
      rw [if_pos ⟨b0,by omega⟩,Int.toNat_natCast]
    have hxd := hx2.trans (Ext.drew w2)
    have hd := h.pass hxd
    have hhd := hxd.blk hh
    have l1 := blk_lt hhd
    have hA : ∀ w3,Ext w2.drew w3 → Gives Tryz.prog 52 #[.pointer (some ⟨ps,0,none⟩),.int .i64 (k : Int)] w3 fun v w' => v = .int .i64 (b.s.getD k zS).node ∧ w' = w3 := fun w3 hx => by rw [← eA]; exact bsat_c (hd.pass hx) (k : Int)
    generalize (b.s.getD k zS).node = nk at *
    (repeat revert hK K);refine W1 @b0 ?_;repeat with_reducible intro K hK
    refine W_draw (.pas 0 (.pas 1 (.pas 2 (.pas 3 (.pas 4 (.pas 5 (.pas 6 (.pas 7 (.pas 8 (.pas 11 (.two 9 (.two 10 (.act 12 (.act 13 .fin)) 12 (.act 10 (.act 13 .fin))) 12 (.act 9 (.act 10 (.act 13 .fin)))))))))))))) (fun q => q = pb) (by decide) mixed (by kernel_rfl) ?_
    generalize w2.drew = wd at *
    refine Dd1 @hhd ?_
    refine two_mk ?_ ?_
    · refine D0 ?_
      refine (hA wd (Ext.refl wd)).mono ?_
      intro v w' ⟨hv,hw⟩
      subst hv; subst w'
      refine ⟨kept.refl _ _,?_⟩
      refine D0 ?_
      refine two_mk ?_ ?_
      · refine D0 ?_
        refine (bnode_c (hd.pass (Ext.refl wd)) hb nk).mono ?_
        rintro v wn1 ⟨m,rfl,hm,hok,hxn1,_⟩
        have hxw1 := Ext.trans (Ext.refl wd) hxn1
        refine ⟨kept_upd hxn1 fun q hq => ⟨by have : q = pb := hq; have := Ext.sz (Ext.refl wd); omega,id⟩,?_⟩
        refine D0 ?_
        refine bs_one styS (by decide) (by decide) (v := .string x) rfl ?_
        rw [vc_str]
        have nm2 := names1 wn1 x
        have hxa2 := Ext.alloc wn1 (.cells #[.string x] 9)
        have hxw2 := Ext.trans hxw1 hxa2
        refine ⟨kept_upd hxa2 fun q hq => ⟨by have : q = pb := hq; have := Ext.sz hxw1; omega,id⟩,?_⟩
        generalize (World.alloc wn1 (.cells #[.string x] 9)) = wn2 at *
        refine D0 ?_
        refine (bhtml_c m nm2 (show 1 < 1000000000 by decide)).mono ?_
        rintro v we ⟨rfl,hxe⟩
        rw [hm]
        refine ⟨kept_upd hxe fun q hq => ⟨by have : q = pb := hq; have := Ext.sz hxw2; omega,id⟩,?_⟩
        refine D0 ?_
        have hxo := hxd.trans (Ext.trans hxw2 hxe)
        cases hz : htmlN (nodeN b.L nk) [x]
        · rw [hz, if_neg (by decide)] at he
          (repeat revert hK K);refine W1 @b2 ?_;repeat with_reducible intro K hK
          refine ⟨k,by omega,?_⟩
          (repeat simp only [push_cast,seval,-Nat.reduceSubDiff])
          exact ⟨by omega,he,hxo⟩
        · rw [hz, if_pos rfl] at he
          (repeat revert hK K);refine W0 ?_;repeat with_reducible intro K hK
          exact ⟨he.symm,hxo⟩
      · refine D0 ?_
        refine bs_one styS (by decide) (by decide) (v := .string x) rfl ?_
        rw [vc_str]
        have nm3 := names1 wd x
        have hxa3 := Ext.alloc wd (.cells #[.string x] 9)
        have hxw3 := Ext.trans (Ext.refl wd) hxa3
        refine ⟨kept_upd hxa3 fun q hq => ⟨by have : q = pb := hq; have := Ext.sz (Ext.refl wd); omega,id⟩,?_⟩
        generalize (World.alloc wd (.cells #[.string x] 9)) = wn3 at *
        refine D0 ?_
        refine (bnode_c (hd.pass hxw3) hb nk).mono ?_
        rintro v wn4 ⟨m,rfl,hm,hok,hxn4,_⟩
        have hxw4 := Ext.trans hxw3 hxn4
        refine ⟨kept_upd hxn4 fun q hq => ⟨by have : q = pb := hq; have := Ext.sz hxw3; omega,id⟩,?_⟩
        have nm4 := nm3.ext hxn4
        refine D0 ?_
        refine (bhtml_c m nm4 (show 1 < 1000000000 by decide)).mono ?_
        rintro v we ⟨rfl,hxe⟩
        rw [hm]
        refine ⟨kept_upd hxe fun q hq => ⟨by have : q = pb := hq; have := Ext.sz hxw4; omega,id⟩,?_⟩
        refine D0 ?_
        have hxo := hxd.trans (Ext.trans hxw4 hxe)
        cases hz : htmlN (nodeN b.L nk) [x]
        · rw [hz, if_neg (by decide)] at he
          (repeat revert hK K);refine W1 @b2 ?_;repeat with_reducible intro K hK
          refine ⟨k,by omega,?_⟩
          (repeat simp only [push_cast,seval,-Nat.reduceSubDiff])
          exact ⟨by omega,he,hxo⟩
        · rw [hz, if_pos rfl] at he
          (repeat revert hK K);refine W0 ?_;repeat with_reducible intro K hK
          exact ⟨he.symm,hxo⟩
    · refine D0 ?_
      refine bs_one styS (by decide) (by decide) (v := .string x) rfl ?_
      rw [vc_str]
      have nm5 := names1 wd x
      have hxa5 := Ext.alloc wd (.cells #[.string x] 9)
      have hxw5 := Ext.trans (Ext.refl wd) hxa5
      refine ⟨kept_upd hxa5 fun q hq => ⟨by have : q = pb := hq; have := Ext.sz (Ext.refl wd); omega,id⟩,?_⟩
      generalize (World.alloc wd (.cells #[.string x] 9)) = wn5 at *
      refine D0 ?_
      refine (hA wn5 hxw5).mono ?_
      intro v w' ⟨hv,hw⟩
      subst hv; subst w'
      refine ⟨kept.refl _ _,?_⟩
      refine D0 ?_
      refine (bnode_c (hd.pass hxw5) hb nk).mono ?_
      rintro v wn6 ⟨m,rfl,hm,hok,hxn6,_⟩
      have hxw6 := Ext.trans hxw5 hxn6
      refine ⟨kept_upd hxn6 fun q hq => ⟨by have : q = pb := hq; have := Ext.sz hxw5; omega,id⟩,?_⟩
      have nm6 := nm5.ext hxn6
      refine D0 ?_
      refine (bhtml_c m nm6 (show 1 < 1000000000 by decide)).mono ?_
      rintro v we ⟨rfl,hxe⟩
      rw [hm]
      refine ⟨kept_upd hxe fun q hq => ⟨by have : q = pb := hq; have := Ext.sz hxw6; omega,id⟩,?_⟩
      refine D0 ?_
      have hxo := hxd.trans (Ext.trans hxw6 hxe)
      cases hz : htmlN (nodeN b.L nk) [x]
      · rw [hz, if_neg (by decide)] at he
        (repeat revert hK K);refine W1 @b2 ?_;repeat with_reducible intro K hK
        refine ⟨k,by omega,?_⟩
        (repeat simp only [push_cast,seval,-Nat.reduceSubDiff])
        exact ⟨by omega,he,hxo⟩
      · rw [hz, if_pos rfl] at he
        (repeat revert hK K);refine W0 ?_;repeat with_reducible intro K hK
        exact ⟨he.symm,hxo⟩
-- blast end
end
end Go.Proofs.YtgnnlaeikcnhcaaGreatDoor
end
