/- What the proof leans on, part 5 of 10. -/
import Derived.Test.YtgnnlaeikcnhcaaGreatDoorQAdoptTextsD
section
set_option linter.unusedSimpArgs false
set_option linter.unusedVariables false
namespace Go.Vk
def hasA (x : ByteArray × ByteArray) (y : ByteArray × ByteArray) : Bool := decide (x.1 = y.1 ∧ x.2 = y.2)
def likeN (s n : Nd) : Bool := decide (n.kind = 3 ∧ n.space = s.space ∧ n.name = s.name ∧ n.attrs.length = s.attrs.length) && s.attrs.all fun x => n.attrs.any (hasA x)
end Go.Vk
namespace Go.Proofs.YtgnnlaeikcnhcaaGreatDoor
open Go Go.Vk
theorem eq94g (s t s' t' : ByteArray) (w : World) : (Op.equalIn 10000 34 (.agg #[.string s, .string t]) (.agg #[.string s', .string t'])).run Tryz.prog w = .ok (decide (s = s' ∧ t = t')) w := by
  have hS : Tryz.prog.underlying 34 = some (.struct (Tryz.prog.fieldsOf 34)) := by kernel_rfl
  have hp : Tryz.prog.stoodInHeld 34 = false := by kernel_rfl
  rw [show (10000 : Nat) = 9998 + 1 + 1 from rfl, run_equalIn_agg w (9998 + 1) 34 _ _ hS hp]
  simp only [Program.fieldsOf, Tryz.underlying34]
  have e : ∀ (a b : ByteArray) (w : World), (Op.equalIn (9998 + 1) 9 (.string a) (.string b)).run Tryz.prog w = .ok (decide (a = b)) w := fun a b w => by
    rw [run_equalIn_string _ 9998 9 _ _ Tryz.underlying9, Vk.toList_beq]
  by_cases h1 : s = s' <;> by_cases h2 : t = t' <;> simp [Op.eqFields, part, Tryz.sizeOf9, e, Sem.run, h1, h2]
theorem eql94 {o1 o2 : Operand} (s t s' t' : ByteArray) (w : World) (K : Value → World → Prop) : Pure1 Tryz.prog (do eqGuard .eql 34 o1 o2 (.agg #[.string s, .string t]) (.agg #[.string s', .string t']); binOp .eql 34 (.agg #[.string s, .string t]) (.agg #[.string s', .string t'])) w K = K (.bool (decide (s = s' ∧ t = t'))) w :=
  Pure1_eq (fun w => by
    rw [Sem.run_bind, run_eqGuard_agg w .eql 34 o1 o2 _ _ (by kernel_rfl), Result.andThen_ok, run_eql_struct, eq94g]; rfl) w K
set_option maxHeartbeats 40000000
theorem sidx_c {w : World} {v : Value} {l : List (ByteArray × ByteArray)} (ha : RdAt w 2 v (attrCells l)) (hb : l.length < 1000000000) (x : ByteArray × ByteArray) :
    Gives Tryz.prog 199 #[v, .agg #[.string x.1, .string x.2]] w fun u w' => u = .int .i64 (idxA (hasA x) l 0) ∧ Ext w w' := by
  have hx1 := Ext.alloc w (.cells #[.string x.1, .string x.2] 34)
  have hp1 : (w.alloc (.cells #[.string x.1, .string x.2] 34)).heap[w.heap.size]? = some (.cells #[.string x.1, .string x.2] 34 (0, 0)) := by rw [heap_alloc_h, if_pos rfl]
  obtain ⟨a, c, rfl, hc, _⟩ := attrs_len ha
  refine Gives.of_W Tryz.call199 Tryz.func199 rfl Tryz.ntmps199 (by simp) ?_; intro Z hZ
  (repeat first|(with_reducible first|(refine hK _ _ ?_;clear hK K)|refine ‹∀σ w,_→K σ w› _ _ ?_|(refine W_st ?_;constructor;try intro K hK))|((with_reducible first|refine hZ _ _ ?_|refine W_rg ?_|skip);repeat1' simp only[push_cast,seval,-Nat.reduceSubDiff,vcells_agg])|((repeat((fail_if_success with_reducible refine hK _ _ ?_);clear hK K));with_reducible refine hK _ _ ?_;clear hK K))
  generalize w.alloc (.cells #[.string x.1, .string x.2] 34) = w1 at *
  refine W_loop (S := Nat) (fun k => [(0, .slice a l.length c), (3, .pointer (some ⟨w.heap.size, 0, none⟩)), (7, .int .i64 (l.length : Int)), (8, .int .i64 (k : Int))])
    (fun k w2 => k ≤ l.length ∧ (∀ y ∈ l.take k, hasA x y = false) ∧ Ext w1 w2) (fun k => l.length - k) 0 ?_ ?_ ?_
  · (repeat simp only [push_cast, seval, -Nat.reduceSubDiff])
  · exact ⟨by omega, by simp, Ext.refl _⟩
  rintro k w2 ⟨hk, hn, hx⟩
  have hsk := idxA_skip (hasA x) l k 0 hn hk
  rw [Nat.zero_add] at hsk
  by_cases hkl : k < l.length
  · obtain ⟨y, hy⟩ : ∃ y, l[k]? = some y := ⟨_, List.getElem?_eq_getElem hkl⟩
    have hd : l.drop k = y :: l.drop (k + 1) := by
      rw [List.drop_eq_getElem_cons hkl]; congr 1
      rw [List.getElem?_eq_getElem hkl] at hy; exact Option.some.inj hy
    obtain ⟨_, _, e, _, hcell2⟩ := attrs_len ((ha.ext hx1).ext (hx.trans (Ext.drew _)))
    cases e
    obtain ⟨b, o, rfl, q1, q2⟩ := hcell2 k y hy
    have b0 : (k : Int) < (l.length : Int) := by omega
    have b1 : (0 : Int) ≤ (k : Int) := by omega
    have b2 : inI64 ((k : Int) + 1) := by unfold inI64; omega
    have hp2 := (hx.trans (Ext.drew _)).blk hp1
    have hc1 : w2.drew.cell? ⟨w.heap.size, 0, none⟩ = some (.string x.1) := by rw [cell_h, hp2]; rfl
    have hc2 : w2.drew.cell? ⟨w.heap.size, 1, none⟩ = some (.string x.2) := by rw [cell_h, hp2]; rfl
    rw [hd, idxA] at hsk
    clear hcell2
    (repeat first|(with_reducible first|(refine hK _ _ ?_;clear hK K)|refine ‹∀σ w,_→K σ w› _ _ ?_|(refine W_st ?_;constructor;try intro K hK))|((with_reducible first|refine hZ _ _ ?_|refine W_rg ?_|skip);repeat1' simp only[push_cast,seval,-Nat.reduceSubDiff,b0,b1])|((repeat((fail_if_success with_reducible refine hK _ _ ?_);clear hK K));with_reducible refine hK _ _ ?_;clear hK K))
    refine W_draw (.pas 0 (.pas 1 (.pas 2 (.pas 3 (.pas 4 (.pas 5 .fin)))))) (fun _ => True) (by decide) mixed (by kernel_rfl) ?_
    (repeat (first | ((first | refine pas_plain rfl ?_ | refine pas_g rfl rfl ?_ | refine act_plain rfl ?_ | refine act_g rfl rfl ?_ | refine last_plain rfl ?_ | refine tail_plain rfl ?_ | refine tail_g rfl rfl ?_); (repeat simp only [push_cast, seval, -Nat.reduceSubDiff, b0, b1, q1, q2, hc1, hc2, eql94])) | (refine tail_fin ?_) | (refine sch_fin ?_)))
    by_cases hyx : hasA x y = true
    · have hyx' : (x.1 = y.1 ∧ x.2 = y.2) = True := eq_true (by simpa [hasA] using hyx)
      (repeat first|(with_reducible first|(refine hK _ _ ?_;clear hK K)|refine ‹∀σ w,_→K σ w› _ _ ?_|(refine W_st ?_;constructor;try intro K hK))|((with_reducible first|refine hZ _ _ ?_|refine W_rg ?_|skip);repeat1' simp only[push_cast,seval,-Nat.reduceSubDiff,hyx',decide_true])|((repeat((fail_if_success with_reducible refine hK _ _ ?_);clear hK K));with_reducible refine hK _ _ ?_;clear hK K))
      exact ⟨by rw [hsk, if_pos hyx], hx1.trans (hx.trans (Ext.drew _))⟩
    · have hyx' : (x.1 = y.1 ∧ x.2 = y.2) = False := eq_false (by simpa [hasA] using hyx)
      (repeat first|(with_reducible first|(refine hK _ _ ?_;clear hK K)|refine ‹∀σ w,_→K σ w› _ _ ?_|(refine W_st ?_;constructor;try intro K hK))|((with_reducible first|refine hZ _ _ ?_|refine W_rg ?_|skip);repeat1' simp only[push_cast,seval,-Nat.reduceSubDiff,hyx',decide_false,b2])|((repeat((fail_if_success with_reducible refine hK _ _ ?_);clear hK K));with_reducible refine hK _ _ ?_;clear hK K))
      refine ⟨k + 1, by omega, ?_⟩
      (repeat simp only [push_cast, seval, -Nat.reduceSubDiff])
      refine ⟨by omega, fun z hz => ?_, hx.trans (Ext.drew _)⟩
      rw [List.take_add_one, hy] at hz
      simp only [Option.toList_some, List.mem_append, List.mem_singleton] at hz
      rcases hz with hz | rfl
      · exact hn z hz
      · simpa using hyx
  · have hke : k = l.length := by omega
    subst hke
    have b0 : ¬ (l.length : Int) < (l.length : Int) := by omega
    rw [List.drop_length, idxA] at hsk
    (repeat first|(with_reducible first|(refine hK _ _ ?_;clear hK K)|refine ‹∀σ w,_→K σ w› _ _ ?_|(refine W_st ?_;constructor;try intro K hK))|((with_reducible first|refine hZ _ _ ?_|refine W_rg ?_|skip);repeat1' simp only[push_cast,seval,-Nat.reduceSubDiff,b0])|((repeat((fail_if_success with_reducible refine hK _ _ ?_);clear hK K));with_reducible refine hK _ _ ?_;clear hK K))
    exact ⟨by rw [hsk], hx1.trans hx⟩
theorem scont_c {w : World} {v : Value} {l : List (ByteArray × ByteArray)} (ha : RdAt w 2 v (attrCells l)) (hb : l.length < 1000000000) (x : ByteArray × ByteArray) :
    Gives Tryz.prog 150 #[v, .agg #[.string x.1, .string x.2]] w fun u w' => u = .bool (l.any (hasA x)) ∧ Ext w w' := by
  have hx1 := Ext.alloc w (.cells #[.string x.1, .string x.2] 34)
  have hp1 : (w.alloc (.cells #[.string x.1, .string x.2] 34)).heap[w.heap.size]? = some (.cells #[.string x.1, .string x.2] 34 (0, 0)) := by rw [heap_alloc_h, if_pos rfl]
  refine Gives.of_W Tryz.call150 Tryz.func150 rfl Tryz.ntmps150 (by simp) ?_; intro Z hZ
  (repeat first|(with_reducible first|(refine hK _ _ ?_;clear hK K)|refine ‹∀σ w,_→K σ w› _ _ ?_|(refine W_st ?_;constructor;try intro K hK))|((with_reducible first|refine hZ _ _ ?_|refine W_rg ?_|skip);repeat1' simp only[push_cast,seval,-Nat.reduceSubDiff,vcells_agg])|((repeat((fail_if_success with_reducible refine hK _ _ ?_);clear hK K));with_reducible refine hK _ _ ?_;clear hK K))
  generalize w.alloc (.cells #[.string x.1, .string x.2] 34) = w1 at *
  (repeat first|(with_reducible first|(refine hK _ _ ?_;clear hK K)|refine ‹∀σ w,_→K σ w› _ _ ?_|(refine W_st ?_;constructor;try intro K hK))|((with_reducible first|refine hZ _ _ ?_|refine W_rg ?_|skip);repeat1' simp only[push_cast,seval,-Nat.reduceSubDiff,cell_h,hp1,cellO_cells])|((repeat((fail_if_success with_reducible refine hK _ _ ?_);clear hK K));with_reducible refine hK _ _ ?_;clear hK K))
  refine (sidx_c (ha.ext hx1) hb x).mono ?_
  rintro v w' ⟨rfl, hx⟩
  have e := idxA_any (hasA x) l 0
  (repeat first|(with_reducible first|(refine hK _ _ ?_;clear hK K)|refine ‹∀σ w,_→K σ w› _ _ ?_|(refine W_st ?_;constructor;try intro K hK))|((with_reducible first|refine hZ _ _ ?_|refine W_rg ?_|skip);repeat1' simp only[push_cast,seval,-Nat.reduceSubDiff])|((repeat((fail_if_success with_reducible refine hK _ _ ?_);clear hK K));with_reducible refine hK _ _ ?_;clear hK K))
  exact ⟨by rw [← e], hx1.trans hx⟩
set_option maxRecDepth 10000 in
theorem like_c {s m : Laid} {w : World} (hs : RdAt w 2 s.av (attrCells s.nd.attrs)) (hm : RdAt w 2 m.av (attrCells m.nd.attrs)) (hl : s.nd.attrs.length < 1000000) (hl2 : m.nd.attrs.length < 1000000) :
    Gives Tryz.prog 103 #[s.val, m.val] w fun v w' => v = .bool (likeN s.nd m.nd) ∧ Ext w w' := by
  obtain ⟨sa, sc, esv, _, hsc⟩ := attrs_len hs
  obtain ⟨ma, mc, emv, _, _⟩ := attrs_len hm
  rw [Laid.val_eq, Laid.val_eq]
  have hx : Ext w ((w.alloc (.cells #[.int .i64 s.nd.kind, .string s.nd.name, .string s.nd.text, .int .i64 s.nd.space, s.av, .bool s.nd.dup, .int .i64 s.nd.parent, .int .i64 s.nd.content, s.kv, .int .i64 s.nd.frm, .int .i64 s.nd.to] 116)).alloc (.cells #[.int .i64 m.nd.kind, .string m.nd.name, .string m.nd.text, .int .i64 m.nd.space, m.av, .bool m.nd.dup, .int .i64 m.nd.parent, .int .i64 m.nd.content, m.kv, .int .i64 m.nd.frm, .int .i64 m.nd.to] 46)) := (Ext.alloc _ _).trans (Ext.alloc _ _)
  have c1 : ((w.alloc (.cells #[.int .i64 s.nd.kind, .string s.nd.name, .string s.nd.text, .int .i64 s.nd.space, s.av, .bool s.nd.dup, .int .i64 s.nd.parent, .int .i64 s.nd.content, s.kv, .int .i64 s.nd.frm, .int .i64 s.nd.to] 116)).alloc (.cells #[.int .i64 m.nd.kind, .string m.nd.name, .string m.nd.text, .int .i64 m.nd.space, m.av, .bool m.nd.dup, .int .i64 m.nd.parent, .int .i64 m.nd.content, m.kv, .int .i64 m.nd.frm, .int .i64 m.nd.to] 46)).heap[w.heap.size]? = some (.cells #[.int .i64 s.nd.kind, .string s.nd.name, .string s.nd.text, .int .i64 s.nd.space, s.av, .bool s.nd.dup, .int .i64 s.nd.parent, .int .i64 s.nd.content, s.kv, .int .i64 s.nd.frm, .int .i64 s.nd.to] 116 (0, 0)) := by
    rw [heap_alloc_h, size_alloc_h, if_neg (by omega), heap_alloc_h, if_pos rfl]
  have c2 : ((w.alloc (.cells #[.int .i64 s.nd.kind, .string s.nd.name, .string s.nd.text, .int .i64 s.nd.space, s.av, .bool s.nd.dup, .int .i64 s.nd.parent, .int .i64 s.nd.content, s.kv, .int .i64 s.nd.frm, .int .i64 s.nd.to] 116)).alloc (.cells #[.int .i64 m.nd.kind, .string m.nd.name, .string m.nd.text, .int .i64 m.nd.space, m.av, .bool m.nd.dup, .int .i64 m.nd.parent, .int .i64 m.nd.content, m.kv, .int .i64 m.nd.frm, .int .i64 m.nd.to] 46)).heap[w.heap.size + 1]? = some (.cells #[.int .i64 m.nd.kind, .string m.nd.name, .string m.nd.text, .int .i64 m.nd.space, m.av, .bool m.nd.dup, .int .i64 m.nd.parent, .int .i64 m.nd.content, m.kv, .int .i64 m.nd.frm, .int .i64 m.nd.to] 46 (0, 0)) := by
    rw [heap_alloc_h, size_alloc_h, if_pos rfl]
  rw [esv, emv] at c1 c2 hx ⊢
  have hm' : RdAt w 2 (.slice ma m.nd.attrs.length mc) (attrCells m.nd.attrs) := by rw [← emv]; exact hm
  refine Gives.of_W Tryz.call103 Tryz.func103 rfl Tryz.ntmps103 (by simp) ?_; intro Z hZ
  (repeat first|(with_reducible first|(refine hK _ _ ?_;clear hK K)|refine ‹∀σ w,_→K σ w› _ _ ?_|(refine W_st ?_;constructor;try intro K hK))|((with_reducible first|refine hZ _ _ ?_|refine W_rg ?_|skip);repeat1' simp only[push_cast,seval,-Nat.reduceSubDiff,vcells_agg,size_alloc_h])|((repeat((fail_if_success with_reducible refine hK _ _ ?_);clear hK K));with_reducible refine hK _ _ ?_;clear hK K))
  have no : likeN s.nd m.nd = false → ∀ w2, Ext w w2 → (false = likeN s.nd m.nd ∧ Ext w w2) := fun e w2 h => ⟨by rw [e], h⟩
  generalize (w.alloc (.cells #[.int .i64 s.nd.kind, .string s.nd.name, .string s.nd.text, .int .i64 s.nd.space, .slice sa s.nd.attrs.length sc, .bool s.nd.dup, .int .i64 s.nd.parent, .int .i64 s.nd.content, s.kv, .int .i64 s.nd.frm, .int .i64 s.nd.to] 116)).alloc (.cells #[.int .i64 m.nd.kind, .string m.nd.name, .string m.nd.text, .int .i64 m.nd.space, .slice ma m.nd.attrs.length mc, .bool m.nd.dup, .int .i64 m.nd.parent, .int .i64 m.nd.content, m.kv, .int .i64 m.nd.frm, .int .i64 m.nd.to] 46) = w1 at *
  have f1 : w1.heap[w.heap.size + 1]? = some (.cells #[.int .i64 m.nd.kind, .string m.nd.name, .string m.nd.text, .int .i64 m.nd.space, .slice ma m.nd.attrs.length mc, .bool m.nd.dup, .int .i64 m.nd.parent, .int .i64 m.nd.content, m.kv, .int .i64 m.nd.frm, .int .i64 m.nd.to] 46 (0, 0)) := c2
  by_cases h1 : m.nd.kind = 3
  · by_cases h2 : m.nd.space = s.nd.space
    · by_cases h3 : m.nd.name = s.nd.name
      · by_cases h4 : m.nd.attrs.length = s.nd.attrs.length
        · have h4' : (m.nd.attrs.length : Int) = s.nd.attrs.length := by omega
          have hlike : likeN s.nd m.nd = s.nd.attrs.all fun x => m.nd.attrs.any (hasA x) := by simp [likeN, h1, h2, h3, h4]
          (repeat first|(with_reducible first|(refine hK _ _ ?_;clear hK K)|refine ‹∀σ w,_→K σ w› _ _ ?_|(refine W_st ?_;constructor;try intro K hK))|((with_reducible first|refine hZ _ _ ?_|refine W_rg ?_|skip);repeat1' simp only[push_cast,seval,-Nat.reduceSubDiff,cell_h,c1,c2,cellO_cells,h1,h2,h3,h4',not_true_eq_false])|((repeat((fail_if_success with_reducible refine hK _ _ ?_);clear hK K));with_reducible refine hK _ _ ?_;clear hK K))
          refine W_loop (S := Nat) (fun k => [(3, .pointer (some ⟨w.heap.size + 1, 0, none⟩)), (34, .slice sa s.nd.attrs.length sc), (35, .int .i64 (s.nd.attrs.length : Int)), (36, .int .i64 (k : Int))])
            (fun k w2 => k ≤ s.nd.attrs.length ∧ (∀ x ∈ s.nd.attrs.take k, m.nd.attrs.any (hasA x) = true) ∧ Ext w1 w2) (fun k => s.nd.attrs.length - k) 0 ?_ ?_ ?_
          · (repeat simp only [push_cast, seval, -Nat.reduceSubDiff])
          · exact ⟨by omega, by simp, Ext.refl _⟩
          rintro k w2 ⟨hk, hall, hx2⟩
          by_cases hkl : k < s.nd.attrs.length
          · obtain ⟨x, hxk⟩ : ∃ x, s.nd.attrs[k]? = some x := ⟨_, List.getElem?_eq_getElem hkl⟩
            obtain ⟨_, _, e, _, hcell2⟩ := attrs_len ((hs.ext hx).ext hx2)
            rw [esv] at e
            cases e
            obtain ⟨b, o, rfl, q1, q2⟩ := hcell2 k x hxk
            rw [cell_h] at q1 q2
            have b0 : (k : Int) < (s.nd.attrs.length : Int) := by omega
            have b1 : (0 : Int) ≤ (k : Int) := by omega
            have b2 : inI64 ((k : Int) + 1) := by unfold inI64; omega
            clear hcell2 hsc
            (repeat first|(with_reducible first|(refine hK _ _ ?_;clear hK K)|refine ‹∀σ w,_→K σ w› _ _ ?_|(refine W_st ?_;constructor;try intro K hK))|((with_reducible first|refine hZ _ _ ?_|refine W_rg ?_|skip);repeat1' simp only[push_cast,seval,-Nat.reduceSubDiff,cell_h,can_h,cellO_cells,canO_cells,setO_cells,heap_set_h,heap_alloc_h,size_set_h,size_alloc_h,vcells_agg,succ_ne,ne_succ,List.setIfInBounds_toArray,List.set_cons_succ,List.set_cons_zero,drew_h,b0,b1,q1,q2,RunV_zero Tryz.zeroValue34])|((repeat((fail_if_success with_reducible refine hK _ _ ?_);clear hK K));with_reducible refine hK _ _ ?_;clear hK K))
            have z1 : (w2.alloc (.cells #[.string ⟨#[]⟩, .string ⟨#[]⟩] 34)).heap[w2.heap.size]? = some (.cells #[.string ⟨#[]⟩, .string ⟨#[]⟩] 34 (0, 0)) := by rw [heap_alloc_h, if_pos rfl]
            have hp3 := setCells_all z1 (l := [.string x.1, .string x.2]) rfl
            have hx3 : Ext w2 (setCells (w2.alloc (.cells #[.string ⟨#[]⟩, .string ⟨#[]⟩] 34)) ⟨w2.heap.size, 0, none⟩ [.string x.1, .string x.2] 0) := Upd.trans (Ext.alloc w2 _) (Upd.setCells (F := fun b => b = w2.heap.size) (a := ⟨w2.heap.size, 0, none⟩) _ rfl _ 0) fun i hi e => by omega
            generalize setCells (w2.alloc (.cells #[.string ⟨#[]⟩, .string ⟨#[]⟩] 34)) ⟨w2.heap.size, 0, none⟩ [.string x.1, .string x.2] 0 = w3 at *
            have d2 := (hx2.trans hx3).blk c2
            (repeat first|(with_reducible first|(refine hK _ _ ?_;clear hK K)|refine ‹∀σ w,_→K σ w› _ _ ?_|(refine W_st ?_;constructor;try intro K hK))|((with_reducible first|refine hZ _ _ ?_|refine W_rg ?_|skip);repeat1' simp only[push_cast,seval,-Nat.reduceSubDiff,cell_h,d2,hp3,cellO_cells])|((repeat((fail_if_success with_reducible refine hK _ _ ?_);clear hK K));with_reducible refine hK _ _ ?_;clear hK K))
            refine (scont_c (((hm'.ext hx).ext hx2).ext hx3) (by omega) x).mono ?_
            rintro v w4 ⟨rfl, hx4⟩
            cases hany : m.nd.attrs.any (hasA x) with
            | true =>
              (repeat first|(with_reducible first|(refine hK _ _ ?_;clear hK K)|refine ‹∀σ w,_→K σ w› _ _ ?_|(refine W_st ?_;constructor;try intro K hK))|((with_reducible first|refine hZ _ _ ?_|refine W_rg ?_|skip);repeat1' simp only[push_cast,seval,-Nat.reduceSubDiff,b2])|((repeat((fail_if_success with_reducible refine hK _ _ ?_);clear hK K));with_reducible refine hK _ _ ?_;clear hK K))
              refine ⟨k + 1, by omega, ?_⟩
              (repeat simp only [push_cast, seval, -Nat.reduceSubDiff])
              refine ⟨by omega, fun y hy => ?_, hx2.trans (hx3.trans hx4)⟩
              rw [List.take_add_one, hxk] at hy
              simp only [Option.toList_some, List.mem_append, List.mem_singleton] at hy
              rcases hy with hy | rfl
              · exact hall y hy
              · exact hany
            | false =>
              (repeat first|(with_reducible first|(refine hK _ _ ?_;clear hK K)|refine ‹∀σ w,_→K σ w› _ _ ?_|(refine W_st ?_;constructor;try intro K hK))|((with_reducible first|refine hZ _ _ ?_|refine W_rg ?_|skip);repeat1' simp only[push_cast,seval,-Nat.reduceSubDiff])|((repeat((fail_if_success with_reducible refine hK _ _ ?_);clear hK K));with_reducible refine hK _ _ ?_;clear hK K))
              refine no ?_ _ (hx.trans (hx2.trans (hx3.trans hx4)))
              rw [hlike, List.all_eq_false]
              exact ⟨x, List.mem_of_getElem? hxk, by rw [hany]; decide⟩
          · have hke : k = s.nd.attrs.length := by omega
            subst hke
            rw [List.take_length] at hall
            have b0 : ¬ (s.nd.attrs.length : Int) < (s.nd.attrs.length : Int) := by omega
            (repeat first|(with_reducible first|(refine hK _ _ ?_;clear hK K)|refine ‹∀σ w,_→K σ w› _ _ ?_|(refine W_st ?_;constructor;try intro K hK))|((with_reducible first|refine hZ _ _ ?_|refine W_rg ?_|skip);repeat1' simp only[push_cast,seval,-Nat.reduceSubDiff,b0])|((repeat((fail_if_success with_reducible refine hK _ _ ?_);clear hK K));with_reducible refine hK _ _ ?_;clear hK K))
            refine ⟨?_, hx.trans hx2⟩
            rw [hlike]
            exact (List.all_eq_true.2 hall).symm
        · have h4' : ¬ (m.nd.attrs.length : Int) = s.nd.attrs.length := by omega
          (repeat first|(with_reducible first|(refine hK _ _ ?_;clear hK K)|refine ‹∀σ w,_→K σ w› _ _ ?_|(refine W_st ?_;constructor;try intro K hK))|((with_reducible first|refine hZ _ _ ?_|refine W_rg ?_|skip);repeat1' simp only[push_cast,seval,-Nat.reduceSubDiff,cell_h,c1,c2,cellO_cells,h1,h2,h3,h4',not_true_eq_false,not_false_eq_true])|((repeat((fail_if_success with_reducible refine hK _ _ ?_);clear hK K));with_reducible refine hK _ _ ?_;clear hK K))
          exact no (by simp [likeN, h4]) _ hx
      · (repeat first|(with_reducible first|(refine hK _ _ ?_;clear hK K)|refine ‹∀σ w,_→K σ w› _ _ ?_|(refine W_st ?_;constructor;try intro K hK))|((with_reducible first|refine hZ _ _ ?_|refine W_rg ?_|skip);repeat1' simp only[push_cast,seval,-Nat.reduceSubDiff,cell_h,c1,c2,cellO_cells,h1,h2,h3,not_true_eq_false,not_false_eq_true])|((repeat((fail_if_success with_reducible refine hK _ _ ?_);clear hK K));with_reducible refine hK _ _ ?_;clear hK K))
        exact no (by simp [likeN, h3]) _ hx
    · (repeat first|(with_reducible first|(refine hK _ _ ?_;clear hK K)|refine ‹∀σ w,_→K σ w› _ _ ?_|(refine W_st ?_;constructor;try intro K hK))|((with_reducible first|refine hZ _ _ ?_|refine W_rg ?_|skip);repeat1' simp only[push_cast,seval,-Nat.reduceSubDiff,cell_h,c1,c2,cellO_cells,h1,h2,not_true_eq_false,not_false_eq_true])|((repeat((fail_if_success with_reducible refine hK _ _ ?_);clear hK K));with_reducible refine hK _ _ ?_;clear hK K))
      exact no (by simp [likeN, h2]) _ hx
  · (repeat first|(with_reducible first|(refine hK _ _ ?_;clear hK K)|refine ‹∀σ w,_→K σ w› _ _ ?_|(refine W_st ?_;constructor;try intro K hK))|((with_reducible first|refine hZ _ _ ?_|refine W_rg ?_|skip);repeat1' simp only[push_cast,seval,-Nat.reduceSubDiff,cell_h,c1,c2,cellO_cells,h1,not_false_eq_true])|((repeat((fail_if_success with_reducible refine hK _ _ ?_);clear hK K));with_reducible refine hK _ _ ?_;clear hK K))
    exact no (by simp [likeN, h1]) _ hx
end Go.Proofs.YtgnnlaeikcnhcaaGreatDoor
end
section
set_option linter.unusedSimpArgs false
set_option linter.unusedVariables false
namespace Go.Vk
structure MvS (L : List Nd) (N : Nat) (pk ck : List Int) : Prop where
  gd : Gd L
  len : L.length = N
  big : 4 ≤ N
  k1 : (gN L 1).kids = pk
  k3 : (gN L 3).kids = ck
  n1 : (gN L 1).kind = 3
  n2 : (gN L 2).kind = 3
  n3 : (gN L 3).kind = 6
  p1 : (gN L 1).parent = -1
  p2 : (gN L 2).parent = -1
  c2 : (gN L 2).content = 3
  at_ : ∀ n ∈ L, n.attrs = []
theorem MvS.p3 {L : List Nd} {N : Nat} {pk ck : List Int} (h : MvS L N pk ck) : (gN L 3).parent = -1 := by
  have h1 := h.gd.low 3
  have h2 := h.gd.knd 3
  rw [h.n3] at h2
  by_cases hp : 0 ≤ (gN L 3).parent
  · have := h2 hp; simp [kidK] at this
  · omega
theorem MvS.up1 {L : List Nd} {N : Nat} {pk ck : List Int} (h : MvS L N pk ck) : upN L 1 = -1 := by rw [upN_g, h.n1, h.p1]; decide
theorem MvS.up2 {L : List Nd} {N : Nat} {pk ck : List Int} (h : MvS L N pk ck) : upN L 2 = -1 := by rw [upN_g, h.n2, h.p2]; decide
theorem MvS.up3 {L : List Nd} {N : Nat} {pk ck : List Int} (h : MvS L N pk ck) : upN L 3 = 2 := by rw [upN_g, h.n3, if_pos rfl]; rfl
/-- who stands above the two -/
theorem MvS.above1 {L : List Nd} {N : Nat} {pk ck : List Int} (h : MvS L N pk ck) (i : Int) : aboveN L i 1 = decide (1 = i) := by
  obtain ⟨n, hn⟩ : ∃ n, L.length = n + 4 := ⟨L.length - 4, by have := h.len; have := h.big; omega⟩
  rw [aboveN, aboveF_ab, hn]
  simp [ab, h.up1]
theorem MvS.above3 {L : List Nd} {N : Nat} {pk ck : List Int} (h : MvS L N pk ck) (i : Int) : aboveN L i 3 = (decide (3 = i) || decide (2 = i)) := by
  obtain ⟨n, hn⟩ : ∃ n, L.length = n + 4 := ⟨L.length - 4, by have := h.len; have := h.big; omega⟩
  rw [aboveN, aboveF_ab, hn]
  simp [ab, h.up3, h.up2]
theorem addK_neg (i : Int) (l : List Int) : addK (-1) i l = l ++ [i] := by simp [addK]
/-- a node is hung that was nobody's kid, or another one's -/
theorem MvS.hang {L : List Nd} {N : Nat} {pk ck : List Int} (h : MvS L N pk ck) {i p : Nat} (hi : 4 ≤ i) (hil : i < N) (hp : p = 1 ∨ p = 3) (hg : Gd (hangN L p (-1) i)) :
    MvS (hangN L p (-1) i) N (if p = 1 then pk.erase i ++ [(i : Int)] else pk.erase i) (if p = 3 then ck.erase i ++ [(i : Int)] else ck.erase i) := by
  have hl := h.len
  have hb := h.big
  have hgn := gN_hang h.gd (i := i) (p := p) (by omega) (by omega) (-1)
  have ne : ∀ t : Int, t < 4 → ¬ t = (i : Int) := fun t ht => by omega
  refine ⟨hg, by rw [hangN_len]; exact hl, hb, ?_, ?_, ?_, ?_, ?_, ?_, ?_, ?_, fun n hn => ?_⟩
  · rw [hgn]
    show (if (1 : Int) = (p : Nat) then addK (-1) i ((gN L 1).kids.erase i) else (gN L 1).kids.erase i) = _
    rw [h.k1, addK_neg]
    rcases hp with rfl | rfl
    · rw [if_pos rfl]; exact if_pos rfl
    · rw [if_neg (by decide), if_neg (by decide)]
  · rw [hgn]
    show (if (3 : Int) = (p : Nat) then addK (-1) i ((gN L 3).kids.erase i) else (gN L 3).kids.erase i) = _
    rw [h.k3, addK_neg]
    rcases hp with rfl | rfl
    · rw [if_neg (by decide), if_neg (by decide)]
    · rw [if_pos rfl]; exact if_pos rfl
  · rw [hgn]; exact h.n1
  · rw [hgn]; exact h.n2
  · rw [hgn]; exact h.n3
  · rw [hgn]; simp only [if_neg (ne 1 (by decide))]; exact h.p1
  · rw [hgn]; simp only [if_neg (ne 2 (by decide))]; exact h.p2
  · rw [hgn]; exact h.c2
  · obtain ⟨k, hk⟩ := List.getElem?_of_mem hn
    have e := gN_nat hk
    rw [hgn] at e
    have e2 : n.attrs = (gN L k).attrs := by rw [← e]
    rw [e2]
    by_cases hkl : k < L.length
    · exact h.at_ _ (List.mem_of_getElem? (gN_some hkl))
    · rw [gN_none (by omega)]; rfl
theorem MvS.push {L : List Nd} {N : Nat} {pk ck : List Int} (h : MvS L N pk ck) {n : Nd} (hp : n.parent = -1) (hk : n.kids = []) (ha : n.attrs = []) (h1 : n.kind ≠ 1) : MvS (L ++ [n]) (N + 1) pk ck := by
  have hl := h.len
  have hb := h.big
  have ne : ∀ t : Int, t < 4 → gN (L ++ [n]) t = gN L t := fun t ht => by rw [gN_push, if_neg (by omega)]
  refine ⟨h.gd.push hp hk h1, by simp [hl], by omega, ?_, ?_, ?_, ?_, ?_, ?_, ?_, ?_, fun m hm => ?_⟩
  · rw [ne 1 (by decide)]; exact h.k1
  · rw [ne 3 (by decide)]; exact h.k3
  · rw [ne 1 (by decide)]; exact h.n1
  · rw [ne 2 (by decide)]; exact h.n2
  · rw [ne 3 (by decide)]; exact h.n3
  · rw [ne 1 (by decide)]; exact h.p1
  · rw [ne 2 (by decide)]; exact h.p2
  · rw [ne 2 (by decide)]; exact h.c2
  · simp only [List.mem_append, List.mem_singleton] at hm
    rcases hm with hm | rfl
    · exact h.at_ m hm
    · exact ha
/-- a new node behind the kids of one of the two -/
theorem MvS.add {L : List Nd} {N : Nat} {pk ck : List Int} (h : MvS L N pk ck) {n : Nd} (hk : kidK n.kind = true) (hp : n.parent = -1) (hks : n.kids = []) (ha : n.attrs = []) {p : Nat} (hp2 : p = 1 ∨ p = 3) :
    ∃ L', appendN (L ++ [n]) p N = (L', 0) ∧ MvS L' (N + 1) (if p = 1 then pk ++ [(N : Int)] else pk) (if p = 3 then ck ++ [(N : Int)] else ck) := by
  have hl := h.len
  have hb := h.big
  have h' := h.push hp hks ha (kidK_one hk)
  have hh : holdsN (L ++ [n]) p = true := by
    rw [holdsN_g]
    rcases hp2 with rfl | rfl
    · show holdK (gN (L ++ [n]) 1).kind = true; rw [h'.n1]; decide
    · show holdK (gN (L ++ [n]) 3).kind = true; rw [h'.n3]; decide
  have hn : hangsN (L ++ [n]) N = true := by rw [hangsN_g, gN_push, if_pos (by omega)]; exact hk
  have hab : aboveN (L ++ [n]) N p = false := by
    rcases hp2 with rfl | rfl
    · show aboveN (L ++ [n]) N 1 = false
      rw [h'.above1]; simp; omega
    · show aboveN (L ++ [n]) N 3 = false
      rw [h'.above3]; simp; omega
  have e : appendN (L ++ [n]) p N = (hangN (L ++ [n]) p (-1) N, 0) := by
    unfold appendN
    rw [if_pos ⟨hh, hn, hab⟩]
    simp
  refine ⟨_, e, ?_⟩
  have hg : Gd (hangN (L ++ [n]) p (-1) N) := by have := Go.Proofs.YtgnnlaeikcnhcaaGreatDoor.append_gd h'.gd p N; rw [e] at this; exact this
  have := h'.hang (i := N) (p := p) hb (by omega) hp2 hg
  have e1 : pk.erase (N : Int) = pk := List.erase_of_not_mem fun hm => by
    rw [← h.k1] at hm
    have := (h.gd.range (j := (N : Int)) (by have := (h.gd.kid 1 N).1 hm; omega)).1; omega
  have e2 : ck.erase (N : Int) = ck := List.erase_of_not_mem fun hm => by
    rw [← h.k3] at hm
    have := (h.gd.range (j := (N : Int)) (by have := (h.gd.kid 3 N).1 hm; omega)).1; omega
  rw [e1, e2] at this
  exact this
theorem MvS.holds {L : List Nd} {N : Nat} {pk ck : List Int} (h : MvS L N pk ck) : holdsN L 1 = true ∧ holdsN L 3 = true := by
  refine ⟨?_, ?_⟩
  · rw [holdsN_g, h.n1]; decide
  · rw [holdsN_g, h.n3]; decide
/-- the template among the kids: then its content stands below them -/
theorem MvS.last {L : List Nd} {N : Nat} {pk ck : List Int} (h : MvS L N pk ck) : ∃ L', appendN L 1 2 = (L', 0) ∧ moveN L' 1 3 = (L', 2) ∧ Gd L' ∧ L'.length = N ∧ ∀ n ∈ L', n.attrs = [] := by
  have hb := h.big
  have hl := h.len
  have hh : hangsN L 2 = true := by rw [hangsN_g, h.n2]; decide
  have hab : aboveN L 2 1 = false := by rw [h.above1]; decide
  have e : appendN L 1 2 = (hangN L 1 (-1) 2, 0) := if_pos ⟨h.holds.1, hh, hab⟩
  have hg : Gd (hangN L 1 (-1) 2) := by have := Go.Proofs.YtgnnlaeikcnhcaaGreatDoor.append_gd h.gd 1 2; rw [e] at this; exact this
  have hgn := gN_hang h.gd (i := 2) (p := 1) (by omega) (by omega) (-1)
  have hlen : (hangN L 1 (-1) 2).length = N := by rw [hangN_len]; exact hl
  refine ⟨_, e, if_neg fun hx => ?_, hg, hlen, fun n hn => ?_⟩
  · have hx := hx.2.2
    obtain ⟨n, hn⟩ : ∃ n, (hangN L 1 (-1) 2).length = n + 4 := ⟨N - 4, by omega⟩
    have u3 : upN (hangN L 1 (-1) 2) 3 = 2 := by rw [upN_g, hgn]; simp [h.n3]
    have u2 : upN (hangN L 1 (-1) 2) 2 = 1 := by rw [upN_g, hgn]; simp [h.n2]
    rw [aboveN, aboveF_ab, hn] at hx
    simp [ab, u3, u2] at hx
  · obtain ⟨k, hk⟩ := List.getElem?_of_mem hn
    have e := gN_nat hk
    rw [hgn] at e
    have e2 : n.attrs = (gN L k).attrs := by rw [← e]
    rw [e2]
    by_cases hkl : k < L.length
    · exact h.at_ _ (List.mem_of_getElem? (gN_some hkl))
    · rw [gN_none (by omega)]; rfl
end Go.Vk
end
section
set_option linter.unusedSimpArgs false
set_option linter.unusedVariables false
namespace Go.Vk
/-- other memory of our own changes -/
theorem At.app {G Q : Nat → Prop} {w0 w w' : World} {P : Nat → Prop} {pa : Nat} {L : List Nd} (h : At w0 w P pa L) (hu : Upd G w w') (hG : ∀ b, b < w.heap.size → G b → P b ∧ w0.heap.size ≤ b) (hQ : ∀ b, Q b → P b ∨ (w.heap.size ≤ b ∧ b < w'.heap.size)) : At w0 w' Q pa L := by
  have hs := hu.alike.size
  have h1 := h.ar.mono (G := fun b => AF w0 P b ∧ b < w.heap.size) fun b hl hf => ⟨hf, hl⟩
  have h2 := h1.frame hu fun b hf hg => hf.1.2 (hG b hf.2 hg).1
  refine ⟨h2.mono fun b _ hf => ⟨hf.1.1, fun hq => ?_⟩, h.gd, Upd.trans h.ext hu fun i hi hg => ?_, fun b hb => ?_⟩
  · rcases hQ b hq with hp | hp
    · exact hf.1.2 hp
    · have := hf.2; omega
  · have h0 := h.ext.alike.size
    have := (hG i (by omega) hg).2; omega
  · rcases hQ b hb with hp | hp
    · have := h.low b hp; omega
    · exact hp.2
end Go.Vk
end
section
set_option linter.unusedSimpArgs false
set_option linter.unusedVariables false
namespace Go.Vk
open Go
def LsAt (w0 w : World) (Q : Nat → Prop) (pl pa : Nat) (L : List Nd) (l : List Int) : Prop :=
  ∃ lv bo, FL w pl (.pointer (some ⟨pa, 0, none⟩)) lv l bo ∧ At w0 w (fun b => Q b ∨ b = pl ∨ bo = some b) pa L ∧ w0.heap.size ≤ pl ∧ (∀ b, bo = some b → w0.heap.size ≤ b ∧ ¬ Q b) ∧ ¬ Q pl
theorem LsAt.pass {w0 w w' : World} {Q : Nat → Prop} {pl pa : Nat} {L : List Nd} {l : List Int} (h : LsAt w0 w Q pl pa L l) (hx : Ext w w') : LsAt w0 w' Q pl pa L l := by
  obtain ⟨lv, bo, h1, h2, h3, h4, h5⟩ := h
  exact ⟨lv, bo, h1.ext hx, h2.pass hx, h3, h4, h5⟩
theorem ls_put {w0 w w2 : World} {Q : Nat → Prop} {pl pa : Nat} {L : List Nd} {l l' : List Int} {lv u : Value} {bo bo' : Option Nat} (hF : FL w pl (.pointer (some ⟨pa, 0, none⟩)) lv l bo) (hA : At w0 w (fun b => Q b ∨ b = pl ∨ bo = some b) pa L)
    (hpl : w0.heap.size ≤ pl) (hbo : ∀ b, bo = some b → w0.heap.size ≤ b ∧ ¬ Q b) (hQ : ¬ Q pl) (hQl : ∀ b, Q b → b < w.heap.size) (g1 : SlAt w2 1 u (intCells l') bo') (g2 : Upd (fun b => bo = some b) w w2) (g3 : ∀ b, bo' = some b → bo = some b ∨ w.heap.size ≤ b) :
    canStore w2 ⟨pl, 1, none⟩ ∧ LsAt w0 (w2.setCell ⟨pl, 1, none⟩ u) Q pl pa L l' ∧ Upd (AF w0 Q) w (w2.setCell ⟨pl, 1, none⟩ u) := by
  have hlt := blk_lt hF.head
  have hnb : ¬ bo = some pl := hF.ne
  have hp2 := (g2.same pl hlt hnb).trans hF.head
  have h0 := hA.ext.alike.size
  have hne' : bo' ≠ some pl := fun e => by
    rcases g3 pl e with h | h
    · exact hnb h
    · omega
  have hs2 := g2.alike.size
  have up : Upd (fun b => b = pl) w2 (w2.setCell ⟨pl, 1, none⟩ u) := Upd.setCell (F := fun b => b = pl) (a := ⟨pl, 1, none⟩) w2 rfl u
  refine ⟨by rw [can_h, hp2, canO_cells]; exact Nat.lt_succ_self 1, ⟨u, bo', ⟨?_, g1.upd up fun b hb e => hne' (by rw [hb, e]), hne'⟩, ?_, hpl, fun b hb => ?_, hQ⟩, ?_⟩
  · rw [heap_set_h, if_pos rfl, hp2]; rfl
  · have hA2 : At w0 w2 (fun b => Q b ∨ b = pl ∨ bo' = some b) pa L := hA.app g2 (fun b hb e => ⟨.inr (.inr e), (hbo b e).1⟩) fun b hb => by
      rcases hb with hb | hb | hb
      · exact .inl (.inl hb)
      · exact .inl (.inr (.inl hb))
      · rcases g3 b hb with h | h
        · exact .inl (.inr (.inr h))
        · exact .inr ⟨h, by rw [hb] at g1; exact g1.lt⟩
    exact hA2.frame up fun b e => ⟨.inr (.inl e), e ▸ hpl⟩
  · rcases g3 b hb with h | h
    · exact hbo b h
    · exact ⟨by omega, fun hq => by have := hQl b hq; omega⟩
  · refine Upd.trans (g2.mono fun b _ e => ⟨(hbo b e).1, (hbo b e).2⟩) up fun b _ e => ⟨e ▸ hpl, e ▸ hQ⟩
def layN (l : List Int) (k : Nat) (i : Int) : List Int × Int := if 64 ≤ l.length then (l, 3) else (l.take k ++ i :: l.drop k, 0)
end Go.Vk
namespace Go.Proofs.YtgnnlaeikcnhcaaGreatDoor
open Go Go.Vk
set_option maxHeartbeats 40000000
section
variable {w0 w : World} {Q : Nat → Prop} {pl pa : Nat} {L : List Nd} {l : List Int}
theorem lay_c (h : LsAt w0 w Q pl pa L l) (hl : l.length < 10000) (k : Nat) (hk : k ≤ l.length) (i : Int) : Gives Tryz.prog 97 #[.pointer (some ⟨pl, 0, none⟩), .int .i64 (k : Int), .int .i64 i] w fun v w' => v = .int .i64 (layN l k i).2 ∧ LsAt w0 w' Q pl pa L (layN l k i).1 ∧ Upd (AF w0 Q) w w' := by
  have h' := h
  obtain ⟨lv, bo, hF, hA, hpl, hbo, hQ⟩ := h
  have hQl : ∀ b, Q b → b < w.heap.size := fun b hb => hA.low b (.inl hb)
  have h1 := hF.c1
  obtain ⟨a, c, rfl, hc⟩ := hF.sl.ints_len
  by_cases hb : 64 ≤ l.length
  · have b0 : (64 : Int) ≤ (l.length : Int) := by omega
    have e : layN l k i = (l, 3) := if_pos hb
    rw [e]
    refine Gives.of_W Tryz.call97 Tryz.func97 rfl Tryz.ntmps97 (by simp) ?_; intro Z hZ
    (repeat first|(with_reducible first|(refine hK _ _ ?_;clear hK K)|refine ‹∀σ w,_→K σ w› _ _ ?_|(refine W_st ?_;constructor;try intro K hK))|((with_reducible first|refine hZ _ _ ?_|refine W_rg ?_|skip);repeat1' simp only[push_cast,seval,-Nat.reduceSubDiff,h1,b0])|((repeat((fail_if_success with_reducible refine hK _ _ ?_);clear hK K));with_reducible refine hK _ _ ?_;clear hK K))
    exact ⟨h', Upd.refl _ _⟩
  · have b0 : ¬ (64 : Int) ≤ (l.length : Int) := by omega
    have e : layN l k i = (l.take k ++ i :: l.drop k, 0) := if_neg hb
    rw [e]
    refine Gives.of_W Tryz.call97 Tryz.func97 rfl Tryz.ntmps97 (by simp) ?_; intro Z hZ
    (repeat first|(with_reducible first|(refine hK _ _ ?_;clear hK K)|refine ‹∀σ w,_→K σ w› _ _ ?_|(refine W_st ?_;constructor;try intro K hK))|((with_reducible first|refine hZ _ _ ?_|refine W_rg ?_|skip);repeat1' simp only[push_cast,seval,-Nat.reduceSubDiff,h1,b0])|((repeat((fail_if_success with_reducible refine hK _ _ ?_);clear hK K));with_reducible refine hK _ _ ?_;clear hK K))
    refine bs_one sty28 (by decide) (by decide) (v := .int .i64 i) rfl ?_
    have hx := Ext.alloc w (.cells (Value.int .i64 i).cells 3)
    have hb1 : (w.alloc (.cells (Value.int .i64 i).cells 3)).heap[w.heap.size]? = some (.cells #[.int .i64 i] 3 (0, 0)) := by rw [heap_alloc_h, if_pos rfl]; rfl
    have hF1 := hF.ext hx
    have hA1 := hA.pass hx
    have hne : bo ≠ some w.heap.size := fun e => by
      have := hF.sl; rw [e] at this; have := this.lt; omega
    refine (insert_c hF1.sl (by omega) hb1 hne k hk).mono ?_
    rintro v w2 ⟨bo', g1, g2, g3⟩
    have hsz : (w.alloc (.cells (Value.int .i64 i).cells 3)).heap.size = w.heap.size + 1 := size_alloc_h _ _
    obtain ⟨k1, k2, k3⟩ := ls_put hF1 hA1 hpl hbo hQ (fun b hb => by have := hQl b hb; omega) g1 g2 g3
    obtain ⟨va, vn, vc, rfl, _, _⟩ := g1.len
    (repeat first|(with_reducible first|(refine hK _ _ ?_;clear hK K)|refine ‹∀σ w,_→K σ w› _ _ ?_|(refine W_st ?_;constructor;try intro K hK))|((with_reducible first|refine hZ _ _ ?_|refine W_rg ?_|skip);repeat1' simp only[push_cast,seval,-Nat.reduceSubDiff,k1])|((repeat((fail_if_success with_reducible refine hK _ _ ?_);clear hK K));with_reducible refine hK _ _ ?_;clear hK K))
    exact ⟨k2, Upd.trans hx.upd k3 fun _ _ h => h⟩
theorem may_c (h : LsAt w0 w Q pl pa L l) (hb : L.length < 100000) (ha : ∀ n ∈ L, n.attrs.length < 1000000) (i : Int) : Gives Tryz.prog 102 #[.pointer (some ⟨pl, 0, none⟩), .int .i64 i] w fun v w' => v = .int .i64 (if ((nd? L i).getD zN).kind = 3 then 0 else 2) ∧ Ext w w' := by
  obtain ⟨lv, bo, hF, hA, hpl, hbo, hQ⟩ := h
  have h0 := hF.c0
  have hn := fnone_c hF
  by_cases hk : ((nd? L i).getD zN).kind = 3
  · rw [if_pos hk]
    refine Gives.of_W Tryz.call102 Tryz.func102 rfl Tryz.ntmps102 (by simp) ?_; intro Z hZ
    (repeat first|(with_reducible first|(refine hK _ _ ?_;clear hK K)|refine ‹∀σ w,_→K σ w› _ _ ?_|(refine W_st ?_;constructor;try intro K hK))|((with_reducible first|refine hZ _ _ ?_|refine W_rg ?_|skip);repeat1' simp only[push_cast,seval,-Nat.reduceSubDiff])|((repeat((fail_if_success with_reducible refine hK _ _ ?_);clear hK K));with_reducible refine hK _ _ ?_;clear hK K))
    refine hn.mono ?_
    rintro v w' ⟨rfl, rfl⟩
    (repeat first|(with_reducible first|(refine hK _ _ ?_;clear hK K)|refine ‹∀σ w,_→K σ w› _ _ ?_|(refine W_st ?_;constructor;try intro K hK))|((with_reducible first|refine hZ _ _ ?_|refine W_rg ?_|skip);repeat1' simp only[push_cast,seval,-Nat.reduceSubDiff,h0])|((repeat((fail_if_success with_reducible refine hK _ _ ?_);clear hK K));with_reducible refine hK _ _ ?_;clear hK K))
    refine (node_a hA hb ha i).mono ?_
    rintro v w2 ⟨m, rfl, em, _, _, hx, _, _⟩
    have ek : m.nd.kind = 3 := by rw [em]; exact hk
    (repeat first|(with_reducible first|(refine hK _ _ ?_;clear hK K)|refine ‹∀σ w,_→K σ w› _ _ ?_|(refine W_st ?_;constructor;try intro K hK))|((with_reducible first|refine hZ _ _ ?_|refine W_rg ?_|skip);repeat1' simp only[push_cast,seval,-Nat.reduceSubDiff,fld0,ek,not_true_eq_false])|((repeat((fail_if_success with_reducible refine hK _ _ ?_);clear hK K));with_reducible refine hK _ _ ?_;clear hK K))
    exact hx
  · rw [if_neg hk]
    refine Gives.of_W Tryz.call102 Tryz.func102 rfl Tryz.ntmps102 (by simp) ?_; intro Z hZ
    (repeat first|(with_reducible first|(refine hK _ _ ?_;clear hK K)|refine ‹∀σ w,_→K σ w› _ _ ?_|(refine W_st ?_;constructor;try intro K hK))|((with_reducible first|refine hZ _ _ ?_|refine W_rg ?_|skip);repeat1' simp only[push_cast,seval,-Nat.reduceSubDiff])|((repeat((fail_if_success with_reducible refine hK _ _ ?_);clear hK K));with_reducible refine hK _ _ ?_;clear hK K))
    refine hn.mono ?_
    rintro v w' ⟨rfl, rfl⟩
    (repeat first|(with_reducible first|(refine hK _ _ ?_;clear hK K)|refine ‹∀σ w,_→K σ w› _ _ ?_|(refine W_st ?_;constructor;try intro K hK))|((with_reducible first|refine hZ _ _ ?_|refine W_rg ?_|skip);repeat1' simp only[push_cast,seval,-Nat.reduceSubDiff,h0])|((repeat((fail_if_success with_reducible refine hK _ _ ?_);clear hK K));with_reducible refine hK _ _ ?_;clear hK K))
    refine (node_a hA hb ha i).mono ?_
    rintro v w2 ⟨m, rfl, em, _, _, hx, _, _⟩
    have ek : ¬ m.nd.kind = 3 := by rw [em]; exact hk
    (repeat first|(with_reducible first|(refine hK _ _ ?_;clear hK K)|refine ‹∀σ w,_→K σ w› _ _ ?_|(refine W_st ?_;constructor;try intro K hK))|((with_reducible first|refine hZ _ _ ?_|refine W_rg ?_|skip);repeat1' simp only[push_cast,seval,-Nat.reduceSubDiff,fld0,ek,not_false_eq_true])|((repeat((fail_if_success with_reducible refine hK _ _ ?_);clear hK K));with_reducible refine hK _ _ ?_;clear hK K))
    exact hx
theorem lastF_sat (p : Int → Bool) (l : List Int) (fr : Int) : ∀ k : Nat, 0 ≤ lastF p l fr k → ∃ q : Nat, lastF p l fr k = q ∧ q < k ∧ fr ≤ q ∧ p (l.getD q 0) = true
  | 0, h => by simp [lastF] at h
  | k + 1, h => by
    rw [lastF] at h ⊢
    by_cases h1 : (k : Int) < fr
    · rw [if_pos h1] at h; omega
    · rw [if_neg h1] at h ⊢
      by_cases h2 : p (l.getD k 0) = true
      · rw [if_pos h2]; exact ⟨k, rfl, by omega, by omega, h2⟩
      · rw [if_neg h2] at h ⊢
        obtain ⟨q, e1, e2, e3, e4⟩ := lastF_sat p l fr k h
        exact ⟨q, e1, by omega, e3, e4⟩
theorem indexN_rng (l : List Int) (i : Int) : indexN l i < 0 ∨ ∃ q : Nat, indexN l i = q ∧ q < l.length := by
  unfold indexN
  split
  · exact .inl (by decide)
  · by_cases h : 0 ≤ lastF (fun y => decide (y = i)) l 0 l.length
    · obtain ⟨q, e, h1, _⟩ := lastF_sat _ _ _ _ h
      exact .inr ⟨q, e, h1⟩
    · exact .inl (by omega)
def removeN (l : List Int) (i : Int) : List Int × Int := if indexN l i < 0 then (l, 4) else (l.eraseIdx (indexN l i).toNat, 0)
theorem remove_c (h : LsAt w0 w Q pl pa L l) (hl : l.length < 10000) (i : Int) : Gives Tryz.prog 163 #[.pointer (some ⟨pl, 0, none⟩), .int .i64 i] w fun v w' => v = .int .i64 (removeN l i).2 ∧ LsAt w0 w' Q pl pa L (removeN l i).1 ∧ Upd (AF w0 Q) w w' := by
  have h' := h
  obtain ⟨lv, bo, hF, hA, hpl, hbo, hQ⟩ := h
  have hQl : ∀ b, Q b → b < w.heap.size := fun b hb => hA.low b (.inl hb)
  have hn := fnone_c hF
  rcases indexN_rng l i with hi | ⟨q, hi, hq⟩
  · have e : removeN l i = (l, 4) := if_pos hi
    rw [e]
    refine Gives.of_W Tryz.call163 Tryz.func163 rfl Tryz.ntmps163 (by simp) ?_; intro Z hZ
    (repeat first|(with_reducible first|(refine hK _ _ ?_;clear hK K)|refine ‹∀σ w,_→K σ w› _ _ ?_|(refine W_st ?_;constructor;try intro K hK))|((with_reducible first|refine hZ _ _ ?_|refine W_rg ?_|skip);repeat1' simp only[push_cast,seval,-Nat.reduceSubDiff])|((repeat((fail_if_success with_reducible refine hK _ _ ?_);clear hK K));with_reducible refine hK _ _ ?_;clear hK K))
    refine hn.mono ?_
    rintro v w' ⟨rfl, rfl⟩
    (repeat first|(with_reducible first|(refine hK _ _ ?_;clear hK K)|refine ‹∀σ w,_→K σ w› _ _ ?_|(refine W_st ?_;constructor;try intro K hK))|((with_reducible first|refine hZ _ _ ?_|refine W_rg ?_|skip);repeat1' simp only[push_cast,seval,-Nat.reduceSubDiff])|((repeat((fail_if_success with_reducible refine hK _ _ ?_);clear hK K));with_reducible refine hK _ _ ?_;clear hK K))
    refine (findex_c hF (by omega) i).mono ?_
    rintro v w2 ⟨rfl, hx⟩
    (repeat first|(with_reducible first|(refine hK _ _ ?_;clear hK K)|refine ‹∀σ w,_→K σ w› _ _ ?_|(refine W_st ?_;constructor;try intro K hK))|((with_reducible first|refine hZ _ _ ?_|refine W_rg ?_|skip);repeat1' simp only[push_cast,seval,-Nat.reduceSubDiff,hi])|((repeat((fail_if_success with_reducible refine hK _ _ ?_);clear hK K));with_reducible refine hK _ _ ?_;clear hK K))
    exact ⟨h'.pass hx, hx.upd⟩
  · have e : removeN l i = (l.eraseIdx q, 0) := by
      unfold removeN; rw [hi, if_neg (by omega)]; simp
    rw [e]
    have b0 : ¬ (q : Int) < 0 := by omega
    have b1 : inI64 ((q : Int) + 1) := by unfold inI64; omega
    refine Gives.of_W Tryz.call163 Tryz.func163 rfl Tryz.ntmps163 (by simp) ?_; intro Z hZ
    (repeat first|(with_reducible first|(refine hK _ _ ?_;clear hK K)|refine ‹∀σ w,_→K σ w› _ _ ?_|(refine W_st ?_;constructor;try intro K hK))|((with_reducible first|refine hZ _ _ ?_|refine W_rg ?_|skip);repeat1' simp only[push_cast,seval,-Nat.reduceSubDiff])|((repeat((fail_if_success with_reducible refine hK _ _ ?_);clear hK K));with_reducible refine hK _ _ ?_;clear hK K))
    refine hn.mono ?_
    rintro v w' ⟨rfl, rfl⟩
    (repeat first|(with_reducible first|(refine hK _ _ ?_;clear hK K)|refine ‹∀σ w,_→K σ w› _ _ ?_|(refine W_st ?_;constructor;try intro K hK))|((with_reducible first|refine hZ _ _ ?_|refine W_rg ?_|skip);repeat1' simp only[push_cast,seval,-Nat.reduceSubDiff])|((repeat((fail_if_success with_reducible refine hK _ _ ?_);clear hK K));with_reducible refine hK _ _ ?_;clear hK K))
    refine (findex_c hF (by omega) i).mono ?_
    rintro v w2 ⟨rfl, hx⟩
    rw [hi]
    have hF2 := hF.ext hx
    have hA2 := hA.pass hx
    have hs := hx.alike.size
    have h1 := hF2.c1
    (repeat first|(with_reducible first|(refine hK _ _ ?_;clear hK K)|refine ‹∀σ w,_→K σ w› _ _ ?_|(refine W_st ?_;constructor;try intro K hK))|((with_reducible first|refine hZ _ _ ?_|refine W_rg ?_|skip);repeat1' simp only[push_cast,seval,-Nat.reduceSubDiff,b0,b1,h1])|((repeat((fail_if_success with_reducible refine hK _ _ ?_);clear hK K));with_reducible refine hK _ _ ?_;clear hK K))
    refine (delete_c hF2.sl (by omega) q hq).mono ?_
    rintro v w3 ⟨g1, g2⟩
    obtain ⟨k1, k2, k3⟩ := ls_put hF2 hA2 hpl hbo hQ (fun b hb => by have := hQl b hb; omega) g1 g2 (fun b hb => .inl hb)
    obtain ⟨va, vn, vc, rfl, _, _⟩ := g1.len
    (repeat first|(with_reducible first|(refine hK _ _ ?_;clear hK K)|refine ‹∀σ w,_→K σ w› _ _ ?_|(refine W_st ?_;constructor;try intro K hK))|((with_reducible first|refine hZ _ _ ?_|refine W_rg ?_|skip);repeat1' simp only[push_cast,seval,-Nat.reduceSubDiff,k1])|((repeat((fail_if_success with_reducible refine hK _ _ ?_);clear hK K));with_reducible refine hK _ _ ?_;clear hK K))
    exact ⟨k2, Upd.trans hx.upd k3 fun _ _ h => h⟩
def insertL (L : List Nd) (l : List Int) (k i : Int) : List Int × Int := if ((nd? L i).getD zN).kind = 3 then (if 0 ≤ k ∧ k ≤ l.length then layN l k.toNat i else (l, 2)) else (l, 2)
theorem insertl_c (h : LsAt w0 w Q pl pa L l) (hb : L.length < 100000) (ha : ∀ n ∈ L, n.attrs.length < 1000000) (hl : l.length < 10000) (k i : Int) : Gives Tryz.prog 210 #[.pointer (some ⟨pl, 0, none⟩), .int .i64 k, .int .i64 i] w fun v w' => v = .int .i64 (insertL L l k i).2 ∧ LsAt w0 w' Q pl pa L (insertL L l k i).1 ∧ Upd (AF w0 Q) w w' := by
  have hm := may_c h hb ha i
  unfold insertL
  by_cases hk : ((nd? L i).getD zN).kind = 3
  · rw [if_pos hk]
    rw [if_pos hk] at hm
    by_cases hkk : 0 ≤ k ∧ k ≤ l.length
    · rw [if_pos hkk]
      obtain ⟨k, rfl⟩ : ∃ q : Nat, k = q := ⟨k.toNat, by omega⟩
      have b0 : ¬ (k : Int) < 0 := by omega
      have b1 : ¬ (l.length : Int) < (k : Int) := by omega
      refine Gives.of_W Tryz.call210 Tryz.func210 rfl Tryz.ntmps210 (by simp) ?_; intro Z hZ
      (repeat first|(with_reducible first|(refine hK _ _ ?_;clear hK K)|refine ‹∀σ w,_→K σ w› _ _ ?_|(refine W_st ?_;constructor;try intro K hK))|((with_reducible first|refine hZ _ _ ?_|refine W_rg ?_|skip);repeat1' simp only[push_cast,seval,-Nat.reduceSubDiff])|((repeat((fail_if_success with_reducible refine hK _ _ ?_);clear hK K));with_reducible refine hK _ _ ?_;clear hK K))
      refine hm.mono ?_
      rintro v w2 ⟨rfl, hx⟩
      have h2 := h.pass hx
      have h2' := h2
      obtain ⟨lv, bo, hF, _⟩ := h2'
      have h1 := hF.c1
      obtain ⟨a, c, rfl, _⟩ := hF.sl.ints_len
      (repeat first|(with_reducible first|(refine hK _ _ ?_;clear hK K)|refine ‹∀σ w,_→K σ w› _ _ ?_|(refine W_st ?_;constructor;try intro K hK))|((with_reducible first|refine hZ _ _ ?_|refine W_rg ?_|skip);repeat1' simp only[push_cast,seval,-Nat.reduceSubDiff,not_true_eq_false,h1,b0,b1])|((repeat((fail_if_success with_reducible refine hK _ _ ?_);clear hK K));with_reducible refine hK _ _ ?_;clear hK K))
      refine (lay_c h2 hl k (by omega) i).mono ?_
      rintro v w3 ⟨rfl, k2, k3⟩
      (repeat first|(with_reducible first|(refine hK _ _ ?_;clear hK K)|refine ‹∀σ w,_→K σ w› _ _ ?_|(refine W_st ?_;constructor;try intro K hK))|((with_reducible first|refine hZ _ _ ?_|refine W_rg ?_|skip);repeat1' simp only[push_cast,seval,-Nat.reduceSubDiff])|((repeat((fail_if_success with_reducible refine hK _ _ ?_);clear hK K));with_reducible refine hK _ _ ?_;clear hK K))
      exact ⟨k2, Upd.trans hx.upd k3 fun _ _ h => h⟩
    · rw [if_neg hkk]
      by_cases hk0 : k < 0
      · refine Gives.of_W Tryz.call210 Tryz.func210 rfl Tryz.ntmps210 (by simp) ?_; intro Z hZ
        (repeat first|(with_reducible first|(refine hK _ _ ?_;clear hK K)|refine ‹∀σ w,_→K σ w› _ _ ?_|(refine W_st ?_;constructor;try intro K hK))|((with_reducible first|refine hZ _ _ ?_|refine W_rg ?_|skip);repeat1' simp only[push_cast,seval,-Nat.reduceSubDiff])|((repeat((fail_if_success with_reducible refine hK _ _ ?_);clear hK K));with_reducible refine hK _ _ ?_;clear hK K))
        refine hm.mono ?_
        rintro v w2 ⟨rfl, hx⟩
        (repeat first|(with_reducible first|(refine hK _ _ ?_;clear hK K)|refine ‹∀σ w,_→K σ w› _ _ ?_|(refine W_st ?_;constructor;try intro K hK))|((with_reducible first|refine hZ _ _ ?_|refine W_rg ?_|skip);repeat1' simp only[push_cast,seval,-Nat.reduceSubDiff,not_true_eq_false,hk0])|((repeat((fail_if_success with_reducible refine hK _ _ ?_);clear hK K));with_reducible refine hK _ _ ?_;clear hK K))
        exact ⟨h.pass hx, hx.upd⟩
      · have b1 : (l.length : Int) < k := by omega
        refine Gives.of_W Tryz.call210 Tryz.func210 rfl Tryz.ntmps210 (by simp) ?_; intro Z hZ
        (repeat first|(with_reducible first|(refine hK _ _ ?_;clear hK K)|refine ‹∀σ w,_→K σ w› _ _ ?_|(refine W_st ?_;constructor;try intro K hK))|((with_reducible first|refine hZ _ _ ?_|refine W_rg ?_|skip);repeat1' simp only[push_cast,seval,-Nat.reduceSubDiff])|((repeat((fail_if_success with_reducible refine hK _ _ ?_);clear hK K));with_reducible refine hK _ _ ?_;clear hK K))
        refine hm.mono ?_
        rintro v w2 ⟨rfl, hx⟩
        have h2 := h.pass hx
        have h2' := h2
        obtain ⟨lv, bo, hF, _⟩ := h2'
        have h1 := hF.c1
        obtain ⟨a, c, rfl, _⟩ := hF.sl.ints_len
        (repeat first|(with_reducible first|(refine hK _ _ ?_;clear hK K)|refine ‹∀σ w,_→K σ w› _ _ ?_|(refine W_st ?_;constructor;try intro K hK))|((with_reducible first|refine hZ _ _ ?_|refine W_rg ?_|skip);repeat1' simp only[push_cast,seval,-Nat.reduceSubDiff,not_true_eq_false,hk0,h1,b1])|((repeat((fail_if_success with_reducible refine hK _ _ ?_);clear hK K));with_reducible refine hK _ _ ?_;clear hK K))
        exact ⟨h2, hx.upd⟩
  · rw [if_neg hk]
    rw [if_neg hk] at hm
    refine Gives.of_W Tryz.call210 Tryz.func210 rfl Tryz.ntmps210 (by simp) ?_; intro Z hZ
    (repeat first|(with_reducible first|(refine hK _ _ ?_;clear hK K)|refine ‹∀σ w,_→K σ w› _ _ ?_|(refine W_st ?_;constructor;try intro K hK))|((with_reducible first|refine hZ _ _ ?_|refine W_rg ?_|skip);repeat1' simp only[push_cast,seval,-Nat.reduceSubDiff])|((repeat((fail_if_success with_reducible refine hK _ _ ?_);clear hK K));with_reducible refine hK _ _ ?_;clear hK K))
    refine hm.mono ?_
    rintro v w2 ⟨rfl, hx⟩
    (repeat first|(with_reducible first|(refine hK _ _ ?_;clear hK K)|refine ‹∀σ w,_→K σ w› _ _ ?_|(refine W_st ?_;constructor;try intro K hK))|((with_reducible first|refine hZ _ _ ?_|refine W_rg ?_|skip);repeat1' simp only[push_cast,seval,-Nat.reduceSubDiff,not_false_eq_true])|((repeat((fail_if_success with_reducible refine hK _ _ ?_);clear hK K));with_reducible refine hK _ _ ?_;clear hK K))
    exact ⟨h.pass hx, hx.upd⟩
end
end Go.Proofs.YtgnnlaeikcnhcaaGreatDoor
end
section
set_option linter.unusedSimpArgs false
set_option linter.unusedVariables false
namespace Go.Proofs.YtgnnlaeikcnhcaaGreatDoor
open Go Go.Vk
set_option maxHeartbeats 40000000
section
variable {w0 w : World} {Q : Nat → Prop} {pl pa : Nat} {L : List Nd} {l : List Int}
def replN (L : List Nd) (l : List Int) (k i : Int) : List Int × Int := if ((nd? L i).getD zN).kind = 3 then (if 0 ≤ k ∧ k < l.length then (l.set k.toNat i, 0) else (l, 2)) else (l, 2)
theorem replace_c (h : LsAt w0 w Q pl pa L l) (hb : L.length < 100000) (ha : ∀ n ∈ L, n.attrs.length < 1000000) (hl : l.length < 10000) (k i : Int) : Gives Tryz.prog 109 #[.pointer (some ⟨pl, 0, none⟩), .int .i64 k, .int .i64 i] w fun v w' => v = .int .i64 (replN L l k i).2 ∧ LsAt w0 w' Q pl pa L (replN L l k i).1 ∧ Upd (AF w0 Q) w w' := by
  have hm := may_c h hb ha i
  unfold replN
  by_cases hk : ((nd? L i).getD zN).kind = 3
  · rw [if_pos hk]
    rw [if_pos hk] at hm
    by_cases hkk : 0 ≤ k ∧ k < l.length
    · rw [if_pos hkk]
      obtain ⟨k, rfl⟩ : ∃ q : Nat, k = q := ⟨k.toNat, by omega⟩
      have b0 : ¬ (k : Int) < 0 := by omega
      have b1 : ¬ (l.length : Int) ≤ (k : Int) := by omega
      have b2 : (0 : Int) ≤ (k : Int) := by omega
      have b3 : (k : Int) < (l.length : Int) := by omega
      refine Gives.of_W Tryz.call109 Tryz.func109 rfl Tryz.ntmps109 (by simp) ?_; intro Z hZ
      (repeat first|(with_reducible first|(refine hK _ _ ?_;clear hK K)|refine ‹∀σ w,_→K σ w› _ _ ?_|(refine W_st ?_;constructor;try intro K hK))|((with_reducible first|refine hZ _ _ ?_|refine W_rg ?_|skip);repeat1' simp only[push_cast,seval,-Nat.reduceSubDiff])|((repeat((fail_if_success with_reducible refine hK _ _ ?_);clear hK K));with_reducible refine hK _ _ ?_;clear hK K))
      refine hm.mono ?_
      rintro v w2 ⟨rfl, hx⟩
      obtain ⟨lv, bo, hF, hA, hpl, hbo, hQ⟩ := h.pass hx
      have h1 := hF.c1
      obtain ⟨b, o, n, c, rfl, hbo1⟩ := hF.sl.some_of (kids_ne (k := k) (by omega))
      have hsl := hF.sl
      have hlen : (intCells l).length = l.length := intCells_length l
      obtain ⟨_, _, e3, _⟩ := hsl.inv
      have hn : n = l.length := by omega
      subst hn
      have hcan := hsl.can (i := k) (by omega)
      have hset := hsl.set (i := k) (by omega) (.int .i64 i)
      have eset : (intCells l).set k (.int .i64 i) = intCells (l.set k i) := by simp [intCells, List.map_set]
      rw [eset] at hset
      have hbb := hbo b hbo1
      have hnp : ¬ b = pl := fun e => hF.ne (by rw [hbo1, e])
      have up : Upd (fun q => q = b) w2 (w2.setCell ⟨b, o + k, none⟩ (.int .i64 i)) := Upd.setCell (F := fun q => q = b) (a := ⟨b, o + k, none⟩) w2 rfl _
      (repeat first|(with_reducible first|(refine hK _ _ ?_;clear hK K)|refine ‹∀σ w,_→K σ w› _ _ ?_|(refine W_st ?_;constructor;try intro K hK))|((with_reducible first|refine hZ _ _ ?_|refine W_rg ?_|skip);repeat1' simp only[push_cast,seval,-Nat.reduceSubDiff,not_true_eq_false,h1,b0,b1,b2,b3,hcan])|((repeat((fail_if_success with_reducible refine hK _ _ ?_);clear hK K));with_reducible refine hK _ _ ?_;clear hK K))
      refine ⟨⟨_, bo, ⟨(up.same pl (blk_lt hF.head) (fun e => hnp e.symm)).trans hF.head, hset, hF.ne⟩, hA.frame up fun q e => ⟨.inr (.inr (by rw [e]; exact hbo1)), e ▸ hbb.1⟩, hpl, hbo, hQ⟩, Upd.trans hx.upd up fun q _ e => e ▸ hbb⟩
    · rw [if_neg hkk]
      by_cases hk0 : k < 0
      · refine Gives.of_W Tryz.call109 Tryz.func109 rfl Tryz.ntmps109 (by simp) ?_; intro Z hZ
        (repeat first|(with_reducible first|(refine hK _ _ ?_;clear hK K)|refine ‹∀σ w,_→K σ w› _ _ ?_|(refine W_st ?_;constructor;try intro K hK))|((with_reducible first|refine hZ _ _ ?_|refine W_rg ?_|skip);repeat1' simp only[push_cast,seval,-Nat.reduceSubDiff])|((repeat((fail_if_success with_reducible refine hK _ _ ?_);clear hK K));with_reducible refine hK _ _ ?_;clear hK K))
        refine hm.mono ?_
        rintro v w2 ⟨rfl, hx⟩
        (repeat first|(with_reducible first|(refine hK _ _ ?_;clear hK K)|refine ‹∀σ w,_→K σ w› _ _ ?_|(refine W_st ?_;constructor;try intro K hK))|((with_reducible first|refine hZ _ _ ?_|refine W_rg ?_|skip);repeat1' simp only[push_cast,seval,-Nat.reduceSubDiff,not_true_eq_false,hk0])|((repeat((fail_if_success with_reducible refine hK _ _ ?_);clear hK K));with_reducible refine hK _ _ ?_;clear hK K))
        exact ⟨h.pass hx, hx.upd⟩
      · have b1 : (l.length : Int) ≤ k := by omega
        refine Gives.of_W Tryz.call109 Tryz.func109 rfl Tryz.ntmps109 (by simp) ?_; intro Z hZ
        (repeat first|(with_reducible first|(refine hK _ _ ?_;clear hK K)|refine ‹∀σ w,_→K σ w› _ _ ?_|(refine W_st ?_;constructor;try intro K hK))|((with_reducible first|refine hZ _ _ ?_|refine W_rg ?_|skip);repeat1' simp only[push_cast,seval,-Nat.reduceSubDiff])|((repeat((fail_if_success with_reducible refine hK _ _ ?_);clear hK K));with_reducible refine hK _ _ ?_;clear hK K))
        refine hm.mono ?_
        rintro v w2 ⟨rfl, hx⟩
        have h2 := h.pass hx
        have h2' := h2
        obtain ⟨lv, bo, hF, _⟩ := h2'
        have h1 := hF.c1
        obtain ⟨a, c, rfl, _⟩ := hF.sl.ints_len
        (repeat first|(with_reducible first|(refine hK _ _ ?_;clear hK K)|refine ‹∀σ w,_→K σ w› _ _ ?_|(refine W_st ?_;constructor;try intro K hK))|((with_reducible first|refine hZ _ _ ?_|refine W_rg ?_|skip);repeat1' simp only[push_cast,seval,-Nat.reduceSubDiff,not_true_eq_false,hk0,h1,b1])|((repeat((fail_if_success with_reducible refine hK _ _ ?_);clear hK K));with_reducible refine hK _ _ ?_;clear hK K))
        exact ⟨h2, hx.upd⟩
  · rw [if_neg hk]
    rw [if_neg hk] at hm
    refine Gives.of_W Tryz.call109 Tryz.func109 rfl Tryz.ntmps109 (by simp) ?_; intro Z hZ
    (repeat first|(with_reducible first|(refine hK _ _ ?_;clear hK K)|refine ‹∀σ w,_→K σ w› _ _ ?_|(refine W_st ?_;constructor;try intro K hK))|((with_reducible first|refine hZ _ _ ?_|refine W_rg ?_|skip);repeat1' simp only[push_cast,seval,-Nat.reduceSubDiff])|((repeat((fail_if_success with_reducible refine hK _ _ ?_);clear hK K));with_reducible refine hK _ _ ?_;clear hK K))
    refine hm.mono ?_
    rintro v w2 ⟨rfl, hx⟩
    (repeat first|(with_reducible first|(refine hK _ _ ?_;clear hK K)|refine ‹∀σ w,_→K σ w› _ _ ?_|(refine W_st ?_;constructor;try intro K hK))|((with_reducible first|refine hZ _ _ ?_|refine W_rg ?_|skip);repeat1' simp only[push_cast,seval,-Nat.reduceSubDiff,not_false_eq_true])|((repeat((fail_if_success with_reducible refine hK _ _ ?_);clear hK K));with_reducible refine hK _ _ ?_;clear hK K))
    exact ⟨h.pass hx, hx.upd⟩
theorem pl84 (w : World) : ((fsOf Tryz.prog 112).mapM plOf).run Tryz.prog w = .ok #[(0,1),(1,1)] w := by
  simp [fsOf, plOf, Tryz.underlying112, Sem.run, Tryz.sizeOf42, Tryz.sizeOf44]
theorem un84 : Tryz.prog.underlying 112 = some (.struct (fsOf Tryz.prog 112)) := by rw [fsOf, Tryz.underlying112]
theorem fnew_c (h : At w0 w Q pa L) (hL : L ≠ []) : Gives Tryz.prog 94 #[.pointer (some ⟨pa, 0, none⟩)] w fun v w' => ∃ pl, v = .pointer (some ⟨pl, 0, none⟩) ∧ LsAt w0 w' Q pl pa L [] ∧ Ext w w' := by
  have b0 : ((L.length : Int) = 0) = False := eq_false (by have := List.length_pos_iff.2 hL; omega)
  refine Gives.of_W Tryz.call94 Tryz.func94 rfl Tryz.ntmps94 (by simp) ?_; intro Z hZ
  (repeat first|(with_reducible first|(refine hK _ _ ?_;clear hK K)|refine ‹∀σ w,_→K σ w› _ _ ?_|(refine W_st ?_;constructor;try intro K hK))|((with_reducible first|refine hZ _ _ ?_|refine W_rg ?_|skip);repeat1' simp only[push_cast,seval,-Nat.reduceSubDiff])|((repeat((fail_if_success with_reducible refine hK _ _ ?_);clear hK K));with_reducible refine hK _ _ ?_;clear hK K))
  refine (len_a h).mono ?_
  rintro v w' ⟨rfl, rfl⟩
  (repeat first|(with_reducible first|(refine hK _ _ ?_;clear hK K)|refine ‹∀σ w,_→K σ w› _ _ ?_|(refine W_st ?_;constructor;try intro K hK))|((with_reducible first|refine hZ _ _ ?_|refine W_rg ?_|skip);repeat1' simp only[push_cast,seval,-Nat.reduceSubDiff,b0])|((repeat((fail_if_success with_reducible refine hK _ _ ?_);clear hK K));with_reducible refine hK _ _ ?_;clear hK K))
  refine build_struct Tryz.zeroValue112 un84 pl84 (cs := #[.pointer (some ⟨pa, 0, none⟩), .slice none 0 0]) (by rfl) ?_
  (repeat first|(with_reducible first|(refine hK _ _ ?_;clear hK K)|refine ‹∀σ w,_→K σ w› _ _ ?_|(refine W_st ?_;constructor;try intro K hK))|((with_reducible first|refine hZ _ _ ?_|refine W_rg ?_|skip);repeat1' simp only[push_cast,seval,-Nat.reduceSubDiff,vcells_agg])|((repeat((fail_if_success with_reducible refine hK _ _ ?_);clear hK K));with_reducible refine hK _ _ ?_;clear hK K))
  have hx := Ext.alloc w' (.cells #[.pointer (some ⟨pa, 0, none⟩), .slice none 0 0] 112)
  have h0 := h.ext.alike.size
  have hA : At w0 (w'.alloc (.cells #[.pointer (some ⟨pa, 0, none⟩), .slice none 0 0] 112)) (fun b => Q b ∨ b = w'.heap.size ∨ (none : Option Nat) = some b) pa L := h.guard hx fun b hb => by
    rcases hb with hb | rfl | hb
    · exact .inl hb
    · exact .inr ⟨Nat.le_refl _, by rw [size_alloc_h]; omega⟩
    · cases hb
  exact ⟨w'.heap.size, rfl, ⟨_, none, ⟨by rw [heap_alloc_h, if_pos rfl], SlAt.nil _ _, by simp⟩, hA, h0, (fun b hb => by cases hb), fun hq => by have := h.low _ hq; omega⟩, hx⟩
def nameN (L : List Nd) (s : ByteArray) (i : Int) : Bool := decide (((nd? L i).getD zN).space = 0 ∧ ((nd? L i).getD zN).name = s)
def lastName (L : List Nd) (l : List Int) (s : ByteArray) : Int := if lastF (nameN L s) l (openN l) l.length < 0 then -1 else l.getD (lastF (nameN L s) l (openN l) l.length).toNat 0
theorem openN_rng (l : List Int) : 0 ≤ openN l ∧ openN l ≤ l.length := by
  have := lastF_rng (fun i => decide (i = -1)) l 0 l.length
  unfold openN; omega
theorem last1_c {w2 : World} {p2 p3 : Nat} {s : ByteArray} (h : LsAt w0 w Q pl pa L l) (hx : Ext w w2) (hb : L.length < 100000) (ha : ∀ n ∈ L, n.attrs.length < 1000000) (h2 : w2.heap[p2]? = some (.cells #[.pointer (some ⟨pl, 0, none⟩)] 29 (0, 0))) (h3 : w2.heap[p3]? = some (.cells #[.string s] 9 (0, 0))) (i : Int) :
    Gives Tryz.prog 205 #[.int .i64 i, .pointer (some ⟨p2, 0, none⟩), .pointer (some ⟨p3, 0, none⟩)] w2 fun v w' => v = .bool (nameN L s i) ∧ Ext w2 w' := by
  obtain ⟨lv, bo, hF, hA, hpl, hbo, hQ⟩ := h.pass hx
  have h0 := hF.c0
  have e2 : w2.cell? ⟨p2, 0, none⟩ = some (.pointer (some ⟨pl, 0, none⟩)) := by rw [cell_h, h2]; rfl
  refine Gives.of_W Tryz.call205 Tryz.func205 rfl Tryz.ntmps205 (by simp) ?_; intro Z hZ
  (repeat first|(with_reducible first|(refine hK _ _ ?_;clear hK K)|refine ‹∀σ w,_→K σ w› _ _ ?_|(refine W_st ?_;constructor;try intro K hK))|((with_reducible first|refine hZ _ _ ?_|refine W_rg ?_|skip);repeat1' simp only[push_cast,seval,-Nat.reduceSubDiff,e2,h0])|((repeat((fail_if_success with_reducible refine hK _ _ ?_);clear hK K));with_reducible refine hK _ _ ?_;clear hK K))
  refine (node_a hA hb ha i).mono ?_
  rintro v w3 ⟨m, rfl, em, hok, _, hx3, _, _⟩
  rw [Laid.val_eq]
  obtain ⟨ea, en, ec, eav, _, _⟩ := hok.attrs.len
  obtain ⟨ka, kn, kc, ekv, _, _⟩ := hok.kids.len
  have en1 : nameN L s i = decide (m.nd.space = 0 ∧ m.nd.name = s) := by rw [nameN, ← em]
  rw [eav, ekv]
  (repeat first|(with_reducible first|(refine hK _ _ ?_;clear hK K)|refine ‹∀σ w,_→K σ w› _ _ ?_|(refine W_st ?_;constructor;try intro K hK))|((with_reducible first|refine hZ _ _ ?_|refine W_rg ?_|skip);repeat1' simp only[push_cast,seval,-Nat.reduceSubDiff,RunV_zero Tryz.zeroValue46])|((repeat((fail_if_success with_reducible refine hK _ _ ?_);clear hK K));with_reducible refine hK _ _ ?_;clear hK K))
  simp only [vcells_agg, can_h, heap_alloc_h, if_true, canO_cells, List.size_toArray, List.length_cons, List.length_nil, Nat.zero_add, Nat.reduceAdd, Nat.reduceLT, true_and]
  have z1 : (w3.alloc (.cells #[.int .i64 0, .string ⟨#[]⟩, .string ⟨#[]⟩, .int .i64 0, .slice none 0 0, .bool false, .int .i64 0, .int .i64 0, .slice none 0 0, .int .i64 0, .int .i64 0] 46)).heap[w3.heap.size]? = some (.cells #[.int .i64 0, .string ⟨#[]⟩, .string ⟨#[]⟩, .int .i64 0, .slice none 0 0, .bool false, .int .i64 0, .int .i64 0, .slice none 0 0, .int .i64 0, .int .i64 0] 46 (0, 0)) := by rw [heap_alloc_h, if_pos rfl]
  have hp3 := setCells_all z1 (l := [.int .i64 m.nd.kind, .string m.nd.name, .string m.nd.text, .int .i64 m.nd.space, .slice ea en ec, .bool m.nd.dup, .int .i64 m.nd.parent, .int .i64 m.nd.content, .slice ka kn kc, .int .i64 m.nd.frm, .int .i64 m.nd.to]) rfl
  have hx4 : Ext w3 (setCells (w3.alloc (.cells #[.int .i64 0, .string ⟨#[]⟩, .string ⟨#[]⟩, .int .i64 0, .slice none 0 0, .bool false, .int .i64 0, .int .i64 0, .slice none 0 0, .int .i64 0, .int .i64 0] 46)) ⟨w3.heap.size, 0, none⟩ [.int .i64 m.nd.kind, .string m.nd.name, .string m.nd.text, .int .i64 m.nd.space, .slice ea en ec, .bool m.nd.dup, .int .i64 m.nd.parent, .int .i64 m.nd.content, .slice ka kn kc, .int .i64 m.nd.frm, .int .i64 m.nd.to] 0) := Upd.trans (Ext.alloc w3 _) (Upd.setCells (F := fun b => b = w3.heap.size) (a := ⟨w3.heap.size, 0, none⟩) _ rfl _ 0) fun i hi e => by omega
  generalize setCells (w3.alloc (.cells #[.int .i64 0, .string ⟨#[]⟩, .string ⟨#[]⟩, .int .i64 0, .slice none 0 0, .bool false, .int .i64 0, .int .i64 0, .slice none 0 0, .int .i64 0, .int .i64 0] 46)) ⟨w3.heap.size, 0, none⟩ [.int .i64 m.nd.kind, .string m.nd.name, .string m.nd.text, .int .i64 m.nd.space, .slice ea en ec, .bool m.nd.dup, .int .i64 m.nd.parent, .int .i64 m.nd.content, .slice ka kn kc, .int .i64 m.nd.frm, .int .i64 m.nd.to] 0 = w4 at *
  have h5 := (hx3.trans hx4).blk h3
  by_cases q1 : m.nd.space = 0
  · (repeat first|(with_reducible first|(refine hK _ _ ?_;clear hK K)|refine ‹∀σ w,_→K σ w› _ _ ?_|(refine W_st ?_;constructor;try intro K hK))|((with_reducible first|refine hZ _ _ ?_|refine W_rg ?_|skip);repeat1' simp only[push_cast,seval,-Nat.reduceSubDiff,cell_h,hp3,h5,cellO_cells,q1])|((repeat((fail_if_success with_reducible refine hK _ _ ?_);clear hK K));with_reducible refine hK _ _ ?_;clear hK K))
    exact ⟨by rw [en1]; simp [q1], hx3.trans hx4⟩
  · (repeat first|(with_reducible first|(refine hK _ _ ?_;clear hK K)|refine ‹∀σ w,_→K σ w› _ _ ?_|(refine W_st ?_;constructor;try intro K hK))|((with_reducible first|refine hZ _ _ ?_|refine W_rg ?_|skip);repeat1' simp only[push_cast,seval,-Nat.reduceSubDiff,cell_h,hp3,h5,cellO_cells,q1])|((repeat((fail_if_success with_reducible refine hK _ _ ?_);clear hK K));with_reducible refine hK _ _ ?_;clear hK K))
    exact ⟨by rw [en1]; simp [q1], hx3.trans hx4⟩
theorem flast_c (h : LsAt w0 w Q pl pa L l) (hb : L.length < 100000) (ha : ∀ n ∈ L, n.attrs.length < 1000000) (hl : l.length < 10000) (s : ByteArray) : Gives Tryz.prog 162 #[.pointer (some ⟨pl, 0, none⟩), .string s] w fun v w' => v = .int .i64 (lastName L l s) ∧ Ext w w' := by
  have h' := h
  obtain ⟨lv, bo, hF, hA, hpl, hbo, hQ⟩ := h
  have hx1 : Ext w ((w.alloc (.cells #[.pointer (some ⟨pl, 0, none⟩)] 29)).alloc (.cells #[.string s] 9)) := (Ext.alloc _ _).trans (Ext.alloc _ _)
  have c2 : ((w.alloc (.cells #[.pointer (some ⟨pl, 0, none⟩)] 29)).alloc (.cells #[.string s] 9)).heap[w.heap.size]? = some (.cells #[.pointer (some ⟨pl, 0, none⟩)] 29 (0, 0)) := by
    rw [heap_alloc_h, if_neg (by rw [size_alloc_h]; omega), heap_alloc_h, if_pos rfl]
  have c3 : ((w.alloc (.cells #[.pointer (some ⟨pl, 0, none⟩)] 29)).alloc (.cells #[.string s] 9)).heap[w.heap.size + 1]? = some (.cells #[.string s] 9 (0, 0)) := by
    rw [heap_alloc_h, if_pos (by rw [size_alloc_h])]
  refine Gives.of_W Tryz.call162 Tryz.func162 rfl Tryz.ntmps162 (by simp) ?_; intro Z hZ
  (repeat first|(with_reducible first|(refine hK _ _ ?_;clear hK K)|refine ‹∀σ w,_→K σ w› _ _ ?_|(refine W_st ?_;constructor;try intro K hK))|((with_reducible first|refine hZ _ _ ?_|refine W_rg ?_|skip);repeat1' simp only[push_cast,seval,-Nat.reduceSubDiff,vcells_ptr,vcells_str,size_alloc_h])|((repeat((fail_if_success with_reducible refine hK _ _ ?_);clear hK K));with_reducible refine hK _ _ ?_;clear hK K))
  generalize (w.alloc (.cells #[.pointer (some ⟨pl, 0, none⟩)] 29)).alloc (.cells #[.string s] 9) = w1 at *
  have hx2 := hx1.trans (Ext.drew w1)
  have d2 := (Ext.drew w1).blk c2
  have d3 := (Ext.drew w1).blk c3
  have hsz := hx1.alike.size
  have hbs := blk_lt c2
  refine W_draw (.pas 0 (.pas 1 (.pas 3 (.act 2 (.act 4 (.pas 5 .fin)))))) (fun b => b = w.heap.size) (by decide) mixed (by kernel_rfl) ?_
  generalize w1.drew = w2 at *
  have hbs2 := blk_lt d2
  (repeat (first | ((first | refine pas_plain rfl ?_ | refine pas_g rfl rfl ?_ | refine act_plain rfl ?_ | refine act_g rfl rfl ?_ | refine last_plain rfl ?_ | refine tail_plain rfl ?_ | refine tail_g rfl rfl ?_); (repeat simp only [push_cast, seval, -Nat.reduceSubDiff, cell_h, d2, cellO_cells, eq_self])) | (refine tail_fin ?_) | (refine sch_fin ?_)))
  refine (open_c (hF.ext hx2) (by omega)).mono ?_
  rintro v w3 ⟨rfl, hx3⟩
  refine ⟨kept_upd hx3 fun b hb => ⟨by have : b = w.heap.size := hb; omega, id⟩, ?_⟩
  (repeat (first | ((first | refine pas_plain rfl ?_ | refine pas_g rfl rfl ?_ | refine act_plain rfl ?_ | refine act_g rfl rfl ?_ | refine last_plain rfl ?_ | refine tail_plain rfl ?_ | refine tail_g rfl rfl ?_); (repeat simp only [push_cast, seval, -Nat.reduceSubDiff, cell_h, d2, cellO_cells, eq_self])) | (refine tail_fin ?_) | (refine sch_fin ?_)))
  have hor := openN_rng l
  refine (last_c (hF.ext (hx2.trans hx3)) (by omega) (first := #[]) (captured := #[.pointer (some ⟨w.heap.size, 0, none⟩), .pointer (some ⟨w.heap.size + 1, 0, none⟩)]) (p := nameN L s) (openN l) hor.1 fun i _ w4 hx4 => last1_c h' (hx2.trans (hx3.trans hx4)) hb ha ((hx3.trans hx4).blk d2) ((hx3.trans hx4).blk d3) i).mono ?_
  rintro v w4 ⟨rfl, hx4⟩
  refine ⟨kept_upd hx4 fun b hb => ⟨by have : b = w.heap.size := hb; have := hx3.alike.size; omega, id⟩, ?_⟩
  (repeat (first | ((first | refine pas_plain rfl ?_ | refine pas_g rfl rfl ?_ | refine act_plain rfl ?_ | refine act_g rfl rfl ?_ | refine last_plain rfl ?_ | refine tail_plain rfl ?_ | refine tail_g rfl rfl ?_); (repeat simp only [push_cast, seval, -Nat.reduceSubDiff, cell_h, d2, cellO_cells, eq_self])) | (refine tail_fin ?_) | (refine sch_fin ?_)))
  have hx5 := hx2.trans (hx3.trans hx4)
  have d5 := (hx3.trans hx4).blk d2
  have hF5 := hF.ext hx5
  have h1 := hF5.c1
  rw [cell_h] at h1
  by_cases hn : lastF (nameN L s) l (openN l) l.length < 0
  · have en : lastName L l s = -1 := by rw [lastName, if_pos hn]
    (repeat first|(with_reducible first|(refine hK _ _ ?_;clear hK K)|refine ‹∀σ w,_→K σ w› _ _ ?_|(refine W_st ?_;constructor;try intro K hK))|((with_reducible first|refine hZ _ _ ?_|refine W_rg ?_|skip);repeat1' simp only[push_cast,seval,-Nat.reduceSubDiff,hn])|((repeat((fail_if_success with_reducible refine hK _ _ ?_);clear hK K));with_reducible refine hK _ _ ?_;clear hK K))
    exact ⟨en.symm, hx5⟩
  · have en : lastName L l s = l.getD (lastF (nameN L s) l (openN l) l.length).toNat 0 := by rw [lastName, if_neg hn]
    obtain ⟨q, e, q1, q2, q3⟩ := lastF_sat _ _ _ _ (by omega : 0 ≤ lastF (nameN L s) l (openN l) l.length)
    rw [e]
    have hxk : l[q]? = some l[q] := List.getElem?_eq_getElem q1
    have hgd : l.getD ((q : Int).toNat) 0 = l[q] := by simp [List.getD, hxk]
    rw [e, hgd] at en
    obtain ⟨_, o, _, _, e1, _⟩ := hF.sl.some_of (kids_ne q1)
    obtain ⟨_, _, e2, _⟩ := hF.sl.ints_len
    rw [e1] at e2
    cases e2
    rw [e1] at h1
    have hs5 := hF5.sl
    rw [e1] at hs5
    have hcell := hs5.ints_cell hxk
    rw [cell_h] at hcell
    generalize l[q] = y at *
    have b0 : ¬ (q : Int) < 0 := by omega
    have b1 : (0 : Int) ≤ (q : Int) := by omega
    have b3 : (q : Int) < (l.length : Int) := by omega
    (repeat first|(with_reducible first|(refine hK _ _ ?_;clear hK K)|refine ‹∀σ w,_→K σ w› _ _ ?_|(refine W_st ?_;constructor;try intro K hK))|((with_reducible first|refine hZ _ _ ?_|refine W_rg ?_|skip);repeat1' simp only[push_cast,seval,-Nat.reduceSubDiff,cell_h,d5,h1,cellO_cells,b0,b1,b3,hcell])|((repeat((fail_if_success with_reducible refine hK _ _ ?_);clear hK K));with_reducible refine hK _ _ ?_;clear hK K))
    exact ⟨en.symm, hx5⟩
end
end Go.Proofs.YtgnnlaeikcnhcaaGreatDoor
end
section
set_option linter.unusedSimpArgs false
set_option linter.unusedVariables false
namespace Go.Vk
open Go
theorem max_int {P : Program} {ats : Array TypeId} {t : TypeId} {k j : IntKind} {x y : Int} (w : World) (K : Value → World → Prop) : RunV P (Builtin.max_ ats t #[.int k x, .int j y]) w K = K (.int k (if y > x then y else x)) w := by
  have : (Builtin.max_ ats t #[.int k x, .int j y]).run P w = .ok (.int k (if y > x then y else x)) w := by simp [Builtin.max_, Builtin.max2, Sem.run]
  refine propext ⟨fun h => ?_, fun h => .of this h⟩
  obtain ⟨v, w', h1, h2⟩ := h.spec
  rw [this] at h1; cases h1; exact h2
def pushG (p : Int → Bool) (l : List Int) (fr : Int) : Nat → Nat → Nat → Nat × Nat
  | 0, first, many => (first, many)
  | k + 1, first, many => if (k : Int) < fr then (first, many) else if p (l.getD k 0) = true then pushG p l fr k k (many + 1) else pushG p l fr k first many
theorem pushG_rng (p : Int → Bool) (l : List Int) (fr : Int) : ∀ k first many : Nat, k ≤ l.length → (many = 0 ∨ first < l.length) → (pushG p l fr k first many).2 = 0 ∨ (pushG p l fr k first many).1 < l.length
  | 0, first, many, _, h => h
  | k + 1, first, many, hk, h => by
    rw [pushG]
    split
    · exact h
    · split
      · exact pushG_rng p l fr k k _ (by omega) (.inr (by omega))
      · exact pushG_rng p l fr k _ _ (by omega) h
theorem pushG_done (p : Int → Bool) (l : List Int) (fr : Int) (k f m : Nat) (h : ¬ fr ≤ (k : Int) - 1) : pushG p l fr k f m = (f, m) := by
  cases k with
  | zero => rfl
  | succ k => rw [pushG, if_pos (by omega)]
def likeP (L : List Nd) (i y : Int) : Bool := likeN ((nd? L i).getD zN) ((nd? L y).getD zN)
end Go.Vk
namespace Go.Proofs.YtgnnlaeikcnhcaaGreatDoor
open Go Go.Vk
set_option maxHeartbeats 40000000
section
variable {w0 w : World} {Q : Nat → Prop} {pl pa : Nat} {L : List Nd} {l : List Int}
theorem nd_few (ha : ∀ n ∈ L, n.attrs.length < 1000000) (i : Int) : ((nd? L i).getD zN).attrs.length < 1000000 := by
  cases h : nd? L i with
  | none => decide
  | some n =>
    obtain ⟨k, _, hk, _⟩ := nd?_some h
    exact ha n (List.mem_of_getElem? hk)
def dropN (l : List Int) (r : Nat × Nat) : List Int := if 3 ≤ r.2 then l.eraseIdx r.1 else l
def pushN (L : List Nd) (l : List Int) (i : Int) : List Int × Int := if ((nd? L i).getD zN).kind = 3 then layN (dropN l (pushG (likeP L i) l (openN l) l.length 0 0)) (dropN l (pushG (likeP L i) l (openN l) l.length 0 0)).length i else (l, 2)
theorem push_c (h : LsAt w0 w Q pl pa L l) (hb : L.length < 100000) (ha : ∀ n ∈ L, n.attrs.length < 1000000) (hl : l.length < 10000) (i : Int) : Gives Tryz.prog 22 #[.pointer (some ⟨pl, 0, none⟩), .int .i64 i] w fun v w' => v = .int .i64 (pushN L l i).2 ∧ LsAt w0 w' Q pl pa L (pushN L l i).1 ∧ Upd (AF w0 Q) w w' := by
  have hm := may_c h hb ha i
  unfold pushN
  by_cases hk : ((nd? L i).getD zN).kind = 3
  · rw [if_pos hk]
    rw [if_pos hk] at hm
    have s0 : inI64 ((l.length : Int) - 1) := by unfold inI64; omega
    generalize hG : pushG (likeP L i) l (openN l) l.length 0 0 = G
    generalize hD : dropN l G = D
    refine Gives.of_W Tryz.call22 Tryz.func22 rfl Tryz.ntmps22 (by simp) ?_; intro Z hZ
    (repeat first|(with_reducible first|(refine hK _ _ ?_;clear hK K)|refine ‹∀σ w,_→K σ w› _ _ ?_|(refine W_st ?_;constructor;try intro K hK))|((with_reducible first|refine hZ _ _ ?_|refine W_rg ?_|skip);repeat1' simp only[push_cast,seval,-Nat.reduceSubDiff])|((repeat((fail_if_success with_reducible refine hK _ _ ?_);clear hK K));with_reducible refine hK _ _ ?_;clear hK K))
    refine hm.mono ?_
    rintro v w2 ⟨rfl, hx⟩
    have h2 := h.pass hx
    have h2' := h2
    obtain ⟨lv, bo, hF, hA, hpl, hbo, hQ⟩ := h2'
    have hQl : ∀ b, Q b → b < w2.heap.size := fun b hb => hA.low b (.inl hb)
    have h0 := hF.c0
    (repeat first|(with_reducible first|(refine hK _ _ ?_;clear hK K)|refine ‹∀σ w,_→K σ w› _ _ ?_|(refine W_st ?_;constructor;try intro K hK))|((with_reducible first|refine hZ _ _ ?_|refine W_rg ?_|skip);repeat1' simp only[push_cast,seval,-Nat.reduceSubDiff,not_true_eq_false,h0])|((repeat((fail_if_success with_reducible refine hK _ _ ?_);clear hK K));with_reducible refine hK _ _ ?_;clear hK K))
    refine (node_a hA hb ha i).mono ?_
    rintro v w3 ⟨s, rfl, es, hsok, hA3, hx3, _, _⟩
    have hF3 := hF.ext hx3
    (repeat first|(with_reducible first|(refine hK _ _ ?_;clear hK K)|refine ‹∀σ w,_→K σ w› _ _ ?_|(refine W_st ?_;constructor;try intro K hK))|((with_reducible first|refine hZ _ _ ?_|refine W_rg ?_|skip);repeat1' simp only[push_cast,seval,-Nat.reduceSubDiff])|((repeat((fail_if_success with_reducible refine hK _ _ ?_);clear hK K));with_reducible refine hK _ _ ?_;clear hK K))
    refine (flen_c hF3).mono ?_
    rintro v w' ⟨rfl, rfl⟩
    (repeat first|(with_reducible first|(refine hK _ _ ?_;clear hK K)|refine ‹∀σ w,_→K σ w› _ _ ?_|(refine W_st ?_;constructor;try intro K hK))|((with_reducible first|refine hZ _ _ ?_|refine W_rg ?_|skip);repeat1' simp only[push_cast,seval,-Nat.reduceSubDiff,s0])|((repeat((fail_if_success with_reducible refine hK _ _ ?_);clear hK K));with_reducible refine hK _ _ ?_;clear hK K))
    refine W_loop (S := Nat × Nat × Nat) (fun z => [(0, .pointer (some ⟨pl, 0, none⟩)), (1, .int .i64 i), (6, .func (.func 103) #[s.val] #[]), (7, .int .i64 (z.2.1 : Int)), (8, .int .i64 (z.2.2 : Int)), (9, .int .i64 ((z.1 : Int) - 1))])
      (fun z w4 => z.1 ≤ l.length ∧ z.2.2 + z.1 ≤ l.length ∧ G = pushG (likeP L i) l (openN l) z.1 z.2.1 z.2.2 ∧ Ext w' w4) (fun z => z.1) (l.length, 0, 0) ?_ ?_ ?_
    · (repeat simp only [push_cast, seval, -Nat.reduceSubDiff])
    · exact ⟨Nat.le_refl _, by simp, hG.symm, Ext.refl _⟩
    rintro ⟨k, f, m⟩ w4 ⟨q1, q2, q3, hx4⟩
    have hF4 := hF3.ext hx4
    have hA4 := hA3.pass hx4
    dsimp only at q1 q2 q3 ⊢
    by_cases hko : openN l ≤ (k : Int) - 1
    · have hor := openN_rng l
      obtain ⟨k, rfl⟩ : ∃ j, k = j + 1 := ⟨k - 1, by omega⟩
      have e0 : (((k + 1 : Nat) : Int) - 1) = k := by omega
      rw [e0] at hko ⊢
      have hkl : k < l.length := by omega
      have hxk : l[k]? = some l[k] := List.getElem?_eq_getElem hkl
      have hgd : l.getD k 0 = l[k] := by simp [List.getD, hxk]
      rw [pushG, if_neg (by omega), hgd] at q3
      generalize l[k] = y at *
      obtain ⟨b, o, _, c, e1, hbo1⟩ := hF.sl.some_of (kids_ne hkl)
      obtain ⟨_, _, e2, _⟩ := hF.sl.ints_len
      rw [e1] at e2
      cases e2
      subst e1
      have b1 : (0 : Int) ≤ (k : Int) := by omega
      have b3 : (k : Int) < (l.length : Int) := by omega
      have b2 : inI64 ((k : Int) - 1) := by unfold inI64; omega
      have b4 : inI64 ((m : Int) + 1) := by unfold inI64; omega
      (repeat first|(with_reducible first|(refine hK _ _ ?_;clear hK K)|refine ‹∀σ w,_→K σ w› _ _ ?_|(refine W_st ?_;constructor;try intro K hK))|((with_reducible first|refine hZ _ _ ?_|refine W_rg ?_|skip);repeat1' simp only[push_cast,seval,-Nat.reduceSubDiff])|((repeat((fail_if_success with_reducible refine hK _ _ ?_);clear hK K));with_reducible refine hK _ _ ?_;clear hK K))
      refine (open_c hF4 (by omega)).mono ?_
      rintro v w5 ⟨rfl, hx5⟩
      have hFd := (hF4.ext hx5).ext (Ext.drew w5)
      have h0 := hFd.c0
      have h1 := hFd.c1
      have hcell := hFd.sl.ints_cell hxk
      have hpl5 := blk_lt hFd.head
      have hsl5 := hFd.sl
      rw [hbo1] at hsl5
      have hbl5 := hsl5.lt
      rw [cell_h] at h0 h1 hcell
      have hAd := (hA4.pass hx5).pass (Ext.drew w5)
      (repeat first|(with_reducible first|(refine hK _ _ ?_;clear hK K)|refine ‹∀σ w,_→K σ w› _ _ ?_|(refine W_st ?_;constructor;try intro K hK))|((with_reducible first|refine hZ _ _ ?_|refine W_rg ?_|skip);repeat1' simp only[push_cast,seval,-Nat.reduceSubDiff,hko])|((repeat((fail_if_success with_reducible refine hK _ _ ?_);clear hK K));with_reducible refine hK _ _ ?_;clear hK K))
      refine W_draw (.pas 0 (.pas 1 (.pas 2 (.pas 3 (.pas 4 (.pas 5 (.pas 6 (.pas 7 (.pas 8 (.pas 9 (.pas 10 (.pas 11 (.act 12 (.act 13 .fin)))))))))))))) (fun q => q = pl ∨ q = b) (by decide) mixed (by kernel_rfl) ?_
      have hxd := Ext.drew w5
      generalize w5.drew = w6 at *
      (repeat (first | ((first | refine pas_plain rfl ?_ | refine pas_g rfl rfl ?_ | refine act_plain rfl ?_ | refine act_g rfl rfl ?_ | refine last_plain rfl ?_ | refine tail_plain rfl ?_ | refine tail_g rfl rfl ?_); (repeat simp only [push_cast, seval, -Nat.reduceSubDiff, cell_h, h0, h1, hcell, b1, b3, true_or, or_true, eq_self])) | (refine tail_fin ?_) | (refine sch_fin ?_)))
      refine (node_a hAd hb ha y).mono ?_
      rintro v w7 ⟨n, rfl, en, hnok, hA7, hx7, _, _⟩
      refine ⟨kept_upd hx7 fun q hq => ⟨by rcases hq with rfl | rfl <;> omega, id⟩, ?_⟩
      (repeat (first | ((first | refine pas_plain rfl ?_ | refine pas_g rfl rfl ?_ | refine act_plain rfl ?_ | refine act_g rfl rfl ?_ | refine last_plain rfl ?_ | refine tail_plain rfl ?_ | refine tail_g rfl rfl ?_); (repeat simp only [push_cast, seval, -Nat.reduceSubDiff, cell_h, h0, h1, hcell, b1, b3, true_or, or_true, eq_self])) | (refine tail_fin ?_) | (refine sch_fin ?_)))
      have hx8 : Ext w' w7 := hx4.trans (hx5.trans (hxd.trans hx7))
      refine (like_c (s := s) (m := n) (hsok.attrs.rd.ext hx8) hnok.attrs.rd (by rw [es]; exact nd_few ha i) (by rw [en]; exact nd_few ha y)).mono ?_
      rintro v w8 ⟨rfl, hx9⟩
      have hs7 := hx7.alike.size
      refine ⟨kept_upd hx9 fun q hq => ⟨by rcases hq with rfl | rfl <;> omega, id⟩, ?_⟩
      (repeat (first | ((first | refine pas_plain rfl ?_ | refine pas_g rfl rfl ?_ | refine act_plain rfl ?_ | refine act_g rfl rfl ?_ | refine last_plain rfl ?_ | refine tail_plain rfl ?_ | refine tail_g rfl rfl ?_); (repeat simp only [push_cast, seval, -Nat.reduceSubDiff, cell_h, h0, h1, hcell, b1, b3, true_or, or_true, eq_self])) | (refine tail_fin ?_) | (refine sch_fin ?_)))
      have hx10 := hx4.trans (hx5.trans (hxd.trans (hx7.trans hx9)))
      have ep : likeN s.nd n.nd = likeP L i y := by rw [es, en]; rfl
      rw [ep]
      cases hp : likeP L i y with
      | true =>
        rw [if_pos hp] at q3
        (repeat first|(with_reducible first|(refine hK _ _ ?_;clear hK K)|refine ‹∀σ w,_→K σ w› _ _ ?_|(refine W_st ?_;constructor;try intro K hK))|((with_reducible first|refine hZ _ _ ?_|refine W_rg ?_|skip);repeat1' simp only[push_cast,seval,-Nat.reduceSubDiff,b2,b4])|((repeat((fail_if_success with_reducible refine hK _ _ ?_);clear hK K));with_reducible refine hK _ _ ?_;clear hK K))
        refine ⟨(k, k, m + 1), by simp, ?_⟩
        (repeat simp only [push_cast, seval, -Nat.reduceSubDiff])
        exact ⟨by omega, by omega, q3, hx10⟩
      | false =>
        rw [if_neg (by rw [hp]; decide)] at q3
        (repeat first|(with_reducible first|(refine hK _ _ ?_;clear hK K)|refine ‹∀σ w,_→K σ w› _ _ ?_|(refine W_st ?_;constructor;try intro K hK))|((with_reducible first|refine hZ _ _ ?_|refine W_rg ?_|skip);repeat1' simp only[push_cast,seval,-Nat.reduceSubDiff,b2])|((repeat((fail_if_success with_reducible refine hK _ _ ?_);clear hK K));with_reducible refine hK _ _ ?_;clear hK K))
        refine ⟨(k, f, m), by simp, ?_⟩
        (repeat simp only [push_cast, seval, -Nat.reduceSubDiff])
        exact ⟨by omega, by omega, q3, hx10⟩
    · rw [pushG_done _ _ _ _ _ _ hko] at q3
      rw [q3] at hD
      have hgr := pushG_rng (likeP L i) l (openN l) l.length 0 0 (Nat.le_refl _) (.inl rfl)
      rw [hG, q3] at hgr
      dsimp only at hgr
      (repeat first|(with_reducible first|(refine hK _ _ ?_;clear hK K)|refine ‹∀σ w,_→K σ w› _ _ ?_|(refine W_st ?_;constructor;try intro K hK))|((with_reducible first|refine hZ _ _ ?_|refine W_rg ?_|skip);repeat1' simp only[push_cast,seval,-Nat.reduceSubDiff])|((repeat((fail_if_success with_reducible refine hK _ _ ?_);clear hK K));with_reducible refine hK _ _ ?_;clear hK K))
      refine (open_c hF4 (by omega)).mono ?_
      rintro v w5 ⟨rfl, hx5⟩
      have hx6 : Ext w' w5 := hx4.trans hx5
      have hx7 : Ext w2 w5 := hx3.trans hx6
      have hx8 : Ext w w5 := hx.trans hx7
      have hF6 := hF.ext hx7
      have hs := hx7.alike.size
      have h1 := hF6.c1
      by_cases hm3 : 3 ≤ m
      · have b0 : (3 : Int) ≤ (m : Int) := by omega
        have hfl : f < l.length := by omega
        have b1 : inI64 ((f : Int) + 1) := by unfold inI64; omega
        have e : dropN l (f, m) = l.eraseIdx f := if_pos hm3
        rw [e] at hD
        (repeat first|(with_reducible first|(refine hK _ _ ?_;clear hK K)|refine ‹∀σ w,_→K σ w› _ _ ?_|(refine W_st ?_;constructor;try intro K hK))|((with_reducible first|refine hZ _ _ ?_|refine W_rg ?_|skip);repeat1' simp only[push_cast,seval,-Nat.reduceSubDiff,hko,b0,h1,b1])|((repeat((fail_if_success with_reducible refine hK _ _ ?_);clear hK K));with_reducible refine hK _ _ ?_;clear hK K))
        refine (delete_c hF6.sl (by omega) f hfl).mono ?_
        rintro v w9 ⟨g1, g2⟩
        obtain ⟨k1, k2, k3⟩ := ls_put hF6 (hA.pass hx7) hpl hbo hQ (fun b hb => by have := hQl b hb; omega) g1 g2 (fun b hb => .inl hb)
        obtain ⟨va, vn, vc, rfl, _, _⟩ := g1.len
        rw [hD] at k2
        have hle : D.length < 10000 := by rw [← hD, List.length_eraseIdx]; split <;> omega
        have k4 := k2
        obtain ⟨lv2, bo2, hG, _⟩ := k4
        obtain ⟨a2, c2, rfl, _⟩ := hG.sl.ints_len
        have h4 := hG.c1
        (repeat first|(with_reducible first|(refine hK _ _ ?_;clear hK K)|refine ‹∀σ w,_→K σ w› _ _ ?_|(refine W_st ?_;constructor;try intro K hK))|((with_reducible first|refine hZ _ _ ?_|refine W_rg ?_|skip);repeat1' simp only[push_cast,seval,-Nat.reduceSubDiff,k1,h4])|((repeat((fail_if_success with_reducible refine hK _ _ ?_);clear hK K));with_reducible refine hK _ _ ?_;clear hK K))
        refine (lay_c k2 hle D.length (Nat.le_refl _) i).mono ?_
        rintro v w11 ⟨rfl, k5, k6⟩
        (repeat first|(with_reducible first|(refine hK _ _ ?_;clear hK K)|refine ‹∀σ w,_→K σ w› _ _ ?_|(refine W_st ?_;constructor;try intro K hK))|((with_reducible first|refine hZ _ _ ?_|refine W_rg ?_|skip);repeat1' simp only[push_cast,seval,-Nat.reduceSubDiff])|((repeat((fail_if_success with_reducible refine hK _ _ ?_);clear hK K));with_reducible refine hK _ _ ?_;clear hK K))
        exact ⟨k5, Upd.trans hx8.upd (Upd.trans k3 k6 fun _ _ h => h) fun _ _ h => h⟩
      · have b0 : ¬ (3 : Int) ≤ (m : Int) := by omega
        have e : dropN l (f, m) = l := if_neg hm3
        rw [e] at hD
        subst hD
        obtain ⟨a2, c2, rfl, _⟩ := hF6.sl.ints_len
        (repeat first|(with_reducible first|(refine hK _ _ ?_;clear hK K)|refine ‹∀σ w,_→K σ w› _ _ ?_|(refine W_st ?_;constructor;try intro K hK))|((with_reducible first|refine hZ _ _ ?_|refine W_rg ?_|skip);repeat1' simp only[push_cast,seval,-Nat.reduceSubDiff,hko,b0,h1])|((repeat((fail_if_success with_reducible refine hK _ _ ?_);clear hK K));with_reducible refine hK _ _ ?_;clear hK K))
        refine (lay_c (h.pass hx8) hl l.length (Nat.le_refl _) i).mono ?_
        rintro v w11 ⟨rfl, k5, k6⟩
        (repeat first|(with_reducible first|(refine hK _ _ ?_;clear hK K)|refine ‹∀σ w,_→K σ w› _ _ ?_|(refine W_st ?_;constructor;try intro K hK))|((with_reducible first|refine hZ _ _ ?_|refine W_rg ?_|skip);repeat1' simp only[push_cast,seval,-Nat.reduceSubDiff])|((repeat((fail_if_success with_reducible refine hK _ _ ?_);clear hK K));with_reducible refine hK _ _ ?_;clear hK K))
        exact ⟨k5, Upd.trans hx8.upd k6 fun _ _ h => h⟩
  · rw [if_neg hk]
    rw [if_neg hk] at hm
    refine Gives.of_W Tryz.call22 Tryz.func22 rfl Tryz.ntmps22 (by simp) ?_; intro Z hZ
    (repeat first|(with_reducible first|(refine hK _ _ ?_;clear hK K)|refine ‹∀σ w,_→K σ w› _ _ ?_|(refine W_st ?_;constructor;try intro K hK))|((with_reducible first|refine hZ _ _ ?_|refine W_rg ?_|skip);repeat1' simp only[push_cast,seval,-Nat.reduceSubDiff])|((repeat((fail_if_success with_reducible refine hK _ _ ?_);clear hK K));with_reducible refine hK _ _ ?_;clear hK K))
    refine hm.mono ?_
    rintro v w2 ⟨rfl, hx⟩
    (repeat first|(with_reducible first|(refine hK _ _ ?_;clear hK K)|refine ‹∀σ w,_→K σ w› _ _ ?_|(refine W_st ?_;constructor;try intro K hK))|((with_reducible first|refine hZ _ _ ?_|refine W_rg ?_|skip);repeat1' simp only[push_cast,seval,-Nat.reduceSubDiff,not_false_eq_true])|((repeat((fail_if_success with_reducible refine hK _ _ ?_);clear hK K));with_reducible refine hK _ _ ?_;clear hK K))
    exact ⟨h.pass hx, hx.upd⟩
end
end Go.Proofs.YtgnnlaeikcnhcaaGreatDoor
end
section
set_option linter.unusedSimpArgs false
set_option linter.unusedVariables false
namespace Go.Vk
open Go
theorem zeroCells_all {z : Array Value} {n : Nat} (ho : z.toList.all oneCell = true) : (Builtin.zeroCells z n).toList.all oneCell = true := by
  rw [List.all_eq_true] at ho ⊢
  intro v hv
  unfold Builtin.zeroCells at hv
  simp only [Array.toList_map, List.mem_map, Array.toList_range, List.mem_range] at hv
  obtain ⟨i, hi, rfl⟩ := hv
  have hp : 0 < z.size := by
    apply Classical.byContradiction
    intro h
    have : z.size = 0 := by omega
    rw [this] at hi; omega
  have hlt : i % z.size < z.size := Nat.mod_lt _ hp
  rw [getElem!_pos z (i % z.size) hlt]
  exact ho _ (by simp)
theorem app_zerosW {P : Program} {t e t3 ty : Nat} {k0 : IntKind} {es : Nat} (hes : 0 < es) (hT : STy P t e es) (h3 : P.underlying t3 = some (.int k0)) {z : Value} (hz : ∀ w, (zeroValue e).run P w = .ok z w) (hz1 : z.cells.size = es) (ho : z.cells.toList.all oneCell = true)
    {w : World} {s : Value} {c1 : List Value} {b1 : Option Nat} (h1 : SlAt w es s c1 b1) {n : Nat} {m : Int} (hm : m = n) (hl : c1.length + n * es ≤ 1000000) {K : Value → World → Prop}
    (h : ∀ v w' bo, SlAt w' es v (c1 ++ (Builtin.zeroCells z.cells n).toList) bo → Upd (fun b => b1 = some b) w w' → (∀ b, bo = some b → b1 = some b ∨ w.heap.size ≤ b) → (∀ a n1 c, s = .slice a n1 c → c < n1 + n → Ext w w' ∧ (∀ b, bo = some b → w.heap.size ≤ b) ∧ ∃ b o c', v = .slice (some ⟨b, o, none⟩) (n1 + n) c') → K v w') :
    RunV P (Builtin.append_ #[t, t3] ty #[s, .int .i64 m]) w K := by
  subst hm
  obtain ⟨a1, n1, k1, rfl, hk1, hc1⟩ := h1.len
  have hzl : (Builtin.zeroCells z.cells n).toList.length = n * es := by rw [Array.length_toList, zeroCells_size, hz1]
  have hzo := zeroCells_all (n := n) ho
  have hnn : n ≤ n * es := Nat.le_mul_of_pos_right _ hes
  have hn1 : n1 ≤ n1 * es := Nat.le_mul_of_pos_right _ hes
  have hf1 := firstCells_run (P := P) h1 hc1
  have hw : IntKind.i64.wrap (n : Int) = n := wrap_in (by unfold inI64; omega)
  have hneg : ¬ (n : Int) < 0 := by omega
  obtain ⟨i, hi, hi1, hi2⟩ := hT.bytes w
  have hbig : ¬ ((n : Int) * (i.bytes : Int) > 2 ^ 48) := by
    have : n * i.bytes ≤ 1000000 * 1024 := Nat.mul_le_mul (by omega) hi2
    rw [← Int.natCast_mul]; omega
  have happ : ∀ w : World, (if n * es = 0 then (pure #[] : Sem (Array Value)) else do pure (Builtin.zeroCells (← zeroValue e).cells n)).run P w = .ok (Builtin.zeroCells z.cells n) w := by
    intro w
    by_cases h0 : n = 0
    · subst h0
      have : Builtin.zeroCells z.cells 0 = #[] := Array.eq_empty_of_size_eq_zero (by rw [zeroCells_size]; omega)
      simp [Sem.run, this]
    · rw [if_neg (by intro h; rcases Nat.mul_eq_zero.1 h with h | h <;> omega)]
      simp [hz w]
  by_cases hfits : n1 + n ≤ k1
  · have key : ∃ w', (Builtin.append_ #[t, t3] ty #[.slice a1 n1 k1, .int .i64 (n : Int)]).run P w = .ok (.slice a1 (n1 + n) k1) w' ∧ SlAt w' es (.slice a1 (n1 + n) k1) (c1 ++ (Builtin.zeroCells z.cells n).toList) b1 ∧ Upd (fun b => b1 = some b) w w' := by
      rcases h1 with ⟨rfl, hv, rfl⟩ | ⟨b, o, m, c, cs, tt, rfl, hv, g3, g4, g5, g6, g7⟩
      · cases hv
        have hn2 : n = 0 := by omega
        subst hn2
        have hz0 : (Builtin.zeroCells z.cells 0).toList = [] := List.length_eq_zero_iff.1 (by rw [hzl]; omega)
        refine ⟨w, ?_, .inl ⟨rfl, rfl, by rw [hz0]; rfl⟩, .refl _ _⟩
        have hh := happ w
        simp only [Builtin.append_, List.getElem?_toArray, List.getElem?_cons_zero, List.getElem?_cons_succ, Sem.run_bind, Sem.run_pure, Result.andThen_ok, run_underlying hT.und, run_underlying h3, hT.size, asInt, asIntOf,
          hi, hw, hneg, hbig, if_false, if_true, hfits, Bool.not_true, hh, Bool.false_eq_true, Int.toNat_natCast]
      · cases hv
        have hin : n1 * es + n * es ≤ k1 * es := by rw [← Nat.add_mul]; exact Nat.mul_le_mul_right _ hfits
        have hst := run_storeCells (P := P) (a := ⟨b, o + n1 * es, none⟩) (Builtin.zeroCells z.cells n).toList 0 w hzo (fun j _ hj => by rw [add_mk]; exact g5.can (by omega))
        refine ⟨setCells w ⟨b, o + n1 * es, none⟩ (Builtin.zeroCells z.cells n).toList 0, ?_, .inr ⟨b, o, n1 + n, k1, ovw cs (o + n1 * es) (Builtin.zeroCells z.cells n).toList, tt, rfl, rfl, hfits, by rw [List.length_append, hc1, hzl, Nat.add_mul], g5.sets _ (o + n1 * es) 0, by rw [ovw_size]; exact g6, ?_⟩,
          Upd.setCells (F := fun i => some b = some i) (a := ⟨b, o + n1 * es, none⟩) w rfl _ 0⟩
        · have hh := happ w
          simp only [Builtin.append_, List.getElem?_toArray, List.getElem?_cons_zero, List.getElem?_cons_succ, Sem.run_bind, Sem.run_pure, Result.andThen_ok, run_underlying hT.und, run_underlying h3, hT.size, asInt, asIntOf,
            hi, hw, hneg, hbig, if_false, if_true, hfits, Bool.not_true, hh, Bool.false_eq_true, Int.toNat_natCast, add_mk, hst]
        · intro i hi
          rw [List.length_append] at hi
          by_cases hlt : i < c1.length
          · rw [ovw_out _ _ _ _ (by omega), g7 i hlt, List.getElem?_append_left hlt]
          · rw [List.getElem?_append_right (by omega)]
            have := ovw_in (Builtin.zeroCells z.cells n).toList cs (o + n1 * es) (i - c1.length) (by omega) (by omega)
            rw [show o + n1 * es + (i - c1.length) = o + i by omega] at this
            exact this
    obtain ⟨w', hr, hS, hU⟩ := key
    exact .of hr (h _ _ _ hS hU (fun b hb => .inl hb) fun a n1 c e hlt => by cases e; omega)
  · have hcap := nextcap_le (need := n1 + n) (old := k1) (by omega)
    obtain ⟨i', hi', _, _⟩ := hT.bytes w.drew
    have hii : i' = i := by
      have e1 : (typeInfo e).run P w.drew = (match (typeInfo e).run P w with | .ok x _ => .ok x w.drew | .halt h _ => .halt h w.drew) := by
        simp only [typeInfo, program, Sem.run_bind, Sem.run, Result.andThen_ok]
        cases P.info? e <;> simp [stuck, Sem.run]
      rw [hi] at e1
      rw [hi'] at e1
      cases e1; rfl
    subst hii
    have hbytes : ¬ (Builtin.nextslicecap (n1 + n) k1 * i'.bytes > 2 ^ 48) := by
      have : Builtin.nextslicecap (n1 + n) k1 * i'.bytes ≤ (2 * (n1 + n) + 1000) * 1024 := Nat.mul_le_mul hcap hi2
      omega
    have hmax : ¬ (((n1 + n : Nat) : Int) > IntKind.i64.max) := by
      simp [IntKind.max, IntKind.bits, IntKind.signed]; omega
    have h1' : SlAt w.drew es (.slice a1 n1 k1) c1 b1 := h1.ext (Ext.drew w)
    have hf1' := firstCells_run (P := P) (n := n1) h1' hc1
    have hroom : ∀ (n : Nat) (w : World), (askRoom n).run P w = .ok () w := by
      intro n w; unfold askRoom; split <;> simp [mark, Sem.run]
    let nc := (Question.appendCap (n1 + n) k1 e).cut (w.tape w.drawn (.appendCap (n1 + n) k1 e))
    have hnc : n1 + n ≤ nc := by simp only [nc, Question.cut]; omega
    have hch : (choose (.appendCap (n1 + n) k1 e)).run P w = .ok nc w.drew := rfl
    have hh := happ w.drew
    have hr : (Builtin.append_ #[t, t3] ty #[.slice a1 n1 k1, .int .i64 (n : Int)]).run P w =
        .ok (.slice (some ⟨w.heap.size, 0, none⟩) (n1 + n) nc) (w.drew.alloc (.cells (c1.toArray ++ Builtin.zeroCells z.cells n ++ Builtin.zeroCells z.cells (nc - (n1 + n))) e)) := by
      simp only [Builtin.append_, List.getElem?_toArray, List.getElem?_cons_zero, List.getElem?_cons_succ, Sem.run_bind, Sem.run_pure, Result.andThen_ok, run_underlying hT.und, run_underlying h3, hT.size, asInt, asIntOf,
        hi, hw, hneg, hbig, if_false, if_true, hfits, hmax, false_and, hbytes, hch, hroom, hi', hf1', Bool.not_true, hh, hz, newRow, newObj, Bool.false_eq_true, Int.toNat_natCast]
      simp [Sem.run, World.alloc_eq]
      rfl
    refine .of hr (h _ _ _ ?_ ((Ext.drew w).trans (Ext.alloc _ _)).upd (fun b hb => .inr (Nat.le_of_eq (Option.some.inj hb))) fun a n1 c e _ => ⟨(Ext.drew w).trans (Ext.alloc _ _), fun b hb => Nat.le_of_eq (Option.some.inj hb), by cases e; exact ⟨_, _, _, rfl⟩⟩)
    refine .inr ⟨w.heap.size, 0, n1 + n, nc, _, e, rfl, rfl, hnc, by rw [List.length_append, hc1, hzl, Nat.add_mul], .of (heap_alloc_new' w.drew _), ?_, ?_⟩
    · simp only [Array.size_append, List.size_toArray, zeroCells_size, hz1, hc1]
      rw [← Nat.add_mul, ← Nat.add_mul, Nat.zero_add]
      exact Nat.mul_le_mul_right _ (by omega)
    · intro j hj
      have hj2 : j < (c1.toArray ++ Builtin.zeroCells z.cells n).size := by
        simp only [List.length_append, hzl] at hj
        simp only [Array.size_append, List.size_toArray, zeroCells_size, hz1]; exact hj
      rw [Nat.zero_add, Array.getElem?_append_left hj2]
      have : c1.toArray ++ Builtin.zeroCells z.cells n = (c1 ++ (Builtin.zeroCells z.cells n).toList).toArray := by simp
      rw [this, List.getElem?_toArray]
theorem firstCells_takeW {P : Program} {w : World} {es n m c n' c' : Nat} {a : Option Addr} {cells : List Value} (h : RdAt w es (.slice a n c) cells) (hm : m * es ≤ cells.length) :
    (Builtin.firstCells es m (.slice a n' c')).run P w = .ok (cells.take (m * es)).toArray w := by
  obtain ⟨a', n0, c0, e, _, _, h4⟩ := h
  cases e
  cases a with
  | none =>
    have : cells = [] := by
      cases cells with
      | nil => rfl
      | cons x r => obtain ⟨b, o, e, _⟩ := h4 0 x rfl; cases e
    subst this
    simp [Builtin.firstCells]
  | some a =>
    have hc : cellsAt w a (cells.take (m * es)) := by
      intro i v hv
      have hi : cells[i]? = some v := by
        rw [List.getElem?_take] at hv
        split at hv
        · exact hv
        · cases hv
      obtain ⟨b, o, e, h5⟩ := h4 i v hi
      cases e
      rw [add_mk]; exact h5
    have hr := run_loadCells (P := P) hc
    rw [List.length_take, Nat.min_eq_left hm] at hr
    simpa [Builtin.firstCells] using hr
theorem copy_W {P : Program} {t e es ty t2 : Nat} (hT : P.underlying t = some (.slice e)) (hs : ∀ w, (sizeOf e).run P w = .ok es w) {w : World} {b o n c : Nat} {a2 : Option Addr} {n2 k2 : Nat} {c2 : List Value} {k : Nat}
    (h2 : RdAt w es (.slice a2 n2 k2) c2) (ho : (c2.take (k * es)).all oneCell = true) (hk : k = min n2 n) (hc : ∀ j, j < k * es → canStore w ⟨b, o + j, none⟩) {K : Value → World → Prop}
    (h : K (.int .i64 (k : Int)) (setCells w ⟨b, o, none⟩ (c2.take (k * es)) 0)) : RunV P (Builtin.copy_ #[t, t2] ty #[.slice (some ⟨b, o, none⟩) n c, .slice a2 n2 k2]) w K := by
  have h2' := h2
  obtain ⟨a2', n2', k2', e0, hk2, hc2, _⟩ := h2'
  cases e0
  have hle : k * es ≤ n2 * es := Nat.mul_le_mul_right _ (by omega)
  have hf2 := firstCells_takeW (P := P) (m := k) (n' := n2) (c' := k2) h2 (by omega)
  have hst := run_storeCells (P := P) (a := ⟨b, o, none⟩) (c2.take (k * es)) 0 w ho (fun j _ hj => by rw [add_mk]; exact hc j (by rw [List.length_take] at hj; omega))
  refine .of (w' := setCells w ⟨b, o, none⟩ (c2.take (k * es)) 0) ?_ h
  have hm : Nat.min n2 n = k := hk.symm
  simp [Builtin.copy_, run_underlying hT, hs, Builtin.lenOf, hm, hf2, hst, goInt]
theorem clear_W {P : Program} {t e es ty : Nat} (hT : P.underlying t = some (.slice e)) {z : Value} (hz : ∀ w, (zeroValue e).run P w = .ok z w) (hz1 : z.cells.size = es) (ho : z.cells.toList.all oneCell = true) {w : World} {b o n c : Nat}
    (hc : ∀ j, j < n * es → canStore w ⟨b, o + j, none⟩) {K : Value → World → Prop} (h : K (.tuple #[]) (setCells w ⟨b, o, none⟩ (Builtin.zeroCells z.cells n).toList 0)) : RunV P (Builtin.clear_ #[t] ty #[.slice (some ⟨b, o, none⟩) n c]) w K := by
  refine .of (w' := setCells w ⟨b, o, none⟩ (Builtin.zeroCells z.cells n).toList 0) ?_ h
  have hzl : (Builtin.zeroCells z.cells n).toList.length = n * es := by rw [Array.length_toList, zeroCells_size, hz1]
  cases n with
  | zero =>
    have : (Builtin.zeroCells z.cells 0).toList = [] := List.length_eq_zero_iff.1 (by rw [hzl]; omega)
    rw [this]
    simp [Builtin.clear_, run_underlying hT, setCells]
  | succ n =>
    have hst := run_storeCells (P := P) (a := ⟨b, o, none⟩) (Builtin.zeroCells z.cells (n + 1)).toList 0 w (zeroCells_all ho) (fun j _ hj => by rw [add_mk]; exact hc j (by omega))
    simp [Builtin.clear_, run_underlying hT, hz, hst]
theorem SlAt.canW {w : World} {es b o n c : Nat} {cells : List Value} {bo : Option Nat} (h : SlAt w es (.slice (some ⟨b, o, none⟩) n c) cells bo) {q : Nat} (hq : q < c * es) : canStore w ⟨b, o + q, none⟩ := by
  obtain ⟨g1, g3, g4, cs, t, g5, g6, g7⟩ := h.inv
  exact g5.can (by omega)
theorem SlAt.partW {w : World} {es b o n c : Nat} {cells : List Value} {bo : Option Nat} (h : SlAt w es (.slice (some ⟨b, o, none⟩) n c) cells bo) {l k m : Nat} (h1 : l ≤ k) (h2 : k ≤ n) (h3 : k ≤ m) (h4 : m ≤ c) :
    SlAt w es (.slice (if m = l then some ⟨b, o, none⟩ else Option.map (fun x : Addr => x.add (l * es)) (some ⟨b, o, none⟩)) (k - l) (m - l)) ((cells.drop (l * es)).take ((k - l) * es)) bo := by
  have hp := h.part (l := l) (k := k) (m := m) h1 h2 h3 h4
  by_cases e : m = l
  · rw [if_pos e]
    have e1 : k - l = 0 := by omega
    have e2 : m - l = 0 := by omega
    obtain ⟨g1, g3, g4, cs, t, g5, g6, g7⟩ := h.inv
    rw [e1, e2]
    refine .inr ⟨b, o, 0, 0, cs, t, g1, rfl, Nat.le_refl _, by simp, g5, by omega, fun i hi => by simp at hi⟩
  · rw [if_neg e, Option.map_some, add_mk]; exact hp
theorem SlAt.writeW {w : World} {es b o n c : Nat} {cells : List Value} {bo : Option Nat} (h : SlAt w es (.slice (some ⟨b, o, none⟩) n c) cells bo) {q : Nat} (xs : List Value) (hq : q + xs.length ≤ n * es) :
    SlAt (setCells w ⟨b, o + q, none⟩ xs 0) es (.slice (some ⟨b, o, none⟩) n c) (cells.take q ++ xs ++ cells.drop (q + xs.length)) bo := by
  obtain ⟨g1, g3, g4, cs, t, g5, g6, g7⟩ := h.inv
  have hnc : n * es ≤ c * es := Nat.mul_le_mul_right _ g3
  refine .inr ⟨b, o, n, c, ovw cs (o + q + 0) xs, t, g1, rfl, g3, by simp; omega, g5.sets xs (o + q) 0, by rw [ovw_size]; exact g6, fun i hi => ?_⟩
  have hlen : i < n * es := by simp at hi; omega
  rw [Nat.add_zero]
  have hqt : (cells.take q).length = q := by rw [List.length_take]; omega
  by_cases h1 : i < q
  · rw [ovw_out _ _ _ _ (.inl (by omega)), g7 i (by omega), List.append_assoc, List.getElem?_append_left (by omega), List.getElem?_take, if_pos h1]
  · by_cases h2 : i < q + xs.length
    · have := ovw_in xs cs (o + q) (i - q) (by omega) (by omega)
      rw [show o + q + (i - q) = o + i by omega] at this
      rw [this, List.getElem?_append_left (by rw [List.length_append]; omega), List.getElem?_append_right (by omega), hqt]
    · rw [ovw_out _ _ _ _ (.inr (by omega)), g7 i (by omega), List.getElem?_append_right (by rw [List.length_append]; omega), List.getElem?_drop, List.length_append, hqt, show q + xs.length + (i - (q + xs.length)) = i by omega]
/-- one element more of what a slice has room for -/
theorem SlAt.longerW {w : World} {es b o n c : Nat} {cells : List Value} {bo : Option Nat} (h : SlAt w es (.slice (some ⟨b, o, none⟩) n c) cells bo) (hc : n + 1 ≤ c) : ∃ us : List Value, us.length = es ∧ SlAt w es (.slice (some ⟨b, o, none⟩) (n + 1) c) (cells ++ us) bo := by
  obtain ⟨g1, g3, g4, cs, t, g5, g6, g7⟩ := h.inv
  have hmul : (n + 1) * es ≤ c * es := Nat.mul_le_mul_right _ hc
  rw [Nat.add_mul, Nat.one_mul] at hmul
  have hlen : ((cs.toList.drop (o + n * es)).take es).length = es := by
    simp only [List.length_take, List.length_drop, Array.length_toList]; omega
  refine ⟨(cs.toList.drop (o + n * es)).take es, hlen, .inr ⟨b, o, n + 1, c, cs, t, g1, rfl, hc, by rw [List.length_append, hlen, g4, Nat.add_mul, Nat.one_mul], g5, g6, fun i hi => ?_⟩⟩
  rw [List.length_append, hlen] at hi
  by_cases h1 : i < cells.length
  · rw [g7 i h1, List.getElem?_append_left h1]
  · rw [List.getElem?_append_right (by omega), List.getElem?_take, if_pos (by omega), List.getElem?_drop, Array.getElem?_toList, show o + n * es + (i - cells.length) = o + i by omega]
theorem ins_growW (l X Z : List Value) (K E : Nat) (hk : K ≤ l.length) (hX : X.length = E) (hZ : l.length + E = K + Z.length) :
    ((l.take K ++ Z).take K ++ X ++ (l.take K ++ Z).drop (K + E)).take (K + E) ++ l.drop K ++ ((l.take K ++ Z).take K ++ X ++ (l.take K ++ Z).drop (K + E)).drop (K + E + (l.drop K).length) = l.take K ++ X ++ l.drop K := by
  have hlt : (l.take K).length = K := by rw [List.length_take]; omega
  have e1 : (l.take K ++ Z).take K = l.take K := by
    rw [List.take_append_of_le_length (by omega), List.take_take, Nat.min_self]
  rw [e1]
  have hl1 : (l.take K ++ X).length = K + E := by rw [List.length_append, hlt, hX]
  have e2 : (l.take K ++ X ++ (l.take K ++ Z).drop (K + E)).take (K + E) = l.take K ++ X := by
    rw [List.take_append_of_le_length (by omega), List.take_of_length_le (by omega)]
  have e3 : (l.take K ++ X ++ (l.take K ++ Z).drop (K + E)).drop (K + E + (l.drop K).length) = [] :=
    List.drop_eq_nil_of_le (by simp only [List.length_append, List.length_take, List.length_drop, hX]; omega)
  rw [e2, e3, List.append_nil]
theorem ins_hereW (l X U : List Value) (K E : Nat) (hk : K ≤ l.length) (hX : X.length = E) (hU : U.length = E) (hE : K + E ≤ l.length) :
    (((l ++ U).take (K + E) ++ l.drop K ++ (l ++ U).drop (K + E + (l.drop K).length)).take K ++ X ++ ((l ++ U).take (K + E) ++ l.drop K ++ (l ++ U).drop (K + E + (l.drop K).length)).drop (K + E)) = l.take K ++ X ++ l.drop K := by
  have e0 : (l ++ U).take (K + E) = l.take (K + E) := List.take_append_of_le_length hE
  have hlt : (l.take (K + E)).length = K + E := by rw [List.length_take]; omega
  have e3 : (l ++ U).drop (K + E + (l.drop K).length) = [] := List.drop_eq_nil_of_le (by simp only [List.length_append, List.length_drop]; omega)
  rw [e0, e3, List.append_nil]
  have e1 : (l.take (K + E) ++ l.drop K).take K = l.take K := by
    rw [List.take_append_of_le_length (by omega), List.take_take, Nat.min_eq_left (by omega)]
  have e2 : (l.take (K + E) ++ l.drop K).drop (K + E) = l.drop K := by
    rw [List.drop_append_of_le_length (by omega), List.drop_eq_nil_of_le (by omega), List.nil_append]
  rw [e1, e2]
end Go.Vk
end
section
set_option linter.unusedSimpArgs false
set_option linter.unusedVariables false
namespace Go.Vk
open Go
structure OpS where
  node : Int
  space : Int
  name : ByteArray
def OpS.cells (o : OpS) : List Value := [.int .i64 o.node, .int .i64 o.space, .string o.name]
def OpS.row (o : OpS) : Array Value := #[.int .i64 o.node, .int .i64 o.space, .string o.name]
theorem OpS.len3 (o : OpS) : o.cells.length = 3 := rfl
def opCells (l : List OpS) : List Value := l.flatMap OpS.cells
def zO : Value := .agg #[.int .i64 0, .int .i64 0, .string ⟨#[]⟩]
theorem opCells_length (l : List OpS) : (opCells l).length = l.length * 3 := by
  induction l with
  | nil => rfl
  | cons y l ih => simp only [opCells, List.flatMap_cons, List.length_append, List.length_cons] at ih ⊢; rw [ih]; simp [OpS.cells]; omega
theorem opCells_append (a b : List OpS) : opCells (a ++ b) = opCells a ++ opCells b := by simp [opCells]
theorem opCells_one (l : List OpS) : (opCells l).all oneCell = true := by simp [opCells, OpS.cells, oneCell]
theorem opCells_take : ∀ (l : List OpS) (k : Nat), (opCells l).take (k * 3) = opCells (l.take k)
  | [], k => by simp [opCells]
  | z :: l, 0 => by simp [opCells]
  | z :: l, k + 1 => by
    have e : opCells (z :: l) = [.int .i64 z.node, .int .i64 z.space, .string z.name] ++ opCells l := by simp [opCells, OpS.cells]
    rw [List.take_succ_cons, e, show (k + 1) * 3 = k * 3 + 1 + 1 + 1 by omega]
    simp only [List.cons_append, List.nil_append, List.take_succ_cons]
    rw [opCells_take l k]
    simp [opCells, OpS.cells]
theorem opCells_drop : ∀ (l : List OpS) (k : Nat), (opCells l).drop (k * 3) = opCells (l.drop k)
  | [], k => by simp [opCells]
  | z :: l, 0 => by simp
  | z :: l, k + 1 => by
    have e : opCells (z :: l) = [.int .i64 z.node, .int .i64 z.space, .string z.name] ++ opCells l := by simp [opCells, OpS.cells]
    rw [List.drop_succ_cons, e, show (k + 1) * 3 = k * 3 + 1 + 1 + 1 by omega]
    simp only [List.cons_append, List.nil_append, List.drop_succ_cons]
    exact opCells_drop l k
theorem opCells_ins (l : List OpS) (x : OpS) (k : Nat) : opCells (l.take k ++ x :: l.drop k) = (opCells l).take (k * 3) ++ x.cells ++ (opCells l).drop (k * 3) := by
  rw [opCells_take, opCells_drop]; simp [opCells]
theorem opCells_get : ∀ {l : List OpS} {i : Nat} {y : OpS}, l[i]? = some y → (opCells l)[i * 3]? = some (.int .i64 y.node) ∧ (opCells l)[i * 3 + 1]? = some (.int .i64 y.space) ∧ (opCells l)[i * 3 + 2]? = some (.string y.name)
  | [], i, y, h => by simp at h
  | z :: l, 0, y, h => by
    simp at h; subst h
    exact ⟨rfl, rfl, rfl⟩
  | z :: l, i + 1, y, h => by
    have := opCells_get (l := l) (i := i) (y := y) (by simpa using h)
    have e : opCells (z :: l) = [.int .i64 z.node, .int .i64 z.space, .string z.name] ++ opCells l := by simp [opCells, OpS.cells]
    rw [e, show (i + 1) * 3 = i * 3 + 1 + 1 + 1 by omega]
    exact this
theorem ops_ne {l : List OpS} {k : Nat} (h : k < l.length) : opCells l ≠ [] := fun e => by
  have := opCells_length l
  rw [e] at this; simp at this; omega
theorem ops_len {w : World} {v : Value} {l : List OpS} {bo : Option Nat} (h : SlAt w 3 v (opCells l) bo) : ∃ a c, v = .slice a l.length c ∧ l.length ≤ c := by
  obtain ⟨a, n, c, rfl, h1, h2⟩ := h.len
  rw [opCells_length] at h2
  obtain rfl : n = l.length := by omega
  exact ⟨a, c, rfl, h1⟩
theorem ops_cell {w : World} {v : Value} {l : List OpS} {bo : Option Nat} (h : SlAt w 3 v (opCells l) bo) {i : Nat} {y : OpS} (hy : l[i]? = some y) : ∃ b o c, v = .slice (some ⟨b, o, none⟩) l.length c ∧ bo = some b ∧ cellO (w.heap[b]?) (o + i * 3) = some (.int .i64 y.node) ∧ cellO (w.heap[b]?) (o + i * 3 + 1) = some (.int .i64 y.space) ∧ cellO (w.heap[b]?) (o + i * 3 + 2) = some (.string y.name) := by
  obtain ⟨a, c, rfl, h1⟩ := ops_len h
  obtain ⟨b, o, n', c', e, hb⟩ := h.some_of (ops_ne (List.getElem?_eq_some_iff.1 hy).1)
  cases e
  obtain ⟨g1, g2, g3⟩ := opCells_get hy
  refine ⟨b, o, c, rfl, hb, ?_, ?_, ?_⟩
  · rw [← cell_h]; exact h.get g1
  · rw [← cell_h, Nat.add_assoc]; exact h.get g2
  · rw [← cell_h, Nat.add_assoc]; exact h.get g3
end Go.Vk
namespace Go.Proofs.YtgnnlaeikcnhcaaGreatDoor
open Go Go.Vk
theorem styO : STy Tryz.prog 118 127 3 := ⟨Tryz.underlying118, fun w => by simp [Tryz.sizeOf127, Sem.run], fun w => ⟨_, by simp [Tryz.typeInfo127, Sem.run]; rfl, by decide, by decide⟩, fun w => ⟨_, by simp [Tryz.zeroValue127, Sem.run]; rfl, by decide⟩⟩
set_option maxHeartbeats 40000000
theorem overlaps_o {w : World} {va vb : Value} {a b : Addr} {la ca lb cb : Nat} (ea : va = .slice (some a) la ca) (eb : vb = .slice (some b) lb cb) (hne : a.block ≠ b.block) {tA tB : TypeId} {kA kB : Nat}
    (hsa : w.shape? a.block = some (tA, kA)) (hsb : w.shape? b.block = some (tB, kB)) (hkB : kB ≠ 0) (hfa : w.frozen? a = false) (hfe : w.frozen? { block := a.block, off := kA } = false) :
    Gives Tryz.prog 231 #[va, vb] w fun v w' => v = .bool false ∧ w' = w := by
  subst ea; subst eb
  refine Gives.of_ext (v := .bool false) (w' := w) ?_ ⟨rfl, rfl⟩
  rw [run_callFunc_extern Tryz.func231 (by kernel_rfl) (by kernel_rfl) (by kernel_rfl) (e := Extern.SlicesOverlaps.overlaps #[118, 118] #[4]) (by kernel_rfl),
    Lib.run_overlaps_apart w 118 4 127 Tryz.underlying118 3 (fun w => by simp [Tryz.sizeOf127, Sem.run]) a b la ca lb cb hne tA tB kA kB hsa hsb hkB hfa hfe]
  rfl
theorem delete_o {w : World} {v : Value} {l : List OpS} {bo : Option Nat} (h : SlAt w 3 v (opCells l) bo) (hl : l.length < 100000) (k : Nat) (hk : k < l.length) :
    Gives Tryz.prog 233 #[v, .int .i64 (k : Int), .int .i64 ((k : Int) + 1)] w fun u w' => SlAt w' 3 u (opCells (l.eraseIdx k)) bo ∧ Upd (fun b => bo = some b) w w' := by
  obtain ⟨b, o, n, c, rfl, hbo⟩ := h.some_of (ops_ne hk)
  obtain ⟨_, g3, g4, _⟩ := h.inv
  rw [opCells_length] at g4
  have g4 : l.length = n := by omega
  obtain ⟨N, hN⟩ : ∃ N, n = N + 1 := ⟨n - 1, by omega⟩
  subst hN
  have s1 : (0 : Int) ≤ k := by omega
  have s2 : (k : Int) ≤ c := by omega
  have s3 : (k : Int) + 1 ≤ (N : Int) + 1 := by omega
  have s4 : (N : Int) + 1 ≤ c := by omega
  have s5 : (0 : Int) ≤ (k : Int) + 1 := by omega
  have s7 : ((k : Int) + 1).toNat = k + 1 := by omega
  have s8 : (k : Int) + 1 ≤ c := by omega
  have s9 : (k : Int) ≤ (k : Int) + 1 := by omega
  have s10 : ((k : Int) = (k : Int) + 1) = False := eq_false (by omega)
  have s11 : (0 : Int) ≤ (N : Int) + 1 := by omega
  have s12 : ((N : Int) + 1).toNat = N + 1 := by omega
  have s13 : (k : Int) ≤ (N : Int) + 1 := by omega
  refine Gives.of_W Tryz.call233 Tryz.func233 rfl Tryz.ntmps233 (by simp) ?_; intro Z hZ
  (repeat first|(with_reducible first|(refine hK _ _ ?_;clear hK K)|refine ‹∀σ w,_→K σ w› _ _ ?_|(refine W_st ?_;constructor;try intro K hK))|((with_reducible first|refine hZ _ _ ?_|refine W_rg ?_|skip);repeat1' simp only[push_cast,seval,-Nat.reduceSubDiff,s1,s2,s3,s4,s5,s7,s8,s9,s10,s11,s12,s13,Int.le_refl])|((repeat((fail_if_success with_reducible refine hK _ _ ?_);clear hK K));with_reducible refine hK _ _ ?_;clear hK K))
  refine W_draw (.pas 0 (.pas 1 (.pas 2 (.pas 3 (.pas 4 (.pas 5 (.tail [6, 7]))))))) (fun _ => False) (by decide) mixed (by kernel_rfl) ?_
  (repeat (first | ((first | refine pas_plain rfl ?_ | refine pas_g rfl rfl ?_ | refine act_plain rfl ?_ | refine act_g rfl rfl ?_ | refine last_plain rfl ?_ | refine tail_plain rfl ?_ | refine tail_g rfl rfl ?_); (repeat simp only [push_cast, seval, -Nat.reduceSubDiff, s1, s2, s3, s4, s5, s7, s8, s9, s10, s11, s12, s13, Int.le_refl])) | (refine tail_fin ?_) | (refine sch_fin ?_)))
  have hd := h.ext (Ext.drew w)
  have x1 := hd.partW (l := 0) (k := k) (m := c) (by omega) (by omega) (by omega) (by omega)
  have x2 := hd.partW (l := k + 1) (k := N + 1) (m := c) (by omega) (by omega) (by omega) (by omega)
  rw [opCells_drop, opCells_take] at x1 x2
  refine app_in styO styO.und (by decide) (m := N + 1 - (k + 1)) x1 x2.rd (opCells_one _) (by rw [opCells_length, opCells_length]; simp; omega) (by rw [opCells_length]; simp; omega) (by omega) ?_
  intro w1 g1 g2
  have eA : (if c = 0 then some (⟨b, o, none⟩ : Addr) else Option.map (fun x : Addr => x.add (0 * 3)) (some ⟨b, o, none⟩)) = some ⟨b, o, none⟩ := by rw [if_neg (by omega)]; rfl
  have eN : k - 0 + (N + 1 - (k + 1)) = N := by omega
  rw [eA, eN, Nat.sub_zero, ← opCells_append] at g1
  rw [eA, eN, Nat.sub_zero, Nat.sub_zero]
  have eL : (l.drop 0).take k ++ (l.drop (k + 1)).take (N + 1 - (k + 1)) = l.eraseIdx k := by
    rw [List.eraseIdx_eq_take_drop_succ, List.drop_zero, List.take_of_length_le (l := l.drop (k + 1)) (by simp; omega)]
  rw [List.drop_zero] at eL g1
  rw [Nat.sub_zero, eL] at g1
  have s20 : (0 : Int) ≤ (N : Int) := by omega
  have s21 : (N : Int) ≤ (N : Int) + 1 := by omega
  have s22 : (c = N) = False := eq_false (by omega)
  have s23 : N + 1 - N = 1 := by omega
  (repeat (first | ((first | refine pas_plain rfl ?_ | refine pas_g rfl rfl ?_ | refine act_plain rfl ?_ | refine act_g rfl rfl ?_ | refine last_plain rfl ?_ | refine tail_plain rfl ?_ | refine tail_g rfl rfl ?_); (repeat simp only [push_cast, seval, -Nat.reduceSubDiff])) | (refine tail_fin ?_) | (refine sch_fin ?_)))
  (repeat first|(with_reducible first|(refine hK _ _ ?_;clear hK K)|refine ‹∀σ w,_→K σ w› _ _ ?_|(refine W_st ?_;constructor;try intro K hK))|((with_reducible first|refine hZ _ _ ?_|refine W_rg ?_|skip);repeat1' simp only[push_cast,seval,-Nat.reduceSubDiff,s4,s11,s12,s20,s21,s22,s23])|((repeat((fail_if_success with_reducible refine hK _ _ ?_);clear hK K));with_reducible refine hK _ _ ?_;clear hK K))
  rw [Option.map_some, add_mk]
  refine clear_W styO.und (es := 3) (z := zO) (fun w => by simp [zO, Tryz.zeroValue127, Sem.run]) rfl rfl (fun j hj => ?_) ?_
  · have := g1.canW (q := N * 3 + j) (by omega)
    rw [Nat.add_assoc]; exact this
  have hb1 : bo = some b := hbo
  have hlen : (opCells (l.eraseIdx k)).length = N * 3 := by rw [opCells_length, List.length_eraseIdx, if_pos hk]; congr 1; omega
  have g3 := g1.beyond (q := o + N * 3) (by omega) (Builtin.zeroCells zO.cells 1).toList
  have g4 : Upd (fun b => bo = some b) w (setCells w1 ⟨b, o + N * 3, none⟩ (Builtin.zeroCells zO.cells 1).toList 0) :=
    Upd.trans ((Ext.drew w).upd.trans g2 fun _ _ h => h) (Upd.setCells (F := fun b => bo = some b) (a := ⟨b, o + N * 3, none⟩) w1 hb1 _ 0) fun _ _ h => h
  (repeat first|(with_reducible first|(refine hK _ _ ?_;clear hK K)|refine ‹∀σ w,_→K σ w› _ _ ?_|(refine W_st ?_;constructor;try intro K hK))|((with_reducible first|refine hZ _ _ ?_|refine W_rg ?_|skip);repeat1' simp only[push_cast,seval,-Nat.reduceSubDiff])|((repeat((fail_if_success with_reducible refine hK _ _ ?_);clear hK K));with_reducible refine hK _ _ ?_;clear hK K))
  exact ⟨g3, g4⟩
theorem insert_o {w : World} {v : Value} {l : List OpS} {bo : Option Nat} (h : SlAt w 3 v (opCells l) bo) (hl : l.length < 100000) {bx : Nat} {x : OpS} (hx : w.heap[bx]? = some (.cells x.row 127 (0, 0))) (hne : bo ≠ some bx) (k : Nat) (hk : k ≤ l.length) :
    Gives Tryz.prog 198 #[v, .int .i64 (k : Int), .slice (some ⟨bx, 0, none⟩) 1 1] w fun u w' => ∃ bo', SlAt w' 3 u (opCells (l.take k ++ x :: l.drop k)) bo' ∧ Upd (fun b => bo = some b) w w' ∧ ∀ b, bo' = some b → bo = some b ∨ w.heap.size ≤ b := by
  have hxs : SlAt w 3 (.slice (some ⟨bx, 0, none⟩) 1 1) (opCells [x]) (some bx) := .inr ⟨bx, 0, 1, 1, _, _, rfl, rfl, Nat.le_refl _, rfl, .of hx, by simp [OpS.row], fun i hi => by
    rw [Nat.zero_add]; simp [opCells, OpS.cells, OpS.row]⟩
  obtain ⟨a, c, rfl, hc⟩ := ops_len h
  have s1 : (0 : Int) ≤ k := by omega
  have s2 : (k : Int) ≤ (l.length : Int) := by omega
  have s3 : (l.length : Int) ≤ c := by omega
  have s4 : (k : Int) ≤ c := by omega
  have s5 : ((1 : Int) = 0) = False := by decide
  by_cases hkl : k = l.length
  · subst hkl
    refine Gives.of_W Tryz.call198 Tryz.func198 rfl Tryz.ntmps198 (by simp) ?_; intro Z hZ
    (repeat first|(with_reducible first|(refine hK _ _ ?_;clear hK K)|refine ‹∀σ w,_→K σ w› _ _ ?_|(refine W_st ?_;constructor;try intro K hK))|((with_reducible first|refine hZ _ _ ?_|refine W_rg ?_|skip);repeat1' simp only[push_cast,seval,-Nat.reduceSubDiff,s1,s2,s3,s4,s5,Int.le_refl])|((repeat((fail_if_success with_reducible refine hK _ _ ?_);clear hK K));with_reducible refine hK _ _ ?_;clear hK K))
    refine app_to styO styO.und (by decide) h hxs (opCells_one _) (by rw [opCells_length, opCells_length]; simp; omega) ?_
    intro v' w' bo' g1 g2 g3
    rw [← opCells_append] at g1
    (repeat first|(with_reducible first|(refine hK _ _ ?_;clear hK K)|refine ‹∀σ w,_→K σ w› _ _ ?_|(refine W_st ?_;constructor;try intro K hK))|((with_reducible first|refine hZ _ _ ?_|refine W_rg ?_|skip);repeat1' simp only[push_cast,seval,-Nat.reduceSubDiff])|((repeat((fail_if_success with_reducible refine hK _ _ ?_);clear hK K));with_reducible refine hK _ _ ?_;clear hK K))
    rw [List.take_length, List.drop_length]
    exact ⟨bo', g1, g2, g3⟩
  · have hlt : k < l.length := by omega
    obtain ⟨b, o, n0, c0, e0, hbo⟩ := h.some_of (ops_ne hlt)
    cases e0
    obtain ⟨_, _, _, cs, ct, hHB, hcs, _⟩ := h.inv
    have hbx : b ≠ bx := fun e => hne (by rw [hbo, e])
    generalize hn : l.length = n at *
    have s6 : ((k : Int) = (n : Int)) = False := eq_false (by omega)
    have s7 : inI64 ((n : Int) + 1) := by unfold inI64; omega
    have s8 : inI64 ((n : Int) + 1 - k) := by unfold inI64; omega
    have s9 : inI64 ((k : Int) + 1) := by unfold inI64; omega
    have s10 : (0 : Int) ≤ (k : Int) + 1 := by omega
    have s11 : ((k : Int) + 1).toNat = k + 1 := by omega
    have s12 : (0 : Int) ≤ (n : Int) + 1 := by omega
    have s13 : ((n : Int) + 1).toNat = n + 1 := by omega
    have s14 : (k : Int) ≤ (n : Int) + 1 := by omega
    have s15 : (k : Int) + 1 ≤ (n : Int) + 1 := by omega
    by_cases hroom : n + 1 ≤ c
    · have r1 : ¬ (c : Int) < (n : Int) + 1 := by omega
      have r2 : (n : Int) + 1 ≤ c := by omega
      obtain ⟨u, hul, hu⟩ := h.longerW hroom
      refine Gives.of_W Tryz.call198 Tryz.func198 rfl Tryz.ntmps198 (by simp) ?_; intro Z hZ
      (repeat first|(with_reducible first|(refine hK _ _ ?_;clear hK K)|refine ‹∀σ w,_→K σ w› _ _ ?_|(refine W_st ?_;constructor;try intro K hK))|((with_reducible first|refine hZ _ _ ?_|refine W_rg ?_|skip);repeat1' simp only[push_cast,seval,-Nat.reduceSubDiff,s1,s2,s3,s4,s5,s6,s7,Int.le_refl])|((repeat((fail_if_success with_reducible refine hK _ _ ?_);clear hK K));with_reducible refine hK _ _ ?_;clear hK K))
      refine cap_part styO.und ?_
      have z0 : (c = 0) = False := eq_false (by omega)
      have z1 : (c = k) = False := eq_false (by omega)
      have z2 : (c = k + 1) = False := eq_false (by omega)
      have hHB' := hHB
      obtain ⟨f, hf, hbk⟩ := hHB'
      have hsb : w.shape? b = some (ct, cs.size) := by simp [World.shape?, hbk]
      have hsx : w.shape? bx = some (127, 3) := by simp [World.shape?, hx, OpS.row]
      have hfa : w.frozen? ⟨bx, 0, none⟩ = false := by rw [froz_h, hx]; rfl
      have hfe : w.frozen? ⟨bx, 3, none⟩ = false := by rw [froz_h, hx]; rfl
      (repeat first|(with_reducible first|(refine hK _ _ ?_;clear hK K)|refine ‹∀σ w,_→K σ w› _ _ ?_|(refine W_st ?_;constructor;try intro K hK))|((with_reducible first|refine hZ _ _ ?_|refine W_rg ?_|skip);repeat1' simp only[push_cast,seval,-Nat.reduceSubDiff,r1,r2,s7,s9,s10,s11,s12,s13,s14,s15,z0,z1,z2,Nat.sub_zero,Int.sub_zero,Option.map_some])|((repeat((fail_if_success with_reducible refine hK _ _ ?_);clear hK K));with_reducible refine hK _ _ ?_;clear hK K))
      refine (overlaps_o (a := ⟨bx, 0, none⟩) (b := ⟨b, o + (k + 1) * 3, none⟩) rfl rfl (fun e => hbx e.symm) hsx hsb (by omega) hfa hfe).mono ?_
      rintro v' w' ⟨rfl, rfl⟩
      (repeat first|(with_reducible first|(refine hK _ _ ?_;clear hK K)|refine ‹∀σ w,_→K σ w› _ _ ?_|(refine W_st ?_;constructor;try intro K hK))|((with_reducible first|refine hZ _ _ ?_|refine W_rg ?_|skip);repeat1' simp only[push_cast,seval,-Nat.reduceSubDiff,s9])|((repeat((fail_if_success with_reducible refine hK _ _ ?_);clear hK K));with_reducible refine hK _ _ ?_;clear hK K))
      refine W_draw (.pas 0 (.pas 1 (.pas 2 (.pas 3 (.pas 4 (.pas 5 (.pas 6 (.pas 7 (.tail [8]))))))))) (fun _ => False) (by decide) mixed (by kernel_rfl) ?_
      (repeat (first | ((first | refine pas_plain rfl ?_ | refine pas_g rfl rfl ?_ | refine act_plain rfl ?_ | refine act_g rfl rfl ?_ | refine last_plain rfl ?_ | refine tail_plain rfl ?_ | refine tail_g rfl rfl ?_); (repeat simp only [push_cast, seval, -Nat.reduceSubDiff, s1, s2, s3, s4, r2, s9, s10, s11, s12, s13, s14, s15, z0, z1, z2, Nat.sub_zero, Int.sub_zero, Option.map_some])) | (refine tail_fin ?_) | (refine sch_fin ?_)))
      have hLl : (opCells l).length = n * 3 := by rw [opCells_length, hn]
      have hud := hu.ext (Ext.drew w')
      have p1 := hud.part (l := k) (k := n + 1) (m := c) (by omega) (by omega) (by omega) (by omega)
      have hc2l : (((opCells l ++ u).drop (k * 3)).take ((n + 1 - k) * 3)).length = (n + 1 - k) * 3 := by
        simp only [List.length_take, List.length_drop, List.length_append, hul, hLl]; omega
      have e1 : (((opCells l ++ u).drop (k * 3)).take ((n + 1 - k) * 3)).take ((n - k) * 3) = (opCells l).drop (k * 3) := by
        rw [List.take_take, Nat.min_eq_left (by omega), List.drop_append_of_le_length (by omega), List.take_append_of_le_length (by rw [List.length_drop]; omega), List.take_of_length_le (by rw [List.length_drop]; omega)]
      have p2 : RdAt w'.drew 3 (.slice (some ⟨b, o + k * 3, none⟩) (n + 1 - k) (c - k)) (((opCells l ++ u).drop (k * 3)).take ((n + 1 - k) * 3)) := p1.rd
      refine copy_W styO.und (es := 3) (fun w => by simp [Tryz.sizeOf127, Sem.run]) (k := n - k) p2 (by rw [e1]; have := opCells_one l; rw [List.all_eq_true] at this ⊢; exact fun y hy => this y (List.mem_of_mem_drop hy)) (by omega) (fun q hq => ?_) ?_
      · have := hud.canW (q := (k + 1) * 3 + q) (by omega)
        rw [Nat.add_assoc]; exact this
      rw [e1]
      have hu1 := hud.writeW (q := (k + 1) * 3) ((opCells l).drop (k * 3)) (by rw [List.length_drop]; omega)
      have hbo' : bo = some b := hbo
      have up1 : Upd (fun b => bo = some b) w' (setCells w'.drew ⟨b, o + (k + 1) * 3, none⟩ ((opCells l).drop (k * 3)) 0) :=
        Upd.trans (Ext.drew w').upd (Upd.setCells (F := fun b => bo = some b) (a := ⟨b, o + (k + 1) * 3, none⟩) w'.drew hbo' _ 0) fun _ _ h => h
      have hxs1 := hxs.upd up1 fun q hq e => hne (by rw [e]; exact hq.symm ▸ rfl)
      generalize setCells w'.drew ⟨b, o + (k + 1) * 3, none⟩ ((opCells l).drop (k * 3)) 0 = w1 at *
      (repeat (first | ((first | refine pas_plain rfl ?_ | refine pas_g rfl rfl ?_ | refine act_plain rfl ?_ | refine act_g rfl rfl ?_ | refine last_plain rfl ?_ | refine tail_plain rfl ?_ | refine tail_g rfl rfl ?_); (repeat simp only [push_cast, seval, -Nat.reduceSubDiff])) | (refine tail_fin ?_) | (refine sch_fin ?_)))
      (repeat first|(with_reducible first|(refine hK _ _ ?_;clear hK K)|refine ‹∀σ w,_→K σ w› _ _ ?_|(refine W_st ?_;constructor;try intro K hK))|((with_reducible first|refine hZ _ _ ?_|refine W_rg ?_|skip);repeat1' simp only[push_cast,seval,-Nat.reduceSubDiff,s1,s2,s3,s4,r2,s14,s12,z0,z1,z2,Nat.sub_zero,Int.sub_zero,Option.map_some])|((repeat((fail_if_success with_reducible refine hK _ _ ?_);clear hK K));with_reducible refine hK _ _ ?_;clear hK K))
      refine copy_W styO.und (es := 3) (fun w => by simp [Tryz.sizeOf127, Sem.run]) (k := 1) hxs1.rd (by simp [opCells, OpS.cells, oneCell]) (by omega) (fun q hq => ?_) ?_
      · have := hu1.canW (q := k * 3 + q) (by omega)
        rw [Nat.add_assoc]; exact this
      have e3 : (opCells [x]).take (1 * 3) = x.cells := rfl
      rw [e3]
      have hu2 := hu1.writeW (q := k * 3) x.cells (by rw [x.len3]; omega)
      rw [x.len3, show (k + 1) * 3 = k * 3 + 3 by omega, ins_hereW (opCells l) x.cells u (k * 3) 3 (by omega) x.len3 hul (by omega)] at hu2
      have up2 : Upd (fun b => bo = some b) w' (setCells w1 ⟨b, o + k * 3, none⟩ x.cells 0) :=
        Upd.trans up1 (Upd.setCells (F := fun b => bo = some b) (a := ⟨b, o + k * 3, none⟩) w1 hbo' _ 0) fun _ _ h => h
      (repeat first|(with_reducible first|(refine hK _ _ ?_;clear hK K)|refine ‹∀σ w,_→K σ w› _ _ ?_|(refine W_st ?_;constructor;try intro K hK))|((with_reducible first|refine hZ _ _ ?_|refine W_rg ?_|skip);repeat1' simp only[push_cast,seval,-Nat.reduceSubDiff])|((repeat((fail_if_success with_reducible refine hK _ _ ?_);clear hK K));with_reducible refine hK _ _ ?_;clear hK K))
      exact ⟨bo, by rw [opCells_ins]; exact hu2, up2, fun b hb => .inl hb⟩
    · have r1 : (c : Int) < (n : Int) + 1 := by omega
      refine Gives.of_W Tryz.call198 Tryz.func198 rfl Tryz.ntmps198 (by simp) ?_; intro Z hZ
      (repeat first|(with_reducible first|(refine hK _ _ ?_;clear hK K)|refine ‹∀σ w,_→K σ w› _ _ ?_|(refine W_st ?_;constructor;try intro K hK))|((with_reducible first|refine hZ _ _ ?_|refine W_rg ?_|skip);repeat1' simp only[push_cast,seval,-Nat.reduceSubDiff,s1,s2,s3,s4,s5,s6,s7,Int.le_refl])|((repeat((fail_if_success with_reducible refine hK _ _ ?_);clear hK K));with_reducible refine hK _ _ ?_;clear hK K))
      refine cap_part styO.und ?_
      (repeat first|(with_reducible first|(refine hK _ _ ?_;clear hK K)|refine ‹∀σ w,_→K σ w› _ _ ?_|(refine W_st ?_;constructor;try intro K hK))|((with_reducible first|refine hZ _ _ ?_|refine W_rg ?_|skip);repeat1' simp only[push_cast,seval,-Nat.reduceSubDiff,r1,s1,s4,s7,s8])|((repeat((fail_if_success with_reducible refine hK _ _ ?_);clear hK K));with_reducible refine hK _ _ ?_;clear hK K))
      have hLl : (opCells l).length = n * 3 := by rw [opCells_length, hn]
      have x1 := h.partW (l := 0) (k := k) (m := c) (by omega) (by omega) (by omega) (by omega)
      rw [Nat.zero_mul, List.drop_zero, Nat.sub_zero] at x1
      refine app_zerosW (es := 3) (by decide) styO Tryz.underlying3 (z := zO) (fun w => by simp [zO, Tryz.zeroValue127, Sem.run]) rfl rfl x1 (n := n + 1 - k) (by omega) (by simp [hLl]; omega) ?_
      intro v1 w1 bo1 g1 g2 g3 g4
      obtain ⟨hx1, hf1, b1, o1, c1, rfl⟩ := g4 _ _ _ rfl (by omega)
      have eN : k - 0 + (n + 1 - k) = n + 1 := by omega
      rw [Nat.sub_zero] at eN
      rw [eN] at g1
      rw [Nat.sub_zero, eN]
      have hZl : (Builtin.zeroCells zO.cells (n + 1 - k)).toList.length = (n + 1 - k) * 3 := by rw [Array.length_toList, zeroCells_size]; rfl
      obtain ⟨hb1, hc1, _⟩ := g1.inv
      have t1 : (k : Int) ≤ c1 := by omega
      have t2 : (c1 = k) = False := eq_false (by omega)
      have t3 : (c1 = k + 1) = False := eq_false (by omega)
      have t4 : (n : Int) + 1 ≤ c1 := by omega
      have t5 : (c = k) = False := eq_false (by omega)
      have hxs1 := hxs.ext hx1
      have hh1 := h.ext hx1
      have hfr := hf1 b1 hb1
      (repeat first|(with_reducible first|(refine hK _ _ ?_;clear hK K)|refine ‹∀σ w,_→K σ w› _ _ ?_|(refine W_st ?_;constructor;try intro K hK))|((with_reducible first|refine hZ _ _ ?_|refine W_rg ?_|skip);repeat1' simp only[push_cast,seval,-Nat.reduceSubDiff,s1,s2,s3,s4,s9,s10,s11,s12,s13,s14,s15,t1,t2,t4,Option.map_some])|((repeat((fail_if_success with_reducible refine hK _ _ ?_);clear hK K));with_reducible refine hK _ _ ?_;clear hK K))
      refine copy_W styO.und (es := 3) (fun w => by simp [Tryz.sizeOf127, Sem.run]) (k := 1) hxs1.rd (by simp [opCells, OpS.cells, oneCell]) (by omega) (fun q hq => ?_) ?_
      · have := g1.canW (q := k * 3 + q) (by omega)
        rw [Nat.add_assoc]; exact this
      have e3 : (opCells [x]).take (1 * 3) = x.cells := rfl
      rw [e3]
      have hu1 := g1.writeW (q := k * 3) x.cells (by rw [x.len3]; omega)
      rw [x.len3] at hu1
      have hbl : ∀ q, bo = some q → q < w.heap.size := fun q hq => by rw [hq] at h; exact h.lt
      have hh2 := hh1.upd (Upd.setCells (F := fun q => q = b1) (a := ⟨b1, o1 + k * 3, none⟩) w1 rfl x.cells 0) fun q hq e => by have := hbl q hq; omega
      have hx2 : Ext w (setCells w1 ⟨b1, o1 + k * 3, none⟩ x.cells 0) := Upd.trans hx1 (Upd.setCells (F := fun q => q = b1) (a := ⟨b1, o1 + k * 3, none⟩) w1 rfl _ 0) fun q hq e => by omega
      generalize setCells w1 ⟨b1, o1 + k * 3, none⟩ x.cells 0 = w2 at *
      (repeat first|(with_reducible first|(refine hK _ _ ?_;clear hK K)|refine ‹∀σ w,_→K σ w› _ _ ?_|(refine W_st ?_;constructor;try intro K hK))|((with_reducible first|refine hZ _ _ ?_|refine W_rg ?_|skip);repeat1' simp only[push_cast,seval,-Nat.reduceSubDiff])|((repeat((fail_if_success with_reducible refine hK _ _ ?_);clear hK K));with_reducible refine hK _ _ ?_;clear hK K))
      refine W_draw (.pas 0 (.pas 1 (.pas 2 (.pas 3 (.pas 4 (.pas 5 (.pas 6 (.pas 7 (.tail [8]))))))))) (fun _ => False) (by decide) mixed (by kernel_rfl) ?_
      (repeat (first | ((first | refine pas_plain rfl ?_ | refine pas_g rfl rfl ?_ | refine act_plain rfl ?_ | refine act_g rfl rfl ?_ | refine last_plain rfl ?_ | refine tail_plain rfl ?_ | refine tail_g rfl rfl ?_); (repeat simp only [push_cast, seval, -Nat.reduceSubDiff, s1, s2, s3, s4, s9, s10, s11, s12, s13, s14, s15, t1, t2, t3, t4, t5, Option.map_some, Int.le_refl])) | (refine tail_fin ?_) | (refine sch_fin ?_)))
      have q1 := (hh2.ext (Ext.drew w2)).part (l := k) (k := n) (m := c) (by omega) (by omega) (by omega) (by omega)
      have eD : ((opCells l).drop (k * 3)).take ((n - k) * 3) = (opCells l).drop (k * 3) := List.take_of_length_le (by rw [List.length_drop]; omega)
      rw [eD] at q1
      have hdl : ((opCells l).drop (k * 3)).length = (n - k) * 3 := by rw [List.length_drop]; omega
      have hone : ((opCells l).drop (k * 3)).all oneCell = true := by
        have := opCells_one l
        rw [List.all_eq_true] at this ⊢
        exact fun y hy => this y (List.mem_of_mem_drop hy)
      have hud := hu1.ext (Ext.drew w2)
      refine copy_W styO.und (es := 3) (fun w => by simp [Tryz.sizeOf127, Sem.run]) (k := n - k) q1.rd (by rw [eD]; exact hone) (by omega) (fun q hq => ?_) ?_
      · have := hud.canW (q := (k + 1) * 3 + q) (by omega)
        rw [Nat.add_assoc]; exact this
      rw [eD]
      have hu3 := hud.writeW (q := (k + 1) * 3) ((opCells l).drop (k * 3)) (by omega)
      have e13 : (k + 1) * 3 = k * 3 + 3 := by omega
      rw [e13, ins_growW (opCells l) x.cells (Builtin.zeroCells zO.cells (n + 1 - k)).toList (k * 3) 3 (by omega) x.len3 (by omega), ← e13] at hu3
      have hx3 : Ext w (setCells w2.drew ⟨b1, o1 + (k + 1) * 3, none⟩ ((opCells l).drop (k * 3)) 0) := Upd.trans (hx2.trans (Ext.drew w2)) (Upd.setCells (F := fun q => q = b1) (a := ⟨b1, o1 + (k + 1) * 3, none⟩) w2.drew rfl _ 0) fun q hq e => by omega
      (repeat (first | ((first | refine pas_plain rfl ?_ | refine pas_g rfl rfl ?_ | refine act_plain rfl ?_ | refine act_g rfl rfl ?_ | refine last_plain rfl ?_ | refine tail_plain rfl ?_ | refine tail_g rfl rfl ?_); (repeat simp only [push_cast, seval, -Nat.reduceSubDiff])) | (refine tail_fin ?_) | (refine sch_fin ?_)))
      (repeat first|(with_reducible first|(refine hK _ _ ?_;clear hK K)|refine ‹∀σ w,_→K σ w› _ _ ?_|(refine W_st ?_;constructor;try intro K hK))|((with_reducible first|refine hZ _ _ ?_|refine W_rg ?_|skip);repeat1' simp only[push_cast,seval,-Nat.reduceSubDiff])|((repeat((fail_if_success with_reducible refine hK _ _ ?_);clear hK K));with_reducible refine hK _ _ ?_;clear hK K))
      exact ⟨bo1, by rw [opCells_ins]; exact hu3, hx3.upd, fun b hb => .inr (hf1 b hb)⟩
end Go.Proofs.YtgnnlaeikcnhcaaGreatDoor
end
section
set_option linter.unusedSimpArgs false
set_option linter.unusedVariables false
namespace Go.Proofs.YtgnnlaeikcnhcaaGreatDoor
open Go Go.Shelf Go.Vk Go.Proofs
def laysContains_ren : Go.Shelf.Ren := ⟨fun | 144 => 211 | 143 => 234 | 219 => 244 | 217 => 249 | 225 => 250 | 224 => 251 | 267 => 252 | 266 => 253 | 314 => 254 | n => n, fun | 9 => 9 | 4 => 4 | 3 => 3 | 5 => 5 | 46 => 220 | 146 => 222 | 51 => 221 | n => n, fun | 1 => 4 | n => n⟩
theorem laysContains : Go.Proofs.Lays.n144 Tryz.prog laysContains_ren := {
  mixed := by kernel_rfl
  f143 := Tryz.func234.trans (congrArg some (by kernel_rfl))
  f144 := Tryz.func211.trans (congrArg some (by kernel_rfl))
  f217 := Tryz.func249.trans (congrArg some (by kernel_rfl))
  f219 := Tryz.func244.trans (congrArg some (by kernel_rfl))
  f224 := Tryz.func251.trans (congrArg some (by kernel_rfl))
  f225 := Tryz.func250.trans (congrArg some (by kernel_rfl))
  f266 := Tryz.func253.trans (congrArg some (by kernel_rfl))
  f267 := Tryz.func252.trans (congrArg some (by kernel_rfl))
  f314 := Tryz.func254.trans (congrArg some (by kernel_rfl))
  t3 := Tryz.underlying3
  a3 := Tryz.isAgg3
  z3 := Tryz.sizeOf3
  v3 := Tryz.zeroValue3
  t4 := Tryz.underlying4
  a4 := Tryz.isAgg4
  z4 := Tryz.sizeOf4
  v4 := Tryz.zeroValue4
  t5 := Tryz.underlying5
  a5 := Tryz.isAgg5
  z5 := Tryz.sizeOf5
  v5 := Tryz.zeroValue5
  t9 := Tryz.underlying9
  a9 := Tryz.isAgg9
  z9 := Tryz.sizeOf9
  v9 := Tryz.zeroValue9
  t46 := Tryz.underlying220
  a46 := Tryz.isAgg220
  z46 := Tryz.sizeOf220
  v46 := Tryz.zeroValue220
  t51 := Tryz.underlying221
  a51 := Tryz.isAgg221
  z51 := Tryz.sizeOf221
  v51 := Tryz.zeroValue221
  t146 := Tryz.underlying222
  a146 := Tryz.isAgg222
  z146 := Tryz.sizeOf222
  v146 := Tryz.zeroValue222
  g1 := by kernel_rfl }
def MaxAt (w : World) : Prop := ∃ m, w.cell? ⟨4, 0, none⟩ = some (.int .i64 m)
theorem MaxAt.ext {w w' : World} (h : MaxAt w) (hx : Ext w w') : MaxAt w' := let ⟨m, h⟩ := h; ⟨m, cell_ext hx h⟩
theorem maxAt_of {w : World} (h : w.ShapedOpen Tryz.prog) : MaxAt w :=
  Go.Proofs.cell_of_shapedOpen_int (zero := #[.int .i64 0]) (t := 3) h (of_decide_eq_true (by kernel_rfl)) (by kernel_rfl) rfl (by kernel_rfl) (by kernel_rfl) Tryz.underlying3
theorem contains_one_c (s : ByteArray) (c : UInt8) (w : World) : Gives Tryz.prog 211 #[.string s, .string ⟨#[c]⟩] w fun v w' => v = .bool (decide (0 ≤ Lib.indexByte s.data.toList c)) ∧ w' = w :=
  .inl ⟨Tryz.call211, (Any.strings_Contains_one laysContains s c w).mono fun _ _ ⟨h1, h2⟩ => ⟨_, h1, rfl, h2⟩⟩
theorem strcont_c (s sub : ByteArray) {w : World} (hs : s.size < 4294967281) (hm : MaxAt w) : Gives Tryz.prog 211 #[.string s, .string sub] w fun v w' => v = .bool (Lib.contains s.data.toList sub.data.toList) ∧ w' = w := by
  obtain ⟨m, hm⟩ := hm
  exact .inl ⟨Tryz.call211, (Any.strings_Contains laysContains s sub m w hs hm).mono fun _ _ ⟨h1, h2⟩ => ⟨_, h1, rfl, h2⟩⟩
end Go.Proofs.YtgnnlaeikcnhcaaGreatDoor
end
