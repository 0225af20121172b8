/- What the proof leans on, part 7 of 10. -/
import Derived.Test.YtgnnlaeikcnhcaaGreatDoorQAdoptTextsF
section
set_option linter.unusedSimpArgs false
set_option linter.unusedVariables false
namespace Go.Proofs.YtgnnlaeikcnhcaaGreatDoor
open Go Go.Vk
set_option maxHeartbeats 40000000
section
variable {w0 w : World} {Q : Nat → Prop} {ps pa : Nat} {L : List Nd} {s : List OpS}
theorem styS : STy Tryz.prog 24 9 1 := ⟨Tryz.underlying24, Tryz.sizeOf9, fun w => ⟨_, by simp [Tryz.typeInfo9, Sem.run]; rfl, by decide, by decide⟩, fun w => ⟨_, by simp [Tryz.zeroValue9, Sem.run]; rfl, by decide⟩⟩
theorem names1 (w : World) (x : ByteArray) : RdAt (w.alloc (.cells #[.string x] 9)) 1 (.slice (some ⟨w.heap.size, 0, none⟩) 1 1) (strCells [x]) :=
  ⟨_, 1, 1, rfl, Nat.le_refl _, rfl, fun i u hi => ⟨w.heap.size, 0, rfl, by
    cases i with
    | zero =>
      simp only [strCells, List.map_cons, List.map_nil, List.getElem?_cons_zero] at hi
      cases hi
      rw [cell_h, heap_alloc_h, if_pos rfl]; rfl
    | succ i => simp [strCells] at hi⟩⟩
theorem bsl {w : World} {l : List ByteArray} {n : Nat} {parts : List (Nat × Value)} {K : Value → World → Prop} (hn : l.length = n) (h0 : 0 < n) (h1 : n ≤ 4096)
    (hf : Instr.fill (fun i => some (i * 1, 1)) ((Array.range (n * 1)).map ((Value.string ⟨#[]⟩).cells[· % (Value.string ⟨#[]⟩).cells.size]!)) parts = some (strCells l).toArray)
    (h : ∀ v w', Ext w w' → RdAt w' 1 v (strCells l) → (∃ b, v = .slice (some ⟨b, 0, none⟩) n n) → K v w') : RunV Tryz.prog (Instr.buildSlice 24 n parts.toArray) w K := by
  refine bs_of styS (n := n) (by omega) (by omega) Tryz.zeroValue9 hf ?_
  refine h _ _ (Ext.alloc _ _) ?_ ⟨_, rfl⟩
  have := (SlAt.new w 1 (strCells l).toArray 9 n (by simp [strCells, hn])).rd
  simpa using this
theorem hasn_s (h : StAt w0 w Q ps pa L s) (hg : GL w0) (hs : s.length < 10000) (hz : ∀ o ∈ s, o.name.size < 4294967281) (which i : Int) :
    Gives Tryz.prog 164 #[.pointer (some ⟨ps, 0, none⟩), .int .i64 which, .int .i64 i] w fun v w' => v = .bool ((scp (scE which) s s.length).any fun o => decide (o.node = i)) ∧ Ext w w' := by
  obtain ⟨sv, bo, hF, _⟩ := id h
  exact shasn_c hs hz (hg.ext h.out) hF
theorem len_s (h : StAt w0 w Q ps pa L s) : Gives Tryz.prog 34 #[.pointer (some ⟨ps, 0, none⟩)] w fun v w' => v = .int .i64 (s.length : Int) ∧ w' = w := by
  obtain ⟨sv, bo, hF, _⟩ := id h
  exact slen_c hF
theorem at_s (h : StAt w0 w Q ps pa L s) (k : Int) : Gives Tryz.prog 52 #[.pointer (some ⟨ps, 0, none⟩), .int .i64 k] w fun v w' => v = .int .i64 (atS s k) ∧ w' = w := by
  obtain ⟨sv, bo, hF, _⟩ := id h
  exact sat_c hF k
theorem top_s (h : StAt w0 w Q ps pa L s) (hs : s.length < 10000) : Gives Tryz.prog 106 #[.pointer (some ⟨ps, 0, none⟩)] w fun v w' => v = .int .i64 (topS s) ∧ w' = w := by
  obtain ⟨sv, bo, hF, _⟩ := id h
  exact stop_c hF (by omega)
theorem index_s (h : StAt w0 w Q ps pa L s) (hs : s.length < 10000) (i : Int) : Gives Tryz.prog 30 #[.pointer (some ⟨ps, 0, none⟩), .int .i64 i] w fun v w' => v = .int .i64 (indexS s i) ∧ w' = w := by
  obtain ⟨sv, bo, hF, _⟩ := id h
  exact sindex_c hF (by omega) i
end
end Go.Proofs.YtgnnlaeikcnhcaaGreatDoor
end
section
set_option linter.unusedSimpArgs false
set_option linter.unusedVariables false
namespace Go.Vk
open Go
def newB : BSt := ⟨[docN], [], [], 0, 0, [], -1, -1, false, false, false, ⟨#[]⟩, none, none⟩
def failB (b : BSt) (e : Int) : BSt := if b.err = none ∧ e ≠ 0 then { b with err := some e } else b
end Go.Vk
namespace Go.Proofs.YtgnnlaeikcnhcaaGreatDoor
open Go Go.Vk
set_option maxHeartbeats 40000000
theorem plBu (w : World) : ((fsOf Tryz.prog 67).mapM plOf).run Tryz.prog w = .ok #[(0,1),(1,1),(2,1),(3,1),(4,1),(5,1),(6,1),(7,1),(8,1),(9,1),(10,1),(11,1),(12,1),(13,1)] w := by
  simp [fsOf, plOf, Tryz.underlying67, Sem.run, Tryz.sizeOf42, Tryz.sizeOf39, Tryz.sizeOf29, Tryz.sizeOf3, Tryz.sizeOf44, Tryz.sizeOf4, Tryz.sizeOf9, Tryz.sizeOf63, Tryz.sizeOf65]
theorem unBu : Tryz.prog.underlying 67 = some (.struct (fsOf Tryz.prog 67)) := by rw [fsOf, Tryz.underlying67]
theorem errIf : Tryz.prog.underlying 65 = some (.interface (Tryz.prog.methodsAt 65)) := by kernel_rfl
theorem nilI {o1 : Operand} {c : Value} (w : World) (K : Value → World → Prop) : Pure1 Tryz.prog (do eqGuard .eql 65 o1 (.const c) .nilIface .nilIface; binOp .eql 65 .nilIface .nilIface) w K = K (.bool true) w :=
  Pure1_eq (fun w => by
    have h1 : (eqGuard .eql 65 o1 (.const c) .nilIface .nilIface).run Tryz.prog w = .ok () w := by cases o1 <;> simp [eqGuard, Sem.run]
    rw [Sem.run_bind, h1, Result.andThen_ok, run_eql_nil_nil w _ errIf]) w K
theorem heldI {o1 o2 : Operand} (u : TypeId) (x : Value) (w : World) (K : Value → World → Prop) : Pure1 Tryz.prog (do eqGuard .eql 65 o1 o2 (.iface u x) .nilIface; binOp .eql 65 (.iface u x) .nilIface) w K = K (.bool false) w :=
  Pure1_eq (fun w => by
    have h1 : (eqGuard .eql 65 o1 o2 (.iface u x) .nilIface).run Tryz.prog w = .ok () w := by simp [eqGuard, Sem.run]
    rw [Sem.run_bind, h1, Result.andThen_ok, run_eql_held_nil w _ _ _ errIf]) w K
theorem mkErr (e : Int) (w : World) (K : Value → World → Prop) : Pure1 Tryz.prog (Instr.makeInterface 28 (.int .i64 e)) w K = K (.iface 28 (.int .i64 e)) w := Pure1_eq (fun w => by kernel_rfl) w K
section
variable {w0 w : World} {Q : Nat → Prop} {pb ps pl pa : Nat} {b : BSt}
theorem bnone_c (h : BuAt w0 w Q pb ps pl pa b) : Gives Tryz.prog 95 #[.pointer (some ⟨pb, 0, none⟩)] w fun v w' => v = .bool false ∧ w' = w := by
  obtain ⟨ma, mn, mc, av, _, _, hh⟩ := h.hd
  refine Gives.of_W Tryz.call95 Tryz.func95 rfl Tryz.ntmps95 (by simp) ?_; intro Z hZ
  (repeat first|(with_reducible first|(refine hK _ _ ?_;clear hK K)|refine ‹∀σ w,_→K σ w› _ _ ?_|(refine W_st ?_;constructor;try intro K hK))|((with_reducible first|refine hZ _ _ ?_|refine W_rg ?_|skip);repeat1' simp only[push_cast,seval,-Nat.reduceSubDiff,cell_h,cellO_cells,hh])|((repeat((fail_if_success with_reducible refine hK _ _ ?_);clear hK K));with_reducible refine hK _ _ ?_;clear hK K))
theorem barena_c (h : BuAt w0 w Q pb ps pl pa b) : Gives Tryz.prog 25 #[.pointer (some ⟨pb, 0, none⟩)] w fun v w' => v = .pointer (some ⟨pa, 0, none⟩) ∧ w' = w := by
  obtain ⟨ma, mn, mc, av, _, _, hh⟩ := h.hd
  refine Gives.of_W Tryz.call25 Tryz.func25 rfl Tryz.ntmps25 (by simp) ?_; intro Z hZ
  (repeat first|(with_reducible first|(refine hK _ _ ?_;clear hK K)|refine ‹∀σ w,_→K σ w› _ _ ?_|(refine W_st ?_;constructor;try intro K hK))|((with_reducible first|refine hZ _ _ ?_|refine W_rg ?_|skip);repeat1' simp only[push_cast,seval,-Nat.reduceSubDiff])|((repeat((fail_if_success with_reducible refine hK _ _ ?_);clear hK K));with_reducible refine hK _ _ ?_;clear hK K))
  refine (bnone_c h).mono ?_
  intro v w' ⟨hv, hw⟩
  subst hv; subst w'
  (repeat first|(with_reducible first|(refine hK _ _ ?_;clear hK K)|refine ‹∀σ w,_→K σ w› _ _ ?_|(refine W_st ?_;constructor;try intro K hK))|((with_reducible first|refine hZ _ _ ?_|refine W_rg ?_|skip);repeat1' simp only[push_cast,seval,-Nat.reduceSubDiff,cell_h,cellO_cells,hh])|((repeat((fail_if_success with_reducible refine hK _ _ ?_);clear hK K));with_reducible refine hK _ _ ?_;clear hK K))
theorem bstack_c (h : BuAt w0 w Q pb ps pl pa b) : Gives Tryz.prog 23 #[.pointer (some ⟨pb, 0, none⟩)] w fun v w' => v = .pointer (some ⟨ps, 0, none⟩) ∧ w' = w := by
  obtain ⟨ma, mn, mc, av, _, _, hh⟩ := h.hd
  refine Gives.of_W Tryz.call23 Tryz.func23 rfl Tryz.ntmps23 (by simp) ?_; intro Z hZ
  (repeat first|(with_reducible first|(refine hK _ _ ?_;clear hK K)|refine ‹∀σ w,_→K σ w› _ _ ?_|(refine W_st ?_;constructor;try intro K hK))|((with_reducible first|refine hZ _ _ ?_|refine W_rg ?_|skip);repeat1' simp only[push_cast,seval,-Nat.reduceSubDiff])|((repeat((fail_if_success with_reducible refine hK _ _ ?_);clear hK K));with_reducible refine hK _ _ ?_;clear hK K))
  refine (bnone_c h).mono ?_
  intro v w' ⟨hv, hw⟩
  subst hv; subst w'
  (repeat first|(with_reducible first|(refine hK _ _ ?_;clear hK K)|refine ‹∀σ w,_→K σ w› _ _ ?_|(refine W_st ?_;constructor;try intro K hK))|((with_reducible first|refine hZ _ _ ?_|refine W_rg ?_|skip);repeat1' simp only[push_cast,seval,-Nat.reduceSubDiff,cell_h,cellO_cells,hh])|((repeat((fail_if_success with_reducible refine hK _ _ ?_);clear hK K));with_reducible refine hK _ _ ?_;clear hK K))
theorem bforms_c (h : BuAt w0 w Q pb ps pl pa b) : Gives Tryz.prog 19 #[.pointer (some ⟨pb, 0, none⟩)] w fun v w' => v = .pointer (some ⟨pl, 0, none⟩) ∧ w' = w := by
  obtain ⟨ma, mn, mc, av, _, _, hh⟩ := h.hd
  refine Gives.of_W Tryz.call19 Tryz.func19 rfl Tryz.ntmps19 (by simp) ?_; intro Z hZ
  (repeat first|(with_reducible first|(refine hK _ _ ?_;clear hK K)|refine ‹∀σ w,_→K σ w› _ _ ?_|(refine W_st ?_;constructor;try intro K hK))|((with_reducible first|refine hZ _ _ ?_|refine W_rg ?_|skip);repeat1' simp only[push_cast,seval,-Nat.reduceSubDiff])|((repeat((fail_if_success with_reducible refine hK _ _ ?_);clear hK K));with_reducible refine hK _ _ ?_;clear hK K))
  refine (bnone_c h).mono ?_
  intro v w' ⟨hv, hw⟩
  subst hv; subst w'
  (repeat first|(with_reducible first|(refine hK _ _ ?_;clear hK K)|refine ‹∀σ w,_→K σ w› _ _ ?_|(refine W_st ?_;constructor;try intro K hK))|((with_reducible first|refine hZ _ _ ?_|refine W_rg ?_|skip);repeat1' simp only[push_cast,seval,-Nat.reduceSubDiff,cell_h,cellO_cells,hh])|((repeat((fail_if_success with_reducible refine hK _ _ ?_);clear hK K));with_reducible refine hK _ _ ?_;clear hK K))
theorem bfail_c (h : BuAt w0 w Q pb ps pl pa b) (e : Int) : Gives Tryz.prog 33 #[.pointer (some ⟨pb, 0, none⟩), .int .i64 e] w fun _ w' => BuAt w0 w' Q pb ps pl pa (failB b e) ∧ Upd (AF w0 Q) w w' := by
  obtain ⟨ma, mn, mc, av, _, _, hh⟩ := h.hd
  cases hb : b.err with
  | none =>
    rw [hb] at hh
    by_cases he : e = 0
    · have e0 : failB b e = b := by unfold failB; rw [if_neg (fun h => h.2 he)]
      rw [e0]
      refine Gives.of_W Tryz.call33 Tryz.func33 rfl Tryz.ntmps33 (by simp) ?_; intro Z hZ
      (repeat first|(with_reducible first|(refine hK _ _ ?_;clear hK K)|refine ‹∀σ w,_→K σ w› _ _ ?_|(refine W_st ?_;constructor;try intro K hK))|((with_reducible first|refine hZ _ _ ?_|refine W_rg ?_|skip);repeat1' simp only[push_cast,seval,-Nat.reduceSubDiff])|((repeat((fail_if_success with_reducible refine hK _ _ ?_);clear hK K));with_reducible refine hK _ _ ?_;clear hK K))
      refine (bnone_c h).mono ?_
      intro v w' ⟨hv, hw⟩
      subst hv; subst w'
      (repeat first|(with_reducible first|(refine hK _ _ ?_;clear hK K)|refine ‹∀σ w,_→K σ w› _ _ ?_|(refine W_st ?_;constructor;try intro K hK))|((with_reducible first|refine hZ _ _ ?_|refine W_rg ?_|skip);repeat1' simp only[push_cast,seval,-Nat.reduceSubDiff,cell_h,cellO_cells,hh,errV,nilI,he,not_true_eq_false,decide_true,decide_false])|((repeat((fail_if_success with_reducible refine hK _ _ ?_);clear hK K));with_reducible refine hK _ _ ?_;clear hK K))
      exact ⟨h, Upd.refl _ _⟩
    · have e0 : failB b e = { b with err := some e } := by unfold failB; rw [if_pos ⟨hb, he⟩]
      rw [e0]
      obtain ⟨k1, k2, k3⟩ := h.put { b with err := some e } 13 (.iface 28 (.int .i64 e)) (fun _ _ => rfl) (by decide) ⟨rfl, rfl, rfl, rfl, rfl⟩
      refine Gives.of_W Tryz.call33 Tryz.func33 rfl Tryz.ntmps33 (by simp) ?_; intro Z hZ
      (repeat first|(with_reducible first|(refine hK _ _ ?_;clear hK K)|refine ‹∀σ w,_→K σ w› _ _ ?_|(refine W_st ?_;constructor;try intro K hK))|((with_reducible first|refine hZ _ _ ?_|refine W_rg ?_|skip);repeat1' simp only[push_cast,seval,-Nat.reduceSubDiff])|((repeat((fail_if_success with_reducible refine hK _ _ ?_);clear hK K));with_reducible refine hK _ _ ?_;clear hK K))
      refine (bnone_c h).mono ?_
      intro v w' ⟨hv, hw⟩
      subst hv; subst w'
      (repeat first|(with_reducible first|(refine hK _ _ ?_;clear hK K)|refine ‹∀σ w,_→K σ w› _ _ ?_|(refine W_st ?_;constructor;try intro K hK))|((with_reducible first|refine hZ _ _ ?_|refine W_rg ?_|skip);repeat1' simp only[push_cast,seval,-Nat.reduceSubDiff,cell_h,cellO_cells,hh,errV,nilI,he,not_false_eq_true,decide_true,decide_false,mkErr,k1])|((repeat((fail_if_success with_reducible refine hK _ _ ?_);clear hK K));with_reducible refine hK _ _ ?_;clear hK K))
      exact ⟨k2, k3⟩
  | some e1 =>
    rw [hb] at hh
    have e0 : failB b e = b := by unfold failB; rw [if_neg (fun h => by rw [hb] at h; cases h.1)]
    rw [e0]
    refine Gives.of_W Tryz.call33 Tryz.func33 rfl Tryz.ntmps33 (by simp) ?_; intro Z hZ
    (repeat first|(with_reducible first|(refine hK _ _ ?_;clear hK K)|refine ‹∀σ w,_→K σ w› _ _ ?_|(refine W_st ?_;constructor;try intro K hK))|((with_reducible first|refine hZ _ _ ?_|refine W_rg ?_|skip);repeat1' simp only[push_cast,seval,-Nat.reduceSubDiff])|((repeat((fail_if_success with_reducible refine hK _ _ ?_);clear hK K));with_reducible refine hK _ _ ?_;clear hK K))
    refine (bnone_c h).mono ?_
    intro v w' ⟨hv, hw⟩
    subst hv; subst w'
    (repeat first|(with_reducible first|(refine hK _ _ ?_;clear hK K)|refine ‹∀σ w,_→K σ w› _ _ ?_|(refine W_st ?_;constructor;try intro K hK))|((with_reducible first|refine hZ _ _ ?_|refine W_rg ?_|skip);repeat1' simp only[push_cast,seval,-Nat.reduceSubDiff,cell_h,cellO_cells,hh,errV,heldI,not_true_eq_false,decide_true,decide_false])|((repeat((fail_if_success with_reducible refine hK _ _ ?_);clear hK K));with_reducible refine hK _ _ ?_;clear hK K))
    exact ⟨h, Upd.refl _ _⟩
end
end Go.Proofs.YtgnnlaeikcnhcaaGreatDoor
end
section
set_option linter.unusedSimpArgs false
set_option linter.unusedVariables false
namespace Go.Vk
open Go
theorem Ext.sz {w w' : World} (h : Ext w w') : w.heap.size ≤ w'.heap.size := h.alike.size
/-- cells that are written into a new block -/
theorem newL (w : World) (zs : Array Value) (l : List Value) (t : TypeId) (hl : zs.size = l.length) : Ext w (setCells (w.alloc (.cells zs t)) ⟨w.heap.size, 0, none⟩ l 0) ∧ (setCells (w.alloc (.cells zs t)) ⟨w.heap.size, 0, none⟩ l 0).heap[w.heap.size]? = some (.cells l.toArray t (0, 0)) := by
  have z1 : (w.alloc (.cells zs t)).heap[w.heap.size]? = some (.cells zs t (0, 0)) := by rw [heap_alloc_h, if_pos rfl]
  exact ⟨Upd.trans (Ext.alloc w _) (Upd.setCells (F := fun b => b = w.heap.size) (a := ⟨w.heap.size, 0, none⟩) _ rfl _ 0) fun i hi e => by omega, setCells_all z1 hl⟩
end Go.Vk
end
section
set_option linter.unusedSimpArgs false
set_option linter.unusedVariables false
namespace Go.Proofs.YtgnnlaeikcnhcaaGreatDoor
open Go Go.Vk
set_option maxHeartbeats 40000000
theorem bnew_c {w : World} : Gives Tryz.prog 17 #[] w fun v w' => ∃ pb ps pl pa, v = .pointer (some ⟨pb, 0, none⟩) ∧ BuAt w w' noP pb ps pl pa newB := by
  refine Gives.of_W Tryz.call17 Tryz.func17 rfl Tryz.ntmps17 (by simp) ?_; intro Z hZ
  (repeat first|(with_reducible first|(refine hK _ _ ?_;clear hK K)|refine ‹∀σ w,_→K σ w› _ _ ?_|(refine W_st ?_;constructor;try intro K hK))|((with_reducible first|refine hZ _ _ ?_|refine W_rg ?_|skip);repeat1' simp only[push_cast,seval,-Nat.reduceSubDiff])|((repeat((fail_if_success with_reducible refine hK _ _ ?_);clear hK K));with_reducible refine hK _ _ ?_;clear hK K))
  refine new_a.mono ?_
  rintro v w1 ⟨pa, rfl, hA⟩
  (repeat first|(with_reducible first|(refine hK _ _ ?_;clear hK K)|refine ‹∀σ w,_→K σ w› _ _ ?_|(refine W_st ?_;constructor;try intro K hK))|((with_reducible first|refine hZ _ _ ?_|refine W_rg ?_|skip);repeat1' simp only[push_cast,seval,-Nat.reduceSubDiff])|((repeat((fail_if_success with_reducible refine hK _ _ ?_);clear hK K));with_reducible refine hK _ _ ?_;clear hK K))
  refine (snew_c hA (by decide)).mono ?_
  rintro v w2 ⟨ps, rfl, ⟨sv, bo, hF, hA2, hps, hbo, _⟩, hx2⟩
  (repeat first|(with_reducible first|(refine hK _ _ ?_;clear hK K)|refine ‹∀σ w,_→K σ w› _ _ ?_|(refine W_st ?_;constructor;try intro K hK))|((with_reducible first|refine hZ _ _ ?_|refine W_rg ?_|skip);repeat1' simp only[push_cast,seval,-Nat.reduceSubDiff])|((repeat((fail_if_success with_reducible refine hK _ _ ?_);clear hK K));with_reducible refine hK _ _ ?_;clear hK K))
  refine (fnew_c hA2 (by decide)).mono ?_
  rintro v w3 ⟨pl, rfl, ⟨lv, bl, hG, hA3, hpl, hbl, hnl⟩, hx3⟩
  (repeat first|(with_reducible first|(refine hK _ _ ?_;clear hK K)|refine ‹∀σ w,_→K σ w› _ _ ?_|(refine W_st ?_;constructor;try intro K hK))|((with_reducible first|refine hZ _ _ ?_|refine W_rg ?_|skip);repeat1' simp only[push_cast,seval,-Nat.reduceSubDiff])|((repeat((fail_if_success with_reducible refine hK _ _ ?_);clear hK K));with_reducible refine hK _ _ ?_;clear hK K))
  refine build_struct Tryz.zeroValue67 unBu plBu (cs := #[.pointer (some ⟨pa, 0, none⟩), .pointer (some ⟨ps, 0, none⟩), .pointer (some ⟨pl, 0, none⟩), .int .i64 0, .int .i64 0, .slice none 0 0, .int .i64 (-1), .int .i64 (-1), .bool false, .bool false, .bool false, .string ⟨#[]⟩, .pointer none, .nilIface]) (by rfl) ?_
  (repeat first|(with_reducible first|(refine hK _ _ ?_;clear hK K)|refine ‹∀σ w,_→K σ w› _ _ ?_|(refine W_st ?_;constructor;try intro K hK))|((with_reducible first|refine hZ _ _ ?_|refine W_rg ?_|skip);repeat1' simp only[push_cast,seval,-Nat.reduceSubDiff,vcells_agg])|((repeat((fail_if_success with_reducible refine hK _ _ ?_);clear hK K));with_reducible refine hK _ _ ?_;clear hK K))
  have hT : Two w w3 noP ps pl pa [docN] [] [] := by
    refine ⟨sv, bo, lv, bl, hF.ext hx3, hG, hA3.guard (Ext.refl _) fun b hb => .inl ?_, hps, hpl, fun b hb => ⟨(hbo b hb).1, id, fun e => hnl (.inr (.inr (by rw [← e]; exact hb))), fun e => (hbl b e).2 (.inr (.inr hb))⟩, fun b hb => ⟨(hbl b hb).1, id, fun e => (hbl b hb).2 (.inr (.inl e))⟩, id, id, fun e => hnl (.inr (.inl e.symm))⟩
    rcases hb with hb | hb | hb | hb | hb
    · exact hb.elim
    · exact .inl (.inr (.inl hb))
    · exact .inl (.inr (.inr hb))
    · exact .inr (.inl hb)
    · exact .inr (.inr hb)
  have h0 := hT.out.alike.size
  have hz : ∀ o, (w3.alloc o).heap.size = w3.heap.size + 1 := fun o => size_alloc_h _ _
  refine ⟨w3.heap.size, rfl, ps, pl, pa, .slice none 0 0, none, .pointer none, none, by rw [heap_alloc_h, if_pos rfl]; rfl, SlAt.nil _ _, ⟨rfl, rfl⟩, hT.app (Ext.alloc _ _) (fun _ _ h => h.elim) fun q hq => ?_, h0, id, fun q hq => (by cases hq), fun q hq => by cases hq⟩
  rcases hq with hq | hq | hq | hq
  · exact hq.elim
  · exact .inr (by rw [hz]; omega)
  · cases hq
  · cases hq
end Go.Proofs.YtgnnlaeikcnhcaaGreatDoor
end
section
set_option linter.unusedSimpArgs false
set_option linter.unusedVariables false
namespace Go.Vk
open Go
def nodeN (L : List Nd) (i : Int) : Nd := (nd? L i).getD zN
def htmlN (n : Nd) (l : List ByteArray) : Bool := decide (n.kind = 3) && (decide (n.space = 0) && l.any fun y => decide (n.name = y))
def curB (b : BSt) : Nd := nodeN b.L (topS b.s)
def isB (b : BSt) (l : List ByteArray) : Bool := htmlN (curB b) l
def lastBu (b : BSt) (name : ByteArray) : Int := lastB (fun k => htmlN (nodeN b.L (b.s.getD k zS).node) [name]) b.s.length
def sTable : ByteArray := ⟨#[116, 97, 98, 108, 101]⟩
def tabs5 : List ByteArray := [sTable, ⟨#[116, 98, 111, 100, 121]⟩, ⟨#[116, 102, 111, 111, 116]⟩, ⟨#[116, 104, 101, 97, 100]⟩, ⟨#[116, 114]⟩]
def fosterB (b : BSt) : Int × Int :=
  if lastBu b sTable < lastBu b tmpl then (atS b.s (lastBu b tmpl), -1)
  else if lastBu b sTable < 0 then (atS b.s 0, -1)
  else if 0 ≤ (nodeN b.L (atS b.s (lastBu b sTable))).parent then ((nodeN b.L (atS b.s (lastBu b sTable))).parent, atS b.s (lastBu b sTable))
  else (atS b.s (lastBu b sTable - 1), -1)
def place1 (b : BSt) (t : Int) : Int × Int := if b.foster = true ∧ htmlN (nodeN b.L t) tabs5 = true then fosterB b else (t, -1)
def placeB (b : BSt) (t : Int) : Int × Int :=
  if (place1 b t).2 < 0 ∧ htmlN (nodeN b.L (place1 b t).1) [tmpl] = true then ((nodeN b.L (place1 b t).1).content, (place1 b t).2) else place1 b t
def putB (b : BSt) (i t : Int) : BSt := if 0 ≤ (placeB b t).2 then { b with L := (beforeN b.L i (placeB b t).2).1 } else { b with L := (appendN b.L (placeB b t).1 i).1 }
def targB (b : BSt) : Int := if 0 > topS b.s then 0 else topS b.s
structure okB (b : BSt) : Prop where
  L : b.L.length < 90000
  at_ : ∀ n ∈ b.L, n.attrs.length < 1000000
  s : b.s.length < 10000
  l : b.l.length < 10000
end Go.Vk
namespace Go.Proofs.YtgnnlaeikcnhcaaGreatDoor
open Go Go.Vk
set_option maxHeartbeats 40000000
theorem bhtml_c {w : World} (m : Laid) {nv : Value} {l : List ByteArray} (hn : RdAt w 1 nv (strCells l)) (hl : l.length < 1000000000) : Gives Tryz.prog 130 #[m.val, nv] w fun v w' => v = .bool (htmlN m.nd l) ∧ Ext w w' := by
  rw [Laid.val_eq]
  have hx := Ext.alloc w (.cells #[.int .i64 m.nd.kind, .string m.nd.name, .string m.nd.text, .int .i64 m.nd.space, m.av, .bool m.nd.dup, .int .i64 m.nd.parent, .int .i64 m.nd.content, m.kv, .int .i64 m.nd.frm, .int .i64 m.nd.to] 46)
  have hp : (w.alloc (.cells #[.int .i64 m.nd.kind, .string m.nd.name, .string m.nd.text, .int .i64 m.nd.space, m.av, .bool m.nd.dup, .int .i64 m.nd.parent, .int .i64 m.nd.content, m.kv, .int .i64 m.nd.frm, .int .i64 m.nd.to] 46)).heap[w.heap.size]? = some (.cells #[.int .i64 m.nd.kind, .string m.nd.name, .string m.nd.text, .int .i64 m.nd.space, m.av, .bool m.nd.dup, .int .i64 m.nd.parent, .int .i64 m.nd.content, m.kv, .int .i64 m.nd.frm, .int .i64 m.nd.to] 46 (0, 0)) := by rw [heap_alloc_h, if_pos rfl]
  unfold htmlN
  refine Gives.of_W Tryz.call130 Tryz.func130 rfl Tryz.ntmps130 (by simp) ?_; intro Z hZ
  (repeat first|(with_reducible first|(refine hK _ _ ?_;clear hK K)|refine ‹∀σ w,_→K σ w› _ _ ?_|(refine W_st ?_;constructor;try intro K hK))|((with_reducible first|refine hZ _ _ ?_|refine W_rg ?_|skip);repeat1' simp only[push_cast,seval,-Nat.reduceSubDiff,vcells_agg])|((repeat((fail_if_success with_reducible refine hK _ _ ?_);clear hK K));with_reducible refine hK _ _ ?_;clear hK K))
  generalize w.alloc (.cells #[.int .i64 m.nd.kind, .string m.nd.name, .string m.nd.text, .int .i64 m.nd.space, m.av, .bool m.nd.dup, .int .i64 m.nd.parent, .int .i64 m.nd.content, m.kv, .int .i64 m.nd.frm, .int .i64 m.nd.to] 46) = w1 at *
  obtain ⟨p, hpe⟩ : ∃ p, p = w.heap.size := ⟨_, rfl⟩
  rw [← hpe] at hp ⊢
  by_cases hk : m.nd.kind = 3
  · by_cases hs : m.nd.space = 0
    · (repeat first|(with_reducible first|(refine hK _ _ ?_;clear hK K)|refine ‹∀σ w,_→K σ w› _ _ ?_|(refine W_st ?_;constructor;try intro K hK))|((with_reducible first|refine hZ _ _ ?_|refine W_rg ?_|skip);repeat1' simp only[push_cast,seval,-Nat.reduceSubDiff,cell_h,cellO_cells,hp,hk,hs,decide_true])|((repeat((fail_if_success with_reducible refine hK _ _ ?_);clear hK K));with_reducible refine hK _ _ ?_;clear hK K))
      refine (sconts_c (hn.ext hx) hl m.nd.name).mono ?_
      intro v w' ⟨hv, hw⟩
      subst hv; subst w'
      (repeat first|(with_reducible first|(refine hK _ _ ?_;clear hK K)|refine ‹∀σ w,_→K σ w› _ _ ?_|(refine W_st ?_;constructor;try intro K hK))|((with_reducible first|refine hZ _ _ ?_|refine W_rg ?_|skip);repeat1' simp only[push_cast,seval,-Nat.reduceSubDiff])|((repeat((fail_if_success with_reducible refine hK _ _ ?_);clear hK K));with_reducible refine hK _ _ ?_;clear hK K))
      first | exact hx | exact ⟨by simp [hk, hs], hx⟩
    · (repeat first|(with_reducible first|(refine hK _ _ ?_;clear hK K)|refine ‹∀σ w,_→K σ w› _ _ ?_|(refine W_st ?_;constructor;try intro K hK))|((with_reducible first|refine hZ _ _ ?_|refine W_rg ?_|skip);repeat1' simp only[push_cast,seval,-Nat.reduceSubDiff,cell_h,cellO_cells,hp,hk,hs,decide_true,decide_false])|((repeat((fail_if_success with_reducible refine hK _ _ ?_);clear hK K));with_reducible refine hK _ _ ?_;clear hK K))
      first | exact hx | exact ⟨by simp [hs], hx⟩
  · (repeat first|(with_reducible first|(refine hK _ _ ?_;clear hK K)|refine ‹∀σ w,_→K σ w› _ _ ?_|(refine W_st ?_;constructor;try intro K hK))|((with_reducible first|refine hZ _ _ ?_|refine W_rg ?_|skip);repeat1' simp only[push_cast,seval,-Nat.reduceSubDiff,cell_h,cellO_cells,hp,hk,decide_true,decide_false])|((repeat((fail_if_success with_reducible refine hK _ _ ?_);clear hK K));with_reducible refine hK _ _ ?_;clear hK K))
    first | exact hx | exact ⟨by simp [hk], hx⟩
section
variable {w0 w : World} {Q : Nat → Prop} {pb ps pl pa : Nat} {b : BSt}
theorem bnode_c (h : BuAt w0 w Q pb ps pl pa b) (hb : okB b) (i : Int) : Gives Tryz.prog 29 #[.pointer (some ⟨pa, 0, none⟩), .int .i64 i] w fun v w' => ∃ m : Laid, v = m.val ∧ m.nd = nodeN b.L i ∧ m.ok w' ∧ Ext w w' ∧ ∀ q ∈ m.blks, w.heap.size ≤ q := by
  obtain ⟨P, hA, _⟩ := h.ar
  refine (node_a hA (by have := hb.L; omega) hb.at_ i).mono ?_
  rintro v w' ⟨m, h1, h2, h3, _, h5, h6, _⟩
  exact ⟨m, h1, h2, h3, h5, h6⟩
theorem btop_c (h : BuAt w0 w Q pb ps pl pa b) (hb : okB b) : Gives Tryz.prog 106 #[.pointer (some ⟨ps, 0, none⟩)] w fun v w' => v = .int .i64 (topS b.s) ∧ w' = w := by
  obtain ⟨P, hA, _⟩ := h.stk
  exact top_s hA hb.s
theorem bslen_c (h : BuAt w0 w Q pb ps pl pa b) : Gives Tryz.prog 34 #[.pointer (some ⟨ps, 0, none⟩)] w fun v w' => v = .int .i64 (b.s.length : Int) ∧ w' = w := by
  obtain ⟨P, hA, _⟩ := h.stk
  exact len_s hA
theorem bsat_c (h : BuAt w0 w Q pb ps pl pa b) (k : Int) : Gives Tryz.prog 52 #[.pointer (some ⟨ps, 0, none⟩), .int .i64 k] w fun v w' => v = .int .i64 (atS b.s k) ∧ w' = w := by
  obtain ⟨P, hA, _⟩ := h.stk
  exact at_s hA k
theorem bcur_c (h : BuAt w0 w Q pb ps pl pa b) (hb : okB b) : Gives Tryz.prog 82 #[.pointer (some ⟨pb, 0, none⟩)] w fun v w' => ∃ m : Laid, v = m.val ∧ m.nd = curB b ∧ m.ok w' ∧ Ext w w' := by
  have hx1 := Ext.alloc w (.cells #[.int .i64 0, .string ⟨#[]⟩, .string ⟨#[]⟩, .int .i64 0, .slice none 0 0, .bool false, .int .i64 0, .int .i64 0, .slice none 0 0, .int .i64 0, .int .i64 0] 46)
  have z1 : (w.alloc (.cells #[.int .i64 0, .string ⟨#[]⟩, .string ⟨#[]⟩, .int .i64 0, .slice none 0 0, .bool false, .int .i64 0, .int .i64 0, .slice none 0 0, .int .i64 0, .int .i64 0] 46)).heap[w.heap.size]? = some (.cells #[.int .i64 0, .string ⟨#[]⟩, .string ⟨#[]⟩, .int .i64 0, .slice none 0 0, .bool false, .int .i64 0, .int .i64 0, .slice none 0 0, .int .i64 0, .int .i64 0] 46 (0, 0)) := by rw [heap_alloc_h, if_pos rfl]
  refine Gives.of_W Tryz.call82 Tryz.func82 rfl Tryz.ntmps82 (by simp) ?_; intro Z hZ
  (repeat first|(with_reducible first|(refine hK _ _ ?_;clear hK K)|refine ‹∀σ w,_→K σ w› _ _ ?_|(refine W_st ?_;constructor;try intro K hK))|((with_reducible first|refine hZ _ _ ?_|refine W_rg ?_|skip);repeat1' simp only[push_cast,seval,-Nat.reduceSubDiff,RunV_zero Tryz.zeroValue46,vcells_agg])|((repeat((fail_if_success with_reducible refine hK _ _ ?_);clear hK K));with_reducible refine hK _ _ ?_;clear hK K))
  generalize w.alloc (.cells #[.int .i64 0, .string ⟨#[]⟩, .string ⟨#[]⟩, .int .i64 0, .slice none 0 0, .bool false, .int .i64 0, .int .i64 0, .slice none 0 0, .int .i64 0, .int .i64 0] 46) = w1 at *
  obtain ⟨p, hpe⟩ : ∃ p, p = w.heap.size := ⟨_, rfl⟩
  rw [← hpe] at z1 ⊢
  have h1 := h.pass hx1
  refine (bnone_c h1).mono ?_
  intro v w' ⟨hv, hw⟩
  subst hv; subst w'
  have hxd := Ext.drew w1
  have hd := h1.pass hxd
  have zd := hxd.blk z1
  have hpl := blk_lt z1
  obtain ⟨ma, mn, mc, av, _, _, hh⟩ := hd.hd
  have hszd : w1.heap.size = w1.drew.heap.size := (drew_size w1).symm
  have l1 : pb < w1.heap.size := by rw [hszd]; exact blk_lt hh
  (repeat first|(with_reducible first|(refine hK _ _ ?_;clear hK K)|refine ‹∀σ w,_→K σ w› _ _ ?_|(refine W_st ?_;constructor;try intro K hK))|((with_reducible first|refine hZ _ _ ?_|refine W_rg ?_|skip);repeat1' simp only[push_cast,seval,-Nat.reduceSubDiff])|((repeat((fail_if_success with_reducible refine hK _ _ ?_);clear hK K));with_reducible refine hK _ _ ?_;clear hK K))
  refine W_draw (.pas 0 (.pas 1 (.pas 2 (.pas 3 (.pas 4 (.pas 5 (.pas 6 (.pas 7 (.act 8 (.act 9 (.last 10))))))))))) (fun q => q < w1.heap.size) (by decide) mixed (by kernel_rfl) ?_
  generalize w1.drew = wd at *
  (repeat (first | ((first | refine pas_plain rfl ?_ | refine pas_g rfl rfl ?_ | refine act_plain rfl ?_ | refine act_g rfl rfl ?_ | refine last_plain rfl ?_ | refine tail_plain rfl ?_ | refine tail_g rfl rfl ?_); (repeat simp only [push_cast, seval, -Nat.reduceSubDiff, cell_h, cellO_cells, hh, l1])) | (refine tail_fin ?_) | (refine sch_fin ?_)))
  refine (btop_c hd hb).mono ?_
  intro v w' ⟨hv, hw⟩
  subst hv; subst w'
  refine ⟨kept.refl _ _, ?_⟩
  (repeat (first | ((first | refine pas_plain rfl ?_ | refine pas_g rfl rfl ?_ | refine act_plain rfl ?_ | refine act_g rfl rfl ?_ | refine last_plain rfl ?_ | refine tail_plain rfl ?_ | refine tail_g rfl rfl ?_); (repeat simp only [push_cast, seval, -Nat.reduceSubDiff, cell_h, cellO_cells, hh, l1])) | (refine tail_fin ?_) | (refine sch_fin ?_)))
  refine (bnode_c hd hb _).mono ?_
  rintro v w3 ⟨m, rfl, hm, hok, hx3, hbk⟩
  refine ⟨kept_upd hx3 fun q hq => ⟨by have : q < w1.heap.size := hq; omega, id⟩, ?_⟩
  have z3 := hx3.blk zd
  obtain ⟨xa, xn, xc, exa, _⟩ := hok.attrs.len
  obtain ⟨ya, yn, yc, eya, _⟩ := hok.kids.len
  have ev : m.val = .agg #[.int .i64 m.nd.kind, .string m.nd.name, .string m.nd.text, .int .i64 m.nd.space, .slice xa xn xc, .bool m.nd.dup, .int .i64 m.nd.parent, .int .i64 m.nd.content, .slice ya yn yc, .int .i64 m.nd.frm, .int .i64 m.nd.to] := by rw [Laid.val_eq, exa, eya]
  rw [ev]
  have hz3 := hx3.alike.size
  have hx03 := (hx1.trans hxd).trans hx3
  have up : Upd (fun q => q = p) w3 (setCells w3 ⟨p, 0, none⟩ [.int .i64 m.nd.kind, .string m.nd.name, .string m.nd.text, .int .i64 m.nd.space, .slice xa xn xc, .bool m.nd.dup, .int .i64 m.nd.parent, .int .i64 m.nd.content, .slice ya yn yc, .int .i64 m.nd.frm, .int .i64 m.nd.to] 0) := Upd.setCells (F := fun q => q = p) (a := ⟨p, 0, none⟩) w3 rfl _ 0
  have hp4 := setCells_all z3 (l := [.int .i64 m.nd.kind, .string m.nd.name, .string m.nd.text, .int .i64 m.nd.space, .slice xa xn xc, .bool m.nd.dup, .int .i64 m.nd.parent, .int .i64 m.nd.content, .slice ya yn yc, .int .i64 m.nd.frm, .int .i64 m.nd.to]) rfl
  have hx4 : Ext w (setCells w3 ⟨p, 0, none⟩ [.int .i64 m.nd.kind, .string m.nd.name, .string m.nd.text, .int .i64 m.nd.space, .slice xa xn xc, .bool m.nd.dup, .int .i64 m.nd.parent, .int .i64 m.nd.content, .slice ya yn yc, .int .i64 m.nd.frm, .int .i64 m.nd.to] 0) := Upd.trans hx03 up fun q hq e => by omega
  have hok4 := hok.upd up fun q hq e => by have := hbk q hq; have := blk_lt zd; omega
  (repeat (first | ((first | refine pas_plain rfl ?_ | refine pas_g rfl rfl ?_ | refine act_plain rfl ?_ | refine act_g rfl rfl ?_ | refine last_plain rfl ?_ | refine tail_plain rfl ?_ | refine tail_g rfl rfl ?_); (repeat simp only [push_cast, seval, -Nat.reduceSubDiff, can_h, z3, canO_cells])) | (refine tail_fin ?_) | (refine sch_fin ?_)))
  generalize setCells w3 ⟨p, 0, none⟩ [.int .i64 m.nd.kind, .string m.nd.name, .string m.nd.text, .int .i64 m.nd.space, .slice xa xn xc, .bool m.nd.dup, .int .i64 m.nd.parent, .int .i64 m.nd.content, .slice ya yn yc, .int .i64 m.nd.frm, .int .i64 m.nd.to] 0 = w4 at *
  (repeat first|(with_reducible first|(refine hK _ _ ?_;clear hK K)|refine ‹∀σ w,_→K σ w› _ _ ?_|(refine W_st ?_;constructor;try intro K hK))|((with_reducible first|refine hZ _ _ ?_|refine W_rg ?_|skip);repeat1' simp only[push_cast,seval,-Nat.reduceSubDiff,cell_h,cellO_cells,hp4])|((repeat((fail_if_success with_reducible refine hK _ _ ?_);clear hK K));with_reducible refine hK _ _ ?_;clear hK K))
  exact ⟨m, ev.symm, hm, hok4, hx4⟩
theorem bis_c (h : BuAt w0 w Q pb ps pl pa b) (hb : okB b) {nv : Value} {l : List ByteArray} (hn : RdAt w 1 nv (strCells l)) (hl : l.length < 1000000000) : Gives Tryz.prog 65 #[.pointer (some ⟨pb, 0, none⟩), nv] w fun v w' => v = .bool (isB b l) ∧ Ext w w' := by
  refine Gives.of_W Tryz.call65 Tryz.func65 rfl Tryz.ntmps65 (by simp) ?_; intro Z hZ
  (repeat first|(with_reducible first|(refine hK _ _ ?_;clear hK K)|refine ‹∀σ w,_→K σ w› _ _ ?_|(refine W_st ?_;constructor;try intro K hK))|((with_reducible first|refine hZ _ _ ?_|refine W_rg ?_|skip);repeat1' simp only[push_cast,seval,-Nat.reduceSubDiff])|((repeat((fail_if_success with_reducible refine hK _ _ ?_);clear hK K));with_reducible refine hK _ _ ?_;clear hK K))
  refine (bcur_c h hb).mono ?_
  rintro v w2 ⟨m, rfl, hm, hok, hx⟩
  (repeat first|(with_reducible first|(refine hK _ _ ?_;clear hK K)|refine ‹∀σ w,_→K σ w› _ _ ?_|(refine W_st ?_;constructor;try intro K hK))|((with_reducible first|refine hZ _ _ ?_|refine W_rg ?_|skip);repeat1' simp only[push_cast,seval,-Nat.reduceSubDiff])|((repeat((fail_if_success with_reducible refine hK _ _ ?_);clear hK K));with_reducible refine hK _ _ ?_;clear hK K))
  refine (bhtml_c m (hn.ext hx) hl).mono ?_
  rintro v w3 ⟨rfl, hx3⟩
  rw [hm]
  (repeat first|(with_reducible first|(refine hK _ _ ?_;clear hK K)|refine ‹∀σ w,_→K σ w› _ _ ?_|(refine W_st ?_;constructor;try intro K hK))|((with_reducible first|refine hZ _ _ ?_|refine W_rg ?_|skip);repeat1' simp only[push_cast,seval,-Nat.reduceSubDiff])|((repeat((fail_if_success with_reducible refine hK _ _ ?_);clear hK K));with_reducible refine hK _ _ ?_;clear hK K))
  exact ⟨rfl, hx.trans hx3⟩
theorem blast_c (h : BuAt w0 w Q pb ps pl pa b) (hb : okB b) (x : ByteArray) : Gives Tryz.prog 136 #[.pointer (some ⟨pb, 0, none⟩), .string x] w fun v w' => v = .int .i64 (lastBu b x) ∧ Ext w w' := by
  obtain ⟨ma, mn, mc, av, _, _, hh⟩ := h.hd
  have hs := hb.s
  have s0 : inI64 ((b.s.length : Int) - 1) := by unfold inI64; omega
  refine Gives.of_W Tryz.call136 Tryz.func136 rfl Tryz.ntmps136 (by simp) ?_; intro Z hZ
  (repeat first|(with_reducible first|(refine hK _ _ ?_;clear hK K)|refine ‹∀σ w,_→K σ w› _ _ ?_|(refine W_st ?_;constructor;try intro K hK))|((with_reducible first|refine hZ _ _ ?_|refine W_rg ?_|skip);repeat1' simp only[push_cast,seval,-Nat.reduceSubDiff,cell_h,cellO_cells,hh])|((repeat((fail_if_success with_reducible refine hK _ _ ?_);clear hK K));with_reducible refine hK _ _ ?_;clear hK K))
  refine (bslen_c h).mono ?_
  intro v w' ⟨hv, hw⟩
  subst hv; subst w'
  (repeat first|(with_reducible first|(refine hK _ _ ?_;clear hK K)|refine ‹∀σ w,_→K σ w› _ _ ?_|(refine W_st ?_;constructor;try intro K hK))|((with_reducible first|refine hZ _ _ ?_|refine W_rg ?_|skip);repeat1' simp only[push_cast,seval,-Nat.reduceSubDiff,s0])|((repeat((fail_if_success with_reducible refine hK _ _ ?_);clear hK K));with_reducible refine hK _ _ ?_;clear hK K))
  refine W_loop (S := Nat) (fun k => [(0, .pointer (some ⟨pb, 0, none⟩)), (1, .string x), (5, .int .i64 ((k : Int) - 1))])
    (fun k w2 => k ≤ b.s.length ∧ lastBu b x = lastB (fun k => htmlN (nodeN b.L (b.s.getD k zS).node) [x]) k ∧ Ext w w2) (fun k => k) b.s.length ?_ ?_ ?_
  · (repeat simp only [push_cast, seval, -Nat.reduceSubDiff])
  · exact ⟨Nat.le_refl _, rfl, Ext.refl _⟩
  rintro k w2 ⟨hk, he, hx2⟩
  cases k with
  | zero =>
    have e0 : (((0 : Nat) : Int) - 1) = -1 := rfl
    rw [e0]
    have b0 : ¬ (0 : Int) ≤ -1 := by omega
    (repeat first|(with_reducible first|(refine hK _ _ ?_;clear hK K)|refine ‹∀σ w,_→K σ w› _ _ ?_|(refine W_st ?_;constructor;try intro K hK))|((with_reducible first|refine hZ _ _ ?_|refine W_rg ?_|skip);repeat1' simp only[push_cast,seval,-Nat.reduceSubDiff,b0])|((repeat((fail_if_success with_reducible refine hK _ _ ?_);clear hK K));with_reducible refine hK _ _ ?_;clear hK K))
    rw [he]
    exact ⟨rfl, hx2⟩
  | succ k =>
    have e0 : (((k + 1 : Nat) : Int) - 1) = k := by omega
    rw [e0]
    rw [lastB] at he
    have b0 : (0 : Int) ≤ (k : Int) := by omega
    have b2 : inI64 ((k : Int) - 1) := by unfold inI64; omega
    have hkl : k < b.s.length := by omega
    have eA : atS b.s (k : Int) = (b.s.getD k zS).node := by
      unfold atS
      rw [if_pos ⟨b0, by omega⟩, Int.toNat_natCast]
    have hxd := hx2.trans (Ext.drew w2)
    have hd := h.pass hxd
    have hhd := hxd.blk hh
    have l1 := blk_lt hhd
    have hA : ∀ w3, Ext w2.drew w3 → Gives Tryz.prog 52 #[.pointer (some ⟨ps, 0, none⟩), .int .i64 (k : Int)] w3 fun v w' => v = .int .i64 (b.s.getD k zS).node ∧ w' = w3 := fun w3 hx => by rw [← eA]; exact bsat_c (hd.pass hx) (k : Int)
    generalize (b.s.getD k zS).node = nk at *
    (repeat first|(with_reducible first|(refine hK _ _ ?_;clear hK K)|refine ‹∀σ w,_→K σ w› _ _ ?_|(refine W_st ?_;constructor;try intro K hK))|((with_reducible first|refine hZ _ _ ?_|refine W_rg ?_|skip);repeat1' simp only[push_cast,seval,-Nat.reduceSubDiff,b0])|((repeat((fail_if_success with_reducible refine hK _ _ ?_);clear hK K));with_reducible refine hK _ _ ?_;clear hK K))
    refine W_draw (.pas 0 (.pas 1 (.pas 2 (.pas 3 (.pas 4 (.pas 5 (.pas 6 (.pas 7 (.pas 8 (.pas 11 (.two 9 (.two 10 (.act 12 (.act 13 .fin)) 12 (.act 10 (.act 13 .fin))) 12 (.act 9 (.act 10 (.act 13 .fin)))))))))))))) (fun q => q = pb) (by decide) mixed (by kernel_rfl) ?_
    generalize w2.drew = wd at *
    (repeat (first | ((first | refine pas_plain rfl ?_ | refine pas_g rfl rfl ?_ | refine act_plain rfl ?_ | refine act_g rfl rfl ?_ | refine last_plain rfl ?_ | refine tail_plain rfl ?_ | refine tail_g rfl rfl ?_); (repeat simp only [push_cast, seval, -Nat.reduceSubDiff, eq_self, cell_h, cellO_cells, hhd])) | (refine tail_fin ?_) | (refine sch_fin ?_)))
    refine two_mk ?_ ?_
    · (repeat (first | ((first | refine pas_plain rfl ?_ | refine pas_g rfl rfl ?_ | refine act_plain rfl ?_ | refine act_g rfl rfl ?_ | refine last_plain rfl ?_ | refine tail_plain rfl ?_ | refine tail_g rfl rfl ?_); (repeat simp only [push_cast, seval, -Nat.reduceSubDiff])) | (refine tail_fin ?_) | (refine sch_fin ?_)))
      refine (hA wd (Ext.refl wd)).mono ?_
      intro v w' ⟨hv, hw⟩
      subst hv; subst w'
      refine ⟨kept.refl _ _, ?_⟩
      (repeat (first | ((first | refine pas_plain rfl ?_ | refine pas_g rfl rfl ?_ | refine act_plain rfl ?_ | refine act_g rfl rfl ?_ | refine last_plain rfl ?_ | refine tail_plain rfl ?_ | refine tail_g rfl rfl ?_); (repeat simp only [push_cast, seval, -Nat.reduceSubDiff])) | (refine tail_fin ?_) | (refine sch_fin ?_)))
      refine two_mk ?_ ?_
      · (repeat (first | ((first | refine pas_plain rfl ?_ | refine pas_g rfl rfl ?_ | refine act_plain rfl ?_ | refine act_g rfl rfl ?_ | refine last_plain rfl ?_ | refine tail_plain rfl ?_ | refine tail_g rfl rfl ?_); (repeat simp only [push_cast, seval, -Nat.reduceSubDiff])) | (refine tail_fin ?_) | (refine sch_fin ?_)))
        refine (bnode_c (hd.pass (Ext.refl wd)) hb nk).mono ?_
        rintro v wn1 ⟨m, rfl, hm, hok, hxn1, _⟩
        have hxw1 := Ext.trans (Ext.refl wd) hxn1
        refine ⟨kept_upd hxn1 fun q hq => ⟨by have : q = pb := hq; have := Ext.sz (Ext.refl wd); omega, id⟩, ?_⟩
        (repeat (first | ((first | refine pas_plain rfl ?_ | refine pas_g rfl rfl ?_ | refine act_plain rfl ?_ | refine act_g rfl rfl ?_ | refine last_plain rfl ?_ | refine tail_plain rfl ?_ | refine tail_g rfl rfl ?_); (repeat simp only [push_cast, seval, -Nat.reduceSubDiff])) | (refine tail_fin ?_) | (refine sch_fin ?_)))
        refine bs_one styS (by decide) (by decide) (v := .string x) rfl ?_
        rw [vc_str]
        have nm2 := names1 wn1 x
        have hxa2 := Ext.alloc wn1 (.cells #[.string x] 9)
        have hxw2 := Ext.trans hxw1 hxa2
        refine ⟨kept_upd hxa2 fun q hq => ⟨by have : q = pb := hq; have := Ext.sz hxw1; omega, id⟩, ?_⟩
        generalize (World.alloc wn1 (.cells #[.string x] 9)) = wn2 at *
        (repeat (first | ((first | refine pas_plain rfl ?_ | refine pas_g rfl rfl ?_ | refine act_plain rfl ?_ | refine act_g rfl rfl ?_ | refine last_plain rfl ?_ | refine tail_plain rfl ?_ | refine tail_g rfl rfl ?_); (repeat simp only [push_cast, seval, -Nat.reduceSubDiff])) | (refine tail_fin ?_) | (refine sch_fin ?_)))
        refine (bhtml_c m nm2 (show 1 < 1000000000 by decide)).mono ?_
        rintro v we ⟨rfl, hxe⟩
        rw [hm]
        refine ⟨kept_upd hxe fun q hq => ⟨by have : q = pb := hq; have := Ext.sz hxw2; omega, id⟩, ?_⟩
        (repeat (first | ((first | refine pas_plain rfl ?_ | refine pas_g rfl rfl ?_ | refine act_plain rfl ?_ | refine act_g rfl rfl ?_ | refine last_plain rfl ?_ | refine tail_plain rfl ?_ | refine tail_g rfl rfl ?_); (repeat simp only [push_cast, seval, -Nat.reduceSubDiff])) | (refine tail_fin ?_) | (refine sch_fin ?_)))
        have hxo := hxd.trans (Ext.trans hxw2 hxe)
        cases hz : htmlN (nodeN b.L nk) [x]
        · rw [hz, if_neg (by decide)] at he
          (repeat first|(with_reducible first|(refine hK _ _ ?_;clear hK K)|refine ‹∀σ w,_→K σ w› _ _ ?_|(refine W_st ?_;constructor;try intro K hK))|((with_reducible first|refine hZ _ _ ?_|refine W_rg ?_|skip);repeat1' simp only[push_cast,seval,-Nat.reduceSubDiff,b2])|((repeat((fail_if_success with_reducible refine hK _ _ ?_);clear hK K));with_reducible refine hK _ _ ?_;clear hK K))
          refine ⟨k, by omega, ?_⟩
          (repeat simp only [push_cast, seval, -Nat.reduceSubDiff])
          exact ⟨by omega, he, hxo⟩
        · rw [hz, if_pos rfl] at he
          (repeat first|(with_reducible first|(refine hK _ _ ?_;clear hK K)|refine ‹∀σ w,_→K σ w› _ _ ?_|(refine W_st ?_;constructor;try intro K hK))|((with_reducible first|refine hZ _ _ ?_|refine W_rg ?_|skip);repeat1' simp only[push_cast,seval,-Nat.reduceSubDiff])|((repeat((fail_if_success with_reducible refine hK _ _ ?_);clear hK K));with_reducible refine hK _ _ ?_;clear hK K))
          exact ⟨he.symm, hxo⟩
      · (repeat (first | ((first | refine pas_plain rfl ?_ | refine pas_g rfl rfl ?_ | refine act_plain rfl ?_ | refine act_g rfl rfl ?_ | refine last_plain rfl ?_ | refine tail_plain rfl ?_ | refine tail_g rfl rfl ?_); (repeat simp only [push_cast, seval, -Nat.reduceSubDiff])) | (refine tail_fin ?_) | (refine sch_fin ?_)))
        refine bs_one styS (by decide) (by decide) (v := .string x) rfl ?_
        rw [vc_str]
        have nm3 := names1 wd x
        have hxa3 := Ext.alloc wd (.cells #[.string x] 9)
        have hxw3 := Ext.trans (Ext.refl wd) hxa3
        refine ⟨kept_upd hxa3 fun q hq => ⟨by have : q = pb := hq; have := Ext.sz (Ext.refl wd); omega, id⟩, ?_⟩
        generalize (World.alloc wd (.cells #[.string x] 9)) = wn3 at *
        (repeat (first | ((first | refine pas_plain rfl ?_ | refine pas_g rfl rfl ?_ | refine act_plain rfl ?_ | refine act_g rfl rfl ?_ | refine last_plain rfl ?_ | refine tail_plain rfl ?_ | refine tail_g rfl rfl ?_); (repeat simp only [push_cast, seval, -Nat.reduceSubDiff])) | (refine tail_fin ?_) | (refine sch_fin ?_)))
        refine (bnode_c (hd.pass hxw3) hb nk).mono ?_
        rintro v wn4 ⟨m, rfl, hm, hok, hxn4, _⟩
        have hxw4 := Ext.trans hxw3 hxn4
        refine ⟨kept_upd hxn4 fun q hq => ⟨by have : q = pb := hq; have := Ext.sz hxw3; omega, id⟩, ?_⟩
        have nm4 := nm3.ext hxn4
        (repeat (first | ((first | refine pas_plain rfl ?_ | refine pas_g rfl rfl ?_ | refine act_plain rfl ?_ | refine act_g rfl rfl ?_ | refine last_plain rfl ?_ | refine tail_plain rfl ?_ | refine tail_g rfl rfl ?_); (repeat simp only [push_cast, seval, -Nat.reduceSubDiff])) | (refine tail_fin ?_) | (refine sch_fin ?_)))
        refine (bhtml_c m nm4 (show 1 < 1000000000 by decide)).mono ?_
        rintro v we ⟨rfl, hxe⟩
        rw [hm]
        refine ⟨kept_upd hxe fun q hq => ⟨by have : q = pb := hq; have := Ext.sz hxw4; omega, id⟩, ?_⟩
        (repeat (first | ((first | refine pas_plain rfl ?_ | refine pas_g rfl rfl ?_ | refine act_plain rfl ?_ | refine act_g rfl rfl ?_ | refine last_plain rfl ?_ | refine tail_plain rfl ?_ | refine tail_g rfl rfl ?_); (repeat simp only [push_cast, seval, -Nat.reduceSubDiff])) | (refine tail_fin ?_) | (refine sch_fin ?_)))
        have hxo := hxd.trans (Ext.trans hxw4 hxe)
        cases hz : htmlN (nodeN b.L nk) [x]
        · rw [hz, if_neg (by decide)] at he
          (repeat first|(with_reducible first|(refine hK _ _ ?_;clear hK K)|refine ‹∀σ w,_→K σ w› _ _ ?_|(refine W_st ?_;constructor;try intro K hK))|((with_reducible first|refine hZ _ _ ?_|refine W_rg ?_|skip);repeat1' simp only[push_cast,seval,-Nat.reduceSubDiff,b2])|((repeat((fail_if_success with_reducible refine hK _ _ ?_);clear hK K));with_reducible refine hK _ _ ?_;clear hK K))
          refine ⟨k, by omega, ?_⟩
          (repeat simp only [push_cast, seval, -Nat.reduceSubDiff])
          exact ⟨by omega, he, hxo⟩
        · rw [hz, if_pos rfl] at he
          (repeat first|(with_reducible first|(refine hK _ _ ?_;clear hK K)|refine ‹∀σ w,_→K σ w› _ _ ?_|(refine W_st ?_;constructor;try intro K hK))|((with_reducible first|refine hZ _ _ ?_|refine W_rg ?_|skip);repeat1' simp only[push_cast,seval,-Nat.reduceSubDiff])|((repeat((fail_if_success with_reducible refine hK _ _ ?_);clear hK K));with_reducible refine hK _ _ ?_;clear hK K))
          exact ⟨he.symm, hxo⟩
    · (repeat (first | ((first | refine pas_plain rfl ?_ | refine pas_g rfl rfl ?_ | refine act_plain rfl ?_ | refine act_g rfl rfl ?_ | refine last_plain rfl ?_ | refine tail_plain rfl ?_ | refine tail_g rfl rfl ?_); (repeat simp only [push_cast, seval, -Nat.reduceSubDiff])) | (refine tail_fin ?_) | (refine sch_fin ?_)))
      refine bs_one styS (by decide) (by decide) (v := .string x) rfl ?_
      rw [vc_str]
      have nm5 := names1 wd x
      have hxa5 := Ext.alloc wd (.cells #[.string x] 9)
      have hxw5 := Ext.trans (Ext.refl wd) hxa5
      refine ⟨kept_upd hxa5 fun q hq => ⟨by have : q = pb := hq; have := Ext.sz (Ext.refl wd); omega, id⟩, ?_⟩
      generalize (World.alloc wd (.cells #[.string x] 9)) = wn5 at *
      (repeat (first | ((first | refine pas_plain rfl ?_ | refine pas_g rfl rfl ?_ | refine act_plain rfl ?_ | refine act_g rfl rfl ?_ | refine last_plain rfl ?_ | refine tail_plain rfl ?_ | refine tail_g rfl rfl ?_); (repeat simp only [push_cast, seval, -Nat.reduceSubDiff])) | (refine tail_fin ?_) | (refine sch_fin ?_)))
      refine (hA wn5 hxw5).mono ?_
      intro v w' ⟨hv, hw⟩
      subst hv; subst w'
      refine ⟨kept.refl _ _, ?_⟩
      (repeat (first | ((first | refine pas_plain rfl ?_ | refine pas_g rfl rfl ?_ | refine act_plain rfl ?_ | refine act_g rfl rfl ?_ | refine last_plain rfl ?_ | refine tail_plain rfl ?_ | refine tail_g rfl rfl ?_); (repeat simp only [push_cast, seval, -Nat.reduceSubDiff])) | (refine tail_fin ?_) | (refine sch_fin ?_)))
      refine (bnode_c (hd.pass hxw5) hb nk).mono ?_
      rintro v wn6 ⟨m, rfl, hm, hok, hxn6, _⟩
      have hxw6 := Ext.trans hxw5 hxn6
      refine ⟨kept_upd hxn6 fun q hq => ⟨by have : q = pb := hq; have := Ext.sz hxw5; omega, id⟩, ?_⟩
      have nm6 := nm5.ext hxn6
      (repeat (first | ((first | refine pas_plain rfl ?_ | refine pas_g rfl rfl ?_ | refine act_plain rfl ?_ | refine act_g rfl rfl ?_ | refine last_plain rfl ?_ | refine tail_plain rfl ?_ | refine tail_g rfl rfl ?_); (repeat simp only [push_cast, seval, -Nat.reduceSubDiff])) | (refine tail_fin ?_) | (refine sch_fin ?_)))
      refine (bhtml_c m nm6 (show 1 < 1000000000 by decide)).mono ?_
      rintro v we ⟨rfl, hxe⟩
      rw [hm]
      refine ⟨kept_upd hxe fun q hq => ⟨by have : q = pb := hq; have := Ext.sz hxw6; omega, id⟩, ?_⟩
      (repeat (first | ((first | refine pas_plain rfl ?_ | refine pas_g rfl rfl ?_ | refine act_plain rfl ?_ | refine act_g rfl rfl ?_ | refine last_plain rfl ?_ | refine tail_plain rfl ?_ | refine tail_g rfl rfl ?_); (repeat simp only [push_cast, seval, -Nat.reduceSubDiff])) | (refine tail_fin ?_) | (refine sch_fin ?_)))
      have hxo := hxd.trans (Ext.trans hxw6 hxe)
      cases hz : htmlN (nodeN b.L nk) [x]
      · rw [hz, if_neg (by decide)] at he
        (repeat first|(with_reducible first|(refine hK _ _ ?_;clear hK K)|refine ‹∀σ w,_→K σ w› _ _ ?_|(refine W_st ?_;constructor;try intro K hK))|((with_reducible first|refine hZ _ _ ?_|refine W_rg ?_|skip);repeat1' simp only[push_cast,seval,-Nat.reduceSubDiff,b2])|((repeat((fail_if_success with_reducible refine hK _ _ ?_);clear hK K));with_reducible refine hK _ _ ?_;clear hK K))
        refine ⟨k, by omega, ?_⟩
        (repeat simp only [push_cast, seval, -Nat.reduceSubDiff])
        exact ⟨by omega, he, hxo⟩
      · rw [hz, if_pos rfl] at he
        (repeat first|(with_reducible first|(refine hK _ _ ?_;clear hK K)|refine ‹∀σ w,_→K σ w› _ _ ?_|(refine W_st ?_;constructor;try intro K hK))|((with_reducible first|refine hZ _ _ ?_|refine W_rg ?_|skip);repeat1' simp only[push_cast,seval,-Nat.reduceSubDiff])|((repeat((fail_if_success with_reducible refine hK _ _ ?_);clear hK K));with_reducible refine hK _ _ ?_;clear hK K))
        exact ⟨he.symm, hxo⟩
-- blast end
end
end Go.Proofs.YtgnnlaeikcnhcaaGreatDoor
end
section
set_option linter.unusedSimpArgs false
set_option linter.unusedVariables false
namespace Go.Proofs.YtgnnlaeikcnhcaaGreatDoor
open Go Go.Vk
set_option maxHeartbeats 40000000
theorem fld6 (m : Laid) (w : World) (K : Value → World → Prop) : Pure1 Tryz.prog (Instr.field 46 m.val 6) w K = K (.int .i64 m.nd.parent) w :=
  Pure1_eq (fun w => by rw [Laid.val_eq]; simp [Instr.field, run_underlying Tryz.underlying46, asAgg, part, Tryz.sizeOf3, Sem.run]) w K
section
variable {w0 w : World} {Q : Nat → Prop} {pb ps pl pa : Nat} {b : BSt}
theorem bfost_c (h : BuAt w0 w Q pb ps pl pa b) (hb : okB b) : Gives Tryz.prog 135 #[.pointer (some ⟨pb, 0, none⟩)] w fun v w' => v = .tuple #[.int .i64 (fosterB b).1, .int .i64 (fosterB b).2] ∧ Ext w w' := by
  have hs := hb.s
  have r1 := lastB_rng (fun k => htmlN (nodeN b.L (b.s.getD k zS).node) [sTable]) b.s.length
  have s1 : inI64 (lastBu b sTable - 1) := by unfold inI64 lastBu; omega
  obtain ⟨fp, hfp⟩ : ∃ fp, fp = fosterB b := ⟨_, rfl⟩
  rw [← hfp]
  unfold fosterB at hfp
  refine Gives.of_W Tryz.call135 Tryz.func135 rfl Tryz.ntmps135 (by simp) ?_; intro Z hZ
  (repeat first|(with_reducible first|(refine hK _ _ ?_;clear hK K)|refine ‹∀σ w,_→K σ w› _ _ ?_|(refine W_st ?_;constructor;try intro K hK))|((with_reducible first|refine hZ _ _ ?_|refine W_rg ?_|skip);repeat1' simp only[push_cast,seval,-Nat.reduceSubDiff])|((repeat((fail_if_success with_reducible refine hK _ _ ?_);clear hK K));with_reducible refine hK _ _ ?_;clear hK K))
  refine (blast_c h hb tmpl).mono ?_
  rintro v w2 ⟨rfl, hx2⟩
  have h2 := h.pass hx2
  (repeat first|(with_reducible first|(refine hK _ _ ?_;clear hK K)|refine ‹∀σ w,_→K σ w› _ _ ?_|(refine W_st ?_;constructor;try intro K hK))|((with_reducible first|refine hZ _ _ ?_|refine W_rg ?_|skip);repeat1' simp only[push_cast,seval,-Nat.reduceSubDiff])|((repeat((fail_if_success with_reducible refine hK _ _ ?_);clear hK K));with_reducible refine hK _ _ ?_;clear hK K))
  refine (blast_c h2 hb sTable).mono ?_
  rintro v w3 ⟨rfl, hx3⟩
  have h3 := h2.pass hx3
  have hx13 := hx2.trans hx3
  obtain ⟨ma, mn, mc, av, _, _, hh⟩ := h3.hd
  generalize lastBu b tmpl = te at *
  generalize lastBu b sTable = ta at *
  by_cases c1 : ta < te
  · rw [if_pos c1] at hfp
    subst hfp
    (repeat first|(with_reducible first|(refine hK _ _ ?_;clear hK K)|refine ‹∀σ w,_→K σ w› _ _ ?_|(refine W_st ?_;constructor;try intro K hK))|((with_reducible first|refine hZ _ _ ?_|refine W_rg ?_|skip);repeat1' simp only[push_cast,seval,-Nat.reduceSubDiff,c1,cell_h,cellO_cells,hh])|((repeat((fail_if_success with_reducible refine hK _ _ ?_);clear hK K));with_reducible refine hK _ _ ?_;clear hK K))
    refine (bsat_c h3 te).mono ?_
    intro v w' ⟨hv, hw⟩
    subst hv; subst w'
    (repeat first|(with_reducible first|(refine hK _ _ ?_;clear hK K)|refine ‹∀σ w,_→K σ w› _ _ ?_|(refine W_st ?_;constructor;try intro K hK))|((with_reducible first|refine hZ _ _ ?_|refine W_rg ?_|skip);repeat1' simp only[push_cast,seval,-Nat.reduceSubDiff])|((repeat((fail_if_success with_reducible refine hK _ _ ?_);clear hK K));with_reducible refine hK _ _ ?_;clear hK K))
    exact hx13
  rw [if_neg c1] at hfp
  by_cases c2 : ta < 0
  · rw [if_pos c2] at hfp
    subst hfp
    (repeat first|(with_reducible first|(refine hK _ _ ?_;clear hK K)|refine ‹∀σ w,_→K σ w› _ _ ?_|(refine W_st ?_;constructor;try intro K hK))|((with_reducible first|refine hZ _ _ ?_|refine W_rg ?_|skip);repeat1' simp only[push_cast,seval,-Nat.reduceSubDiff,c1,c2,cell_h,cellO_cells,hh])|((repeat((fail_if_success with_reducible refine hK _ _ ?_);clear hK K));with_reducible refine hK _ _ ?_;clear hK K))
    refine (bsat_c h3 0).mono ?_
    intro v w' ⟨hv, hw⟩
    subst hv; subst w'
    (repeat first|(with_reducible first|(refine hK _ _ ?_;clear hK K)|refine ‹∀σ w,_→K σ w› _ _ ?_|(refine W_st ?_;constructor;try intro K hK))|((with_reducible first|refine hZ _ _ ?_|refine W_rg ?_|skip);repeat1' simp only[push_cast,seval,-Nat.reduceSubDiff])|((repeat((fail_if_success with_reducible refine hK _ _ ?_);clear hK K));with_reducible refine hK _ _ ?_;clear hK K))
    exact hx13
  rw [if_neg c2] at hfp
  (repeat first|(with_reducible first|(refine hK _ _ ?_;clear hK K)|refine ‹∀σ w,_→K σ w› _ _ ?_|(refine W_st ?_;constructor;try intro K hK))|((with_reducible first|refine hZ _ _ ?_|refine W_rg ?_|skip);repeat1' simp only[push_cast,seval,-Nat.reduceSubDiff,c1,c2,cell_h,cellO_cells,hh])|((repeat((fail_if_success with_reducible refine hK _ _ ?_);clear hK K));with_reducible refine hK _ _ ?_;clear hK K))
  refine (bsat_c h3 ta).mono ?_
  intro v w' ⟨hv, hw⟩
  subst hv; subst w'
  generalize atS b.s ta = tn at *
  (repeat first|(with_reducible first|(refine hK _ _ ?_;clear hK K)|refine ‹∀σ w,_→K σ w› _ _ ?_|(refine W_st ?_;constructor;try intro K hK))|((with_reducible first|refine hZ _ _ ?_|refine W_rg ?_|skip);repeat1' simp only[push_cast,seval,-Nat.reduceSubDiff,cell_h,cellO_cells,hh])|((repeat((fail_if_success with_reducible refine hK _ _ ?_);clear hK K));with_reducible refine hK _ _ ?_;clear hK K))
  refine (bnode_c h3 hb tn).mono ?_
  rintro v w4 ⟨m, rfl, hm, hok, hx4, _⟩
  have h4 := h3.pass hx4
  have hh4 := hx4.blk hh
  have hx14 := hx13.trans hx4
  rw [← hm] at hfp
  by_cases c3 : 0 ≤ m.nd.parent
  · rw [if_pos c3] at hfp
    subst hfp
    (repeat first|(with_reducible first|(refine hK _ _ ?_;clear hK K)|refine ‹∀σ w,_→K σ w› _ _ ?_|(refine W_st ?_;constructor;try intro K hK))|((with_reducible first|refine hZ _ _ ?_|refine W_rg ?_|skip);repeat1' simp only[push_cast,seval,-Nat.reduceSubDiff,fld6,c3])|((repeat((fail_if_success with_reducible refine hK _ _ ?_);clear hK K));with_reducible refine hK _ _ ?_;clear hK K))
    exact hx14
  · rw [if_neg c3] at hfp
    subst hfp
    (repeat first|(with_reducible first|(refine hK _ _ ?_;clear hK K)|refine ‹∀σ w,_→K σ w› _ _ ?_|(refine W_st ?_;constructor;try intro K hK))|((with_reducible first|refine hZ _ _ ?_|refine W_rg ?_|skip);repeat1' simp only[push_cast,seval,-Nat.reduceSubDiff,fld6,c3,cell_h,cellO_cells,hh4,s1])|((repeat((fail_if_success with_reducible refine hK _ _ ?_);clear hK K));with_reducible refine hK _ _ ?_;clear hK K))
    refine (bsat_c h4 (ta - 1)).mono ?_
    intro v w' ⟨hv, hw⟩
    subst hv; subst w'
    (repeat first|(with_reducible first|(refine hK _ _ ?_;clear hK K)|refine ‹∀σ w,_→K σ w› _ _ ?_|(refine W_st ?_;constructor;try intro K hK))|((with_reducible first|refine hZ _ _ ?_|refine W_rg ?_|skip);repeat1' simp only[push_cast,seval,-Nat.reduceSubDiff])|((repeat((fail_if_success with_reducible refine hK _ _ ?_);clear hK K));with_reducible refine hK _ _ ?_;clear hK K))
    exact hx14
theorem btarg_c (h : BuAt w0 w Q pb ps pl pa b) (hb : okB b) : Gives Tryz.prog 100 #[.pointer (some ⟨pb, 0, none⟩)] w fun v w' => v = .int .i64 (targB b) ∧ w' = w := by
  obtain ⟨ma, mn, mc, av, _, _, hh⟩ := h.hd
  unfold targB
  refine Gives.of_W Tryz.call100 Tryz.func100 rfl Tryz.ntmps100 (by simp) ?_; intro Z hZ
  (repeat first|(with_reducible first|(refine hK _ _ ?_;clear hK K)|refine ‹∀σ w,_→K σ w› _ _ ?_|(refine W_st ?_;constructor;try intro K hK))|((with_reducible first|refine hZ _ _ ?_|refine W_rg ?_|skip);repeat1' simp only[push_cast,seval,-Nat.reduceSubDiff,cell_h,cellO_cells,hh])|((repeat((fail_if_success with_reducible refine hK _ _ ?_);clear hK K));with_reducible refine hK _ _ ?_;clear hK K))
  refine (btop_c h hb).mono ?_
  intro v w' ⟨hv, hw⟩
  subst hv; subst w'
  (repeat first|(with_reducible first|(refine hK _ _ ?_;clear hK K)|refine ‹∀σ w,_→K σ w› _ _ ?_|(refine W_st ?_;constructor;try intro K hK))|((with_reducible first|refine hZ _ _ ?_|refine W_rg ?_|skip);repeat1' simp only[push_cast,seval,-Nat.reduceSubDiff,max_int])|((repeat((fail_if_success with_reducible refine hK _ _ ?_);clear hK K));with_reducible refine hK _ _ ?_;clear hK K))
end
end Go.Proofs.YtgnnlaeikcnhcaaGreatDoor
end
section
set_option linter.unusedSimpArgs false
set_option linter.unusedVariables false
namespace Go.Proofs.YtgnnlaeikcnhcaaGreatDoor
open Go Go.Vk
set_option maxHeartbeats 40000000
section
variable {w0 w : World} {Q : Nat → Prop} {pb ps pl pa : Nat} {b : BSt}
theorem bplace_c (h : BuAt w0 w Q pb ps pl pa b) (hb : okB b) (t : Int) : Gives Tryz.prog 80 #[.pointer (some ⟨pb, 0, none⟩), .int .i64 t] w fun v w' => v = .tuple #[.int .i64 (placeB b t).1, .int .i64 (placeB b t).2] ∧ Ext w w' := by
  obtain ⟨ma, mn, mc, av, _, _, hh⟩ := h.hd
  refine Gives.of_W Tryz.call80 Tryz.func80 rfl Tryz.ntmps80 (by simp) ?_; intro Z hZ
  (repeat first|(with_reducible first|(refine hK _ _ ?_;clear hK K)|refine ‹∀σ w,_→K σ w› _ _ ?_|(refine W_st ?_;constructor;try intro K hK))|((with_reducible first|refine hZ _ _ ?_|refine W_rg ?_|skip);repeat1' simp only[push_cast,seval,-Nat.reduceSubDiff])|((repeat((fail_if_success with_reducible refine hK _ _ ?_);clear hK K));with_reducible refine hK _ _ ?_;clear hK K))
  refine (bnone_c h).mono ?_
  intro v w' ⟨hv, hw⟩
  subst hv; subst w'
  cases hf : b.foster with
  | false =>
    rw [hf] at hh
    have e1 : place1 b t = (t, -1) := by unfold place1; rw [if_neg (fun h => by rw [hf] at h; cases h.1)]
    (repeat first|(with_reducible first|(refine hK _ _ ?_;clear hK K)|refine ‹∀σ w,_→K σ w› _ _ ?_|(refine W_st ?_;constructor;try intro K hK))|((with_reducible first|refine hZ _ _ ?_|refine W_rg ?_|skip);repeat1' simp only[push_cast,seval,-Nat.reduceSubDiff,cell_h,cellO_cells,hh])|((repeat((fail_if_success with_reducible refine hK _ _ ?_);clear hK K));with_reducible refine hK _ _ ?_;clear hK K))
    obtain ⟨ma', mn', mc', av', _, _, hhr⟩ := BuAt.hd h
    (repeat first|(with_reducible first|(refine hK _ _ ?_;clear hK K)|refine ‹∀σ w,_→K σ w› _ _ ?_|(refine W_st ?_;constructor;try intro K hK))|((with_reducible first|refine hZ _ _ ?_|refine W_rg ?_|skip);repeat1' simp only[push_cast,seval,-Nat.reduceSubDiff,cell_h,cellO_cells,hhr])|((repeat((fail_if_success with_reducible refine hK _ _ ?_);clear hK K));with_reducible refine hK _ _ ?_;clear hK K))
    refine (bnode_c h hb t).mono ?_
    rintro v w7 ⟨m, rfl, hm, hok, hx7, hbk⟩
    have hpl : placeB b t = if (-1) < 0 ∧ htmlN m.nd [tmpl] = true then (m.nd.content, (-1)) else (t, (-1)) := by
      unfold placeB
      rw [e1, hm]
    obtain ⟨xa, xn, xc, exa, _⟩ := hok.attrs.len
    obtain ⟨ya, yn, yc, eya, _⟩ := hok.kids.len
    have ev : m.val = .agg #[.int .i64 m.nd.kind, .string m.nd.name, .string m.nd.text, .int .i64 m.nd.space, .slice xa xn xc, .bool m.nd.dup, .int .i64 m.nd.parent, .int .i64 m.nd.content, .slice ya yn yc, .int .i64 m.nd.frm, .int .i64 m.nd.to] := by rw [Laid.val_eq, exa, eya]
    rw [ev]
    (repeat first|(with_reducible first|(refine hK _ _ ?_;clear hK K)|refine ‹∀σ w,_→K σ w› _ _ ?_|(refine W_st ?_;constructor;try intro K hK))|((with_reducible first|refine hZ _ _ ?_|refine W_rg ?_|skip);repeat1' simp only[push_cast,seval,-Nat.reduceSubDiff,RunV_zero Tryz.zeroValue46,vcells_agg])|((repeat((fail_if_success with_reducible refine hK _ _ ?_);clear hK K));with_reducible refine hK _ _ ?_;clear hK K))
    simp only [can_h, heap_alloc_h, if_true, canO_cells, List.size_toArray, List.length_cons, List.length_nil, Nat.zero_add, Nat.reduceAdd, Nat.reduceLT, true_and]
    obtain ⟨hx8, hp8⟩ := newL w7 #[.int .i64 0, .string ⟨#[]⟩, .string ⟨#[]⟩, .int .i64 0, .slice none 0 0, .bool false, .int .i64 0, .int .i64 0, .slice none 0 0, .int .i64 0, .int .i64 0] [.int .i64 m.nd.kind, .string m.nd.name, .string m.nd.text, .int .i64 m.nd.space, .slice xa xn xc, .bool m.nd.dup, .int .i64 m.nd.parent, .int .i64 m.nd.content, .slice ya yn yc, .int .i64 m.nd.frm, .int .i64 m.nd.to] 46 rfl
    generalize setCells (w7.alloc (.cells #[.int .i64 0, .string ⟨#[]⟩, .string ⟨#[]⟩, .int .i64 0, .slice none 0 0, .bool false, .int .i64 0, .int .i64 0, .slice none 0 0, .int .i64 0, .int .i64 0] 46)) ⟨w7.heap.size, 0, none⟩ [.int .i64 m.nd.kind, .string m.nd.name, .string m.nd.text, .int .i64 m.nd.space, .slice xa xn xc, .bool m.nd.dup, .int .i64 m.nd.parent, .int .i64 m.nd.content, .slice ya yn yc, .int .i64 m.nd.frm, .int .i64 m.nd.to] 0 = w8 at *
    obtain ⟨p8, hpe⟩ : ∃ p8, p8 = w7.heap.size := ⟨_, rfl⟩
    rw [← hpe] at hp8 ⊢
    have hx08 := ((Ext.refl w).trans hx7).trans hx8
    by_cases hr : (-1) < 0
    · (repeat first|(with_reducible first|(refine hK _ _ ?_;clear hK K)|refine ‹∀σ w,_→K σ w› _ _ ?_|(refine W_st ?_;constructor;try intro K hK))|((with_reducible first|refine hZ _ _ ?_|refine W_rg ?_|skip);repeat1' simp only[push_cast,seval,-Nat.reduceSubDiff,hr,cell_h,cellO_cells,hp8,decide_true])|((repeat((fail_if_success with_reducible refine hK _ _ ?_);clear hK K));with_reducible refine hK _ _ ?_;clear hK K))
      refine bs_one styS (by decide) (by decide) (v := .string tmpl) rfl ?_
      rw [vc_str]
      have n1 := names1 w8 tmpl
      have hx9 := hx08.trans (Ext.alloc w8 (.cells #[.string tmpl] 9))
      have hp9 := (Ext.alloc w8 (.cells #[.string tmpl] 9)).blk hp8
      generalize w8.alloc (.cells #[.string tmpl] 9) = w9 at *
      rw [← ev]
      refine (bhtml_c m n1 (show 1 < 1000000000 by decide)).mono ?_
      rintro v w10 ⟨rfl, hx10⟩
      have hp10 := hx10.blk hp9
      cases hz : htmlN m.nd [tmpl]
      · rw [hz, if_neg (fun h => by cases h.2)] at hpl
        (repeat first|(with_reducible first|(refine hK _ _ ?_;clear hK K)|refine ‹∀σ w,_→K σ w› _ _ ?_|(refine W_st ?_;constructor;try intro K hK))|((with_reducible first|refine hZ _ _ ?_|refine W_rg ?_|skip);repeat1' simp only[push_cast,seval,-Nat.reduceSubDiff])|((repeat((fail_if_success with_reducible refine hK _ _ ?_);clear hK K));with_reducible refine hK _ _ ?_;clear hK K))
        rw [hpl]
        exact ⟨rfl, hx9.trans hx10⟩
      · rw [hz, if_pos ⟨hr, rfl⟩] at hpl
        (repeat first|(with_reducible first|(refine hK _ _ ?_;clear hK K)|refine ‹∀σ w,_→K σ w› _ _ ?_|(refine W_st ?_;constructor;try intro K hK))|((with_reducible first|refine hZ _ _ ?_|refine W_rg ?_|skip);repeat1' simp only[push_cast,seval,-Nat.reduceSubDiff,cell_h,cellO_cells,hp10])|((repeat((fail_if_success with_reducible refine hK _ _ ?_);clear hK K));with_reducible refine hK _ _ ?_;clear hK K))
        rw [hpl]
        exact ⟨rfl, hx9.trans hx10⟩
    · rw [if_neg (fun h => hr h.1)] at hpl
      (repeat first|(with_reducible first|(refine hK _ _ ?_;clear hK K)|refine ‹∀σ w,_→K σ w› _ _ ?_|(refine W_st ?_;constructor;try intro K hK))|((with_reducible first|refine hZ _ _ ?_|refine W_rg ?_|skip);repeat1' simp only[push_cast,seval,-Nat.reduceSubDiff,hr,decide_false])|((repeat((fail_if_success with_reducible refine hK _ _ ?_);clear hK K));with_reducible refine hK _ _ ?_;clear hK K))
      rw [hpl]
      exact ⟨rfl, hx08⟩
  | true =>
    rw [hf] at hh
    (repeat first|(with_reducible first|(refine hK _ _ ?_;clear hK K)|refine ‹∀σ w,_→K σ w› _ _ ?_|(refine W_st ?_;constructor;try intro K hK))|((with_reducible first|refine hZ _ _ ?_|refine W_rg ?_|skip);repeat1' simp only[push_cast,seval,-Nat.reduceSubDiff,cell_h,cellO_cells,hh])|((repeat((fail_if_success with_reducible refine hK _ _ ?_);clear hK K));with_reducible refine hK _ _ ?_;clear hK K))
    refine (bnode_c h hb t).mono ?_
    rintro v w2 ⟨mt, rfl, hmt, hokt, hx2, _⟩
    (repeat first|(with_reducible first|(refine hK _ _ ?_;clear hK K)|refine ‹∀σ w,_→K σ w› _ _ ?_|(refine W_st ?_;constructor;try intro K hK))|((with_reducible first|refine hZ _ _ ?_|refine W_rg ?_|skip);repeat1' simp only[push_cast,seval,-Nat.reduceSubDiff])|((repeat((fail_if_success with_reducible refine hK _ _ ?_);clear hK K));with_reducible refine hK _ _ ?_;clear hK K))
    refine bsl (l := tabs5) rfl (by decide) (by decide) (by kernel_rfl) fun u w3 hx3 hn hu => ?_
    refine (bhtml_c mt hn (show 5 < 1000000000 by decide)).mono ?_
    rintro v w4 ⟨rfl, hx4⟩
    rw [hmt]
    have hx24 := (hx2.trans hx3).trans hx4
    have h4 := h.pass hx24
    cases hz : htmlN (nodeN b.L t) tabs5 with
    | false =>
      have e1 : place1 b t = (t, -1) := by unfold place1; rw [if_neg (fun h => by rw [hz] at h; cases h.2)]
      (repeat first|(with_reducible first|(refine hK _ _ ?_;clear hK K)|refine ‹∀σ w,_→K σ w› _ _ ?_|(refine W_st ?_;constructor;try intro K hK))|((with_reducible first|refine hZ _ _ ?_|refine W_rg ?_|skip);repeat1' simp only[push_cast,seval,-Nat.reduceSubDiff])|((repeat((fail_if_success with_reducible refine hK _ _ ?_);clear hK K));with_reducible refine hK _ _ ?_;clear hK K))
      obtain ⟨ma', mn', mc', av', _, _, hhr⟩ := BuAt.hd h4
      (repeat first|(with_reducible first|(refine hK _ _ ?_;clear hK K)|refine ‹∀σ w,_→K σ w› _ _ ?_|(refine W_st ?_;constructor;try intro K hK))|((with_reducible first|refine hZ _ _ ?_|refine W_rg ?_|skip);repeat1' simp only[push_cast,seval,-Nat.reduceSubDiff,cell_h,cellO_cells,hhr])|((repeat((fail_if_success with_reducible refine hK _ _ ?_);clear hK K));with_reducible refine hK _ _ ?_;clear hK K))
      refine (bnode_c h4 hb t).mono ?_
      rintro v w7 ⟨m, rfl, hm, hok, hx7, hbk⟩
      have hpl : placeB b t = if (-1) < 0 ∧ htmlN m.nd [tmpl] = true then (m.nd.content, (-1)) else (t, (-1)) := by
        unfold placeB
        rw [e1, hm]
      obtain ⟨xa, xn, xc, exa, _⟩ := hok.attrs.len
      obtain ⟨ya, yn, yc, eya, _⟩ := hok.kids.len
      have ev : m.val = .agg #[.int .i64 m.nd.kind, .string m.nd.name, .string m.nd.text, .int .i64 m.nd.space, .slice xa xn xc, .bool m.nd.dup, .int .i64 m.nd.parent, .int .i64 m.nd.content, .slice ya yn yc, .int .i64 m.nd.frm, .int .i64 m.nd.to] := by rw [Laid.val_eq, exa, eya]
      rw [ev]
      (repeat first|(with_reducible first|(refine hK _ _ ?_;clear hK K)|refine ‹∀σ w,_→K σ w› _ _ ?_|(refine W_st ?_;constructor;try intro K hK))|((with_reducible first|refine hZ _ _ ?_|refine W_rg ?_|skip);repeat1' simp only[push_cast,seval,-Nat.reduceSubDiff,RunV_zero Tryz.zeroValue46,vcells_agg])|((repeat((fail_if_success with_reducible refine hK _ _ ?_);clear hK K));with_reducible refine hK _ _ ?_;clear hK K))
      simp only [can_h, heap_alloc_h, if_true, canO_cells, List.size_toArray, List.length_cons, List.length_nil, Nat.zero_add, Nat.reduceAdd, Nat.reduceLT, true_and]
      obtain ⟨hx8, hp8⟩ := newL w7 #[.int .i64 0, .string ⟨#[]⟩, .string ⟨#[]⟩, .int .i64 0, .slice none 0 0, .bool false, .int .i64 0, .int .i64 0, .slice none 0 0, .int .i64 0, .int .i64 0] [.int .i64 m.nd.kind, .string m.nd.name, .string m.nd.text, .int .i64 m.nd.space, .slice xa xn xc, .bool m.nd.dup, .int .i64 m.nd.parent, .int .i64 m.nd.content, .slice ya yn yc, .int .i64 m.nd.frm, .int .i64 m.nd.to] 46 rfl
      generalize setCells (w7.alloc (.cells #[.int .i64 0, .string ⟨#[]⟩, .string ⟨#[]⟩, .int .i64 0, .slice none 0 0, .bool false, .int .i64 0, .int .i64 0, .slice none 0 0, .int .i64 0, .int .i64 0] 46)) ⟨w7.heap.size, 0, none⟩ [.int .i64 m.nd.kind, .string m.nd.name, .string m.nd.text, .int .i64 m.nd.space, .slice xa xn xc, .bool m.nd.dup, .int .i64 m.nd.parent, .int .i64 m.nd.content, .slice ya yn yc, .int .i64 m.nd.frm, .int .i64 m.nd.to] 0 = w8 at *
      obtain ⟨p8, hpe⟩ : ∃ p8, p8 = w7.heap.size := ⟨_, rfl⟩
      rw [← hpe] at hp8 ⊢
      have hx08 := (hx24.trans hx7).trans hx8
      by_cases hr : (-1) < 0
      · (repeat first|(with_reducible first|(refine hK _ _ ?_;clear hK K)|refine ‹∀σ w,_→K σ w› _ _ ?_|(refine W_st ?_;constructor;try intro K hK))|((with_reducible first|refine hZ _ _ ?_|refine W_rg ?_|skip);repeat1' simp only[push_cast,seval,-Nat.reduceSubDiff,hr,cell_h,cellO_cells,hp8,decide_true])|((repeat((fail_if_success with_reducible refine hK _ _ ?_);clear hK K));with_reducible refine hK _ _ ?_;clear hK K))
        refine bs_one styS (by decide) (by decide) (v := .string tmpl) rfl ?_
        rw [vc_str]
        have n1 := names1 w8 tmpl
        have hx9 := hx08.trans (Ext.alloc w8 (.cells #[.string tmpl] 9))
        have hp9 := (Ext.alloc w8 (.cells #[.string tmpl] 9)).blk hp8
        generalize w8.alloc (.cells #[.string tmpl] 9) = w9 at *
        rw [← ev]
        refine (bhtml_c m n1 (show 1 < 1000000000 by decide)).mono ?_
        rintro v w10 ⟨rfl, hx10⟩
        have hp10 := hx10.blk hp9
        cases hz : htmlN m.nd [tmpl]
        · rw [hz, if_neg (fun h => by cases h.2)] at hpl
          (repeat first|(with_reducible first|(refine hK _ _ ?_;clear hK K)|refine ‹∀σ w,_→K σ w› _ _ ?_|(refine W_st ?_;constructor;try intro K hK))|((with_reducible first|refine hZ _ _ ?_|refine W_rg ?_|skip);repeat1' simp only[push_cast,seval,-Nat.reduceSubDiff])|((repeat((fail_if_success with_reducible refine hK _ _ ?_);clear hK K));with_reducible refine hK _ _ ?_;clear hK K))
          rw [hpl]
          exact ⟨rfl, hx9.trans hx10⟩
        · rw [hz, if_pos ⟨hr, rfl⟩] at hpl
          (repeat first|(with_reducible first|(refine hK _ _ ?_;clear hK K)|refine ‹∀σ w,_→K σ w› _ _ ?_|(refine W_st ?_;constructor;try intro K hK))|((with_reducible first|refine hZ _ _ ?_|refine W_rg ?_|skip);repeat1' simp only[push_cast,seval,-Nat.reduceSubDiff,cell_h,cellO_cells,hp10])|((repeat((fail_if_success with_reducible refine hK _ _ ?_);clear hK K));with_reducible refine hK _ _ ?_;clear hK K))
          rw [hpl]
          exact ⟨rfl, hx9.trans hx10⟩
      · rw [if_neg (fun h => hr h.1)] at hpl
        (repeat first|(with_reducible first|(refine hK _ _ ?_;clear hK K)|refine ‹∀σ w,_→K σ w› _ _ ?_|(refine W_st ?_;constructor;try intro K hK))|((with_reducible first|refine hZ _ _ ?_|refine W_rg ?_|skip);repeat1' simp only[push_cast,seval,-Nat.reduceSubDiff,hr,decide_false])|((repeat((fail_if_success with_reducible refine hK _ _ ?_);clear hK K));with_reducible refine hK _ _ ?_;clear hK K))
        rw [hpl]
        exact ⟨rfl, hx08⟩
    | true =>
      have e1 : place1 b t = ((fosterB b).1, (fosterB b).2) := by unfold place1; rw [if_pos ⟨hf, hz⟩]
      (repeat first|(with_reducible first|(refine hK _ _ ?_;clear hK K)|refine ‹∀σ w,_→K σ w› _ _ ?_|(refine W_st ?_;constructor;try intro K hK))|((with_reducible first|refine hZ _ _ ?_|refine W_rg ?_|skip);repeat1' simp only[push_cast,seval,-Nat.reduceSubDiff])|((repeat((fail_if_success with_reducible refine hK _ _ ?_);clear hK K));with_reducible refine hK _ _ ?_;clear hK K))
      refine (bfost_c h4 hb).mono ?_
      rintro v w5 ⟨rfl, hx5⟩
      have h5 := h4.pass hx5
      have hx25 := hx24.trans hx5
      generalize (fosterB b).1 = p1 at *
      generalize (fosterB b).2 = r1 at *
      (repeat first|(with_reducible first|(refine hK _ _ ?_;clear hK K)|refine ‹∀σ w,_→K σ w› _ _ ?_|(refine W_st ?_;constructor;try intro K hK))|((with_reducible first|refine hZ _ _ ?_|refine W_rg ?_|skip);repeat1' simp only[push_cast,seval,-Nat.reduceSubDiff,ext0,ext1])|((repeat((fail_if_success with_reducible refine hK _ _ ?_);clear hK K));with_reducible refine hK _ _ ?_;clear hK K))
      obtain ⟨ma', mn', mc', av', _, _, hhr⟩ := BuAt.hd h5
      (repeat first|(with_reducible first|(refine hK _ _ ?_;clear hK K)|refine ‹∀σ w,_→K σ w› _ _ ?_|(refine W_st ?_;constructor;try intro K hK))|((with_reducible first|refine hZ _ _ ?_|refine W_rg ?_|skip);repeat1' simp only[push_cast,seval,-Nat.reduceSubDiff,cell_h,cellO_cells,hhr])|((repeat((fail_if_success with_reducible refine hK _ _ ?_);clear hK K));with_reducible refine hK _ _ ?_;clear hK K))
      refine (bnode_c h5 hb p1).mono ?_
      rintro v w7 ⟨m, rfl, hm, hok, hx7, hbk⟩
      have hpl : placeB b t = if r1 < 0 ∧ htmlN m.nd [tmpl] = true then (m.nd.content, r1) else (p1, r1) := by
        unfold placeB
        rw [e1, hm]
      obtain ⟨xa, xn, xc, exa, _⟩ := hok.attrs.len
      obtain ⟨ya, yn, yc, eya, _⟩ := hok.kids.len
      have ev : m.val = .agg #[.int .i64 m.nd.kind, .string m.nd.name, .string m.nd.text, .int .i64 m.nd.space, .slice xa xn xc, .bool m.nd.dup, .int .i64 m.nd.parent, .int .i64 m.nd.content, .slice ya yn yc, .int .i64 m.nd.frm, .int .i64 m.nd.to] := by rw [Laid.val_eq, exa, eya]
      rw [ev]
      (repeat first|(with_reducible first|(refine hK _ _ ?_;clear hK K)|refine ‹∀σ w,_→K σ w› _ _ ?_|(refine W_st ?_;constructor;try intro K hK))|((with_reducible first|refine hZ _ _ ?_|refine W_rg ?_|skip);repeat1' simp only[push_cast,seval,-Nat.reduceSubDiff,RunV_zero Tryz.zeroValue46,vcells_agg])|((repeat((fail_if_success with_reducible refine hK _ _ ?_);clear hK K));with_reducible refine hK _ _ ?_;clear hK K))
      simp only [can_h, heap_alloc_h, if_true, canO_cells, List.size_toArray, List.length_cons, List.length_nil, Nat.zero_add, Nat.reduceAdd, Nat.reduceLT, true_and]
      obtain ⟨hx8, hp8⟩ := newL w7 #[.int .i64 0, .string ⟨#[]⟩, .string ⟨#[]⟩, .int .i64 0, .slice none 0 0, .bool false, .int .i64 0, .int .i64 0, .slice none 0 0, .int .i64 0, .int .i64 0] [.int .i64 m.nd.kind, .string m.nd.name, .string m.nd.text, .int .i64 m.nd.space, .slice xa xn xc, .bool m.nd.dup, .int .i64 m.nd.parent, .int .i64 m.nd.content, .slice ya yn yc, .int .i64 m.nd.frm, .int .i64 m.nd.to] 46 rfl
      generalize setCells (w7.alloc (.cells #[.int .i64 0, .string ⟨#[]⟩, .string ⟨#[]⟩, .int .i64 0, .slice none 0 0, .bool false, .int .i64 0, .int .i64 0, .slice none 0 0, .int .i64 0, .int .i64 0] 46)) ⟨w7.heap.size, 0, none⟩ [.int .i64 m.nd.kind, .string m.nd.name, .string m.nd.text, .int .i64 m.nd.space, .slice xa xn xc, .bool m.nd.dup, .int .i64 m.nd.parent, .int .i64 m.nd.content, .slice ya yn yc, .int .i64 m.nd.frm, .int .i64 m.nd.to] 0 = w8 at *
      obtain ⟨p8, hpe⟩ : ∃ p8, p8 = w7.heap.size := ⟨_, rfl⟩
      rw [← hpe] at hp8 ⊢
      have hx08 := (hx25.trans hx7).trans hx8
      by_cases hr : r1 < 0
      · (repeat first|(with_reducible first|(refine hK _ _ ?_;clear hK K)|refine ‹∀σ w,_→K σ w› _ _ ?_|(refine W_st ?_;constructor;try intro K hK))|((with_reducible first|refine hZ _ _ ?_|refine W_rg ?_|skip);repeat1' simp only[push_cast,seval,-Nat.reduceSubDiff,hr,cell_h,cellO_cells,hp8,decide_true])|((repeat((fail_if_success with_reducible refine hK _ _ ?_);clear hK K));with_reducible refine hK _ _ ?_;clear hK K))
        refine bs_one styS (by decide) (by decide) (v := .string tmpl) rfl ?_
        rw [vc_str]
        have n1 := names1 w8 tmpl
        have hx9 := hx08.trans (Ext.alloc w8 (.cells #[.string tmpl] 9))
        have hp9 := (Ext.alloc w8 (.cells #[.string tmpl] 9)).blk hp8
        generalize w8.alloc (.cells #[.string tmpl] 9) = w9 at *
        rw [← ev]
        refine (bhtml_c m n1 (show 1 < 1000000000 by decide)).mono ?_
        rintro v w10 ⟨rfl, hx10⟩
        have hp10 := hx10.blk hp9
        cases hz : htmlN m.nd [tmpl]
        · rw [hz, if_neg (fun h => by cases h.2)] at hpl
          (repeat first|(with_reducible first|(refine hK _ _ ?_;clear hK K)|refine ‹∀σ w,_→K σ w› _ _ ?_|(refine W_st ?_;constructor;try intro K hK))|((with_reducible first|refine hZ _ _ ?_|refine W_rg ?_|skip);repeat1' simp only[push_cast,seval,-Nat.reduceSubDiff])|((repeat((fail_if_success with_reducible refine hK _ _ ?_);clear hK K));with_reducible refine hK _ _ ?_;clear hK K))
          rw [hpl]
          exact ⟨rfl, hx9.trans hx10⟩
        · rw [hz, if_pos ⟨hr, rfl⟩] at hpl
          (repeat first|(with_reducible first|(refine hK _ _ ?_;clear hK K)|refine ‹∀σ w,_→K σ w› _ _ ?_|(refine W_st ?_;constructor;try intro K hK))|((with_reducible first|refine hZ _ _ ?_|refine W_rg ?_|skip);repeat1' simp only[push_cast,seval,-Nat.reduceSubDiff,cell_h,cellO_cells,hp10])|((repeat((fail_if_success with_reducible refine hK _ _ ?_);clear hK K));with_reducible refine hK _ _ ?_;clear hK K))
          rw [hpl]
          exact ⟨rfl, hx9.trans hx10⟩
      · rw [if_neg (fun h => hr h.1)] at hpl
        (repeat first|(with_reducible first|(refine hK _ _ ?_;clear hK K)|refine ‹∀σ w,_→K σ w› _ _ ?_|(refine W_st ?_;constructor;try intro K hK))|((with_reducible first|refine hZ _ _ ?_|refine W_rg ?_|skip);repeat1' simp only[push_cast,seval,-Nat.reduceSubDiff,hr,decide_false])|((repeat((fail_if_success with_reducible refine hK _ _ ?_);clear hK K));with_reducible refine hK _ _ ?_;clear hK K))
        rw [hpl]
        exact ⟨rfl, hx08⟩
theorem bput_c (h : BuAt w0 w Q pb ps pl pa b) (hb : okB b) (i t : Int) : Gives Tryz.prog 74 #[.pointer (some ⟨pb, 0, none⟩), .int .i64 i, .int .i64 t] w fun _ w' => BuAt w0 w' Q pb ps pl pa (putB b i t) ∧ Upd (AF w0 Q) w w' := by
  obtain ⟨bp, hbp⟩ : ∃ bp, bp = putB b i t := ⟨_, rfl⟩
  rw [← hbp]
  unfold putB at hbp
  refine Gives.of_W Tryz.call74 Tryz.func74 rfl Tryz.ntmps74 (by simp) ?_; intro Z hZ
  (repeat first|(with_reducible first|(refine hK _ _ ?_;clear hK K)|refine ‹∀σ w,_→K σ w› _ _ ?_|(refine W_st ?_;constructor;try intro K hK))|((with_reducible first|refine hZ _ _ ?_|refine W_rg ?_|skip);repeat1' simp only[push_cast,seval,-Nat.reduceSubDiff])|((repeat((fail_if_success with_reducible refine hK _ _ ?_);clear hK K));with_reducible refine hK _ _ ?_;clear hK K))
  refine (bnone_c h).mono ?_
  intro v w' ⟨hv, hw⟩
  subst hv; subst w'
  (repeat first|(with_reducible first|(refine hK _ _ ?_;clear hK K)|refine ‹∀σ w,_→K σ w› _ _ ?_|(refine W_st ?_;constructor;try intro K hK))|((with_reducible first|refine hZ _ _ ?_|refine W_rg ?_|skip);repeat1' simp only[push_cast,seval,-Nat.reduceSubDiff])|((repeat((fail_if_success with_reducible refine hK _ _ ?_);clear hK K));with_reducible refine hK _ _ ?_;clear hK K))
  refine (bplace_c h hb t).mono ?_
  rintro v w2 ⟨rfl, hx2⟩
  have h2 := h.pass hx2
  obtain ⟨ma, mn, mc, av, _, _, hh⟩ := h2.hd
  obtain ⟨P, hA, hback⟩ := h2.ar
  have hL := hb.L
  generalize placeB b t = pr at *
  obtain ⟨p, r⟩ := pr
  dsimp only at hbp
  by_cases hr : 0 ≤ r
  · rw [if_pos hr] at hbp
    subst hbp
    (repeat first|(with_reducible first|(refine hK _ _ ?_;clear hK K)|refine ‹∀σ w,_→K σ w› _ _ ?_|(refine W_st ?_;constructor;try intro K hK))|((with_reducible first|refine hZ _ _ ?_|refine W_rg ?_|skip);repeat1' simp only[push_cast,seval,-Nat.reduceSubDiff,ext0,ext1,hr,cell_h,cellO_cells,hh])|((repeat((fail_if_success with_reducible refine hK _ _ ?_);clear hK K));with_reducible refine hK _ _ ?_;clear hK K))
    refine (before_a hA (by omega) i r).mono ?_
    rintro v w3 ⟨rfl, g1, g2⟩
    obtain ⟨k1, k2⟩ := hback _ _ g1 g2
    (repeat first|(with_reducible first|(refine hK _ _ ?_;clear hK K)|refine ‹∀σ w,_→K σ w› _ _ ?_|(refine W_st ?_;constructor;try intro K hK))|((with_reducible first|refine hZ _ _ ?_|refine W_rg ?_|skip);repeat1' simp only[push_cast,seval,-Nat.reduceSubDiff])|((repeat((fail_if_success with_reducible refine hK _ _ ?_);clear hK K));with_reducible refine hK _ _ ?_;clear hK K))
    exact ⟨k1, Upd.trans hx2.upd k2 fun _ _ h => h⟩
  · rw [if_neg hr] at hbp
    subst hbp
    (repeat first|(with_reducible first|(refine hK _ _ ?_;clear hK K)|refine ‹∀σ w,_→K σ w› _ _ ?_|(refine W_st ?_;constructor;try intro K hK))|((with_reducible first|refine hZ _ _ ?_|refine W_rg ?_|skip);repeat1' simp only[push_cast,seval,-Nat.reduceSubDiff,ext0,ext1,hr,cell_h,cellO_cells,hh])|((repeat((fail_if_success with_reducible refine hK _ _ ?_);clear hK K));with_reducible refine hK _ _ ?_;clear hK K))
    refine (append_a hA (by omega) p i).mono ?_
    rintro v w3 ⟨rfl, g1, g2⟩
    obtain ⟨k1, k2⟩ := hback _ _ g1 g2
    (repeat first|(with_reducible first|(refine hK _ _ ?_;clear hK K)|refine ‹∀σ w,_→K σ w› _ _ ?_|(refine W_st ?_;constructor;try intro K hK))|((with_reducible first|refine hZ _ _ ?_|refine W_rg ?_|skip);repeat1' simp only[push_cast,seval,-Nat.reduceSubDiff])|((repeat((fail_if_success with_reducible refine hK _ _ ?_);clear hK K));with_reducible refine hK _ _ ?_;clear hK K))
    exact ⟨k1, Upd.trans hx2.upd k2 fun _ _ h => h⟩
end
end Go.Proofs.YtgnnlaeikcnhcaaGreatDoor
end
section
set_option linter.unusedSimpArgs false
set_option linter.unusedVariables false
namespace Go.Vk
open Go
def Att (L : List Nd) : Prop := ∀ n ∈ L, n.attrs.length < 1000000
theorem att_modify {L : List Nd} {f : Nd → Nd} (hf : ∀ n, (f n).attrs = n.attrs) (h : Att L) (k : Nat) : Att (L.modify k f) := by
  intro n hn
  obtain ⟨j, hj⟩ := List.mem_iff_getElem?.1 hn
  rw [List.getElem?_modify] at hj
  cases hl : L[j]? with
  | none => rw [hl] at hj; simp at hj
  | some x =>
    have hx := h x (List.mem_of_getElem? hl)
    have e : n = if k = j then f x else x := by
      rw [hl] at hj
      exact (Option.some.inj hj).symm
    rw [e]
    split
    · rw [hf]; exact hx
    · exact hx
theorem att_free {L : List Nd} (h : Att L) (i : Nat) : Att (freeN L i) := by
  unfold freeN
  split
  · exact h
  · split
    · exact h
    · exact att_modify (f := setPar (-1)) (fun _ => rfl) (att_modify (f := unkid i) (fun _ => rfl) h _) _
theorem att_hang {L : List Nd} (h : Att L) (p : Nat) (r : Int) (i : Nat) : Att (hangN L p r i) := att_modify (f := setPar p) (fun _ => rfl) (att_modify (f := addKid r i) (fun _ => rfl) (att_free h i) _) _
theorem att_append {L : List Nd} (h : Att L) (p i : Int) : Att (appendN L p i).1 := by
  unfold appendN; split
  · exact att_hang h _ _ _
  · exact h
theorem att_before {L : List Nd} (h : Att L) (p i : Int) : Att (beforeN L p i).1 := by
  unfold beforeN; split
  · exact att_hang h _ _ _
  · exact h
theorem len_append (L : List Nd) (p i : Int) : (appendN L p i).1.length = L.length := by
  unfold appendN; split
  · exact hangN_len _ _ _ _
  · rfl
theorem len_before (L : List Nd) (p i : Int) : (beforeN L p i).1.length = L.length := by
  unfold beforeN; split
  · exact hangN_len _ _ _ _
  · rfl
theorem att_add {L : List Nd} (h : Att L) {n : Nd} (hn : n.attrs.length < 1000000) : Att (addN L n).1 := by
  intro x hx
  unfold addN at hx
  split at hx
  · split at hx
    · simp only [List.mem_append, List.mem_cons, List.not_mem_nil, or_false] at hx
      rcases hx with hx | rfl | rfl
      · exact h x hx
      · exact hn
      · exact (by decide : (0 : Nat) < 1000000)
    · simp only [List.mem_append, List.mem_cons, List.not_mem_nil, or_false] at hx
      rcases hx with hx | rfl
      · exact h x hx
      · exact hn
  · exact h x hx
theorem len_add (L : List Nd) (n : Nd) : (addN L n).1.length ≤ L.length + 2 := by
  unfold addN
  split
  · split <;> simp
  · simp
/-- a token -/
structure HTok where
  kind : Int
  name : ByteArray
  text : ByteArray
  attrs : List (ByteArray × ByteArray)
  dup : Bool
  self : Bool
  quirks : Bool
  frm : Int
  to : Int
def HTok.row (t : HTok) (av : Value) : Array Value := #[.int .i64 t.kind, .string t.name, .string t.text, av, .bool t.dup, .bool t.self, .bool t.quirks, .int .i64 t.frm, .int .i64 t.to]
def elTok (t : HTok) (space : Int) : Nd := { zN with kind := 3, name := t.name, space := space, attrs := t.attrs, dup := t.dup, frm := t.frm, to := t.to }
def addB (b : BSt) (n : Nd) : BSt := { b with L := (addN b.L n).1 }
def pushB (b : BSt) (i : Int) : BSt × Int := ({ b with s := (insS b.L b.s b.s.length i).1 }, (insS b.L b.s b.s.length i).2)
def hungB (b : BSt) (n : Nd) : BSt := putB (addB b n) (addN b.L n).2 (targB (addB b n))
def insertB (b : BSt) (n : Nd) : BSt × Int :=
  if 512 ≤ b.s.length then (failB b 150, -1)
  else (failB (pushB (hungB b n) (addN b.L n).2).1 (pushB (hungB b n) (addN b.L n).2).2, (addN b.L n).2)
theorem putB_s (b : BSt) (i t : Int) : (putB b i t).s = b.s ∧ (putB b i t).l = b.l := by unfold putB; split <;> exact ⟨rfl, rfl⟩
theorem okB.put {b : BSt} (h : okB b) (i t : Int) : okB (putB b i t) := by
  unfold putB
  split
  · exact ⟨by rw [len_before]; exact h.L, att_before h.at_ _ _, h.s, h.l⟩
  · exact ⟨by rw [len_append]; exact h.L, att_append h.at_ _ _, h.s, h.l⟩
theorem okB.add {b : BSt} (h : okB b) (hL : b.L.length + 2 < 90000) {n : Nd} (hn : n.attrs.length < 1000000) : okB (addB b n) :=
  ⟨Nat.lt_of_le_of_lt (len_add _ _) hL, att_add h.at_ hn, h.s, h.l⟩
end Go.Vk
namespace Go.Proofs.YtgnnlaeikcnhcaaGreatDoor
open Go Go.Vk
set_option maxHeartbeats 40000000
theorem element_c {w : World} {t : HTok} {av : Value} (ha : RdAt w 2 av (attrCells t.attrs)) (space : Int) : Gives Tryz.prog 99 #[.agg (t.row av), .int .i64 space] w fun v w' => v = (Laid.mk (elTok t space) av (.slice none 0 0) none none).val ∧ Ext w w' := by
  obtain ⟨xa, xn, xc, rfl, _⟩ := ha
  unfold HTok.row
  have hx := Ext.alloc w (.cells #[.int .i64 t.kind, .string t.name, .string t.text, .slice xa xn xc, .bool t.dup, .bool t.self, .bool t.quirks, .int .i64 t.frm, .int .i64 t.to] 37)
  have hp : (w.alloc (.cells #[.int .i64 t.kind, .string t.name, .string t.text, .slice xa xn xc, .bool t.dup, .bool t.self, .bool t.quirks, .int .i64 t.frm, .int .i64 t.to] 37)).heap[w.heap.size]? = some (.cells #[.int .i64 t.kind, .string t.name, .string t.text, .slice xa xn xc, .bool t.dup, .bool t.self, .bool t.quirks, .int .i64 t.frm, .int .i64 t.to] 37 (0, 0)) := by rw [heap_alloc_h, if_pos rfl]
  refine Gives.of_W Tryz.call99 Tryz.func99 rfl Tryz.ntmps99 (by simp) ?_; intro Z hZ
  (repeat first|(with_reducible first|(refine hK _ _ ?_;clear hK K)|refine ‹∀σ w,_→K σ w› _ _ ?_|(refine W_st ?_;constructor;try intro K hK))|((with_reducible first|refine hZ _ _ ?_|refine W_rg ?_|skip);repeat1' simp only[push_cast,seval,-Nat.reduceSubDiff,vcells_agg,RunV_zero Tryz.zeroValue46])|((repeat((fail_if_success with_reducible refine hK _ _ ?_);clear hK K));with_reducible refine hK _ _ ?_;clear hK K))
  generalize w.alloc (.cells #[.int .i64 t.kind, .string t.name, .string t.text, .slice xa xn xc, .bool t.dup, .bool t.self, .bool t.quirks, .int .i64 t.frm, .int .i64 t.to] 37) = w1 at *
  obtain ⟨p, hpe⟩ : ∃ p, p = w.heap.size := ⟨_, rfl⟩
  rw [← hpe] at hp ⊢
  have hx2 := Ext.alloc w1 (.cells #[.int .i64 0, .string ⟨#[]⟩, .string ⟨#[]⟩, .int .i64 0, .slice none 0 0, .bool false, .int .i64 0, .int .i64 0, .slice none 0 0, .int .i64 0, .int .i64 0] 46)
  have z2 : (w1.alloc (.cells #[.int .i64 0, .string ⟨#[]⟩, .string ⟨#[]⟩, .int .i64 0, .slice none 0 0, .bool false, .int .i64 0, .int .i64 0, .slice none 0 0, .int .i64 0, .int .i64 0] 46)).heap[w1.heap.size]? = some (.cells #[.int .i64 0, .string ⟨#[]⟩, .string ⟨#[]⟩, .int .i64 0, .slice none 0 0, .bool false, .int .i64 0, .int .i64 0, .slice none 0 0, .int .i64 0, .int .i64 0] 46 (0, 0)) := by rw [heap_alloc_h, if_pos rfl]
  have hp2 := hx2.blk hp
  have hsz := hx.alike.size
  generalize w1.alloc (.cells #[.int .i64 0, .string ⟨#[]⟩, .string ⟨#[]⟩, .int .i64 0, .slice none 0 0, .bool false, .int .i64 0, .int .i64 0, .slice none 0 0, .int .i64 0, .int .i64 0] 46) = w2 at *
  obtain ⟨p2, hpe2⟩ : ∃ p, p = w1.heap.size := ⟨_, rfl⟩
  rw [← hpe2] at z2 ⊢
  (repeat first|(with_reducible first|(refine hK _ _ ?_;clear hK K)|refine ‹∀σ w,_→K σ w› _ _ ?_|(refine W_st ?_;constructor;try intro K hK))|((with_reducible first|refine hZ _ _ ?_|refine W_rg ?_|skip);repeat1' simp only[push_cast,seval,-Nat.reduceSubDiff,cell_h,cellO_cells,hp2])|((repeat((fail_if_success with_reducible refine hK _ _ ?_);clear hK K));with_reducible refine hK _ _ ?_;clear hK K))
  refine build_struct Tryz.zeroValue46 un30 pl30 (cs := #[.int .i64 3, .string t.name, .string ⟨#[]⟩, .int .i64 space, .slice xa xn xc, .bool t.dup, .int .i64 0, .int .i64 0, .slice none 0 0, .int .i64 t.frm, .int .i64 t.to]) (by rfl) ?_
  have up : Upd (fun q => q = p2) w2 (setCells w2 ⟨p2, 0, none⟩ [.int .i64 3, .string t.name, .string ⟨#[]⟩, .int .i64 space, .slice xa xn xc, .bool t.dup, .int .i64 0, .int .i64 0, .slice none 0 0, .int .i64 t.frm, .int .i64 t.to] 0) := Upd.setCells (F := fun q => q = p2) (a := ⟨p2, 0, none⟩) w2 rfl _ 0
  have hp4 := setCells_all z2 (l := [.int .i64 3, .string t.name, .string ⟨#[]⟩, .int .i64 space, .slice xa xn xc, .bool t.dup, .int .i64 0, .int .i64 0, .slice none 0 0, .int .i64 t.frm, .int .i64 t.to]) rfl
  have hx4 : Ext w (setCells w2 ⟨p2, 0, none⟩ [.int .i64 3, .string t.name, .string ⟨#[]⟩, .int .i64 space, .slice xa xn xc, .bool t.dup, .int .i64 0, .int .i64 0, .slice none 0 0, .int .i64 t.frm, .int .i64 t.to] 0) := Upd.trans (hx.trans hx2) up fun q hq e => by omega
  (repeat simp only [push_cast, seval, -Nat.reduceSubDiff, can_h, z2, canO_cells])
  generalize setCells w2 ⟨p2, 0, none⟩ [.int .i64 3, .string t.name, .string ⟨#[]⟩, .int .i64 space, .slice xa xn xc, .bool t.dup, .int .i64 0, .int .i64 0, .slice none 0 0, .int .i64 t.frm, .int .i64 t.to] 0 = w4 at *
  (repeat first|(with_reducible first|(refine hK _ _ ?_;clear hK K)|refine ‹∀σ w,_→K σ w› _ _ ?_|(refine W_st ?_;constructor;try intro K hK))|((with_reducible first|refine hZ _ _ ?_|refine W_rg ?_|skip);repeat1' simp only[push_cast,seval,-Nat.reduceSubDiff,cell_h,cellO_cells,hp4])|((repeat((fail_if_success with_reducible refine hK _ _ ?_);clear hK K));with_reducible refine hK _ _ ?_;clear hK K))
  exact ⟨by rw [Laid.val_eq]; rfl, hx4⟩
section
variable {w0 w : World} {Q : Nat → Prop} {pb ps pl pa : Nat} {b : BSt}
theorem bpush_c (h : BuAt w0 w Q pb ps pl pa b) (hb : okB b) (i : Int) : Gives Tryz.prog 101 #[.pointer (some ⟨ps, 0, none⟩), .int .i64 i] w fun v w' => v = .int .i64 (pushB b i).2 ∧ BuAt w0 w' Q pb ps pl pa (pushB b i).1 ∧ Upd (AF w0 Q) w w' := by
  obtain ⟨P, hS, hback⟩ := h.stk
  have := hb.L
  refine (spush_c hS (by omega) hb.at_ hb.s i).mono ?_
  rintro v w' ⟨rfl, g1, g2⟩
  exact ⟨rfl, hback _ _ _ g1 g2⟩
theorem badd_c (h : BuAt w0 w Q pb ps pl pa b) (hb : okB b) {m : Laid} (hm : RdAt w 2 m.av (attrCells m.nd.attrs)) (hmb : m.nd.attrs.length < 1000000) : Gives Tryz.prog 98 #[.pointer (some ⟨pa, 0, none⟩), m.val] w fun v w' => v = .int .i64 (addN b.L m.nd).2 ∧ BuAt w0 w' Q pb ps pl pa (addB b m.nd) ∧ Upd (AF w0 Q) w w' := by
  obtain ⟨P, hA, hback⟩ := h.ar
  have := hb.L
  refine (add_a hA (by omega) hm hmb).mono ?_
  rintro v w' ⟨rfl, g1, g2⟩
  exact ⟨rfl, hback _ _ g1 g2⟩
theorem binsert_c (h : BuAt w0 w Q pb ps pl pa b) (hb : okB b) (hL : b.L.length + 2 < 90000) (hQl : ∀ q, Q q → q < w.heap.size) {t : HTok} {av : Value} (ha : RdAt w 2 av (attrCells t.attrs)) (hal : t.attrs.length < 1000000) (space : Int) :
    Gives Tryz.prog 21 #[.pointer (some ⟨pb, 0, none⟩), .agg (t.row av), .int .i64 space] w fun v w' => v = .int .i64 (insertB b (elTok t space)).2 ∧ BuAt w0 w' Q pb ps pl pa (insertB b (elTok t space)).1 ∧ Upd (AF w0 Q) w w' := by
  obtain ⟨xa, xn, xc, eav, _⟩ := id ha
  subst eav
  have hrow : t.row (.slice xa xn xc) = #[.int .i64 t.kind, .string t.name, .string t.text, .slice xa xn xc, .bool t.dup, .bool t.self, .bool t.quirks, .int .i64 t.frm, .int .i64 t.to] := rfl
  have hx := Ext.alloc w (.cells (t.row (.slice xa xn xc)) 37)
  have hp : (w.alloc (.cells (t.row (.slice xa xn xc)) 37)).heap[w.heap.size]? = some (.cells (t.row (.slice xa xn xc)) 37 (0, 0)) := by rw [heap_alloc_h, if_pos rfl]
  obtain ⟨r, hr⟩ : ∃ r, r = insertB b (elTok t space) := ⟨_, rfl⟩
  rw [← hr]
  unfold insertB at hr
  have hs := hb.s
  refine Gives.of_W Tryz.call21 Tryz.func21 rfl Tryz.ntmps21 (by simp) ?_; intro Z hZ
  (repeat first|(with_reducible first|(refine hK _ _ ?_;clear hK K)|refine ‹∀σ w,_→K σ w› _ _ ?_|(refine W_st ?_;constructor;try intro K hK))|((with_reducible first|refine hZ _ _ ?_|refine W_rg ?_|skip);repeat1' simp only[push_cast,seval,-Nat.reduceSubDiff,vcells_agg])|((repeat((fail_if_success with_reducible refine hK _ _ ?_);clear hK K));with_reducible refine hK _ _ ?_;clear hK K))
  generalize w.alloc (.cells (t.row (.slice xa xn xc)) 37) = w1 at *
  obtain ⟨p, hpe⟩ : ∃ p, p = w.heap.size := ⟨_, rfl⟩
  rw [← hpe] at hp ⊢
  have hsz := hx.alike.size
  have h1 := h.pass hx
  refine (bnone_c h1).mono ?_
  intro v w' ⟨hv, hw⟩
  subst hv; subst w'
  obtain ⟨ma, mn, mc, av', _, _, hh⟩ := h1.hd
  (repeat first|(with_reducible first|(refine hK _ _ ?_;clear hK K)|refine ‹∀σ w,_→K σ w› _ _ ?_|(refine W_st ?_;constructor;try intro K hK))|((with_reducible first|refine hZ _ _ ?_|refine W_rg ?_|skip);repeat1' simp only[push_cast,seval,-Nat.reduceSubDiff,cell_h,cellO_cells,hh])|((repeat((fail_if_success with_reducible refine hK _ _ ?_);clear hK K));with_reducible refine hK _ _ ?_;clear hK K))
  refine (bslen_c h1).mono ?_
  intro v w' ⟨hv, hw⟩
  subst hv; subst w'
  by_cases hd : 512 ≤ b.s.length
  · rw [if_pos hd] at hr
    subst hr
    have d0 : (512 : Int) ≤ (b.s.length : Int) := by omega
    (repeat first|(with_reducible first|(refine hK _ _ ?_;clear hK K)|refine ‹∀σ w,_→K σ w› _ _ ?_|(refine W_st ?_;constructor;try intro K hK))|((with_reducible first|refine hZ _ _ ?_|refine W_rg ?_|skip);repeat1' simp only[push_cast,seval,-Nat.reduceSubDiff,d0,decide_true])|((repeat((fail_if_success with_reducible refine hK _ _ ?_);clear hK K));with_reducible refine hK _ _ ?_;clear hK K))
    refine (bfail_c h1 150).mono ?_
    rintro v w2 ⟨g1, g2⟩
    (repeat first|(with_reducible first|(refine hK _ _ ?_;clear hK K)|refine ‹∀σ w,_→K σ w› _ _ ?_|(refine W_st ?_;constructor;try intro K hK))|((with_reducible first|refine hZ _ _ ?_|refine W_rg ?_|skip);repeat1' simp only[push_cast,seval,-Nat.reduceSubDiff])|((repeat((fail_if_success with_reducible refine hK _ _ ?_);clear hK K));with_reducible refine hK _ _ ?_;clear hK K))
    exact ⟨g1, Upd.trans hx.upd g2 fun _ _ h => h⟩
  rw [if_neg hd] at hr
  have d0 : ¬ (512 : Int) ≤ (b.s.length : Int) := by omega
  (repeat first|(with_reducible first|(refine hK _ _ ?_;clear hK K)|refine ‹∀σ w,_→K σ w› _ _ ?_|(refine W_st ?_;constructor;try intro K hK))|((with_reducible first|refine hZ _ _ ?_|refine W_rg ?_|skip);repeat1' simp only[push_cast,seval,-Nat.reduceSubDiff,d0,decide_false])|((repeat((fail_if_success with_reducible refine hK _ _ ?_);clear hK K));with_reducible refine hK _ _ ?_;clear hK K))
  have hxd := Ext.drew w1
  have h1d := h1.pass hxd
  have hhd := hxd.blk hh
  rw [hrow] at hp
  have hpd := hxd.blk hp
  have hszd : w1.heap.size = w1.drew.heap.size := (drew_size w1).symm
  have l1 : pb < w1.heap.size := blk_lt hh
  have l2 : p < w1.heap.size := blk_lt hp
  have hal' : (elTok t space).attrs.length < 1000000 := hal
  refine W_draw (.pas 0 (.pas 1 (.pas 2 (.pas 3 (.pas 4 (.pas 5 (.act 6 (.act 7 (.pas 8 .fin))))))))) (fun q => q = pb ∨ q = p) (by decide) mixed (by kernel_rfl) ?_
  generalize w1.drew = wd at *
  (repeat (first | ((first | refine pas_plain rfl ?_ | refine pas_g rfl rfl ?_ | refine act_plain rfl ?_ | refine act_g rfl rfl ?_ | refine last_plain rfl ?_ | refine tail_plain rfl ?_ | refine tail_g rfl rfl ?_); (repeat simp only [push_cast, seval, -Nat.reduceSubDiff, cell_h, cellO_cells, hhd, hpd, eq_self, true_or, or_true])) | (refine tail_fin ?_) | (refine sch_fin ?_)))
  rw [← hrow]
  refine (element_c (ha.ext (hx.trans hxd)) space).mono ?_
  rintro v w2 ⟨rfl, hx2⟩
  refine ⟨kept_upd hx2 fun q hq => ⟨by rcases hq with hq | hq <;> omega, id⟩, ?_⟩
  (repeat (first | ((first | refine pas_plain rfl ?_ | refine pas_g rfl rfl ?_ | refine act_plain rfl ?_ | refine act_g rfl rfl ?_ | refine last_plain rfl ?_ | refine tail_plain rfl ?_ | refine tail_g rfl rfl ?_); (repeat simp only [push_cast, seval, -Nat.reduceSubDiff])) | (refine tail_fin ?_) | (refine sch_fin ?_)))
  have h2 : BuAt w0 w2 (fun q => Q q ∨ q = p) pb ps pl pa b := h.more ((hx.trans hxd).trans hx2) fun q hq => by
    rcases hq with hq | hq
    · exact .inl hq
    · exact .inr ⟨by omega, by have := hx2.sz; omega⟩
  have hx02 := (hx.trans hxd).trans hx2
  obtain ⟨P, ⟨kb, kq⟩, hA, hback⟩ := h2.arK
  have hLb := hb.L
  refine (add_a hA (by omega) (m := ⟨elTok t space, .slice xa xn xc, .slice none 0 0, none, none⟩) (ha.ext hx02) hal).mono ?_
  rintro v w3 ⟨rfl, g1, g2⟩
  obtain ⟨h3', hu3'⟩ := hback _ _ g1 g2
  have h3 : BuAt w0 w3 Q pb ps pl pa (addB b (elTok t space)) := h3'.less fun q hq => .inl hq
  have hu3 : Upd (AF w0 Q) w2 w3 := hu3'.mono fun q _ hf => ⟨hf.1, fun hq => hf.2 (.inl hq)⟩
  refine ⟨kept_upd g2 fun q hq => ⟨?_, fun hf => ?_⟩, ?_⟩
  · have := hx2.sz
    rcases hq with hq | hq <;> omega
  · rcases hq with hq | hq
    · exact hf.2 (hq ▸ kb)
    · exact hf.2 (hq ▸ kq p (.inr rfl))
  have hb3 : okB (addB b (elTok t space)) := hb.add hL hal'
  have hu03 := Upd.trans hx02.upd hu3 fun _ _ h => h
  (repeat (first | ((first | refine pas_plain rfl ?_ | refine pas_g rfl rfl ?_ | refine act_plain rfl ?_ | refine act_g rfl rfl ?_ | refine last_plain rfl ?_ | refine tail_plain rfl ?_ | refine tail_g rfl rfl ?_); (repeat simp only [push_cast, seval, -Nat.reduceSubDiff])) | (refine tail_fin ?_) | (refine sch_fin ?_)))
  (repeat first|(with_reducible first|(refine hK _ _ ?_;clear hK K)|refine ‹∀σ w,_→K σ w› _ _ ?_|(refine W_st ?_;constructor;try intro K hK))|((with_reducible first|refine hZ _ _ ?_|refine W_rg ?_|skip);repeat1' simp only[push_cast,seval,-Nat.reduceSubDiff])|((repeat((fail_if_success with_reducible refine hK _ _ ?_);clear hK K));with_reducible refine hK _ _ ?_;clear hK K))
  refine (btarg_c h3 hb3).mono ?_
  intro v w' ⟨hv, hw⟩
  subst hv; subst w'
  (repeat first|(with_reducible first|(refine hK _ _ ?_;clear hK K)|refine ‹∀σ w,_→K σ w› _ _ ?_|(refine W_st ?_;constructor;try intro K hK))|((with_reducible first|refine hZ _ _ ?_|refine W_rg ?_|skip);repeat1' simp only[push_cast,seval,-Nat.reduceSubDiff])|((repeat((fail_if_success with_reducible refine hK _ _ ?_);clear hK K));with_reducible refine hK _ _ ?_;clear hK K))
  refine (bput_c h3 hb3 _ _).mono ?_
  rintro v w4 ⟨h4, hu4⟩
  have hb4 : okB (hungB b (elTok t space)) := hb3.put _ _
  have h4 : BuAt w0 w4 Q pb ps pl pa (hungB b (elTok t space)) := h4
  obtain ⟨ma4, mn4, mc4, av4, _, _, hh4⟩ := h4.hd
  (repeat first|(with_reducible first|(refine hK _ _ ?_;clear hK K)|refine ‹∀σ w,_→K σ w› _ _ ?_|(refine W_st ?_;constructor;try intro K hK))|((with_reducible first|refine hZ _ _ ?_|refine W_rg ?_|skip);repeat1' simp only[push_cast,seval,-Nat.reduceSubDiff,cell_h,cellO_cells,hh4])|((repeat((fail_if_success with_reducible refine hK _ _ ?_);clear hK K));with_reducible refine hK _ _ ?_;clear hK K))
  refine (bpush_c h4 hb4 _).mono ?_
  rintro v w5 ⟨rfl, h5, hu5⟩
  (repeat first|(with_reducible first|(refine hK _ _ ?_;clear hK K)|refine ‹∀σ w,_→K σ w› _ _ ?_|(refine W_st ?_;constructor;try intro K hK))|((with_reducible first|refine hZ _ _ ?_|refine W_rg ?_|skip);repeat1' simp only[push_cast,seval,-Nat.reduceSubDiff])|((repeat((fail_if_success with_reducible refine hK _ _ ?_);clear hK K));with_reducible refine hK _ _ ?_;clear hK K))
  refine (bfail_c h5 _).mono ?_
  rintro v w6 ⟨h6, hu6⟩
  (repeat first|(with_reducible first|(refine hK _ _ ?_;clear hK K)|refine ‹∀σ w,_→K σ w› _ _ ?_|(refine W_st ?_;constructor;try intro K hK))|((with_reducible first|refine hZ _ _ ?_|refine W_rg ?_|skip);repeat1' simp only[push_cast,seval,-Nat.reduceSubDiff])|((repeat((fail_if_success with_reducible refine hK _ _ ?_);clear hK K));with_reducible refine hK _ _ ?_;clear hK K))
  rw [hr]
  exact ⟨rfl, h6, Upd.trans (Upd.trans (Upd.trans hu03 hu4 fun _ _ h => h) hu5 fun _ _ h => h) hu6 fun _ _ h => h⟩
end
end Go.Proofs.YtgnnlaeikcnhcaaGreatDoor
end
section
set_option linter.unusedSimpArgs false
set_option linter.unusedVariables false
namespace Go.Vk
open Go
theorem failB_L (b : BSt) (e : Int) : (failB b e).L = b.L ∧ (failB b e).s = b.s ∧ (failB b e).l = b.l := by unfold failB; split <;> exact ⟨rfl, rfl, rfl⟩
theorem insS_len {L : List Nd} {s : List OpS} {k i : Int} (h : s.length < 10000) : (insS L s k i).1.length < 10000 ∧ (insS L s k i).1.length ≤ s.length + 1 := by
  unfold insS
  split
  · split
    · split
      · exact ⟨h, Nat.le_succ _⟩
      · simp; omega
    · exact ⟨h, Nat.le_succ _⟩
  · exact ⟨h, Nat.le_succ _⟩
theorem okB.fail {b : BSt} (h : okB b) (e : Int) : okB (failB b e) := by
  obtain ⟨e1, e2, e3⟩ := failB_L b e
  exact ⟨by rw [e1]; exact h.L, by rw [e1]; exact h.at_, by rw [e2]; exact h.s, by rw [e3]; exact h.l⟩
theorem okB.push {b : BSt} (h : okB b) (i : Int) : okB (pushB b i).1 := ⟨h.L, h.at_, (insS_len h.s).1, h.l⟩
theorem okB.ins {b : BSt} (h : okB b) (hL : b.L.length + 2 < 90000) {n : Nd} (hn : n.attrs.length < 1000000) : okB (insertB b n).1 := by
  unfold insertB
  split
  · exact h.fail _
  · exact (((h.add hL hn).put _ _).push _).fail _
def tokI (name : ByteArray) : HTok := ⟨2, name, ⟨#[]⟩, [], false, false, false, -1, -1⟩
def implyB (b : BSt) (name : ByteArray) : BSt × Int := insertB b (elTok (tokI name) 0)
def charsB (b : BSt) (x : ByteArray) : BSt := if 0 < (placeB b (targB b)).1 then { b with L := (textN b.L (placeB b (targB b)).1 (placeB b (targB b)).2 x).1 } else b
end Go.Vk
namespace Go.Proofs.YtgnnlaeikcnhcaaGreatDoor
open Go Go.Vk
theorem plTo (w : World) : ((fsOf Tryz.prog 37).mapM plOf).run Tryz.prog w = .ok #[(0,1),(1,1),(2,1),(3,1),(4,1),(5,1),(6,1),(7,1),(8,1)] w := by
  simp [fsOf, plOf, Tryz.underlying37, Sem.run, Tryz.sizeOf3, Tryz.sizeOf35, Tryz.sizeOf4, Tryz.sizeOf9]
theorem unTo : Tryz.prog.underlying 37 = some (.struct (fsOf Tryz.prog 37)) := by rw [fsOf, Tryz.underlying37]
set_option maxHeartbeats 40000000
section
variable {w0 w : World} {Q : Nat → Prop} {pb ps pl pa : Nat} {b : BSt}
theorem bimply_c (h : BuAt w0 w Q pb ps pl pa b) (hb : okB b) (hL : b.L.length + 2 < 90000) (hQl : ∀ q, Q q → q < w.heap.size) (x : ByteArray) :
    Gives Tryz.prog 18 #[.pointer (some ⟨pb, 0, none⟩), .string x] w fun v w' => v = .int .i64 (implyB b x).2 ∧ BuAt w0 w' Q pb ps pl pa (implyB b x).1 ∧ Upd (AF w0 Q) w w' := by
  refine Gives.of_W Tryz.call18 Tryz.func18 rfl Tryz.ntmps18 (by simp) ?_; intro Z hZ
  (repeat first|(with_reducible first|(refine hK _ _ ?_;clear hK K)|refine ‹∀σ w,_→K σ w› _ _ ?_|(refine W_st ?_;constructor;try intro K hK))|((with_reducible first|refine hZ _ _ ?_|refine W_rg ?_|skip);repeat1' simp only[push_cast,seval,-Nat.reduceSubDiff])|((repeat((fail_if_success with_reducible refine hK _ _ ?_);clear hK K));with_reducible refine hK _ _ ?_;clear hK K))
  refine build_struct Tryz.zeroValue37 unTo plTo (cs := #[.int .i64 2, .string x, .string ⟨#[]⟩, .slice none 0 0, .bool false, .bool false, .bool false, .int .i64 (-1), .int .i64 (-1)]) (by rfl) ?_
  (repeat first|(with_reducible first|(refine hK _ _ ?_;clear hK K)|refine ‹∀σ w,_→K σ w› _ _ ?_|(refine W_st ?_;constructor;try intro K hK))|((with_reducible first|refine hZ _ _ ?_|refine W_rg ?_|skip);repeat1' simp only[push_cast,seval,-Nat.reduceSubDiff])|((repeat((fail_if_success with_reducible refine hK _ _ ?_);clear hK K));with_reducible refine hK _ _ ?_;clear hK K))
  refine (binsert_c h hb hL hQl (t := tokI x) (av := .slice none 0 0) (SlAt.nil _ _).rd (show (0 : Nat) < 1000000 by decide) 0).mono ?_
  rintro v w2 ⟨rfl, g1, g2⟩
  (repeat first|(with_reducible first|(refine hK _ _ ?_;clear hK K)|refine ‹∀σ w,_→K σ w› _ _ ?_|(refine W_st ?_;constructor;try intro K hK))|((with_reducible first|refine hZ _ _ ?_|refine W_rg ?_|skip);repeat1' simp only[push_cast,seval,-Nat.reduceSubDiff])|((repeat((fail_if_success with_reducible refine hK _ _ ?_);clear hK K));with_reducible refine hK _ _ ?_;clear hK K))
  exact ⟨rfl, g1, g2⟩
theorem bpop_c (h : BuAt w0 w Q pb ps pl pa b) (hb : okB b) : Gives Tryz.prog 24 #[.pointer (some ⟨ps, 0, none⟩)] w fun v w' => v = .int .i64 (topS b.s) ∧ BuAt w0 w' Q pb ps pl pa { b with s := b.s.dropLast } ∧ Upd (AF w0 Q) w w' := by
  obtain ⟨P, hS, hback⟩ := h.stk
  refine (spop_c hS hb.s).mono ?_
  rintro v w' ⟨rfl, g1, g2⟩
  exact ⟨rfl, hback _ _ _ g1 g2⟩
theorem bchars_c (h : BuAt w0 w Q pb ps pl pa b) (hb : okB b) (x : ByteArray) (hx : x.size < 1000000000) (ht : ∀ n ∈ b.L, n.text.size < 1000000000) :
    Gives Tryz.prog 35 #[.pointer (some ⟨pb, 0, none⟩), .string x] w fun _ w' => BuAt w0 w' Q pb ps pl pa (charsB b x) ∧ Upd (AF w0 Q) w w' := by
  obtain ⟨bp, hbp⟩ : ∃ bp, bp = charsB b x := ⟨_, rfl⟩
  rw [← hbp]
  unfold charsB at hbp
  refine Gives.of_W Tryz.call35 Tryz.func35 rfl Tryz.ntmps35 (by simp) ?_; intro Z hZ
  (repeat first|(with_reducible first|(refine hK _ _ ?_;clear hK K)|refine ‹∀σ w,_→K σ w› _ _ ?_|(refine W_st ?_;constructor;try intro K hK))|((with_reducible first|refine hZ _ _ ?_|refine W_rg ?_|skip);repeat1' simp only[push_cast,seval,-Nat.reduceSubDiff])|((repeat((fail_if_success with_reducible refine hK _ _ ?_);clear hK K));with_reducible refine hK _ _ ?_;clear hK K))
  refine (bnone_c h).mono ?_
  intro v w' ⟨hv, hw⟩
  subst hv; subst w'
  (repeat first|(with_reducible first|(refine hK _ _ ?_;clear hK K)|refine ‹∀σ w,_→K σ w› _ _ ?_|(refine W_st ?_;constructor;try intro K hK))|((with_reducible first|refine hZ _ _ ?_|refine W_rg ?_|skip);repeat1' simp only[push_cast,seval,-Nat.reduceSubDiff])|((repeat((fail_if_success with_reducible refine hK _ _ ?_);clear hK K));with_reducible refine hK _ _ ?_;clear hK K))
  refine (btarg_c h hb).mono ?_
  intro v w' ⟨hv, hw⟩
  subst hv; subst w'
  (repeat first|(with_reducible first|(refine hK _ _ ?_;clear hK K)|refine ‹∀σ w,_→K σ w› _ _ ?_|(refine W_st ?_;constructor;try intro K hK))|((with_reducible first|refine hZ _ _ ?_|refine W_rg ?_|skip);repeat1' simp only[push_cast,seval,-Nat.reduceSubDiff])|((repeat((fail_if_success with_reducible refine hK _ _ ?_);clear hK K));with_reducible refine hK _ _ ?_;clear hK K))
  refine (bplace_c h hb _).mono ?_
  rintro v w2 ⟨rfl, hx2⟩
  have h2 := h.pass hx2
  obtain ⟨ma, mn, mc, av, _, _, hh⟩ := h2.hd
  obtain ⟨P, hA, hback⟩ := h2.ar
  have hL := hb.L
  generalize placeB b (targB b) = pr at *
  obtain ⟨p, r⟩ := pr
  dsimp only at hbp
  by_cases hr : 0 < p
  · rw [if_pos hr] at hbp
    subst hbp
    (repeat first|(with_reducible first|(refine hK _ _ ?_;clear hK K)|refine ‹∀σ w,_→K σ w› _ _ ?_|(refine W_st ?_;constructor;try intro K hK))|((with_reducible first|refine hZ _ _ ?_|refine W_rg ?_|skip);repeat1' simp only[push_cast,seval,-Nat.reduceSubDiff,ext0,ext1,hr,cell_h,cellO_cells,hh])|((repeat((fail_if_success with_reducible refine hK _ _ ?_);clear hK K));with_reducible refine hK _ _ ?_;clear hK K))
    refine (text_a hA (by omega) p r x hx ht).mono ?_
    rintro v w3 ⟨rfl, g1, g2⟩
    obtain ⟨k1, k2⟩ := hback _ _ g1 g2
    (repeat first|(with_reducible first|(refine hK _ _ ?_;clear hK K)|refine ‹∀σ w,_→K σ w› _ _ ?_|(refine W_st ?_;constructor;try intro K hK))|((with_reducible first|refine hZ _ _ ?_|refine W_rg ?_|skip);repeat1' simp only[push_cast,seval,-Nat.reduceSubDiff])|((repeat((fail_if_success with_reducible refine hK _ _ ?_);clear hK K));with_reducible refine hK _ _ ?_;clear hK K))
    exact ⟨k1, Upd.trans hx2.upd k2 fun _ _ h => h⟩
  · rw [if_neg hr] at hbp
    subst hbp
    (repeat first|(with_reducible first|(refine hK _ _ ?_;clear hK K)|refine ‹∀σ w,_→K σ w› _ _ ?_|(refine W_st ?_;constructor;try intro K hK))|((with_reducible first|refine hZ _ _ ?_|refine W_rg ?_|skip);repeat1' simp only[push_cast,seval,-Nat.reduceSubDiff,ext0,ext1,hr])|((repeat((fail_if_success with_reducible refine hK _ _ ?_);clear hK K));with_reducible refine hK _ _ ?_;clear hK K))
    exact ⟨h2, hx2.upd⟩
end
end Go.Proofs.YtgnnlaeikcnhcaaGreatDoor
end
section
set_option linter.unusedSimpArgs false
set_option linter.unusedVariables false
namespace Go.Vk
open Go Go.Proofs.YtgnnlaeikcnhcaaGreatDoor
def againT (n : Nd) : HTok := ⟨2, n.name, ⟨#[]⟩, n.attrs, n.dup, false, false, n.frm, n.to⟩
theorem replN_len (L : List Nd) (l : List Int) (k i : Int) : (replN L l k i).1.length = l.length := by
  unfold replN
  split
  · split
    · simp
    · rfl
  · rfl
end Go.Vk
namespace Go.Proofs.YtgnnlaeikcnhcaaGreatDoor
open Go Go.Vk
set_option maxHeartbeats 40000000
theorem again_c {w : World} {m : Laid} (ha : RdAt w 2 m.av (attrCells m.nd.attrs)) : Gives Tryz.prog 108 #[m.val] w fun v w' => v = .agg ((againT m.nd).row m.av) ∧ Ext w w' := by
  obtain ⟨xa, xn, xc, exa, _⟩ := ha
  rw [Laid.val_eq, exa]
  obtain ⟨zz, hzz⟩ : ∃ zz : Array Value, zz = #[.int .i64 m.nd.kind, .string m.nd.name, .string m.nd.text, .int .i64 m.nd.space, .slice xa xn xc, .bool m.nd.dup, .int .i64 m.nd.parent, .int .i64 m.nd.content, m.kv, .int .i64 m.nd.frm, .int .i64 m.nd.to] := ⟨_, rfl⟩
  rw [← hzz]
  have hx := Ext.alloc w (.cells zz 46)
  have hp : (w.alloc (.cells zz 46)).heap[w.heap.size]? = some (.cells zz 46 (0, 0)) := by rw [heap_alloc_h, if_pos rfl]
  refine Gives.of_W Tryz.call108 Tryz.func108 rfl Tryz.ntmps108 (by simp) ?_; intro Z hZ
  (repeat first|(with_reducible first|(refine hK _ _ ?_;clear hK K)|refine ‹∀σ w,_→K σ w› _ _ ?_|(refine W_st ?_;constructor;try intro K hK))|((with_reducible first|refine hZ _ _ ?_|refine W_rg ?_|skip);repeat1' simp only[push_cast,seval,-Nat.reduceSubDiff,vcells_agg,RunV_zero Tryz.zeroValue37])|((repeat((fail_if_success with_reducible refine hK _ _ ?_);clear hK K));with_reducible refine hK _ _ ?_;clear hK K))
  generalize w.alloc (.cells zz 46) = w1 at *
  subst hzz
  obtain ⟨p, hpe⟩ : ∃ p, p = w.heap.size := ⟨_, rfl⟩
  rw [← hpe] at hp ⊢
  obtain ⟨z9, hz9⟩ : ∃ z9 : Array Value, z9 = #[.int .i64 0, .string ⟨#[]⟩, .string ⟨#[]⟩, .slice none 0 0, .bool false, .bool false, .bool false, .int .i64 0, .int .i64 0] := ⟨_, rfl⟩
  rw [← hz9]
  have hx2 := Ext.alloc w1 (.cells z9 37)
  have z2 : (w1.alloc (.cells z9 37)).heap[w1.heap.size]? = some (.cells z9 37 (0, 0)) := by rw [heap_alloc_h, if_pos rfl]
  have hp2 := hx2.blk hp
  have hsz := hx.sz
  generalize w1.alloc (.cells z9 37) = w2 at *
  obtain ⟨p2, hpe2⟩ : ∃ p, p = w1.heap.size := ⟨_, rfl⟩
  rw [← hpe2] at z2 ⊢
  subst hz9
  (repeat first|(with_reducible first|(refine hK _ _ ?_;clear hK K)|refine ‹∀σ w,_→K σ w› _ _ ?_|(refine W_st ?_;constructor;try intro K hK))|((with_reducible first|refine hZ _ _ ?_|refine W_rg ?_|skip);repeat1' simp only[push_cast,seval,-Nat.reduceSubDiff,cell_h,cellO_cells,hp2])|((repeat((fail_if_success with_reducible refine hK _ _ ?_);clear hK K));with_reducible refine hK _ _ ?_;clear hK K))
  refine build_struct Tryz.zeroValue37 unTo plTo (cs := #[.int .i64 2, .string m.nd.name, .string ⟨#[]⟩, .slice xa xn xc, .bool m.nd.dup, .bool false, .bool false, .int .i64 m.nd.frm, .int .i64 m.nd.to]) (by rfl) ?_
  have up : Upd (fun q => q = p2) w2 (setCells w2 ⟨p2, 0, none⟩ [.int .i64 2, .string m.nd.name, .string ⟨#[]⟩, .slice xa xn xc, .bool m.nd.dup, .bool false, .bool false, .int .i64 m.nd.frm, .int .i64 m.nd.to] 0) := Upd.setCells (F := fun q => q = p2) (a := ⟨p2, 0, none⟩) w2 rfl _ 0
  have hp4 := setCells_all z2 (l := [.int .i64 2, .string m.nd.name, .string ⟨#[]⟩, .slice xa xn xc, .bool m.nd.dup, .bool false, .bool false, .int .i64 m.nd.frm, .int .i64 m.nd.to]) rfl
  have hx4 : Ext w (setCells w2 ⟨p2, 0, none⟩ [.int .i64 2, .string m.nd.name, .string ⟨#[]⟩, .slice xa xn xc, .bool m.nd.dup, .bool false, .bool false, .int .i64 m.nd.frm, .int .i64 m.nd.to] 0) := Upd.trans (hx.trans hx2) up fun q hq e => by omega
  (repeat simp only [push_cast, seval, -Nat.reduceSubDiff, can_h, z2, canO_cells])
  generalize setCells w2 ⟨p2, 0, none⟩ [.int .i64 2, .string m.nd.name, .string ⟨#[]⟩, .slice xa xn xc, .bool m.nd.dup, .bool false, .bool false, .int .i64 m.nd.frm, .int .i64 m.nd.to] 0 = w4 at *
  (repeat first|(with_reducible first|(refine hK _ _ ?_;clear hK K)|refine ‹∀σ w,_→K σ w› _ _ ?_|(refine W_st ?_;constructor;try intro K hK))|((with_reducible first|refine hZ _ _ ?_|refine W_rg ?_|skip);repeat1' simp only[push_cast,seval,-Nat.reduceSubDiff,cell_h,cellO_cells,hp4])|((repeat((fail_if_success with_reducible refine hK _ _ ?_);clear hK K));with_reducible refine hK _ _ ?_;clear hK K))
  exact ⟨rfl, hx4⟩
section
variable {w0 w : World} {Q : Nat → Prop} {pb ps pl pa : Nat} {b : BSt}
theorem bflen_c (h : BuAt w0 w Q pb ps pl pa b) : Gives Tryz.prog 27 #[.pointer (some ⟨pl, 0, none⟩)] w fun v w' => v = .int .i64 (b.l.length : Int) ∧ w' = w := by
  obtain ⟨P, ⟨lv, bo, hF, _⟩, _⟩ := h.fmt
  exact flen_c hF
theorem bfrepl_c (h : BuAt w0 w Q pb ps pl pa b) (hb : okB b) (k i : Int) : Gives Tryz.prog 109 #[.pointer (some ⟨pl, 0, none⟩), .int .i64 k, .int .i64 i] w fun v w' => v = .int .i64 (replN b.L b.l k i).2 ∧ BuAt w0 w' Q pb ps pl pa { b with l := (replN b.L b.l k i).1 } ∧ Upd (AF w0 Q) w w' := by
  obtain ⟨P, hF, hback⟩ := h.fmt
  have := hb.L
  refine (replace_c hF (by omega) hb.at_ hb.l k i).mono ?_
  rintro v w' ⟨rfl, g1, g2⟩
  exact ⟨rfl, hback _ _ _ g1 g2⟩
theorem bindex_c (h : BuAt w0 w Q pb ps pl pa b) (hb : okB b) (i : Int) : Gives Tryz.prog 30 #[.pointer (some ⟨ps, 0, none⟩), .int .i64 i] w fun v w' => v = .int .i64 (indexS b.s i) ∧ w' = w := by
  obtain ⟨P, hS, _⟩ := h.stk
  exact index_s hS hb.s i
end
end Go.Proofs.YtgnnlaeikcnhcaaGreatDoor
end
section
set_option linter.unusedSimpArgs false
set_option linter.unusedVariables false
namespace Go.Vk
open Go
def byL : List (ByteArray × Int) := [(⟨#[98, 111, 100, 121]⟩, 6), (⟨#[99, 97, 112, 116, 105, 111, 110]⟩, 10), (⟨#[99, 111, 108, 103, 114, 111, 117, 112]⟩, 11), (⟨#[104, 101, 97, 100]⟩, 3), (sTable, 8), (⟨#[116, 98, 111, 100, 121]⟩, 12), (⟨#[116, 100]⟩, 14), (⟨#[116, 102, 111, 111, 116]⟩, 12), (⟨#[116, 104]⟩, 14), (⟨#[116, 104, 101, 97, 100]⟩, 12), (⟨#[116, 114]⟩, 13)]
def byN (s : ByteArray) : Option Int := (byL.find? fun x => decide (x.1 = s)).map (·.2)
def sHtml : ByteArray := ⟨#[104, 116, 109, 108]⟩
end Go.Vk
namespace Go.Proofs.YtgnnlaeikcnhcaaGreatDoor
open Go Go.Vk
/-- the map of modes, as it lies -/
def GB (w0 : World) : Prop := ∃ bm, w0.cell? ⟨2, 0, none⟩ = some (.map (some bm)) ∧ ∀ w', Ext w0 w' → ∀ s : ByteArray, s.size < 4294967281 → (Instr.lookup 170 (.map (some bm)) (.string s) true).run Tryz.prog w' = .ok (.tuple #[.int .i64 ((byN s).getD 0), .bool (byN s).isSome]) w'
theorem GB.ext {w w' : World} (h : GB w) (hx : Ext w w') : GB w' := by
  obtain ⟨bm, h1, h2⟩ := h
  exact ⟨bm, cell_ext hx h1, fun w2 hx2 => h2 w2 (hx.trans hx2)⟩
set_option maxHeartbeats 40000000
end Go.Proofs.YtgnnlaeikcnhcaaGreatDoor
end
section
set_option linter.unusedSimpArgs false
set_option linter.unusedVariables false
namespace Go.Vk
open Go
def Nms (L : List Nd) : Prop := ∀ n ∈ L, n.name.size < 4294967281
theorem Nms.node {L : List Nd} (h : Nms L) (i : Int) : (nodeN L i).name.size < 4294967281 := by
  unfold nodeN
  cases hx : nd? L i with
  | none => exact (by decide : (0 : Nat) < 4294967281)
  | some x =>
    obtain ⟨k, _, hk, _⟩ := nd?_some hx
    exact h x (List.mem_of_getElem? hk)
end Go.Vk
namespace Go.Proofs.YtgnnlaeikcnhcaaGreatDoor
open Go Go.Vk
set_option maxHeartbeats 40000000
section
variable {w0 w : World} {Q : Nat → Prop} {pb ps pl pa : Nat} {b : BSt}
theorem as_nil_c {w : World} (t : Value) : Gives Tryz.prog 113 #[.nilIface, t] w fun v w' => v = .bool false ∧ w' = w := by
  refine Gives.of_W Tryz.call113 Tryz.func113 rfl Tryz.ntmps113 (by simp) ?_; intro Z hZ
  (repeat first|(with_reducible first|(refine hK _ _ ?_;clear hK K)|refine ‹∀σ w,_→K σ w› _ _ ?_|(refine W_st ?_;constructor;try intro K hK))|((with_reducible first|refine hZ _ _ ?_|refine W_rg ?_|skip);repeat1' simp only[push_cast,seval,-Nat.reduceSubDiff,nilI])|((repeat((fail_if_success with_reducible refine hK _ _ ?_);clear hK K));with_reducible refine hK _ _ ?_;clear hK K))
theorem mkPtr (a : Option Addr) (w : World) (K : Value → World → Prop) : Pure1 Tryz.prog (Instr.makeInterface 129 (.pointer a)) w K = K (.iface 129 (.pointer a)) w := Pure1_eq (fun w => by kernel_rfl) w K
theorem berr0_c (h : BuAt w0 w Q pb ps pl pa b) (he : b.err = none) : Gives Tryz.prog 31 #[.pointer (some ⟨pb, 0, none⟩)] w fun v w' => v = .int .i64 0 ∧ Ext w w' := by
  obtain ⟨ma, mn, mc, av, _, _, hh⟩ := h.hd
  rw [he] at hh
  have hx := Ext.alloc w (.cells #[.int .i64 0] 28)
  have hh2 := hx.blk hh
  refine Gives.of_W Tryz.call31 Tryz.func31 rfl Tryz.ntmps31 (by simp) ?_; intro Z hZ
  (repeat first|(with_reducible first|(refine hK _ _ ?_;clear hK K)|refine ‹∀σ w,_→K σ w› _ _ ?_|(refine W_st ?_;constructor;try intro K hK))|((with_reducible first|refine hZ _ _ ?_|refine W_rg ?_|skip);repeat1' simp only[push_cast,seval,-Nat.reduceSubDiff])|((repeat((fail_if_success with_reducible refine hK _ _ ?_);clear hK K));with_reducible refine hK _ _ ?_;clear hK K))
  refine (bnone_c h).mono ?_
  intro v w' ⟨hv, hw⟩
  subst hv; subst w'
  (repeat first|(with_reducible first|(refine hK _ _ ?_;clear hK K)|refine ‹∀σ w,_→K σ w› _ _ ?_|(refine W_st ?_;constructor;try intro K hK))|((with_reducible first|refine hZ _ _ ?_|refine W_rg ?_|skip);repeat1' simp only[push_cast,seval,-Nat.reduceSubDiff,RunV_zero Tryz.zeroValue28,vcells_int])|((repeat((fail_if_success with_reducible refine hK _ _ ?_);clear hK K));with_reducible refine hK _ _ ?_;clear hK K))
  generalize w.alloc (.cells #[.int .i64 0] 28) = w2 at *
  (repeat first|(with_reducible first|(refine hK _ _ ?_;clear hK K)|refine ‹∀σ w,_→K σ w› _ _ ?_|(refine W_st ?_;constructor;try intro K hK))|((with_reducible first|refine hZ _ _ ?_|refine W_rg ?_|skip);repeat1' simp only[push_cast,seval,-Nat.reduceSubDiff,cell_h,cellO_cells,hh2,errV,mkPtr])|((repeat((fail_if_success with_reducible refine hK _ _ ?_);clear hK K));with_reducible refine hK _ _ ?_;clear hK K))
  refine (as_nil_c _).mono ?_
  intro v w' ⟨hv, hw⟩
  subst hv; subst w'
  (repeat first|(with_reducible first|(refine hK _ _ ?_;clear hK K)|refine ‹∀σ w,_→K σ w› _ _ ?_|(refine W_st ?_;constructor;try intro K hK))|((with_reducible first|refine hZ _ _ ?_|refine W_rg ?_|skip);repeat1' simp only[push_cast,seval,-Nat.reduceSubDiff])|((repeat((fail_if_success with_reducible refine hK _ _ ?_);clear hK K));with_reducible refine hK _ _ ?_;clear hK K))
  exact hx
end
end Go.Proofs.YtgnnlaeikcnhcaaGreatDoor
end
section
set_option linter.unusedSimpArgs false
set_option linter.unusedVariables false
namespace Go.Vk
open Go Go.Proofs.YtgnnlaeikcnhcaaGreatDoor
/-- a new element of the tag of a node -/
def frN (n : Nd) : Nd := elTok (againT n) 0
def freshB (b : BSt) (i : Int) : BSt := addB b (frN (nodeN b.L i))
def freshI_ (b : BSt) (i : Int) : Int := (addN b.L (frN (nodeN b.L i))).2
def sndN (b : BSt) (k : Nat) : Nd := nodeN b.L (b.s.getD k zS).node
def furN (b : BSt) : Nat → Nat → Int
  | 0, _ => -1
  | n + 1, k => if specN (sndN b k).space (sndN b k).name = true then (b.s.getD k zS).node else furN b n (k + 1)
def furB (b : BSt) (at_ : Nat) : Int := furN b (b.s.length - (at_ + 1)) (at_ + 1)
def toB (b : BSt) (k : Nat) : BSt := { b with s := b.s.take k }
structure IR where
  b : BSt
  last : Int
  mark : Int
def lessM (m at_ : Int) : Int := if at_ < m then m - 1 else m
/-- where an element of the stack is in the list, behind what went out of it -/
def inwAt (many : Int) (x : Int) (r : IR) : Int := if 3 < many ∧ 0 ≤ indexN r.b.l x then -1 else indexN r.b.l x
def inwOut (many : Int) (x : Int) (r : IR) : IR := if 3 < many ∧ 0 ≤ indexN r.b.l x then { r with b := { r.b with l := (removeN r.b.l x).1 }, mark := lessM r.mark (indexN r.b.l x) } else r
def inwNew (blk : Int) (k : Nat) (x at_ : Int) (r : IR) : IR :=
  let b1 := freshB r.b x
  let y := freshI_ r.b x
  let b2 : BSt := { b1 with l := (replN b1.L b1.l at_ y).1 }
  let b3 : BSt := { b2 with s := (replS b2.L b2.s k y).1 }
  { b := { b3 with L := (appendN b3.L y r.last).1 }, last := y, mark := if r.last = blk then at_ + 1 else r.mark }
def inwStep (blk : Int) (k : Nat) (many : Int) (r : IR) : IR :=
  if inwAt many (r.b.s.getD k zS).node r < 0 then { inwOut many (r.b.s.getD k zS).node r with b := { (inwOut many (r.b.s.getD k zS).node r).b with s := (remS r.b.s (r.b.s.getD k zS).node).1 } }
  else inwNew blk k (r.b.s.getD k zS).node (inwAt many (r.b.s.getD k zS).node r) (inwOut many (r.b.s.getD k zS).node r)
def inwN (fmt blk : Int) : Nat → Int → IR → IR
  | 0, _, r => r
  | k + 1, many, r => if (r.b.s.getD k zS).node = fmt then r else inwN fmt blk k (many + 1) (inwStep blk k many r)
def renewB (b : BSt) (fmt blk mark : Int) : BSt :=
  let y := freshI_ b fmt
  let b1 := freshB b fmt
  let b2 : BSt := { b1 with L := (moveN b1.L blk y).1 }
  let b3 : BSt := { b2 with L := (appendN b2.L blk y).1 }
  let b4 : BSt := { b3 with l := (removeN b3.l fmt).1 }
  let b5 : BSt := { b4 with l := (insertL b4.L b4.l (lessM mark (indexN b3.l fmt)) y).1 }
  let b6 : BSt := { b5 with s := (remS b5.s fmt).1 }
  { b6 with s := (insS b6.L b6.s (indexS b6.s blk + 1) y).1 }
def inwR (b : BSt) (fmt blk : Int) : IR := inwN fmt blk (indexS b.s blk).toNat 1 ⟨b, blk, indexN b.l fmt⟩
def onceR (b : BSt) (fmt blk above : Int) : BSt := renewB (putB (inwR b fmt blk).b (inwR b fmt blk).last above) fmt blk (inwR b fmt blk).mark
def scopeB (b : BSt) (fmt : Int) : Bool := (scp (scE 0) b.s b.s.length).any fun o => decide (o.node = fmt)
def onceB (b : BSt) (name : ByteArray) : BSt × Bool × Bool :=
  let fmt := lastName b.L b.l name
  if fmt < 0 then (b, false, false)
  else if indexS b.s fmt < 0 then ({ b with l := (removeN b.l fmt).1 }, false, true)
  else if scopeB b fmt = false then (b, false, true)
  else if furB b (indexS b.s fmt).toNat < 0 then ({ toB b (indexS b.s fmt).toNat with l := (removeN b.l fmt).1 }, false, true)
  else (onceR b fmt (furB b (indexS b.s fmt).toNat) (atS b.s (indexS b.s fmt - 1)), true, true)
def adoptN (name : ByteArray) : Nat → BSt → BSt × Bool
  | 0, b => (b, true)
  | n + 1, b => if (onceB b name).2.2 = false then ((onceB b name).1, false) else if (onceB b name).2.1 = false then ((onceB b name).1, true) else adoptN name n (onceB b name).1
def runB (b : BSt) (name : ByteArray) : BSt × Bool :=
  if isB b [name] = true ∧ indexN b.l (topS b.s) < 0 then ({ b with s := b.s.dropLast }, true) else adoptN name 8 b
end Go.Vk
end
section
set_option linter.unusedSimpArgs false
set_option linter.unusedVariables false
namespace Go.Proofs.YtgnnlaeikcnhcaaGreatDoor
open Go Go.Vk
def sBody : ByteArray := ⟨#[98, 111, 100, 121]⟩
def gb1 : BSt := (implyB newB sHtml).1
def gb2 : BSt := (implyB gb1 sBody).1
def gd2 : BSt := (implyB gb1 ⟨#[116, 100]⟩).1
def okb (b : BSt) : Bool := decide (b.L.length < 80000) && (b.L.all fun n => decide (n.attrs.length < 1000000) && decide (n.name.size < 4294967281)) && decide (b.s.length < 10000) && decide (b.l.length < 1000) && decide (b.modes.length < 100000)
theorem okb_ok {b : BSt} (h : okb b = true) : okB b ∧ b.L.length + 2 < 90000 ∧ b.L.length + 2 * b.l.length + 2 < 90000 ∧ (∀ n ∈ b.L, n.name.size < 4294967281) ∧ b.modes.length < 100000 := by
  simp only [okb, Bool.and_eq_true, decide_eq_true_eq, List.all_eq_true] at h
  obtain ⟨⟨⟨⟨h1, h2⟩, h3⟩, h4⟩, h5⟩ := h
  exact ⟨⟨by omega, fun n hn => (h2 n hn).1, h3, by omega⟩, by omega, by omega, fun n hn => (h2 n hn).2, h5⟩
theorem okg0 : okb newB = true := by kernel_rfl
theorem okg1 : okb gb1 = true := by kernel_rfl
set_option maxHeartbeats 40000000
section
variable {w0 w : World} {Q : Nat → Prop} {pb ps pl pa : Nat} {b : BSt}
theorem bfpush_c (h : BuAt w0 w Q pb ps pl pa b) (hb : okB b) (i : Int) : Gives Tryz.prog 22 #[.pointer (some ⟨pl, 0, none⟩), .int .i64 i] w fun v w' => v = .int .i64 (pushN b.L b.l i).2 ∧ BuAt w0 w' Q pb ps pl pa { b with l := (pushN b.L b.l i).1 } ∧ Upd (AF w0 Q) w w' := by
  obtain ⟨P, hF, hback⟩ := h.fmt
  have := hb.L
  refine (push_c hF (by omega) hb.at_ hb.l i).mono ?_
  rintro v w' ⟨rfl, g1, g2⟩
  exact ⟨rfl, hback _ _ _ g1 g2⟩
end
theorem nP {w : World} : ∀ q, noP q → q < w.heap.size := fun _ h => h.elim
end Go.Proofs.YtgnnlaeikcnhcaaGreatDoor
end
section
set_option linter.unusedSimpArgs false
set_option linter.unusedVariables false
namespace Go.Vk
open Go
/-- a builder whose nodes are the document and those of a list, none of them a template; nothing fostered; what is open is among them -/
structure Reg (b : BSt) (ns : List Nd) : Prop where
  gd : Gd b.L
  len : b.L.length = ns.length + 1
  nod : ∀ (i : Nat) (n : Nd), ns[i]? = some n → gN b.L ((i : Int) + 1) = { n with parent := (gN b.L ((i : Int) + 1)).parent, kids := (gN b.L ((i : Int) + 1)).kids }
  pl : ∀ n ∈ ns, kidK n.kind = true ∧ n.name ≠ tmpl
  stk : ∀ o ∈ b.s, ∃ (i : Nat) (n : Nd), ns[i]? = some n ∧ n.kind = 3 ∧ o = ⟨(i : Int) + 1, n.space, n.name⟩
  fo : b.foster = false
theorem nodeN_gN {L : List Nd} {i : Int} (h : 0 ≤ i ∧ i < L.length) : nodeN L i = gN L i := by
  unfold nodeN gN
  have := nd?_isSome L i
  rw [decide_eq_true h] at this
  obtain ⟨n, hn⟩ := Option.isSome_iff_exists.1 this
  rw [hn]; rfl
theorem aboveF_new {L : List Nd} (h : Gd L) (n : Nd) : ∀ (k : Nat) (j : Int), j < L.length → aboveF (L ++ [n]) L.length k j = false
  | 0, _, _ => rfl
  | k + 1, j, hj => by
    rw [aboveF]
    by_cases h0 : j < 0
    · rw [if_pos h0]
    · rw [if_neg h0]
      have e : ¬ j = (L.length : Int) := by omega
      rw [decide_eq_false e, Bool.false_or]
      apply aboveF_new h n k
      rw [upN_g, gN_push, if_neg e]
      split
      · omega
      · by_cases hp : 0 ≤ (gN L j).parent
        · exact (h.range hp).2
        · omega
theorem addN_pl {L : List Nd} {n : Nd} (hk : kidK n.kind = true) (hn : n.name ≠ tmpl) : addN L n = (L ++ [bareN n], (L.length : Int)) := by
  unfold addN
  rw [if_pos hk, if_neg (fun h => hn h.2.2)]
/-- a builder behind an Insert where nothing is odd -/
def insR (b : BSt) (n : Nd) : BSt := { b with L := hangN (b.L ++ [bareN n]) (targB b).toNat (-1) b.L.length, s := b.s ++ [⟨(b.L.length : Int), n.space, n.name⟩] }
theorem topS_eq (s : List OpS) : topS s = match s.getLast? with | none => -1 | some o => o.node := by
  unfold topS atS
  rcases List.eq_nil_or_concat s with rfl | ⟨r, o, rfl⟩
  · rfl
  · rw [List.concat_eq_append, List.getLast?_concat]
    simp only [List.length_append, List.length_cons, List.length_nil]
    rw [if_pos ⟨by omega, by omega⟩]
    have e : (((r.length + (0 + 1) : Nat) : Int) - 1).toNat = r.length := by omega
    rw [e]
    simp
theorem Reg.targ {b : BSt} {ns : List Nd} (h : Reg b ns) : (b.s = [] ∧ targB b = 0) ∨ ∃ (i : Nat) (n : Nd), ns[i]? = some n ∧ n.kind = 3 ∧ targB b = (i : Int) + 1 := by
  unfold targB
  rw [topS_eq]
  rcases List.eq_nil_or_concat b.s with e | ⟨r, o, e⟩
  · rw [e]; exact .inl ⟨rfl, rfl⟩
  · rw [List.concat_eq_append] at e
    obtain ⟨i, n, h1, h2, h3⟩ := h.stk o (by rw [e]; simp)
    right
    refine ⟨i, n, h1, h2, ?_⟩
    rw [e, List.getLast?_concat]
    subst h3
    dsimp only
    rw [if_neg (by omega)]
theorem Reg.t0 {b : BSt} {ns : List Nd} (h : Reg b ns) : 0 ≤ targB b ∧ targB b < b.L.length ∧ (((gN b.L (targB b)).kind = 1 ∧ targB b = 0) ∨ ((gN b.L (targB b)).kind = 3 ∧ (gN b.L (targB b)).name ≠ tmpl)) := by
  have hl := h.len
  rcases h.targ with ⟨_, e⟩ | ⟨i, n, h1, h2, e⟩
  · rw [e]; exact ⟨by omega, by omega, .inl ⟨h.gd.doc, rfl⟩⟩
  · have hi : i < ns.length := (List.getElem?_eq_some_iff.1 h1).1
    rw [e]
    refine ⟨by omega, by omega, .inr ?_⟩
    rw [h.nod i n h1]
    exact ⟨h2, (h.pl n (List.mem_of_getElem? h1)).2⟩
theorem Reg.place {b : BSt} {ns : List Nd} (h : Reg b ns) {L' : List Nd} (hk : (nodeN L' (targB b)).kind ≠ 3 ∨ (nodeN L' (targB b)).name ≠ tmpl) : placeB { b with L := L' } (targB b) = (targB b, -1) := by
  have e1 : place1 { b with L := L' } (targB b) = (targB b, -1) := by
    unfold place1
    rw [if_neg (by rw [show ({ b with L := L' } : BSt).foster = false from h.fo]; simp)]
  unfold placeB
  rw [e1]
  rw [if_neg]
  rintro ⟨_, hh⟩
  unfold htmlN at hh
  simp only [List.any_cons, List.any_nil, Bool.or_false, Bool.and_eq_true, decide_eq_true_eq] at hh
  rcases hk with hk | hk
  · exact hk hh.1
  · exact hk hh.2.2
theorem gN_hang_new {L : List Nd} (h : Gd L) {n : Nd} (hp : n.parent = -1) (hk : n.kids = []) (h1 : n.kind ≠ 1) {p : Nat} (hpl : p < L.length) (t : Int) :
    gN (hangN (L ++ [n]) p (-1) L.length) t = if t = L.length then { n with parent := (p : Int) } else if t = p then { gN L t with kids := (gN L t).kids ++ [(L.length : Int)] } else gN L t := by
  have hg := h.push hp hk h1
  have hlen : (L ++ [n]).length = L.length + 1 := by simp
  rw [gN_hang hg (by omega) (by omega)]
  have hno : ∀ u : Int, (L.length : Int) ∉ (gN (L ++ [n]) u).kids := fun u hm => by
    have := (hg.kid u _).1 hm
    rw [gN_push, if_pos rfl, hp] at this
    omega
  rw [List.erase_of_not_mem (hno t), gN_push]
  by_cases e1 : t = (L.length : Int)
  · have e2 : ¬ t = (p : Int) := by omega
    simp only [if_pos e1, if_neg e2]
  · simp only [if_neg e1]
    by_cases e2 : t = (p : Int)
    · simp only [if_pos e2, addK]
      rw [if_pos (by decide)]
    · simp only [if_neg e2]
theorem Reg.ins {b : BSt} {ns : List Nd} (h : Reg b ns) (hs : b.s.length < 512) {n : Nd} (hk : n.kind = 3) (hn : n.name ≠ tmpl) :
    insertB b n = (insR b n, (b.L.length : Int)) ∧ Reg (insR b n) (ns ++ [bareN n]) ∧
    ∀ t, gN (insR b n).L t = if t = b.L.length then { bareN n with parent := targB b } else if t = targB b then { gN b.L t with kids := (gN b.L t).kids ++ [(b.L.length : Int)] } else gN b.L t := by
  obtain ⟨t0, t1, t2⟩ := h.t0
  have hl := h.len
  have hkk : kidK n.kind = true := by rw [hk]; rfl
  have hadd : addN b.L n = (b.L ++ [bareN n], (b.L.length : Int)) := addN_pl hkk hn
  have hbp : (bareN n).parent = -1 := rfl
  have hbk : (bareN n).kids = [] := rfl
  have hb1 : (bareN n).kind ≠ 1 := by rw [show (bareN n).kind = n.kind from rfl, hk]; decide
  have hgd := h.gd.push hbp hbk hb1
  have hlen : (b.L ++ [bareN n]).length = b.L.length + 1 := by simp
  obtain ⟨p, hp⟩ : ∃ p : Nat, targB b = p := ⟨(targB b).toNat, by omega⟩
  have hpl : p < b.L.length := by omega
  have hG : ∀ t, gN (insR b n).L t = if t = b.L.length then { bareN n with parent := targB b } else if t = targB b then { gN b.L t with kids := (gN b.L t).kids ++ [(b.L.length : Int)] } else gN b.L t := fun t => by
    unfold insR
    dsimp only
    rw [hp, Int.toNat_natCast]
    exact gN_hang_new h.gd hbp hbk hb1 hpl t
  have hpt : gN (b.L ++ [bareN n]) p = gN b.L p := by rw [gN_push, if_neg (by omega)]
  have hnp : nodeN (b.L ++ [bareN n]) p = gN b.L p := by rw [nodeN_gN (by omega), hpt]
  have happ : appendN (b.L ++ [bareN n]) p b.L.length = (hangN (b.L ++ [bareN n]) p (-1) b.L.length, 0) := by
    unfold appendN
    have c1 : holdsN (b.L ++ [bareN n]) p = true := by
      unfold holdsN
      have := nd?_isSome (b.L ++ [bareN n]) p
      rw [decide_eq_true (by omega)] at this
      obtain ⟨x, hx⟩ := Option.isSome_iff_exists.1 this
      rw [hx]
      have e := gN_of hx
      rw [hpt] at e
      rw [hp] at t2
      rw [← e]
      rcases t2 with t2 | t2
      · show holdK (gN b.L p).kind = true
        rw [t2.1]; rfl
      · show holdK (gN b.L p).kind = true
        rw [t2.1]; rfl
    have c2 : hangsN (b.L ++ [bareN n]) b.L.length = true := by
      unfold hangsN
      rw [nd?_nat, List.getElem?_append_right (Nat.le_refl _), Nat.sub_self]
      exact hkk
    have c3 : aboveN (b.L ++ [bareN n]) b.L.length p = false := by
      unfold aboveN
      exact aboveF_new h.gd _ _ _ (by omega)
    rw [if_pos ⟨c1, c2, c3⟩, Int.toNat_natCast, Int.toNat_natCast]
  have hhung : hungB b n = { b with L := hangN (b.L ++ [bareN n]) p (-1) b.L.length } := by
    unfold hungB
    rw [hadd]
    have ht : targB (addB b n) = targB b := rfl
    have ea : addB b n = { b with L := b.L ++ [bareN n] } := by unfold addB; rw [hadd]
    have hpl' : placeB (addB b n) (targB (addB b n)) = (targB b, -1) := by
      rw [ht, ea]
      refine h.place ?_
      rw [hp, hnp]
      rw [hp] at t2
      rcases t2 with t2 | t2
      · left; rw [t2.1]; decide
      · exact .inr t2.2
    unfold putB
    rw [hpl', if_neg (show ¬ (0 : Int) ≤ -1 by decide)]
    dsimp only
    rw [hp, ea]
    dsimp only
    rw [happ]
  have hgi : gN (insR b n).L b.L.length = { bareN n with parent := targB b } := by rw [hG, if_pos rfl]
  have hil : (insR b n).L.length = b.L.length + 1 := by unfold insR; dsimp only; rw [hangN_len, hlen]
  have hgdR : Gd (insR b n).L := by
    have := Go.Proofs.YtgnnlaeikcnhcaaGreatDoor.append_gd hgd (p : Int) (b.L.length : Int)
    rw [happ] at this
    unfold insR
    dsimp only
    rw [hp, Int.toNat_natCast]
    exact this
  refine ⟨?_, ⟨hgdR, ?_, ?_, ?_, ?_, h.fo⟩, hG⟩
  · unfold insertB
    rw [if_neg (by omega), hadd]
    dsimp only
    rw [hhung]
    have hop : opN (hangN (b.L ++ [bareN n]) p (-1) b.L.length) b.L.length = ⟨(b.L.length : Int), n.space, n.name⟩ := by
      have e : nodeN (insR b n).L b.L.length = { bareN n with parent := targB b } := by rw [nodeN_gN (by omega), hgi]
      unfold insR at e
      dsimp only at e
      rw [hp, Int.toNat_natCast] at e
      unfold opN
      unfold nodeN at e
      rw [e]; rfl
    have hk3 : ((nd? (hangN (b.L ++ [bareN n]) p (-1) b.L.length) b.L.length).getD zN).kind = 3 := by
      have e : nodeN (insR b n).L b.L.length = { bareN n with parent := targB b } := by rw [nodeN_gN (by omega), hgi]
      unfold insR at e
      dsimp only at e
      rw [hp, Int.toNat_natCast] at e
      unfold nodeN at e
      rw [e]; exact hk
    have hpush : pushB { b with L := hangN (b.L ++ [bareN n]) p (-1) b.L.length } b.L.length = (insR b n, 0) := by
      unfold pushB insS
      dsimp only
      rw [if_pos hk3, if_pos ⟨by omega, Int.le_refl _⟩, if_neg (by omega), hop, Int.toNat_natCast, List.take_length, List.drop_length]
      unfold insR
      rw [hp, Int.toNat_natCast]
    rw [hpush]
    unfold failB
    rw [if_neg (fun h => h.2 rfl)]
  · rw [hil, hl]; simp
  · intro i x hx
    rw [List.getElem?_append] at hx
    split at hx
    · rename_i hi
      have hi' : ¬ (i : Int) + 1 = (b.L.length : Int) := by omega
      have := h.nod i x hx
      rw [hG, if_neg hi']
      split
      · rw [this]
      · rw [this]
    · rename_i hi
      have e0 : i - ns.length = 0 := by
        have := (List.getElem?_eq_some_iff.1 hx).1
        simp at this; omega
      rw [e0] at hx
      obtain rfl : bareN n = x := by simpa using hx
      have hi' : (i : Int) + 1 = (b.L.length : Int) := by omega
      rw [hG, if_pos hi']
  · intro x hx
    simp only [List.mem_append, List.mem_cons, List.not_mem_nil, or_false] at hx
    rcases hx with hx | rfl
    · exact h.pl x hx
    · exact ⟨hkk, hn⟩
  · intro o ho
    unfold insR at ho
    simp only [List.mem_append, List.mem_cons, List.not_mem_nil, or_false] at ho
    rcases ho with ho | rfl
    · obtain ⟨i, x, h1, h2, h3⟩ := h.stk o ho
      exact ⟨i, x, by rw [List.getElem?_append_left (List.getElem?_eq_some_iff.1 h1).1]; exact h1, h2, h3⟩
    · refine ⟨ns.length, bareN n, by simp, hk, ?_⟩
      have : (b.L.length : Int) = (ns.length : Int) + 1 := by omega
      rw [this]; rfl
theorem Reg.mode {b : BSt} {ns : List Nd} (h : Reg b ns) (m : Int) : Reg { b with mode := m } ns := ⟨h.gd, h.len, h.nod, h.pl, h.stk, h.fo⟩
theorem reg_new : Reg newB [] := ⟨docN_gd, rfl, fun i n h => by simp at h, fun n h => by simp at h, fun o h => by simp [newB] at h, rfl⟩
theorem insR_att {b : BSt} {n : Nd} (h : Att b.L) (hn : n.attrs.length < 1000000) : Att (insR b n).L := by
  unfold insR
  dsimp only
  refine att_hang (fun x hx => ?_) _ _ _
  simp only [List.mem_append, List.mem_cons, List.not_mem_nil, or_false] at hx
  rcases hx with hx | rfl
  · exact h x hx
  · exact hn
end Go.Vk
end
section
set_option linter.unusedSimpArgs false
set_option linter.unusedVariables false
namespace Go.Vk
open Go
def deepN (nm : ByteArray) : Nd := elTok (tokI nm) 0
structure Deep (nm : ByteArray) (k : Nat) (b : BSt) : Prop where
  reg : Reg b (List.replicate k (bareN (deepN nm)))
  s : b.s.length = k
  err : b.err = none
  at_ : Att b.L
  l : b.l = []
theorem Deep.ok {nm : ByteArray} {k : Nat} {b : BSt} (h : Deep nm k b) (hk : k ≤ 512) : okB b ∧ b.L.length = k + 1 := by
  have := h.reg.len
  rw [List.length_replicate] at this
  exact ⟨⟨by omega, h.at_, by rw [h.s]; omega, by rw [h.l]; decide⟩, this⟩
theorem Deep.step {nm : ByteArray} {k : Nat} {b : BSt} (h : Deep nm k b) (hk : k < 512) (hn : nm ≠ tmpl) : (implyB b nm).2 = (k : Int) + 1 ∧ Deep nm (k + 1) (implyB b nm).1 := by
  obtain ⟨e, r, _⟩ := h.reg.ins (n := deepN nm) (by rw [h.s]; exact hk) rfl hn
  have hl := (h.ok (by omega)).2
  have e' : implyB b nm = (insR b (deepN nm), (b.L.length : Int)) := e
  rw [e']
  refine ⟨by dsimp only; omega, ⟨?_, ?_, h.err, insR_att h.at_ (show (0 : Nat) < 1000000 by decide), h.l⟩⟩
  · rw [List.replicate_succ']; exact r
  · show (b.s ++ [_]).length = _
    simp [h.s]
end Go.Vk
end
