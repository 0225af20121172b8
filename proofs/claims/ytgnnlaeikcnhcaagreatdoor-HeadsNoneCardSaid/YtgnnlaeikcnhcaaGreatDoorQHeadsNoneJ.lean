/- What the proof leans on, part 10 of 10. -/
import Derived.Test.YtgnnlaeikcnhcaaGreatDoorQHeadsNoneI
section
set_option linter.unusedSimpArgs false
set_option linter.unusedVariables false
namespace Go.Vk
open Go Go.Proofs.YtgnnlaeikcnhcaaGreatDoor
def doesB : Nat → BSt → HTok → BSt
  | 0, b, _ => b
  | n + 1, b, t => if ownM b.mode = true then (if (stepH b t).2 = true then doesB n (stepH b t).1 t else (stepH b t).1) else b
def doOk : Nat → BSt → HTok → Prop
  | 0, _, _ => True
  | n + 1, b, t => inI64 b.mode ∧ (ownM b.mode = true → HdO 6 b ∧ ((stepH b t).2 = true → doOk n (stepH b t).1 t))
end Go.Vk
namespace Go.Proofs.YtgnnlaeikcnhcaaGreatDoor
open Go Go.Vk
set_option maxHeartbeats 40000000
section
variable {w0 w : World} {Q : Nat → Prop} {pb ps pl pa : Nat} {b : BSt}
theorem does_c (h : BuAt w0 w Q pb ps pl pa b) (hg : GB w0) (hS : GS w0) (hM : MaxAt w0) (hQl : ∀ q, Q q → q < w.heap.size) {t : HTok} {av : Value} (ha0 : RdAt w0 2 av (attrCells t.attrs)) (ht : SmT t) (hd : doOk 20 b t) :
    Gives Tryz.prog 57 #[.pointer (some ⟨pb, 0, none⟩), .agg (t.row av)] w fun _ w' => BuAt w0 w' Q pb ps pl pa (doesB 20 b t) ∧ Upd (AF w0 Q) w w' := by
  have ha := ha0.ext h.out
  obtain ⟨xa, xn, xc, eav, _⟩ := id ha
  subst eav
  have hrow : t.row (.slice xa xn xc) = #[.int .i64 t.kind, .string t.name, .string t.text, .slice xa xn xc, .bool t.dup, .bool t.self, .bool t.quirks, .int .i64 t.frm, .int .i64 t.to] := rfl
  have hx := Ext.alloc w (.cells (t.row (.slice xa xn xc)) 37)
  have hp : (w.alloc (.cells (t.row (.slice xa xn xc)) 37)).heap[w.heap.size]? = some (.cells (t.row (.slice xa xn xc)) 37 (0, 0)) := by rw [heap_alloc_h, if_pos rfl]
  obtain ⟨R, hR⟩ : ∃ R, R = doesB 20 b t := ⟨_, rfl⟩
  rw [← hR]
  refine Gives.of_W Tryz.call57 Tryz.func57 rfl Tryz.ntmps57 (by simp) ?_; intro Z hZ
  (repeat first|(with_reducible first|(refine hK _ _ ?_;clear hK K)|refine ‹∀σ w,_→K σ w› _ _ ?_|(refine W_st ?_;constructor;try intro K hK))|((with_reducible first|refine hZ _ _ ?_|refine W_rg ?_|skip);repeat1' simp only[push_cast,seval,-Nat.reduceSubDiff,vcells_agg])|((repeat((fail_if_success with_reducible refine hK _ _ ?_);clear hK K));with_reducible refine hK _ _ ?_;clear hK K))
  generalize w.alloc (.cells (t.row (.slice xa xn xc)) 37) = w1 at *
  obtain ⟨p, hpe⟩ : ∃ p, p = w.heap.size := ⟨_, rfl⟩
  rw [← hpe] at hp ⊢
  rw [hrow] at hp
  have lp := blk_lt hp
  have hQd : ∀ q, (Q q ∨ q = p) → q < w1.heap.size := by
    intro q hq
    have := hx.sz
    rcases hq with hq | hq
    · have := hQl q hq; omega
    · omega
  have h1 : BuAt w0 w1 (fun q => Q q ∨ q = p) pb ps pl pa b := h.more hx fun q hq => by
    rcases hq with hq | hq
    · exact .inl hq
    · exact .inr ⟨by omega, by omega⟩
  refine W_loop (S := Nat × BSt) (fun z => [(0, .pointer (some ⟨pb, 0, none⟩)), (3, .pointer (some ⟨p, 0, none⟩)), (4, .int .i64 (z.1 : Int))])
    (fun z w4 => z.1 ≤ 20 ∧ R = doesB (20 - z.1) z.2 t ∧ doOk (20 - z.1) z.2 t ∧ BuAt w0 w4 (fun q => Q q ∨ q = p) pb ps pl pa z.2 ∧ Upd (AF w0 (fun q => Q q ∨ q = p)) w1 w4) (fun z => 20 - z.1) (0, b) ?_ ?_ ?_
  · (repeat simp only [push_cast, seval, -Nat.reduceSubDiff])
  · exact ⟨by omega, hR, hd, h1, Upd.refl _ _⟩
  rintro ⟨j, c⟩ w5 ⟨hj, hRj, hrj, h5, hu5⟩
  dsimp only at hj hRj hrj h5 ⊢
  have hs5 := hu5.alike.size
  have hp5 := (hu5.same p lp (fun hf => hf.2 (.inr rfl))).trans hp
  have fin : ∀ {wz : World} {c' : BSt}, R = c' → BuAt w0 wz (fun q => Q q ∨ q = p) pb ps pl pa c' → Upd (AF w0 (fun q => Q q ∨ q = p)) w1 wz → BuAt w0 wz Q pb ps pl pa R ∧ Upd (AF w0 Q) w wz := fun e hz hu =>
    ⟨e ▸ hz.less fun q hq => .inl hq, Upd.trans hx.upd (hu.mono fun q _ hf => ⟨hf.1, fun hq => hf.2 (.inl hq)⟩) fun _ _ h => h⟩
  by_cases hj8 : j < 20
  · have b0 : (j : Int) < 20 := by omega
    have b2 : inI64 ((j : Int) + 1) := by unfold inI64; omega
    have e8 : 20 - j = (20 - (j + 1)) + 1 := by omega
    rw [e8, doOk] at hrj
    rw [e8, doesB] at hRj
    obtain ⟨hmo, hrn⟩ := hrj
    (repeat first|(with_reducible first|(refine hK _ _ ?_;clear hK K)|refine ‹∀σ w,_→K σ w› _ _ ?_|(refine W_st ?_;constructor;try intro K hK))|((with_reducible first|refine hZ _ _ ?_|refine W_rg ?_|skip);repeat1' simp only[push_cast,seval,-Nat.reduceSubDiff,b0])|((repeat((fail_if_success with_reducible refine hK _ _ ?_);clear hK K));with_reducible refine hK _ _ ?_;clear hK K))
    refine (bmode_c h5).mono ?_
    intro v w' ⟨hv, hw⟩
    subst hv; subst w'
    (repeat first|(with_reducible first|(refine hK _ _ ?_;clear hK K)|refine ‹∀σ w,_→K σ w› _ _ ?_|(refine W_st ?_;constructor;try intro K hK))|((with_reducible first|refine hZ _ _ ?_|refine W_rg ?_|skip);repeat1' simp only[push_cast,seval,-Nat.reduceSubDiff])|((repeat((fail_if_success with_reducible refine hK _ _ ?_);clear hK K));with_reducible refine hK _ _ ?_;clear hK K))
    refine (own19_c c.mode).mono ?_
    intro v w' ⟨hv, hw⟩
    subst hv; subst w'
    cases ho : ownM c.mode with
    | false =>
      rw [if_neg (by rw [ho]; decide)] at hRj
      (repeat first|(with_reducible first|(refine hK _ _ ?_;clear hK K)|refine ‹∀σ w,_→K σ w› _ _ ?_|(refine W_st ?_;constructor;try intro K hK))|((with_reducible first|refine hZ _ _ ?_|refine W_rg ?_|skip);repeat1' simp only[push_cast,seval,-Nat.reduceSubDiff])|((repeat((fail_if_success with_reducible refine hK _ _ ?_);clear hK K));with_reducible refine hK _ _ ?_;clear hK K))
      exact fin hRj h5 hu5
    | true =>
      obtain ⟨hO, hn⟩ := hrn ho
      rw [if_pos ho] at hRj
      (repeat first|(with_reducible first|(refine hK _ _ ?_;clear hK K)|refine ‹∀σ w,_→K σ w› _ _ ?_|(refine W_st ?_;constructor;try intro K hK))|((with_reducible first|refine hZ _ _ ?_|refine W_rg ?_|skip);repeat1' simp only[push_cast,seval,-Nat.reduceSubDiff,cell_h,cellO_cells,hp5])|((repeat((fail_if_success with_reducible refine hK _ _ ?_);clear hK K));with_reducible refine hK _ _ ?_;clear hK K))
      rw [← hrow]
      refine (step_c h5 hO hg hS hM (fun q hq => by have := hQd q hq; omega) hmo ha0 ht).mono ?_
      rintro v w6 ⟨rfl, h6, hu6⟩
      have hu06 := Upd.trans hu5 hu6 fun _ _ h => h
      cases hm : (stepH c t).2 with
      | false =>
        rw [if_neg (by rw [hm]; decide)] at hRj
        (repeat first|(with_reducible first|(refine hK _ _ ?_;clear hK K)|refine ‹∀σ w,_→K σ w› _ _ ?_|(refine W_st ?_;constructor;try intro K hK))|((with_reducible first|refine hZ _ _ ?_|refine W_rg ?_|skip);repeat1' simp only[push_cast,seval,-Nat.reduceSubDiff])|((repeat((fail_if_success with_reducible refine hK _ _ ?_);clear hK K));with_reducible refine hK _ _ ?_;clear hK K))
        exact fin hRj h6 hu06
      | true =>
        rw [if_pos hm] at hRj
        (repeat first|(with_reducible first|(refine hK _ _ ?_;clear hK K)|refine ‹∀σ w,_→K σ w› _ _ ?_|(refine W_st ?_;constructor;try intro K hK))|((with_reducible first|refine hZ _ _ ?_|refine W_rg ?_|skip);repeat1' simp only[push_cast,seval,-Nat.reduceSubDiff,b2])|((repeat((fail_if_success with_reducible refine hK _ _ ?_);clear hK K));with_reducible refine hK _ _ ?_;clear hK K))
        refine ⟨(j + 1, (stepH c t).1), by show 20 - (j + 1) < 20 - j; omega, ?_⟩
        (repeat simp only [push_cast, seval, -Nat.reduceSubDiff])
        exact ⟨by omega, hRj, hn hm, h6, hu06⟩
  · have hje : j = 20 := by omega
    subst hje
    rw [Nat.sub_self, doesB] at hRj
    (repeat first|(with_reducible first|(refine hK _ _ ?_;clear hK K)|refine ‹∀σ w,_→K σ w› _ _ ?_|(refine W_st ?_;constructor;try intro K hK))|((with_reducible first|refine hZ _ _ ?_|refine W_rg ?_|skip);repeat1' simp only[push_cast,seval,-Nat.reduceSubDiff])|((repeat((fail_if_success with_reducible refine hK _ _ ?_);clear hK K));with_reducible refine hK _ _ ?_;clear hK K))
    exact fin hRj h5 hu5
end
end Go.Proofs.YtgnnlaeikcnhcaaGreatDoor
end
section
set_option linter.unusedSimpArgs false
set_option linter.unusedVariables false
namespace Go.Proofs.YtgnnlaeikcnhcaaGreatDoor
open Go Go.Vk
set_option maxHeartbeats 40000000
theorem styPb : STy Tryz.prog 68 25 1 := ⟨Tryz.underlying68, Tryz.sizeOf25, fun w => ⟨_, by simp [Tryz.typeInfo25, Sem.run]; rfl, by decide, by decide⟩, fun w => ⟨_, by simp [Tryz.zeroValue25, Sem.run]; rfl, by decide⟩⟩
theorem bs_pb {w : World} (p : Nat) {K : Value → World → Prop} (h : ∀ b w', Ext w w' → w'.heap[b]? = some (.cells #[.pointer none, .pointer (some ⟨p, 0, none⟩)] 25 (0, 0)) → K (.slice (some ⟨b, 0, none⟩) 2 2) w') : RunV Tryz.prog (Instr.buildSlice 68 2 #[(0, .pointer none), (1, .pointer (some ⟨p, 0, none⟩))]) w K := by
  refine bs_of (parts := [(0, .pointer none), (1, .pointer (some ⟨p, 0, none⟩))]) styPb (n := 2) (by omega) (by omega) Tryz.zeroValue25 (cs := #[.pointer none, .pointer (some ⟨p, 0, none⟩)]) (by kernel_rfl) ?_
  refine h _ _ (Ext.alloc _ _) ?_
  rw [heap_alloc_h, if_pos rfl]
theorem nb_at {w : World} {b p : Nat} (h : w.heap[b]? = some (.cells #[.pointer none, .pointer (some ⟨p, 0, none⟩)] 25 (0, 0))) {k : Nat} (hk : k < 2) : w.cell? ⟨b, k, none⟩ = some (.pointer (if k = 0 then none else some ⟨p, 0, none⟩)) := by
  rw [cell_h, h, cellO_cells]
  have : k = 0 ∨ k = 1 := by omega
  rcases this with rfl | rfl <;> rfl
end Go.Proofs.YtgnnlaeikcnhcaaGreatDoor
end
section
set_option linter.unusedSimpArgs false
set_option linter.unusedVariables false
namespace Go.Vk
open Go Go.Proofs.YtgnnlaeikcnhcaaGreatDoor
def hdOb (m : Nat) (b : BSt) : Bool := decide (b.L.length + m < 90000) && (decide (b.s.length + m < 10000) && (decide (b.l.length + m < 10000) && (decide (b.modes.length + m < 99000) && ((b.L.all fun n => decide (n.name.size < 4294967281) && (decide (n.text.size < 1000000000) && decide (n.attrs.length < 1000000))) && b.s.all fun o => decide (o.name.size < 4294967281)))))
theorem hdOb_ok {m : Nat} {b : BSt} (h : hdOb m b = true) : HdO m b := by
  simp only [hdOb, Bool.and_eq_true, decide_eq_true_eq, List.all_eq_true] at h
  obtain ⟨h1, h2, h3, h4, h5, h6⟩ := h
  exact ⟨h1, h2, h3, h4, fun n hn => h5 n hn, h6⟩
def doOkb : Nat → BSt → HTok → Bool
  | 0, _, _ => true
  | n + 1, b, t => (decide (-9223372036854775808 ≤ b.mode) && decide (b.mode ≤ 9223372036854775807)) && (!ownM b.mode || (hdOb 6 b && (!(stepH b t).2 || doOkb n (stepH b t).1 t)))
theorem doOkb_ok {t : HTok} : ∀ {n : Nat} {b : BSt}, doOkb n b t = true → doOk n b t
  | 0, _, _ => trivial
  | n + 1, b, h => by
    rw [doOkb, Bool.and_eq_true, Bool.and_eq_true, decide_eq_true_eq, decide_eq_true_eq] at h
    refine ⟨⟨h.1.1, h.1.2⟩, fun ho => ?_⟩
    have h2 := h.2
    rw [ho, Bool.not_true, Bool.false_or, Bool.and_eq_true] at h2
    refine ⟨hdOb_ok h2.1, fun hs => ?_⟩
    have h3 := h2.2
    rw [hs, Bool.not_true, Bool.false_or] at h3
    exact doOkb_ok h3
def tEOF : HTok := ⟨8, ⟨#[]⟩, ⟨#[]⟩, [], false, false, false, 0, 0⟩
def tDoc : HTok := ⟨1, sHtml, ⟨#[]⟩, [], false, false, false, 0, 0⟩
def tCom : HTok := ⟨4, ⟨#[]⟩, ⟨#[99]⟩, [], false, false, false, 0, 0⟩
def bgA : BSt := doesB 20 newB tEOF
def bgB1 : BSt := doesB 20 newB tDoc
def bgB2 : BSt := doesB 20 bgB1 tCom
def bgB3 : BSt := doesB 20 bgB2 (tok19 2 sHtml)
def bgB : BSt := doesB 20 bgB3 (tok19 2 sTitle)
def bgC1 : BSt := doesB 20 newB (tok19 2 sHtml)
def bgC2 : BSt := doesB 20 bgC1 (tok19 2 sHead)
def bgC3 : BSt := doesB 20 bgC2 (tok19 2 tmpl)
def bgC : BSt := (headH bgC3 (tok19 3 tmpl)).1
theorem bg_ok : (doOkb 20 newB tEOF, doOkb 20 newB tDoc, doOkb 20 bgB1 tCom, doOkb 20 bgB2 (tok19 2 sHtml), doOkb 20 bgB3 (tok19 2 sTitle), doOkb 20 newB (tok19 2 sHtml), doOkb 20 bgC1 (tok19 2 sHead), doOkb 20 bgC2 (tok19 2 tmpl), hdOb 6 bgC3) = (true, true, true, true, true, true, true, true, true) := by kernel_rfl
end Go.Vk
end
section
set_option linter.unusedSimpArgs false
set_option linter.unusedVariables false
namespace Go.Proofs.YtgnnlaeikcnhcaaGreatDoor
open Go Go.Vk
set_option maxHeartbeats 40000000
theorem tup0 {P : Program} (a b c : Value) (w : World) (K : Value → World → Prop) : Pure1 P (Instr.extract (.tuple #[a, b, c]) 0) w K = K a w := Pure1_eq (fun w => by simp [Instr.extract, Sem.run]) w K
theorem tup1 {P : Program} (a b c : Value) (w : World) (K : Value → World → Prop) : Pure1 P (Instr.extract (.tuple #[a, b, c]) 1) w K = K b w := Pure1_eq (fun w => by simp [Instr.extract, Sem.run]) w K
theorem tup2 {P : Program} (a b c : Value) (w : World) (K : Value → World → Prop) : Pure1 P (Instr.extract (.tuple #[a, b, c]) 2) w K = K c w := Pure1_eq (fun w => by simp [Instr.extract, Sem.run]) w K
theorem GS.ext {w w' : World} (h : GS w) (hx : Ext w w') : GS w' := by
  obtain ⟨bm, h1, h2⟩ := h
  exact ⟨bm, cell_ext hx h1, fun w2 hx2 => h2 w2 (hx.trans hx2)⟩
theorem smT_small {t : HTok} (h : (decide (t.name.size < 4294967281) && (decide (t.text.size < 1000000000) && decide (t.attrs.length < 1000000))) = true) : SmT t := by
  simp only [Bool.and_eq_true, decide_eq_true_eq] at h
  exact ⟨h.1, h.2.1, h.2.2⟩
set_option maxRecDepth 100000 in
theorem bgC_cont : (nodeN bgC.L 3).content = 4 := by kernel_rfl
set_option maxRecDepth 100000 in
theorem begins_c {w : World} (hg : GB w) (hS : GS w) (hM : MaxAt w) : Gives Tryz.prog 56 #[] w fun v w' => v = .bool true ∧ Ext w w' := by
  have ok := bg_ok
  simp only [Prod.mk.injEq] at ok
  obtain ⟨o1, o2, o3, o4, o5, o6, o7, o8, o9⟩ := ok
  refine Gives.of_W Tryz.call56 Tryz.func56 rfl Tryz.ntmps56 (by simp) ?_; intro Z hZ
  (repeat first|(with_reducible first|(refine hK _ _ ?_;clear hK K)|refine ‹∀σ w,_→K σ w› _ _ ?_|(refine W_st ?_;constructor;try intro K hK))|((with_reducible first|refine hZ _ _ ?_|refine W_rg ?_|skip);repeat1' simp only[push_cast,seval,-Nat.reduceSubDiff])|((repeat((fail_if_success with_reducible refine hK _ _ ?_);clear hK K));with_reducible refine hK _ _ ?_;clear hK K))
  refine bnew_c.mono ?_
  rintro v wA0 ⟨pAb, pAs, pAl, pAa, rfl, hA0⟩
  (repeat first|(with_reducible first|(refine hK _ _ ?_;clear hK K)|refine ‹∀σ w,_→K σ w› _ _ ?_|(refine W_st ?_;constructor;try intro K hK))|((with_reducible first|refine hZ _ _ ?_|refine W_rg ?_|skip);repeat1' simp only[push_cast,seval,-Nat.reduceSubDiff])|((repeat((fail_if_success with_reducible refine hK _ _ ?_);clear hK K));with_reducible refine hK _ _ ?_;clear hK K))
  refine build_struct Tryz.zeroValue37 unTo plTo (cs := #[.int .i64 8, .string ⟨#[]⟩, .string ⟨#[]⟩, .slice none 0 0, .bool false, .bool false, .bool false, .int .i64 0, .int .i64 0]) (by rfl) ?_
  (repeat first|(with_reducible first|(refine hK _ _ ?_;clear hK K)|refine ‹∀σ w,_→K σ w› _ _ ?_|(refine W_st ?_;constructor;try intro K hK))|((with_reducible first|refine hZ _ _ ?_|refine W_rg ?_|skip);repeat1' simp only[push_cast,seval,-Nat.reduceSubDiff])|((repeat((fail_if_success with_reducible refine hK _ _ ?_);clear hK K));with_reducible refine hK _ _ ?_;clear hK K))
  refine (does_c hA0 hg hS hM nP (t := tEOF) (av := .slice none 0 0) (SlAt.nil _ _).rd (smT_small (by decide)) (doOkb_ok o1)).mono ?_
  rintro v wA1 ⟨hA1, _⟩
  replace hA1 : BuAt w wA1 noP pAb pAs pAl pAa bgA := hA1
  (repeat first|(with_reducible first|(refine hK _ _ ?_;clear hK K)|refine ‹∀σ w,_→K σ w› _ _ ?_|(refine W_st ?_;constructor;try intro K hK))|((with_reducible first|refine hZ _ _ ?_|refine W_rg ?_|skip);repeat1' simp only[push_cast,seval,-Nat.reduceSubDiff])|((repeat((fail_if_success with_reducible refine hK _ _ ?_);clear hK K));with_reducible refine hK _ _ ?_;clear hK K))
  have xA := hA1.out
  have hgB := hg.ext xA
  have hSB := hS.ext xA
  have hMB := hM.ext xA
  refine bnew_c.mono ?_
  rintro v wB0 ⟨pBb, pBs, pBl, pBa, rfl, hB0⟩
  (repeat first|(with_reducible first|(refine hK _ _ ?_;clear hK K)|refine ‹∀σ w,_→K σ w› _ _ ?_|(refine W_st ?_;constructor;try intro K hK))|((with_reducible first|refine hZ _ _ ?_|refine W_rg ?_|skip);repeat1' simp only[push_cast,seval,-Nat.reduceSubDiff])|((repeat((fail_if_success with_reducible refine hK _ _ ?_);clear hK K));with_reducible refine hK _ _ ?_;clear hK K))
  refine build_struct Tryz.zeroValue37 unTo plTo (cs := #[.int .i64 1, .string ⟨#[104, 116, 109, 108]⟩, .string ⟨#[]⟩, .slice none 0 0, .bool false, .bool false, .bool false, .int .i64 0, .int .i64 0]) (by rfl) ?_
  (repeat first|(with_reducible first|(refine hK _ _ ?_;clear hK K)|refine ‹∀σ w,_→K σ w› _ _ ?_|(refine W_st ?_;constructor;try intro K hK))|((with_reducible first|refine hZ _ _ ?_|refine W_rg ?_|skip);repeat1' simp only[push_cast,seval,-Nat.reduceSubDiff])|((repeat((fail_if_success with_reducible refine hK _ _ ?_);clear hK K));with_reducible refine hK _ _ ?_;clear hK K))
  refine (does_c hB0 hgB hSB hMB nP (t := tDoc) (av := .slice none 0 0) (SlAt.nil _ _).rd (smT_small (by decide)) (doOkb_ok o2)).mono ?_
  rintro v wB1 ⟨hB1, _⟩
  replace hB1 : BuAt wA1 wB1 noP pBb pBs pBl pBa bgB1 := hB1
  (repeat first|(with_reducible first|(refine hK _ _ ?_;clear hK K)|refine ‹∀σ w,_→K σ w› _ _ ?_|(refine W_st ?_;constructor;try intro K hK))|((with_reducible first|refine hZ _ _ ?_|refine W_rg ?_|skip);repeat1' simp only[push_cast,seval,-Nat.reduceSubDiff])|((repeat((fail_if_success with_reducible refine hK _ _ ?_);clear hK K));with_reducible refine hK _ _ ?_;clear hK K))
  refine build_struct Tryz.zeroValue37 unTo plTo (cs := #[.int .i64 4, .string ⟨#[]⟩, .string ⟨#[99]⟩, .slice none 0 0, .bool false, .bool false, .bool false, .int .i64 0, .int .i64 0]) (by rfl) ?_
  (repeat first|(with_reducible first|(refine hK _ _ ?_;clear hK K)|refine ‹∀σ w,_→K σ w› _ _ ?_|(refine W_st ?_;constructor;try intro K hK))|((with_reducible first|refine hZ _ _ ?_|refine W_rg ?_|skip);repeat1' simp only[push_cast,seval,-Nat.reduceSubDiff])|((repeat((fail_if_success with_reducible refine hK _ _ ?_);clear hK K));with_reducible refine hK _ _ ?_;clear hK K))
  refine (does_c hB1 hgB hSB hMB nP (t := tCom) (av := .slice none 0 0) (SlAt.nil _ _).rd (smT_small (by decide)) (doOkb_ok o3)).mono ?_
  rintro v wB2 ⟨hB2, _⟩
  replace hB2 : BuAt wA1 wB2 noP pBb pBs pBl pBa bgB2 := hB2
  (repeat first|(with_reducible first|(refine hK _ _ ?_;clear hK K)|refine ‹∀σ w,_→K σ w› _ _ ?_|(refine W_st ?_;constructor;try intro K hK))|((with_reducible first|refine hZ _ _ ?_|refine W_rg ?_|skip);repeat1' simp only[push_cast,seval,-Nat.reduceSubDiff])|((repeat((fail_if_success with_reducible refine hK _ _ ?_);clear hK K));with_reducible refine hK _ _ ?_;clear hK K))
  refine (start19_c _).mono ?_
  rintro v wB2t ⟨rfl, yB2⟩
  have hB2t := hB2.pass yB2
  (repeat first|(with_reducible first|(refine hK _ _ ?_;clear hK K)|refine ‹∀σ w,_→K σ w› _ _ ?_|(refine W_st ?_;constructor;try intro K hK))|((with_reducible first|refine hZ _ _ ?_|refine W_rg ?_|skip);repeat1' simp only[push_cast,seval,-Nat.reduceSubDiff])|((repeat((fail_if_success with_reducible refine hK _ _ ?_);clear hK K));with_reducible refine hK _ _ ?_;clear hK K))
  refine (does_c hB2t hgB hSB hMB nP (t := tok19 2 sHtml) (av := .slice none 0 0) (SlAt.nil _ _).rd (smT_small (by decide)) (doOkb_ok o4)).mono ?_
  rintro v wB3 ⟨hB3, _⟩
  replace hB3 : BuAt wA1 wB3 noP pBb pBs pBl pBa bgB3 := hB3
  (repeat first|(with_reducible first|(refine hK _ _ ?_;clear hK K)|refine ‹∀σ w,_→K σ w› _ _ ?_|(refine W_st ?_;constructor;try intro K hK))|((with_reducible first|refine hZ _ _ ?_|refine W_rg ?_|skip);repeat1' simp only[push_cast,seval,-Nat.reduceSubDiff])|((repeat((fail_if_success with_reducible refine hK _ _ ?_);clear hK K));with_reducible refine hK _ _ ?_;clear hK K))
  refine (start19_c _).mono ?_
  rintro v wB3t ⟨rfl, yB3⟩
  have hB3t := hB3.pass yB3
  (repeat first|(with_reducible first|(refine hK _ _ ?_;clear hK K)|refine ‹∀σ w,_→K σ w› _ _ ?_|(refine W_st ?_;constructor;try intro K hK))|((with_reducible first|refine hZ _ _ ?_|refine W_rg ?_|skip);repeat1' simp only[push_cast,seval,-Nat.reduceSubDiff])|((repeat((fail_if_success with_reducible refine hK _ _ ?_);clear hK K));with_reducible refine hK _ _ ?_;clear hK K))
  refine (does_c hB3t hgB hSB hMB nP (t := tok19 2 sTitle) (av := .slice none 0 0) (SlAt.nil _ _).rd (smT_small (by decide)) (doOkb_ok o5)).mono ?_
  rintro v wB4 ⟨hB4, _⟩
  replace hB4 : BuAt wA1 wB4 noP pBb pBs pBl pBa bgB := hB4
  (repeat first|(with_reducible first|(refine hK _ _ ?_;clear hK K)|refine ‹∀σ w,_→K σ w› _ _ ?_|(refine W_st ?_;constructor;try intro K hK))|((with_reducible first|refine hZ _ _ ?_|refine W_rg ?_|skip);repeat1' simp only[push_cast,seval,-Nat.reduceSubDiff])|((repeat((fail_if_success with_reducible refine hK _ _ ?_);clear hK K));with_reducible refine hK _ _ ?_;clear hK K))
  refine (bask_c hB4).mono ?_
  rintro v wB5 ⟨rfl, hB5, _⟩
  obtain ⟨bD, hbD⟩ : ∃ c, c = ({ bgB with ask := none } : BSt) := ⟨_, rfl⟩
  replace hB5 : BuAt wA1 wB5 noP pBb pBs pBl pBa bD := hbD ▸ hB5
  rw [show bgB.ask = some (1, sTitle) by kernel_rfl]
  (repeat first|(with_reducible first|(refine hK _ _ ?_;clear hK K)|refine ‹∀σ w,_→K σ w› _ _ ?_|(refine W_st ?_;constructor;try intro K hK))|((with_reducible first|refine hZ _ _ ?_|refine W_rg ?_|skip);repeat1' simp only[push_cast,seval,-Nat.reduceSubDiff,Option.getD_some,Option.isSome_some,tup0,tup1,tup2])|((repeat((fail_if_success with_reducible refine hK _ _ ?_);clear hK K));with_reducible refine hK _ _ ?_;clear hK K))
  have xB := hB5.out
  have hgC := hgB.ext xB
  have hSC := hSB.ext xB
  have hMC := hMB.ext xB
  refine bnew_c.mono ?_
  rintro v wC0 ⟨pCb, pCs, pCl, pCa, rfl, hC0⟩
  (repeat first|(with_reducible first|(refine hK _ _ ?_;clear hK K)|refine ‹∀σ w,_→K σ w› _ _ ?_|(refine W_st ?_;constructor;try intro K hK))|((with_reducible first|refine hZ _ _ ?_|refine W_rg ?_|skip);repeat1' simp only[push_cast,seval,-Nat.reduceSubDiff])|((repeat((fail_if_success with_reducible refine hK _ _ ?_);clear hK K));with_reducible refine hK _ _ ?_;clear hK K))
  refine (start19_c _).mono ?_
  rintro v wC0t ⟨rfl, yC0⟩
  have hC0t := hC0.pass yC0
  (repeat first|(with_reducible first|(refine hK _ _ ?_;clear hK K)|refine ‹∀σ w,_→K σ w› _ _ ?_|(refine W_st ?_;constructor;try intro K hK))|((with_reducible first|refine hZ _ _ ?_|refine W_rg ?_|skip);repeat1' simp only[push_cast,seval,-Nat.reduceSubDiff])|((repeat((fail_if_success with_reducible refine hK _ _ ?_);clear hK K));with_reducible refine hK _ _ ?_;clear hK K))
  refine (does_c hC0t hgC hSC hMC nP (t := tok19 2 sHtml) (av := .slice none 0 0) (SlAt.nil _ _).rd (smT_small (by decide)) (doOkb_ok o6)).mono ?_
  rintro v wC1 ⟨hC1, _⟩
  replace hC1 : BuAt wB5 wC1 noP pCb pCs pCl pCa bgC1 := hC1
  (repeat first|(with_reducible first|(refine hK _ _ ?_;clear hK K)|refine ‹∀σ w,_→K σ w› _ _ ?_|(refine W_st ?_;constructor;try intro K hK))|((with_reducible first|refine hZ _ _ ?_|refine W_rg ?_|skip);repeat1' simp only[push_cast,seval,-Nat.reduceSubDiff])|((repeat((fail_if_success with_reducible refine hK _ _ ?_);clear hK K));with_reducible refine hK _ _ ?_;clear hK K))
  refine (start19_c _).mono ?_
  rintro v wC1t ⟨rfl, yC1⟩
  have hC1t := hC1.pass yC1
  (repeat first|(with_reducible first|(refine hK _ _ ?_;clear hK K)|refine ‹∀σ w,_→K σ w› _ _ ?_|(refine W_st ?_;constructor;try intro K hK))|((with_reducible first|refine hZ _ _ ?_|refine W_rg ?_|skip);repeat1' simp only[push_cast,seval,-Nat.reduceSubDiff])|((repeat((fail_if_success with_reducible refine hK _ _ ?_);clear hK K));with_reducible refine hK _ _ ?_;clear hK K))
  refine (does_c hC1t hgC hSC hMC nP (t := tok19 2 sHead) (av := .slice none 0 0) (SlAt.nil _ _).rd (smT_small (by decide)) (doOkb_ok o7)).mono ?_
  rintro v wC2 ⟨hC2, _⟩
  replace hC2 : BuAt wB5 wC2 noP pCb pCs pCl pCa bgC2 := hC2
  (repeat first|(with_reducible first|(refine hK _ _ ?_;clear hK K)|refine ‹∀σ w,_→K σ w› _ _ ?_|(refine W_st ?_;constructor;try intro K hK))|((with_reducible first|refine hZ _ _ ?_|refine W_rg ?_|skip);repeat1' simp only[push_cast,seval,-Nat.reduceSubDiff])|((repeat((fail_if_success with_reducible refine hK _ _ ?_);clear hK K));with_reducible refine hK _ _ ?_;clear hK K))
  refine (start19_c _).mono ?_
  rintro v wC2t ⟨rfl, yC2⟩
  have hC2t := hC2.pass yC2
  (repeat first|(with_reducible first|(refine hK _ _ ?_;clear hK K)|refine ‹∀σ w,_→K σ w› _ _ ?_|(refine W_st ?_;constructor;try intro K hK))|((with_reducible first|refine hZ _ _ ?_|refine W_rg ?_|skip);repeat1' simp only[push_cast,seval,-Nat.reduceSubDiff])|((repeat((fail_if_success with_reducible refine hK _ _ ?_);clear hK K));with_reducible refine hK _ _ ?_;clear hK K))
  refine (does_c hC2t hgC hSC hMC nP (t := tok19 2 tmpl) (av := .slice none 0 0) (SlAt.nil _ _).rd (smT_small (by decide)) (doOkb_ok o8)).mono ?_
  rintro v wC3 ⟨hC3, _⟩
  replace hC3 : BuAt wB5 wC3 noP pCb pCs pCl pCa bgC3 := hC3
  (repeat first|(with_reducible first|(refine hK _ _ ?_;clear hK K)|refine ‹∀σ w,_→K σ w› _ _ ?_|(refine W_st ?_;constructor;try intro K hK))|((with_reducible first|refine hZ _ _ ?_|refine W_rg ?_|skip);repeat1' simp only[push_cast,seval,-Nat.reduceSubDiff])|((repeat((fail_if_success with_reducible refine hK _ _ ?_);clear hK K));with_reducible refine hK _ _ ?_;clear hK K))
  refine (bmode_c hC3).mono ?_
  intro v w' ⟨hv, hw⟩
  subst hv; subst w'
  (repeat first|(with_reducible first|(refine hK _ _ ?_;clear hK K)|refine ‹∀σ w,_→K σ w› _ _ ?_|(refine W_st ?_;constructor;try intro K hK))|((with_reducible first|refine hZ _ _ ?_|refine W_rg ?_|skip);repeat1' simp only[push_cast,seval,-Nat.reduceSubDiff])|((repeat((fail_if_success with_reducible refine hK _ _ ?_);clear hK K));with_reducible refine hK _ _ ?_;clear hK K))
  refine (end19_c _).mono ?_
  rintro v wC3t ⟨rfl, yC3⟩
  have hC3t := hC3.pass yC3
  (repeat first|(with_reducible first|(refine hK _ _ ?_;clear hK K)|refine ‹∀σ w,_→K σ w› _ _ ?_|(refine W_st ?_;constructor;try intro K hK))|((with_reducible first|refine hZ _ _ ?_|refine W_rg ?_|skip);repeat1' simp only[push_cast,seval,-Nat.reduceSubDiff])|((repeat((fail_if_success with_reducible refine hK _ _ ?_);clear hK K));with_reducible refine hK _ _ ?_;clear hK K))
  refine (head_c hC3t ((hdOb_ok o9).mono (by decide)) hgC hMC nP (t := tok19 3 tmpl) (av := .slice none 0 0) (SlAt.nil _ _).rd (smT_small (by decide))).mono ?_
  rintro v wC4 ⟨rfl, hC4, _⟩
  replace hC4 : BuAt wB5 wC4 noP pCb pCs pCl pCa bgC := hC4
  (repeat first|(with_reducible first|(refine hK _ _ ?_;clear hK K)|refine ‹∀σ w,_→K σ w› _ _ ?_|(refine W_st ?_;constructor;try intro K hK))|((with_reducible first|refine hZ _ _ ?_|refine W_rg ?_|skip);repeat1' simp only[push_cast,seval,-Nat.reduceSubDiff])|((repeat((fail_if_success with_reducible refine hK _ _ ?_);clear hK K));with_reducible refine hK _ _ ?_;clear hK K))
  have hB6 := hB5.pass hC4.out
  have hA6 := hA1.pass (xB.trans hC4.out)
  refine (barena_c hB6).mono ?_
  intro v w' ⟨hv, hw⟩
  subst hv; subst w'
  (repeat first|(with_reducible first|(refine hK _ _ ?_;clear hK K)|refine ‹∀σ w,_→K σ w› _ _ ?_|(refine W_st ?_;constructor;try intro K hK))|((with_reducible first|refine hZ _ _ ?_|refine W_rg ?_|skip);repeat1' simp only[push_cast,seval,-Nat.reduceSubDiff])|((repeat((fail_if_success with_reducible refine hK _ _ ?_);clear hK K));with_reducible refine hK _ _ ?_;clear hK K))
  obtain ⟨PB, hAB, _⟩ := hB6.ar
  obtain ⟨okD, _⟩ := okb_ok (show okb bD = true by rw [hbD]; kernel_rfl)
  refine (tree_a hAB (by have := okD.L; omega) okD.at_).mono ?_
  rintro v w9 ⟨T, bo, hT, hTL, hx9, -, -⟩
  have hA9 := hA6.pass hx9
  have hB9 := hB6.pass hx9
  have hC9 := hC4.pass hx9
  obtain ⟨ta, tc, rfl, htc⟩ := hT.len
  have hTl : T.length = 6 := by
    have := congrArg List.length hTL
    rw [List.length_map] at this
    rw [this, hbD]; exact (show ({ bgB with ask := none } : BSt).L.length = 6 by kernel_rfl)
  (repeat first|(with_reducible first|(refine hK _ _ ?_;clear hK K)|refine ‹∀σ w,_→K σ w› _ _ ?_|(refine W_st ?_;constructor;try intro K hK))|((with_reducible first|refine hZ _ _ ?_|refine W_rg ?_|skip);repeat1' simp only[push_cast,seval,-Nat.reduceSubDiff])|((repeat((fail_if_success with_reducible refine hK _ _ ?_);clear hK K));with_reducible refine hK _ _ ?_;clear hK K))
  (try (with_reducible refine W_id ?_); refine W_reg (by decide) (by rfl) ?_); refine Wo_flat (by simp only [lapp_cons, lapp_nil]; exact rfl) ?_
  (repeat simp only [push_cast, seval, -Nat.reduceSubDiff])
  refine (bquirks_c hA9).mono ?_
  intro v w' ⟨hv, hw⟩
  subst hv; subst w'
  rw [show bgA.quirks = true by kernel_rfl]
  (repeat first|(with_reducible first|(refine hK _ _ ?_;clear hK K)|refine ‹∀σ w,_→K σ w› _ _ ?_|(refine W_st ?_;constructor;try intro K hK))|((with_reducible first|refine hZ _ _ ?_|refine W_rg ?_|skip);repeat1' simp only[push_cast,seval,-Nat.reduceSubDiff])|((repeat((fail_if_success with_reducible refine hK _ _ ?_);clear hK K));with_reducible refine hK _ _ ?_;clear hK K))
  refine (bmode_c hA9).mono ?_
  intro v w' ⟨hv, hw⟩
  subst hv; subst w'
  rw [show bgA.mode = 6 by kernel_rfl]
  (repeat first|(with_reducible first|(refine hK _ _ ?_;clear hK K)|refine ‹∀σ w,_→K σ w› _ _ ?_|(refine W_st ?_;constructor;try intro K hK))|((with_reducible first|refine hZ _ _ ?_|refine W_rg ?_|skip);repeat1' simp only[push_cast,seval,-Nat.reduceSubDiff,eq_self])|((repeat((fail_if_success with_reducible refine hK _ _ ?_);clear hK K));with_reducible refine hK _ _ ?_;clear hK K))
  refine (bstack_c hA9).mono ?_
  intro v w' ⟨hv, hw⟩
  subst hv; subst w'
  (repeat first|(with_reducible first|(refine hK _ _ ?_;clear hK K)|refine ‹∀σ w,_→K σ w› _ _ ?_|(refine W_st ?_;constructor;try intro K hK))|((with_reducible first|refine hZ _ _ ?_|refine W_rg ?_|skip);repeat1' simp only[push_cast,seval,-Nat.reduceSubDiff])|((repeat((fail_if_success with_reducible refine hK _ _ ?_);clear hK K));with_reducible refine hK _ _ ?_;clear hK K))
  refine (bslen_c hA9).mono ?_
  intro v w' ⟨hv, hw⟩
  subst hv; subst w'
  rw [show bgA.s.length = 2 by kernel_rfl]
  have nodK : ∀ (i : Nat) (q : Nd), bD.L[i]? = some q → ∃ m, T[i]? = some m ∧ m.nd = q := fun i q hq => by
    rw [← hTL, List.getElem?_map] at hq
    cases hm : T[i]? with
    | none => rw [hm] at hq; cases hq
    | some m => rw [hm] at hq; exact ⟨m, rfl, Option.some.inj hq⟩
  have k0 : (bD.L[0]?).map Nd.kids = some [1, 2, 3] := by rw [hbD]; exact (by kernel_rfl : (bgB.L[0]?).map Nd.kids = some [1, 2, 3])
  have k2 : (bD.L[2]?).map Nd.kind = some 5 := by rw [hbD]; exact (by kernel_rfl : (bgB.L[2]?).map Nd.kind = some 5)
  obtain ⟨q0, e0, k0⟩ := Option.map_eq_some_iff.1 k0
  obtain ⟨q2, e2, k2⟩ := Option.map_eq_some_iff.1 k2
  obtain ⟨m0, hm0, hn0⟩ := nodK 0 _ e0
  obtain ⟨m2, hm2, hn2⟩ := nodK 2 _ e2
  obtain ⟨tb, to_, n', c', e, _⟩ := hT.sl.some_of (by intro e; have := flat_length T; rw [e] at this; simp at this; omega)
  cases e
  rw [hTl]
  have kk0 := (hT.ok m0 (List.mem_of_getElem? hm0)).kids
  have c08 := hT.get hm0 (j := 8) (by decide)
  have c20 := hT.get hm2 (j := 0) (by decide)
  simp only [Laid.cells, List.getElem?_cons_zero, List.getElem?_cons_succ, hn0, hn2, Nat.reduceMul] at c08 c20
  rw [hn0, k0] at kk0
  rw [k2] at c20
  obtain ⟨_, _, ek0, _⟩ := kk0.ints_len
  rw [ek0] at c08 kk0
  obtain ⟨kb0, ko0, _, _, e, _⟩ := kk0.some_of (by simp [intCells])
  cases e
  have d01 := kk0.ints_cell (i := 1) (show ([1, 2, 3] : List Int)[1]? = some 2 from rfl)
  have e03 : (List.length ([1, 2, 3] : List Int)) = 3 := rfl
  (repeat first|(with_reducible first|(refine hK _ _ ?_;clear hK K)|refine ‹∀σ w,_→K σ w› _ _ ?_|(refine W_st ?_;constructor;try intro K hK))|((with_reducible first|refine hZ _ _ ?_|refine W_rg ?_|skip);repeat1' simp only[push_cast,seval,-Nat.reduceSubDiff,eq_self])|((repeat((fail_if_success with_reducible refine hK _ _ ?_);clear hK K));with_reducible refine hK _ _ ?_;clear hK K))
  refine (bquirks_c hB9).mono ?_
  intro v w' ⟨hv, hw⟩
  subst hv; subst w'
  rw [show bD.quirks = false by rw [hbD]; exact (by kernel_rfl : bgB.quirks = false)]
  (repeat first|(with_reducible first|(refine hK _ _ ?_;clear hK K)|refine ‹∀σ w,_→K σ w› _ _ ?_|(refine W_st ?_;constructor;try intro K hK))|((with_reducible first|refine hZ _ _ ?_|refine W_rg ?_|skip);repeat1' simp only[push_cast,seval,-Nat.reduceSubDiff,eq_self,c08,d01,c20,e03])|((repeat((fail_if_success with_reducible refine hK _ _ ?_);clear hK K));with_reducible refine hK _ _ ?_;clear hK K))
  refine (bmode_c hB9).mono ?_
  intro v w' ⟨hv, hw⟩
  subst hv; subst w'
  rw [show bD.mode = 7 by rw [hbD]; exact (by kernel_rfl : bgB.mode = 7)]
  have hm15 : bgC3.mode = 15 := by kernel_rfl
  have hti : sTitle = ⟨#[116, 105, 116, 108, 101]⟩ := rfl
  (repeat first|(with_reducible first|(refine hK _ _ ?_;clear hK K)|refine ‹∀σ w,_→K σ w› _ _ ?_|(refine W_st ?_;constructor;try intro K hK))|((with_reducible first|refine hZ _ _ ?_|refine W_rg ?_|skip);repeat1' simp only[push_cast,seval,-Nat.reduceSubDiff,eq_self,hm15,hti])|((repeat((fail_if_success with_reducible refine hK _ _ ?_);clear hK K));with_reducible refine hK _ _ ?_;clear hK K))
  refine (bmode_c hC9).mono ?_
  intro v w' ⟨hv, hw⟩
  subst hv; subst w'
  rw [show bgC.mode = 3 by kernel_rfl]
  (repeat first|(with_reducible first|(refine hK _ _ ?_;clear hK K)|refine ‹∀σ w,_→K σ w› _ _ ?_|(refine W_st ?_;constructor;try intro K hK))|((with_reducible first|refine hZ _ _ ?_|refine W_rg ?_|skip);repeat1' simp only[push_cast,seval,-Nat.reduceSubDiff,eq_self])|((repeat((fail_if_success with_reducible refine hK _ _ ?_);clear hK K));with_reducible refine hK _ _ ?_;clear hK K))
  refine (barena_c hC9).mono ?_
  intro v w' ⟨hv, hw⟩
  subst hv; subst w'
  (repeat first|(with_reducible first|(refine hK _ _ ?_;clear hK K)|refine ‹∀σ w,_→K σ w› _ _ ?_|(refine W_st ?_;constructor;try intro K hK))|((with_reducible first|refine hZ _ _ ?_|refine W_rg ?_|skip);repeat1' simp only[push_cast,seval,-Nat.reduceSubDiff])|((repeat((fail_if_success with_reducible refine hK _ _ ?_);clear hK K));with_reducible refine hK _ _ ?_;clear hK K))
  obtain ⟨PC, hAC, _⟩ := hC9.ar
  obtain ⟨okC, _⟩ := okb_ok (show okb bgC = true by kernel_rfl)
  refine (node_a hAC (by have := okC.L; omega) okC.at_ 3).mono ?_
  rintro v w10 ⟨mm, rfl, emm, _, _, hx10, _, _⟩
  have hcc : mm.nd.content = 4 := by
    rw [show mm.nd = nodeN bgC.L 3 from emm]; exact bgC_cont
  (repeat first|(with_reducible first|(refine hK _ _ ?_;clear hK K)|refine ‹∀σ w,_→K σ w› _ _ ?_|(refine W_st ?_;constructor;try intro K hK))|((with_reducible first|refine hZ _ _ ?_|refine W_rg ?_|skip);repeat1' simp only[push_cast,seval,-Nat.reduceSubDiff,fld7,hcc,eq_self])|((repeat((fail_if_success with_reducible refine hK _ _ ?_);clear hK K));with_reducible refine hK _ _ ?_;clear hK K))
  exact hA9.out.trans hx10
end Go.Proofs.YtgnnlaeikcnhcaaGreatDoor
end
section
set_option linter.unusedSimpArgs false
set_option linter.unusedVariables false
namespace Go.Proofs.YtgnnlaeikcnhcaaGreatDoor
open Go Go.Vk Go.WideElems Go.Maps
theorem gbh_of {W : World} (h : laidMetH Tryz.prog [("lazaret/builder.by", Rows.laid_lazaret_builder_by), ("lazaret/heads.steps", Rows.laid_lazaret_heads_steps)] W) : GB W := by
  have h' : laidMet Tryz.prog [("lazaret/builder.by", Rows.laid_lazaret_builder_by)] W ∧ _ := h
  obtain ⟨⟨ps, ⟨g', t', cs, fuel, p, q, hg', ht', hvar, hd, _, _⟩, _⟩, _⟩ := h'
  obtain rfl := Option.some.inj (gBy.symm.trans hg')
  obtain rfl := Option.some.inj (gByT.symm.trans ht')
  exact gb_of_var hvar hd
theorem heads_of {W : World} (h : laidMetH Tryz.prog [("lazaret/builder.by", Rows.laid_lazaret_builder_by), ("lazaret/heads.steps", Rows.laid_lazaret_heads_steps)] W) (hs : W.ShapedOpen Tryz.prog) : GB W ∧ GS W ∧ MaxAt W := ⟨gbh_of h, gs_of h, maxAt_of hs⟩
end Go.Proofs.YtgnnlaeikcnhcaaGreatDoor
end
section
set_option linter.unusedSimpArgs false
set_option linter.unusedVariables false
namespace Go.Proofs.YtgnnlaeikcnhcaaGreatDoor
open Go Go.Vk
set_option maxHeartbeats 40000000
set_option maxHeartbeats 4000000 in
theorem headsNone_c {w0 : World} (hg : GB w0) (hS : GS w0) (hM : MaxAt w0) {t : HTok} {av : Value} (ha : RdAt w0 2 av (attrCells t.attrs)) :
    Gives Tryz.prog 10 #[.agg (t.row av)] w0 fun v w' => v = .bool true ∧ Ext w0 w' := by
  obtain ⟨xa, xn, xc, eav, _⟩ := id ha
  subst eav
  have hrow : t.row (.slice xa xn xc) = #[.int .i64 t.kind, .string t.name, .string t.text, .slice xa xn xc, .bool t.dup, .bool t.self, .bool t.quirks, .int .i64 t.frm, .int .i64 t.to] := rfl
  have hx := Ext.alloc w0 (.cells (t.row (.slice xa xn xc)) 37)
  have hp : (w0.alloc (.cells (t.row (.slice xa xn xc)) 37)).heap[w0.heap.size]? = some (.cells (t.row (.slice xa xn xc)) 37 (0, 0)) := by rw [heap_alloc_h, if_pos rfl]
  refine Gives.of_W Tryz.call10 Tryz.func10 rfl Tryz.ntmps10 (by simp) ?_; intro Z hZ
  (repeat first|(with_reducible first|(refine hK _ _ ?_;clear hK K)|refine ‹∀σ w,_→K σ w› _ _ ?_|(refine W_st ?_;constructor;try intro K hK))|((with_reducible first|refine hZ _ _ ?_|refine W_rg ?_|skip);repeat1' simp only[push_cast,seval,-Nat.reduceSubDiff,vcells_agg])|((repeat((fail_if_success with_reducible refine hK _ _ ?_);clear hK K));with_reducible refine hK _ _ ?_;clear hK K))
  generalize w0.alloc (.cells (t.row (.slice xa xn xc)) 37) = w1 at *
  obtain ⟨p, hpe⟩ : ∃ p, p = w0.heap.size := ⟨_, rfl⟩
  rw [← hpe] at hp ⊢
  rw [hrow] at hp
  refine build_struct Tryz.zeroValue67 unBu plBu (cs := zRow) (by rfl) ?_
  have hxb := Ext.alloc w1 (.cells zRow 67)
  have hpb : (w1.alloc (.cells zRow 67)).heap[w1.heap.size]? = some (.cells zRow 67 (0, 0)) := by rw [heap_alloc_h, if_pos rfl]
  (repeat simp only [push_cast, seval, -Nat.reduceSubDiff, vcells_agg])
  generalize w1.alloc (.cells zRow 67) = w3 at *
  obtain ⟨pb, hpbe⟩ : ∃ pb, pb = w1.heap.size := ⟨_, rfl⟩
  rw [← hpbe] at hpb ⊢
  refine bs_pb pb fun bs w4 hx4 hbs => ?_
  (repeat first|(with_reducible first|(refine hK _ _ ?_;clear hK K)|refine ‹∀σ w,_→K σ w› _ _ ?_|(refine W_st ?_;constructor;try intro K hK))|((with_reducible first|refine hZ _ _ ?_|refine W_rg ?_|skip);repeat1' simp only[push_cast,seval,-Nat.reduceSubDiff])|((repeat((fail_if_success with_reducible refine hK _ _ ?_);clear hK K));with_reducible refine hK _ _ ?_;clear hK K))
  have hx14 := hxb.trans hx4
  have hx04 := hx.trans hx14
  have hpb4 := hx4.blk hpb
  have hp4 := hx14.blk hp
  refine W_loop (S := Nat) (fun k => [(1, .pointer (some ⟨p, 0, none⟩)), (7, .slice (some ⟨bs, 0, none⟩) 2 2), (8, .int .i64 2), (9, .int .i64 (k : Int))])
    (fun k w5 => k ≤ 2 ∧ Ext w4 w5) (fun k => 2 - k) 0 ?_ ?_ ?_
  · (repeat simp only [push_cast, seval, -Nat.reduceSubDiff])
  · exact ⟨by omega, Ext.refl _⟩
  rintro k w5 ⟨hk, hx5⟩
  have hx05 := hx04.trans hx5
  have hp5 := hx5.blk hp4
  by_cases hk2 : k < 2
  · have b0 : (k : Int) < 2 := by omega
    have b1 : (0 : Int) ≤ (k : Int) := by omega
    have b2 : inI64 ((k : Int) + 1) := by unfold inI64; omega
    have hcb := nb_at hbs hk2
    obtain ⟨pv, hpv⟩ : ∃ pv, pv = (if k = 0 then none else some (⟨pb, 0, none⟩ : Addr)) := ⟨_, rfl⟩
    rw [← hpv] at hcb
    have hcb := cell_ext hx5 hcb
    have hN5 : NoB w5 pv := by
      rw [hpv]
      split
      · exact .inl rfl
      · exact .inr ⟨pb, rfl, hx5.blk hpb4⟩
    (repeat first|(with_reducible first|(refine hK _ _ ?_;clear hK K)|refine ‹∀σ w,_→K σ w› _ _ ?_|(refine W_st ?_;constructor;try intro K hK))|((with_reducible first|refine hZ _ _ ?_|refine W_rg ?_|skip);repeat1' simp only[push_cast,seval,-Nat.reduceSubDiff,b0,b1,hcb,cell_h,cellO_cells,hp5])|((repeat((fail_if_success with_reducible refine hK _ _ ?_);clear hK K));with_reducible refine hK _ _ ?_;clear hK K))
    rw [← hrow]
    refine (zstep_c hN5 hS hx05 t).mono ?_
    rintro v w6 ⟨rfl, hx6⟩
    have hp6 := hx6.blk hp5
    (repeat first|(with_reducible first|(refine hK _ _ ?_;clear hK K)|refine ‹∀σ w,_→K σ w› _ _ ?_|(refine W_st ?_;constructor;try intro K hK))|((with_reducible first|refine hZ _ _ ?_|refine W_rg ?_|skip);repeat1' simp only[push_cast,seval,-Nat.reduceSubDiff,cell_h,cellO_cells,hp6])|((repeat((fail_if_success with_reducible refine hK _ _ ?_);clear hK K));with_reducible refine hK _ _ ?_;clear hK K))
    rw [← hrow]
    refine (zhead_c (hN5.ext hx6) t).mono ?_
    rintro v w7 ⟨rfl, hx7⟩
    have hx67 := hx6.trans hx7
    (repeat first|(with_reducible first|(refine hK _ _ ?_;clear hK K)|refine ‹∀σ w,_→K σ w› _ _ ?_|(refine W_st ?_;constructor;try intro K hK))|((with_reducible first|refine hZ _ _ ?_|refine W_rg ?_|skip);repeat1' simp only[push_cast,seval,-Nat.reduceSubDiff])|((repeat((fail_if_success with_reducible refine hK _ _ ?_);clear hK K));with_reducible refine hK _ _ ?_;clear hK K))
    refine (zover_c (hN5.ext hx67)).mono ?_
    intro v w' ⟨hv, hw⟩
    subst hv; subst w'
    (repeat first|(with_reducible first|(refine hK _ _ ?_;clear hK K)|refine ‹∀σ w,_→K σ w› _ _ ?_|(refine W_st ?_;constructor;try intro K hK))|((with_reducible first|refine hZ _ _ ?_|refine W_rg ?_|skip);repeat1' simp only[push_cast,seval,-Nat.reduceSubDiff,b2])|((repeat((fail_if_success with_reducible refine hK _ _ ?_);clear hK K));with_reducible refine hK _ _ ?_;clear hK K))
    refine ⟨k + 1, by omega, ?_⟩
    (repeat simp only [push_cast, seval, -Nat.reduceSubDiff])
    exact ⟨by omega, hx5.trans hx67⟩
  · have b0 : ¬ (k : Int) < 2 := by omega
    (repeat first|(with_reducible first|(refine hK _ _ ?_;clear hK K)|refine ‹∀σ w,_→K σ w› _ _ ?_|(refine W_st ?_;constructor;try intro K hK))|((with_reducible first|refine hZ _ _ ?_|refine W_rg ?_|skip);repeat1' simp only[push_cast,seval,-Nat.reduceSubDiff,b0])|((repeat((fail_if_success with_reducible refine hK _ _ ?_);clear hK K));with_reducible refine hK _ _ ?_;clear hK K))
    refine (begins_c (hg.ext hx05) (hS.ext hx05) (hM.ext hx05)).mono ?_
    rintro v w' ⟨rfl, hy⟩
    (repeat first|(with_reducible first|(refine hK _ _ ?_;clear hK K)|refine ‹∀σ w,_→K σ w› _ _ ?_|(refine W_st ?_;constructor;try intro K hK))|((with_reducible first|refine hZ _ _ ?_|refine W_rg ?_|skip);repeat1' simp only[push_cast,seval,-Nat.reduceSubDiff])|((repeat((fail_if_success with_reducible refine hK _ _ ?_);clear hK K));with_reducible refine hK _ _ ?_;clear hK K))
    exact hx05.trans hy
end Go.Proofs.YtgnnlaeikcnhcaaGreatDoor
end
section
set_option linter.unusedSimpArgs false
set_option linter.unusedVariables false
namespace Go.Proofs.YtgnnlaeikcnhcaaGreatDoor
open Go Go.Vk Go.RowKit Go.Extern.Stop Go.Stop Go.Extern
def hv (t : Nat) : Value := .pointer (some ⟨5, t, none⟩)
end Go.Proofs.YtgnnlaeikcnhcaaGreatDoor
end
section
set_option linter.unusedSimpArgs false
set_option linter.unusedVariables false
namespace Go.Proofs.YtgnnlaeikcnhcaaGreatDoor
open Go Go.Vk Go.RowKit
/-- the error's type, as it lies -/
def ET (w : World) : Prop := w.cell? ⟨1, 0, none⟩ = some (.iface 192 (.agg #[.pointer (some ⟨5, 65, none⟩)]))
theorem ET.ext {w w' : World} (h : ET w) (hx : Ext w w') : ET w' := cell_ext hx h
set_option maxHeartbeats 40000000
end Go.Proofs.YtgnnlaeikcnhcaaGreatDoor
end
section
set_option linter.unusedSimpArgs false
set_option linter.unusedVariables false
namespace Go.Vk
theorem and_split {a b : Bool} (ha : a = true) (hb : b = true) : (a && b) = true := by rw [ha, hb]; rfl
end Go.Vk
end
section
set_option linter.unusedSimpArgs false
set_option linter.unusedVariables false
namespace Go.Vk
open Go Go.RowKit Go.WideShapes Go.ChangeShapes
structure AcF where
  kd : Int
  i : Int
  j : Int
def AcF.cells (x : AcF) : List Value := [.int .u8 x.kd, .int .i64 x.i, .int .i64 x.j]
end Go.Vk
end
section
set_option linter.unusedSimpArgs false
set_option linter.unusedVariables false
namespace Go.Proofs.YtgnnlaeikcnhcaaGreatDoor
open Go Go.Vk Go.WideShapes
theorem cellsTk : Tryz.prog.cellsOf 37 = 9 := by kernel_rfl
section
variable {H : Type} {enc : TypeId × Value → H} {W : World} {base : Nat} {sp : Nat → Bool} {hd : Bool}
theorem list9 {cs : List Value} (h : cs.length = 9) : ∃ c0 c1 c2 c3 c4 c5 c6 c7 c8, cs = [c0, c1, c2, c3, c4, c5, c6, c7, c8] := by
  match cs, h with
  | [c0, c1, c2, c3, c4, c5, c6, c7, c8], _ => exact ⟨_, _, _, _, _, _, _, _, _, rfl⟩
set_option maxRecDepth 100000 in
theorem tok_of {fuel : Nat} {cs : List Value} {x : DataW H × List MemPlace} (h : DataW.trod enc Tryz.prog W base sp hd fuel 37 cs = some x) :
    ∃ (t : HTok) (av : Value), cs = (t.row av).toList ∧ RdAt W 2 av (attrCells t.attrs) := by
  obtain ⟨xs, n, _, _, hl, hxl, hf⟩ := DataW.trod_struct Tryz.underlying37 h
  rw [cellsTk] at hl
  obtain ⟨c0, c1, c2, c3, c4, c5, c6, c7, c8, rfl⟩ := list9 hl
  have hx : ∀ i, i < 9 → ∃ y, xs[i]? = some y := fun i hi => ⟨_, List.getElem?_eq_getElem (show i < xs.length by rw [hxl]; exact hi)⟩
  obtain ⟨y0, hy0⟩ := hx 0 (by decide)
  have g0 : DataW.trod enc Tryz.prog W base sp hd n 3 (([c0, c1, c2, c3, c4, c5, c6, c7, c8].drop 0).take (Tryz.prog.cellsOf 3)) = xs[0]? := hf 0 _ rfl
  rw [hy0] at g0
  simp only [cells3, List.drop_succ_cons, List.drop_zero, List.take_succ_cons, List.take_zero] at g0
  obtain ⟨y1, hy1⟩ := hx 1 (by decide)
  have g1 : DataW.trod enc Tryz.prog W base sp hd n 9 (([c0, c1, c2, c3, c4, c5, c6, c7, c8].drop 1).take (Tryz.prog.cellsOf 9)) = xs[1]? := hf 1 _ rfl
  rw [hy1] at g1
  simp only [cells9', List.drop_succ_cons, List.drop_zero, List.take_succ_cons, List.take_zero] at g1
  obtain ⟨y2, hy2⟩ := hx 2 (by decide)
  have g2 : DataW.trod enc Tryz.prog W base sp hd n 9 (([c0, c1, c2, c3, c4, c5, c6, c7, c8].drop 2).take (Tryz.prog.cellsOf 9)) = xs[2]? := hf 2 _ rfl
  rw [hy2] at g2
  simp only [cells9', List.drop_succ_cons, List.drop_zero, List.take_succ_cons, List.take_zero] at g2
  obtain ⟨y3, hy3⟩ := hx 3 (by decide)
  have g3 : DataW.trod enc Tryz.prog W base sp hd n 35 (([c0, c1, c2, c3, c4, c5, c6, c7, c8].drop 3).take (Tryz.prog.cellsOf 35)) = xs[3]? := hf 3 _ rfl
  rw [hy3] at g3
  simp only [cells27, List.drop_succ_cons, List.drop_zero, List.take_succ_cons, List.take_zero] at g3
  obtain ⟨y4, hy4⟩ := hx 4 (by decide)
  have g4 : DataW.trod enc Tryz.prog W base sp hd n 4 (([c0, c1, c2, c3, c4, c5, c6, c7, c8].drop 4).take (Tryz.prog.cellsOf 4)) = xs[4]? := hf 4 _ rfl
  rw [hy4] at g4
  simp only [cells4, List.drop_succ_cons, List.drop_zero, List.take_succ_cons, List.take_zero] at g4
  obtain ⟨y5, hy5⟩ := hx 5 (by decide)
  have g5 : DataW.trod enc Tryz.prog W base sp hd n 4 (([c0, c1, c2, c3, c4, c5, c6, c7, c8].drop 5).take (Tryz.prog.cellsOf 4)) = xs[5]? := hf 5 _ rfl
  rw [hy5] at g5
  simp only [cells4, List.drop_succ_cons, List.drop_zero, List.take_succ_cons, List.take_zero] at g5
  obtain ⟨y6, hy6⟩ := hx 6 (by decide)
  have g6 : DataW.trod enc Tryz.prog W base sp hd n 4 (([c0, c1, c2, c3, c4, c5, c6, c7, c8].drop 6).take (Tryz.prog.cellsOf 4)) = xs[6]? := hf 6 _ rfl
  rw [hy6] at g6
  simp only [cells4, List.drop_succ_cons, List.drop_zero, List.take_succ_cons, List.take_zero] at g6
  obtain ⟨y7, hy7⟩ := hx 7 (by decide)
  have g7 : DataW.trod enc Tryz.prog W base sp hd n 3 (([c0, c1, c2, c3, c4, c5, c6, c7, c8].drop 7).take (Tryz.prog.cellsOf 3)) = xs[7]? := hf 7 _ rfl
  rw [hy7] at g7
  simp only [cells3, List.drop_succ_cons, List.drop_zero, List.take_succ_cons, List.take_zero] at g7
  obtain ⟨y8, hy8⟩ := hx 8 (by decide)
  have g8 : DataW.trod enc Tryz.prog W base sp hd n 3 (([c0, c1, c2, c3, c4, c5, c6, c7, c8].drop 8).take (Tryz.prog.cellsOf 3)) = xs[8]? := hf 8 _ rfl
  rw [hy8] at g8
  simp only [cells3, List.drop_succ_cons, List.drop_zero, List.take_succ_cons, List.take_zero] at g8
  obtain ⟨k0, e0, _, _⟩ := DataW.trod_int Tryz.underlying3 g0
  simp only [List.cons.injEq, and_true] at e0
  subst e0
  obtain ⟨k1, e1, _, _⟩ := DataW.trod_string Tryz.underlying9 g1
  simp only [List.cons.injEq, and_true] at e1
  subst e1
  obtain ⟨k2, e2, _, _⟩ := DataW.trod_string Tryz.underlying9 g2
  simp only [List.cons.injEq, and_true] at e2
  subst e2
  obtain ⟨k4, e4, _⟩ := DataW.trod_bool Tryz.underlying4 g4
  simp only [List.cons.injEq, and_true] at e4
  subst e4
  obtain ⟨k5, e5, _⟩ := DataW.trod_bool Tryz.underlying4 g5
  simp only [List.cons.injEq, and_true] at e5
  subst e5
  obtain ⟨k6, e6, _⟩ := DataW.trod_bool Tryz.underlying4 g6
  simp only [List.cons.injEq, and_true] at e6
  subst e6
  obtain ⟨k7, e7, _, _⟩ := DataW.trod_int Tryz.underlying3 g7
  simp only [List.cons.injEq, and_true] at e7
  subst e7
  obtain ⟨k8, e8, _, _⟩ := DataW.trod_int Tryz.underlying3 g8
  simp only [List.cons.injEq, and_true] at e8
  subst e8
  obtain ⟨ats, has⟩ := rd_attrs g3
  exact ⟨⟨k0, k1, k2, ats, k4, k5, k6, k7, k8⟩, c3, rfl, has⟩
set_option maxRecDepth 100000 in
theorem rd_tok {v : Value} {d : DataW H} {ps : List MemPlace} {r : Reach} {b0 : Nat} (hv : Value.okWide Tryz.prog W r b0 37 v) (h : DataW.Trod enc Tryz.prog W base sp hd 37 v d ps) :
    ∃ (t : HTok) (av : Value), v = .agg (t.row av) ∧ RdAt W 2 av (attrCells t.attrs) := by
  obtain ⟨cs, rfl, hs⟩ := okWide_struct Tryz.underlying37 hv
  obtain ⟨fuel, h⟩ := h
  obtain ⟨t, av, e, ha⟩ := tok_of h
  exact ⟨t, av, congrArg Value.agg (Array.toList_inj.1 e), ha⟩
end
end Go.Proofs.YtgnnlaeikcnhcaaGreatDoor
end
