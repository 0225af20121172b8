/- What the proof leans on, part 7 of 9. -/
import Derived.Test.YtgnnlaeikcnhcaaGreatDoorQBuilderNoneF
section
set_option linter.unusedSimpArgs false
set_option linter.unusedVariables false
namespace Go.Vk
open Go
def Att (L : List Nd) : Prop := ∀ n ∈ L, n.attrs.length < 1000000
theorem att_modify {L : List Nd} {f : Nd → Nd} (hf : ∀ n, (f n).attrs = n.attrs) (h : Att L) (k : Nat) : Att (L.modify k f) := by
  intro n hn
  obtain ⟨j, hj⟩ := List.mem_iff_getElem?.1 hn
  rw [List.getElem?_modify] at hj
  cases hl : L[j]? with
  | none => rw [hl] at hj; simp at hj
  | some x =>
    have hx := h x (List.mem_of_getElem? hl)
    have e : n = if k = j then f x else x := by
      rw [hl] at hj
      exact (Option.some.inj hj).symm
    rw [e]
    split
    · rw [hf]; exact hx
    · exact hx
theorem att_free {L : List Nd} (h : Att L) (i : Nat) : Att (freeN L i) := by
  unfold freeN
  split
  · exact h
  · split
    · exact h
    · exact att_modify (f := setPar (-1)) (fun _ => rfl) (att_modify (f := unkid i) (fun _ => rfl) h _) _
theorem att_hang {L : List Nd} (h : Att L) (p : Nat) (r : Int) (i : Nat) : Att (hangN L p r i) := att_modify (f := setPar p) (fun _ => rfl) (att_modify (f := addKid r i) (fun _ => rfl) (att_free h i) _) _
theorem att_append {L : List Nd} (h : Att L) (p i : Int) : Att (appendN L p i).1 := by
  unfold appendN; split
  · exact att_hang h _ _ _
  · exact h
theorem att_before {L : List Nd} (h : Att L) (p i : Int) : Att (beforeN L p i).1 := by
  unfold beforeN; split
  · exact att_hang h _ _ _
  · exact h
theorem len_append (L : List Nd) (p i : Int) : (appendN L p i).1.length = L.length := by
  unfold appendN; split
  · exact hangN_len _ _ _ _
  · rfl
theorem len_before (L : List Nd) (p i : Int) : (beforeN L p i).1.length = L.length := by
  unfold beforeN; split
  · exact hangN_len _ _ _ _
  · rfl
theorem att_add {L : List Nd} (h : Att L) {n : Nd} (hn : n.attrs.length < 1000000) : Att (addN L n).1 := by
  intro x hx
  unfold addN at hx
  split at hx
  · split at hx
    · simp only [List.mem_append, List.mem_cons, List.not_mem_nil, or_false] at hx
      rcases hx with hx | rfl | rfl
      · exact h x hx
      · exact hn
      · exact (by decide : (0 : Nat) < 1000000)
    · simp only [List.mem_append, List.mem_cons, List.not_mem_nil, or_false] at hx
      rcases hx with hx | rfl
      · exact h x hx
      · exact hn
  · exact h x hx
theorem len_add (L : List Nd) (n : Nd) : (addN L n).1.length ≤ L.length + 2 := by
  unfold addN
  split
  · split <;> simp
  · simp
/-- a token -/
structure HTok where
  kind : Int
  name : ByteArray
  text : ByteArray
  attrs : List (ByteArray × ByteArray)
  dup : Bool
  self : Bool
  quirks : Bool
  frm : Int
  to : Int
def HTok.row (t : HTok) (av : Value) : Array Value := #[.int .i64 t.kind, .string t.name, .string t.text, av, .bool t.dup, .bool t.self, .bool t.quirks, .int .i64 t.frm, .int .i64 t.to]
def elTok (t : HTok) (space : Int) : Nd := { zN with kind := 3, name := t.name, space := space, attrs := t.attrs, dup := t.dup, frm := t.frm, to := t.to }
def addB (b : BSt) (n : Nd) : BSt := { b with L := (addN b.L n).1 }
def pushB (b : BSt) (i : Int) : BSt × Int := ({ b with s := (insS b.L b.s b.s.length i).1 }, (insS b.L b.s b.s.length i).2)
def hungB (b : BSt) (n : Nd) : BSt := putB (addB b n) (addN b.L n).2 (targB (addB b n))
def insertB (b : BSt) (n : Nd) : BSt × Int :=
  if 512 ≤ b.s.length then (failB b 150, -1)
  else (failB (pushB (hungB b n) (addN b.L n).2).1 (pushB (hungB b n) (addN b.L n).2).2, (addN b.L n).2)
theorem putB_s (b : BSt) (i t : Int) : (putB b i t).s = b.s ∧ (putB b i t).l = b.l := by unfold putB; split <;> exact ⟨rfl, rfl⟩
theorem okB.put {b : BSt} (h : okB b) (i t : Int) : okB (putB b i t) := by
  unfold putB
  split
  · exact ⟨by rw [len_before]; exact h.L, att_before h.at_ _ _, h.s, h.l⟩
  · exact ⟨by rw [len_append]; exact h.L, att_append h.at_ _ _, h.s, h.l⟩
theorem okB.add {b : BSt} (h : okB b) (hL : b.L.length + 2 < 90000) {n : Nd} (hn : n.attrs.length < 1000000) : okB (addB b n) :=
  ⟨Nat.lt_of_le_of_lt (len_add _ _) hL, att_add h.at_ hn, h.s, h.l⟩
end Go.Vk
namespace Go.Proofs.YtgnnlaeikcnhcaaGreatDoor
open Go Go.Vk
set_option maxHeartbeats 40000000
theorem element_c {w : World} {t : HTok} {av : Value} (ha : RdAt w 2 av (attrCells t.attrs)) (space : Int) : Gives Tryz.prog 99 #[.agg (t.row av), .int .i64 space] w fun v w' => v = (Laid.mk (elTok t space) av (.slice none 0 0) none none).val ∧ Ext w w' := by
  obtain ⟨xa, xn, xc, rfl, _⟩ := ha
  unfold HTok.row
  have hx := Ext.alloc w (.cells #[.int .i64 t.kind, .string t.name, .string t.text, .slice xa xn xc, .bool t.dup, .bool t.self, .bool t.quirks, .int .i64 t.frm, .int .i64 t.to] 37)
  have hp : (w.alloc (.cells #[.int .i64 t.kind, .string t.name, .string t.text, .slice xa xn xc, .bool t.dup, .bool t.self, .bool t.quirks, .int .i64 t.frm, .int .i64 t.to] 37)).heap[w.heap.size]? = some (.cells #[.int .i64 t.kind, .string t.name, .string t.text, .slice xa xn xc, .bool t.dup, .bool t.self, .bool t.quirks, .int .i64 t.frm, .int .i64 t.to] 37 (0, 0)) := by rw [heap_alloc_h, if_pos rfl]
  refine Gives.of_W Tryz.call99 Tryz.func99 rfl Tryz.ntmps99 (by simp) ?_; intro Z hZ
  (repeat (first | (with_reducible first | (refine hK _ _ ?_; clear hK K) | refine (show ∀ σ' w', _ → K σ' w' from by assumption) _ _ ?_ | refine W_seq_k fun K hK => ?_ | refine W_block_k fun K hK => ?_ | refine W_skip ?_ | refine W_ret ?_) | ((first | ((with_reducible refine W_id ?_); refine W_reg (by decide) (by rfl) ?_) | (with_reducible first | refine W_cond ?_ | refine hZ _ _ ?_ | refine W_exit ?_ | refine Wo_id ?_) | skip); repeat1' simp only [push_cast, seval, -Nat.reduceSubDiff, vcells_agg, RunV_zero Tryz.zeroValue46]) | ((repeat ((fail_if_success with_reducible refine hK _ _ ?_); clear hK K)); (with_reducible refine hK _ _ ?_); clear hK K)))
  generalize w.alloc (.cells #[.int .i64 t.kind, .string t.name, .string t.text, .slice xa xn xc, .bool t.dup, .bool t.self, .bool t.quirks, .int .i64 t.frm, .int .i64 t.to] 37) = w1 at *
  obtain ⟨p, hpe⟩ : ∃ p, p = w.heap.size := ⟨_, rfl⟩
  rw [← hpe] at hp ⊢
  have hx2 := Ext.alloc w1 (.cells #[.int .i64 0, .string ⟨#[]⟩, .string ⟨#[]⟩, .int .i64 0, .slice none 0 0, .bool false, .int .i64 0, .int .i64 0, .slice none 0 0, .int .i64 0, .int .i64 0] 46)
  have z2 : (w1.alloc (.cells #[.int .i64 0, .string ⟨#[]⟩, .string ⟨#[]⟩, .int .i64 0, .slice none 0 0, .bool false, .int .i64 0, .int .i64 0, .slice none 0 0, .int .i64 0, .int .i64 0] 46)).heap[w1.heap.size]? = some (.cells #[.int .i64 0, .string ⟨#[]⟩, .string ⟨#[]⟩, .int .i64 0, .slice none 0 0, .bool false, .int .i64 0, .int .i64 0, .slice none 0 0, .int .i64 0, .int .i64 0] 46 (0, 0)) := by rw [heap_alloc_h, if_pos rfl]
  have hp2 := hx2.blk hp
  have hsz := hx.alike.size
  generalize w1.alloc (.cells #[.int .i64 0, .string ⟨#[]⟩, .string ⟨#[]⟩, .int .i64 0, .slice none 0 0, .bool false, .int .i64 0, .int .i64 0, .slice none 0 0, .int .i64 0, .int .i64 0] 46) = w2 at *
  obtain ⟨p2, hpe2⟩ : ∃ p, p = w1.heap.size := ⟨_, rfl⟩
  rw [← hpe2] at z2 ⊢
  (repeat (first | (with_reducible first | (refine hK _ _ ?_; clear hK K) | refine (show ∀ σ' w', _ → K σ' w' from by assumption) _ _ ?_ | refine W_seq_k fun K hK => ?_ | refine W_block_k fun K hK => ?_ | refine W_skip ?_ | refine W_ret ?_) | ((first | ((with_reducible refine W_id ?_); refine W_reg (by decide) (by rfl) ?_) | (with_reducible first | refine W_cond ?_ | refine hZ _ _ ?_ | refine W_exit ?_ | refine Wo_id ?_) | skip); repeat1' simp only [push_cast, seval, -Nat.reduceSubDiff, cell_h, cellO_cells, hp2]) | ((repeat ((fail_if_success with_reducible refine hK _ _ ?_); clear hK K)); (with_reducible refine hK _ _ ?_); clear hK K)))
  refine build_struct Tryz.zeroValue46 un30 pl30 (cs := #[.int .i64 3, .string t.name, .string ⟨#[]⟩, .int .i64 space, .slice xa xn xc, .bool t.dup, .int .i64 0, .int .i64 0, .slice none 0 0, .int .i64 t.frm, .int .i64 t.to]) (by rfl) ?_
  have up : Upd (fun q => q = p2) w2 (setCells w2 ⟨p2, 0, none⟩ [.int .i64 3, .string t.name, .string ⟨#[]⟩, .int .i64 space, .slice xa xn xc, .bool t.dup, .int .i64 0, .int .i64 0, .slice none 0 0, .int .i64 t.frm, .int .i64 t.to] 0) := Upd.setCells (F := fun q => q = p2) (a := ⟨p2, 0, none⟩) w2 rfl _ 0
  have hp4 := setCells_all z2 (l := [.int .i64 3, .string t.name, .string ⟨#[]⟩, .int .i64 space, .slice xa xn xc, .bool t.dup, .int .i64 0, .int .i64 0, .slice none 0 0, .int .i64 t.frm, .int .i64 t.to]) rfl
  have hx4 : Ext w (setCells w2 ⟨p2, 0, none⟩ [.int .i64 3, .string t.name, .string ⟨#[]⟩, .int .i64 space, .slice xa xn xc, .bool t.dup, .int .i64 0, .int .i64 0, .slice none 0 0, .int .i64 t.frm, .int .i64 t.to] 0) := Upd.trans (hx.trans hx2) up fun q hq e => by omega
  (repeat simp only [push_cast, seval, -Nat.reduceSubDiff, can_h, z2, canO_cells])
  generalize setCells w2 ⟨p2, 0, none⟩ [.int .i64 3, .string t.name, .string ⟨#[]⟩, .int .i64 space, .slice xa xn xc, .bool t.dup, .int .i64 0, .int .i64 0, .slice none 0 0, .int .i64 t.frm, .int .i64 t.to] 0 = w4 at *
  (repeat (first | (with_reducible first | (refine hK _ _ ?_; clear hK K) | refine (show ∀ σ' w', _ → K σ' w' from by assumption) _ _ ?_ | refine W_seq_k fun K hK => ?_ | refine W_block_k fun K hK => ?_ | refine W_skip ?_ | refine W_ret ?_) | ((first | ((with_reducible refine W_id ?_); refine W_reg (by decide) (by rfl) ?_) | (with_reducible first | refine W_cond ?_ | refine hZ _ _ ?_ | refine W_exit ?_ | refine Wo_id ?_) | skip); repeat1' simp only [push_cast, seval, -Nat.reduceSubDiff, cell_h, cellO_cells, hp4]) | ((repeat ((fail_if_success with_reducible refine hK _ _ ?_); clear hK K)); (with_reducible refine hK _ _ ?_); clear hK K)))
  exact ⟨by rw [Laid.val_eq]; rfl, hx4⟩
section
variable {w0 w : World} {Q : Nat → Prop} {pb ps pl pa : Nat} {b : BSt}
theorem bpush_c (h : BuAt w0 w Q pb ps pl pa b) (hb : okB b) (i : Int) : Gives Tryz.prog 101 #[.pointer (some ⟨ps, 0, none⟩), .int .i64 i] w fun v w' => v = .int .i64 (pushB b i).2 ∧ BuAt w0 w' Q pb ps pl pa (pushB b i).1 ∧ Upd (AF w0 Q) w w' := by
  obtain ⟨P, hS, hback⟩ := h.stk
  have := hb.L
  refine (spush_c hS (by omega) hb.at_ hb.s i).mono ?_
  rintro v w' ⟨rfl, g1, g2⟩
  exact ⟨rfl, hback _ _ _ g1 g2⟩
theorem binsert_c (h : BuAt w0 w Q pb ps pl pa b) (hb : okB b) (hL : b.L.length + 2 < 90000) (hQl : ∀ q, Q q → q < w.heap.size) {t : HTok} {av : Value} (ha : RdAt w 2 av (attrCells t.attrs)) (hal : t.attrs.length < 1000000) (space : Int) :
    Gives Tryz.prog 21 #[.pointer (some ⟨pb, 0, none⟩), .agg (t.row av), .int .i64 space] w fun v w' => v = .int .i64 (insertB b (elTok t space)).2 ∧ BuAt w0 w' Q pb ps pl pa (insertB b (elTok t space)).1 ∧ Upd (AF w0 Q) w w' := by
  obtain ⟨xa, xn, xc, eav, _⟩ := id ha
  subst eav
  have hrow : t.row (.slice xa xn xc) = #[.int .i64 t.kind, .string t.name, .string t.text, .slice xa xn xc, .bool t.dup, .bool t.self, .bool t.quirks, .int .i64 t.frm, .int .i64 t.to] := rfl
  have hx := Ext.alloc w (.cells (t.row (.slice xa xn xc)) 37)
  have hp : (w.alloc (.cells (t.row (.slice xa xn xc)) 37)).heap[w.heap.size]? = some (.cells (t.row (.slice xa xn xc)) 37 (0, 0)) := by rw [heap_alloc_h, if_pos rfl]
  obtain ⟨r, hr⟩ : ∃ r, r = insertB b (elTok t space) := ⟨_, rfl⟩
  rw [← hr]
  unfold insertB at hr
  have hs := hb.s
  refine Gives.of_W Tryz.call21 Tryz.func21 rfl Tryz.ntmps21 (by simp) ?_; intro Z hZ
  (repeat (first | (with_reducible first | (refine hK _ _ ?_; clear hK K) | refine (show ∀ σ' w', _ → K σ' w' from by assumption) _ _ ?_ | refine W_seq_k fun K hK => ?_ | refine W_block_k fun K hK => ?_ | refine W_skip ?_ | refine W_ret ?_) | ((first | ((with_reducible refine W_id ?_); refine W_reg (by decide) (by rfl) ?_) | (with_reducible first | refine W_cond ?_ | refine hZ _ _ ?_ | refine W_exit ?_ | refine Wo_id ?_) | skip); repeat1' simp only [push_cast, seval, -Nat.reduceSubDiff, vcells_agg]) | ((repeat ((fail_if_success with_reducible refine hK _ _ ?_); clear hK K)); (with_reducible refine hK _ _ ?_); clear hK K)))
  generalize w.alloc (.cells (t.row (.slice xa xn xc)) 37) = w1 at *
  obtain ⟨p, hpe⟩ : ∃ p, p = w.heap.size := ⟨_, rfl⟩
  rw [← hpe] at hp ⊢
  have hsz := hx.alike.size
  have h1 := h.pass hx
  refine (bnone_c h1).mono ?_
  intro v w' ⟨hv, hw⟩
  subst hv; subst w'
  obtain ⟨ma, mn, mc, av', _, _, hh⟩ := h1.hd
  (repeat (first | (with_reducible first | (refine hK _ _ ?_; clear hK K) | refine (show ∀ σ' w', _ → K σ' w' from by assumption) _ _ ?_ | refine W_seq_k fun K hK => ?_ | refine W_block_k fun K hK => ?_ | refine W_skip ?_ | refine W_ret ?_) | ((first | ((with_reducible refine W_id ?_); refine W_reg (by decide) (by rfl) ?_) | (with_reducible first | refine W_cond ?_ | refine hZ _ _ ?_ | refine W_exit ?_ | refine Wo_id ?_) | skip); repeat1' simp only [push_cast, seval, -Nat.reduceSubDiff, cell_h, cellO_cells, hh]) | ((repeat ((fail_if_success with_reducible refine hK _ _ ?_); clear hK K)); (with_reducible refine hK _ _ ?_); clear hK K)))
  refine (bslen_c h1).mono ?_
  intro v w' ⟨hv, hw⟩
  subst hv; subst w'
  by_cases hd : 512 ≤ b.s.length
  · rw [if_pos hd] at hr
    subst hr
    have d0 : (512 : Int) ≤ (b.s.length : Int) := by omega
    (repeat (first | (with_reducible first | (refine hK _ _ ?_; clear hK K) | refine (show ∀ σ' w', _ → K σ' w' from by assumption) _ _ ?_ | refine W_seq_k fun K hK => ?_ | refine W_block_k fun K hK => ?_ | refine W_skip ?_ | refine W_ret ?_) | ((first | ((with_reducible refine W_id ?_); refine W_reg (by decide) (by rfl) ?_) | (with_reducible first | refine W_cond ?_ | refine hZ _ _ ?_ | refine W_exit ?_ | refine Wo_id ?_) | skip); repeat1' simp only [push_cast, seval, -Nat.reduceSubDiff, d0, decide_true]) | ((repeat ((fail_if_success with_reducible refine hK _ _ ?_); clear hK K)); (with_reducible refine hK _ _ ?_); clear hK K)))
    refine (bfail_c h1 150).mono ?_
    rintro v w2 ⟨g1, g2⟩
    (repeat (first | (with_reducible first | (refine hK _ _ ?_; clear hK K) | refine (show ∀ σ' w', _ → K σ' w' from by assumption) _ _ ?_ | refine W_seq_k fun K hK => ?_ | refine W_block_k fun K hK => ?_ | refine W_skip ?_ | refine W_ret ?_) | ((first | ((with_reducible refine W_id ?_); refine W_reg (by decide) (by rfl) ?_) | (with_reducible first | refine W_cond ?_ | refine hZ _ _ ?_ | refine W_exit ?_ | refine Wo_id ?_) | skip); repeat1' simp only [push_cast, seval, -Nat.reduceSubDiff]) | ((repeat ((fail_if_success with_reducible refine hK _ _ ?_); clear hK K)); (with_reducible refine hK _ _ ?_); clear hK K)))
    exact ⟨g1, Upd.trans hx.upd g2 fun _ _ h => h⟩
  rw [if_neg hd] at hr
  have d0 : ¬ (512 : Int) ≤ (b.s.length : Int) := by omega
  (repeat (first | (with_reducible first | (refine hK _ _ ?_; clear hK K) | refine (show ∀ σ' w', _ → K σ' w' from by assumption) _ _ ?_ | refine W_seq_k fun K hK => ?_ | refine W_block_k fun K hK => ?_ | refine W_skip ?_ | refine W_ret ?_) | ((first | ((with_reducible refine W_id ?_); refine W_reg (by decide) (by rfl) ?_) | (with_reducible first | refine W_cond ?_ | refine hZ _ _ ?_ | refine W_exit ?_ | refine Wo_id ?_) | skip); repeat1' simp only [push_cast, seval, -Nat.reduceSubDiff, d0, decide_false]) | ((repeat ((fail_if_success with_reducible refine hK _ _ ?_); clear hK K)); (with_reducible refine hK _ _ ?_); clear hK K)))
  have hxd := Ext.drew w1
  have h1d := h1.pass hxd
  have hhd := hxd.blk hh
  rw [hrow] at hp
  have hpd := hxd.blk hp
  have hszd : w1.heap.size = w1.drew.heap.size := (drew_size w1).symm
  have l1 : pb < w1.heap.size := blk_lt hh
  have l2 : p < w1.heap.size := blk_lt hp
  have hal' : (elTok t space).attrs.length < 1000000 := hal
  refine W_draw (.pas 0 (.pas 1 (.pas 2 (.pas 3 (.pas 4 (.pas 5 (.act 6 (.act 7 (.pas 8 .fin))))))))) (fun q => q = pb ∨ q = p) (by decide) mixed (by kernel_rfl) ?_
  generalize w1.drew = wd at *
  (repeat (first | ((first | refine pas_plain rfl ?_ | refine pas_g rfl rfl ?_ | refine act_plain rfl ?_ | refine act_g rfl rfl ?_ | refine last_plain rfl ?_ | refine tail_plain rfl ?_ | refine tail_g rfl rfl ?_); (repeat simp only [push_cast, seval, -Nat.reduceSubDiff, cell_h, cellO_cells, hhd, hpd, eq_self, true_or, or_true])) | (refine tail_fin ?_) | (refine sch_fin ?_)))
  rw [← hrow]
  refine (element_c (ha.ext (hx.trans hxd)) space).mono ?_
  rintro v w2 ⟨rfl, hx2⟩
  refine ⟨kept_upd hx2 fun q hq => ⟨by rcases hq with hq | hq <;> omega, id⟩, ?_⟩
  (repeat (first | ((first | refine pas_plain rfl ?_ | refine pas_g rfl rfl ?_ | refine act_plain rfl ?_ | refine act_g rfl rfl ?_ | refine last_plain rfl ?_ | refine tail_plain rfl ?_ | refine tail_g rfl rfl ?_); (repeat simp only [push_cast, seval, -Nat.reduceSubDiff])) | (refine tail_fin ?_) | (refine sch_fin ?_)))
  have h2 : BuAt w0 w2 (fun q => Q q ∨ q = p) pb ps pl pa b := h.more ((hx.trans hxd).trans hx2) fun q hq => by
    rcases hq with hq | hq
    · exact .inl hq
    · exact .inr ⟨by omega, by have := hx2.sz; omega⟩
  have hx02 := (hx.trans hxd).trans hx2
  obtain ⟨P, ⟨kb, kq⟩, hA, hback⟩ := h2.arK
  have hLb := hb.L
  refine (add_a hA (by omega) (m := ⟨elTok t space, .slice xa xn xc, .slice none 0 0, none, none⟩) (ha.ext hx02) hal).mono ?_
  rintro v w3 ⟨rfl, g1, g2⟩
  obtain ⟨h3', hu3'⟩ := hback _ _ g1 g2
  have h3 : BuAt w0 w3 Q pb ps pl pa (addB b (elTok t space)) := h3'.less fun q hq => .inl hq
  have hu3 : Upd (AF w0 Q) w2 w3 := hu3'.mono fun q _ hf => ⟨hf.1, fun hq => hf.2 (.inl hq)⟩
  refine ⟨kept_upd g2 fun q hq => ⟨?_, fun hf => ?_⟩, ?_⟩
  · have := hx2.sz
    rcases hq with hq | hq <;> omega
  · rcases hq with hq | hq
    · exact hf.2 (hq ▸ kb)
    · exact hf.2 (hq ▸ kq p (.inr rfl))
  have hb3 : okB (addB b (elTok t space)) := hb.add hL hal'
  have hu03 := Upd.trans hx02.upd hu3 fun _ _ h => h
  (repeat (first | ((first | refine pas_plain rfl ?_ | refine pas_g rfl rfl ?_ | refine act_plain rfl ?_ | refine act_g rfl rfl ?_ | refine last_plain rfl ?_ | refine tail_plain rfl ?_ | refine tail_g rfl rfl ?_); (repeat simp only [push_cast, seval, -Nat.reduceSubDiff])) | (refine tail_fin ?_) | (refine sch_fin ?_)))
  (repeat (first | (with_reducible first | (refine hK _ _ ?_; clear hK K) | refine (show ∀ σ' w', _ → K σ' w' from by assumption) _ _ ?_ | refine W_seq_k fun K hK => ?_ | refine W_block_k fun K hK => ?_ | refine W_skip ?_ | refine W_ret ?_) | ((first | ((with_reducible refine W_id ?_); refine W_reg (by decide) (by rfl) ?_) | (with_reducible first | refine W_cond ?_ | refine hZ _ _ ?_ | refine W_exit ?_ | refine Wo_id ?_) | skip); repeat1' simp only [push_cast, seval, -Nat.reduceSubDiff]) | ((repeat ((fail_if_success with_reducible refine hK _ _ ?_); clear hK K)); (with_reducible refine hK _ _ ?_); clear hK K)))
  refine (btarg_c h3 hb3).mono ?_
  intro v w' ⟨hv, hw⟩
  subst hv; subst w'
  (repeat (first | (with_reducible first | (refine hK _ _ ?_; clear hK K) | refine (show ∀ σ' w', _ → K σ' w' from by assumption) _ _ ?_ | refine W_seq_k fun K hK => ?_ | refine W_block_k fun K hK => ?_ | refine W_skip ?_ | refine W_ret ?_) | ((first | ((with_reducible refine W_id ?_); refine W_reg (by decide) (by rfl) ?_) | (with_reducible first | refine W_cond ?_ | refine hZ _ _ ?_ | refine W_exit ?_ | refine Wo_id ?_) | skip); repeat1' simp only [push_cast, seval, -Nat.reduceSubDiff]) | ((repeat ((fail_if_success with_reducible refine hK _ _ ?_); clear hK K)); (with_reducible refine hK _ _ ?_); clear hK K)))
  refine (bput_c h3 hb3 _ _).mono ?_
  rintro v w4 ⟨h4, hu4⟩
  have hb4 : okB (hungB b (elTok t space)) := hb3.put _ _
  have h4 : BuAt w0 w4 Q pb ps pl pa (hungB b (elTok t space)) := h4
  obtain ⟨ma4, mn4, mc4, av4, _, _, hh4⟩ := h4.hd
  (repeat (first | (with_reducible first | (refine hK _ _ ?_; clear hK K) | refine (show ∀ σ' w', _ → K σ' w' from by assumption) _ _ ?_ | refine W_seq_k fun K hK => ?_ | refine W_block_k fun K hK => ?_ | refine W_skip ?_ | refine W_ret ?_) | ((first | ((with_reducible refine W_id ?_); refine W_reg (by decide) (by rfl) ?_) | (with_reducible first | refine W_cond ?_ | refine hZ _ _ ?_ | refine W_exit ?_ | refine Wo_id ?_) | skip); repeat1' simp only [push_cast, seval, -Nat.reduceSubDiff, cell_h, cellO_cells, hh4]) | ((repeat ((fail_if_success with_reducible refine hK _ _ ?_); clear hK K)); (with_reducible refine hK _ _ ?_); clear hK K)))
  refine (bpush_c h4 hb4 _).mono ?_
  rintro v w5 ⟨rfl, h5, hu5⟩
  (repeat (first | (with_reducible first | (refine hK _ _ ?_; clear hK K) | refine (show ∀ σ' w', _ → K σ' w' from by assumption) _ _ ?_ | refine W_seq_k fun K hK => ?_ | refine W_block_k fun K hK => ?_ | refine W_skip ?_ | refine W_ret ?_) | ((first | ((with_reducible refine W_id ?_); refine W_reg (by decide) (by rfl) ?_) | (with_reducible first | refine W_cond ?_ | refine hZ _ _ ?_ | refine W_exit ?_ | refine Wo_id ?_) | skip); repeat1' simp only [push_cast, seval, -Nat.reduceSubDiff]) | ((repeat ((fail_if_success with_reducible refine hK _ _ ?_); clear hK K)); (with_reducible refine hK _ _ ?_); clear hK K)))
  refine (bfail_c h5 _).mono ?_
  rintro v w6 ⟨h6, hu6⟩
  (repeat (first | (with_reducible first | (refine hK _ _ ?_; clear hK K) | refine (show ∀ σ' w', _ → K σ' w' from by assumption) _ _ ?_ | refine W_seq_k fun K hK => ?_ | refine W_block_k fun K hK => ?_ | refine W_skip ?_ | refine W_ret ?_) | ((first | ((with_reducible refine W_id ?_); refine W_reg (by decide) (by rfl) ?_) | (with_reducible first | refine W_cond ?_ | refine hZ _ _ ?_ | refine W_exit ?_ | refine Wo_id ?_) | skip); repeat1' simp only [push_cast, seval, -Nat.reduceSubDiff]) | ((repeat ((fail_if_success with_reducible refine hK _ _ ?_); clear hK K)); (with_reducible refine hK _ _ ?_); clear hK K)))
  rw [hr]
  exact ⟨rfl, h6, Upd.trans (Upd.trans (Upd.trans hu03 hu4 fun _ _ h => h) hu5 fun _ _ h => h) hu6 fun _ _ h => h⟩
end
end Go.Proofs.YtgnnlaeikcnhcaaGreatDoor
end
section
set_option linter.unusedSimpArgs false
set_option linter.unusedVariables false
namespace Go.Vk
open Go
theorem failB_L (b : BSt) (e : Int) : (failB b e).L = b.L ∧ (failB b e).s = b.s ∧ (failB b e).l = b.l := by unfold failB; split <;> exact ⟨rfl, rfl, rfl⟩
theorem insS_len {L : List Nd} {s : List OpS} {k i : Int} (h : s.length < 10000) : (insS L s k i).1.length < 10000 ∧ (insS L s k i).1.length ≤ s.length + 1 := by
  unfold insS
  split
  · split
    · split
      · exact ⟨h, Nat.le_succ _⟩
      · simp; omega
    · exact ⟨h, Nat.le_succ _⟩
  · exact ⟨h, Nat.le_succ _⟩
theorem okB.fail {b : BSt} (h : okB b) (e : Int) : okB (failB b e) := by
  obtain ⟨e1, e2, e3⟩ := failB_L b e
  exact ⟨by rw [e1]; exact h.L, by rw [e1]; exact h.at_, by rw [e2]; exact h.s, by rw [e3]; exact h.l⟩
theorem okB.push {b : BSt} (h : okB b) (i : Int) : okB (pushB b i).1 := ⟨h.L, h.at_, (insS_len h.s).1, h.l⟩
theorem okB.ins {b : BSt} (h : okB b) (hL : b.L.length + 2 < 90000) {n : Nd} (hn : n.attrs.length < 1000000) : okB (insertB b n).1 := by
  unfold insertB
  split
  · exact h.fail _
  · exact (((h.add hL hn).put _ _).push _).fail _
def tokI (name : ByteArray) : HTok := ⟨2, name, ⟨#[]⟩, [], false, false, false, -1, -1⟩
def implyB (b : BSt) (name : ByteArray) : BSt × Int := insertB b (elTok (tokI name) 0)
end Go.Vk
namespace Go.Proofs.YtgnnlaeikcnhcaaGreatDoor
open Go Go.Vk
theorem plTo (w : World) : ((fsOf Tryz.prog 37).mapM plOf).run Tryz.prog w = .ok #[(0,1),(1,1),(2,1),(3,1),(4,1),(5,1),(6,1),(7,1),(8,1)] w := by
  simp [fsOf, plOf, Tryz.underlying37, Sem.run, Tryz.sizeOf3, Tryz.sizeOf35, Tryz.sizeOf4, Tryz.sizeOf9]
theorem unTo : Tryz.prog.underlying 37 = some (.struct (fsOf Tryz.prog 37)) := by rw [fsOf, Tryz.underlying37]
set_option maxHeartbeats 40000000
section
variable {w0 w : World} {Q : Nat → Prop} {pb ps pl pa : Nat} {b : BSt}
theorem bimply_c (h : BuAt w0 w Q pb ps pl pa b) (hb : okB b) (hL : b.L.length + 2 < 90000) (hQl : ∀ q, Q q → q < w.heap.size) (x : ByteArray) :
    Gives Tryz.prog 18 #[.pointer (some ⟨pb, 0, none⟩), .string x] w fun v w' => v = .int .i64 (implyB b x).2 ∧ BuAt w0 w' Q pb ps pl pa (implyB b x).1 ∧ Upd (AF w0 Q) w w' := by
  refine Gives.of_W Tryz.call18 Tryz.func18 rfl Tryz.ntmps18 (by simp) ?_; intro Z hZ
  (repeat (first | (with_reducible first | (refine hK _ _ ?_; clear hK K) | refine (show ∀ σ' w', _ → K σ' w' from by assumption) _ _ ?_ | refine W_seq_k fun K hK => ?_ | refine W_block_k fun K hK => ?_ | refine W_skip ?_ | refine W_ret ?_) | ((first | ((with_reducible refine W_id ?_); refine W_reg (by decide) (by rfl) ?_) | (with_reducible first | refine W_cond ?_ | refine hZ _ _ ?_ | refine W_exit ?_ | refine Wo_id ?_) | skip); repeat1' simp only [push_cast, seval, -Nat.reduceSubDiff]) | ((repeat ((fail_if_success with_reducible refine hK _ _ ?_); clear hK K)); (with_reducible refine hK _ _ ?_); clear hK K)))
  refine build_struct Tryz.zeroValue37 unTo plTo (cs := #[.int .i64 2, .string x, .string ⟨#[]⟩, .slice none 0 0, .bool false, .bool false, .bool false, .int .i64 (-1), .int .i64 (-1)]) (by rfl) ?_
  (repeat (first | (with_reducible first | (refine hK _ _ ?_; clear hK K) | refine (show ∀ σ' w', _ → K σ' w' from by assumption) _ _ ?_ | refine W_seq_k fun K hK => ?_ | refine W_block_k fun K hK => ?_ | refine W_skip ?_ | refine W_ret ?_) | ((first | ((with_reducible refine W_id ?_); refine W_reg (by decide) (by rfl) ?_) | (with_reducible first | refine W_cond ?_ | refine hZ _ _ ?_ | refine W_exit ?_ | refine Wo_id ?_) | skip); repeat1' simp only [push_cast, seval, -Nat.reduceSubDiff]) | ((repeat ((fail_if_success with_reducible refine hK _ _ ?_); clear hK K)); (with_reducible refine hK _ _ ?_); clear hK K)))
  refine (binsert_c h hb hL hQl (t := tokI x) (av := .slice none 0 0) (SlAt.nil _ _).rd (show (0 : Nat) < 1000000 by decide) 0).mono ?_
  rintro v w2 ⟨rfl, g1, g2⟩
  (repeat (first | (with_reducible first | (refine hK _ _ ?_; clear hK K) | refine (show ∀ σ' w', _ → K σ' w' from by assumption) _ _ ?_ | refine W_seq_k fun K hK => ?_ | refine W_block_k fun K hK => ?_ | refine W_skip ?_ | refine W_ret ?_) | ((first | ((with_reducible refine W_id ?_); refine W_reg (by decide) (by rfl) ?_) | (with_reducible first | refine W_cond ?_ | refine hZ _ _ ?_ | refine W_exit ?_ | refine Wo_id ?_) | skip); repeat1' simp only [push_cast, seval, -Nat.reduceSubDiff]) | ((repeat ((fail_if_success with_reducible refine hK _ _ ?_); clear hK K)); (with_reducible refine hK _ _ ?_); clear hK K)))
  exact ⟨rfl, g1, g2⟩
theorem bpop_c (h : BuAt w0 w Q pb ps pl pa b) (hb : okB b) : Gives Tryz.prog 24 #[.pointer (some ⟨ps, 0, none⟩)] w fun v w' => v = .int .i64 (topS b.s) ∧ BuAt w0 w' Q pb ps pl pa { b with s := b.s.dropLast } ∧ Upd (AF w0 Q) w w' := by
  obtain ⟨P, hS, hback⟩ := h.stk
  refine (spop_c hS hb.s).mono ?_
  rintro v w' ⟨rfl, g1, g2⟩
  exact ⟨rfl, hback _ _ _ g1 g2⟩
end
end Go.Proofs.YtgnnlaeikcnhcaaGreatDoor
end
section
set_option linter.unusedSimpArgs false
set_option linter.unusedVariables false
namespace Go.Vk
open Go Go.Proofs.YtgnnlaeikcnhcaaGreatDoor
def lostN (b : BSt) : Nat → Nat
  | 0 => 0
  | k + 1 => if b.l.getD k 0 = -1 ∨ 0 ≤ indexS b.s (b.l.getD k 0) then k + 1 else lostN b k
theorem lostN_le (b : BSt) : ∀ k : Nat, lostN b k ≤ k
  | 0 => Nat.le_refl _
  | k + 1 => by
    have := lostN_le b k
    rw [lostN]; split <;> omega
def againT (n : Nd) : HTok := ⟨2, n.name, ⟨#[]⟩, n.attrs, n.dup, false, false, n.frm, n.to⟩
def rebStep (b : BSt) (k : Nat) : BSt × Int := insertB b (elTok (againT (nodeN b.L (b.l.getD k 0))) 0)
def rebuildN : Nat → Nat → BSt → BSt
  | 0, _, b => b
  | n + 1, k, b => if (rebStep b k).2 < 0 then (rebStep b k).1 else rebuildN n (k + 1) { (rebStep b k).1 with l := (replN (rebStep b k).1.L (rebStep b k).1.l (k : Int) (rebStep b k).2).1 }
def rebuildB (b : BSt) : BSt := rebuildN (b.l.length - lostN b b.l.length) (lostN b b.l.length) b
theorem insertB_l (b : BSt) (n : Nd) : (insertB b n).1.l = b.l ∧ (insertB b n).1.L.length ≤ b.L.length + 2 := by
  unfold insertB
  split
  · obtain ⟨e1, _, e3⟩ := failB_L b 150
    exact ⟨e3, by rw [e1]; omega⟩
  · obtain ⟨e1, _, e3⟩ := failB_L (pushB (hungB b n) (addN b.L n).2).1 (pushB (hungB b n) (addN b.L n).2).2
    dsimp only
    rw [e1, e3]
    have e4 : (pushB (hungB b n) (addN b.L n).2).1.l = (hungB b n).l := rfl
    have e5 : (pushB (hungB b n) (addN b.L n).2).1.L = (hungB b n).L := rfl
    rw [e4, e5]
    refine ⟨(putB_s _ _ _).2, ?_⟩
    have e6 : (hungB b n).L.length = (addB b n).L.length := by
      unfold hungB putB
      split
      · exact len_before _ _ _
      · exact len_append _ _ _
    rw [e6]
    exact len_add _ _
theorem replN_len (L : List Nd) (l : List Int) (k i : Int) : (replN L l k i).1.length = l.length := by
  unfold replN
  split
  · split
    · simp
    · rfl
  · rfl
end Go.Vk
namespace Go.Proofs.YtgnnlaeikcnhcaaGreatDoor
open Go Go.Vk
set_option maxHeartbeats 40000000
theorem again_c {w : World} {m : Laid} (ha : RdAt w 2 m.av (attrCells m.nd.attrs)) : Gives Tryz.prog 108 #[m.val] w fun v w' => v = .agg ((againT m.nd).row m.av) ∧ Ext w w' := by
  obtain ⟨xa, xn, xc, exa, _⟩ := ha
  rw [Laid.val_eq, exa]
  obtain ⟨zz, hzz⟩ : ∃ zz : Array Value, zz = #[.int .i64 m.nd.kind, .string m.nd.name, .string m.nd.text, .int .i64 m.nd.space, .slice xa xn xc, .bool m.nd.dup, .int .i64 m.nd.parent, .int .i64 m.nd.content, m.kv, .int .i64 m.nd.frm, .int .i64 m.nd.to] := ⟨_, rfl⟩
  rw [← hzz]
  have hx := Ext.alloc w (.cells zz 46)
  have hp : (w.alloc (.cells zz 46)).heap[w.heap.size]? = some (.cells zz 46 (0, 0)) := by rw [heap_alloc_h, if_pos rfl]
  refine Gives.of_W Tryz.call108 Tryz.func108 rfl Tryz.ntmps108 (by simp) ?_; intro Z hZ
  (repeat (first | (with_reducible first | (refine hK _ _ ?_; clear hK K) | refine (show ∀ σ' w', _ → K σ' w' from by assumption) _ _ ?_ | refine W_seq_k fun K hK => ?_ | refine W_block_k fun K hK => ?_ | refine W_skip ?_ | refine W_ret ?_) | ((first | ((with_reducible refine W_id ?_); refine W_reg (by decide) (by rfl) ?_) | (with_reducible first | refine W_cond ?_ | refine hZ _ _ ?_ | refine W_exit ?_ | refine Wo_id ?_) | skip); repeat1' simp only [push_cast, seval, -Nat.reduceSubDiff, vcells_agg, RunV_zero Tryz.zeroValue37]) | ((repeat ((fail_if_success with_reducible refine hK _ _ ?_); clear hK K)); (with_reducible refine hK _ _ ?_); clear hK K)))
  generalize w.alloc (.cells zz 46) = w1 at *
  subst hzz
  obtain ⟨p, hpe⟩ : ∃ p, p = w.heap.size := ⟨_, rfl⟩
  rw [← hpe] at hp ⊢
  obtain ⟨z9, hz9⟩ : ∃ z9 : Array Value, z9 = #[.int .i64 0, .string ⟨#[]⟩, .string ⟨#[]⟩, .slice none 0 0, .bool false, .bool false, .bool false, .int .i64 0, .int .i64 0] := ⟨_, rfl⟩
  rw [← hz9]
  have hx2 := Ext.alloc w1 (.cells z9 37)
  have z2 : (w1.alloc (.cells z9 37)).heap[w1.heap.size]? = some (.cells z9 37 (0, 0)) := by rw [heap_alloc_h, if_pos rfl]
  have hp2 := hx2.blk hp
  have hsz := hx.sz
  generalize w1.alloc (.cells z9 37) = w2 at *
  obtain ⟨p2, hpe2⟩ : ∃ p, p = w1.heap.size := ⟨_, rfl⟩
  rw [← hpe2] at z2 ⊢
  subst hz9
  (repeat (first | (with_reducible first | (refine hK _ _ ?_; clear hK K) | refine (show ∀ σ' w', _ → K σ' w' from by assumption) _ _ ?_ | refine W_seq_k fun K hK => ?_ | refine W_block_k fun K hK => ?_ | refine W_skip ?_ | refine W_ret ?_) | ((first | ((with_reducible refine W_id ?_); refine W_reg (by decide) (by rfl) ?_) | (with_reducible first | refine W_cond ?_ | refine hZ _ _ ?_ | refine W_exit ?_ | refine Wo_id ?_) | skip); repeat1' simp only [push_cast, seval, -Nat.reduceSubDiff, cell_h, cellO_cells, hp2]) | ((repeat ((fail_if_success with_reducible refine hK _ _ ?_); clear hK K)); (with_reducible refine hK _ _ ?_); clear hK K)))
  refine build_struct Tryz.zeroValue37 unTo plTo (cs := #[.int .i64 2, .string m.nd.name, .string ⟨#[]⟩, .slice xa xn xc, .bool m.nd.dup, .bool false, .bool false, .int .i64 m.nd.frm, .int .i64 m.nd.to]) (by rfl) ?_
  have up : Upd (fun q => q = p2) w2 (setCells w2 ⟨p2, 0, none⟩ [.int .i64 2, .string m.nd.name, .string ⟨#[]⟩, .slice xa xn xc, .bool m.nd.dup, .bool false, .bool false, .int .i64 m.nd.frm, .int .i64 m.nd.to] 0) := Upd.setCells (F := fun q => q = p2) (a := ⟨p2, 0, none⟩) w2 rfl _ 0
  have hp4 := setCells_all z2 (l := [.int .i64 2, .string m.nd.name, .string ⟨#[]⟩, .slice xa xn xc, .bool m.nd.dup, .bool false, .bool false, .int .i64 m.nd.frm, .int .i64 m.nd.to]) rfl
  have hx4 : Ext w (setCells w2 ⟨p2, 0, none⟩ [.int .i64 2, .string m.nd.name, .string ⟨#[]⟩, .slice xa xn xc, .bool m.nd.dup, .bool false, .bool false, .int .i64 m.nd.frm, .int .i64 m.nd.to] 0) := Upd.trans (hx.trans hx2) up fun q hq e => by omega
  (repeat simp only [push_cast, seval, -Nat.reduceSubDiff, can_h, z2, canO_cells])
  generalize setCells w2 ⟨p2, 0, none⟩ [.int .i64 2, .string m.nd.name, .string ⟨#[]⟩, .slice xa xn xc, .bool m.nd.dup, .bool false, .bool false, .int .i64 m.nd.frm, .int .i64 m.nd.to] 0 = w4 at *
  (repeat (first | (with_reducible first | (refine hK _ _ ?_; clear hK K) | refine (show ∀ σ' w', _ → K σ' w' from by assumption) _ _ ?_ | refine W_seq_k fun K hK => ?_ | refine W_block_k fun K hK => ?_ | refine W_skip ?_ | refine W_ret ?_) | ((first | ((with_reducible refine W_id ?_); refine W_reg (by decide) (by rfl) ?_) | (with_reducible first | refine W_cond ?_ | refine hZ _ _ ?_ | refine W_exit ?_ | refine Wo_id ?_) | skip); repeat1' simp only [push_cast, seval, -Nat.reduceSubDiff, cell_h, cellO_cells, hp4]) | ((repeat ((fail_if_success with_reducible refine hK _ _ ?_); clear hK K)); (with_reducible refine hK _ _ ?_); clear hK K)))
  exact ⟨rfl, hx4⟩
section
variable {w0 w : World} {Q : Nat → Prop} {pb ps pl pa : Nat} {b : BSt}
theorem bflen_c (h : BuAt w0 w Q pb ps pl pa b) : Gives Tryz.prog 27 #[.pointer (some ⟨pl, 0, none⟩)] w fun v w' => v = .int .i64 (b.l.length : Int) ∧ w' = w := by
  obtain ⟨P, ⟨lv, bo, hF, _⟩, _⟩ := h.fmt
  exact flen_c hF
theorem bfat_c (h : BuAt w0 w Q pb ps pl pa b) (k : Int) : Gives Tryz.prog 91 #[.pointer (some ⟨pl, 0, none⟩), .int .i64 k] w fun v w' => v = .tuple #[.int .i64 (if 0 ≤ k ∧ k < b.l.length then b.l.getD k.toNat 0 else -1), .bool (decide ((0 ≤ k ∧ k < b.l.length) ∧ b.l.getD k.toNat 0 = -1))] ∧ Ext w w' := by
  obtain ⟨P, hF, _⟩ := h.fmt
  exact fat_c hF k
theorem bfrepl_c (h : BuAt w0 w Q pb ps pl pa b) (hb : okB b) (k i : Int) : Gives Tryz.prog 109 #[.pointer (some ⟨pl, 0, none⟩), .int .i64 k, .int .i64 i] w fun v w' => v = .int .i64 (replN b.L b.l k i).2 ∧ BuAt w0 w' Q pb ps pl pa { b with l := (replN b.L b.l k i).1 } ∧ Upd (AF w0 Q) w w' := by
  obtain ⟨P, hF, hback⟩ := h.fmt
  have := hb.L
  refine (replace_c hF (by omega) hb.at_ hb.l k i).mono ?_
  rintro v w' ⟨rfl, g1, g2⟩
  exact ⟨rfl, hback _ _ _ g1 g2⟩
theorem bindex_c (h : BuAt w0 w Q pb ps pl pa b) (hb : okB b) (i : Int) : Gives Tryz.prog 30 #[.pointer (some ⟨ps, 0, none⟩), .int .i64 i] w fun v w' => v = .int .i64 (indexS b.s i) ∧ w' = w := by
  obtain ⟨P, hS, _⟩ := h.stk
  exact index_s hS hb.s i
theorem blost_c (h : BuAt w0 w Q pb ps pl pa b) (hb : okB b) : Gives Tryz.prog 107 #[.pointer (some ⟨pb, 0, none⟩)] w fun v w' => v = .int .i64 (lostN b b.l.length : Int) ∧ Ext w w' := by
  obtain ⟨ma, mn, mc, av, _, _, hh⟩ := h.hd
  have hl := hb.l
  refine Gives.of_W Tryz.call107 Tryz.func107 rfl Tryz.ntmps107 (by simp) ?_; intro Z hZ
  (repeat (first | (with_reducible first | (refine hK _ _ ?_; clear hK K) | refine (show ∀ σ' w', _ → K σ' w' from by assumption) _ _ ?_ | refine W_seq_k fun K hK => ?_ | refine W_block_k fun K hK => ?_ | refine W_skip ?_ | refine W_ret ?_) | ((first | ((with_reducible refine W_id ?_); refine W_reg (by decide) (by rfl) ?_) | (with_reducible first | refine W_cond ?_ | refine hZ _ _ ?_ | refine W_exit ?_ | refine Wo_id ?_) | skip); repeat1' simp only [push_cast, seval, -Nat.reduceSubDiff, cell_h, cellO_cells, hh]) | ((repeat ((fail_if_success with_reducible refine hK _ _ ?_); clear hK K)); (with_reducible refine hK _ _ ?_); clear hK K)))
  refine (bflen_c h).mono ?_
  intro v w' ⟨hv, hw⟩
  subst hv; subst w'
  (repeat (first | (with_reducible first | (refine hK _ _ ?_; clear hK K) | refine (show ∀ σ' w', _ → K σ' w' from by assumption) _ _ ?_ | refine W_seq_k fun K hK => ?_ | refine W_block_k fun K hK => ?_ | refine W_skip ?_ | refine W_ret ?_) | ((first | ((with_reducible refine W_id ?_); refine W_reg (by decide) (by rfl) ?_) | (with_reducible first | refine W_cond ?_ | refine hZ _ _ ?_ | refine W_exit ?_ | refine Wo_id ?_) | skip); repeat1' simp only [push_cast, seval, -Nat.reduceSubDiff]) | ((repeat ((fail_if_success with_reducible refine hK _ _ ?_); clear hK K)); (with_reducible refine hK _ _ ?_); clear hK K)))
  refine W_loop (S := Nat) (fun k => [(0, .pointer (some ⟨pb, 0, none⟩)), (3, .int .i64 (k : Int))])
    (fun k w2 => k ≤ b.l.length ∧ lostN b b.l.length = lostN b k ∧ Ext w w2) (fun k => k) b.l.length ?_ ?_ ?_
  · (repeat simp only [push_cast, seval, -Nat.reduceSubDiff])
  · exact ⟨Nat.le_refl _, rfl, Ext.refl _⟩
  rintro k w2 ⟨hk, he, hx2⟩
  have h2 := h.pass hx2
  have hh2 := hx2.blk hh
  cases k with
  | zero =>
    have b0 : ¬ (0 : Int) < ((0 : Nat) : Int) := by omega
    (repeat (first | (with_reducible first | (refine hK _ _ ?_; clear hK K) | refine (show ∀ σ' w', _ → K σ' w' from by assumption) _ _ ?_ | refine W_seq_k fun K hK => ?_ | refine W_block_k fun K hK => ?_ | refine W_skip ?_ | refine W_ret ?_) | ((first | ((with_reducible refine W_id ?_); refine W_reg (by decide) (by rfl) ?_) | (with_reducible first | refine W_cond ?_ | refine hZ _ _ ?_ | refine W_exit ?_ | refine Wo_id ?_) | skip); repeat1' simp only [push_cast, seval, -Nat.reduceSubDiff, b0]) | ((repeat ((fail_if_success with_reducible refine hK _ _ ?_); clear hK K)); (with_reducible refine hK _ _ ?_); clear hK K)))
    rw [he]
    exact ⟨rfl, hx2⟩
  | succ k =>
    rw [lostN] at he
    have e1 : ((k + 1 : Nat) : Int) - 1 = (k : Int) := by omega
    have b1 : (0 : Int) ≤ (k : Int) := by omega
    have b2 : inI64 (k : Int) := by unfold inI64; omega
    have b3 : (k : Int) < (b.l.length : Int) := by omega
    have hat := bfat_c h2 (k : Int)
    rw [if_pos ⟨b1, b3⟩, Int.toNat_natCast] at hat
    have b0 : (0 : Int) < ((k + 1 : Nat) : Int) := by omega
    have b5 : k < k + 1 := Nat.lt_succ_self k
    have b6 : k ≤ b.l.length := by omega
    generalize k + 1 = k1 at *
    generalize b.l.getD k 0 = y at *
    (repeat (first | (with_reducible first | (refine hK _ _ ?_; clear hK K) | refine (show ∀ σ' w', _ → K σ' w' from by assumption) _ _ ?_ | refine W_seq_k fun K hK => ?_ | refine W_block_k fun K hK => ?_ | refine W_skip ?_ | refine W_ret ?_) | ((first | ((with_reducible refine W_id ?_); refine W_reg (by decide) (by rfl) ?_) | (with_reducible first | refine W_cond ?_ | refine hZ _ _ ?_ | refine W_exit ?_ | refine Wo_id ?_) | skip); repeat1' simp only [push_cast, seval, -Nat.reduceSubDiff, b0, e1, b2, cell_h, cellO_cells, hh2]) | ((repeat ((fail_if_success with_reducible refine hK _ _ ?_); clear hK K)); (with_reducible refine hK _ _ ?_); clear hK K)))
    refine hat.mono ?_
    rintro v w3 ⟨rfl, hx3⟩
    have hx03 := hx2.trans hx3
    have h3 := h.pass hx03
    have hh3 := hx03.blk hh
    by_cases hy : y = -1
    · rw [if_pos (.inl hy)] at he
      rw [decide_eq_true ⟨⟨b1, b3⟩, hy⟩]
      (repeat (first | (with_reducible first | (refine hK _ _ ?_; clear hK K) | refine (show ∀ σ' w', _ → K σ' w' from by assumption) _ _ ?_ | refine W_seq_k fun K hK => ?_ | refine W_block_k fun K hK => ?_ | refine W_skip ?_ | refine W_ret ?_) | ((first | ((with_reducible refine W_id ?_); refine W_reg (by decide) (by rfl) ?_) | (with_reducible first | refine W_cond ?_ | refine hZ _ _ ?_ | refine W_exit ?_ | refine Wo_id ?_) | skip); repeat1' simp only [push_cast, seval, -Nat.reduceSubDiff, ext0, ext1]) | ((repeat ((fail_if_success with_reducible refine hK _ _ ?_); clear hK K)); (with_reducible refine hK _ _ ?_); clear hK K)))
      rw [he]
      exact ⟨rfl, hx03⟩
    · rw [decide_eq_false (fun h => hy h.2)]
      (repeat (first | (with_reducible first | (refine hK _ _ ?_; clear hK K) | refine (show ∀ σ' w', _ → K σ' w' from by assumption) _ _ ?_ | refine W_seq_k fun K hK => ?_ | refine W_block_k fun K hK => ?_ | refine W_skip ?_ | refine W_ret ?_) | ((first | ((with_reducible refine W_id ?_); refine W_reg (by decide) (by rfl) ?_) | (with_reducible first | refine W_cond ?_ | refine hZ _ _ ?_ | refine W_exit ?_ | refine Wo_id ?_) | skip); repeat1' simp only [push_cast, seval, -Nat.reduceSubDiff, ext0, ext1, cell_h, cellO_cells, hh3]) | ((repeat ((fail_if_success with_reducible refine hK _ _ ?_); clear hK K)); (with_reducible refine hK _ _ ?_); clear hK K)))
      refine (bindex_c h3 hb y).mono ?_
      intro v w' ⟨hv, hw⟩
      subst hv; subst w'
      by_cases hi : 0 ≤ indexS b.s y
      · rw [if_pos (.inr hi)] at he
        (repeat (first | (with_reducible first | (refine hK _ _ ?_; clear hK K) | refine (show ∀ σ' w', _ → K σ' w' from by assumption) _ _ ?_ | refine W_seq_k fun K hK => ?_ | refine W_block_k fun K hK => ?_ | refine W_skip ?_ | refine W_ret ?_) | ((first | ((with_reducible refine W_id ?_); refine W_reg (by decide) (by rfl) ?_) | (with_reducible first | refine W_cond ?_ | refine hZ _ _ ?_ | refine W_exit ?_ | refine Wo_id ?_) | skip); repeat1' simp only [push_cast, seval, -Nat.reduceSubDiff, hi, decide_true]) | ((repeat ((fail_if_success with_reducible refine hK _ _ ?_); clear hK K)); (with_reducible refine hK _ _ ?_); clear hK K)))
        rw [he]
        exact ⟨rfl, hx03⟩
      · rw [if_neg (by rintro (h | h); exact hy h; exact hi h)] at he
        (repeat (first | (with_reducible first | (refine hK _ _ ?_; clear hK K) | refine (show ∀ σ' w', _ → K σ' w' from by assumption) _ _ ?_ | refine W_seq_k fun K hK => ?_ | refine W_block_k fun K hK => ?_ | refine W_skip ?_ | refine W_ret ?_) | ((first | ((with_reducible refine W_id ?_); refine W_reg (by decide) (by rfl) ?_) | (with_reducible first | refine W_cond ?_ | refine hZ _ _ ?_ | refine W_exit ?_ | refine Wo_id ?_) | skip); repeat1' simp only [push_cast, seval, -Nat.reduceSubDiff, hi, decide_false, e1, b2]) | ((repeat ((fail_if_success with_reducible refine hK _ _ ?_); clear hK K)); (with_reducible refine hK _ _ ?_); clear hK K)))
        refine ⟨k, b5, ?_⟩
        (repeat simp only [push_cast, seval, -Nat.reduceSubDiff])
        exact ⟨b6, he, hx03⟩
end
end Go.Proofs.YtgnnlaeikcnhcaaGreatDoor
end
section
set_option linter.unusedSimpArgs false
set_option linter.unusedVariables false
namespace Go.Proofs.YtgnnlaeikcnhcaaGreatDoor
open Go Go.Vk
set_option maxHeartbeats 40000000
section
variable {w0 w : World} {Q : Nat → Prop} {pb ps pl pa : Nat} {b : BSt}
theorem nodeN_attrs {L : List Nd} (h : Att L) (i : Int) : (nodeN L i).attrs.length < 1000000 := by
  unfold nodeN
  cases hx : nd? L i with
  | none => exact (by decide : (0 : Nat) < 1000000)
  | some x =>
    obtain ⟨k, _, hk, _⟩ := nd?_some hx
    exact h x (List.mem_of_getElem? hk)
theorem brebuild_c (h : BuAt w0 w Q pb ps pl pa b) (hb : okB b) (hL : b.L.length + 2 * b.l.length + 2 < 90000) (hQl : ∀ q, Q q → q < w.heap.size) :
    Gives Tryz.prog 28 #[.pointer (some ⟨pb, 0, none⟩)] w fun _ w' => BuAt w0 w' Q pb ps pl pa (rebuildB b) ∧ Upd (AF w0 Q) w w' := by
  have hle := lostN_le b b.l.length
  refine Gives.of_W Tryz.call28 Tryz.func28 rfl Tryz.ntmps28 (by simp) ?_; intro Z hZ
  (repeat (first | (with_reducible first | (refine hK _ _ ?_; clear hK K) | refine (show ∀ σ' w', _ → K σ' w' from by assumption) _ _ ?_ | refine W_seq_k fun K hK => ?_ | refine W_block_k fun K hK => ?_ | refine W_skip ?_ | refine W_ret ?_) | ((first | ((with_reducible refine W_id ?_); refine W_reg (by decide) (by rfl) ?_) | (with_reducible first | refine W_cond ?_ | refine hZ _ _ ?_ | refine W_exit ?_ | refine Wo_id ?_) | skip); repeat1' simp only [push_cast, seval, -Nat.reduceSubDiff]) | ((repeat ((fail_if_success with_reducible refine hK _ _ ?_); clear hK K)); (with_reducible refine hK _ _ ?_); clear hK K)))
  refine (bnone_c h).mono ?_
  intro v w' ⟨hv, hw⟩
  subst hv; subst w'
  (repeat (first | (with_reducible first | (refine hK _ _ ?_; clear hK K) | refine (show ∀ σ' w', _ → K σ' w' from by assumption) _ _ ?_ | refine W_seq_k fun K hK => ?_ | refine W_block_k fun K hK => ?_ | refine W_skip ?_ | refine W_ret ?_) | ((first | ((with_reducible refine W_id ?_); refine W_reg (by decide) (by rfl) ?_) | (with_reducible first | refine W_cond ?_ | refine hZ _ _ ?_ | refine W_exit ?_ | refine Wo_id ?_) | skip); repeat1' simp only [push_cast, seval, -Nat.reduceSubDiff]) | ((repeat ((fail_if_success with_reducible refine hK _ _ ?_); clear hK K)); (with_reducible refine hK _ _ ?_); clear hK K)))
  refine (blost_c h hb).mono ?_
  rintro v w2 ⟨rfl, hx2⟩
  (repeat (first | (with_reducible first | (refine hK _ _ ?_; clear hK K) | refine (show ∀ σ' w', _ → K σ' w' from by assumption) _ _ ?_ | refine W_seq_k fun K hK => ?_ | refine W_block_k fun K hK => ?_ | refine W_skip ?_ | refine W_ret ?_) | ((first | ((with_reducible refine W_id ?_); refine W_reg (by decide) (by rfl) ?_) | (with_reducible first | refine W_cond ?_ | refine hZ _ _ ?_ | refine W_exit ?_ | refine Wo_id ?_) | skip); repeat1' simp only [push_cast, seval, -Nat.reduceSubDiff]) | ((repeat ((fail_if_success with_reducible refine hK _ _ ?_); clear hK K)); (with_reducible refine hK _ _ ?_); clear hK K)))
  refine W_loop (S := Nat × BSt) (fun z => [(0, .pointer (some ⟨pb, 0, none⟩)), (2, .int .i64 (z.1 : Int))])
    (fun z w3 => z.1 ≤ b.l.length ∧ BuAt w0 w3 Q pb ps pl pa z.2 ∧ Upd (AF w0 Q) w w3 ∧ okB z.2 ∧ z.2.l.length = b.l.length ∧ rebuildB b = rebuildN (b.l.length - z.1) z.1 z.2 ∧ z.2.L.length + 2 * (b.l.length - z.1) + 2 < 90000)
    (fun z => b.l.length - z.1) (lostN b b.l.length, b) ?_ ?_ ?_
  · (repeat simp only [push_cast, seval, -Nat.reduceSubDiff])
  · exact ⟨hle, h.pass hx2, hx2.upd, hb, rfl, rfl, by dsimp only; omega⟩
  rintro ⟨k, b1⟩ w3 ⟨hk, h3, hu3, hb3, hl3, he, hLb⟩
  dsimp only at hk h3 hb3 hl3 he hLb ⊢
  have hbl := hb.l
  have hQ3 : ∀ q, Q q → q < w3.heap.size := fun q hq => by have := hQl q hq; have := hu3.alike.size; omega
  obtain ⟨ma, mn, mc, av, _, _, hh⟩ := h3.hd
  by_cases hkl : k < b.l.length
  · have hlen := bflen_c h3
    rw [hl3] at hlen
    have d0 : (k : Int) < (b.l.length : Int) := by omega
    have d1 : (0 : Int) ≤ (k : Int) := by omega
    have d2 : inI64 ((k : Int) + 1) := by unfold inI64; omega
    have hat := bfat_c h3 (k : Int)
    rw [if_pos ⟨d1, by omega⟩, Int.toNat_natCast] at hat
    have eN : b.l.length - k = (b.l.length - (k + 1)) + 1 := by omega
    rw [eN, rebuildN] at he
    have hstep : rebStep b1 k = insertB b1 (elTok (againT (nodeN b1.L (b1.l.getD k 0))) 0) := rfl
    rw [hstep] at he
    generalize b1.l.getD k 0 = y at *
    (repeat (first | (with_reducible first | (refine hK _ _ ?_; clear hK K) | refine (show ∀ σ' w', _ → K σ' w' from by assumption) _ _ ?_ | refine W_seq_k fun K hK => ?_ | refine W_block_k fun K hK => ?_ | refine W_skip ?_ | refine W_ret ?_) | ((first | ((with_reducible refine W_id ?_); refine W_reg (by decide) (by rfl) ?_) | (with_reducible first | refine W_cond ?_ | refine hZ _ _ ?_ | refine W_exit ?_ | refine Wo_id ?_) | skip); repeat1' simp only [push_cast, seval, -Nat.reduceSubDiff, cell_h, cellO_cells, hh]) | ((repeat ((fail_if_success with_reducible refine hK _ _ ?_); clear hK K)); (with_reducible refine hK _ _ ?_); clear hK K)))
    refine hlen.mono ?_
    intro v w' ⟨hv, hw⟩
    subst hv; subst w'
    (repeat (first | (with_reducible first | (refine hK _ _ ?_; clear hK K) | refine (show ∀ σ' w', _ → K σ' w' from by assumption) _ _ ?_ | refine W_seq_k fun K hK => ?_ | refine W_block_k fun K hK => ?_ | refine W_skip ?_ | refine W_ret ?_) | ((first | ((with_reducible refine W_id ?_); refine W_reg (by decide) (by rfl) ?_) | (with_reducible first | refine W_cond ?_ | refine hZ _ _ ?_ | refine W_exit ?_ | refine Wo_id ?_) | skip); repeat1' simp only [push_cast, seval, -Nat.reduceSubDiff, d0, cell_h, cellO_cells, hh]) | ((repeat ((fail_if_success with_reducible refine hK _ _ ?_); clear hK K)); (with_reducible refine hK _ _ ?_); clear hK K)))
    refine hat.mono ?_
    rintro v w4 ⟨rfl, hx4⟩
    have h4 := h3.pass hx4
    have hh4 := hx4.blk hh
    generalize decide ((0 ≤ (k : Int) ∧ (k : Int) < (b1.l.length : Int)) ∧ y = -1) = mk at *
    (repeat (first | (with_reducible first | (refine hK _ _ ?_; clear hK K) | refine (show ∀ σ' w', _ → K σ' w' from by assumption) _ _ ?_ | refine W_seq_k fun K hK => ?_ | refine W_block_k fun K hK => ?_ | refine W_skip ?_ | refine W_ret ?_) | ((first | ((with_reducible refine W_id ?_); refine W_reg (by decide) (by rfl) ?_) | (with_reducible first | refine W_cond ?_ | refine hZ _ _ ?_ | refine W_exit ?_ | refine Wo_id ?_) | skip); repeat1' simp only [push_cast, seval, -Nat.reduceSubDiff, ext0, ext1, cell_h, cellO_cells, hh4]) | ((repeat ((fail_if_success with_reducible refine hK _ _ ?_); clear hK K)); (with_reducible refine hK _ _ ?_); clear hK K)))
    refine (bnode_c h4 hb3 y).mono ?_
    rintro v w5 ⟨m, rfl, hm, hok, hx5, _⟩
    have h5 := h4.pass hx5
    (repeat (first | (with_reducible first | (refine hK _ _ ?_; clear hK K) | refine (show ∀ σ' w', _ → K σ' w' from by assumption) _ _ ?_ | refine W_seq_k fun K hK => ?_ | refine W_block_k fun K hK => ?_ | refine W_skip ?_ | refine W_ret ?_) | ((first | ((with_reducible refine W_id ?_); refine W_reg (by decide) (by rfl) ?_) | (with_reducible first | refine W_cond ?_ | refine hZ _ _ ?_ | refine W_exit ?_ | refine Wo_id ?_) | skip); repeat1' simp only [push_cast, seval, -Nat.reduceSubDiff]) | ((repeat ((fail_if_success with_reducible refine hK _ _ ?_); clear hK K)); (with_reducible refine hK _ _ ?_); clear hK K)))
    refine (again_c hok.attrs.rd).mono ?_
    rintro v w6 ⟨rfl, hx6⟩
    have h6 := h5.pass hx6
    (repeat (first | (with_reducible first | (refine hK _ _ ?_; clear hK K) | refine (show ∀ σ' w', _ → K σ' w' from by assumption) _ _ ?_ | refine W_seq_k fun K hK => ?_ | refine W_block_k fun K hK => ?_ | refine W_skip ?_ | refine W_ret ?_) | ((first | ((with_reducible refine W_id ?_); refine W_reg (by decide) (by rfl) ?_) | (with_reducible first | refine W_cond ?_ | refine hZ _ _ ?_ | refine W_exit ?_ | refine Wo_id ?_) | skip); repeat1' simp only [push_cast, seval, -Nat.reduceSubDiff]) | ((repeat ((fail_if_success with_reducible refine hK _ _ ?_); clear hK K)); (with_reducible refine hK _ _ ?_); clear hK K)))
    have hx36 := (hx4.trans hx5).trans hx6
    have hat6 : m.nd.attrs.length < 1000000 := by rw [hm]; exact nodeN_attrs hb3.at_ y
    refine (binsert_c h6 hb3 (by omega) (fun q hq => by have := hQ3 q hq; have := hx36.sz; omega) (t := againT m.nd) (av := m.av) (hok.attrs.rd.ext hx6) hat6 0).mono ?_
    rintro v w7 ⟨rfl, h7, hu7⟩
    rw [hm] at h7
    rw [← hm] at he
    have hb7 : okB (insertB b1 (elTok (againT m.nd) 0)).1 := hb3.ins (by omega) hat6
    obtain ⟨hl7, hL7⟩ := insertB_l b1 (elTok (againT m.nd) 0)
    rw [← hm] at h7
    generalize insertB b1 (elTok (againT m.nd) 0) = rr at *
    obtain ⟨b2, i⟩ := rr
    dsimp only at h7 hb7 hl7 hL7 he ⊢
    have hu37 := Upd.trans (Upd.trans hu3 hx36.upd fun _ _ h => h) hu7 fun _ _ h => h
    obtain ⟨ma', mn', mc', av', _, _, hh7⟩ := h7.hd
    by_cases hi : i < 0
    · rw [if_pos hi] at he
      (repeat (first | (with_reducible first | (refine hK _ _ ?_; clear hK K) | refine (show ∀ σ' w', _ → K σ' w' from by assumption) _ _ ?_ | refine W_seq_k fun K hK => ?_ | refine W_block_k fun K hK => ?_ | refine W_skip ?_ | refine W_ret ?_) | ((first | ((with_reducible refine W_id ?_); refine W_reg (by decide) (by rfl) ?_) | (with_reducible first | refine W_cond ?_ | refine hZ _ _ ?_ | refine W_exit ?_ | refine Wo_id ?_) | skip); repeat1' simp only [push_cast, seval, -Nat.reduceSubDiff, hi]) | ((repeat ((fail_if_success with_reducible refine hK _ _ ?_); clear hK K)); (with_reducible refine hK _ _ ?_); clear hK K)))
      rw [he]
      exact ⟨h7, hu37⟩
    · rw [if_neg hi] at he
      (repeat (first | (with_reducible first | (refine hK _ _ ?_; clear hK K) | refine (show ∀ σ' w', _ → K σ' w' from by assumption) _ _ ?_ | refine W_seq_k fun K hK => ?_ | refine W_block_k fun K hK => ?_ | refine W_skip ?_ | refine W_ret ?_) | ((first | ((with_reducible refine W_id ?_); refine W_reg (by decide) (by rfl) ?_) | (with_reducible first | refine W_cond ?_ | refine hZ _ _ ?_ | refine W_exit ?_ | refine Wo_id ?_) | skip); repeat1' simp only [push_cast, seval, -Nat.reduceSubDiff, hi, cell_h, cellO_cells, hh7]) | ((repeat ((fail_if_success with_reducible refine hK _ _ ?_); clear hK K)); (with_reducible refine hK _ _ ?_); clear hK K)))
      refine (bfrepl_c h7 hb7 (k : Int) i).mono ?_
      rintro v w8 ⟨rfl, h8, hu8⟩
      have hrl := replN_len b2.L b2.l (k : Int) i
      generalize (replN b2.L b2.l (k : Int) i).1 = l' at *
      (repeat (first | (with_reducible first | (refine hK _ _ ?_; clear hK K) | refine (show ∀ σ' w', _ → K σ' w' from by assumption) _ _ ?_ | refine W_seq_k fun K hK => ?_ | refine W_block_k fun K hK => ?_ | refine W_skip ?_ | refine W_ret ?_) | ((first | ((with_reducible refine W_id ?_); refine W_reg (by decide) (by rfl) ?_) | (with_reducible first | refine W_cond ?_ | refine hZ _ _ ?_ | refine W_exit ?_ | refine Wo_id ?_) | skip); repeat1' simp only [push_cast, seval, -Nat.reduceSubDiff, d2]) | ((repeat ((fail_if_success with_reducible refine hK _ _ ?_); clear hK K)); (with_reducible refine hK _ _ ?_); clear hK K)))
      refine ⟨(k + 1, { b2 with l := l' }), by simp only; omega, ?_⟩
      (repeat simp only [push_cast, seval, -Nat.reduceSubDiff])
      exact ⟨by omega, h8, Upd.trans hu37 hu8 fun _ _ h => h, ⟨hb7.L, hb7.at_, hb7.s, by show l'.length < 10000; rw [hrl]; exact hb7.l⟩, by rw [hrl, hl7, hl3], he, by omega⟩
  · have d0 : ¬ (k : Int) < (b.l.length : Int) := by omega
    have hlen := bflen_c h3
    rw [hl3] at hlen
    have eN : b.l.length - k = 0 := by omega
    rw [eN, rebuildN] at he
    (repeat (first | (with_reducible first | (refine hK _ _ ?_; clear hK K) | refine (show ∀ σ' w', _ → K σ' w' from by assumption) _ _ ?_ | refine W_seq_k fun K hK => ?_ | refine W_block_k fun K hK => ?_ | refine W_skip ?_ | refine W_ret ?_) | ((first | ((with_reducible refine W_id ?_); refine W_reg (by decide) (by rfl) ?_) | (with_reducible first | refine W_cond ?_ | refine hZ _ _ ?_ | refine W_exit ?_ | refine Wo_id ?_) | skip); repeat1' simp only [push_cast, seval, -Nat.reduceSubDiff, cell_h, cellO_cells, hh]) | ((repeat ((fail_if_success with_reducible refine hK _ _ ?_); clear hK K)); (with_reducible refine hK _ _ ?_); clear hK K)))
    refine hlen.mono ?_
    intro v w' ⟨hv, hw⟩
    subst hv; subst w'
    (repeat (first | (with_reducible first | (refine hK _ _ ?_; clear hK K) | refine (show ∀ σ' w', _ → K σ' w' from by assumption) _ _ ?_ | refine W_seq_k fun K hK => ?_ | refine W_block_k fun K hK => ?_ | refine W_skip ?_ | refine W_ret ?_) | ((first | ((with_reducible refine W_id ?_); refine W_reg (by decide) (by rfl) ?_) | (with_reducible first | refine W_cond ?_ | refine hZ _ _ ?_ | refine W_exit ?_ | refine Wo_id ?_) | skip); repeat1' simp only [push_cast, seval, -Nat.reduceSubDiff, d0]) | ((repeat ((fail_if_success with_reducible refine hK _ _ ?_); clear hK K)); (with_reducible refine hK _ _ ?_); clear hK K)))
    rw [he]
    exact ⟨h3, hu3⟩
end
end Go.Proofs.YtgnnlaeikcnhcaaGreatDoor
end
section
set_option linter.unusedSimpArgs false
set_option linter.unusedVariables false
namespace Go.Vk
open Go
def byL : List (ByteArray × Int) := [(⟨#[98, 111, 100, 121]⟩, 6), (⟨#[99, 97, 112, 116, 105, 111, 110]⟩, 10), (⟨#[99, 111, 108, 103, 114, 111, 117, 112]⟩, 11), (⟨#[104, 101, 97, 100]⟩, 3), (sTable, 8), (⟨#[116, 98, 111, 100, 121]⟩, 12), (⟨#[116, 100]⟩, 14), (⟨#[116, 102, 111, 111, 116]⟩, 12), (⟨#[116, 104]⟩, 14), (⟨#[116, 104, 101, 97, 100]⟩, 12), (⟨#[116, 114]⟩, 13)]
def byN (s : ByteArray) : Option Int := (byL.find? fun x => decide (x.1 = s)).map (·.2)
def sHtml : ByteArray := ⟨#[104, 116, 109, 108]⟩
def foundB (b : BSt) (n : Nd) (first : Bool) : Int × Bool :=
  if n.space ≠ 0 then (0, false)
  else if n.name = tmpl ∧ 0 < b.modes.length then (b.modes.getD (b.modes.length - 1) 0, true)
  else if n.name = sHtml ∧ b.head < 0 then (2, true)
  else if n.name = sHtml then (5, true)
  else if first = true ∧ ((byN n.name).getD 0 = 14 ∨ (byN n.name).getD 0 = 3) then (0, false)
  else ((byN n.name).getD 0, (byN n.name).isSome)
def resetN (b : BSt) : Nat → BSt
  | 0 => { b with mode := 6 }
  | k + 1 => if (foundB b (nodeN b.L (b.s.getD k zS).node) (decide (k = 0))).2 = true then { b with mode := (foundB b (nodeN b.L (b.s.getD k zS).node) (decide (k = 0))).1 } else resetN b k
def resetB (b : BSt) : BSt := resetN b b.s.length
end Go.Vk
namespace Go.Proofs.YtgnnlaeikcnhcaaGreatDoor
open Go Go.Vk
/-- the map of modes, as it lies -/
def GB (w0 : World) : Prop := ∃ bm, w0.cell? ⟨2, 0, none⟩ = some (.map (some bm)) ∧ ∀ w', Ext w0 w' → ∀ s : ByteArray, s.size < 4294967281 → (Instr.lookup 170 (.map (some bm)) (.string s) true).run Tryz.prog w' = .ok (.tuple #[.int .i64 ((byN s).getD 0), .bool (byN s).isSome]) w'
theorem GB.ext {w w' : World} (h : GB w) (hx : Ext w w') : GB w' := by
  obtain ⟨bm, h1, h2⟩ := h
  exact ⟨bm, cell_ext hx h1, fun w2 hx2 => h2 w2 (hx.trans hx2)⟩
set_option maxHeartbeats 40000000
section
variable {w0 w : World} {Q : Nat → Prop} {pb ps pl pa : Nat} {b : BSt}
theorem found_c (h : BuAt w0 w Q pb ps pl pa b) (hg : GB w0) {m : Laid} (hn : m.nd.name.size < 4294967281) (first : Bool) (hm : b.modes.length < 100000) :
    Gives Tryz.prog 115 #[.pointer (some ⟨pb, 0, none⟩), m.val, .bool first] w fun v w' => v = .tuple #[.int .i64 (foundB b m.nd first).1, .bool (foundB b m.nd first).2] ∧ Ext w w' := by
  rw [Laid.val_eq]
  obtain ⟨zz, hzz⟩ : ∃ zz : Array Value, zz = #[.int .i64 m.nd.kind, .string m.nd.name, .string m.nd.text, .int .i64 m.nd.space, m.av, .bool m.nd.dup, .int .i64 m.nd.parent, .int .i64 m.nd.content, m.kv, .int .i64 m.nd.frm, .int .i64 m.nd.to] := ⟨_, rfl⟩
  rw [← hzz]
  have hx := Ext.alloc w (.cells zz 46)
  have hp : (w.alloc (.cells zz 46)).heap[w.heap.size]? = some (.cells zz 46 (0, 0)) := by rw [heap_alloc_h, if_pos rfl]
  obtain ⟨r, hr⟩ : ∃ r, r = foundB b m.nd first := ⟨_, rfl⟩
  rw [← hr]
  unfold foundB at hr
  refine Gives.of_W Tryz.call115 Tryz.func115 rfl Tryz.ntmps115 (by simp) ?_; intro Z hZ
  (repeat (first | (with_reducible first | (refine hK _ _ ?_; clear hK K) | refine (show ∀ σ' w', _ → K σ' w' from by assumption) _ _ ?_ | refine W_seq_k fun K hK => ?_ | refine W_block_k fun K hK => ?_ | refine W_skip ?_ | refine W_ret ?_) | ((first | ((with_reducible refine W_id ?_); refine W_reg (by decide) (by rfl) ?_) | (with_reducible first | refine W_cond ?_ | refine hZ _ _ ?_ | refine W_exit ?_ | refine Wo_id ?_) | skip); repeat1' simp only [push_cast, seval, -Nat.reduceSubDiff, vcells_agg]) | ((repeat ((fail_if_success with_reducible refine hK _ _ ?_); clear hK K)); (with_reducible refine hK _ _ ?_); clear hK K)))
  generalize w.alloc (.cells zz 46) = w1 at *
  subst hzz
  obtain ⟨p, hpe⟩ : ∃ p, p = w.heap.size := ⟨_, rfl⟩
  rw [← hpe] at hp ⊢
  have h1 := h.pass hx
  obtain ⟨bm, hb1, hb2⟩ := hg.ext h1.out
  have hlk := hb2 w1 (Ext.refl _) m.nd.name hn
  (repeat (first | (with_reducible first | (refine hK _ _ ?_; clear hK K) | refine (show ∀ σ' w', _ → K σ' w' from by assumption) _ _ ?_ | refine W_seq_k fun K hK => ?_ | refine W_block_k fun K hK => ?_ | refine W_skip ?_ | refine W_ret ?_) | ((first | ((with_reducible refine W_id ?_); refine W_reg (by decide) (by rfl) ?_) | (with_reducible first | refine W_cond ?_ | refine hZ _ _ ?_ | refine W_exit ?_ | refine Wo_id ?_) | skip); repeat1' simp only [push_cast, seval, -Nat.reduceSubDiff, hb1, cell_h, cellO_cells, hp]) | ((repeat ((fail_if_success with_reducible refine hK _ _ ?_); clear hK K)); (with_reducible refine hK _ _ ?_); clear hK K)))
  refine RunV.of hlk ?_
  generalize (byN m.nd.name).getD 0 = md at *
  generalize (byN m.nd.name).isSome = okk at *
  obtain ⟨mv, bm2, av, ba, hrow, hsl, hask, _⟩ := id h1
  obtain ⟨ma, mc, rfl, hmc⟩ := hsl.ints_len
  unfold BSt.row at hrow
  by_cases hs : m.nd.space = 0
  · rw [if_neg (fun h => h hs)] at hr
    by_cases ht : m.nd.name = tmpl
    · have htl : m.nd.name = ⟨#[116, 101, 109, 112, 108, 97, 116, 101]⟩ := ht
      by_cases hml : 0 < b.modes.length
      · rw [if_pos ⟨ht, hml⟩] at hr
        have d0 : (0 : Int) < (b.modes.length : Int) := by omega
        obtain ⟨k, hk⟩ : ∃ k, b.modes.length = k + 1 := ⟨b.modes.length - 1, by omega⟩
        have e1 : (b.modes.length : Int) - 1 = (k : Int) := by omega
        have e2 : inI64 (k : Int) := by unfold inI64; omega
        have e3 : (0 : Int) ≤ (k : Int) := by omega
        have e4 : (k : Int) < (b.modes.length : Int) := by omega
        have eg : b.modes.getD (b.modes.length - 1) 0 = b.modes[k]'(by omega) := by
          have : b.modes.length - 1 = k := by omega
          rw [this]; simp [List.getD, (show k < b.modes.length by omega)]
        rw [eg] at hr
        subst hr
        obtain ⟨bq, oq, n', c', e, hbq⟩ := hsl.some_of (fun e => by have := congrArg List.length e; simp [intCells] at this; rw [this] at hml; simp at hml)
        cases e
        have hxd := Ext.drew w1
        have cq := (hsl.ext hxd).ints_cell (i := k) (x := b.modes[k]'(by omega)) (by simp [(show k < b.modes.length by omega)])
        rw [cell_h] at cq
        generalize b.modes[k]'_ = last at *
        have hrd := hxd.blk hrow
        clear eg hk
        generalize b.modes.length = nm at *
        (repeat (first | (with_reducible first | (refine hK _ _ ?_; clear hK K) | refine (show ∀ σ' w', _ → K σ' w' from by assumption) _ _ ?_ | refine W_seq_k fun K hK => ?_ | refine W_block_k fun K hK => ?_ | refine W_skip ?_ | refine W_ret ?_) | ((first | ((with_reducible refine W_id ?_); refine W_reg (by decide) (by rfl) ?_) | (with_reducible first | refine W_cond ?_ | refine hZ _ _ ?_ | refine W_exit ?_ | refine Wo_id ?_) | skip); repeat1' simp only [push_cast, seval, -Nat.reduceSubDiff, ext0, ext1, cell_h, cellO_cells, hp, hs, htl, hrow, d0, decide_true, not_true_eq_false, decide_false]) | ((repeat ((fail_if_success with_reducible refine hK _ _ ?_); clear hK K)); (with_reducible refine hK _ _ ?_); clear hK K)))
        refine W_draw (.pas 0 (.pas 1 (.pas 2 (.pas 3 (.pas 4 (.pas 5 (.pas 6 (.pas 7 (.pas 8 (.pas 9 (.pas 10 (.pas 11 (.pas 12 (.pas 13 .fin)))))))))))))) (fun _ => True) (by decide) mixed (by kernel_rfl) ?_
        generalize w1.drew = wd at *
        (repeat (first | ((first | refine pas_plain rfl ?_ | refine pas_g rfl rfl ?_ | refine act_plain rfl ?_ | refine act_g rfl rfl ?_ | refine last_plain rfl ?_ | refine tail_plain rfl ?_ | refine tail_g rfl rfl ?_); (repeat simp only [push_cast, seval, -Nat.reduceSubDiff, cell_h, cellO_cells, hrd, e1, e2, e3, e4, cq])) | (refine tail_fin ?_) | (refine sch_fin ?_)))
        (repeat (first | (with_reducible first | (refine hK _ _ ?_; clear hK K) | refine (show ∀ σ' w', _ → K σ' w' from by assumption) _ _ ?_ | refine W_seq_k fun K hK => ?_ | refine W_block_k fun K hK => ?_ | refine W_skip ?_ | refine W_ret ?_) | ((first | ((with_reducible refine W_id ?_); refine W_reg (by decide) (by rfl) ?_) | (with_reducible first | refine W_cond ?_ | refine hZ _ _ ?_ | refine W_exit ?_ | refine Wo_id ?_) | skip); repeat1' simp only [push_cast, seval, -Nat.reduceSubDiff]) | ((repeat ((fail_if_success with_reducible refine hK _ _ ?_); clear hK K)); (with_reducible refine hK _ _ ?_); clear hK K)))
        exact hx.trans hxd
      · rw [if_neg (fun h => hml h.2)] at hr
        have hnh : ¬ m.nd.name = sHtml := by rw [ht]; decide
        rw [if_neg (fun h => hnh h.1), if_neg hnh] at hr
        have d0 : ¬ (0 : Int) < (b.modes.length : Int) := by omega
        have hth : ¬ (⟨#[116, 101, 109, 112, 108, 97, 116, 101]⟩ : ByteArray) = ⟨#[104, 116, 109, 108]⟩ := by decide
        cases first with
        | false =>
          rw [if_neg (fun h => by cases h.1)] at hr
          subst hr
          (repeat (first | (with_reducible first | (refine hK _ _ ?_; clear hK K) | refine (show ∀ σ' w', _ → K σ' w' from by assumption) _ _ ?_ | refine W_seq_k fun K hK => ?_ | refine W_block_k fun K hK => ?_ | refine W_skip ?_ | refine W_ret ?_) | ((first | ((with_reducible refine W_id ?_); refine W_reg (by decide) (by rfl) ?_) | (with_reducible first | refine W_cond ?_ | refine hZ _ _ ?_ | refine W_exit ?_ | refine Wo_id ?_) | skip); repeat1' simp only [push_cast, seval, -Nat.reduceSubDiff, ext0, ext1, cell_h, cellO_cells, hp, hs, htl, hth, hrow, d0, decide_true, not_true_eq_false, decide_false]) | ((repeat ((fail_if_success with_reducible refine hK _ _ ?_); clear hK K)); (with_reducible refine hK _ _ ?_); clear hK K)))
          exact hx
        | true =>
          by_cases hmd : md = 14
          · rw [if_pos ⟨rfl, .inl hmd⟩] at hr
            subst hr
            (repeat (first | (with_reducible first | (refine hK _ _ ?_; clear hK K) | refine (show ∀ σ' w', _ → K σ' w' from by assumption) _ _ ?_ | refine W_seq_k fun K hK => ?_ | refine W_block_k fun K hK => ?_ | refine W_skip ?_ | refine W_ret ?_) | ((first | ((with_reducible refine W_id ?_); refine W_reg (by decide) (by rfl) ?_) | (with_reducible first | refine W_cond ?_ | refine hZ _ _ ?_ | refine W_exit ?_ | refine Wo_id ?_) | skip); repeat1' simp only [push_cast, seval, -Nat.reduceSubDiff, ext0, ext1, cell_h, cellO_cells, hp, hs, htl, hth, hrow, d0, hmd, decide_true, not_true_eq_false, decide_false]) | ((repeat ((fail_if_success with_reducible refine hK _ _ ?_); clear hK K)); (with_reducible refine hK _ _ ?_); clear hK K)))
            exact hx
          · by_cases hm3 : md = 3
            · rw [if_pos ⟨rfl, .inr hm3⟩] at hr
              subst hr
              subst hm3
              (repeat (first | (with_reducible first | (refine hK _ _ ?_; clear hK K) | refine (show ∀ σ' w', _ → K σ' w' from by assumption) _ _ ?_ | refine W_seq_k fun K hK => ?_ | refine W_block_k fun K hK => ?_ | refine W_skip ?_ | refine W_ret ?_) | ((first | ((with_reducible refine W_id ?_); refine W_reg (by decide) (by rfl) ?_) | (with_reducible first | refine W_cond ?_ | refine hZ _ _ ?_ | refine W_exit ?_ | refine Wo_id ?_) | skip); repeat1' simp only [push_cast, seval, -Nat.reduceSubDiff, ext0, ext1, cell_h, cellO_cells, hp, hs, htl, hth, hrow, d0, hmd, decide_true, not_true_eq_false, decide_false]) | ((repeat ((fail_if_success with_reducible refine hK _ _ ?_); clear hK K)); (with_reducible refine hK _ _ ?_); clear hK K)))
              exact hx
            · rw [if_neg (by rintro ⟨_, h | h⟩; exact hmd h; exact hm3 h)] at hr
              subst hr
              (repeat (first | (with_reducible first | (refine hK _ _ ?_; clear hK K) | refine (show ∀ σ' w', _ → K σ' w' from by assumption) _ _ ?_ | refine W_seq_k fun K hK => ?_ | refine W_block_k fun K hK => ?_ | refine W_skip ?_ | refine W_ret ?_) | ((first | ((with_reducible refine W_id ?_); refine W_reg (by decide) (by rfl) ?_) | (with_reducible first | refine W_cond ?_ | refine hZ _ _ ?_ | refine W_exit ?_ | refine Wo_id ?_) | skip); repeat1' simp only [push_cast, seval, -Nat.reduceSubDiff, ext0, ext1, cell_h, cellO_cells, hp, hs, htl, hth, hrow, d0, hmd, hm3, decide_true, not_true_eq_false, decide_false]) | ((repeat ((fail_if_success with_reducible refine hK _ _ ?_); clear hK K)); (with_reducible refine hK _ _ ?_); clear hK K)))
              exact hx
    · rw [if_neg (fun h => ht h.1)] at hr
      by_cases hh : m.nd.name = sHtml
      · have hhl : m.nd.name = ⟨#[104, 116, 109, 108]⟩ := hh
        have hht : ¬ (⟨#[104, 116, 109, 108]⟩ : ByteArray) = ⟨#[116, 101, 109, 112, 108, 97, 116, 101]⟩ := by decide
        by_cases hhd : b.head < 0
        · rw [if_pos ⟨hh, hhd⟩] at hr
          subst hr
          (repeat (first | (with_reducible first | (refine hK _ _ ?_; clear hK K) | refine (show ∀ σ' w', _ → K σ' w' from by assumption) _ _ ?_ | refine W_seq_k fun K hK => ?_ | refine W_block_k fun K hK => ?_ | refine W_skip ?_ | refine W_ret ?_) | ((first | ((with_reducible refine W_id ?_); refine W_reg (by decide) (by rfl) ?_) | (with_reducible first | refine W_cond ?_ | refine hZ _ _ ?_ | refine W_exit ?_ | refine Wo_id ?_) | skip); repeat1' simp only [push_cast, seval, -Nat.reduceSubDiff, ext0, ext1, cell_h, cellO_cells, hp, hs, hhl, hht, hrow, hhd, decide_true, not_true_eq_false, decide_false]) | ((repeat ((fail_if_success with_reducible refine hK _ _ ?_); clear hK K)); (with_reducible refine hK _ _ ?_); clear hK K)))
          exact hx
        · rw [if_neg (fun h => hhd h.2), if_pos hh] at hr
          subst hr
          (repeat (first | (with_reducible first | (refine hK _ _ ?_; clear hK K) | refine (show ∀ σ' w', _ → K σ' w' from by assumption) _ _ ?_ | refine W_seq_k fun K hK => ?_ | refine W_block_k fun K hK => ?_ | refine W_skip ?_ | refine W_ret ?_) | ((first | ((with_reducible refine W_id ?_); refine W_reg (by decide) (by rfl) ?_) | (with_reducible first | refine W_cond ?_ | refine hZ _ _ ?_ | refine W_exit ?_ | refine Wo_id ?_) | skip); repeat1' simp only [push_cast, seval, -Nat.reduceSubDiff, ext0, ext1, cell_h, cellO_cells, hp, hs, hhl, hht, hrow, hhd, decide_true, not_true_eq_false, decide_false]) | ((repeat ((fail_if_success with_reducible refine hK _ _ ?_); clear hK K)); (with_reducible refine hK _ _ ?_); clear hK K)))
          exact hx
      · rw [if_neg (fun h => hh h.1), if_neg hh] at hr
        have ht' : ¬ m.nd.name = ⟨#[116, 101, 109, 112, 108, 97, 116, 101]⟩ := ht
        have hh' : ¬ m.nd.name = ⟨#[104, 116, 109, 108]⟩ := hh
        cases first with
        | false =>
          rw [if_neg (fun h => by cases h.1)] at hr
          subst hr
          (repeat (first | (with_reducible first | (refine hK _ _ ?_; clear hK K) | refine (show ∀ σ' w', _ → K σ' w' from by assumption) _ _ ?_ | refine W_seq_k fun K hK => ?_ | refine W_block_k fun K hK => ?_ | refine W_skip ?_ | refine W_ret ?_) | ((first | ((with_reducible refine W_id ?_); refine W_reg (by decide) (by rfl) ?_) | (with_reducible first | refine W_cond ?_ | refine hZ _ _ ?_ | refine W_exit ?_ | refine Wo_id ?_) | skip); repeat1' simp only [push_cast, seval, -Nat.reduceSubDiff, ext0, ext1, cell_h, cellO_cells, hp, hs, ht', hh', hrow, decide_true, not_true_eq_false, decide_false]) | ((repeat ((fail_if_success with_reducible refine hK _ _ ?_); clear hK K)); (with_reducible refine hK _ _ ?_); clear hK K)))
          exact hx
        | true =>
          by_cases hmd : md = 14
          · rw [if_pos ⟨rfl, .inl hmd⟩] at hr
            subst hr
            (repeat (first | (with_reducible first | (refine hK _ _ ?_; clear hK K) | refine (show ∀ σ' w', _ → K σ' w' from by assumption) _ _ ?_ | refine W_seq_k fun K hK => ?_ | refine W_block_k fun K hK => ?_ | refine W_skip ?_ | refine W_ret ?_) | ((first | ((with_reducible refine W_id ?_); refine W_reg (by decide) (by rfl) ?_) | (with_reducible first | refine W_cond ?_ | refine hZ _ _ ?_ | refine W_exit ?_ | refine Wo_id ?_) | skip); repeat1' simp only [push_cast, seval, -Nat.reduceSubDiff, ext0, ext1, cell_h, cellO_cells, hp, hs, ht', hh', hrow, hmd, decide_true, not_true_eq_false, decide_false]) | ((repeat ((fail_if_success with_reducible refine hK _ _ ?_); clear hK K)); (with_reducible refine hK _ _ ?_); clear hK K)))
            exact hx
          · by_cases hm3 : md = 3
            · rw [if_pos ⟨rfl, .inr hm3⟩] at hr
              subst hr
              subst hm3
              (repeat (first | (with_reducible first | (refine hK _ _ ?_; clear hK K) | refine (show ∀ σ' w', _ → K σ' w' from by assumption) _ _ ?_ | refine W_seq_k fun K hK => ?_ | refine W_block_k fun K hK => ?_ | refine W_skip ?_ | refine W_ret ?_) | ((first | ((with_reducible refine W_id ?_); refine W_reg (by decide) (by rfl) ?_) | (with_reducible first | refine W_cond ?_ | refine hZ _ _ ?_ | refine W_exit ?_ | refine Wo_id ?_) | skip); repeat1' simp only [push_cast, seval, -Nat.reduceSubDiff, ext0, ext1, cell_h, cellO_cells, hp, hs, ht', hh', hrow, hmd, decide_true, not_true_eq_false, decide_false]) | ((repeat ((fail_if_success with_reducible refine hK _ _ ?_); clear hK K)); (with_reducible refine hK _ _ ?_); clear hK K)))
              exact hx
            · rw [if_neg (by rintro ⟨_, h | h⟩; exact hmd h; exact hm3 h)] at hr
              subst hr
              (repeat (first | (with_reducible first | (refine hK _ _ ?_; clear hK K) | refine (show ∀ σ' w', _ → K σ' w' from by assumption) _ _ ?_ | refine W_seq_k fun K hK => ?_ | refine W_block_k fun K hK => ?_ | refine W_skip ?_ | refine W_ret ?_) | ((first | ((with_reducible refine W_id ?_); refine W_reg (by decide) (by rfl) ?_) | (with_reducible first | refine W_cond ?_ | refine hZ _ _ ?_ | refine W_exit ?_ | refine Wo_id ?_) | skip); repeat1' simp only [push_cast, seval, -Nat.reduceSubDiff, ext0, ext1, cell_h, cellO_cells, hp, hs, ht', hh', hrow, hmd, hm3, decide_true, not_true_eq_false, decide_false]) | ((repeat ((fail_if_success with_reducible refine hK _ _ ?_); clear hK K)); (with_reducible refine hK _ _ ?_); clear hK K)))
              exact hx
  · rw [if_pos hs] at hr
    subst hr
    (repeat (first | (with_reducible first | (refine hK _ _ ?_; clear hK K) | refine (show ∀ σ' w', _ → K σ' w' from by assumption) _ _ ?_ | refine W_seq_k fun K hK => ?_ | refine W_block_k fun K hK => ?_ | refine W_skip ?_ | refine W_ret ?_) | ((first | ((with_reducible refine W_id ?_); refine W_reg (by decide) (by rfl) ?_) | (with_reducible first | refine W_cond ?_ | refine hZ _ _ ?_ | refine W_exit ?_ | refine Wo_id ?_) | skip); repeat1' simp only [push_cast, seval, -Nat.reduceSubDiff, ext0, ext1, cell_h, cellO_cells, hp, hs, not_false_eq_true, decide_true]) | ((repeat ((fail_if_success with_reducible refine hK _ _ ?_); clear hK K)); (with_reducible refine hK _ _ ?_); clear hK K)))
    exact hx
end
end Go.Proofs.YtgnnlaeikcnhcaaGreatDoor
end
section
set_option linter.unusedSimpArgs false
set_option linter.unusedVariables false
namespace Go.Vk
open Go
def Nms (L : List Nd) : Prop := ∀ n ∈ L, n.name.size < 4294967281
theorem Nms.node {L : List Nd} (h : Nms L) (i : Int) : (nodeN L i).name.size < 4294967281 := by
  unfold nodeN
  cases hx : nd? L i with
  | none => exact (by decide : (0 : Nat) < 4294967281)
  | some x =>
    obtain ⟨k, _, hk, _⟩ := nd?_some hx
    exact h x (List.mem_of_getElem? hk)
end Go.Vk
namespace Go.Proofs.YtgnnlaeikcnhcaaGreatDoor
open Go Go.Vk
set_option maxHeartbeats 40000000
section
variable {w0 w : World} {Q : Nat → Prop} {pb ps pl pa : Nat} {b : BSt}
theorem breset_c (h : BuAt w0 w Q pb ps pl pa b) (hb : okB b) (hg : GB w0) (hz : Nms b.L) (hm : b.modes.length < 100000) :
    Gives Tryz.prog 48 #[.pointer (some ⟨pb, 0, none⟩)] w fun _ w' => BuAt w0 w' Q pb ps pl pa (resetB b) ∧ Upd (AF w0 Q) w w' := by
  obtain ⟨ma, mn, mc, av, _, _, hh⟩ := h.hd
  have hs := hb.s
  have s0 : inI64 ((b.s.length : Int) - 1) := by unfold inI64; omega
  refine Gives.of_W Tryz.call48 Tryz.func48 rfl Tryz.ntmps48 (by simp) ?_; intro Z hZ
  (repeat (first | (with_reducible first | (refine hK _ _ ?_; clear hK K) | refine (show ∀ σ' w', _ → K σ' w' from by assumption) _ _ ?_ | refine W_seq_k fun K hK => ?_ | refine W_block_k fun K hK => ?_ | refine W_skip ?_ | refine W_ret ?_) | ((first | ((with_reducible refine W_id ?_); refine W_reg (by decide) (by rfl) ?_) | (with_reducible first | refine W_cond ?_ | refine hZ _ _ ?_ | refine W_exit ?_ | refine Wo_id ?_) | skip); repeat1' simp only [push_cast, seval, -Nat.reduceSubDiff]) | ((repeat ((fail_if_success with_reducible refine hK _ _ ?_); clear hK K)); (with_reducible refine hK _ _ ?_); clear hK K)))
  refine (bnone_c h).mono ?_
  intro v w' ⟨hv, hw⟩
  subst hv; subst w'
  (repeat (first | (with_reducible first | (refine hK _ _ ?_; clear hK K) | refine (show ∀ σ' w', _ → K σ' w' from by assumption) _ _ ?_ | refine W_seq_k fun K hK => ?_ | refine W_block_k fun K hK => ?_ | refine W_skip ?_ | refine W_ret ?_) | ((first | ((with_reducible refine W_id ?_); refine W_reg (by decide) (by rfl) ?_) | (with_reducible first | refine W_cond ?_ | refine hZ _ _ ?_ | refine W_exit ?_ | refine Wo_id ?_) | skip); repeat1' simp only [push_cast, seval, -Nat.reduceSubDiff, cell_h, cellO_cells, hh]) | ((repeat ((fail_if_success with_reducible refine hK _ _ ?_); clear hK K)); (with_reducible refine hK _ _ ?_); clear hK K)))
  refine (bslen_c h).mono ?_
  intro v w' ⟨hv, hw⟩
  subst hv; subst w'
  (repeat (first | (with_reducible first | (refine hK _ _ ?_; clear hK K) | refine (show ∀ σ' w', _ → K σ' w' from by assumption) _ _ ?_ | refine W_seq_k fun K hK => ?_ | refine W_block_k fun K hK => ?_ | refine W_skip ?_ | refine W_ret ?_) | ((first | ((with_reducible refine W_id ?_); refine W_reg (by decide) (by rfl) ?_) | (with_reducible first | refine W_cond ?_ | refine hZ _ _ ?_ | refine W_exit ?_ | refine Wo_id ?_) | skip); repeat1' simp only [push_cast, seval, -Nat.reduceSubDiff, s0]) | ((repeat ((fail_if_success with_reducible refine hK _ _ ?_); clear hK K)); (with_reducible refine hK _ _ ?_); clear hK K)))
  refine W_loop (S := Nat) (fun k => [(0, .pointer (some ⟨pb, 0, none⟩)), (2, .int .i64 ((k : Int) - 1))])
    (fun k w2 => k ≤ b.s.length ∧ resetB b = resetN b k ∧ Ext w w2) (fun k => k) b.s.length ?_ ?_ ?_
  · (repeat simp only [push_cast, seval, -Nat.reduceSubDiff])
  · exact ⟨Nat.le_refl _, rfl, Ext.refl _⟩
  rintro k w2 ⟨hk, he, hx2⟩
  have h2 := h.pass hx2
  have hh2 := hx2.blk hh
  cases k with
  | zero =>
    have e0 : (((0 : Nat) : Int) - 1) = -1 := rfl
    rw [e0]
    have b0 : ¬ (0 : Int) ≤ -1 := by omega
    obtain ⟨k1, k2, k3⟩ := h2.put { b with mode := 6 } 3 (.int .i64 6) (fun _ _ => rfl) (by decide) ⟨rfl, rfl, rfl, rfl, rfl⟩
    rw [resetN] at he
    (repeat (first | (with_reducible first | (refine hK _ _ ?_; clear hK K) | refine (show ∀ σ' w', _ → K σ' w' from by assumption) _ _ ?_ | refine W_seq_k fun K hK => ?_ | refine W_block_k fun K hK => ?_ | refine W_skip ?_ | refine W_ret ?_) | ((first | ((with_reducible refine W_id ?_); refine W_reg (by decide) (by rfl) ?_) | (with_reducible first | refine W_cond ?_ | refine hZ _ _ ?_ | refine W_exit ?_ | refine Wo_id ?_) | skip); repeat1' simp only [push_cast, seval, -Nat.reduceSubDiff, b0, cell_h, cellO_cells, hh2, k1]) | ((repeat ((fail_if_success with_reducible refine hK _ _ ?_); clear hK K)); (with_reducible refine hK _ _ ?_); clear hK K)))
    rw [he]
    exact ⟨k2, Upd.trans hx2.upd k3 fun _ _ h => h⟩
  | succ k =>
    have e0 : (((k + 1 : Nat) : Int) - 1) = k := by omega
    rw [e0]
    rw [resetN] at he
    have b0 : (0 : Int) ≤ (k : Int) := by omega
    have b2 : inI64 ((k : Int) - 1) := by unfold inI64; omega
    have hkl : k < b.s.length := by omega
    have eA : atS b.s (k : Int) = (b.s.getD k zS).node := by
      unfold atS
      rw [if_pos ⟨b0, by omega⟩, Int.toNat_natCast]
    have hxd := hx2.trans (Ext.drew w2)
    have hd := h.pass hxd
    have hhd := hxd.blk hh
    have l1 := blk_lt hhd
    have hA := bsat_c hd (k : Int)
    rw [eA] at hA
    generalize (b.s.getD k zS).node = nk at *
    have e1 : decide ((k : Int) = 0) = decide (k = 0) := by
      by_cases hk0 : k = 0
      · rw [decide_eq_true hk0, decide_eq_true (by omega)]
      · rw [decide_eq_false hk0, decide_eq_false (by omega)]
    generalize decide (k = 0) = first at *
    (repeat (first | (with_reducible first | (refine hK _ _ ?_; clear hK K) | refine (show ∀ σ' w', _ → K σ' w' from by assumption) _ _ ?_ | refine W_seq_k fun K hK => ?_ | refine W_block_k fun K hK => ?_ | refine W_skip ?_ | refine W_ret ?_) | ((first | ((with_reducible refine W_id ?_); refine W_reg (by decide) (by rfl) ?_) | (with_reducible first | refine W_cond ?_ | refine hZ _ _ ?_ | refine W_exit ?_ | refine Wo_id ?_) | skip); repeat1' simp only [push_cast, seval, -Nat.reduceSubDiff, b0]) | ((repeat ((fail_if_success with_reducible refine hK _ _ ?_); clear hK K)); (with_reducible refine hK _ _ ?_); clear hK K)))
    refine W_draw (.pas 0 (.pas 1 (.pas 2 (.pas 3 (.pas 4 (.pas 5 (.pas 6 (.pas 7 (.pas 8 (.pas 9 (.pas 12 (.pas 13 (.act 10 (.act 11 (.act 14 (.pas 15 (.pas 16 (.pas 17 (.pas 18 (.pas 19 .fin)))))))))))))))))))) (fun q => q = pb) (by decide) mixed (by kernel_rfl) ?_
    generalize w2.drew = wd at *
    (repeat (first | ((first | refine pas_plain rfl ?_ | refine pas_g rfl rfl ?_ | refine act_plain rfl ?_ | refine act_g rfl rfl ?_ | refine last_plain rfl ?_ | refine tail_plain rfl ?_ | refine tail_g rfl rfl ?_); (repeat simp only [push_cast, seval, -Nat.reduceSubDiff, eq_self, cell_h, cellO_cells, hhd, e1])) | (refine tail_fin ?_) | (refine sch_fin ?_)))
    refine hA.mono ?_
    intro v w' ⟨hv, hw⟩
    subst hv; subst w'
    refine ⟨kept.refl _ _, ?_⟩
    (repeat (first | ((first | refine pas_plain rfl ?_ | refine pas_g rfl rfl ?_ | refine act_plain rfl ?_ | refine act_g rfl rfl ?_ | refine last_plain rfl ?_ | refine tail_plain rfl ?_ | refine tail_g rfl rfl ?_); (repeat simp only [push_cast, seval, -Nat.reduceSubDiff, e1])) | (refine tail_fin ?_) | (refine sch_fin ?_)))
    refine (bnode_c hd hb nk).mono ?_
    rintro v w3 ⟨m, rfl, hmn, hok, hx3, _⟩
    refine ⟨kept_upd hx3 fun q hq => ⟨by have : q = pb := hq; omega, id⟩, ?_⟩
    have hs3 := hx3.sz
    (repeat (first | ((first | refine pas_plain rfl ?_ | refine pas_g rfl rfl ?_ | refine act_plain rfl ?_ | refine act_g rfl rfl ?_ | refine last_plain rfl ?_ | refine tail_plain rfl ?_ | refine tail_g rfl rfl ?_); (repeat simp only [push_cast, seval, -Nat.reduceSubDiff, e1])) | (refine tail_fin ?_) | (refine sch_fin ?_)))
    refine (found_c (hd.pass hx3) hg (m := m) (by rw [hmn]; exact hz.node nk) first hm).mono ?_
    rintro v w4 ⟨rfl, hx4⟩
    refine ⟨kept_upd hx4 fun q hq => ⟨by have : q = pb := hq; omega, id⟩, ?_⟩
    rw [← hmn] at he
    have hx04 := (hxd.trans hx3).trans hx4
    have h4 := h.pass hx04
    have hh4 := hx04.blk hh
    generalize foundB b m.nd first = fr at *
    obtain ⟨md, ok⟩ := fr
    dsimp only at he
    (repeat (first | ((first | refine pas_plain rfl ?_ | refine pas_g rfl rfl ?_ | refine act_plain rfl ?_ | refine act_g rfl rfl ?_ | refine last_plain rfl ?_ | refine tail_plain rfl ?_ | refine tail_g rfl rfl ?_); (repeat simp only [push_cast, seval, -Nat.reduceSubDiff, ext0, ext1])) | (refine tail_fin ?_) | (refine sch_fin ?_)))
    cases ok with
    | true =>
      rw [if_pos rfl] at he
      obtain ⟨k1, k2, k3⟩ := h4.put { b with mode := md } 3 (.int .i64 md) (fun _ _ => rfl) (by decide) ⟨rfl, rfl, rfl, rfl, rfl⟩
      (repeat (first | (with_reducible first | (refine hK _ _ ?_; clear hK K) | refine (show ∀ σ' w', _ → K σ' w' from by assumption) _ _ ?_ | refine W_seq_k fun K hK => ?_ | refine W_block_k fun K hK => ?_ | refine W_skip ?_ | refine W_ret ?_) | ((first | ((with_reducible refine W_id ?_); refine W_reg (by decide) (by rfl) ?_) | (with_reducible first | refine W_cond ?_ | refine hZ _ _ ?_ | refine W_exit ?_ | refine Wo_id ?_) | skip); repeat1' simp only [push_cast, seval, -Nat.reduceSubDiff, cell_h, cellO_cells, hh4, k1]) | ((repeat ((fail_if_success with_reducible refine hK _ _ ?_); clear hK K)); (with_reducible refine hK _ _ ?_); clear hK K)))
      rw [he]
      exact ⟨k2, Upd.trans hx04.upd k3 fun _ _ h => h⟩
    | false =>
      rw [if_neg (by decide)] at he
      (repeat (first | (with_reducible first | (refine hK _ _ ?_; clear hK K) | refine (show ∀ σ' w', _ → K σ' w' from by assumption) _ _ ?_ | refine W_seq_k fun K hK => ?_ | refine W_block_k fun K hK => ?_ | refine W_skip ?_ | refine W_ret ?_) | ((first | ((with_reducible refine W_id ?_); refine W_reg (by decide) (by rfl) ?_) | (with_reducible first | refine W_cond ?_ | refine hZ _ _ ?_ | refine W_exit ?_ | refine Wo_id ?_) | skip); repeat1' simp only [push_cast, seval, -Nat.reduceSubDiff, b2]) | ((repeat ((fail_if_success with_reducible refine hK _ _ ?_); clear hK K)); (with_reducible refine hK _ _ ?_); clear hK K)))
      refine ⟨k, by omega, ?_⟩
      (repeat simp only [push_cast, seval, -Nat.reduceSubDiff])
      exact ⟨by omega, he, hx04⟩
theorem as_nil_c {w : World} (t : Value) : Gives Tryz.prog 113 #[.nilIface, t] w fun v w' => v = .bool false ∧ w' = w := by
  refine Gives.of_W Tryz.call113 Tryz.func113 rfl Tryz.ntmps113 (by simp) ?_; intro Z hZ
  (repeat (first | (with_reducible first | (refine hK _ _ ?_; clear hK K) | refine (show ∀ σ' w', _ → K σ' w' from by assumption) _ _ ?_ | refine W_seq_k fun K hK => ?_ | refine W_block_k fun K hK => ?_ | refine W_skip ?_ | refine W_ret ?_) | ((first | ((with_reducible refine W_id ?_); refine W_reg (by decide) (by rfl) ?_) | (with_reducible first | refine W_cond ?_ | refine hZ _ _ ?_ | refine W_exit ?_ | refine Wo_id ?_) | skip); repeat1' simp only [push_cast, seval, -Nat.reduceSubDiff, nilI]) | ((repeat ((fail_if_success with_reducible refine hK _ _ ?_); clear hK K)); (with_reducible refine hK _ _ ?_); clear hK K)))
theorem mkPtr (a : Option Addr) (w : World) (K : Value → World → Prop) : Pure1 Tryz.prog (Instr.makeInterface 129 (.pointer a)) w K = K (.iface 129 (.pointer a)) w := Pure1_eq (fun w => by kernel_rfl) w K
theorem berr0_c (h : BuAt w0 w Q pb ps pl pa b) (he : b.err = none) : Gives Tryz.prog 31 #[.pointer (some ⟨pb, 0, none⟩)] w fun v w' => v = .int .i64 0 ∧ Ext w w' := by
  obtain ⟨ma, mn, mc, av, _, _, hh⟩ := h.hd
  rw [he] at hh
  have hx := Ext.alloc w (.cells #[.int .i64 0] 28)
  have hh2 := hx.blk hh
  refine Gives.of_W Tryz.call31 Tryz.func31 rfl Tryz.ntmps31 (by simp) ?_; intro Z hZ
  (repeat (first | (with_reducible first | (refine hK _ _ ?_; clear hK K) | refine (show ∀ σ' w', _ → K σ' w' from by assumption) _ _ ?_ | refine W_seq_k fun K hK => ?_ | refine W_block_k fun K hK => ?_ | refine W_skip ?_ | refine W_ret ?_) | ((first | ((with_reducible refine W_id ?_); refine W_reg (by decide) (by rfl) ?_) | (with_reducible first | refine W_cond ?_ | refine hZ _ _ ?_ | refine W_exit ?_ | refine Wo_id ?_) | skip); repeat1' simp only [push_cast, seval, -Nat.reduceSubDiff]) | ((repeat ((fail_if_success with_reducible refine hK _ _ ?_); clear hK K)); (with_reducible refine hK _ _ ?_); clear hK K)))
  refine (bnone_c h).mono ?_
  intro v w' ⟨hv, hw⟩
  subst hv; subst w'
  (repeat (first | (with_reducible first | (refine hK _ _ ?_; clear hK K) | refine (show ∀ σ' w', _ → K σ' w' from by assumption) _ _ ?_ | refine W_seq_k fun K hK => ?_ | refine W_block_k fun K hK => ?_ | refine W_skip ?_ | refine W_ret ?_) | ((first | ((with_reducible refine W_id ?_); refine W_reg (by decide) (by rfl) ?_) | (with_reducible first | refine W_cond ?_ | refine hZ _ _ ?_ | refine W_exit ?_ | refine Wo_id ?_) | skip); repeat1' simp only [push_cast, seval, -Nat.reduceSubDiff, RunV_zero Tryz.zeroValue28, vcells_int]) | ((repeat ((fail_if_success with_reducible refine hK _ _ ?_); clear hK K)); (with_reducible refine hK _ _ ?_); clear hK K)))
  generalize w.alloc (.cells #[.int .i64 0] 28) = w2 at *
  (repeat (first | (with_reducible first | (refine hK _ _ ?_; clear hK K) | refine (show ∀ σ' w', _ → K σ' w' from by assumption) _ _ ?_ | refine W_seq_k fun K hK => ?_ | refine W_block_k fun K hK => ?_ | refine W_skip ?_ | refine W_ret ?_) | ((first | ((with_reducible refine W_id ?_); refine W_reg (by decide) (by rfl) ?_) | (with_reducible first | refine W_cond ?_ | refine hZ _ _ ?_ | refine W_exit ?_ | refine Wo_id ?_) | skip); repeat1' simp only [push_cast, seval, -Nat.reduceSubDiff, cell_h, cellO_cells, hh2, errV, mkPtr]) | ((repeat ((fail_if_success with_reducible refine hK _ _ ?_); clear hK K)); (with_reducible refine hK _ _ ?_); clear hK K)))
  refine (as_nil_c _).mono ?_
  intro v w' ⟨hv, hw⟩
  subst hv; subst w'
  (repeat (first | (with_reducible first | (refine hK _ _ ?_; clear hK K) | refine (show ∀ σ' w', _ → K σ' w' from by assumption) _ _ ?_ | refine W_seq_k fun K hK => ?_ | refine W_block_k fun K hK => ?_ | refine W_skip ?_ | refine W_ret ?_) | ((first | ((with_reducible refine W_id ?_); refine W_reg (by decide) (by rfl) ?_) | (with_reducible first | refine W_cond ?_ | refine hZ _ _ ?_ | refine W_exit ?_ | refine Wo_id ?_) | skip); repeat1' simp only [push_cast, seval, -Nat.reduceSubDiff]) | ((repeat ((fail_if_success with_reducible refine hK _ _ ?_); clear hK K)); (with_reducible refine hK _ _ ?_); clear hK K)))
  exact hx
end
end Go.Proofs.YtgnnlaeikcnhcaaGreatDoor
end
section
set_option linter.unusedSimpArgs false
set_option linter.unusedVariables false
namespace Go.Proofs.YtgnnlaeikcnhcaaGreatDoor
open Go Go.Vk
def sBody : ByteArray := ⟨#[98, 111, 100, 121]⟩
def gb1 : BSt := (implyB newB sHtml).1
def gb2 : BSt := (implyB gb1 sBody).1
def gb3 : BSt := (implyB gb2 sTable).1
def gb4 : BSt := { gb3 with foster := true }
def gc3 : BSt := (implyB gb2 ⟨#[98]⟩).1
def gc4 : BSt := { gc3 with l := (pushN gc3.L gc3.l 3).1 }
def gc5 : BSt := { gc4 with s := gc4.s.dropLast }
def gc6 : BSt := rebuildB gc5
def gd2 : BSt := (implyB gb1 ⟨#[116, 100]⟩).1
def gd3 : BSt := resetB gd2
def gd4 : BSt := (implyB gd3 ⟨#[116, 114]⟩).1
def gd5 : BSt := resetB gd4
def okb (b : BSt) : Bool := decide (b.L.length < 80000) && (b.L.all fun n => decide (n.attrs.length < 1000000) && decide (n.name.size < 4294967281)) && decide (b.s.length < 10000) && decide (b.l.length < 1000) && decide (b.modes.length < 100000)
theorem okb_ok {b : BSt} (h : okb b = true) : okB b ∧ b.L.length + 2 < 90000 ∧ b.L.length + 2 * b.l.length + 2 < 90000 ∧ (∀ n ∈ b.L, n.name.size < 4294967281) ∧ b.modes.length < 100000 := by
  simp only [okb, Bool.and_eq_true, decide_eq_true_eq, List.all_eq_true] at h
  obtain ⟨⟨⟨⟨h1, h2⟩, h3⟩, h4⟩, h5⟩ := h
  exact ⟨⟨by omega, fun n hn => (h2 n hn).1, h3, by omega⟩, by omega, by omega, fun n hn => (h2 n hn).2, h5⟩
theorem okg0 : okb newB = true := by kernel_rfl
theorem okg1 : okb gb1 = true := by kernel_rfl
theorem okg2 : okb gb2 = true := by kernel_rfl
theorem okg4 : okb gb4 = true := by kernel_rfl
theorem okc3 : okb gc3 = true := by kernel_rfl
theorem okc4 : okb gc4 = true := by kernel_rfl
theorem okc5 : okb gc5 = true := by kernel_rfl
theorem okd2 : okb gd2 = true := by kernel_rfl
theorem okd3 : okb gd3 = true := by kernel_rfl
theorem okd4 : okb gd4 = true := by kernel_rfl
theorem g_1 : (implyB newB ⟨#[104, 116, 109, 108]⟩).2 = 1 := by kernel_rfl
theorem g_2 : (implyB gb1 ⟨#[98, 111, 100, 121]⟩).2 = 2 := by kernel_rfl
theorem g_3 : (implyB gb2 ⟨#[116, 97, 98, 108, 101]⟩).2 = 3 := by kernel_rfl
theorem g_4 : placeB gb4 3 = (2, 3) := by kernel_rfl
theorem g_5 : (implyB gb2 ⟨#[98]⟩).2 = 3 := by kernel_rfl
theorem g_6 : (pushN gc3.L gc3.l 3).2 = 0 := by kernel_rfl
theorem g_7 : topS gc4.s = 3 := by kernel_rfl
theorem g_8 : (if (0 : Int) ≤ 0 ∧ (0 : Int) < gc6.l.length then gc6.l.getD (0 : Int).toNat 0 else -1) = 4 := by kernel_rfl
theorem g_9 : decide (((0 : Int) ≤ 0 ∧ (0 : Int) < gc6.l.length) ∧ gc6.l.getD (0 : Int).toNat 0 = -1) = false := by kernel_rfl
theorem g_10 : gd3.mode = 14 := by kernel_rfl
theorem g_11 : gd5.mode = 13 := by kernel_rfl
theorem g_12 : gd5.err = none := by kernel_rfl
set_option maxHeartbeats 40000000
section
variable {w0 w : World} {Q : Nat → Prop} {pb ps pl pa : Nat} {b : BSt}
theorem bfpush_c (h : BuAt w0 w Q pb ps pl pa b) (hb : okB b) (i : Int) : Gives Tryz.prog 22 #[.pointer (some ⟨pl, 0, none⟩), .int .i64 i] w fun v w' => v = .int .i64 (pushN b.L b.l i).2 ∧ BuAt w0 w' Q pb ps pl pa { b with l := (pushN b.L b.l i).1 } ∧ Upd (AF w0 Q) w w' := by
  obtain ⟨P, hF, hback⟩ := h.fmt
  have := hb.L
  refine (push_c hF (by omega) hb.at_ hb.l i).mono ?_
  rintro v w' ⟨rfl, g1, g2⟩
  exact ⟨rfl, hback _ _ _ g1 g2⟩
end
theorem nP {w : World} : ∀ q, noP q → q < w.heap.size := fun _ h => h.elim
set_option maxHeartbeats 1000000 in
theorem grows_c {w : World} (hg : GB w) : Gives Tryz.prog 16 #[] w fun v w' => v = .bool true ∧ Ext w w' := by
  obtain ⟨k0, j0, _⟩ := okb_ok okg0
  obtain ⟨k1, j1, _⟩ := okb_ok okg1
  obtain ⟨k2, j2, _⟩ := okb_ok okg2
  obtain ⟨k4, _⟩ := okb_ok okg4
  obtain ⟨c3, _⟩ := okb_ok okc3
  obtain ⟨c4, _⟩ := okb_ok okc4
  obtain ⟨c5, _, c5j, _⟩ := okb_ok okc5
  obtain ⟨d2, _, _, d2n, d2m⟩ := okb_ok okd2
  obtain ⟨d3, d3j, _, d3n, d3m⟩ := okb_ok okd3
  obtain ⟨d4, d4j, _, d4n, d4m⟩ := okb_ok okd4
  refine Gives.of_W Tryz.call16 Tryz.func16 rfl Tryz.ntmps16 (by simp) ?_; intro Z hZ
  (repeat (first | (with_reducible first | (refine hK _ _ ?_; clear hK K) | refine (show ∀ σ' w', _ → K σ' w' from by assumption) _ _ ?_ | refine W_seq_k fun K hK => ?_ | refine W_block_k fun K hK => ?_ | refine W_skip ?_ | refine W_ret ?_) | ((first | ((with_reducible refine W_id ?_); refine W_reg (by decide) (by rfl) ?_) | (with_reducible first | refine W_cond ?_ | refine hZ _ _ ?_ | refine W_exit ?_ | refine Wo_id ?_) | skip); repeat1' simp only [push_cast, seval, -Nat.reduceSubDiff]) | ((repeat ((fail_if_success with_reducible refine hK _ _ ?_); clear hK K)); (with_reducible refine hK _ _ ?_); clear hK K)))
  refine bnew_c.mono ?_
  rintro v w1 ⟨pb, ps, pl, pa, rfl, h0⟩
  (repeat (first | (with_reducible first | (refine hK _ _ ?_; clear hK K) | refine (show ∀ σ' w', _ → K σ' w' from by assumption) _ _ ?_ | refine W_seq_k fun K hK => ?_ | refine W_block_k fun K hK => ?_ | refine W_skip ?_ | refine W_ret ?_) | ((first | ((with_reducible refine W_id ?_); refine W_reg (by decide) (by rfl) ?_) | (with_reducible first | refine W_cond ?_ | refine hZ _ _ ?_ | refine W_exit ?_ | refine Wo_id ?_) | skip); repeat1' simp only [push_cast, seval, -Nat.reduceSubDiff]) | ((repeat ((fail_if_success with_reducible refine hK _ _ ?_); clear hK K)); (with_reducible refine hK _ _ ?_); clear hK K)))
  refine (bimply_c h0 k0 j0 nP _).mono ?_
  rintro v w2 ⟨rfl, h1, _⟩
  replace h1 : BuAt w w2 noP pb ps pl pa gb1 := h1
  rw [g_1]
  (repeat (first | (with_reducible first | (refine hK _ _ ?_; clear hK K) | refine (show ∀ σ' w', _ → K σ' w' from by assumption) _ _ ?_ | refine W_seq_k fun K hK => ?_ | refine W_block_k fun K hK => ?_ | refine W_skip ?_ | refine W_ret ?_) | ((first | ((with_reducible refine W_id ?_); refine W_reg (by decide) (by rfl) ?_) | (with_reducible first | refine W_cond ?_ | refine hZ _ _ ?_ | refine W_exit ?_ | refine Wo_id ?_) | skip); repeat1' simp only [push_cast, seval, -Nat.reduceSubDiff, not_true_eq_false, eq_self]) | ((repeat ((fail_if_success with_reducible refine hK _ _ ?_); clear hK K)); (with_reducible refine hK _ _ ?_); clear hK K)))
  refine (bimply_c h1 k1 j1 nP _).mono ?_
  rintro v w3 ⟨rfl, h2, _⟩
  replace h2 : BuAt w w3 noP pb ps pl pa gb2 := h2
  rw [g_2]
  (repeat (first | (with_reducible first | (refine hK _ _ ?_; clear hK K) | refine (show ∀ σ' w', _ → K σ' w' from by assumption) _ _ ?_ | refine W_seq_k fun K hK => ?_ | refine W_block_k fun K hK => ?_ | refine W_skip ?_ | refine W_ret ?_) | ((first | ((with_reducible refine W_id ?_); refine W_reg (by decide) (by rfl) ?_) | (with_reducible first | refine W_cond ?_ | refine hZ _ _ ?_ | refine W_exit ?_ | refine Wo_id ?_) | skip); repeat1' simp only [push_cast, seval, -Nat.reduceSubDiff, not_true_eq_false, eq_self]) | ((repeat ((fail_if_success with_reducible refine hK _ _ ?_); clear hK K)); (with_reducible refine hK _ _ ?_); clear hK K)))
  refine (bimply_c h2 k2 j2 nP _).mono ?_
  rintro v w4 ⟨rfl, h3, _⟩
  replace h3 : BuAt w w4 noP pb ps pl pa gb3 := h3
  rw [g_3]
  (repeat (first | (with_reducible first | (refine hK _ _ ?_; clear hK K) | refine (show ∀ σ' w', _ → K σ' w' from by assumption) _ _ ?_ | refine W_seq_k fun K hK => ?_ | refine W_block_k fun K hK => ?_ | refine W_skip ?_ | refine W_ret ?_) | ((first | ((with_reducible refine W_id ?_); refine W_reg (by decide) (by rfl) ?_) | (with_reducible first | refine W_cond ?_ | refine hZ _ _ ?_ | refine W_exit ?_ | refine Wo_id ?_) | skip); repeat1' simp only [push_cast, seval, -Nat.reduceSubDiff, not_true_eq_false, eq_self]) | ((repeat ((fail_if_success with_reducible refine hK _ _ ?_); clear hK K)); (with_reducible refine hK _ _ ?_); clear hK K)))
  refine (bfoster_c h3 true).mono ?_
  rintro v w5 ⟨h4, _⟩
  replace h4 : BuAt w w5 noP pb ps pl pa gb4 := h4
  (repeat (first | (with_reducible first | (refine hK _ _ ?_; clear hK K) | refine (show ∀ σ' w', _ → K σ' w' from by assumption) _ _ ?_ | refine W_seq_k fun K hK => ?_ | refine W_block_k fun K hK => ?_ | refine W_skip ?_ | refine W_ret ?_) | ((first | ((with_reducible refine W_id ?_); refine W_reg (by decide) (by rfl) ?_) | (with_reducible first | refine W_cond ?_ | refine hZ _ _ ?_ | refine W_exit ?_ | refine Wo_id ?_) | skip); repeat1' simp only [push_cast, seval, -Nat.reduceSubDiff]) | ((repeat ((fail_if_success with_reducible refine hK _ _ ?_); clear hK K)); (with_reducible refine hK _ _ ?_); clear hK K)))
  refine (bplace_c h4 k4 3).mono ?_
  rintro v w6 ⟨rfl, hx6⟩
  have h5 := h4.pass hx6
  rw [g_4]
  (repeat (first | (with_reducible first | (refine hK _ _ ?_; clear hK K) | refine (show ∀ σ' w', _ → K σ' w' from by assumption) _ _ ?_ | refine W_seq_k fun K hK => ?_ | refine W_block_k fun K hK => ?_ | refine W_skip ?_ | refine W_ret ?_) | ((first | ((with_reducible refine W_id ?_); refine W_reg (by decide) (by rfl) ?_) | (with_reducible first | refine W_cond ?_ | refine hZ _ _ ?_ | refine W_exit ?_ | refine Wo_id ?_) | skip); repeat1' simp only [push_cast, seval, -Nat.reduceSubDiff, ext0, ext1]) | ((repeat ((fail_if_success with_reducible refine hK _ _ ?_); clear hK K)); (with_reducible refine hK _ _ ?_); clear hK K)))
  have hw6 := h5.out
  clear h0 h1 h2 h3 h4 h5 hx6
  refine bnew_c.mono ?_
  rintro v w7 ⟨pb, ps, pl, pa, rfl, h0⟩
  (repeat (first | (with_reducible first | (refine hK _ _ ?_; clear hK K) | refine (show ∀ σ' w', _ → K σ' w' from by assumption) _ _ ?_ | refine W_seq_k fun K hK => ?_ | refine W_block_k fun K hK => ?_ | refine W_skip ?_ | refine W_ret ?_) | ((first | ((with_reducible refine W_id ?_); refine W_reg (by decide) (by rfl) ?_) | (with_reducible first | refine W_cond ?_ | refine hZ _ _ ?_ | refine W_exit ?_ | refine Wo_id ?_) | skip); repeat1' simp only [push_cast, seval, -Nat.reduceSubDiff]) | ((repeat ((fail_if_success with_reducible refine hK _ _ ?_); clear hK K)); (with_reducible refine hK _ _ ?_); clear hK K)))
  refine (bimply_c h0 k0 j0 nP _).mono ?_
  rintro v w8 ⟨rfl, h1, _⟩
  replace h1 : BuAt w6 w8 noP pb ps pl pa gb1 := h1
  (repeat (first | (with_reducible first | (refine hK _ _ ?_; clear hK K) | refine (show ∀ σ' w', _ → K σ' w' from by assumption) _ _ ?_ | refine W_seq_k fun K hK => ?_ | refine W_block_k fun K hK => ?_ | refine W_skip ?_ | refine W_ret ?_) | ((first | ((with_reducible refine W_id ?_); refine W_reg (by decide) (by rfl) ?_) | (with_reducible first | refine W_cond ?_ | refine hZ _ _ ?_ | refine W_exit ?_ | refine Wo_id ?_) | skip); repeat1' simp only [push_cast, seval, -Nat.reduceSubDiff]) | ((repeat ((fail_if_success with_reducible refine hK _ _ ?_); clear hK K)); (with_reducible refine hK _ _ ?_); clear hK K)))
  refine (bimply_c h1 k1 j1 nP _).mono ?_
  rintro v w9 ⟨rfl, h2, _⟩
  replace h2 : BuAt w6 w9 noP pb ps pl pa gb2 := h2
  (repeat (first | (with_reducible first | (refine hK _ _ ?_; clear hK K) | refine (show ∀ σ' w', _ → K σ' w' from by assumption) _ _ ?_ | refine W_seq_k fun K hK => ?_ | refine W_block_k fun K hK => ?_ | refine W_skip ?_ | refine W_ret ?_) | ((first | ((with_reducible refine W_id ?_); refine W_reg (by decide) (by rfl) ?_) | (with_reducible first | refine W_cond ?_ | refine hZ _ _ ?_ | refine W_exit ?_ | refine Wo_id ?_) | skip); repeat1' simp only [push_cast, seval, -Nat.reduceSubDiff, not_true_eq_false, eq_self]) | ((repeat ((fail_if_success with_reducible refine hK _ _ ?_); clear hK K)); (with_reducible refine hK _ _ ?_); clear hK K)))
  refine (bimply_c h2 k2 j2 nP _).mono ?_
  rintro v w10 ⟨rfl, h3, _⟩
  replace h3 : BuAt w6 w10 noP pb ps pl pa gc3 := h3
  rw [g_5]
  (repeat (first | (with_reducible first | (refine hK _ _ ?_; clear hK K) | refine (show ∀ σ' w', _ → K σ' w' from by assumption) _ _ ?_ | refine W_seq_k fun K hK => ?_ | refine W_block_k fun K hK => ?_ | refine W_skip ?_ | refine W_ret ?_) | ((first | ((with_reducible refine W_id ?_); refine W_reg (by decide) (by rfl) ?_) | (with_reducible first | refine W_cond ?_ | refine hZ _ _ ?_ | refine W_exit ?_ | refine Wo_id ?_) | skip); repeat1' simp only [push_cast, seval, -Nat.reduceSubDiff, not_true_eq_false, eq_self]) | ((repeat ((fail_if_success with_reducible refine hK _ _ ?_); clear hK K)); (with_reducible refine hK _ _ ?_); clear hK K)))
  refine (bforms_c h3).mono ?_
  rintro v w11 ⟨rfl, rfl⟩
  (repeat (first | (with_reducible first | (refine hK _ _ ?_; clear hK K) | refine (show ∀ σ' w', _ → K σ' w' from by assumption) _ _ ?_ | refine W_seq_k fun K hK => ?_ | refine W_block_k fun K hK => ?_ | refine W_skip ?_ | refine W_ret ?_) | ((first | ((with_reducible refine W_id ?_); refine W_reg (by decide) (by rfl) ?_) | (with_reducible first | refine W_cond ?_ | refine hZ _ _ ?_ | refine W_exit ?_ | refine Wo_id ?_) | skip); repeat1' simp only [push_cast, seval, -Nat.reduceSubDiff]) | ((repeat ((fail_if_success with_reducible refine hK _ _ ?_); clear hK K)); (with_reducible refine hK _ _ ?_); clear hK K)))
  refine (bfpush_c h3 c3 3).mono ?_
  rintro v w12 ⟨rfl, h4, _⟩
  replace h4 : BuAt w6 w12 noP pb ps pl pa gc4 := h4
  rw [g_6]
  (repeat (first | (with_reducible first | (refine hK _ _ ?_; clear hK K) | refine (show ∀ σ' w', _ → K σ' w' from by assumption) _ _ ?_ | refine W_seq_k fun K hK => ?_ | refine W_block_k fun K hK => ?_ | refine W_skip ?_ | refine W_ret ?_) | ((first | ((with_reducible refine W_id ?_); refine W_reg (by decide) (by rfl) ?_) | (with_reducible first | refine W_cond ?_ | refine hZ _ _ ?_ | refine W_exit ?_ | refine Wo_id ?_) | skip); repeat1' simp only [push_cast, seval, -Nat.reduceSubDiff, not_true_eq_false, eq_self]) | ((repeat ((fail_if_success with_reducible refine hK _ _ ?_); clear hK K)); (with_reducible refine hK _ _ ?_); clear hK K)))
  refine (bstack_c h4).mono ?_
  rintro v w13 ⟨rfl, rfl⟩
  (repeat (first | (with_reducible first | (refine hK _ _ ?_; clear hK K) | refine (show ∀ σ' w', _ → K σ' w' from by assumption) _ _ ?_ | refine W_seq_k fun K hK => ?_ | refine W_block_k fun K hK => ?_ | refine W_skip ?_ | refine W_ret ?_) | ((first | ((with_reducible refine W_id ?_); refine W_reg (by decide) (by rfl) ?_) | (with_reducible first | refine W_cond ?_ | refine hZ _ _ ?_ | refine W_exit ?_ | refine Wo_id ?_) | skip); repeat1' simp only [push_cast, seval, -Nat.reduceSubDiff]) | ((repeat ((fail_if_success with_reducible refine hK _ _ ?_); clear hK K)); (with_reducible refine hK _ _ ?_); clear hK K)))
  refine (bpop_c h4 c4).mono ?_
  rintro v w14 ⟨rfl, h5, _⟩
  replace h5 : BuAt w6 w14 noP pb ps pl pa gc5 := h5
  rw [g_7]
  (repeat (first | (with_reducible first | (refine hK _ _ ?_; clear hK K) | refine (show ∀ σ' w', _ → K σ' w' from by assumption) _ _ ?_ | refine W_seq_k fun K hK => ?_ | refine W_block_k fun K hK => ?_ | refine W_skip ?_ | refine W_ret ?_) | ((first | ((with_reducible refine W_id ?_); refine W_reg (by decide) (by rfl) ?_) | (with_reducible first | refine W_cond ?_ | refine hZ _ _ ?_ | refine W_exit ?_ | refine Wo_id ?_) | skip); repeat1' simp only [push_cast, seval, -Nat.reduceSubDiff, not_true_eq_false, eq_self]) | ((repeat ((fail_if_success with_reducible refine hK _ _ ?_); clear hK K)); (with_reducible refine hK _ _ ?_); clear hK K)))
  refine (brebuild_c h5 c5 c5j nP).mono ?_
  rintro v w15 ⟨h6, _⟩
  replace h6 : BuAt w6 w15 noP pb ps pl pa gc6 := h6
  (repeat (first | (with_reducible first | (refine hK _ _ ?_; clear hK K) | refine (show ∀ σ' w', _ → K σ' w' from by assumption) _ _ ?_ | refine W_seq_k fun K hK => ?_ | refine W_block_k fun K hK => ?_ | refine W_skip ?_ | refine W_ret ?_) | ((first | ((with_reducible refine W_id ?_); refine W_reg (by decide) (by rfl) ?_) | (with_reducible first | refine W_cond ?_ | refine hZ _ _ ?_ | refine W_exit ?_ | refine Wo_id ?_) | skip); repeat1' simp only [push_cast, seval, -Nat.reduceSubDiff]) | ((repeat ((fail_if_success with_reducible refine hK _ _ ?_); clear hK K)); (with_reducible refine hK _ _ ?_); clear hK K)))
  refine (bforms_c h6).mono ?_
  rintro v w16 ⟨rfl, rfl⟩
  (repeat (first | (with_reducible first | (refine hK _ _ ?_; clear hK K) | refine (show ∀ σ' w', _ → K σ' w' from by assumption) _ _ ?_ | refine W_seq_k fun K hK => ?_ | refine W_block_k fun K hK => ?_ | refine W_skip ?_ | refine W_ret ?_) | ((first | ((with_reducible refine W_id ?_); refine W_reg (by decide) (by rfl) ?_) | (with_reducible first | refine W_cond ?_ | refine hZ _ _ ?_ | refine W_exit ?_ | refine Wo_id ?_) | skip); repeat1' simp only [push_cast, seval, -Nat.reduceSubDiff]) | ((repeat ((fail_if_success with_reducible refine hK _ _ ?_); clear hK K)); (with_reducible refine hK _ _ ?_); clear hK K)))
  refine (bfat_c h6 0).mono ?_
  rintro v w17 ⟨rfl, hx⟩
  have h7 := h6.pass hx
  rw [g_8, g_9]
  (repeat (first | (with_reducible first | (refine hK _ _ ?_; clear hK K) | refine (show ∀ σ' w', _ → K σ' w' from by assumption) _ _ ?_ | refine W_seq_k fun K hK => ?_ | refine W_block_k fun K hK => ?_ | refine W_skip ?_ | refine W_ret ?_) | ((first | ((with_reducible refine W_id ?_); refine W_reg (by decide) (by rfl) ?_) | (with_reducible first | refine W_cond ?_ | refine hZ _ _ ?_ | refine W_exit ?_ | refine Wo_id ?_) | skip); repeat1' simp only [push_cast, seval, -Nat.reduceSubDiff, ext0, ext1]) | ((repeat ((fail_if_success with_reducible refine hK _ _ ?_); clear hK K)); (with_reducible refine hK _ _ ?_); clear hK K)))
  have hw17 := hw6.trans h7.out
  clear h0 h1 h2 h3 h4 h5 h6 h7 hx hw6
  have hg17 := hg.ext hw17
  refine bnew_c.mono ?_
  rintro v w18 ⟨pb, ps, pl, pa, rfl, h0⟩
  (repeat (first | (with_reducible first | (refine hK _ _ ?_; clear hK K) | refine (show ∀ σ' w', _ → K σ' w' from by assumption) _ _ ?_ | refine W_seq_k fun K hK => ?_ | refine W_block_k fun K hK => ?_ | refine W_skip ?_ | refine W_ret ?_) | ((first | ((with_reducible refine W_id ?_); refine W_reg (by decide) (by rfl) ?_) | (with_reducible first | refine W_cond ?_ | refine hZ _ _ ?_ | refine W_exit ?_ | refine Wo_id ?_) | skip); repeat1' simp only [push_cast, seval, -Nat.reduceSubDiff]) | ((repeat ((fail_if_success with_reducible refine hK _ _ ?_); clear hK K)); (with_reducible refine hK _ _ ?_); clear hK K)))
  refine (bimply_c h0 k0 j0 nP _).mono ?_
  rintro v w19 ⟨rfl, h1, _⟩
  replace h1 : BuAt w17 w19 noP pb ps pl pa gb1 := h1
  (repeat (first | (with_reducible first | (refine hK _ _ ?_; clear hK K) | refine (show ∀ σ' w', _ → K σ' w' from by assumption) _ _ ?_ | refine W_seq_k fun K hK => ?_ | refine W_block_k fun K hK => ?_ | refine W_skip ?_ | refine W_ret ?_) | ((first | ((with_reducible refine W_id ?_); refine W_reg (by decide) (by rfl) ?_) | (with_reducible first | refine W_cond ?_ | refine hZ _ _ ?_ | refine W_exit ?_ | refine Wo_id ?_) | skip); repeat1' simp only [push_cast, seval, -Nat.reduceSubDiff]) | ((repeat ((fail_if_success with_reducible refine hK _ _ ?_); clear hK K)); (with_reducible refine hK _ _ ?_); clear hK K)))
  refine (bimply_c h1 k1 j1 nP _).mono ?_
  rintro v w20 ⟨rfl, h2, _⟩
  replace h2 : BuAt w17 w20 noP pb ps pl pa gd2 := h2
  (repeat (first | (with_reducible first | (refine hK _ _ ?_; clear hK K) | refine (show ∀ σ' w', _ → K σ' w' from by assumption) _ _ ?_ | refine W_seq_k fun K hK => ?_ | refine W_block_k fun K hK => ?_ | refine W_skip ?_ | refine W_ret ?_) | ((first | ((with_reducible refine W_id ?_); refine W_reg (by decide) (by rfl) ?_) | (with_reducible first | refine W_cond ?_ | refine hZ _ _ ?_ | refine W_exit ?_ | refine Wo_id ?_) | skip); repeat1' simp only [push_cast, seval, -Nat.reduceSubDiff]) | ((repeat ((fail_if_success with_reducible refine hK _ _ ?_); clear hK K)); (with_reducible refine hK _ _ ?_); clear hK K)))
  refine (breset_c h2 d2 hg17 d2n d2m).mono ?_
  rintro v w21 ⟨h3, _⟩
  replace h3 : BuAt w17 w21 noP pb ps pl pa gd3 := h3
  (repeat (first | (with_reducible first | (refine hK _ _ ?_; clear hK K) | refine (show ∀ σ' w', _ → K σ' w' from by assumption) _ _ ?_ | refine W_seq_k fun K hK => ?_ | refine W_block_k fun K hK => ?_ | refine W_skip ?_ | refine W_ret ?_) | ((first | ((with_reducible refine W_id ?_); refine W_reg (by decide) (by rfl) ?_) | (with_reducible first | refine W_cond ?_ | refine hZ _ _ ?_ | refine W_exit ?_ | refine Wo_id ?_) | skip); repeat1' simp only [push_cast, seval, -Nat.reduceSubDiff]) | ((repeat ((fail_if_success with_reducible refine hK _ _ ?_); clear hK K)); (with_reducible refine hK _ _ ?_); clear hK K)))
  refine (bmode_c h3).mono ?_
  rintro v w22 ⟨rfl, rfl⟩
  rw [g_10]
  (repeat (first | (with_reducible first | (refine hK _ _ ?_; clear hK K) | refine (show ∀ σ' w', _ → K σ' w' from by assumption) _ _ ?_ | refine W_seq_k fun K hK => ?_ | refine W_block_k fun K hK => ?_ | refine W_skip ?_ | refine W_ret ?_) | ((first | ((with_reducible refine W_id ?_); refine W_reg (by decide) (by rfl) ?_) | (with_reducible first | refine W_cond ?_ | refine hZ _ _ ?_ | refine W_exit ?_ | refine Wo_id ?_) | skip); repeat1' simp only [push_cast, seval, -Nat.reduceSubDiff]) | ((repeat ((fail_if_success with_reducible refine hK _ _ ?_); clear hK K)); (with_reducible refine hK _ _ ?_); clear hK K)))
  refine (bimply_c h3 d3 d3j nP _).mono ?_
  rintro v w23 ⟨rfl, h4, _⟩
  replace h4 : BuAt w17 w23 noP pb ps pl pa gd4 := h4
  (repeat (first | (with_reducible first | (refine hK _ _ ?_; clear hK K) | refine (show ∀ σ' w', _ → K σ' w' from by assumption) _ _ ?_ | refine W_seq_k fun K hK => ?_ | refine W_block_k fun K hK => ?_ | refine W_skip ?_ | refine W_ret ?_) | ((first | ((with_reducible refine W_id ?_); refine W_reg (by decide) (by rfl) ?_) | (with_reducible first | refine W_cond ?_ | refine hZ _ _ ?_ | refine W_exit ?_ | refine Wo_id ?_) | skip); repeat1' simp only [push_cast, seval, -Nat.reduceSubDiff]) | ((repeat ((fail_if_success with_reducible refine hK _ _ ?_); clear hK K)); (with_reducible refine hK _ _ ?_); clear hK K)))
  refine (breset_c h4 d4 hg17 d4n d4m).mono ?_
  rintro v w24 ⟨h5, _⟩
  replace h5 : BuAt w17 w24 noP pb ps pl pa gd5 := h5
  (repeat (first | (with_reducible first | (refine hK _ _ ?_; clear hK K) | refine (show ∀ σ' w', _ → K σ' w' from by assumption) _ _ ?_ | refine W_seq_k fun K hK => ?_ | refine W_block_k fun K hK => ?_ | refine W_skip ?_ | refine W_ret ?_) | ((first | ((with_reducible refine W_id ?_); refine W_reg (by decide) (by rfl) ?_) | (with_reducible first | refine W_cond ?_ | refine hZ _ _ ?_ | refine W_exit ?_ | refine Wo_id ?_) | skip); repeat1' simp only [push_cast, seval, -Nat.reduceSubDiff, not_true_eq_false, eq_self, not_false_eq_true]) | ((repeat ((fail_if_success with_reducible refine hK _ _ ?_); clear hK K)); (with_reducible refine hK _ _ ?_); clear hK K)))
  refine (bmode_c h5).mono ?_
  rintro v w25 ⟨rfl, rfl⟩
  rw [g_11]
  (repeat (first | (with_reducible first | (refine hK _ _ ?_; clear hK K) | refine (show ∀ σ' w', _ → K σ' w' from by assumption) _ _ ?_ | refine W_seq_k fun K hK => ?_ | refine W_block_k fun K hK => ?_ | refine W_skip ?_ | refine W_ret ?_) | ((first | ((with_reducible refine W_id ?_); refine W_reg (by decide) (by rfl) ?_) | (with_reducible first | refine W_cond ?_ | refine hZ _ _ ?_ | refine W_exit ?_ | refine Wo_id ?_) | skip); repeat1' simp only [push_cast, seval, -Nat.reduceSubDiff, not_true_eq_false, eq_self, not_false_eq_true]) | ((repeat ((fail_if_success with_reducible refine hK _ _ ?_); clear hK K)); (with_reducible refine hK _ _ ?_); clear hK K)))
  refine (berr0_c h5 g_12).mono ?_
  rintro v w26 ⟨rfl, hx⟩
  have h6 := h5.pass hx
  (repeat (first | (with_reducible first | (refine hK _ _ ?_; clear hK K) | refine (show ∀ σ' w', _ → K σ' w' from by assumption) _ _ ?_ | refine W_seq_k fun K hK => ?_ | refine W_block_k fun K hK => ?_ | refine W_skip ?_ | refine W_ret ?_) | ((first | ((with_reducible refine W_id ?_); refine W_reg (by decide) (by rfl) ?_) | (with_reducible first | refine W_cond ?_ | refine hZ _ _ ?_ | refine W_exit ?_ | refine Wo_id ?_) | skip); repeat1' simp only [push_cast, seval, -Nat.reduceSubDiff, not_true_eq_false, eq_self, not_false_eq_true]) | ((repeat ((fail_if_success with_reducible refine hK _ _ ?_); clear hK K)); (with_reducible refine hK _ _ ?_); clear hK K)))
  exact hw17.trans h6.out
end Go.Proofs.YtgnnlaeikcnhcaaGreatDoor
end
