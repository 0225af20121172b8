/- What the proof leans on, part 8 of 10. -/
import Derived.Test.YtgnnlaeikcnhcaaGreatDoorQAdoptTextsG
section
set_option linter.unusedSimpArgs false
set_option linter.unusedVariables false
namespace Go.Vk
open Go
def rsNames : List ByteArray := [⟨#[100, 105, 118]⟩, ⟨#[112]⟩, ⟨#[116, 100]⟩, ⟨#[116, 104]⟩, ⟨#[116, 114]⟩, ⟨#[116, 98, 111, 100, 121]⟩, ⟨#[116, 104, 101, 97, 100]⟩, ⟨#[116, 102, 111, 111, 116]⟩, ⟨#[99, 97, 112, 116, 105, 111, 110]⟩, ⟨#[99, 111, 108, 103, 114, 111, 117, 112]⟩, ⟨#[116, 97, 98, 108, 101]⟩, ⟨#[104, 101, 97, 100]⟩, ⟨#[98, 111, 100, 121]⟩, ⟨#[115, 118, 103]⟩]
def rsName (k : Nat) : ByteArray := rsNames.getD k ⟨#[]⟩
def rsSp (k : Nat) : Int := if k = 13 then 1 else 0
def rsTok (k : Nat) : HTok := ⟨2, rsName k, ⟨#[]⟩, [], false, false, false, 0, 0⟩
def rsNd (k : Nat) : Nd := elTok (rsTok k) (rsSp k)
def rsHtml : Nd := bareN (elTok (tokI sHtml) 0)
structure Rsv (ks : List Nat) (b : BSt) : Prop where
  reg : Reg b (rsHtml :: ks.map fun k => bareN (rsNd k))
  s : b.s = (List.range (ks.length + 1)).map fun j => ⟨(j : Int) + 1, ((rsHtml :: ks.map fun k => bareN (rsNd k)).getD j zN).space, ((rsHtml :: ks.map fun k => bareN (rsNd k)).getD j zN).name⟩
  head : b.head = -1
  modes : b.modes = []
  at_ : Att b.L
  l : b.l = []
  doc : (gN b.L 0).name.size < 4294967281
theorem rs_nt (k : Nat) (hk : k < 14) : rsName k ≠ tmpl ∧ (rsName k).size < 20 := by
  have : ∀ k, k < 14 → rsName k ≠ tmpl ∧ (rsName k).size < 20 := by decide +kernel
  exact this k hk
theorem Rsv.ins {ks : List Nat} {b : BSt} (h : Rsv ks b) {k : Nat} (hk : k < 14) (hl : ks.length < 100) : Rsv (ks ++ [k]) (insertB b (rsNd k)).1 ∧ (insertB b (rsNd k)).2 = (ks.length : Int) + 2 := by
  have hlen := h.reg.len
  rw [List.length_cons, List.length_map] at hlen
  have hsl : b.s.length = ks.length + 1 := by rw [h.s]; simp
  obtain ⟨e, r, hG⟩ := h.reg.ins (n := rsNd k) (by omega) rfl (rs_nt k hk).1
  rw [e]
  refine ⟨⟨?_, ?_, h.head, h.modes, insR_att h.at_ (by exact (by decide : (0 : Nat) < 1000000)), h.l, ?_⟩, by dsimp only; omega⟩
  · have : (rsHtml :: List.map (fun k => bareN (rsNd k)) (ks ++ [k])) = (rsHtml :: List.map (fun k => bareN (rsNd k)) ks) ++ [bareN (rsNd k)] := by simp
    rw [this]; exact r
  · show b.s ++ [_] = _
    have e2 : (rsHtml :: List.map (fun k => bareN (rsNd k)) (ks ++ [k])) = (rsHtml :: List.map (fun k => bareN (rsNd k)) ks) ++ [bareN (rsNd k)] := by simp
    rw [e2, List.length_append, List.length_singleton, List.range_succ, List.map_append, h.s]
    congr 1
    · apply List.map_congr_left
      intro j hj
      rw [List.mem_range] at hj
      rw [List.getD_eq_getElem?_getD, List.getD_eq_getElem?_getD, List.getElem?_append_left (by simp; omega)]
    · have e3 : ((rsHtml :: List.map (fun k => bareN (rsNd k)) ks) ++ [bareN (rsNd k)]).getD (ks.length + 1) zN = bareN (rsNd k) := by
        rw [List.getD_eq_getElem?_getD, List.getElem?_append_right (by simp)]; simp
      rw [List.map_singleton, e3]
      have : (b.L.length : Int) = ((ks.length + 1 : Nat) : Int) + 1 := by omega
      rw [this]; rfl
  · have h0 := hG 0
    rw [if_neg (by omega)] at h0
    show (gN (insR b (rsNd k)).L 0).name.size < _
    rw [h0]
    split
    · exact h.doc
    · exact h.doc
end Go.Vk
end
section
set_option linter.unusedSimpArgs false
set_option linter.unusedVariables false
namespace Go.Proofs.YtgnnlaeikcnhcaaGreatDoor
open Go Go.Vk
theorem rd_str {w : World} {b n : Nat} {l : List ByteArray} (h : RdAt w 1 (.slice (some ⟨b, 0, none⟩) n n) (strCells l)) {w' : World} (hx : Ext w w') {k : Nat} {x : ByteArray} (hk : l[k]? = some x) : w'.cell? ⟨b, k, none⟩ = some (.string x) := by
  obtain ⟨a, c, e, _, hc⟩ := str_len h
  obtain ⟨b', o, e2, h2⟩ := hc k x hk
  cases e
  cases e2
  rw [Nat.zero_add] at h2
  exact cell_ext hx h2
set_option maxHeartbeats 40000000
end Go.Proofs.YtgnnlaeikcnhcaaGreatDoor
end
section
set_option linter.unusedSimpArgs false
set_option linter.unusedVariables false
namespace Go.Proofs.YtgnnlaeikcnhcaaGreatDoor
open Go Go.Vk
section
variable {w0 w : World} {Q : Nat → Prop} {pb ps pl pa : Nat} {b : BSt}
theorem bsrem_c (h : BuAt w0 w Q pb ps pl pa b) (hb : okB b) (i : Int) : Gives Tryz.prog 206 #[.pointer (some ⟨ps, 0, none⟩), .int .i64 i] w fun v w' => v = .int .i64 (remS b.s i).2 ∧ BuAt w0 w' Q pb ps pl pa { b with s := (remS b.s i).1 } ∧ Upd (AF w0 Q) w w' := by
  obtain ⟨P, hS, hback⟩ := h.stk
  refine (srem_c hS hb.s i).mono ?_
  rintro v w' ⟨rfl, g1, g2⟩
  exact ⟨rfl, hback _ _ _ g1 g2⟩
theorem bsrepl_c (h : BuAt w0 w Q pb ps pl pa b) (hb : okB b) (k i : Int) : Gives Tryz.prog 208 #[.pointer (some ⟨ps, 0, none⟩), .int .i64 k, .int .i64 i] w fun v w' => v = .int .i64 (replS b.L b.s k i).2 ∧ BuAt w0 w' Q pb ps pl pa { b with s := (replS b.L b.s k i).1 } ∧ Upd (AF w0 Q) w w' := by
  obtain ⟨P, hS, hback⟩ := h.stk
  have := hb.L
  refine (srep_c hS (by omega) hb.at_ hb.s k i).mono ?_
  rintro v w' ⟨rfl, g1, g2⟩
  exact ⟨rfl, hback _ _ _ g1 g2⟩
theorem bsins_c (h : BuAt w0 w Q pb ps pl pa b) (hb : okB b) (k i : Int) : Gives Tryz.prog 149 #[.pointer (some ⟨ps, 0, none⟩), .int .i64 k, .int .i64 i] w fun v w' => v = .int .i64 (insS b.L b.s k i).2 ∧ BuAt w0 w' Q pb ps pl pa { b with s := (insS b.L b.s k i).1 } ∧ Upd (AF w0 Q) w w' := by
  obtain ⟨P, hS, hback⟩ := h.stk
  have := hb.L
  refine (sins_c hS (by omega) hb.at_ hb.s k i).mono ?_
  rintro v w' ⟨rfl, g1, g2⟩
  exact ⟨rfl, hback _ _ _ g1 g2⟩
theorem bhasn_c (h : BuAt w0 w Q pb ps pl pa b) (hb : okB b) (hg : GL w0) (hz : ∀ o ∈ b.s, o.name.size < 4294967281) (which i : Int) :
    Gives Tryz.prog 164 #[.pointer (some ⟨ps, 0, none⟩), .int .i64 which, .int .i64 i] w fun v w' => v = .bool ((scp (scE which) b.s b.s.length).any fun o => decide (o.node = i)) ∧ Ext w w' := by
  obtain ⟨P, hS, _⟩ := h.stk
  exact hasn_s hS hg hb.s hz which i
theorem bfrem_c (h : BuAt w0 w Q pb ps pl pa b) (hb : okB b) (i : Int) : Gives Tryz.prog 163 #[.pointer (some ⟨pl, 0, none⟩), .int .i64 i] w fun v w' => v = .int .i64 (removeN b.l i).2 ∧ BuAt w0 w' Q pb ps pl pa { b with l := (removeN b.l i).1 } ∧ Upd (AF w0 Q) w w' := by
  obtain ⟨P, hF, hback⟩ := h.fmt
  refine (remove_c hF hb.l i).mono ?_
  rintro v w' ⟨rfl, g1, g2⟩
  exact ⟨rfl, hback _ _ _ g1 g2⟩
theorem bfins_c (h : BuAt w0 w Q pb ps pl pa b) (hb : okB b) (k i : Int) : Gives Tryz.prog 210 #[.pointer (some ⟨pl, 0, none⟩), .int .i64 k, .int .i64 i] w fun v w' => v = .int .i64 (insertL b.L b.l k i).2 ∧ BuAt w0 w' Q pb ps pl pa { b with l := (insertL b.L b.l k i).1 } ∧ Upd (AF w0 Q) w w' := by
  obtain ⟨P, hF, hback⟩ := h.fmt
  have := hb.L
  refine (insertl_c hF (by omega) hb.at_ hb.l k i).mono ?_
  rintro v w' ⟨rfl, g1, g2⟩
  exact ⟨rfl, hback _ _ _ g1 g2⟩
theorem bfindex_c (h : BuAt w0 w Q pb ps pl pa b) (hb : okB b) (i : Int) : Gives Tryz.prog 54 #[.pointer (some ⟨pl, 0, none⟩), .int .i64 i] w fun v w' => v = .int .i64 (indexN b.l i) ∧ Ext w w' := by
  obtain ⟨P, ⟨lv, bo, hF, _⟩, _⟩ := h.fmt
  have := hb.l
  exact findex_c hF (by omega) i
theorem bflast_c (h : BuAt w0 w Q pb ps pl pa b) (hb : okB b) (x : ByteArray) : Gives Tryz.prog 162 #[.pointer (some ⟨pl, 0, none⟩), .string x] w fun v w' => v = .int .i64 (lastName b.L b.l x) ∧ Ext w w' := by
  obtain ⟨P, hF, _⟩ := h.fmt
  have := hb.L
  exact flast_c hF (by omega) hb.at_ hb.l x
theorem bappend_c (h : BuAt w0 w Q pb ps pl pa b) (hb : okB b) (p i : Int) : Gives Tryz.prog 132 #[.pointer (some ⟨pa, 0, none⟩), .int .i64 p, .int .i64 i] w fun v w' => v = .int .i64 (appendN b.L p i).2 ∧ BuAt w0 w' Q pb ps pl pa { b with L := (appendN b.L p i).1 } ∧ Upd (AF w0 Q) w w' := by
  obtain ⟨P, hA, hback⟩ := h.ar
  have := hb.L
  refine (append_a hA (by omega) p i).mono ?_
  rintro v w' ⟨rfl, g1, g2⟩
  exact ⟨rfl, hback _ _ g1 g2⟩
theorem bmove_c (h : BuAt w0 w Q pb ps pl pa b) (hb : okB b) (p i : Int) : Gives Tryz.prog 209 #[.pointer (some ⟨pa, 0, none⟩), .int .i64 p, .int .i64 i] w fun v w' => v = .int .i64 (moveN b.L p i).2 ∧ BuAt w0 w' Q pb ps pl pa { b with L := (moveN b.L p i).1 } ∧ Upd (AF w0 Q) w w' := by
  obtain ⟨P, hA, hback⟩ := h.ar
  have := hb.L
  refine (move_a hA (by omega) p i).mono ?_
  rintro v w' ⟨rfl, g1, g2⟩
  exact ⟨rfl, hback _ _ g1 g2⟩
end
set_option maxHeartbeats 40000000
section
variable {w0 w : World} {Q : Nat → Prop} {pb ps pl pa : Nat} {b : BSt}
theorem anode_c (h : BuAt w0 w Q pb ps pl pa b) (hb : okB b) (i : Int) : Gives Tryz.prog 121 #[.pointer (some ⟨pb, 0, none⟩), .int .i64 i] w fun v w' => ∃ m : Laid, v = m.val ∧ m.nd = nodeN b.L i ∧ m.ok w' ∧ Ext w w' ∧ ∀ q ∈ m.blks, w.heap.size ≤ q := by
  refine Gives.of_W Tryz.call121 Tryz.func121 rfl Tryz.ntmps121 (by simp) ?_; intro Z hZ
  (repeat first|(with_reducible first|(refine hK _ _ ?_;clear hK K)|refine ‹∀σ w,_→K σ w› _ _ ?_|(refine W_st ?_;constructor;try intro K hK))|((with_reducible first|refine hZ _ _ ?_|refine W_rg ?_|skip);repeat1' simp only[push_cast,seval,-Nat.reduceSubDiff,vcells_agg,RunV_zero Tryz.zeroValue46])|((repeat((fail_if_success with_reducible refine hK _ _ ?_);clear hK K));with_reducible refine hK _ _ ?_;clear hK K))
  have hx1 := Ext.alloc w (.cells #[.int .i64 0, .string ⟨#[]⟩, .string ⟨#[]⟩, .int .i64 0, .slice none 0 0, .bool false, .int .i64 0, .int .i64 0, .slice none 0 0, .int .i64 0, .int .i64 0] 46)
  have z1 : (w.alloc (.cells #[.int .i64 0, .string ⟨#[]⟩, .string ⟨#[]⟩, .int .i64 0, .slice none 0 0, .bool false, .int .i64 0, .int .i64 0, .slice none 0 0, .int .i64 0, .int .i64 0] 46)).heap[w.heap.size]? = some (.cells #[.int .i64 0, .string ⟨#[]⟩, .string ⟨#[]⟩, .int .i64 0, .slice none 0 0, .bool false, .int .i64 0, .int .i64 0, .slice none 0 0, .int .i64 0, .int .i64 0] 46 (0, 0)) := by rw [heap_alloc_h, if_pos rfl]
  generalize w.alloc (.cells #[.int .i64 0, .string ⟨#[]⟩, .string ⟨#[]⟩, .int .i64 0, .slice none 0 0, .bool false, .int .i64 0, .int .i64 0, .slice none 0 0, .int .i64 0, .int .i64 0] 46) = w1 at *
  obtain ⟨p, hpe⟩ : ∃ p, p = w.heap.size := ⟨_, rfl⟩
  rw [← hpe] at z1 ⊢
  have h1 := h.pass hx1
  refine (barena_c h1).mono ?_
  rintro v w2 ⟨rfl, rfl⟩
  (repeat first|(with_reducible first|(refine hK _ _ ?_;clear hK K)|refine ‹∀σ w,_→K σ w› _ _ ?_|(refine W_st ?_;constructor;try intro K hK))|((with_reducible first|refine hZ _ _ ?_|refine W_rg ?_|skip);repeat1' simp only[push_cast,seval,-Nat.reduceSubDiff])|((repeat((fail_if_success with_reducible refine hK _ _ ?_);clear hK K));with_reducible refine hK _ _ ?_;clear hK K))
  refine (bnode_c h1 hb i).mono ?_
  rintro v w3 ⟨m, rfl, hm, hok, hx3, hbk⟩
  have z3 := hx3.blk z1
  obtain ⟨xa, xn, xc, exa, _⟩ := hok.attrs.len
  obtain ⟨ya, yn, yc, eya, _⟩ := hok.kids.len
  have ev : m.val = .agg #[.int .i64 m.nd.kind, .string m.nd.name, .string m.nd.text, .int .i64 m.nd.space, .slice xa xn xc, .bool m.nd.dup, .int .i64 m.nd.parent, .int .i64 m.nd.content, .slice ya yn yc, .int .i64 m.nd.frm, .int .i64 m.nd.to] := by rw [Laid.val_eq, exa, eya]
  rw [ev]
  have hz3 := hx3.alike.size
  have hx03 := hx1.trans hx3
  have up : Upd (fun q => q = p) w3 (setCells w3 ⟨p, 0, none⟩ [.int .i64 m.nd.kind, .string m.nd.name, .string m.nd.text, .int .i64 m.nd.space, .slice xa xn xc, .bool m.nd.dup, .int .i64 m.nd.parent, .int .i64 m.nd.content, .slice ya yn yc, .int .i64 m.nd.frm, .int .i64 m.nd.to] 0) := Upd.setCells (F := fun q => q = p) (a := ⟨p, 0, none⟩) w3 rfl _ 0
  have hp4 := setCells_all z3 (l := [.int .i64 m.nd.kind, .string m.nd.name, .string m.nd.text, .int .i64 m.nd.space, .slice xa xn xc, .bool m.nd.dup, .int .i64 m.nd.parent, .int .i64 m.nd.content, .slice ya yn yc, .int .i64 m.nd.frm, .int .i64 m.nd.to]) rfl
  have hx4 : Ext w (setCells w3 ⟨p, 0, none⟩ [.int .i64 m.nd.kind, .string m.nd.name, .string m.nd.text, .int .i64 m.nd.space, .slice xa xn xc, .bool m.nd.dup, .int .i64 m.nd.parent, .int .i64 m.nd.content, .slice ya yn yc, .int .i64 m.nd.frm, .int .i64 m.nd.to] 0) := Upd.trans hx03 up fun q hq e => by omega
  have hp1 : p < w2.heap.size := blk_lt z1
  have hok4 := hok.upd up fun q hq e => by have := hbk q hq; omega
  (repeat simp only [push_cast, seval, -Nat.reduceSubDiff, can_h, z3, canO_cells])
  generalize setCells w3 ⟨p, 0, none⟩ [.int .i64 m.nd.kind, .string m.nd.name, .string m.nd.text, .int .i64 m.nd.space, .slice xa xn xc, .bool m.nd.dup, .int .i64 m.nd.parent, .int .i64 m.nd.content, .slice ya yn yc, .int .i64 m.nd.frm, .int .i64 m.nd.to] 0 = w4 at *
  (repeat first|(with_reducible first|(refine hK _ _ ?_;clear hK K)|refine ‹∀σ w,_→K σ w› _ _ ?_|(refine W_st ?_;constructor;try intro K hK))|((with_reducible first|refine hZ _ _ ?_|refine W_rg ?_|skip);repeat1' simp only[push_cast,seval,-Nat.reduceSubDiff,cell_h,cellO_cells,hp4])|((repeat((fail_if_success with_reducible refine hK _ _ ?_);clear hK K));with_reducible refine hK _ _ ?_;clear hK K))
  exact ⟨m, ev.symm, hm, hok4, hx4, fun q hq => by have := hbk q hq; have := hx1.sz; omega⟩
end
end Go.Proofs.YtgnnlaeikcnhcaaGreatDoor
end
section
set_option linter.unusedSimpArgs false
set_option linter.unusedVariables false
namespace Go.Proofs.YtgnnlaeikcnhcaaGreatDoor
open Go Go.Vk
set_option maxHeartbeats 40000000
section
variable {w0 w : World} {Q : Nat → Prop} {pb ps pl pa : Nat} {b : BSt}
theorem furthest_c (h : BuAt w0 w Q pb ps pl pa b) (hb : okB b) (hm : MaxAt w0) (hz : Nms b.L) (k : Nat) (hk : k < b.s.length) : Gives Tryz.prog 165 #[.pointer (some ⟨pb, 0, none⟩), .int .i64 (k : Int)] w fun v w' => v = .int .i64 (furB b k) ∧ Ext w w' := by
  have hs := hb.s
  have c1 : inI64 ((k : Int) + 1) := by unfold inI64; omega
  obtain ⟨r, hr⟩ : ∃ r, r = furB b k := ⟨_, rfl⟩
  rw [← hr]
  unfold furB at hr
  refine Gives.of_W Tryz.call165 Tryz.func165 rfl Tryz.ntmps165 (by simp) ?_; intro Z hZ
  (repeat first|(with_reducible first|(refine hK _ _ ?_;clear hK K)|refine ‹∀σ w,_→K σ w› _ _ ?_|(refine W_st ?_;constructor;try intro K hK))|((with_reducible first|refine hZ _ _ ?_|refine W_rg ?_|skip);repeat1' simp only[push_cast,seval,-Nat.reduceSubDiff])|((repeat((fail_if_success with_reducible refine hK _ _ ?_);clear hK K));with_reducible refine hK _ _ ?_;clear hK K))
  refine (bstack_c h).mono ?_
  rintro v w' ⟨rfl, rfl⟩
  (repeat first|(with_reducible first|(refine hK _ _ ?_;clear hK K)|refine ‹∀σ w,_→K σ w› _ _ ?_|(refine W_st ?_;constructor;try intro K hK))|((with_reducible first|refine hZ _ _ ?_|refine W_rg ?_|skip);repeat1' simp only[push_cast,seval,-Nat.reduceSubDiff,c1])|((repeat((fail_if_success with_reducible refine hK _ _ ?_);clear hK K));with_reducible refine hK _ _ ?_;clear hK K))
  refine W_loop (S := Nat) (fun j => [(0, .pointer (some ⟨pb, 0, none⟩)), (5, .pointer (some ⟨ps, 0, none⟩)), (6, .int .i64 (j : Int))])
    (fun j w2 => k + 1 ≤ j ∧ j ≤ b.s.length ∧ r = furN b (b.s.length - j) j ∧ Ext w' w2) (fun j => b.s.length - j) (k + 1) ?_ ?_ ?_
  · (repeat simp only [push_cast, seval, -Nat.reduceSubDiff])
  · exact ⟨Nat.le_refl _, by omega, hr, Ext.refl _⟩
  rintro j w2 ⟨hj1, hj2, he, hx2⟩
  have h2 := h.pass hx2
  by_cases hjl : j < b.s.length
  · have b0 : (j : Int) < (b.s.length : Int) := by omega
    have b1 : (0 : Int) ≤ (j : Int) := by omega
    have b2 : inI64 ((j : Int) + 1) := by unfold inI64; omega
    have hfu : b.s.length - j = (b.s.length - (j + 1)) + 1 := by omega
    rw [hfu, furN] at he
    have eA : atS b.s (j : Int) = (b.s.getD j zS).node := by
      unfold atS
      rw [if_pos ⟨b1, by omega⟩, Int.toNat_natCast]
    (repeat first|(with_reducible first|(refine hK _ _ ?_;clear hK K)|refine ‹∀σ w,_→K σ w› _ _ ?_|(refine W_st ?_;constructor;try intro K hK))|((with_reducible first|refine hZ _ _ ?_|refine W_rg ?_|skip);repeat1' simp only[push_cast,seval,-Nat.reduceSubDiff])|((repeat((fail_if_success with_reducible refine hK _ _ ?_);clear hK K));with_reducible refine hK _ _ ?_;clear hK K))
    refine (bslen_c h2).mono ?_
    rintro v w3 ⟨rfl, rfl⟩
    (repeat first|(with_reducible first|(refine hK _ _ ?_;clear hK K)|refine ‹∀σ w,_→K σ w› _ _ ?_|(refine W_st ?_;constructor;try intro K hK))|((with_reducible first|refine hZ _ _ ?_|refine W_rg ?_|skip);repeat1' simp only[push_cast,seval,-Nat.reduceSubDiff,b0])|((repeat((fail_if_success with_reducible refine hK _ _ ?_);clear hK K));with_reducible refine hK _ _ ?_;clear hK K))
    refine (bsat_c h2 (j : Int)).mono ?_
    rintro v w3 ⟨rfl, rfl⟩
    rw [eA]
    (repeat first|(with_reducible first|(refine hK _ _ ?_;clear hK K)|refine ‹∀σ w,_→K σ w› _ _ ?_|(refine W_st ?_;constructor;try intro K hK))|((with_reducible first|refine hZ _ _ ?_|refine W_rg ?_|skip);repeat1' simp only[push_cast,seval,-Nat.reduceSubDiff])|((repeat((fail_if_success with_reducible refine hK _ _ ?_);clear hK K));with_reducible refine hK _ _ ?_;clear hK K))
    refine (anode_c h2 hb _).mono ?_
    rintro v w4 ⟨m, rfl, hmn, hok, hx4, hbk⟩
    obtain ⟨xa, xn, xc, exa, _⟩ := hok.attrs.len
    obtain ⟨ya, yn, yc, eya, _⟩ := hok.kids.len
    have ev : m.val = .agg #[.int .i64 m.nd.kind, .string m.nd.name, .string m.nd.text, .int .i64 m.nd.space, .slice xa xn xc, .bool m.nd.dup, .int .i64 m.nd.parent, .int .i64 m.nd.content, .slice ya yn yc, .int .i64 m.nd.frm, .int .i64 m.nd.to] := by rw [Laid.val_eq, exa, eya]
    rw [ev]
    (repeat first|(with_reducible first|(refine hK _ _ ?_;clear hK K)|refine ‹∀σ w,_→K σ w› _ _ ?_|(refine W_st ?_;constructor;try intro K hK))|((with_reducible first|refine hZ _ _ ?_|refine W_rg ?_|skip);repeat1' simp only[push_cast,seval,-Nat.reduceSubDiff,RunV_zero Tryz.zeroValue46,vcells_agg])|((repeat((fail_if_success with_reducible refine hK _ _ ?_);clear hK K));with_reducible refine hK _ _ ?_;clear hK K))
    simp only [can_h, heap_alloc_h, if_true, canO_cells, List.size_toArray, List.length_cons, List.length_nil, Nat.zero_add, Nat.reduceAdd, Nat.reduceLT, true_and]
    obtain ⟨hx8, hp8⟩ := newL w4 #[.int .i64 0, .string ⟨#[]⟩, .string ⟨#[]⟩, .int .i64 0, .slice none 0 0, .bool false, .int .i64 0, .int .i64 0, .slice none 0 0, .int .i64 0, .int .i64 0] [.int .i64 m.nd.kind, .string m.nd.name, .string m.nd.text, .int .i64 m.nd.space, .slice xa xn xc, .bool m.nd.dup, .int .i64 m.nd.parent, .int .i64 m.nd.content, .slice ya yn yc, .int .i64 m.nd.frm, .int .i64 m.nd.to] 46 rfl
    generalize setCells (w4.alloc (.cells #[.int .i64 0, .string ⟨#[]⟩, .string ⟨#[]⟩, .int .i64 0, .slice none 0 0, .bool false, .int .i64 0, .int .i64 0, .slice none 0 0, .int .i64 0, .int .i64 0] 46)) ⟨w4.heap.size, 0, none⟩ [.int .i64 m.nd.kind, .string m.nd.name, .string m.nd.text, .int .i64 m.nd.space, .slice xa xn xc, .bool m.nd.dup, .int .i64 m.nd.parent, .int .i64 m.nd.content, .slice ya yn yc, .int .i64 m.nd.frm, .int .i64 m.nd.to] 0 = w5 at *
    obtain ⟨p8, hpe⟩ : ∃ p8, p8 = w4.heap.size := ⟨_, rfl⟩
    rw [← hpe] at hp8 ⊢
    have hx05 := (hx2.trans hx4).trans hx8
    have h5 := h.pass hx05
    have hnm : m.nd = sndN b j := hmn
    (repeat first|(with_reducible first|(refine hK _ _ ?_;clear hK K)|refine ‹∀σ w,_→K σ w› _ _ ?_|(refine W_st ?_;constructor;try intro K hK))|((with_reducible first|refine hZ _ _ ?_|refine W_rg ?_|skip);repeat1' simp only[push_cast,seval,-Nat.reduceSubDiff,cell_h,cellO_cells,hp8])|((repeat((fail_if_success with_reducible refine hK _ _ ?_);clear hK K));with_reducible refine hK _ _ ?_;clear hK K))
    refine (special_c m.nd.space m.nd.name (hm.ext h5.out) (by rw [hnm]; exact hz.node _)).mono ?_
    rintro v w6 ⟨rfl, rfl⟩
    rw [hnm]
    cases hsp : specN (sndN b j).space (sndN b j).name with
    | true =>
      rw [hsp, if_pos rfl] at he
      (repeat first|(with_reducible first|(refine hK _ _ ?_;clear hK K)|refine ‹∀σ w,_→K σ w› _ _ ?_|(refine W_st ?_;constructor;try intro K hK))|((with_reducible first|refine hZ _ _ ?_|refine W_rg ?_|skip);repeat1' simp only[push_cast,seval,-Nat.reduceSubDiff])|((repeat((fail_if_success with_reducible refine hK _ _ ?_);clear hK K));with_reducible refine hK _ _ ?_;clear hK K))
      refine (bsat_c h5 (j : Int)).mono ?_
      rintro v w7 ⟨rfl, rfl⟩
      rw [eA]
      (repeat first|(with_reducible first|(refine hK _ _ ?_;clear hK K)|refine ‹∀σ w,_→K σ w› _ _ ?_|(refine W_st ?_;constructor;try intro K hK))|((with_reducible first|refine hZ _ _ ?_|refine W_rg ?_|skip);repeat1' simp only[push_cast,seval,-Nat.reduceSubDiff])|((repeat((fail_if_success with_reducible refine hK _ _ ?_);clear hK K));with_reducible refine hK _ _ ?_;clear hK K))
      exact ⟨by rw [he], hx05⟩
    | false =>
      rw [hsp, if_neg (by decide)] at he
      (repeat first|(with_reducible first|(refine hK _ _ ?_;clear hK K)|refine ‹∀σ w,_→K σ w› _ _ ?_|(refine W_st ?_;constructor;try intro K hK))|((with_reducible first|refine hZ _ _ ?_|refine W_rg ?_|skip);repeat1' simp only[push_cast,seval,-Nat.reduceSubDiff,b2])|((repeat((fail_if_success with_reducible refine hK _ _ ?_);clear hK K));with_reducible refine hK _ _ ?_;clear hK K))
      refine ⟨j + 1, by omega, ?_⟩
      (repeat simp only [push_cast, seval, -Nat.reduceSubDiff])
      exact ⟨by omega, by omega, he, hx05⟩
  · have hje : j = b.s.length := by omega
    subst hje
    have b0 : ¬ (b.s.length : Int) < (b.s.length : Int) := by omega
    rw [Nat.sub_self, furN] at he
    (repeat first|(with_reducible first|(refine hK _ _ ?_;clear hK K)|refine ‹∀σ w,_→K σ w› _ _ ?_|(refine W_st ?_;constructor;try intro K hK))|((with_reducible first|refine hZ _ _ ?_|refine W_rg ?_|skip);repeat1' simp only[push_cast,seval,-Nat.reduceSubDiff])|((repeat((fail_if_success with_reducible refine hK _ _ ?_);clear hK K));with_reducible refine hK _ _ ?_;clear hK K))
    refine (bslen_c h2).mono ?_
    rintro v w3 ⟨rfl, rfl⟩
    (repeat first|(with_reducible first|(refine hK _ _ ?_;clear hK K)|refine ‹∀σ w,_→K σ w› _ _ ?_|(refine W_st ?_;constructor;try intro K hK))|((with_reducible first|refine hZ _ _ ?_|refine W_rg ?_|skip);repeat1' simp only[push_cast,seval,-Nat.reduceSubDiff,b0])|((repeat((fail_if_success with_reducible refine hK _ _ ?_);clear hK K));with_reducible refine hK _ _ ?_;clear hK K))
    exact ⟨by rw [he], hx2⟩
theorem apop_c (h : BuAt w0 w Q pb ps pl pa b) (hb : okB b) (k : Nat) : Gives Tryz.prog 123 #[.pointer (some ⟨pb, 0, none⟩), .int .i64 (k : Int)] w fun _ w' => BuAt w0 w' Q pb ps pl pa (toB b k) ∧ Upd (AF w0 Q) w w' := by
  have hs := hb.s
  refine Gives.of_W Tryz.call123 Tryz.func123 rfl Tryz.ntmps123 (by simp) ?_; intro Z hZ
  (repeat first|(with_reducible first|(refine hK _ _ ?_;clear hK K)|refine ‹∀σ w,_→K σ w› _ _ ?_|(refine W_st ?_;constructor;try intro K hK))|((with_reducible first|refine hZ _ _ ?_|refine W_rg ?_|skip);repeat1' simp only[push_cast,seval,-Nat.reduceSubDiff])|((repeat((fail_if_success with_reducible refine hK _ _ ?_);clear hK K));with_reducible refine hK _ _ ?_;clear hK K))
  refine W_loop (S := Nat) (fun j => [(0, .pointer (some ⟨pb, 0, none⟩)), (1, .int .i64 (k : Int))])
    (fun j w2 => j ≤ b.s.length ∧ (k ≤ j ∨ j = b.s.length) ∧ BuAt w0 w2 Q pb ps pl pa (toB b j) ∧ Upd (AF w0 Q) w w2) (fun j => j) b.s.length ?_ ?_ ?_
  · (repeat simp only [push_cast, seval, -Nat.reduceSubDiff])
  · refine ⟨Nat.le_refl _, .inr rfl, ?_, (Ext.refl w).upd⟩
    unfold toB
    rw [List.take_length]
    exact h
  rintro j w2 ⟨hj, hjk, h2, hu2⟩
  have hlj : (toB b j).s.length = j := by show (b.s.take j).length = j; rw [List.length_take]; omega
  have hbj : okB (toB b j) := ⟨hb.L, hb.at_, by omega, hb.l⟩
  (repeat first|(with_reducible first|(refine hK _ _ ?_;clear hK K)|refine ‹∀σ w,_→K σ w› _ _ ?_|(refine W_st ?_;constructor;try intro K hK))|((with_reducible first|refine hZ _ _ ?_|refine W_rg ?_|skip);repeat1' simp only[push_cast,seval,-Nat.reduceSubDiff])|((repeat((fail_if_success with_reducible refine hK _ _ ?_);clear hK K));with_reducible refine hK _ _ ?_;clear hK K))
  refine (bstack_c h2).mono ?_
  rintro v w3 ⟨rfl, rfl⟩
  (repeat first|(with_reducible first|(refine hK _ _ ?_;clear hK K)|refine ‹∀σ w,_→K σ w› _ _ ?_|(refine W_st ?_;constructor;try intro K hK))|((with_reducible first|refine hZ _ _ ?_|refine W_rg ?_|skip);repeat1' simp only[push_cast,seval,-Nat.reduceSubDiff])|((repeat((fail_if_success with_reducible refine hK _ _ ?_);clear hK K));with_reducible refine hK _ _ ?_;clear hK K))
  refine (bslen_c h2).mono ?_
  rintro v w3 ⟨rfl, rfl⟩
  rw [hlj]
  by_cases hlt : k < j
  · have b0 : (k : Int) < (j : Int) := by omega
    (repeat first|(with_reducible first|(refine hK _ _ ?_;clear hK K)|refine ‹∀σ w,_→K σ w› _ _ ?_|(refine W_st ?_;constructor;try intro K hK))|((with_reducible first|refine hZ _ _ ?_|refine W_rg ?_|skip);repeat1' simp only[push_cast,seval,-Nat.reduceSubDiff,b0])|((repeat((fail_if_success with_reducible refine hK _ _ ?_);clear hK K));with_reducible refine hK _ _ ?_;clear hK K))
    refine (bstack_c h2).mono ?_
    rintro v w3 ⟨rfl, rfl⟩
    (repeat first|(with_reducible first|(refine hK _ _ ?_;clear hK K)|refine ‹∀σ w,_→K σ w› _ _ ?_|(refine W_st ?_;constructor;try intro K hK))|((with_reducible first|refine hZ _ _ ?_|refine W_rg ?_|skip);repeat1' simp only[push_cast,seval,-Nat.reduceSubDiff])|((repeat((fail_if_success with_reducible refine hK _ _ ?_);clear hK K));with_reducible refine hK _ _ ?_;clear hK K))
    refine (bpop_c h2 hbj).mono ?_
    rintro v w4 ⟨rfl, h4, hu4⟩
    (repeat first|(with_reducible first|(refine hK _ _ ?_;clear hK K)|refine ‹∀σ w,_→K σ w› _ _ ?_|(refine W_st ?_;constructor;try intro K hK))|((with_reducible first|refine hZ _ _ ?_|refine W_rg ?_|skip);repeat1' simp only[push_cast,seval,-Nat.reduceSubDiff])|((repeat((fail_if_success with_reducible refine hK _ _ ?_);clear hK K));with_reducible refine hK _ _ ?_;clear hK K))
    refine ⟨j - 1, by omega, ?_⟩
    (repeat simp only [push_cast, seval, -Nat.reduceSubDiff])
    refine ⟨by omega, by omega, ?_, Upd.trans hu2 hu4 fun _ _ h => h⟩
    have : (b.s.take j).dropLast = b.s.take (j - 1) := by
      rw [List.dropLast_eq_take, List.take_take, List.length_take]
      congr 1
      omega
    have e : ({ toB b j with s := (toB b j).s.dropLast } : BSt) = toB b (j - 1) := by
      show ({ b with s := (b.s.take j).dropLast } : BSt) = _
      rw [this]; rfl
    rw [← e]
    exact h4
  · have b0 : ¬ (k : Int) < (j : Int) := by omega
    have e : toB b j = toB b k := by
      unfold toB
      rcases hjk with h | h
      · have : k = j := by omega
        rw [this]
      · rw [h, List.take_length, List.take_of_length_le (by omega)]
    (repeat first|(with_reducible first|(refine hK _ _ ?_;clear hK K)|refine ‹∀σ w,_→K σ w› _ _ ?_|(refine W_st ?_;constructor;try intro K hK))|((with_reducible first|refine hZ _ _ ?_|refine W_rg ?_|skip);repeat1' simp only[push_cast,seval,-Nat.reduceSubDiff,b0])|((repeat((fail_if_success with_reducible refine hK _ _ ?_);clear hK K));with_reducible refine hK _ _ ?_;clear hK K))
    rw [← e]
    exact ⟨h2, hu2⟩
end
end Go.Proofs.YtgnnlaeikcnhcaaGreatDoor
end
section
set_option linter.unusedSimpArgs false
set_option linter.unusedVariables false
namespace Go.Vk
open Go Go.Proofs.YtgnnlaeikcnhcaaGreatDoor
theorem okB.fresh {b : BSt} (h : okB b) (hL : b.L.length + 2 < 90000) (i : Int) : okB (freshB b i) := by
  refine h.add hL ?_
  show (nodeN b.L i).attrs.length < 1000000
  unfold nodeN
  cases hx : nd? b.L i with
  | none => exact (by decide : (0 : Nat) < 1000000)
  | some x =>
    obtain ⟨k, _, hk, _⟩ := nd?_some hx
    exact h.at_ x (List.mem_of_getElem? hk)
theorem freshB_len (b : BSt) (i : Int) : (freshB b i).L.length ≤ b.L.length + 2 := len_add _ _
end Go.Vk
namespace Go.Proofs.YtgnnlaeikcnhcaaGreatDoor
open Go Go.Vk
set_option maxHeartbeats 40000000
section
variable {w0 w : World} {Q : Nat → Prop} {pb ps pl pa : Nat} {b : BSt}
theorem fresh_c (h : BuAt w0 w Q pb ps pl pa b) (hb : okB b) (hL : b.L.length + 2 < 90000) (hQl : ∀ q, Q q → q < w.heap.size) (i : Int) : Gives Tryz.prog 207 #[.pointer (some ⟨pb, 0, none⟩), .int .i64 i] w fun v w' => v = .int .i64 (freshI_ b i) ∧ BuAt w0 w' Q pb ps pl pa (freshB b i) ∧ Upd (AF w0 Q) w w' := by
  refine Gives.of_W Tryz.call207 Tryz.func207 rfl Tryz.ntmps207 (by simp) ?_; intro Z hZ
  (repeat first|(with_reducible first|(refine hK _ _ ?_;clear hK K)|refine ‹∀σ w,_→K σ w› _ _ ?_|(refine W_st ?_;constructor;try intro K hK))|((with_reducible first|refine hZ _ _ ?_|refine W_rg ?_|skip);repeat1' simp only[push_cast,seval,-Nat.reduceSubDiff])|((repeat((fail_if_success with_reducible refine hK _ _ ?_);clear hK K));with_reducible refine hK _ _ ?_;clear hK K))
  refine (anode_c h hb i).mono ?_
  rintro v w2 ⟨m, rfl, hmn, hok, hx2, hbk⟩
  (repeat first|(with_reducible first|(refine hK _ _ ?_;clear hK K)|refine ‹∀σ w,_→K σ w› _ _ ?_|(refine W_st ?_;constructor;try intro K hK))|((with_reducible first|refine hZ _ _ ?_|refine W_rg ?_|skip);repeat1' simp only[push_cast,seval,-Nat.reduceSubDiff])|((repeat((fail_if_success with_reducible refine hK _ _ ?_);clear hK K));with_reducible refine hK _ _ ?_;clear hK K))
  refine (again_c hok.attrs.rd).mono ?_
  rintro v w3 ⟨rfl, hx3⟩
  obtain ⟨xa, xn, xc, exa, _⟩ := hok.attrs.len
  rw [exa]
  have hrow : (againT m.nd).row (.slice xa xn xc) = #[.int .i64 2, .string m.nd.name, .string ⟨#[]⟩, .slice xa xn xc, .bool m.nd.dup, .bool false, .bool false, .int .i64 m.nd.frm, .int .i64 m.nd.to] := rfl
  rw [hrow]
  (repeat first|(with_reducible first|(refine hK _ _ ?_;clear hK K)|refine ‹∀σ w,_→K σ w› _ _ ?_|(refine W_st ?_;constructor;try intro K hK))|((with_reducible first|refine hZ _ _ ?_|refine W_rg ?_|skip);repeat1' simp only[push_cast,seval,-Nat.reduceSubDiff,RunV_zero Tryz.zeroValue37,vcells_agg])|((repeat((fail_if_success with_reducible refine hK _ _ ?_);clear hK K));with_reducible refine hK _ _ ?_;clear hK K))
  simp only [can_h, heap_alloc_h, if_true, canO_cells, List.size_toArray, List.length_cons, List.length_nil, Nat.zero_add, Nat.reduceAdd, Nat.reduceLT, true_and]
  obtain ⟨hx4, hp4⟩ := newL w3 #[.int .i64 0, .string ⟨#[]⟩, .string ⟨#[]⟩, .slice none 0 0, .bool false, .bool false, .bool false, .int .i64 0, .int .i64 0] [.int .i64 2, .string m.nd.name, .string ⟨#[]⟩, .slice xa xn xc, .bool m.nd.dup, .bool false, .bool false, .int .i64 m.nd.frm, .int .i64 m.nd.to] 37 rfl
  generalize setCells (w3.alloc (.cells #[.int .i64 0, .string ⟨#[]⟩, .string ⟨#[]⟩, .slice none 0 0, .bool false, .bool false, .bool false, .int .i64 0, .int .i64 0] 37)) ⟨w3.heap.size, 0, none⟩ [.int .i64 2, .string m.nd.name, .string ⟨#[]⟩, .slice xa xn xc, .bool m.nd.dup, .bool false, .bool false, .int .i64 m.nd.frm, .int .i64 m.nd.to] 0 = w4 at *
  obtain ⟨p, hpe⟩ : ∃ p, p = w3.heap.size := ⟨_, rfl⟩
  rw [← hpe] at hp4 ⊢
  have hx04 := (hx2.trans hx3).trans hx4
  have l4 : p < w4.heap.size := blk_lt hp4
  (repeat first|(with_reducible first|(refine hK _ _ ?_;clear hK K)|refine ‹∀σ w,_→K σ w› _ _ ?_|(refine W_st ?_;constructor;try intro K hK))|((with_reducible first|refine hZ _ _ ?_|refine W_rg ?_|skip);repeat1' simp only[push_cast,seval,-Nat.reduceSubDiff])|((repeat((fail_if_success with_reducible refine hK _ _ ?_);clear hK K));with_reducible refine hK _ _ ?_;clear hK K))
  refine W_draw (.pas 0 (.pas 2 (.pas 3 (.pas 4 (.pas 5 (.pas 6 (.pas 7 (.pas 8 (.pas 9 (.pas 10 (.pas 11 (.pas 12 (.act 1 (.act 13 (.pas 14 .fin))))))))))))))) (fun q => q = p) (by decide) mixed (by kernel_rfl) ?_
  have hxd := Ext.drew w4
  generalize w4.drew = wd at *
  have hpd := hxd.blk hp4
  have hx0d := hx04.trans hxd
  have hd := h.pass hx0d
  (repeat (first | ((first | refine pas_plain rfl ?_ | refine pas_g rfl rfl ?_ | refine act_plain rfl ?_ | refine act_g rfl rfl ?_ | refine last_plain rfl ?_ | refine tail_plain rfl ?_ | refine tail_g rfl rfl ?_); (repeat simp only [push_cast, seval, -Nat.reduceSubDiff, eq_self, cell_h, cellO_cells, hpd])) | (refine tail_fin ?_) | (refine sch_fin ?_)))
  refine build_struct Tryz.zeroValue46 un30 pl30 (cs := #[.int .i64 3, .string m.nd.name, .string ⟨#[]⟩, .int .i64 0, .slice xa xn xc, .bool m.nd.dup, .int .i64 0, .int .i64 0, .slice none 0 0, .int .i64 m.nd.frm, .int .i64 m.nd.to]) (by rfl) ?_
  (repeat (first | ((first | refine pas_plain rfl ?_ | refine pas_g rfl rfl ?_ | refine act_plain rfl ?_ | refine act_g rfl rfl ?_ | refine last_plain rfl ?_ | refine tail_plain rfl ?_ | refine tail_g rfl rfl ?_); (repeat simp only [push_cast, seval, -Nat.reduceSubDiff, eq_self, cell_h, cellO_cells, hpd])) | (refine tail_fin ?_) | (refine sch_fin ?_)))
  refine (barena_c hd).mono ?_
  rintro v w5 ⟨rfl, rfl⟩
  refine ⟨kept.refl _ _, ?_⟩
  (repeat (first | ((first | refine pas_plain rfl ?_ | refine pas_g rfl rfl ?_ | refine act_plain rfl ?_ | refine act_g rfl rfl ?_ | refine last_plain rfl ?_ | refine tail_plain rfl ?_ | refine tail_g rfl rfl ?_); (repeat simp only [push_cast, seval, -Nat.reduceSubDiff, eq_self, cell_h, cellO_cells, hpd])) | (refine tail_fin ?_) | (refine sch_fin ?_)))
  have hat : RdAt w5 2 (.slice xa xn xc) (attrCells m.nd.attrs) := by
    rw [← exa]
    exact hok.attrs.rd.ext ((hx3.trans hx4).trans hxd)
  have hal : m.nd.attrs.length < 1000000 := by
    rw [hmn]
    unfold nodeN
    cases hx : nd? b.L i with
    | none => exact (by decide : (0 : Nat) < 1000000)
    | some x =>
      obtain ⟨k, _, hk, _⟩ := nd?_some hx
      exact hb.at_ x (List.mem_of_getElem? hk)
  have hval : (Laid.mk (frN m.nd) (.slice xa xn xc) (.slice none 0 0) none none).val = .agg #[.int .i64 3, .string m.nd.name, .string ⟨#[]⟩, .int .i64 0, .slice xa xn xc, .bool m.nd.dup, .int .i64 0, .int .i64 0, .slice none 0 0, .int .i64 m.nd.frm, .int .i64 m.nd.to] := by rw [Laid.val_eq]; rfl
  rw [← hval]
  have hd2 : BuAt w0 w5 (fun q => Q q ∨ q = p) pb ps pl pa b := h.more hx0d fun q hq => by
    rcases hq with hq | hq
    · exact .inl hq
    · exact .inr ⟨by have := hx2.sz; have := hx3.sz; omega, by have := hxd.sz; omega⟩
  refine (badd_c hd2 hb (m := Laid.mk (frN m.nd) (.slice xa xn xc) (.slice none 0 0) none none) hat hal).mono ?_
  rintro v w6 ⟨rfl, h6, hu6⟩
  refine ⟨kept_upd hu6 fun q hq => ⟨by have := hxd.sz; have : q = p := hq; omega, fun hf => hf.2 (.inr hq)⟩, ?_⟩
  (repeat (first | ((first | refine pas_plain rfl ?_ | refine pas_g rfl rfl ?_ | refine act_plain rfl ?_ | refine act_g rfl rfl ?_ | refine last_plain rfl ?_ | refine tail_plain rfl ?_ | refine tail_g rfl rfl ?_); (repeat simp only [push_cast, seval, -Nat.reduceSubDiff, eq_self])) | (refine tail_fin ?_) | (refine sch_fin ?_)))
  (repeat first|(with_reducible first|(refine hK _ _ ?_;clear hK K)|refine ‹∀σ w,_→K σ w› _ _ ?_|(refine W_st ?_;constructor;try intro K hK))|((with_reducible first|refine hZ _ _ ?_|refine W_rg ?_|skip);repeat1' simp only[push_cast,seval,-Nat.reduceSubDiff])|((repeat((fail_if_success with_reducible refine hK _ _ ?_);clear hK K));with_reducible refine hK _ _ ?_;clear hK K))
  have e1 : addB b (frN m.nd) = freshB b i := by unfold freshB; rw [hmn]
  have e2 : (addN b.L (frN m.nd)).2 = freshI_ b i := by unfold freshI_; rw [hmn]
  exact ⟨by rw [e2], by rw [← e1]; exact h6.less fun q hq => .inl hq, Upd.trans hx0d.upd (hu6.mono fun q _ hf => ⟨hf.1, fun hq => hf.2 (.inl hq)⟩) fun _ _ h => h⟩
end
end Go.Proofs.YtgnnlaeikcnhcaaGreatDoor
end
section
set_option linter.unusedSimpArgs false
set_option linter.unusedVariables false
namespace Go.Vk
open Go Go.Proofs.YtgnnlaeikcnhcaaGreatDoor
theorem lastB_ge {p : Nat → Bool} : ∀ {k j : Nat}, j < k → p j = true → (j : Int) ≤ lastB p k
  | 0, j, h, _ => by omega
  | k + 1, j, h, hp => by
    rw [lastB]
    split
    · omega
    · rename_i hk
      have : j ≠ k := fun e => by subst e; exact hk hp
      exact lastB_ge (by omega) hp
end Go.Vk
end
section
set_option linter.unusedSimpArgs false
set_option linter.unusedVariables false
namespace Go.Vk
open Go Go.Proofs.YtgnnlaeikcnhcaaGreatDoor
theorem indexS_ge {s : List OpS} {k : Nat} {i : Int} (hk : k < s.length) (h : (s.getD k zS).node = i) : (k : Int) ≤ indexS s i := by
  unfold indexS
  exact lastB_ge hk (decide_eq_true h)
theorem lastB_lt {p : Nat → Bool} : ∀ k : Nat, lastB p k < k ∧ -1 ≤ lastB p k
  | 0 => by simp [lastB]
  | k + 1 => by
    have := lastB_lt (p := p) k
    rw [lastB]
    split <;> omega
theorem indexS_rng (s : List OpS) (i : Int) : indexS s i < s.length ∧ -1 ≤ indexS s i := lastB_lt _
theorem remS_low {s : List OpS} {k : Nat} (hk : k < s.length) : (∀ j, j < k → (remS s (s.getD k zS).node).1.getD j zS = s.getD j zS) ∧ k ≤ (remS s (s.getD k zS).node).1.length ∧ (remS s (s.getD k zS).node).1.length ≤ s.length := by
  have hge := indexS_ge (i := (s.getD k zS).node) hk rfl
  have hrng := indexS_rng s (s.getD k zS).node
  unfold remS
  rw [if_neg (by omega)]
  generalize indexS s (s.getD k zS).node = ix at *
  refine ⟨fun j hj => ?_, ?_, ?_⟩
  · rw [List.getD_eq_getElem?_getD, List.getD_eq_getElem?_getD, List.getElem?_eraseIdx_of_lt (by omega)]
  · dsimp only
    rw [List.length_eraseIdx]; split <;> omega
  · dsimp only
    rw [List.length_eraseIdx]; split <;> omega
theorem replS_low {L : List Nd} {s : List OpS} {k : Nat} {i : Int} : (∀ j, j < k → (replS L s k i).1.getD j zS = s.getD j zS) ∧ (replS L s k i).1.length = s.length := by
  unfold replS
  split
  · split
    · refine ⟨fun j hj => ?_, by simp⟩
      dsimp only
      rw [List.getD_eq_getElem?_getD, List.getD_eq_getElem?_getD, Int.toNat_natCast, List.getElem?_set_ne (by omega)]
    · exact ⟨fun _ _ => rfl, rfl⟩
  · exact ⟨fun _ _ => rfl, rfl⟩
theorem removeN_len (l : List Int) (i : Int) : (removeN l i).1.length ≤ l.length := by
  unfold removeN
  split
  · exact Nat.le_refl _
  · dsimp only; rw [List.length_eraseIdx]; split <;> omega
theorem indexN_rng (l : List Int) (i : Int) : -1 ≤ indexN l i ∧ indexN l i < l.length := by
  unfold indexN
  split
  · omega
  · have := lastF_rng (fun y => decide (y = i)) l 0 l.length
    omega
def runRow (pb : Nat) (fmt blk ab mark : Int) : Array Value := #[.pointer (some ⟨pb, 0, none⟩), .int .i64 fmt, .int .i64 blk, .int .i64 ab, .int .i64 mark]
/-- what holds at each round of inward -/
structure InwI (fmt : Int) (f k : Nat) (r : IR) : Prop where
  ok : okB r.b
  fk : f < k
  at_ : (r.b.s.getD f zS).node = fmt
  kl : k ≤ r.b.s.length
  L : r.b.L.length + 2 * k + 2 < 90000
  m : -1 ≤ r.mark ∧ r.mark ≤ 20000
theorem InwI.step {fmt blk : Int} {f k : Nat} {r : IR} {many : Int} (h : InwI fmt f (k + 1) r) (hx : (r.b.s.getD k zS).node ≠ fmt) : InwI fmt f k (inwStep blk k many r) := by
  have hk := h.kl
  have hfk : f < k := by
    have := h.fk
    rcases Nat.lt_or_ge f k with h' | h'
    · exact h'
    · have e : f = k := by omega
      exact absurd (e ▸ h.at_) hx
  have hL := h.L
  have hm := h.m
  have hl := h.ok.l
  have hs := h.ok.s
  unfold inwStep
  split
  · obtain ⟨r1, r2, r3⟩ := remS_low (s := r.b.s) (k := k) (by omega)
    unfold inwOut
    split
    · rename_i hc
      have hln := removeN_len r.b.l (r.b.s.getD k zS).node
      refine ⟨⟨h.ok.L, h.ok.at_, by dsimp only; omega, by dsimp only; omega⟩, hfk, ?_, r2, by dsimp only; omega, ?_⟩
      · exact (congrArg OpS.node (r1 f hfk)).trans h.at_
      · dsimp only; unfold lessM; split <;> omega
    · exact ⟨⟨h.ok.L, h.ok.at_, by dsimp only; omega, h.ok.l⟩, hfk, (congrArg OpS.node (r1 f hfk)).trans h.at_, r2, by dsimp only; omega, hm⟩
  · rename_i hat
    have hat' : inwAt many (r.b.s.getD k zS).node r = indexN r.b.l (r.b.s.getD k zS).node ∧ inwOut many (r.b.s.getD k zS).node r = r := by
      unfold inwAt at hat ⊢
      unfold inwOut
      split
      · rename_i hc
        rw [if_pos hc] at hat; omega
      · exact ⟨rfl, rfl⟩
    rw [hat'.2]
    have hir := indexN_rng r.b.l (r.b.s.getD k zS).node
    unfold inwNew
    dsimp only
    have hfl := freshB_len r.b (r.b.s.getD k zS).node
    have hfo := h.ok.fresh (by omega) (r.b.s.getD k zS).node
    obtain ⟨q1, q2⟩ := replS_low (L := (freshB r.b (r.b.s.getD k zS).node).L) (s := r.b.s) (k := k) (i := freshI_ r.b (r.b.s.getD k zS).node)
    refine ⟨⟨?_, ?_, ?_, ?_⟩, hfk, ?_, ?_, ?_, ?_⟩
    · dsimp only; rw [len_append]; exact hfo.L
    · dsimp only; exact att_append hfo.at_ _ _
    · dsimp only; show (replS _ r.b.s _ _).1.length < _; rw [q2]; exact hs
    · dsimp only; show (replN _ r.b.l _ _).1.length < _; rw [replN_len]; exact hl
    · dsimp only
      exact (congrArg OpS.node (q1 f hfk)).trans h.at_
    · dsimp only; show k ≤ (replS _ r.b.s _ _).1.length; rw [q2]; omega
    · dsimp only; rw [len_append]; omega
    · dsimp only
      rw [hat'.1]
      split <;> omega
end Go.Vk
end
section
set_option linter.unusedSimpArgs false
set_option linter.unusedVariables false
namespace Go.Vk
open Go Go.Proofs.YtgnnlaeikcnhcaaGreatDoor
/-- a field of ours changes, that the builder keeps off -/
theorem BuAt.frame {w0 w : World} {Q : Nat → Prop} {pb ps pl pa : Nat} {b : BSt} (h : BuAt w0 w Q pb ps pl pa b) {pr : Nat} (hq : Q pr) (h0 : w0.heap.size ≤ pr) (k : Nat) (v : Value) : BuAt w0 (w.setCell ⟨pr, k, none⟩ v) Q pb ps pl pa b :=
  h.app (Upd.setCell (F := fun q => q = pr) (a := ⟨pr, k, none⟩) w rfl v) (fun q _ e => by cases e; exact ⟨hq, h0⟩) fun q hq => .inl hq
def AFr (w0 : World) (Q : Nat → Prop) (pr q : Nat) : Prop := AF w0 Q q ∨ q = pr
theorem run_set {w : World} {pr pb : Nat} {fmt blk ab mark : Int} (h : w.heap[pr]? = some (.cells (runRow pb fmt blk ab mark) 178 (0, 0))) (m : Int) :
    canStore w ⟨pr, 4, none⟩ ∧ (w.setCell ⟨pr, 4, none⟩ (.int .i64 m)).heap[pr]? = some (.cells (runRow pb fmt blk ab m) 178 (0, 0)) := by
  refine ⟨by rw [can_h, h, canO_cells]; exact (show 4 < 5 by decide), ?_⟩
  rw [heap_set_h, if_pos rfl, h]; rfl
end Go.Vk
namespace Go.Proofs.YtgnnlaeikcnhcaaGreatDoor
open Go Go.Vk
set_option maxHeartbeats 40000000
section
variable {w0 w : World} {Q : Nat → Prop} {pb ps pl pa : Nat} {b : BSt}
set_option maxHeartbeats 1000000 in
theorem inward_c {pr : Nat} {fmt blk ab mark : Int} (h : BuAt w0 w Q pb ps pl pa b) (hQl : ∀ q, Q q → q < w.heap.size) (hq : Q pr) (hpr0 : w0.heap.size ≤ pr) (hp : w.heap[pr]? = some (.cells (runRow pb fmt blk ab mark) 178 (0, 0)))
    {f : Nat} (hI : InwI fmt f (indexS b.s blk).toNat ⟨b, blk, mark⟩) (hix : 0 ≤ indexS b.s blk) :
    Gives Tryz.prog 166 #[.pointer (some ⟨pr, 0, none⟩)] w fun v w' => v = .int .i64 (inwN fmt blk (indexS b.s blk).toNat 1 ⟨b, blk, mark⟩).last ∧ BuAt w0 w' Q pb ps pl pa (inwN fmt blk (indexS b.s blk).toNat 1 ⟨b, blk, mark⟩).b ∧
      w'.heap[pr]? = some (.cells (runRow pb fmt blk ab (inwN fmt blk (indexS b.s blk).toNat 1 ⟨b, blk, mark⟩).mark) 178 (0, 0)) ∧ Upd (AFr w0 Q pr) w w' := by
  obtain ⟨R, hR⟩ : ∃ R, R = inwN fmt blk (indexS b.s blk).toNat 1 ⟨b, blk, mark⟩ := ⟨_, rfl⟩
  rw [← hR]
  obtain ⟨k0, hk0⟩ : ∃ k0 : Nat, indexS b.s blk = k0 := ⟨(indexS b.s blk).toNat, by omega⟩
  rw [hk0, Int.toNat_natCast] at hI hR
  have hb := hI.ok
  have hs := hb.s
  have hk0l : k0 ≤ b.s.length := hI.kl
  have hs' : b.s.length < 10000 := hb.s
  have hl1 := blk_lt hp
  have kp : ∀ {w1 w2 : World}, w1.heap.size ≤ w2.heap.size → Upd (AF w0 Q) w1 w2 → ∀ {o : Obj}, w1.heap[pr]? = some o → w2.heap[pr]? = some o := fun _ hu _ ho => (hu.same pr (blk_lt ho) fun hf => hf.2 hq).trans ho
  refine Gives.of_W Tryz.call166 Tryz.func166 rfl Tryz.ntmps166 (by simp) ?_; intro Z hZ
  (repeat first|(with_reducible first|(refine hK _ _ ?_;clear hK K)|refine ‹∀σ w,_→K σ w› _ _ ?_|(refine W_st ?_;constructor;try intro K hK))|((with_reducible first|refine hZ _ _ ?_|refine W_rg ?_|skip);repeat1' simp only[push_cast,seval,-Nat.reduceSubDiff])|((repeat((fail_if_success with_reducible refine hK _ _ ?_);clear hK K));with_reducible refine hK _ _ ?_;clear hK K))
  unfold runRow at hp
  refine W_draw (.pas 0 (.pas 1 (.pas 2 (.pas 3 (.pas 5 (.pas 6 (.pas 7 (.pas 8 (.act 4 (.act 9 (.pas 10 (.pas 11 .fin)))))))))))) (fun q => q = pr) (by decide) mixed (by kernel_rfl) ?_
  have hxd := Ext.drew w
  generalize w.drew = wd at *
  have hpd := hxd.blk hp
  have hd := h.pass hxd
  have hsd := hxd.sz
  (repeat (first | ((first | refine pas_plain rfl ?_ | refine pas_g rfl rfl ?_ | refine act_plain rfl ?_ | refine act_g rfl rfl ?_ | refine last_plain rfl ?_ | refine tail_plain rfl ?_ | refine tail_g rfl rfl ?_); (repeat simp only [push_cast, seval, -Nat.reduceSubDiff, eq_self, cell_h, cellO_cells, hpd])) | (refine tail_fin ?_) | (refine sch_fin ?_)))
  refine (bstack_c hd).mono ?_
  rintro v w' ⟨rfl, rfl⟩
  refine ⟨kept.refl _ _, ?_⟩
  (repeat (first | ((first | refine pas_plain rfl ?_ | refine pas_g rfl rfl ?_ | refine act_plain rfl ?_ | refine act_g rfl rfl ?_ | refine last_plain rfl ?_ | refine tail_plain rfl ?_ | refine tail_g rfl rfl ?_); (repeat simp only [push_cast, seval, -Nat.reduceSubDiff, eq_self, cell_h, cellO_cells, hpd])) | (refine tail_fin ?_) | (refine sch_fin ?_)))
  refine (bforms_c hd).mono ?_
  rintro v w' ⟨rfl, rfl⟩
  refine ⟨kept.refl _ _, ?_⟩
  (repeat (first | ((first | refine pas_plain rfl ?_ | refine pas_g rfl rfl ?_ | refine act_plain rfl ?_ | refine act_g rfl rfl ?_ | refine last_plain rfl ?_ | refine tail_plain rfl ?_ | refine tail_g rfl rfl ?_); (repeat simp only [push_cast, seval, -Nat.reduceSubDiff, eq_self, cell_h, cellO_cells, hpd])) | (refine tail_fin ?_) | (refine sch_fin ?_)))
  (repeat first|(with_reducible first|(refine hK _ _ ?_;clear hK K)|refine ‹∀σ w,_→K σ w› _ _ ?_|(refine W_st ?_;constructor;try intro K hK))|((with_reducible first|refine hZ _ _ ?_|refine W_rg ?_|skip);repeat1' simp only[push_cast,seval,-Nat.reduceSubDiff,cell_h,cellO_cells,hpd])|((repeat((fail_if_success with_reducible refine hK _ _ ?_);clear hK K));with_reducible refine hK _ _ ?_;clear hK K))
  refine (bindex_c hd hb _).mono ?_
  rintro v w1 ⟨rfl, rfl⟩
  rw [hk0]
  (repeat first|(with_reducible first|(refine hK _ _ ?_;clear hK K)|refine ‹∀σ w,_→K σ w› _ _ ?_|(refine W_st ?_;constructor;try intro K hK))|((with_reducible first|refine hZ _ _ ?_|refine W_rg ?_|skip);repeat1' simp only[push_cast,seval,-Nat.reduceSubDiff])|((repeat((fail_if_success with_reducible refine hK _ _ ?_);clear hK K));with_reducible refine hK _ _ ?_;clear hK K))
  refine W_loop (S := Nat × Nat × IR) (fun z => [(0, .pointer (some ⟨pr, 0, none⟩)), (3, .pointer (some ⟨ps, 0, none⟩)), (4, .pointer (some ⟨pl, 0, none⟩)), (5, .int .i64 z.2.2.last), (6, .int .i64 (z.1 : Int)), (7, .int .i64 (z.2.1 : Int))])
    (fun z w2 => InwI fmt f z.1 z.2.2 ∧ z.1 + z.2.1 = k0 + 1 ∧ R = inwN fmt blk z.1 (z.2.1 : Int) z.2.2 ∧ BuAt w0 w2 Q pb ps pl pa z.2.2.b ∧ w2.heap[pr]? = some (.cells (runRow pb fmt blk ab z.2.2.mark) 178 (0, 0)) ∧ Upd (AFr w0 Q pr) w w2 ∧ w.heap.size ≤ w2.heap.size) (fun z => z.1) (k0, 1, ⟨b, blk, mark⟩) ?_ ?_ ?_
  · (repeat simp only [push_cast, seval, -Nat.reduceSubDiff])
  · exact ⟨hI, rfl, hR, hd, hpd, hxd.upd, hsd⟩
  rintro ⟨k1, many, r⟩ w2 ⟨hI2, hmk, hR2, h2, hp2, hu2, hs2⟩
  dsimp only at hI2 hmk hR2 h2 hp2 ⊢
  obtain ⟨k, rfl⟩ : ∃ k, k1 = k + 1 := ⟨k1 - 1, by have := hI2.fk; omega⟩
  have hkl := hI2.kl
  have hok2 := hI2.ok
  have hok2s := hok2.s
  have hok2l := hok2.l
  have hL2 := hI2.L
  have hm2 := hI2.m
  have b1 : inI64 (k : Int) := by unfold inI64; omega
  have b3 : inI64 ((many : Int) + 1) := by unfold inI64; omega
  have c0 : (0 : Int) ≤ (k : Int) := by omega
  have e1 : (((k + 1 : Nat) : Int)) - 1 = (k : Int) := by omega
  have e1' : ((k : Int) + 1) - 1 = (k : Int) := by omega
  have eA : atS r.b.s (k : Int) = (r.b.s.getD k zS).node := by
    unfold atS
    rw [if_pos ⟨c0, by omega⟩, Int.toNat_natCast]
  have hQ2 : ∀ q, Q q → q < w2.heap.size := fun q hq => by have := hQl q hq; omega
  have hst := hI2.step (blk := blk) (many := (many : Int))
  rw [inwN] at hR2
  obtain ⟨x, hx⟩ : ∃ x, x = (r.b.s.getD k zS).node := ⟨_, rfl⟩
  rw [← hx] at hR2 eA hst
  (repeat first|(with_reducible first|(refine hK _ _ ?_;clear hK K)|refine ‹∀σ w,_→K σ w› _ _ ?_|(refine W_st ?_;constructor;try intro K hK))|((with_reducible first|refine hZ _ _ ?_|refine W_rg ?_|skip);repeat1' simp only[push_cast,seval,-Nat.reduceSubDiff,e1,e1',b1])|((repeat((fail_if_success with_reducible refine hK _ _ ?_);clear hK K));with_reducible refine hK _ _ ?_;clear hK K))
  refine (bsat_c h2 (k : Int)).mono ?_
  rintro v w3 ⟨rfl, rfl⟩
  rw [eA]
  unfold runRow at hp2
  by_cases hxf : x = fmt
  · rw [if_pos hxf] at hR2
    subst hxf
    (repeat first|(with_reducible first|(refine hK _ _ ?_;clear hK K)|refine ‹∀σ w,_→K σ w› _ _ ?_|(refine W_st ?_;constructor;try intro K hK))|((with_reducible first|refine hZ _ _ ?_|refine W_rg ?_|skip);repeat1' simp only[push_cast,seval,-Nat.reduceSubDiff,cell_h,cellO_cells,hp2,eq_self])|((repeat((fail_if_success with_reducible refine hK _ _ ?_);clear hK K));with_reducible refine hK _ _ ?_;clear hK K))
    exact ⟨by rw [hR2], by rw [hR2]; exact h2, by rw [hR2]; rfl, hu2⟩
  rw [if_neg hxf] at hR2
  have hI3 := hst hxf
  clear hst
  (repeat first|(with_reducible first|(refine hK _ _ ?_;clear hK K)|refine ‹∀σ w,_→K σ w› _ _ ?_|(refine W_st ?_;constructor;try intro K hK))|((with_reducible first|refine hZ _ _ ?_|refine W_rg ?_|skip);repeat1' simp only[push_cast,seval,-Nat.reduceSubDiff,cell_h,cellO_cells,hp2,hxf])|((repeat((fail_if_success with_reducible refine hK _ _ ?_);clear hK K));with_reducible refine hK _ _ ?_;clear hK K))
  refine (bfindex_c h2 hok2 x).mono ?_
  rintro v w4 ⟨rfl, hx4⟩
  have h4 := h2.pass hx4
  have hp4 := hx4.blk hp2
  have hs4 := hx4.sz
  have hu4 : Upd (AFr w0 Q pr) w w4 := Upd.trans hu2 hx4.upd fun _ _ h => h
  have hir := indexN_rng r.b.l x
  have hQ4 : ∀ q, Q q → q < w4.heap.size := fun q hq => by have := hQ2 q hq; omega
  obtain ⟨at_, hat⟩ : ∃ a, a = indexN r.b.l x := ⟨_, rfl⟩
  rw [← hat] at hir ⊢
  have hst2 : inwStep blk k (many : Int) r = if inwAt (many : Int) x r < 0 then { inwOut (many : Int) x r with b := { (inwOut (many : Int) x r).b with s := (remS r.b.s x).1 } } else inwNew blk k x (inwAt (many : Int) x r) (inwOut (many : Int) x r) := by
    unfold inwStep; rw [← hx]
  have toR : ∀ {a c : World}, Upd (AF w0 Q) a c → Upd (AFr w0 Q pr) a c := fun h => h.mono fun q _ hf => .inl hf
  have lpr : pr < w4.heap.size := blk_lt hp4
  by_cases hcB : 3 < many ∧ 0 ≤ at_
  · have d1 : (3 : Int) < (many : Int) := by omega
    have d2 : (0 : Int) ≤ at_ := hcB.2
    have eAt : inwAt (many : Int) x r = -1 := by unfold inwAt; rw [← hat, if_pos ⟨d1, d2⟩]
    have eOut : inwOut (many : Int) x r = { r with b := { r.b with l := (removeN r.b.l x).1 }, mark := lessM r.mark at_ } := by unfold inwOut; rw [← hat, if_pos ⟨d1, d2⟩]
    rw [eAt, if_pos (by decide), eOut] at hst2
    rw [hst2] at hI3 hR2
    (repeat first|(with_reducible first|(refine hK _ _ ?_;clear hK K)|refine ‹∀σ w,_→K σ w› _ _ ?_|(refine W_st ?_;constructor;try intro K hK))|((with_reducible first|refine hZ _ _ ?_|refine W_rg ?_|skip);repeat1' simp only[push_cast,seval,-Nat.reduceSubDiff,d1,d2])|((repeat((fail_if_success with_reducible refine hK _ _ ?_);clear hK K));with_reducible refine hK _ _ ?_;clear hK K))
    refine (bfrem_c h4 hok2 x).mono ?_
    rintro v w5 ⟨rfl, h5, hu5⟩
    have hp5 := kp hu5.alike.size hu5 hp4
    have hs5 := hu5.alike.size
    have hokr : okB { r.b with l := (removeN r.b.l x).1 } := ⟨hok2.L, hok2.at_, hok2.s, by have := removeN_len r.b.l x; show (removeN r.b.l x).1.length < _; omega⟩
    by_cases hlm : at_ < r.mark
    · have hle : lessM r.mark at_ = r.mark - 1 := by unfold lessM; rw [if_pos hlm]
      rw [hle] at hI3 hR2
      have b6 : inI64 (r.mark - 1) := by unfold inI64; omega
      obtain ⟨k1, k2⟩ := run_set hp5 (r.mark - 1)
      have h6 := h5.frame hq hpr0 4 (.int .i64 (r.mark - 1))
      have up6 : Upd (AFr w0 Q pr) w5 (w5.setCell ⟨pr, 4, none⟩ (.int .i64 (r.mark - 1))) := (Upd.setCell (F := fun q => q = pr) (a := ⟨pr, 4, none⟩) w5 rfl _).mono fun q _ e => .inr e
      (repeat first|(with_reducible first|(refine hK _ _ ?_;clear hK K)|refine ‹∀σ w,_→K σ w› _ _ ?_|(refine W_st ?_;constructor;try intro K hK))|((with_reducible first|refine hZ _ _ ?_|refine W_rg ?_|skip);repeat1' simp only[push_cast,seval,-Nat.reduceSubDiff,cell_h,cellO_cells,hp5,hlm,b6,k1])|((repeat((fail_if_success with_reducible refine hK _ _ ?_);clear hK K));with_reducible refine hK _ _ ?_;clear hK K))
      generalize w5.setCell ⟨pr, 4, none⟩ (.int .i64 (r.mark - 1)) = w6 at *
      have hs6 := up6.alike.size
      refine (bsrem_c h6 hokr x).mono ?_
      rintro v w7 ⟨rfl, h7, hu7⟩
      have hp7 := kp hu7.alike.size hu7 k2
      have hs7 := hu7.alike.size
      (repeat first|(with_reducible first|(refine hK _ _ ?_;clear hK K)|refine ‹∀σ w,_→K σ w› _ _ ?_|(refine W_st ?_;constructor;try intro K hK))|((with_reducible first|refine hZ _ _ ?_|refine W_rg ?_|skip);repeat1' simp only[push_cast,seval,-Nat.reduceSubDiff,b3])|((repeat((fail_if_success with_reducible refine hK _ _ ?_);clear hK K));with_reducible refine hK _ _ ?_;clear hK K))
      refine ⟨(k, many + 1, ⟨{ r.b with l := (removeN r.b.l x).1, s := (remS r.b.s x).1 }, r.last, r.mark - 1⟩), by show k < k + 1; omega, ?_⟩
      (repeat simp only [push_cast, seval, -Nat.reduceSubDiff])
      exact ⟨hI3, by omega, hR2, h7, hp7, Upd.trans (Upd.trans (Upd.trans hu4 (toR hu5) fun _ _ h => h) up6 fun _ _ h => h) (toR hu7) fun _ _ h => h, by omega⟩
    · have hle : lessM r.mark at_ = r.mark := by unfold lessM; rw [if_neg hlm]
      rw [hle] at hI3 hR2
      (repeat first|(with_reducible first|(refine hK _ _ ?_;clear hK K)|refine ‹∀σ w,_→K σ w› _ _ ?_|(refine W_st ?_;constructor;try intro K hK))|((with_reducible first|refine hZ _ _ ?_|refine W_rg ?_|skip);repeat1' simp only[push_cast,seval,-Nat.reduceSubDiff,cell_h,cellO_cells,hp5,hlm])|((repeat((fail_if_success with_reducible refine hK _ _ ?_);clear hK K));with_reducible refine hK _ _ ?_;clear hK K))
      refine (bsrem_c h5 hokr x).mono ?_
      rintro v w7 ⟨rfl, h7, hu7⟩
      have hp7 := kp hu7.alike.size hu7 hp5
      have hs7 := hu7.alike.size
      (repeat first|(with_reducible first|(refine hK _ _ ?_;clear hK K)|refine ‹∀σ w,_→K σ w› _ _ ?_|(refine W_st ?_;constructor;try intro K hK))|((with_reducible first|refine hZ _ _ ?_|refine W_rg ?_|skip);repeat1' simp only[push_cast,seval,-Nat.reduceSubDiff,b3])|((repeat((fail_if_success with_reducible refine hK _ _ ?_);clear hK K));with_reducible refine hK _ _ ?_;clear hK K))
      refine ⟨(k, many + 1, ⟨{ r.b with l := (removeN r.b.l x).1, s := (remS r.b.s x).1 }, r.last, r.mark⟩), by show k < k + 1; omega, ?_⟩
      (repeat simp only [push_cast, seval, -Nat.reduceSubDiff])
      exact ⟨hI3, by omega, hR2, h7, hp7, Upd.trans (Upd.trans hu4 (toR hu5) fun _ _ h => h) (toR hu7) fun _ _ h => h, by omega⟩
  have eAt : inwAt (many : Int) x r = at_ := by unfold inwAt; rw [← hat, if_neg (fun h => hcB ⟨by omega, h.2⟩)]
  have eOut : inwOut (many : Int) x r = r := by unfold inwOut; rw [← hat, if_neg (fun h => hcB ⟨by omega, h.2⟩)]
  rw [eAt, eOut] at hst2
  by_cases hneg : at_ < 0
  · have d2 : ¬ (0 : Int) ≤ at_ := by omega
    rw [if_pos hneg] at hst2
    rw [hst2] at hI3 hR2
    by_cases hm3 : 3 < many
    · have d1 : (3 : Int) < (many : Int) := by omega
      (repeat first|(with_reducible first|(refine hK _ _ ?_;clear hK K)|refine ‹∀σ w,_→K σ w› _ _ ?_|(refine W_st ?_;constructor;try intro K hK))|((with_reducible first|refine hZ _ _ ?_|refine W_rg ?_|skip);repeat1' simp only[push_cast,seval,-Nat.reduceSubDiff,d1,d2,hneg])|((repeat((fail_if_success with_reducible refine hK _ _ ?_);clear hK K));with_reducible refine hK _ _ ?_;clear hK K))
      refine (bsrem_c h4 hok2 x).mono ?_
      rintro v w7 ⟨rfl, h7, hu7⟩
      have hp7 := kp hu7.alike.size hu7 hp4
      have hs7 := hu7.alike.size
      (repeat first|(with_reducible first|(refine hK _ _ ?_;clear hK K)|refine ‹∀σ w,_→K σ w› _ _ ?_|(refine W_st ?_;constructor;try intro K hK))|((with_reducible first|refine hZ _ _ ?_|refine W_rg ?_|skip);repeat1' simp only[push_cast,seval,-Nat.reduceSubDiff,b3])|((repeat((fail_if_success with_reducible refine hK _ _ ?_);clear hK K));with_reducible refine hK _ _ ?_;clear hK K))
      refine ⟨(k, many + 1, ⟨{ r.b with s := (remS r.b.s x).1 }, r.last, r.mark⟩), by show k < k + 1; omega, ?_⟩
      (repeat simp only [push_cast, seval, -Nat.reduceSubDiff])
      exact ⟨hI3, by omega, hR2, h7, hp7, Upd.trans hu4 (toR hu7) fun _ _ h => h, by omega⟩
    · have d1 : ¬ (3 : Int) < (many : Int) := by omega
      (repeat first|(with_reducible first|(refine hK _ _ ?_;clear hK K)|refine ‹∀σ w,_→K σ w› _ _ ?_|(refine W_st ?_;constructor;try intro K hK))|((with_reducible first|refine hZ _ _ ?_|refine W_rg ?_|skip);repeat1' simp only[push_cast,seval,-Nat.reduceSubDiff,d1,hneg])|((repeat((fail_if_success with_reducible refine hK _ _ ?_);clear hK K));with_reducible refine hK _ _ ?_;clear hK K))
      refine (bsrem_c h4 hok2 x).mono ?_
      rintro v w7 ⟨rfl, h7, hu7⟩
      have hp7 := kp hu7.alike.size hu7 hp4
      have hs7 := hu7.alike.size
      (repeat first|(with_reducible first|(refine hK _ _ ?_;clear hK K)|refine ‹∀σ w,_→K σ w› _ _ ?_|(refine W_st ?_;constructor;try intro K hK))|((with_reducible first|refine hZ _ _ ?_|refine W_rg ?_|skip);repeat1' simp only[push_cast,seval,-Nat.reduceSubDiff,b3])|((repeat((fail_if_success with_reducible refine hK _ _ ?_);clear hK K));with_reducible refine hK _ _ ?_;clear hK K))
      refine ⟨(k, many + 1, ⟨{ r.b with s := (remS r.b.s x).1 }, r.last, r.mark⟩), by show k < k + 1; omega, ?_⟩
      (repeat simp only [push_cast, seval, -Nat.reduceSubDiff])
      exact ⟨hI3, by omega, hR2, h7, hp7, Upd.trans hu4 (toR hu7) fun _ _ h => h, by omega⟩
  · have d1 : ¬ (3 : Int) < (many : Int) := by omega
    rw [if_neg hneg] at hst2
    rw [hst2] at hI3 hR2
    have hfo := hok2.fresh (by omega) x
    have b6 : inI64 (at_ + 1) := by unfold inI64; omega
    (repeat first|(with_reducible first|(refine hK _ _ ?_;clear hK K)|refine ‹∀σ w,_→K σ w› _ _ ?_|(refine W_st ?_;constructor;try intro K hK))|((with_reducible first|refine hZ _ _ ?_|refine W_rg ?_|skip);repeat1' simp only[push_cast,seval,-Nat.reduceSubDiff,d1,hneg,cell_h,cellO_cells,hp4])|((repeat((fail_if_success with_reducible refine hK _ _ ?_);clear hK K));with_reducible refine hK _ _ ?_;clear hK K))
    refine (fresh_c h4 hok2 (by omega) hQ4 x).mono ?_
    rintro v w5 ⟨rfl, h5, hu5⟩
    have hp5 := kp hu5.alike.size hu5 hp4
    have hs5 := hu5.alike.size
    (repeat first|(with_reducible first|(refine hK _ _ ?_;clear hK K)|refine ‹∀σ w,_→K σ w› _ _ ?_|(refine W_st ?_;constructor;try intro K hK))|((with_reducible first|refine hZ _ _ ?_|refine W_rg ?_|skip);repeat1' simp only[push_cast,seval,-Nat.reduceSubDiff])|((repeat((fail_if_success with_reducible refine hK _ _ ?_);clear hK K));with_reducible refine hK _ _ ?_;clear hK K))
    refine (bfrepl_c h5 hfo at_ _).mono ?_
    rintro v w6 ⟨rfl, h6, hu6⟩
    have hp6 := kp hu6.alike.size hu6 hp5
    have hs6 := hu6.alike.size
    have hok6 : okB { freshB r.b x with l := (replN (freshB r.b x).L (freshB r.b x).l at_ (freshI_ r.b x)).1 } := ⟨hfo.L, hfo.at_, hfo.s, by show (replN _ _ _ _).1.length < _; rw [replN_len]; exact hfo.l⟩
    (repeat first|(with_reducible first|(refine hK _ _ ?_;clear hK K)|refine ‹∀σ w,_→K σ w› _ _ ?_|(refine W_st ?_;constructor;try intro K hK))|((with_reducible first|refine hZ _ _ ?_|refine W_rg ?_|skip);repeat1' simp only[push_cast,seval,-Nat.reduceSubDiff])|((repeat((fail_if_success with_reducible refine hK _ _ ?_);clear hK K));with_reducible refine hK _ _ ?_;clear hK K))
    refine (bsrepl_c h6 hok6 (k : Int) _).mono ?_
    rintro v w7 ⟨rfl, h7, hu7⟩
    have hp7 := kp hu7.alike.size hu7 hp6
    have hs7 := hu7.alike.size
    have hu07 : Upd (AFr w0 Q pr) w w7 := Upd.trans (Upd.trans (Upd.trans hu4 (toR hu5) fun _ _ h => h) (toR hu6) fun _ _ h => h) (toR hu7) fun _ _ h => h
    obtain ⟨c7, hc7⟩ : ∃ c7 : BSt, c7 = { freshB r.b x with l := (replN (freshB r.b x).L (freshB r.b x).l at_ (freshI_ r.b x)).1, s := (replS (freshB r.b x).L (freshB r.b x).s k (freshI_ r.b x)).1 } := ⟨_, rfl⟩
    have h7 : BuAt w0 w7 Q pb ps pl pa c7 := hc7 ▸ h7
    have hok7 : okB c7 := by
      rw [hc7]
      exact ⟨hfo.L, hfo.at_, by show (replS _ _ _ _).1.length < _; rw [(replS_low).2]; exact hfo.s, hok6.l⟩
    have hnew : inwNew blk k x at_ r = { b := { c7 with L := (appendN c7.L (freshI_ r.b x) r.last).1 }, last := freshI_ r.b x, mark := if r.last = blk then at_ + 1 else r.mark } := by
      unfold inwNew; rw [hc7]
    rw [hnew] at hI3 hR2
    by_cases hlb : r.last = blk
    · rw [if_pos hlb] at hI3 hR2
      obtain ⟨k1, k2⟩ := run_set hp7 (at_ + 1)
      have h8 := h7.frame hq hpr0 4 (.int .i64 (at_ + 1))
      have up8 : Upd (AFr w0 Q pr) w7 (w7.setCell ⟨pr, 4, none⟩ (.int .i64 (at_ + 1))) := (Upd.setCell (F := fun q => q = pr) (a := ⟨pr, 4, none⟩) w7 rfl _).mono fun q _ e => .inr e
      unfold runRow at k2
      (repeat first|(with_reducible first|(refine hK _ _ ?_;clear hK K)|refine ‹∀σ w,_→K σ w› _ _ ?_|(refine W_st ?_;constructor;try intro K hK))|((with_reducible first|refine hZ _ _ ?_|refine W_rg ?_|skip);repeat1' simp only[push_cast,seval,-Nat.reduceSubDiff,cell_h,cellO_cells,hp7,hlb,b6,k1])|((repeat((fail_if_success with_reducible refine hK _ _ ?_);clear hK K));with_reducible refine hK _ _ ?_;clear hK K))
      generalize w7.setCell ⟨pr, 4, none⟩ (.int .i64 (at_ + 1)) = w8 at *
      have hs8 := up8.alike.size
      (repeat first|(with_reducible first|(refine hK _ _ ?_;clear hK K)|refine ‹∀σ w,_→K σ w› _ _ ?_|(refine W_st ?_;constructor;try intro K hK))|((with_reducible first|refine hZ _ _ ?_|refine W_rg ?_|skip);repeat1' simp only[push_cast,seval,-Nat.reduceSubDiff,cell_h,cellO_cells,k2])|((repeat((fail_if_success with_reducible refine hK _ _ ?_);clear hK K));with_reducible refine hK _ _ ?_;clear hK K))
      refine (barena_c h8).mono ?_
      rintro v w9 ⟨rfl, rfl⟩
      (repeat first|(with_reducible first|(refine hK _ _ ?_;clear hK K)|refine ‹∀σ w,_→K σ w› _ _ ?_|(refine W_st ?_;constructor;try intro K hK))|((with_reducible first|refine hZ _ _ ?_|refine W_rg ?_|skip);repeat1' simp only[push_cast,seval,-Nat.reduceSubDiff])|((repeat((fail_if_success with_reducible refine hK _ _ ?_);clear hK K));with_reducible refine hK _ _ ?_;clear hK K))
      refine (bappend_c h8 hok7 _ _).mono ?_
      rintro v w10 ⟨rfl, h10, hu10⟩
      have hp10 := kp hu10.alike.size hu10 k2
      have hs10 := hu10.alike.size
      (repeat first|(with_reducible first|(refine hK _ _ ?_;clear hK K)|refine ‹∀σ w,_→K σ w› _ _ ?_|(refine W_st ?_;constructor;try intro K hK))|((with_reducible first|refine hZ _ _ ?_|refine W_rg ?_|skip);repeat1' simp only[push_cast,seval,-Nat.reduceSubDiff,b3])|((repeat((fail_if_success with_reducible refine hK _ _ ?_);clear hK K));with_reducible refine hK _ _ ?_;clear hK K))
      refine ⟨(k, many + 1, ⟨{ c7 with L := (appendN c7.L (freshI_ r.b x) r.last).1 }, freshI_ r.b x, at_ + 1⟩), by show k < k + 1; omega, ?_⟩
      (repeat simp only [push_cast, seval, -Nat.reduceSubDiff])
      exact ⟨hI3, by omega, hR2, by rw [hlb]; exact h10, hp10, Upd.trans (Upd.trans hu07 up8 fun _ _ h => h) (toR hu10) fun _ _ h => h, by omega⟩
    · rw [if_neg hlb] at hI3 hR2
      (repeat first|(with_reducible first|(refine hK _ _ ?_;clear hK K)|refine ‹∀σ w,_→K σ w› _ _ ?_|(refine W_st ?_;constructor;try intro K hK))|((with_reducible first|refine hZ _ _ ?_|refine W_rg ?_|skip);repeat1' simp only[push_cast,seval,-Nat.reduceSubDiff,cell_h,cellO_cells,hp7,hlb])|((repeat((fail_if_success with_reducible refine hK _ _ ?_);clear hK K));with_reducible refine hK _ _ ?_;clear hK K))
      refine (barena_c h7).mono ?_
      rintro v w9 ⟨rfl, rfl⟩
      (repeat first|(with_reducible first|(refine hK _ _ ?_;clear hK K)|refine ‹∀σ w,_→K σ w› _ _ ?_|(refine W_st ?_;constructor;try intro K hK))|((with_reducible first|refine hZ _ _ ?_|refine W_rg ?_|skip);repeat1' simp only[push_cast,seval,-Nat.reduceSubDiff])|((repeat((fail_if_success with_reducible refine hK _ _ ?_);clear hK K));with_reducible refine hK _ _ ?_;clear hK K))
      refine (bappend_c h7 hok7 _ _).mono ?_
      rintro v w10 ⟨rfl, h10, hu10⟩
      have hp10 := kp hu10.alike.size hu10 hp7
      have hs10 := hu10.alike.size
      (repeat first|(with_reducible first|(refine hK _ _ ?_;clear hK K)|refine ‹∀σ w,_→K σ w› _ _ ?_|(refine W_st ?_;constructor;try intro K hK))|((with_reducible first|refine hZ _ _ ?_|refine W_rg ?_|skip);repeat1' simp only[push_cast,seval,-Nat.reduceSubDiff,b3])|((repeat((fail_if_success with_reducible refine hK _ _ ?_);clear hK K));with_reducible refine hK _ _ ?_;clear hK K))
      refine ⟨(k, many + 1, ⟨{ c7 with L := (appendN c7.L (freshI_ r.b x) r.last).1 }, freshI_ r.b x, r.mark⟩), by show k < k + 1; omega, ?_⟩
      (repeat simp only [push_cast, seval, -Nat.reduceSubDiff])
      exact ⟨hI3, by omega, hR2, h10, hp10, Upd.trans hu07 (toR hu10) fun _ _ h => h, by omega⟩
end
end Go.Proofs.YtgnnlaeikcnhcaaGreatDoor
end
section
set_option linter.unusedSimpArgs false
set_option linter.unusedVariables false
namespace Go.Vk
open Go Go.Proofs.YtgnnlaeikcnhcaaGreatDoor
theorem remS_le (s : List OpS) (i : Int) : (remS s i).1.length ≤ s.length := by
  unfold remS
  split
  · exact Nat.le_refl _
  · dsimp only; rw [List.length_eraseIdx]; split <;> omega
theorem layN_le (l : List Int) (k : Nat) (i : Int) : (layN l k i).1.length ≤ l.length + 1 := by
  unfold layN
  split
  · exact Nat.le_succ _
  · simp; omega
theorem insertL_le (L : List Nd) (l : List Int) (k i : Int) : (insertL L l k i).1.length ≤ l.length + 1 := by
  unfold insertL
  split
  · split
    · exact layN_le _ _ _
    · exact Nat.le_succ _
  · exact Nat.le_succ _
theorem att_all {to : Nat} : ∀ (ks : List Int) {L : List Nd}, Att L → Att (hangAll to ks L) ∧ (hangAll to ks L).length = L.length
  | [], _, h => ⟨h, rfl⟩
  | j :: r, L, h => by
    obtain ⟨h1, h2⟩ := att_all r (att_hang h to (-1) j.toNat)
    exact ⟨h1, h2.trans (hangN_len _ _ _ _)⟩
theorem att_move {L : List Nd} (h : Att L) (a b : Int) : Att (moveN L a b).1 ∧ (moveN L a b).1.length = L.length := by
  unfold moveN
  split
  · exact att_all _ h
  · exact ⟨h, rfl⟩
end Go.Vk
namespace Go.Proofs.YtgnnlaeikcnhcaaGreatDoor
open Go Go.Vk
set_option maxHeartbeats 40000000
section
variable {w0 w : World} {Q : Nat → Prop} {pb ps pl pa : Nat} {b : BSt}
set_option maxHeartbeats 1000000 in
theorem renew_c {pr : Nat} {fmt blk ab mark : Int} (h : BuAt w0 w Q pb ps pl pa b) (hb : okB b) (hL : b.L.length + 2 < 90000) (hs9 : b.s.length + 1 < 10000) (hl9 : b.l.length + 1 < 10000) (hmk : -1 ≤ mark ∧ mark ≤ 20000)
    (hQl : ∀ q, Q q → q < w.heap.size) (hq : Q pr) (hpr0 : w0.heap.size ≤ pr) (hp : w.heap[pr]? = some (.cells (runRow pb fmt blk ab mark) 178 (0, 0))) :
    Gives Tryz.prog 167 #[.pointer (some ⟨pr, 0, none⟩)] w fun _ w' => BuAt w0 w' Q pb ps pl pa (renewB b fmt blk mark) ∧ Upd (AFr w0 Q pr) w w' := by
  have kp : ∀ {w1 w2 : World}, Upd (AF w0 Q) w1 w2 → ∀ {o : Obj}, w1.heap[pr]? = some o → w2.heap[pr]? = some o := fun hu _ ho => (hu.same pr (blk_lt ho) fun hf => hf.2 hq).trans ho
  have toR : ∀ {a c : World}, Upd (AF w0 Q) a c → Upd (AFr w0 Q pr) a c := fun h => h.mono fun q _ hf => .inl hf
  obtain ⟨y, hy⟩ : ∃ y, y = freshI_ b fmt := ⟨_, rfl⟩
  obtain ⟨b1, hb1⟩ : ∃ b1, b1 = freshB b fmt := ⟨_, rfl⟩
  obtain ⟨b2, hb2⟩ : ∃ b2 : BSt, b2 = { b1 with L := (moveN b1.L blk y).1 } := ⟨_, rfl⟩
  obtain ⟨b3, hb3⟩ : ∃ b3 : BSt, b3 = { b2 with L := (appendN b2.L blk y).1 } := ⟨_, rfl⟩
  obtain ⟨b4, hb4⟩ : ∃ b4 : BSt, b4 = { b3 with l := (removeN b3.l fmt).1 } := ⟨_, rfl⟩
  obtain ⟨b5, hb5⟩ : ∃ b5 : BSt, b5 = { b4 with l := (insertL b4.L b4.l (lessM mark (indexN b3.l fmt)) y).1 } := ⟨_, rfl⟩
  obtain ⟨b6, hb6⟩ : ∃ b6 : BSt, b6 = { b5 with s := (remS b5.s fmt).1 } := ⟨_, rfl⟩
  obtain ⟨b7, hb7⟩ : ∃ b7 : BSt, b7 = { b6 with s := (insS b6.L b6.s (indexS b6.s blk + 1) y).1 } := ⟨_, rfl⟩
  have hR : renewB b fmt blk mark = b7 := by rw [hb7, hb6, hb5, hb4, hb3, hb2, hb1, hy]; rfl
  rw [hR]
  have o1 : okB b1 := hb1 ▸ hb.fresh hL fmt
  have l1 : b1.l = b.l := by rw [hb1]; rfl
  have s1 : b1.s = b.s := by rw [hb1]; rfl
  obtain ⟨a2, n2⟩ := att_move o1.at_ blk y
  have o2 : okB b2 := by rw [hb2]; exact ⟨by show (moveN _ _ _).1.length < _; rw [n2]; exact o1.L, a2, o1.s, o1.l⟩
  have l2 : b2.l = b.l := by rw [hb2]; exact l1
  have s2 : b2.s = b.s := by rw [hb2]; exact s1
  have o3 : okB b3 := by rw [hb3]; exact ⟨by show (appendN _ _ _).1.length < _; rw [len_append]; exact o2.L, att_append o2.at_ _ _, o2.s, o2.l⟩
  have l3 : b3.l = b.l := by rw [hb3]; exact l2
  have s3 : b3.s = b.s := by rw [hb3]; exact s2
  have n4 : b4.l.length ≤ b.l.length := by rw [hb4]; show (removeN b3.l fmt).1.length ≤ _; rw [← l3]; exact removeN_len _ _
  have o4 : okB b4 := by rw [hb4] at n4 ⊢; exact ⟨o3.L, o3.at_, o3.s, by have := n4; dsimp only at this ⊢; omega⟩
  have s4 : b4.s = b.s := by rw [hb4]; exact s3
  have n5 : b5.l.length ≤ b.l.length + 1 := by
    have := insertL_le b4.L b4.l (lessM mark (indexN b3.l fmt)) y
    rw [hb5]; dsimp only; omega
  have o5 : okB b5 := by rw [hb5] at n5 ⊢; exact ⟨o4.L, o4.at_, o4.s, by have := n5; dsimp only at this ⊢; omega⟩
  have s5 : b5.s = b.s := by rw [hb5]; exact s4
  have n6 : b6.s.length ≤ b.s.length := by rw [hb6, ← s5]; exact remS_le _ _
  have o6 : okB b6 := by rw [hb6] at n6 ⊢; exact ⟨o5.L, o5.at_, by have := n6; dsimp only at this ⊢; omega, o5.l⟩
  have hir := indexN_rng b3.l fmt
  have hl3 : b3.l.length < 10000 := o3.l
  refine Gives.of_W Tryz.call167 Tryz.func167 rfl Tryz.ntmps167 (by simp) ?_; intro Z hZ
  (repeat first|(with_reducible first|(refine hK _ _ ?_;clear hK K)|refine ‹∀σ w,_→K σ w› _ _ ?_|(refine W_st ?_;constructor;try intro K hK))|((with_reducible first|refine hZ _ _ ?_|refine W_rg ?_|skip);repeat1' simp only[push_cast,seval,-Nat.reduceSubDiff])|((repeat((fail_if_success with_reducible refine hK _ _ ?_);clear hK K));with_reducible refine hK _ _ ?_;clear hK K))
  unfold runRow at hp
  refine W_draw (.pas 0 (.pas 1 (.pas 2 (.pas 3 (.pas 5 (.pas 6 (.pas 7 (.pas 8 (.pas 10 (.pas 11 (.pas 12 (.pas 13 (.act 4 (.act 9 (.act 14 (.pas 15 (.pas 16 (.pas 17 .fin)))))))))))))))))) (fun q => q = pr) (by decide) mixed (by kernel_rfl) ?_
  have hxd := Ext.drew w
  generalize w.drew = wd at *
  have hpd := hxd.blk hp
  have hd := h.pass hxd
  have hsd := hxd.sz
  have lpr := blk_lt hp
  (repeat (first | ((first | refine pas_plain rfl ?_ | refine pas_g rfl rfl ?_ | refine act_plain rfl ?_ | refine act_g rfl rfl ?_ | refine last_plain rfl ?_ | refine tail_plain rfl ?_ | refine tail_g rfl rfl ?_); (repeat simp only [push_cast, seval, -Nat.reduceSubDiff, eq_self, cell_h, cellO_cells, hpd])) | (refine tail_fin ?_) | (refine sch_fin ?_)))
  refine (barena_c hd).mono ?_
  rintro v w' ⟨rfl, rfl⟩
  refine ⟨kept.refl _ _, ?_⟩
  (repeat (first | ((first | refine pas_plain rfl ?_ | refine pas_g rfl rfl ?_ | refine act_plain rfl ?_ | refine act_g rfl rfl ?_ | refine last_plain rfl ?_ | refine tail_plain rfl ?_ | refine tail_g rfl rfl ?_); (repeat simp only [push_cast, seval, -Nat.reduceSubDiff, eq_self, cell_h, cellO_cells, hpd])) | (refine tail_fin ?_) | (refine sch_fin ?_)))
  refine (bstack_c hd).mono ?_
  rintro v w' ⟨rfl, rfl⟩
  refine ⟨kept.refl _ _, ?_⟩
  (repeat (first | ((first | refine pas_plain rfl ?_ | refine pas_g rfl rfl ?_ | refine act_plain rfl ?_ | refine act_g rfl rfl ?_ | refine last_plain rfl ?_ | refine tail_plain rfl ?_ | refine tail_g rfl rfl ?_); (repeat simp only [push_cast, seval, -Nat.reduceSubDiff, eq_self, cell_h, cellO_cells, hpd])) | (refine tail_fin ?_) | (refine sch_fin ?_)))
  refine (bforms_c hd).mono ?_
  rintro v w' ⟨rfl, rfl⟩
  refine ⟨kept.refl _ _, ?_⟩
  (repeat (first | ((first | refine pas_plain rfl ?_ | refine pas_g rfl rfl ?_ | refine act_plain rfl ?_ | refine act_g rfl rfl ?_ | refine last_plain rfl ?_ | refine tail_plain rfl ?_ | refine tail_g rfl rfl ?_); (repeat simp only [push_cast, seval, -Nat.reduceSubDiff, eq_self, cell_h, cellO_cells, hpd])) | (refine tail_fin ?_) | (refine sch_fin ?_)))
  (repeat first|(with_reducible first|(refine hK _ _ ?_;clear hK K)|refine ‹∀σ w,_→K σ w› _ _ ?_|(refine W_st ?_;constructor;try intro K hK))|((with_reducible first|refine hZ _ _ ?_|refine W_rg ?_|skip);repeat1' simp only[push_cast,seval,-Nat.reduceSubDiff])|((repeat((fail_if_success with_reducible refine hK _ _ ?_);clear hK K));with_reducible refine hK _ _ ?_;clear hK K))
  have hxd2 := Ext.drew w'
  refine W_draw (.pas 0 (.pas 1 (.pas 2 (.pas 3 (.pas 4 (.pas 5 (.pas 6 (.pas 7 (.act 8 (.pas 9 .fin)))))))))) (fun q => q = pr) (by decide) mixed (by kernel_rfl) ?_
  generalize w'.drew = we at *
  have hpe := hxd2.blk hpd
  have he := hd.pass hxd2
  have hse := hxd2.sz
  (repeat (first | ((first | refine pas_plain rfl ?_ | refine pas_g rfl rfl ?_ | refine act_plain rfl ?_ | refine act_g rfl rfl ?_ | refine last_plain rfl ?_ | refine tail_plain rfl ?_ | refine tail_g rfl rfl ?_); (repeat simp only [push_cast, seval, -Nat.reduceSubDiff, eq_self, cell_h, cellO_cells, hpe])) | (refine tail_fin ?_) | (refine sch_fin ?_)))
  refine (fresh_c he hb hL (fun q hq => by have := hQl q hq; omega) fmt).mono ?_
  rintro v w1 ⟨rfl, h1, hu1⟩
  rw [← hb1] at h1
  rw [← hy]
  refine ⟨kept_upd hu1 fun q hq' => ⟨by have : q = pr := hq'; omega, fun hf => hf.2 (by have : q = pr := hq'; rw [this]; exact hq)⟩, ?_⟩
  have hp1 := kp hu1 hpe
  have hu01 : Upd (AFr w0 Q pr) w w1 := Upd.trans (hxd.trans hxd2).upd (toR hu1) fun _ _ h => h
  (repeat (first | ((first | refine pas_plain rfl ?_ | refine pas_g rfl rfl ?_ | refine act_plain rfl ?_ | refine act_g rfl rfl ?_ | refine last_plain rfl ?_ | refine tail_plain rfl ?_ | refine tail_g rfl rfl ?_); (repeat simp only [push_cast, seval, -Nat.reduceSubDiff, eq_self, cell_h, cellO_cells, hpe])) | (refine tail_fin ?_) | (refine sch_fin ?_)))
  (repeat first|(with_reducible first|(refine hK _ _ ?_;clear hK K)|refine ‹∀σ w,_→K σ w› _ _ ?_|(refine W_st ?_;constructor;try intro K hK))|((with_reducible first|refine hZ _ _ ?_|refine W_rg ?_|skip);repeat1' simp only[push_cast,seval,-Nat.reduceSubDiff,cell_h,cellO_cells,hp1])|((repeat((fail_if_success with_reducible refine hK _ _ ?_);clear hK K));with_reducible refine hK _ _ ?_;clear hK K))
  refine (bmove_c h1 o1 blk y).mono ?_
  rintro v w2 ⟨rfl, h2, hu2⟩
  rw [← hb2] at h2
  have hp2 := kp hu2 hp1
  (repeat first|(with_reducible first|(refine hK _ _ ?_;clear hK K)|refine ‹∀σ w,_→K σ w› _ _ ?_|(refine W_st ?_;constructor;try intro K hK))|((with_reducible first|refine hZ _ _ ?_|refine W_rg ?_|skip);repeat1' simp only[push_cast,seval,-Nat.reduceSubDiff,cell_h,cellO_cells,hp2])|((repeat((fail_if_success with_reducible refine hK _ _ ?_);clear hK K));with_reducible refine hK _ _ ?_;clear hK K))
  refine (bappend_c h2 o2 blk y).mono ?_
  rintro v w3 ⟨rfl, h3, hu3⟩
  rw [← hb3] at h3
  have hp3 := kp hu3 hp2
  (repeat first|(with_reducible first|(refine hK _ _ ?_;clear hK K)|refine ‹∀σ w,_→K σ w› _ _ ?_|(refine W_st ?_;constructor;try intro K hK))|((with_reducible first|refine hZ _ _ ?_|refine W_rg ?_|skip);repeat1' simp only[push_cast,seval,-Nat.reduceSubDiff,cell_h,cellO_cells,hp3])|((repeat((fail_if_success with_reducible refine hK _ _ ?_);clear hK K));with_reducible refine hK _ _ ?_;clear hK K))
  refine (bfindex_c h3 o3 fmt).mono ?_
  rintro v w4 ⟨rfl, hx4⟩
  have h4 := h3.pass hx4
  have hp4 := hx4.blk hp3
  (repeat first|(with_reducible first|(refine hK _ _ ?_;clear hK K)|refine ‹∀σ w,_→K σ w› _ _ ?_|(refine W_st ?_;constructor;try intro K hK))|((with_reducible first|refine hZ _ _ ?_|refine W_rg ?_|skip);repeat1' simp only[push_cast,seval,-Nat.reduceSubDiff,cell_h,cellO_cells,hp4])|((repeat((fail_if_success with_reducible refine hK _ _ ?_);clear hK K));with_reducible refine hK _ _ ?_;clear hK K))
  refine (bfrem_c h4 o3 fmt).mono ?_
  rintro v w5 ⟨rfl, h5, hu5⟩
  rw [← hb4] at h5
  have hp5 := kp hu5 hp4
  have hu05 : Upd (AFr w0 Q pr) w w5 := Upd.trans (Upd.trans (Upd.trans (Upd.trans hu01 (toR hu2) fun _ _ h => h) (toR hu3) fun _ _ h => h) hx4.upd fun _ _ h => h) (toR hu5) fun _ _ h => h
  have rest : ∀ w6, BuAt w0 w6 Q pb ps pl pa b4 → w6.heap[pr]? = some (.cells (runRow pb fmt blk ab (lessM mark (indexN b3.l fmt))) 178 (0, 0)) → Upd (AFr w0 Q pr) w w6 → True := fun _ _ _ _ => trivial
  by_cases hlm : indexN b3.l fmt < mark
  · have hle : lessM mark (indexN b3.l fmt) = mark - 1 := by unfold lessM; rw [if_pos hlm]
    rw [hle] at hb5
    have b6' : inI64 (mark - 1) := by unfold inI64; omega
    have hp5' : w5.heap[pr]? = some (.cells (runRow pb fmt blk ab mark) 178 (0, 0)) := hp5
    obtain ⟨k1, k2⟩ := run_set hp5' (mark - 1)
    have h6 := h5.frame hq hpr0 4 (.int .i64 (mark - 1))
    have up6 : Upd (AFr w0 Q pr) w5 (w5.setCell ⟨pr, 4, none⟩ (.int .i64 (mark - 1))) := (Upd.setCell (F := fun q => q = pr) (a := ⟨pr, 4, none⟩) w5 rfl _).mono fun q _ e => .inr e
    unfold runRow at k2
    (repeat first|(with_reducible first|(refine hK _ _ ?_;clear hK K)|refine ‹∀σ w,_→K σ w› _ _ ?_|(refine W_st ?_;constructor;try intro K hK))|((with_reducible first|refine hZ _ _ ?_|refine W_rg ?_|skip);repeat1' simp only[push_cast,seval,-Nat.reduceSubDiff,cell_h,cellO_cells,hp5,hlm,b6',k1])|((repeat((fail_if_success with_reducible refine hK _ _ ?_);clear hK K));with_reducible refine hK _ _ ?_;clear hK K))
    generalize w5.setCell ⟨pr, 4, none⟩ (.int .i64 (mark - 1)) = w6 at *
    (repeat first|(with_reducible first|(refine hK _ _ ?_;clear hK K)|refine ‹∀σ w,_→K σ w› _ _ ?_|(refine W_st ?_;constructor;try intro K hK))|((with_reducible first|refine hZ _ _ ?_|refine W_rg ?_|skip);repeat1' simp only[push_cast,seval,-Nat.reduceSubDiff,cell_h,cellO_cells,k2])|((repeat((fail_if_success with_reducible refine hK _ _ ?_);clear hK K));with_reducible refine hK _ _ ?_;clear hK K))
    refine (bfins_c h6 o4 _ y).mono ?_
    rintro v w7 ⟨rfl, h7, hu7⟩
    rw [← hb5] at h7
    have hp7 := kp hu7 k2
    (repeat first|(with_reducible first|(refine hK _ _ ?_;clear hK K)|refine ‹∀σ w,_→K σ w› _ _ ?_|(refine W_st ?_;constructor;try intro K hK))|((with_reducible first|refine hZ _ _ ?_|refine W_rg ?_|skip);repeat1' simp only[push_cast,seval,-Nat.reduceSubDiff,cell_h,cellO_cells,hp7])|((repeat((fail_if_success with_reducible refine hK _ _ ?_);clear hK K));with_reducible refine hK _ _ ?_;clear hK K))
    refine (bsrem_c h7 o5 fmt).mono ?_
    rintro v w8 ⟨rfl, h8, hu8⟩
    rw [← hb6] at h8
    have hp8 := kp hu8 hp7
    (repeat first|(with_reducible first|(refine hK _ _ ?_;clear hK K)|refine ‹∀σ w,_→K σ w› _ _ ?_|(refine W_st ?_;constructor;try intro K hK))|((with_reducible first|refine hZ _ _ ?_|refine W_rg ?_|skip);repeat1' simp only[push_cast,seval,-Nat.reduceSubDiff,cell_h,cellO_cells,hp8])|((repeat((fail_if_success with_reducible refine hK _ _ ?_);clear hK K));with_reducible refine hK _ _ ?_;clear hK K))
    refine (bindex_c h8 o6 blk).mono ?_
    rintro v w9 ⟨rfl, rfl⟩
    have hirS := indexS_rng b6.s blk
    have hs6 := o6.s
    have c9 : inI64 (indexS b6.s blk + 1) := by unfold inI64; omega
    (repeat first|(with_reducible first|(refine hK _ _ ?_;clear hK K)|refine ‹∀σ w,_→K σ w› _ _ ?_|(refine W_st ?_;constructor;try intro K hK))|((with_reducible first|refine hZ _ _ ?_|refine W_rg ?_|skip);repeat1' simp only[push_cast,seval,-Nat.reduceSubDiff,c9])|((repeat((fail_if_success with_reducible refine hK _ _ ?_);clear hK K));with_reducible refine hK _ _ ?_;clear hK K))
    refine (bsins_c h8 o6 _ y).mono ?_
    rintro v w10 ⟨rfl, h10, hu10⟩
    rw [← hb7] at h10
    (repeat first|(with_reducible first|(refine hK _ _ ?_;clear hK K)|refine ‹∀σ w,_→K σ w› _ _ ?_|(refine W_st ?_;constructor;try intro K hK))|((with_reducible first|refine hZ _ _ ?_|refine W_rg ?_|skip);repeat1' simp only[push_cast,seval,-Nat.reduceSubDiff])|((repeat((fail_if_success with_reducible refine hK _ _ ?_);clear hK K));with_reducible refine hK _ _ ?_;clear hK K))
    exact ⟨h10, Upd.trans (Upd.trans (Upd.trans (Upd.trans hu05 up6 fun _ _ h => h) (toR hu7) fun _ _ h => h) (toR hu8) fun _ _ h => h) (toR hu10) fun _ _ h => h⟩
  · have hle : lessM mark (indexN b3.l fmt) = mark := by unfold lessM; rw [if_neg hlm]
    rw [hle] at hb5
    (repeat first|(with_reducible first|(refine hK _ _ ?_;clear hK K)|refine ‹∀σ w,_→K σ w› _ _ ?_|(refine W_st ?_;constructor;try intro K hK))|((with_reducible first|refine hZ _ _ ?_|refine W_rg ?_|skip);repeat1' simp only[push_cast,seval,-Nat.reduceSubDiff,cell_h,cellO_cells,hp5,hlm])|((repeat((fail_if_success with_reducible refine hK _ _ ?_);clear hK K));with_reducible refine hK _ _ ?_;clear hK K))
    refine (bfins_c h5 o4 _ y).mono ?_
    rintro v w7 ⟨rfl, h7, hu7⟩
    rw [← hb5] at h7
    have hp7 := kp hu7 hp5
    (repeat first|(with_reducible first|(refine hK _ _ ?_;clear hK K)|refine ‹∀σ w,_→K σ w› _ _ ?_|(refine W_st ?_;constructor;try intro K hK))|((with_reducible first|refine hZ _ _ ?_|refine W_rg ?_|skip);repeat1' simp only[push_cast,seval,-Nat.reduceSubDiff,cell_h,cellO_cells,hp7])|((repeat((fail_if_success with_reducible refine hK _ _ ?_);clear hK K));with_reducible refine hK _ _ ?_;clear hK K))
    refine (bsrem_c h7 o5 fmt).mono ?_
    rintro v w8 ⟨rfl, h8, hu8⟩
    rw [← hb6] at h8
    have hp8 := kp hu8 hp7
    (repeat first|(with_reducible first|(refine hK _ _ ?_;clear hK K)|refine ‹∀σ w,_→K σ w› _ _ ?_|(refine W_st ?_;constructor;try intro K hK))|((with_reducible first|refine hZ _ _ ?_|refine W_rg ?_|skip);repeat1' simp only[push_cast,seval,-Nat.reduceSubDiff,cell_h,cellO_cells,hp8])|((repeat((fail_if_success with_reducible refine hK _ _ ?_);clear hK K));with_reducible refine hK _ _ ?_;clear hK K))
    refine (bindex_c h8 o6 blk).mono ?_
    rintro v w9 ⟨rfl, rfl⟩
    have hirS := indexS_rng b6.s blk
    have hs6 := o6.s
    have c9 : inI64 (indexS b6.s blk + 1) := by unfold inI64; omega
    (repeat first|(with_reducible first|(refine hK _ _ ?_;clear hK K)|refine ‹∀σ w,_→K σ w› _ _ ?_|(refine W_st ?_;constructor;try intro K hK))|((with_reducible first|refine hZ _ _ ?_|refine W_rg ?_|skip);repeat1' simp only[push_cast,seval,-Nat.reduceSubDiff,c9])|((repeat((fail_if_success with_reducible refine hK _ _ ?_);clear hK K));with_reducible refine hK _ _ ?_;clear hK K))
    refine (bsins_c h8 o6 _ y).mono ?_
    rintro v w10 ⟨rfl, h10, hu10⟩
    rw [← hb7] at h10
    (repeat first|(with_reducible first|(refine hK _ _ ?_;clear hK K)|refine ‹∀σ w,_→K σ w› _ _ ?_|(refine W_st ?_;constructor;try intro K hK))|((with_reducible first|refine hZ _ _ ?_|refine W_rg ?_|skip);repeat1' simp only[push_cast,seval,-Nat.reduceSubDiff])|((repeat((fail_if_success with_reducible refine hK _ _ ?_);clear hK K));with_reducible refine hK _ _ ?_;clear hK K))
    exact ⟨h10, Upd.trans (Upd.trans (Upd.trans hu05 (toR hu7) fun _ _ h => h) (toR hu8) fun _ _ h => h) (toR hu10) fun _ _ h => h⟩
end
end Go.Proofs.YtgnnlaeikcnhcaaGreatDoor
end
section
set_option linter.unusedSimpArgs false
set_option linter.unusedVariables false
namespace Go.Vk
open Go Go.Proofs.YtgnnlaeikcnhcaaGreatDoor
/-- what a builder must be for an element to end in it -/
structure AdOk (b : BSt) : Prop where
  ok : okB b
  L : b.L.length + 2 * b.s.length + 6 < 90000
  s : b.s.length + 2 < 10000
  l : b.l.length + 2 < 10000
  nm : Nms b.L
  sn : ∀ o ∈ b.s, o.name.size < 4294967281
theorem furN_at (b : BSt) : ∀ (n k : Nat), 0 ≤ furN b n k → ∃ j, k ≤ j ∧ j < k + n ∧ (b.s.getD j zS).node = furN b n k
  | 0, k, h => by rw [furN] at h; omega
  | n + 1, k, h => by
    rw [furN] at h ⊢
    split
    · exact ⟨k, Nat.le_refl _, by omega, rfl⟩
    · rename_i hn
      rw [if_neg hn] at h
      obtain ⟨j, h1, h2, h3⟩ := furN_at b n (k + 1) h
      exact ⟨j, by omega, by omega, h3⟩
theorem lastB_is {p : Nat → Bool} : ∀ {k : Nat}, 0 ≤ lastB p k → p (lastB p k).toNat = true ∧ (lastB p k).toNat < k
  | 0, h => by simp [lastB] at h
  | k + 1, h => by
    rw [lastB] at h ⊢
    split
    · rename_i hp
      exact ⟨by simpa using hp, by omega⟩
    · rename_i hp
      rw [if_neg hp] at h
      obtain ⟨h1, h2⟩ := lastB_is h
      exact ⟨h1, by omega⟩
theorem indexS_is {s : List OpS} {i : Int} (h : 0 ≤ indexS s i) : (s.getD (indexS s i).toNat zS).node = i ∧ (indexS s i).toNat < s.length := by
  unfold indexS at h ⊢
  obtain ⟨h1, h2⟩ := lastB_is h
  exact ⟨of_decide_eq_true h1, h2⟩
theorem inwN_I {fmt blk : Int} {f : Nat} : ∀ (k : Nat) (many : Int) (r : IR), InwI fmt f k r → ∃ k', InwI fmt f k' (inwN fmt blk k many r)
  | 0, _, r, h => ⟨0, h⟩
  | k + 1, many, r, h => by
    rw [inwN]
    split
    · exact ⟨k + 1, h⟩
    · rename_i hx
      exact inwN_I k (many + 1) _ (h.step hx)
theorem inwN_le {fmt blk : Int} : ∀ (k : Nat) (many : Int) (r : IR), (inwN fmt blk k many r).b.s.length ≤ r.b.s.length ∧ (inwN fmt blk k many r).b.l.length ≤ r.b.l.length ∧ (inwN fmt blk k many r).b.L.length ≤ r.b.L.length + 2 * k
  | 0, _, r => ⟨Nat.le_refl _, Nat.le_refl _, Nat.le_refl _⟩
  | k + 1, many, r => by
    rw [inwN]
    split
    · exact ⟨Nat.le_refl _, Nat.le_refl _, by omega⟩
    · obtain ⟨h1, h2, h3⟩ := inwN_le (fmt := fmt) (blk := blk) k (many + 1) (inwStep blk k many r)
      have : (inwStep blk k many r).b.s.length ≤ r.b.s.length ∧ (inwStep blk k many r).b.l.length ≤ r.b.l.length ∧ (inwStep blk k many r).b.L.length ≤ r.b.L.length + 2 := by
        have ho : (inwOut many (r.b.s.getD k zS).node r).b.s = r.b.s ∧ (inwOut many (r.b.s.getD k zS).node r).b.L = r.b.L ∧ (inwOut many (r.b.s.getD k zS).node r).b.l.length ≤ r.b.l.length := by
          unfold inwOut
          split
          · exact ⟨rfl, rfl, removeN_len _ _⟩
          · exact ⟨rfl, rfl, Nat.le_refl _⟩
        unfold inwStep
        split
        · exact ⟨remS_le _ _, ho.2.2, by dsimp only; rw [ho.2.1]; omega⟩
        · generalize inwOut many (r.b.s.getD k zS).node r = r2 at *
          unfold inwNew
          refine ⟨?_, ?_, ?_⟩
          · show (replS _ r2.b.s _ _).1.length ≤ _
            rw [(replS_low).2, ho.1]
            exact Nat.le_refl _
          · show (replN _ r2.b.l _ _).1.length ≤ _
            rw [replN_len]
            exact ho.2.2
          · show (appendN _ _ _).1.length ≤ _
            rw [len_append]
            have := freshB_len r2.b (r.b.s.getD k zS).node
            rw [ho.2.1] at this
            exact this
      exact ⟨by omega, by omega, by omega⟩
/-- so it goes on, as often as may be -/
def runOk (name : ByteArray) : Nat → BSt → Prop
  | 0, _ => True
  | n + 1, b => AdOk b ∧ ((onceB b name).2.2 = true → (onceB b name).2.1 = true → runOk name n (onceB b name).1)
end Go.Vk
namespace Go.Proofs.YtgnnlaeikcnhcaaGreatDoor
open Go Go.Vk
theorem unRu : Tryz.prog.underlying 178 = some (.struct (fsOf Tryz.prog 178)) := by rw [fsOf, Tryz.underlying178]
theorem plRu (w : World) : ((fsOf Tryz.prog 178).mapM plOf).run Tryz.prog w = .ok #[(0,1),(1,1),(2,1),(3,1),(4,1)] w := by
  simp [fsOf, plOf, Tryz.underlying178, Sem.run, Tryz.sizeOf3, Tryz.sizeOf25]
set_option maxHeartbeats 40000000
section
variable {w0 w : World} {Q : Nat → Prop} {pb ps pl pa : Nat} {b : BSt}
set_option maxHeartbeats 1000000 in
theorem once_c (h : BuAt w0 w Q pb ps pl pa b) (hA : AdOk b) (hg : GL w0) (hQl : ∀ q, Q q → q < w.heap.size) (x : ByteArray) :
    Gives Tryz.prog 118 #[.pointer (some ⟨pb, 0, none⟩), .string x] w fun v w' => v = .tuple #[.bool (onceB b x).2.1, .bool (onceB b x).2.2] ∧ BuAt w0 w' Q pb ps pl pa (onceB b x).1 ∧ Upd (AF w0 Q) w w' := by
  have hb := hA.ok
  have hLb := hA.L
  have hsb := hA.s
  have hlb := hA.l
  obtain ⟨R, hR⟩ : ∃ R, R = onceB b x := ⟨_, rfl⟩
  rw [← hR]
  unfold onceB at hR
  obtain ⟨fmt, hfm⟩ : ∃ f, f = lastName b.L b.l x := ⟨_, rfl⟩
  rw [← hfm] at hR
  dsimp only at hR
  refine Gives.of_W Tryz.call118 Tryz.func118 rfl Tryz.ntmps118 (by simp) ?_; intro Z hZ
  (repeat first|(with_reducible first|(refine hK _ _ ?_;clear hK K)|refine ‹∀σ w,_→K σ w› _ _ ?_|(refine W_st ?_;constructor;try intro K hK))|((with_reducible first|refine hZ _ _ ?_|refine W_rg ?_|skip);repeat1' simp only[push_cast,seval,-Nat.reduceSubDiff])|((repeat((fail_if_success with_reducible refine hK _ _ ?_);clear hK K));with_reducible refine hK _ _ ?_;clear hK K))
  refine (bstack_c h).mono ?_
  intro v w' ⟨hv, hw⟩
  subst hv; subst w'
  (repeat first|(with_reducible first|(refine hK _ _ ?_;clear hK K)|refine ‹∀σ w,_→K σ w› _ _ ?_|(refine W_st ?_;constructor;try intro K hK))|((with_reducible first|refine hZ _ _ ?_|refine W_rg ?_|skip);repeat1' simp only[push_cast,seval,-Nat.reduceSubDiff])|((repeat((fail_if_success with_reducible refine hK _ _ ?_);clear hK K));with_reducible refine hK _ _ ?_;clear hK K))
  refine (bforms_c h).mono ?_
  intro v w' ⟨hv, hw⟩
  subst hv; subst w'
  (repeat first|(with_reducible first|(refine hK _ _ ?_;clear hK K)|refine ‹∀σ w,_→K σ w› _ _ ?_|(refine W_st ?_;constructor;try intro K hK))|((with_reducible first|refine hZ _ _ ?_|refine W_rg ?_|skip);repeat1' simp only[push_cast,seval,-Nat.reduceSubDiff])|((repeat((fail_if_success with_reducible refine hK _ _ ?_);clear hK K));with_reducible refine hK _ _ ?_;clear hK K))
  refine (bflast_c h hb x).mono ?_
  rintro v w1 ⟨rfl, hx1⟩
  have h1 := h.pass hx1
  have hs1 := hx1.sz
  rw [← hfm]
  by_cases hf0 : fmt < 0
  · rw [if_pos hf0] at hR
    subst hR
    (repeat first|(with_reducible first|(refine hK _ _ ?_;clear hK K)|refine ‹∀σ w,_→K σ w› _ _ ?_|(refine W_st ?_;constructor;try intro K hK))|((with_reducible first|refine hZ _ _ ?_|refine W_rg ?_|skip);repeat1' simp only[push_cast,seval,-Nat.reduceSubDiff,hf0])|((repeat((fail_if_success with_reducible refine hK _ _ ?_);clear hK K));with_reducible refine hK _ _ ?_;clear hK K))
    exact ⟨h1, hx1.upd⟩
  rw [if_neg hf0] at hR
  (repeat first|(with_reducible first|(refine hK _ _ ?_;clear hK K)|refine ‹∀σ w,_→K σ w› _ _ ?_|(refine W_st ?_;constructor;try intro K hK))|((with_reducible first|refine hZ _ _ ?_|refine W_rg ?_|skip);repeat1' simp only[push_cast,seval,-Nat.reduceSubDiff,hf0])|((repeat((fail_if_success with_reducible refine hK _ _ ?_);clear hK K));with_reducible refine hK _ _ ?_;clear hK K))
  refine (bindex_c h1 hb fmt).mono ?_
  rintro v w2 ⟨rfl, rfl⟩
  obtain ⟨at_, hat⟩ : ∃ a, a = indexS b.s fmt := ⟨_, rfl⟩
  rw [← hat] at hR ⊢
  by_cases ha0 : at_ < 0
  · rw [if_pos ha0] at hR
    subst hR
    (repeat first|(with_reducible first|(refine hK _ _ ?_;clear hK K)|refine ‹∀σ w,_→K σ w› _ _ ?_|(refine W_st ?_;constructor;try intro K hK))|((with_reducible first|refine hZ _ _ ?_|refine W_rg ?_|skip);repeat1' simp only[push_cast,seval,-Nat.reduceSubDiff,ha0])|((repeat((fail_if_success with_reducible refine hK _ _ ?_);clear hK K));with_reducible refine hK _ _ ?_;clear hK K))
    refine (bfrem_c h1 hb fmt).mono ?_
    rintro v w3 ⟨rfl, h3, hu3⟩
    (repeat first|(with_reducible first|(refine hK _ _ ?_;clear hK K)|refine ‹∀σ w,_→K σ w› _ _ ?_|(refine W_st ?_;constructor;try intro K hK))|((with_reducible first|refine hZ _ _ ?_|refine W_rg ?_|skip);repeat1' simp only[push_cast,seval,-Nat.reduceSubDiff])|((repeat((fail_if_success with_reducible refine hK _ _ ?_);clear hK K));with_reducible refine hK _ _ ?_;clear hK K))
    exact ⟨h3, Upd.trans hx1.upd hu3 fun _ _ h => h⟩
  rw [if_neg ha0] at hR
  have hrng := indexS_rng b.s fmt
  rw [← hat] at hrng
  obtain ⟨f, hf⟩ : ∃ f : Nat, at_ = f := ⟨at_.toNat, by omega⟩
  have hfl : f < b.s.length := by omega
  (repeat first|(with_reducible first|(refine hK _ _ ?_;clear hK K)|refine ‹∀σ w,_→K σ w› _ _ ?_|(refine W_st ?_;constructor;try intro K hK))|((with_reducible first|refine hZ _ _ ?_|refine W_rg ?_|skip);repeat1' simp only[push_cast,seval,-Nat.reduceSubDiff,ha0])|((repeat((fail_if_success with_reducible refine hK _ _ ?_);clear hK K));with_reducible refine hK _ _ ?_;clear hK K))
  refine (bhasn_c h1 hb hg hA.sn 0 fmt).mono ?_
  rintro v w3 ⟨rfl, hx3⟩
  have h3 := h1.pass hx3
  have hx13 := hx1.trans hx3
  have hs3 := hx13.sz
  rw [show ((scp (scE 0) b.s b.s.length).any fun o => decide (o.node = fmt)) = scopeB b fmt from rfl]
  cases hsc : scopeB b fmt with
  | false =>
    rw [hsc, if_pos rfl] at hR
    subst hR
    (repeat first|(with_reducible first|(refine hK _ _ ?_;clear hK K)|refine ‹∀σ w,_→K σ w› _ _ ?_|(refine W_st ?_;constructor;try intro K hK))|((with_reducible first|refine hZ _ _ ?_|refine W_rg ?_|skip);repeat1' simp only[push_cast,seval,-Nat.reduceSubDiff])|((repeat((fail_if_success with_reducible refine hK _ _ ?_);clear hK K));with_reducible refine hK _ _ ?_;clear hK K))
    exact ⟨h3, hx13.upd⟩
  | true =>
    rw [hsc, if_neg (by decide)] at hR
    rw [hf, Int.toNat_natCast] at hR
    rw [hf]
    (repeat first|(with_reducible first|(refine hK _ _ ?_;clear hK K)|refine ‹∀σ w,_→K σ w› _ _ ?_|(refine W_st ?_;constructor;try intro K hK))|((with_reducible first|refine hZ _ _ ?_|refine W_rg ?_|skip);repeat1' simp only[push_cast,seval,-Nat.reduceSubDiff])|((repeat((fail_if_success with_reducible refine hK _ _ ?_);clear hK K));with_reducible refine hK _ _ ?_;clear hK K))
    refine (furthest_c h3 hb hg.max hA.nm f hfl).mono ?_
    rintro v w4 ⟨rfl, hx4⟩
    have h4 := h3.pass hx4
    have hx14 := hx13.trans hx4
    have hs4 := hx14.sz
    obtain ⟨blk, hbk⟩ : ∃ k, k = furB b f := ⟨_, rfl⟩
    rw [← hbk] at hR ⊢
    by_cases hb0 : blk < 0
    · rw [if_pos hb0] at hR
      subst hR
      (repeat first|(with_reducible first|(refine hK _ _ ?_;clear hK K)|refine ‹∀σ w,_→K σ w› _ _ ?_|(refine W_st ?_;constructor;try intro K hK))|((with_reducible first|refine hZ _ _ ?_|refine W_rg ?_|skip);repeat1' simp only[push_cast,seval,-Nat.reduceSubDiff,hb0])|((repeat((fail_if_success with_reducible refine hK _ _ ?_);clear hK K));with_reducible refine hK _ _ ?_;clear hK K))
      refine (apop_c h4 hb f).mono ?_
      rintro v w5 ⟨h5, hu5⟩
      have hb5 : okB (toB b f) := ⟨hb.L, hb.at_, by show (b.s.take f).length < _; rw [List.length_take]; omega, hb.l⟩
      (repeat first|(with_reducible first|(refine hK _ _ ?_;clear hK K)|refine ‹∀σ w,_→K σ w› _ _ ?_|(refine W_st ?_;constructor;try intro K hK))|((with_reducible first|refine hZ _ _ ?_|refine W_rg ?_|skip);repeat1' simp only[push_cast,seval,-Nat.reduceSubDiff])|((repeat((fail_if_success with_reducible refine hK _ _ ?_);clear hK K));with_reducible refine hK _ _ ?_;clear hK K))
      refine (bfrem_c h5 hb5 fmt).mono ?_
      rintro v w6 ⟨rfl, h6, hu6⟩
      (repeat first|(with_reducible first|(refine hK _ _ ?_;clear hK K)|refine ‹∀σ w,_→K σ w› _ _ ?_|(refine W_st ?_;constructor;try intro K hK))|((with_reducible first|refine hZ _ _ ?_|refine W_rg ?_|skip);repeat1' simp only[push_cast,seval,-Nat.reduceSubDiff])|((repeat((fail_if_success with_reducible refine hK _ _ ?_);clear hK K));with_reducible refine hK _ _ ?_;clear hK K))
      exact ⟨h6, Upd.trans (Upd.trans hx14.upd hu5 fun _ _ h => h) hu6 fun _ _ h => h⟩
    rw [if_neg hb0] at hR
    have b1 : inI64 ((f : Int) - 1) := by unfold inI64; omega
    obtain ⟨ab, hab⟩ : ∃ a, a = atS b.s ((f : Int) - 1) := ⟨_, rfl⟩
    rw [← hab] at hR
    (repeat first|(with_reducible first|(refine hK _ _ ?_;clear hK K)|refine ‹∀σ w,_→K σ w› _ _ ?_|(refine W_st ?_;constructor;try intro K hK))|((with_reducible first|refine hZ _ _ ?_|refine W_rg ?_|skip);repeat1' simp only[push_cast,seval,-Nat.reduceSubDiff,hb0,b1])|((repeat((fail_if_success with_reducible refine hK _ _ ?_);clear hK K));with_reducible refine hK _ _ ?_;clear hK K))
    refine (bsat_c h4 _).mono ?_
    rintro v w5 ⟨rfl, rfl⟩
    rw [← hab]
    (repeat first|(with_reducible first|(refine hK _ _ ?_;clear hK K)|refine ‹∀σ w,_→K σ w› _ _ ?_|(refine W_st ?_;constructor;try intro K hK))|((with_reducible first|refine hZ _ _ ?_|refine W_rg ?_|skip);repeat1' simp only[push_cast,seval,-Nat.reduceSubDiff])|((repeat((fail_if_success with_reducible refine hK _ _ ?_);clear hK K));with_reducible refine hK _ _ ?_;clear hK K))
    refine (bfindex_c h4 hb fmt).mono ?_
    rintro v w6 ⟨rfl, hx6⟩
    have h6 := h4.pass hx6
    have hx16 := hx14.trans hx6
    have hs6 := hx16.sz
    obtain ⟨mark, hmk⟩ : ∃ m, m = indexN b.l fmt := ⟨_, rfl⟩
    have hmr := Go.Vk.indexN_rng b.l fmt
    rw [← hmk] at hmr ⊢
    have hm1 : -1 ≤ mark ∧ mark ≤ 20000 := by omega
    (repeat first|(with_reducible first|(refine hK _ _ ?_;clear hK K)|refine ‹∀σ w,_→K σ w› _ _ ?_|(refine W_st ?_;constructor;try intro K hK))|((with_reducible first|refine hZ _ _ ?_|refine W_rg ?_|skip);repeat1' simp only[push_cast,seval,-Nat.reduceSubDiff])|((repeat((fail_if_success with_reducible refine hK _ _ ?_);clear hK K));with_reducible refine hK _ _ ?_;clear hK K))
    refine build_struct Tryz.zeroValue178 unRu plRu (cs := runRow pb fmt blk ab mark) (by rfl) ?_
    have hx7 := Ext.alloc w6 (.cells (runRow pb fmt blk ab mark) 178)
    have hp7 : (w6.alloc (.cells (runRow pb fmt blk ab mark) 178)).heap[w6.heap.size]? = some (.cells (runRow pb fmt blk ab mark) 178 (0, 0)) := by rw [heap_alloc_h, if_pos rfl]
    (repeat simp only [push_cast, seval, -Nat.reduceSubDiff, vcells_agg])
    generalize w6.alloc (.cells (runRow pb fmt blk ab mark) 178) = w7 at *
    obtain ⟨pr, hpre⟩ : ∃ p, p = w6.heap.size := ⟨_, rfl⟩
    rw [← hpre] at hp7 ⊢
    have lp7 := blk_lt hp7
    have hs7 := hx7.sz
    have hout := h.out.alike.size
    have h7 : BuAt w0 w7 (fun q => Q q ∨ q = pr) pb ps pl pa b := h6.more hx7 fun q hq => by
      rcases hq with hq | hq
      · exact .inl hq
      · exact .inr ⟨by omega, by omega⟩
    have hQ7 : ∀ q, (Q q ∨ q = pr) → q < w7.heap.size := fun q hq => by
      rcases hq with hq | hq
      · have := hQl q hq; omega
      · omega
    have hpr0 : w0.heap.size ≤ pr := by omega
    -- where the block is
    obtain ⟨j, hj1, hj2, hj3⟩ := furN_at b (b.s.length - (f + 1)) (f + 1) (by show 0 ≤ furB b f; omega)
    have hj3 : (b.s.getD j zS).node = blk := hj3.trans hbk.symm
    have hjl : j < b.s.length := by omega
    have hixj := indexS_ge hjl hj3
    have hixr := indexS_rng b.s blk
    obtain ⟨k0, hk0⟩ : ∃ k0 : Nat, indexS b.s blk = k0 := ⟨(indexS b.s blk).toNat, by omega⟩
    have hfat := (indexS_is (s := b.s) (i := fmt) (by rw [← hat]; omega)).1
    rw [← hat, hf, Int.toNat_natCast] at hfat
    have hI : InwI fmt f (indexS b.s blk).toNat ⟨b, blk, mark⟩ := by
      rw [hk0, Int.toNat_natCast]
      exact ⟨hb, by omega, hfat, by show k0 ≤ b.s.length; omega, by show b.L.length + 2 * k0 + 2 < 90000; omega, hm1⟩
    obtain ⟨k', hI'⟩ := inwN_I (blk := blk) _ 1 _ hI
    obtain ⟨le1, le2, le3⟩ := inwN_le (fmt := fmt) (blk := blk) (indexS b.s blk).toNat 1 ⟨b, blk, mark⟩
    rw [hk0, Int.toNat_natCast] at hI' le1 le2 le3
    dsimp only at le1 le2 le3
    have hRi : inwR b fmt blk = inwN fmt blk k0 1 ⟨b, blk, mark⟩ := by unfold inwR; rw [hk0, Int.toNat_natCast, ← hmk]
    obtain ⟨r, hr⟩ : ∃ r, r = inwN fmt blk k0 1 ⟨b, blk, mark⟩ := ⟨_, rfl⟩
    rw [← hr] at hI' le1 le2 le3 hRi
    have hin := inward_c h7 hQ7 (pr := pr) (.inr rfl) hpr0 hp7 hI (by omega)
    rw [hk0, Int.toNat_natCast, ← hr] at hin
    have hxd := Ext.drew w7
    have hin : ∀ {w8 : World}, Ext w7 w8 → Gives Tryz.prog 166 #[.pointer (some ⟨pr, 0, none⟩)] w8 fun v w' => v = .int .i64 r.last ∧ BuAt w0 w' (fun q => Q q ∨ q = pr) pb ps pl pa r.b ∧ w'.heap[pr]? = some (.cells (runRow pb fmt blk ab r.mark) 178 (0, 0)) ∧ Upd (AFr w0 (fun q => Q q ∨ q = pr) pr) w8 w' := fun hx8 => by
      have := inward_c (h7.pass hx8) (fun q hq => by have := hQ7 q hq; have := hx8.sz; omega) (pr := pr) (.inr rfl) hpr0 (hx8.blk hp7) hI (by omega)
      rwa [hk0, Int.toNat_natCast, ← hr] at this
    (repeat first|(with_reducible first|(refine hK _ _ ?_;clear hK K)|refine ‹∀σ w,_→K σ w› _ _ ?_|(refine W_st ?_;constructor;try intro K hK))|((with_reducible first|refine hZ _ _ ?_|refine W_rg ?_|skip);repeat1' simp only[push_cast,seval,-Nat.reduceSubDiff])|((repeat((fail_if_success with_reducible refine hK _ _ ?_);clear hK K));with_reducible refine hK _ _ ?_;clear hK K))
    have putP : ∀ {w9 : World}, BuAt w0 w9 (fun q => Q q ∨ q = pr) pb ps pl pa r.b → Gives Tryz.prog 74 #[.pointer (some ⟨pb, 0, none⟩), .int .i64 r.last, .int .i64 ab] w9 fun _ w' => BuAt w0 w' (fun q => Q q ∨ q = pr) pb ps pl pa (putB r.b r.last ab) ∧ Upd (AF w0 fun q => Q q ∨ q = pr) w9 w' := fun h9 => bput_c h9 hI'.ok r.last ab
    have toR : ∀ {a c : World}, Upd (AF w0 fun q => Q q ∨ q = pr) a c → Upd (AFr w0 (fun q => Q q ∨ q = pr) pr) a c := fun h => h.mono fun q _ hf => .inl hf
    have kp : ∀ {w1 w2 : World}, Upd (AF w0 fun q => Q q ∨ q = pr) w1 w2 → ∀ {o : Obj}, w1.heap[pr]? = some o → w2.heap[pr]? = some o := fun hu _ ho => (hu.same pr (blk_lt ho) fun hf => hf.2 (.inr rfl)).trans ho
    obtain ⟨b2, hb2⟩ : ∃ b2, b2 = putB r.b r.last ab := ⟨_, rfl⟩
    rw [← hb2] at putP
    have hok2 : okB b2 := hb2 ▸ hI'.ok.put _ _
    obtain ⟨es2, el2⟩ := putB_s r.b r.last ab
    rw [← hb2] at es2 el2
    have eL2 : b2.L.length = r.b.L.length := by rw [hb2]; unfold putB; split <;> simp [len_before, len_append]
    have hmr2 := hI'.m
    have hend : ∀ {w9 : World}, BuAt w0 w9 (fun q => Q q ∨ q = pr) pb ps pl pa b2 → w7.heap.size ≤ w9.heap.size → w9.heap[pr]? = some (.cells (runRow pb fmt blk ab r.mark) 178 (0, 0)) → Gives Tryz.prog 167 #[.pointer (some ⟨pr, 0, none⟩)] w9 fun _ w' => BuAt w0 w' (fun q => Q q ∨ q = pr) pb ps pl pa (renewB b2 fmt blk r.mark) ∧ Upd (AFr w0 (fun q => Q q ∨ q = pr) pr) w9 w' := fun h9 hs9 hp9 =>
      renew_c h9 hok2 (by omega) (by rw [es2]; omega) (by rw [el2]; omega) hmr2 (fun q hq => by have := hQ7 q hq; omega) (.inr rfl) hpr0 hp9
    have hRR : onceR b fmt blk ab = renewB b2 fmt blk r.mark := by unfold onceR; rw [hRi, hb2]
    rw [hRR] at hR
    subst hR
    have fin : ∀ {a : World}, Upd (AFr w0 (fun q => Q q ∨ q = pr) pr) w7 a → Upd (AF w0 Q) w a := fun hu => Upd.trans (hx16.trans hx7).upd hu fun q hq hf => by
      rcases hf with hf | hf
      · exact ⟨hf.1, fun hq => hf.2 (.inl hq)⟩
      · omega
    have lessQ : ∀ {a : World} {c : BSt}, BuAt w0 a (fun q => Q q ∨ q = pr) pb ps pl pa c → BuAt w0 a Q pb ps pl pa c := fun h => h.less fun q hq => .inl hq
    refine W_draw (.pas 0 (.pas 1 (.pas 3 (.pas 4 (.pas 5 (.two 2 (.act 6 (.act 7 .fin)) 6 (.act 2 (.act 7 .fin)))))))) (fun _ => False) (by decide) mixed (by kernel_rfl) ?_
    generalize w7.drew = wd at *
    have hpd := hxd.blk hp7
    unfold runRow at hpd
    (repeat (first | ((first | refine pas_plain rfl ?_ | refine pas_g rfl rfl ?_ | refine act_plain rfl ?_ | refine act_g rfl rfl ?_ | refine last_plain rfl ?_ | refine tail_plain rfl ?_ | refine tail_g rfl rfl ?_); (repeat simp only [push_cast, seval, -Nat.reduceSubDiff, eq_self])) | (refine tail_fin ?_) | (refine sch_fin ?_)))
    refine two_mk ?_ ?_
    · (repeat (first | ((first | refine pas_plain rfl ?_ | refine pas_g rfl rfl ?_ | refine act_plain rfl ?_ | refine act_g rfl rfl ?_ | refine last_plain rfl ?_ | refine tail_plain rfl ?_ | refine tail_g rfl rfl ?_); (repeat simp only [push_cast, seval, -Nat.reduceSubDiff, eq_self])) | (refine tail_fin ?_) | (refine sch_fin ?_)))
      refine (hin hxd).mono ?_
      rintro v w8 ⟨rfl, h8, hp8, hu8⟩
      refine ⟨fun q hq => hq.elim, ?_⟩
      have hs8 := hu8.alike.size
      have hsd := hxd.sz
      unfold runRow at hp8
      (repeat (first | ((first | refine pas_plain rfl ?_ | refine pas_g rfl rfl ?_ | refine act_plain rfl ?_ | refine act_g rfl rfl ?_ | refine last_plain rfl ?_ | refine tail_plain rfl ?_ | refine tail_g rfl rfl ?_); (repeat simp only [push_cast, seval, -Nat.reduceSubDiff, eq_self, cell_h, cellO_cells, hp8])) | (refine tail_fin ?_) | (refine sch_fin ?_)))
      refine ⟨fun q hq => hq.elim, ?_⟩
      (repeat (first | ((first | refine pas_plain rfl ?_ | refine pas_g rfl rfl ?_ | refine act_plain rfl ?_ | refine act_g rfl rfl ?_ | refine last_plain rfl ?_ | refine tail_plain rfl ?_ | refine tail_g rfl rfl ?_); (repeat simp only [push_cast, seval, -Nat.reduceSubDiff, eq_self, cell_h, cellO_cells, hp8])) | (refine tail_fin ?_) | (refine sch_fin ?_)))
      refine (putP h8).mono ?_
      rintro v w9 ⟨h9, hu9⟩
      have hp9 := kp hu9 hp8
      have hs9 := hu9.alike.size
      refine ⟨fun q hq => hq.elim, ?_⟩
      (repeat (first | ((first | refine pas_plain rfl ?_ | refine pas_g rfl rfl ?_ | refine act_plain rfl ?_ | refine act_g rfl rfl ?_ | refine last_plain rfl ?_ | refine tail_plain rfl ?_ | refine tail_g rfl rfl ?_); (repeat simp only [push_cast, seval, -Nat.reduceSubDiff, eq_self])) | (refine tail_fin ?_) | (refine sch_fin ?_)))
      (repeat first|(with_reducible first|(refine hK _ _ ?_;clear hK K)|refine ‹∀σ w,_→K σ w› _ _ ?_|(refine W_st ?_;constructor;try intro K hK))|((with_reducible first|refine hZ _ _ ?_|refine W_rg ?_|skip);repeat1' simp only[push_cast,seval,-Nat.reduceSubDiff])|((repeat((fail_if_success with_reducible refine hK _ _ ?_);clear hK K));with_reducible refine hK _ _ ?_;clear hK K))
      refine (hend h9 (by omega) hp9).mono ?_
      rintro v w10 ⟨h10, hu10⟩
      (repeat first|(with_reducible first|(refine hK _ _ ?_;clear hK K)|refine ‹∀σ w,_→K σ w› _ _ ?_|(refine W_st ?_;constructor;try intro K hK))|((with_reducible first|refine hZ _ _ ?_|refine W_rg ?_|skip);repeat1' simp only[push_cast,seval,-Nat.reduceSubDiff])|((repeat((fail_if_success with_reducible refine hK _ _ ?_);clear hK K));with_reducible refine hK _ _ ?_;clear hK K))
      exact ⟨lessQ h10, fin (Upd.trans (Upd.trans (Upd.trans hxd.upd hu8 fun _ _ h => h) (toR hu9) fun _ _ h => h) hu10 fun _ _ h => h)⟩
    · (repeat (first | ((first | refine pas_plain rfl ?_ | refine pas_g rfl rfl ?_ | refine act_plain rfl ?_ | refine act_g rfl rfl ?_ | refine last_plain rfl ?_ | refine tail_plain rfl ?_ | refine tail_g rfl rfl ?_); (repeat simp only [push_cast, seval, -Nat.reduceSubDiff, eq_self, cell_h, cellO_cells, hpd])) | (refine tail_fin ?_) | (refine sch_fin ?_)))
      refine ⟨fun q hq => hq.elim, ?_⟩
      (repeat (first | ((first | refine pas_plain rfl ?_ | refine pas_g rfl rfl ?_ | refine act_plain rfl ?_ | refine act_g rfl rfl ?_ | refine last_plain rfl ?_ | refine tail_plain rfl ?_ | refine tail_g rfl rfl ?_); (repeat simp only [push_cast, seval, -Nat.reduceSubDiff, eq_self, cell_h, cellO_cells, hpd])) | (refine tail_fin ?_) | (refine sch_fin ?_)))
      refine (hin hxd).mono ?_
      rintro v w8 ⟨rfl, h8, hp8, hu8⟩
      refine ⟨fun q hq => hq.elim, ?_⟩
      have hs8 := hu8.alike.size
      have hsd := hxd.sz
      (repeat (first | ((first | refine pas_plain rfl ?_ | refine pas_g rfl rfl ?_ | refine act_plain rfl ?_ | refine act_g rfl rfl ?_ | refine last_plain rfl ?_ | refine tail_plain rfl ?_ | refine tail_g rfl rfl ?_); (repeat simp only [push_cast, seval, -Nat.reduceSubDiff, eq_self])) | (refine tail_fin ?_) | (refine sch_fin ?_)))
      refine (putP h8).mono ?_
      rintro v w9 ⟨h9, hu9⟩
      have hp9 := kp hu9 hp8
      have hs9 := hu9.alike.size
      refine ⟨fun q hq => hq.elim, ?_⟩
      (repeat (first | ((first | refine pas_plain rfl ?_ | refine pas_g rfl rfl ?_ | refine act_plain rfl ?_ | refine act_g rfl rfl ?_ | refine last_plain rfl ?_ | refine tail_plain rfl ?_ | refine tail_g rfl rfl ?_); (repeat simp only [push_cast, seval, -Nat.reduceSubDiff, eq_self])) | (refine tail_fin ?_) | (refine sch_fin ?_)))
      (repeat first|(with_reducible first|(refine hK _ _ ?_;clear hK K)|refine ‹∀σ w,_→K σ w› _ _ ?_|(refine W_st ?_;constructor;try intro K hK))|((with_reducible first|refine hZ _ _ ?_|refine W_rg ?_|skip);repeat1' simp only[push_cast,seval,-Nat.reduceSubDiff])|((repeat((fail_if_success with_reducible refine hK _ _ ?_);clear hK K));with_reducible refine hK _ _ ?_;clear hK K))
      refine (hend h9 (by omega) hp9).mono ?_
      rintro v w10 ⟨h10, hu10⟩
      (repeat first|(with_reducible first|(refine hK _ _ ?_;clear hK K)|refine ‹∀σ w,_→K σ w› _ _ ?_|(refine W_st ?_;constructor;try intro K hK))|((with_reducible first|refine hZ _ _ ?_|refine W_rg ?_|skip);repeat1' simp only[push_cast,seval,-Nat.reduceSubDiff])|((repeat((fail_if_success with_reducible refine hK _ _ ?_);clear hK K));with_reducible refine hK _ _ ?_;clear hK K))
      exact ⟨lessQ h10, fin (Upd.trans (Upd.trans (Upd.trans hxd.upd hu8 fun _ _ h => h) (toR hu9) fun _ _ h => h) hu10 fun _ _ h => h)⟩
theorem run_c (h : BuAt w0 w Q pb ps pl pa b) (hA : AdOk b) (hg : GL w0) (hQl : ∀ q, Q q → q < w.heap.size) (x : ByteArray) (hr : runOk x 8 b) :
    Gives Tryz.prog 53 #[.pointer (some ⟨pb, 0, none⟩), .string x] w fun v w' => v = .bool (runB b x).2 ∧ BuAt w0 w' Q pb ps pl pa (runB b x).1 ∧ Upd (AF w0 Q) w w' := by
  have hb := hA.ok
  obtain ⟨R, hR⟩ : ∃ R, R = runB b x := ⟨_, rfl⟩
  rw [← hR]
  unfold runB at hR
  refine Gives.of_W Tryz.call53 Tryz.func53 rfl Tryz.ntmps53 (by simp) ?_; intro Z hZ
  (repeat first|(with_reducible first|(refine hK _ _ ?_;clear hK K)|refine ‹∀σ w,_→K σ w› _ _ ?_|(refine W_st ?_;constructor;try intro K hK))|((with_reducible first|refine hZ _ _ ?_|refine W_rg ?_|skip);repeat1' simp only[push_cast,seval,-Nat.reduceSubDiff])|((repeat((fail_if_success with_reducible refine hK _ _ ?_);clear hK K));with_reducible refine hK _ _ ?_;clear hK K))
  refine (barena_c h).mono ?_
  intro v w' ⟨hv, hw⟩
  subst hv; subst w'
  (repeat first|(with_reducible first|(refine hK _ _ ?_;clear hK K)|refine ‹∀σ w,_→K σ w› _ _ ?_|(refine W_st ?_;constructor;try intro K hK))|((with_reducible first|refine hZ _ _ ?_|refine W_rg ?_|skip);repeat1' simp only[push_cast,seval,-Nat.reduceSubDiff])|((repeat((fail_if_success with_reducible refine hK _ _ ?_);clear hK K));with_reducible refine hK _ _ ?_;clear hK K))
  refine bsl (l := [x]) rfl (by decide) (by decide) (by kernel_rfl) ?_
  rintro v w1 hx1 hn1 ⟨bn, rfl⟩
  have h1 := h.pass hx1
  (repeat first|(with_reducible first|(refine hK _ _ ?_;clear hK K)|refine ‹∀σ w,_→K σ w› _ _ ?_|(refine W_st ?_;constructor;try intro K hK))|((with_reducible first|refine hZ _ _ ?_|refine W_rg ?_|skip);repeat1' simp only[push_cast,seval,-Nat.reduceSubDiff])|((repeat((fail_if_success with_reducible refine hK _ _ ?_);clear hK K));with_reducible refine hK _ _ ?_;clear hK K))
  refine (bis_c h1 hb hn1 (show (1 : Nat) < 1000000000 by decide)).mono ?_
  rintro v w2 ⟨rfl, hx2⟩
  have h2 := h1.pass hx2
  have hx02 := hx1.trans hx2
  cases his : isB b [x] with
  | false =>
    rw [his, if_neg (fun h => by cases h.1)] at hR
    (repeat first|(with_reducible first|(refine hK _ _ ?_;clear hK K)|refine ‹∀σ w,_→K σ w› _ _ ?_|(refine W_st ?_;constructor;try intro K hK))|((with_reducible first|refine hZ _ _ ?_|refine W_rg ?_|skip);repeat1' simp only[push_cast,seval,-Nat.reduceSubDiff])|((repeat((fail_if_success with_reducible refine hK _ _ ?_);clear hK K));with_reducible refine hK _ _ ?_;clear hK K))
    refine W_loop (S := Nat × BSt) (fun z => [(0, .pointer (some ⟨pb, 0, none⟩)), (1, .string x), (26, .int .i64 (z.1 : Int))])
      (fun z w4 => z.1 ≤ 8 ∧ R = adoptN x (8 - z.1) z.2 ∧ runOk x (8 - z.1) z.2 ∧ BuAt w0 w4 Q pb ps pl pa z.2 ∧ Upd (AF w0 Q) w w4) (fun z => 8 - z.1) (0, b) ?_ ?_ ?_
    · (repeat simp only [push_cast, seval, -Nat.reduceSubDiff])
    · exact ⟨by omega, hR, hr, h2, hx02.upd⟩
    rintro ⟨j, c⟩ w5 ⟨hj, hRj, hrj, h5, hu5⟩
    dsimp only at hj hRj hrj h5 ⊢
    have hs5 := hu5.alike.size
    by_cases hj8 : j < 8
    · have b0 : (j : Int) < 8 := by omega
      have b2 : inI64 ((j : Int) + 1) := by unfold inI64; omega
      have e8 : 8 - j = (8 - (j + 1)) + 1 := by omega
      rw [e8, runOk] at hrj
      rw [e8, adoptN] at hRj
      obtain ⟨hAc, hrn⟩ := hrj
      (repeat first|(with_reducible first|(refine hK _ _ ?_;clear hK K)|refine ‹∀σ w,_→K σ w› _ _ ?_|(refine W_st ?_;constructor;try intro K hK))|((with_reducible first|refine hZ _ _ ?_|refine W_rg ?_|skip);repeat1' simp only[push_cast,seval,-Nat.reduceSubDiff,b0])|((repeat((fail_if_success with_reducible refine hK _ _ ?_);clear hK K));with_reducible refine hK _ _ ?_;clear hK K))
      refine (once_c h5 hAc hg (fun q hq => by have := hQl q hq; omega) x).mono ?_
      rintro v w6 ⟨rfl, h6, hu6⟩
      have hu06 := Upd.trans hu5 hu6 fun _ _ h => h
      obtain ⟨⟨c', more, done⟩, hcc⟩ : ∃ z, z = onceB c x := ⟨_, rfl⟩
      rw [← hcc] at h6 hRj hrn ⊢
      dsimp only at h6 hRj hrn ⊢
      cases done with
      | false =>
        rw [if_pos rfl] at hRj
        (repeat first|(with_reducible first|(refine hK _ _ ?_;clear hK K)|refine ‹∀σ w,_→K σ w› _ _ ?_|(refine W_st ?_;constructor;try intro K hK))|((with_reducible first|refine hZ _ _ ?_|refine W_rg ?_|skip);repeat1' simp only[push_cast,seval,-Nat.reduceSubDiff,ext0,ext1])|((repeat((fail_if_success with_reducible refine hK _ _ ?_);clear hK K));with_reducible refine hK _ _ ?_;clear hK K))
        exact ⟨by rw [hRj], by rw [hRj]; exact h6, hu06⟩
      | true =>
        rw [if_neg (by decide)] at hRj
        cases more with
        | false =>
          rw [if_pos rfl] at hRj
          (repeat first|(with_reducible first|(refine hK _ _ ?_;clear hK K)|refine ‹∀σ w,_→K σ w› _ _ ?_|(refine W_st ?_;constructor;try intro K hK))|((with_reducible first|refine hZ _ _ ?_|refine W_rg ?_|skip);repeat1' simp only[push_cast,seval,-Nat.reduceSubDiff,ext0,ext1])|((repeat((fail_if_success with_reducible refine hK _ _ ?_);clear hK K));with_reducible refine hK _ _ ?_;clear hK K))
          exact ⟨by rw [hRj], by rw [hRj]; exact h6, hu06⟩
        | true =>
          rw [if_neg (by decide)] at hRj
          (repeat first|(with_reducible first|(refine hK _ _ ?_;clear hK K)|refine ‹∀σ w,_→K σ w› _ _ ?_|(refine W_st ?_;constructor;try intro K hK))|((with_reducible first|refine hZ _ _ ?_|refine W_rg ?_|skip);repeat1' simp only[push_cast,seval,-Nat.reduceSubDiff,ext0,ext1,b2])|((repeat((fail_if_success with_reducible refine hK _ _ ?_);clear hK K));with_reducible refine hK _ _ ?_;clear hK K))
          refine ⟨(j + 1, c'), by show 8 - (j + 1) < 8 - j; omega, ?_⟩
          (repeat simp only [push_cast, seval, -Nat.reduceSubDiff])
          exact ⟨by omega, hRj, hrn rfl rfl, h6, hu06⟩
    · have hje : j = 8 := by omega
      subst hje
      rw [Nat.sub_self, adoptN] at hRj
      (repeat first|(with_reducible first|(refine hK _ _ ?_;clear hK K)|refine ‹∀σ w,_→K σ w› _ _ ?_|(refine W_st ?_;constructor;try intro K hK))|((with_reducible first|refine hZ _ _ ?_|refine W_rg ?_|skip);repeat1' simp only[push_cast,seval,-Nat.reduceSubDiff])|((repeat((fail_if_success with_reducible refine hK _ _ ?_);clear hK K));with_reducible refine hK _ _ ?_;clear hK K))
      exact ⟨by rw [hRj], by rw [hRj]; exact h5, hu5⟩
  | true =>
    rw [his] at hR
    (repeat first|(with_reducible first|(refine hK _ _ ?_;clear hK K)|refine ‹∀σ w,_→K σ w› _ _ ?_|(refine W_st ?_;constructor;try intro K hK))|((with_reducible first|refine hZ _ _ ?_|refine W_rg ?_|skip);repeat1' simp only[push_cast,seval,-Nat.reduceSubDiff])|((repeat((fail_if_success with_reducible refine hK _ _ ?_);clear hK K));with_reducible refine hK _ _ ?_;clear hK K))
    refine (bforms_c h2).mono ?_
    intro v w' ⟨hv, hw⟩
    subst hv; subst w'
    (repeat first|(with_reducible first|(refine hK _ _ ?_;clear hK K)|refine ‹∀σ w,_→K σ w› _ _ ?_|(refine W_st ?_;constructor;try intro K hK))|((with_reducible first|refine hZ _ _ ?_|refine W_rg ?_|skip);repeat1' simp only[push_cast,seval,-Nat.reduceSubDiff])|((repeat((fail_if_success with_reducible refine hK _ _ ?_);clear hK K));with_reducible refine hK _ _ ?_;clear hK K))
    refine (bstack_c h2).mono ?_
    intro v w' ⟨hv, hw⟩
    subst hv; subst w'
    (repeat first|(with_reducible first|(refine hK _ _ ?_;clear hK K)|refine ‹∀σ w,_→K σ w› _ _ ?_|(refine W_st ?_;constructor;try intro K hK))|((with_reducible first|refine hZ _ _ ?_|refine W_rg ?_|skip);repeat1' simp only[push_cast,seval,-Nat.reduceSubDiff])|((repeat((fail_if_success with_reducible refine hK _ _ ?_);clear hK K));with_reducible refine hK _ _ ?_;clear hK K))
    refine (btop_c h2 hb).mono ?_
    intro v w' ⟨hv, hw⟩
    subst hv; subst w'
    (repeat first|(with_reducible first|(refine hK _ _ ?_;clear hK K)|refine ‹∀σ w,_→K σ w› _ _ ?_|(refine W_st ?_;constructor;try intro K hK))|((with_reducible first|refine hZ _ _ ?_|refine W_rg ?_|skip);repeat1' simp only[push_cast,seval,-Nat.reduceSubDiff])|((repeat((fail_if_success with_reducible refine hK _ _ ?_);clear hK K));with_reducible refine hK _ _ ?_;clear hK K))
    refine (bfindex_c h2 hb (topS b.s)).mono ?_
    rintro v w3 ⟨rfl, hx3⟩
    have h3 := h2.pass hx3
    have hx03 := hx02.trans hx3
    by_cases hid : indexN b.l (topS b.s) < 0
    · rw [if_pos ⟨rfl, hid⟩] at hR
      (repeat first|(with_reducible first|(refine hK _ _ ?_;clear hK K)|refine ‹∀σ w,_→K σ w› _ _ ?_|(refine W_st ?_;constructor;try intro K hK))|((with_reducible first|refine hZ _ _ ?_|refine W_rg ?_|skip);repeat1' simp only[push_cast,seval,-Nat.reduceSubDiff,hid])|((repeat((fail_if_success with_reducible refine hK _ _ ?_);clear hK K));with_reducible refine hK _ _ ?_;clear hK K))
      refine (bstack_c h3).mono ?_
      intro v w' ⟨hv, hw⟩
      subst hv; subst w'
      (repeat first|(with_reducible first|(refine hK _ _ ?_;clear hK K)|refine ‹∀σ w,_→K σ w› _ _ ?_|(refine W_st ?_;constructor;try intro K hK))|((with_reducible first|refine hZ _ _ ?_|refine W_rg ?_|skip);repeat1' simp only[push_cast,seval,-Nat.reduceSubDiff])|((repeat((fail_if_success with_reducible refine hK _ _ ?_);clear hK K));with_reducible refine hK _ _ ?_;clear hK K))
      refine (bpop_c h3 hb).mono ?_
      rintro v w4 ⟨rfl, h4, hu4⟩
      (repeat first|(with_reducible first|(refine hK _ _ ?_;clear hK K)|refine ‹∀σ w,_→K σ w› _ _ ?_|(refine W_st ?_;constructor;try intro K hK))|((with_reducible first|refine hZ _ _ ?_|refine W_rg ?_|skip);repeat1' simp only[push_cast,seval,-Nat.reduceSubDiff])|((repeat((fail_if_success with_reducible refine hK _ _ ?_);clear hK K));with_reducible refine hK _ _ ?_;clear hK K))
      exact ⟨by rw [hR], by rw [hR]; exact h4, Upd.trans hx03.upd hu4 fun _ _ h => h⟩
    rw [if_neg (fun h => hid h.2)] at hR
    (repeat first|(with_reducible first|(refine hK _ _ ?_;clear hK K)|refine ‹∀σ w,_→K σ w› _ _ ?_|(refine W_st ?_;constructor;try intro K hK))|((with_reducible first|refine hZ _ _ ?_|refine W_rg ?_|skip);repeat1' simp only[push_cast,seval,-Nat.reduceSubDiff,hid])|((repeat((fail_if_success with_reducible refine hK _ _ ?_);clear hK K));with_reducible refine hK _ _ ?_;clear hK K))
    refine W_loop (S := Nat × BSt) (fun z => [(0, .pointer (some ⟨pb, 0, none⟩)), (1, .string x), (26, .int .i64 (z.1 : Int))])
      (fun z w4 => z.1 ≤ 8 ∧ R = adoptN x (8 - z.1) z.2 ∧ runOk x (8 - z.1) z.2 ∧ BuAt w0 w4 Q pb ps pl pa z.2 ∧ Upd (AF w0 Q) w w4) (fun z => 8 - z.1) (0, b) ?_ ?_ ?_
    · (repeat simp only [push_cast, seval, -Nat.reduceSubDiff])
    · exact ⟨by omega, hR, hr, h3, hx03.upd⟩
    rintro ⟨j, c⟩ w5 ⟨hj, hRj, hrj, h5, hu5⟩
    dsimp only at hj hRj hrj h5 ⊢
    have hs5 := hu5.alike.size
    by_cases hj8 : j < 8
    · have b0 : (j : Int) < 8 := by omega
      have b2 : inI64 ((j : Int) + 1) := by unfold inI64; omega
      have e8 : 8 - j = (8 - (j + 1)) + 1 := by omega
      rw [e8, runOk] at hrj
      rw [e8, adoptN] at hRj
      obtain ⟨hAc, hrn⟩ := hrj
      (repeat first|(with_reducible first|(refine hK _ _ ?_;clear hK K)|refine ‹∀σ w,_→K σ w› _ _ ?_|(refine W_st ?_;constructor;try intro K hK))|((with_reducible first|refine hZ _ _ ?_|refine W_rg ?_|skip);repeat1' simp only[push_cast,seval,-Nat.reduceSubDiff,b0])|((repeat((fail_if_success with_reducible refine hK _ _ ?_);clear hK K));with_reducible refine hK _ _ ?_;clear hK K))
      refine (once_c h5 hAc hg (fun q hq => by have := hQl q hq; omega) x).mono ?_
      rintro v w6 ⟨rfl, h6, hu6⟩
      have hu06 := Upd.trans hu5 hu6 fun _ _ h => h
      obtain ⟨⟨c', more, done⟩, hcc⟩ : ∃ z, z = onceB c x := ⟨_, rfl⟩
      rw [← hcc] at h6 hRj hrn ⊢
      dsimp only at h6 hRj hrn ⊢
      cases done with
      | false =>
        rw [if_pos rfl] at hRj
        (repeat first|(with_reducible first|(refine hK _ _ ?_;clear hK K)|refine ‹∀σ w,_→K σ w› _ _ ?_|(refine W_st ?_;constructor;try intro K hK))|((with_reducible first|refine hZ _ _ ?_|refine W_rg ?_|skip);repeat1' simp only[push_cast,seval,-Nat.reduceSubDiff,ext0,ext1])|((repeat((fail_if_success with_reducible refine hK _ _ ?_);clear hK K));with_reducible refine hK _ _ ?_;clear hK K))
        exact ⟨by rw [hRj], by rw [hRj]; exact h6, hu06⟩
      | true =>
        rw [if_neg (by decide)] at hRj
        cases more with
        | false =>
          rw [if_pos rfl] at hRj
          (repeat first|(with_reducible first|(refine hK _ _ ?_;clear hK K)|refine ‹∀σ w,_→K σ w› _ _ ?_|(refine W_st ?_;constructor;try intro K hK))|((with_reducible first|refine hZ _ _ ?_|refine W_rg ?_|skip);repeat1' simp only[push_cast,seval,-Nat.reduceSubDiff,ext0,ext1])|((repeat((fail_if_success with_reducible refine hK _ _ ?_);clear hK K));with_reducible refine hK _ _ ?_;clear hK K))
          exact ⟨by rw [hRj], by rw [hRj]; exact h6, hu06⟩
        | true =>
          rw [if_neg (by decide)] at hRj
          (repeat first|(with_reducible first|(refine hK _ _ ?_;clear hK K)|refine ‹∀σ w,_→K σ w› _ _ ?_|(refine W_st ?_;constructor;try intro K hK))|((with_reducible first|refine hZ _ _ ?_|refine W_rg ?_|skip);repeat1' simp only[push_cast,seval,-Nat.reduceSubDiff,ext0,ext1,b2])|((repeat((fail_if_success with_reducible refine hK _ _ ?_);clear hK K));with_reducible refine hK _ _ ?_;clear hK K))
          refine ⟨(j + 1, c'), by show 8 - (j + 1) < 8 - j; omega, ?_⟩
          (repeat simp only [push_cast, seval, -Nat.reduceSubDiff])
          exact ⟨by omega, hRj, hrn rfl rfl, h6, hu06⟩
    · have hje : j = 8 := by omega
      subst hje
      rw [Nat.sub_self, adoptN] at hRj
      (repeat first|(with_reducible first|(refine hK _ _ ?_;clear hK K)|refine ‹∀σ w,_→K σ w› _ _ ?_|(refine W_st ?_;constructor;try intro K hK))|((with_reducible first|refine hZ _ _ ?_|refine W_rg ?_|skip);repeat1' simp only[push_cast,seval,-Nat.reduceSubDiff])|((repeat((fail_if_success with_reducible refine hK _ _ ?_);clear hK K));with_reducible refine hK _ _ ?_;clear hK K))
      exact ⟨by rw [hRj], by rw [hRj]; exact h5, hu5⟩
end
end Go.Proofs.YtgnnlaeikcnhcaaGreatDoor
end
section
set_option linter.unusedSimpArgs false
set_option linter.unusedVariables false
namespace Go.Vk
open Go
def bsL (l : List UInt8) : ByteArray := ⟨l.toArray⟩
theorem to_text {P : Program} {s d e : TypeId} (hs : P.underlying s = some (.slice e)) (he : P.underlying e = some (.int .u8)) (hd : P.underlying d = some .string) {w : World} {b n : Nat} {l : List UInt8} (hn : l.length = n)
    (h : ∀ j, (hj : j < l.length) → w.cell? ⟨b, j, none⟩ = some (.int .u8 (l[j].toNat : Int))) {K : Value → World → Prop} (hk : K (.string (bsL l)) w) : RunV P (convert s d (.slice (some ⟨b, 0, none⟩) n n)) w K := by
  subst hn
  refine .of (run_convert_bytes_back w s d e ⟨b, 0, none⟩ l.length l hs he hd fun j hj => ?_) hk
  rw [add_mk, Nat.zero_add, h j hj]
end Go.Vk
namespace Go.Proofs.YtgnnlaeikcnhcaaGreatDoor
open Go Go.Vk
theorem cell_lt {w : World} {b o : Nat} {v : Value} (h : w.cell? ⟨b, o, none⟩ = some v) : b < w.heap.size := by
  rw [cell_h] at h
  by_cases hl : b < w.heap.size
  · exact hl
  · rw [Array.getElem?_eq_none (by omega)] at h; simp [cellO] at h
theorem styB : STy Tryz.prog 22 5 1 := ⟨Tryz.underlying22, Tryz.sizeOf5, fun w => ⟨_, by simp [Tryz.typeInfo5, Sem.run]; rfl, by decide, by decide⟩, fun w => ⟨_, by simp [Tryz.zeroValue5, Sem.run]; rfl, by decide⟩⟩
/-- a text of one byte, out of a new slice -/
theorem one_byte {w : World} (c : UInt8) {K : Value → World → Prop} (h : ∀ b w', Ext w w' → w'.cell? ⟨b, 0, none⟩ = some (.int .u8 (c.toNat : Int)) → K (.slice (some ⟨b, 0, none⟩) 1 1) w') : RunV Tryz.prog (Instr.buildSlice 22 1 #[(0, .int .u8 (c.toNat : Int))]) w K := by
  refine bs_of (parts := [(0, .int .u8 (c.toNat : Int))]) styB (n := 1) (by omega) (by omega) Tryz.zeroValue5 (cs := #[.int .u8 (c.toNat : Int)]) (by kernel_rfl) ?_
  refine h _ _ (Ext.alloc _ _) ?_
  rw [cell_h, heap_alloc_h, if_pos rfl]; rfl
theorem one_text {w : World} {b : Nat} {c : UInt8} (h : w.cell? ⟨b, 0, none⟩ = some (.int .u8 (c.toNat : Int))) {K : Value → World → Prop} (hk : K (.string ⟨#[c]⟩) w) : RunV Tryz.prog (convert 22 9 (.slice (some ⟨b, 0, none⟩) 1 1)) w K :=
  to_text (l := [c]) Tryz.underlying22 Tryz.underlying5 Tryz.underlying9 rfl (fun j hj => by
    have : j = 0 := by simpa using hj
    subst this; exact h) hk
end Go.Proofs.YtgnnlaeikcnhcaaGreatDoor
end
