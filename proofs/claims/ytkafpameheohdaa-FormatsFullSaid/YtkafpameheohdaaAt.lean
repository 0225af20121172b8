/- An arena that was made since a world w0, and keeps off the blocks of P: what its functions answer, in one shape. -/
import Derived.Test.YtkafpameheohdaaTx
set_option linter.unusedSimpArgs false
set_option linter.unusedVariables false
namespace Go.Vk
/-- blocks that the arena may have -/
def AF (w0 : World) (P : Nat → Prop) (b : Nat) : Prop := w0.heap.size ≤ b ∧ ¬ P b
structure At (w0 w : World) (P : Nat → Prop) (pa : Nat) (L : List Nd) : Prop where
  ar : Ar w pa L (AF w0 P)
  gd : Gd L
  ext : Ext w0 w
  low : ∀ b, P b → b < w.heap.size
def noP : Nat → Prop := fun _ => False
theorem At.next {w0 w w' : World} {P : Nat → Prop} {pa : Nat} {L L' : List Nd} (h : At w0 w P pa L) (ha : Ar w' pa L' (fun b => AF w0 P b ∨ w.heap.size ≤ b)) (hg : Gd L') (hu : Upd (AF w0 P) w w') : At w0 w' P pa L' :=
  ⟨ha.mono fun b _ hb => by
    rcases hb with hb | hb
    · exact hb
    · exact ⟨by have := h.ext.alike.size; omega, fun hp => by have := h.low b hp; omega⟩,
    hg, Upd.trans h.ext hu fun i hi hb => by have := hb.1; omega, fun b hb => by have := h.low b hb; have := hu.alike.size; omega⟩
theorem At.pass {w0 w w' : World} {P : Nat → Prop} {pa : Nat} {L : List Nd} (h : At w0 w P pa L) (hu : Ext w w') : At w0 w' P pa L :=
  ⟨h.ar.ext hu, h.gd, h.ext.trans hu, fun b hb => by have := h.low b hb; have := hu.alike.size; omega⟩
/-- other blocks change, that are not the arena's -/
theorem At.frame {G : Nat → Prop} {w0 w w' : World} {P : Nat → Prop} {pa : Nat} {L : List Nd} (h : At w0 w P pa L) (hu : Upd G w w') (hG : ∀ b, G b → P b ∧ w0.heap.size ≤ b) : At w0 w' P pa L :=
  ⟨h.ar.frame hu fun b hb hg => hb.2 (hG b hg).1, h.gd, Upd.trans h.ext hu fun i hi hb => by have := (hG i hb).2; omega, fun b hb => by have := h.low b hb; have := hu.alike.size; omega⟩
/-- blocks that came since the arena was last looked at: it keeps off them, too -/
theorem At.guard {Q : Nat → Prop} {w0 w w' : World} {P : Nat → Prop} {pa : Nat} {L : List Nd} (h : At w0 w P pa L) (hu : Ext w w') (hQ : ∀ b, Q b → P b ∨ (w.heap.size ≤ b ∧ b < w'.heap.size)) : At w0 w' Q pa L :=
  ⟨(h.ar.mono (G := AF w0 Q) fun b hb hf => ⟨hf.1, fun hq => by rcases hQ b hq with hp | hp; exact hf.2 hp; omega⟩).ext hu, h.gd, h.ext.trans hu, fun b hb => by
    rcases hQ b hb with hp | hp
    · have := h.low b hp; have := hu.alike.size; omega
    · exact hp.2⟩
end Go.Vk
namespace Go.Proofs.Ytkafpameheohdaa
open Go.Vk
theorem new_a {w0 : World} :
    Gives Try.prog 13 #[] w0 fun v w' => ∃ pa, v = .pointer (some ⟨pa, 0, none⟩) ∧ At w0 w' noP pa [docN] :=
  new_c.mono fun v w' ⟨pa, h1, h2, h3⟩ => ⟨pa, h1, h2.mono fun b _ hb => ⟨hb, id⟩, docN_gd, h3, fun _ h => h.elim⟩
section
variable {w0 w : World} {P : Nat → Prop} {pa : Nat} {L : List Nd}
theorem len_a (h : At w0 w P pa L) : Gives Try.prog 18 #[.pointer (some ⟨pa, 0, none⟩)] w fun v w' => v = .int .i64 (L.length : Int) ∧ w' = w := len_c h.ar
theorem add_a (h : At w0 w P pa L) (hb : L.length < 100000) {m : Laid} (hm : RdAt w 2 m.av (attrCells m.nd.attrs)) (hmb : m.nd.attrs.length < 1000000) :
    Gives Try.prog 14 #[.pointer (some ⟨pa, 0, none⟩), m.val] w fun v w' => v = .int .i64 (addN L m.nd).2 ∧ At w0 w' P pa (addN L m.nd).1 ∧ Upd (AF w0 P) w w' :=
  (add_c h.ar h.gd.ne (by omega) hm hmb).mono fun v w' ⟨h1, h2, h3⟩ => ⟨h1, h.next h2 (add_gd h.gd _) h3, h3⟩
theorem append_a (h : At w0 w P pa L) (hb : L.length < 100000) (p i : Int) :
    Gives Try.prog 15 #[.pointer (some ⟨pa, 0, none⟩), .int .i64 p, .int .i64 i] w fun v w' => v = .int .i64 (appendN L p i).2 ∧ At w0 w' P pa (appendN L p i).1 ∧ Upd (AF w0 P) w w' :=
  (append_c h.ar h.gd (by omega) p i).mono fun v w' ⟨h1, h2, h3⟩ => ⟨h1, h.next h2 (append_gd h.gd _ _) h3, h3⟩
theorem before_a (h : At w0 w P pa L) (hb : L.length < 100000) (i r : Int) :
    Gives Try.prog 49 #[.pointer (some ⟨pa, 0, none⟩), .int .i64 i, .int .i64 r] w fun v w' => v = .int .i64 (beforeN L i r).2 ∧ At w0 w' P pa (beforeN L i r).1 ∧ Upd (AF w0 P) w w' :=
  (before_c h.ar h.gd (by omega) i r).mono fun v w' ⟨h1, h2, h3⟩ => ⟨h1, h.next h2 (before_gd h.gd _ _) h3, h3⟩
theorem detach_a (h : At w0 w P pa L) (hb : L.length < 100000) (i : Int) :
    Gives Try.prog 61 #[.pointer (some ⟨pa, 0, none⟩), .int .i64 i] w fun v w' => v = .int .i64 (detachN L i).2 ∧ At w0 w' P pa (detachN L i).1 ∧ Upd (AF w0 P) w w' :=
  (detach_c h.ar h.gd (by omega) i).mono fun v w' ⟨h1, h2, h3⟩ => ⟨h1, h.next h2 (detach_gd h.gd _) h3, h3⟩
theorem move_a (h : At w0 w P pa L) (hb : L.length < 100000) (a b : Int) :
    Gives Try.prog 19 #[.pointer (some ⟨pa, 0, none⟩), .int .i64 a, .int .i64 b] w fun v w' => v = .int .i64 (moveN L a b).2 ∧ At w0 w' P pa (moveN L a b).1 ∧ Upd (AF w0 P) w w' :=
  (move_c h.ar h.gd (by omega) a b).mono fun v w' ⟨h1, h2, h3⟩ => ⟨h1, h.next h2 (move_gd h.gd _ _).1 h3, h3⟩
theorem text_a (h : At w0 w P pa L) (hb : L.length < 100000) (p r : Int) (s : ByteArray) (hs : s.size < 1000000000) (hts : ∀ n ∈ L, n.text.size < 1000000000) :
    Gives Try.prog 16 #[.pointer (some ⟨pa, 0, none⟩), .int .i64 p, .int .i64 r, .string s] w fun v w' => v = .int .i64 (textN L p r s).2 ∧ At w0 w' P pa (textN L p r s).1 ∧ Upd (AF w0 P) w w' :=
  (text_c h.ar h.gd hb p r s hs hts).mono fun v w' ⟨h1, h2, h3⟩ => ⟨h1, h.next h2 (text_gd h.gd _ _ _) h3, h3⟩
theorem node_a (h : At w0 w P pa L) (hb : L.length < 100000) (ha : ∀ n ∈ L, n.attrs.length < 1000000) (i : Int) :
    Gives Try.prog 17 #[.pointer (some ⟨pa, 0, none⟩), .int .i64 i] w fun v w' => ∃ m : Laid, v = m.val ∧ m.nd = (nd? L i).getD zN ∧ m.ok w' ∧ At w0 w' P pa L ∧ Ext w w' ∧ (∀ b ∈ m.blks, w.heap.size ≤ b) ∧ m.blks.Nodup :=
  (node_c h.ar (fun n hn => by
    obtain ⟨k, hk⟩ := List.getElem?_of_mem hn
    refine ⟨?_, ha n hn⟩
    have := h.gd.few k
    rw [gN_nat hk] at this; omega) i).mono fun v w' ⟨m, h1, h2, h3, h4, h5, h6⟩ => ⟨m, h1, h2, h3, h.pass h4, h4, h5, h6⟩
end
end Go.Proofs.Ytkafpameheohdaa
