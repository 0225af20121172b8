/- What Add, Text and More make of nodes: the invariant stays. No program in sight. -/
import Derived.Test.YtkafpameheohdaaGd3
set_option linter.unusedSimpArgs false
set_option linter.unusedVariables false
namespace Go.Vk
theorem kidK_one {k : Int} (h : kidK k = true) : k ≠ 1 := fun e => by subst e; simp [kidK] at h
theorem add_gd {L : List Nd} (h : Gd L) (n : Nd) : Gd (addN L n).1 := by
  unfold addN
  split
  · next hk =>
    have h1 := kidK_one hk
    split
    · have := (h.push (n := { bareN n with content := (L.length : Int) + 1 }) rfl rfl h1).push (n := contN) rfl rfl (by decide)
      simpa using this
    · exact h.push (n := bareN n) rfl rfl h1
  · exact h
theorem add_len (L : List Nd) (n : Nd) : (addN L n).1.length ≤ L.length + 2 := by
  unfold addN
  split
  · split <;> simp
  · simp
def addText (s : ByteArray) (n : Nd) : Nd := { n with text := n.text ++ s }
def textNd (s : ByteArray) : Nd := { zN with kind := 4, text := s, parent := -1, frm := -1, to := -1 }
def atK (r : Int) (ks : List Int) : Int := if r < 0 then (ks.length : Int) else idxF r ks 0
def textN (L : List Nd) (p r : Int) (s : ByteArray) : List Nd × Int :=
  if holdsN L p = true ∧ (r = -1 ∨ ((0 ≤ r ∧ r < L.length) ∧ (gN L r).parent = p)) then
    if s = ⟨#[]⟩ then (L, 0) else
      if 0 < atK r (gN L p).kids ∧ (gN L (((gN L p).kids[(atK r (gN L p).kids - 1).toNat]?).getD 0)).kind = 4 then
        (L.modify (((gN L p).kids[(atK r (gN L p).kids - 1).toNat]?).getD 0).toNat (addText s), 0)
      else (hangN (L ++ [textNd s]) p.toNat r L.length, 0)
  else (L, 2)
theorem Gd.modify {L : List Nd} (h : Gd L) {i : Nat} {f : Nd → Nd} (hf : ∀ n, (f n).kind = n.kind ∧ (f n).parent = n.parent ∧ (f n).kids = n.kids) : Gd (L.modify i f) := by
  by_cases hi : i < L.length
  · refine h.same (by simp) fun t => ?_
    rw [gN_modify hi]
    split
    · exact hf _
    · exact ⟨rfl, rfl, rfl⟩
  · rw [List.modify_eq_self (by omega)]; exact h
/-- a new node is not above anything -/
theorem Gd.new_free {L : List Nd} (h : Gd L) {n : Nd} (hp : n.parent = -1) (hk : n.kids = []) (hkk : kidK n.kind = true) {p : Nat} (hpl : p < L.length) (r : Int) : Gd (hangN (L ++ [n]) p r L.length) := by
  have hpush := h.push hp hk (kidK_one hkk)
  have hlen : (L ++ [n]).length = L.length + 1 := by simp
  have hd := h.down (j := (p : Int)) (by omega)
  have hup : ∀ x, 0 ≤ x → x < (L.length : Int) → upN (L ++ [n]) x = upN L x := fun x _ hx => by
    have hx' : gN (L ++ [n]) x = gN L x := by rw [gN_push, if_neg (by omega)]
    rw [upN_g, upN_g, hx']
  have key : ∀ (k : Nat) (j : Int), dn L.length (upN L) k j = true → ab (upN (L ++ [n])) L.length k j = false := by
    intro k
    induction k with
    | zero => intro j _; rfl
    | succ k ih =>
      intro j hj
      rw [ab]
      by_cases h0 : j < 0
      · rw [if_pos h0]
      · obtain ⟨a, b⟩ := dn_step hj (by omega)
        rw [if_neg h0, hup j (by omega) a, ih _ b]
        simp; omega
  refine hpush.hang (i := L.length) (p := p) (by omega) (by omega) (by rw [gN_push, if_pos rfl]; exact hkk) (k := L.length) ?_ (key _ _ hd) r
  exact dn_more (by rw [hlen]; omega) hup hd
theorem text_gd {L : List Nd} (h : Gd L) (p r : Int) (s : ByteArray) : Gd (textN L p r s).1 := by
  unfold textN
  split
  · next hh =>
    split
    · exact h
    · split
      · exact h.modify fun n => ⟨rfl, rfl, rfl⟩
      · obtain ⟨k, rfl, hk⟩ := holds_in hh.1
        exact h.new_free rfl rfl rfl hk r
  · exact h
theorem text_len (L : List Nd) (p r : Int) (s : ByteArray) : (textN L p r s).1.length ≤ L.length + 1 := by
  unfold textN
  split
  · split
    · simp
    · split
      · simp
      · simp [hangN_len]
  · simp
def more1 (cs : List (ByteArray × ByteArray)) (x : ByteArray × ByteArray) : List (ByteArray × ByteArray) := if cs.any (fun y => decide (y.1 = x.1)) = true then cs else cs ++ [x]
def moreA (cs xs : List (ByteArray × ByteArray)) : List (ByteArray × ByteArray) := xs.foldl more1 cs
def setAttrs (cs : List (ByteArray × ByteArray)) (n : Nd) : Nd := { n with attrs := cs }
def moreN (L : List Nd) (i : Int) (xs : List (ByteArray × ByteArray)) : List Nd × Int :=
  if (0 ≤ i ∧ i < L.length) ∧ (gN L i).kind = 3 then (L.modify i.toNat fun n => setAttrs (moreA n.attrs xs) n, 0) else (L, 2)
theorem more_gd {L : List Nd} (h : Gd L) (i : Int) (xs : List (ByteArray × ByteArray)) : Gd (moreN L i xs).1 := by
  unfold moreN
  split
  · exact h.modify fun n => ⟨rfl, rfl, rfl⟩
  · exact h
theorem more_len (L : List Nd) (i : Int) (xs : List (ByteArray × ByteArray)) : (moreN L i xs).1.length = L.length := by
  unfold moreN
  split <;> simp
end Go.Vk
