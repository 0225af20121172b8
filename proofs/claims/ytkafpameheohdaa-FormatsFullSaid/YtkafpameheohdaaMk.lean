/- make of a slice of numbers. -/
import Derived.Test.YtkafpameheohdaaTr
import Derived.Laws.MakeOwn
set_option linter.unusedSimpArgs false
set_option linter.unusedVariables false
namespace Go.Vk
open Go
structure ETy (P : Program) (e : TypeId) (z : Value) : Prop where
  info : ∃ i, P.info? e = some i ∧ i.zero = some z ∧ i.size = 1 ∧ i.bytes ≤ 1024
  one : z.cells = #[z]
theorem madeCells_one (z : Value) (n : Nat) (h : z.cells = #[z]) : madeCells z.cells n = (List.replicate n z).toArray := by
  rw [h]
  apply Array.ext
  · simp [size_madeCells]
  · intro j h1 h2
    simp [madeCells, Nat.mod_one]
theorem make_zero {P : Program} {t e : Nat} (hT : P.underlying t = some (.slice e)) {z : Value} (hE : ETy P e z) {k k' : IntKind} {m : Int} {w : World} {K : Value → World → Prop} {n : Nat} (hm : m = n) (hn : n ≤ 1000000)
    (h : K (.slice (some ⟨w.heap.size, 0, none⟩) n n) (w.alloc (.cells (List.replicate n z).toArray e))) : RunV P (Instr.makeSlice t (.int k m) (.int k' m)) w K := by
  subst hm
  obtain ⟨i, hi, hz, hs, hb⟩ := hE.info
  have hbytes : (i.bytes : Int) * (n : Int) ≤ 281474976710656 := by
    have h1 : i.bytes * n ≤ 1024 * 1000000 := Nat.mul_le_mul hb hn
    rw [← Int.natCast_mul]; omega
  have hr := run_make (P := P) w t e i z hT hi hz k k' n n (by omega) (Int.le_refl _) hbytes (by omega)
  rw [hs, Nat.mul_one, Int.toNat_natCast, madeCells_one z n hE.one] at hr
  exact .of hr h
/-- numbers in a block, by their places -/
def rowF (n : Nat) (f : Nat → Int) : Array Value := ((List.range n).map fun j => Value.int .i64 (f j)).toArray
theorem rowF_size (n : Nat) (f : Nat → Int) : (rowF n f).size = n := by simp [rowF]
theorem rowF_get {n : Nat} (f : Nat → Int) {j : Nat} (h : j < n) : (rowF n f)[j]? = some (.int .i64 (f j)) := by simp [rowF, h]
theorem rowF_set {n : Nat} (f : Nat → Int) {j : Nat} (h : j < n) (v : Int) : (rowF n f).setIfInBounds j (.int .i64 v) = rowF n fun i => if i = j then v else f i := by
  apply Array.ext_getElem?
  intro i
  rw [Array.getElem?_setIfInBounds]
  by_cases e : j = i
  · subst e; rw [if_pos rfl, rowF_size, if_pos h, rowF_get _ h, if_pos rfl]
  · rw [if_neg e]
    by_cases hi : i < n
    · rw [rowF_get _ hi, rowF_get _ hi, if_neg (by omega)]
    · rw [Array.getElem?_eq_none (by rw [rowF_size]; omega), Array.getElem?_eq_none (by rw [rowF_size]; omega)]
theorem rowF_rep (n : Nat) : (List.replicate n (Value.int .i64 0)).toArray = rowF n fun _ => 0 := by
  apply Array.ext_getElem?
  intro i
  by_cases hi : i < n
  · rw [rowF_get _ hi]; simp [hi]
  · rw [Array.getElem?_eq_none (by simp; omega), Array.getElem?_eq_none (by rw [rowF_size]; omega)]
theorem rowF_congr {n : Nat} {f g : Nat → Int} (h : ∀ j, j < n → f j = g j) : rowF n f = rowF n g := by
  apply Array.ext_getElem?
  intro i
  by_cases hi : i < n
  · rw [rowF_get _ hi, rowF_get _ hi, h i hi]
  · rw [Array.getElem?_eq_none (by rw [rowF_size]; omega), Array.getElem?_eq_none (by rw [rowF_size]; omega)]
/-- a node's cells, as the walk reads them -/
theorem NdsAt.get {w : World} {b o n c : Nat} {T : List Laid} {bo : Option Nat} (h : NdsAt w (.slice (some ⟨b, o, none⟩) n c) T bo) {i : Nat} {m : Laid} (hm : T[i]? = some m) {j : Nat} (hj : j < 11) : w.cell? ⟨b, o + i * 11 + j, none⟩ = m.cells[j]? := by
  have e := flat_get T i j m hm hj
  rw [← e]
  have hc : ∃ v, (flat T)[i * 11 + j]? = some v := by
    rw [e]; exact ⟨_, List.getElem?_eq_getElem (by rw [m.cells_length]; exact hj)⟩
  obtain ⟨v, hv⟩ := hc
  rw [hv, Nat.add_assoc]
  exact h.sl.get hv
end Go.Vk
namespace Go.Proofs.Ytkafpameheohdaa
open Go.Vk
theorem ety3 : ETy Try.prog 3 (.int .i64 0) := ⟨⟨Try.t3, by kernel_rfl, rfl, rfl, by decide⟩, rfl⟩
end Go.Proofs.Ytkafpameheohdaa
