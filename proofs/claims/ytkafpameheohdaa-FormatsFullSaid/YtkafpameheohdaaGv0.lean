/- The chapter's nodes, step by step. No program in sight. -/
import Derived.Test.YtkafpameheohdaaIn
set_option linter.unusedSimpArgs false
set_option linter.unusedVariables false
namespace Go.Vk
def elN (s : ByteArray) : Nd := { zN with kind := 3, name := s }
def sDiv : ByteArray := ⟨#[100, 105, 118]⟩
def s_a : ByteArray := ⟨#[97]⟩
def s_b : ByteArray := ⟨#[98]⟩
def s_c : ByteArray := ⟨#[99]⟩
def g1 : List Nd := (addN [docN] (elN sDiv)).1
def g2 : List Nd := (appendN g1 0 1).1
def g3 : List Nd := (addN g2 (elN tmpl)).1
def g4 : List Nd := (appendN g3 1 2).1
def g5 : List Nd := (textN g4 1 (-1) s_a).1
def g6 : List Nd := (textN g5 1 (-1) s_b).1
def g7 : List Nd := (textN g6 1 4 s_c).1
def g8 : List Nd := (beforeN g7 5 2).1
theorem g1_e : addN [docN] (elN sDiv) = (g1, 1) := Prod.ext rfl rfl
theorem g2_e : appendN g1 0 1 = (g2, 0) := Prod.ext rfl (by rfl)
theorem g3_e : addN g2 (elN tmpl) = (g3, 2) := Prod.ext rfl (by rfl)
theorem g3_n : ((nd? g3 2).getD zN).content = 3 := by rfl
theorem g4_e : appendN g3 1 2 = (g4, 0) := Prod.ext rfl (by rfl)
theorem g4_x : appendN g4 3 1 = (g4, 2) := by rfl
theorem g5_e : textN g4 1 (-1) s_a = (g5, 0) := Prod.ext rfl (by rfl)
theorem g6_e : textN g5 1 (-1) s_b = (g6, 0) := Prod.ext rfl (by rfl)
theorem g6_n : ((nd? g6 4).getD zN).text = ⟨#[97, 98]⟩ := by rfl
theorem g7_e : textN g6 1 4 s_c = (g7, 0) := Prod.ext rfl (by rfl)
theorem g8_e : beforeN g7 5 2 = (g8, 0) := Prod.ext rfl (by rfl)
theorem g8_k : ((nd? g8 1).getD zN).kids = [5, 2, 4] := by rfl
theorem g8_m : moveN g8 1 3 = (g8, 2) := by rfl
theorem g8_l : g8.length = 6 := by rfl
theorem g8_3 : ((nd? g8 3).getD zN).kind = 6 := by rfl
theorem g8_9 : ((nd? g8 9).getD zN).kind = 0 := by rfl
end Go.Vk
