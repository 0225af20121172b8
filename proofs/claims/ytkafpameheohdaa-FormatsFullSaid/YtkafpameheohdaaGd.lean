/- What holds of an arena's nodes always, and that free and hang keep it. No program in sight. -/
import Derived.Test.YtkafpameheohdaaInv
set_option linter.unusedSimpArgs false
set_option linter.unusedVariables false
namespace Go.Vk
def noN : Nd := { zN with parent := -1 }
def gN (L : List Nd) (t : Int) : Nd := (nd? L t).getD noN
theorem gN_of {L : List Nd} {t : Int} {n : Nd} (h : nd? L t = some n) : gN L t = n := by simp [gN, h]
theorem gN_nat {L : List Nd} {k : Nat} {n : Nd} (h : L[k]? = some n) : gN L k = n := gN_of (by rw [nd?_nat]; exact h)
theorem gN_none {L : List Nd} {t : Int} (h : ¬ (0 ≤ t ∧ t < L.length)) : gN L t = noN := by
  have := nd?_isSome L t
  rw [decide_eq_false h] at this
  simp only [Option.isSome_eq_false_iff, Option.isNone_iff_eq_none] at this
  simp [gN, this]
theorem upN_g (L : List Nd) (j : Int) : upN L j = if (gN L j).kind = 6 then j - 1 else (gN L j).parent := by
  unfold upN gN
  cases nd? L j <;> simp [noN, zN]
structure Gd (L : List Nd) : Prop where
  kid : ∀ t j, j ∈ (gN L t).kids ↔ 0 ≤ t ∧ (gN L j).parent = t
  nd : ∀ t, (gN L t).kids.Nodup
  low : ∀ j, -1 ≤ (gN L j).parent
  knd : ∀ j, 0 ≤ (gN L j).parent → kidK (gN L j).kind = true
  way : ∀ j : Int, j < L.length → ∃ k, dn L.length (upN L) k j = true
  doc : (gN L 0).kind = 1
  one : ∀ j, (gN L j).kind = 1 → j = 0
theorem gN_modify {L : List Nd} {p : Nat} (hp : p < L.length) (f : Nd → Nd) (t : Int) : gN (L.modify p f) t = if t = p then f (gN L t) else gN L t := by
  by_cases h0 : 0 ≤ t
  · obtain ⟨k, rfl⟩ : ∃ k : Nat, t = k := ⟨t.toNat, by omega⟩
    unfold gN
    rw [nd?_nat, nd?_nat, List.getElem?_modify]
    by_cases e : p = k
    · subst e
      rw [List.getElem?_eq_getElem hp]; simp
    · have e' : ¬ (k : Int) = (p : Int) := by omega
      simp [e, e']
  · rw [gN_none (by omega), gN_none (by omega), if_neg (by omega)]
theorem Gd.range {L : List Nd} (h : Gd L) {j : Int} (hp : 0 ≤ (gN L j).parent) : (0 ≤ j ∧ j < L.length) ∧ (gN L j).parent < L.length := by
  have hm := (h.kid _ j).2 ⟨hp, rfl⟩
  refine ⟨?_, ?_⟩
  · by_cases hj : 0 ≤ j ∧ j < L.length
    · exact hj
    · rw [gN_none hj] at hp; simp [noN] at hp
  · by_cases hj : (gN L j).parent < L.length
    · exact hj
    · rw [gN_none (t := (gN L j).parent) (by omega)] at hm; simp [noN, zN] at hm
theorem freeN_len (L : List Nd) (i : Nat) : (freeN L i).length = L.length := by
  unfold freeN
  split
  · rfl
  · split <;> simp
theorem hangN_len (L : List Nd) (p : Nat) (r : Int) (i : Nat) : (hangN L p r i).length = L.length := by
  unfold hangN; simp [freeN_len]
theorem gN_free {L : List Nd} (h : Gd L) {i : Nat} (hi : i < L.length) (t : Int) :
    gN (freeN L i) t = { gN L t with kids := (gN L t).kids.erase i, parent := if t = i then -1 else (gN L t).parent } := by
  have hn : L[i]? = some L[i] := List.getElem?_eq_getElem hi
  have hg : gN L i = L[i] := gN_nat hn
  generalize L[i] = n at hn hg
  have hmem : ∀ u, (i : Int) ∈ (gN L u).kids ↔ 0 ≤ u ∧ n.parent = u := fun u => by rw [h.kid u i, hg]
  unfold freeN
  rw [hn]
  simp only
  by_cases h0 : n.parent < 0
  · rw [if_pos h0, List.erase_of_not_mem (fun hm => by have := (hmem t).1 hm; omega)]
    by_cases e : t = i
    · subst e
      have := h.low i
      rw [hg] at this ⊢
      have e1 : n.parent = -1 := by omega
      rw [if_pos rfl, ← e1]
    · rw [if_neg e]
  · rw [if_neg h0]
    have hr := (h.range (j := i) (by rw [hg]; omega)).2
    rw [hg] at hr
    rw [gN_modify (by rw [List.length_modify]; exact hi), gN_modify (by omega)]
    have hpt : ((n.parent.toNat : Nat) : Int) = n.parent := by omega
    rw [hpt]
    by_cases e1 : t = n.parent
    · rw [if_pos e1]
      by_cases e2 : t = i
      · rw [if_pos e2, if_pos e2]; rfl
      · rw [if_neg e2, if_neg e2]; rfl
    · rw [if_neg e1, List.erase_of_not_mem (fun hm => e1 (((hmem t).1 hm).2.symm))]
      by_cases e2 : t = i
      · rw [if_pos e2, if_pos e2]; rfl
      · rw [if_neg e2, if_neg e2]
theorem dn_ext {N : Int} {up up' : Int → Int} (hs : ∀ x, up' x = up x) : ∀ (k : Nat) (j : Int), dn N up' k j = dn N up k j := by
  have : up' = up := funext hs
  intro k j; rw [this]
theorem Gd.free {L : List Nd} (h : Gd L) {i : Nat} (hi : i < L.length) (hk : kidK (gN L i).kind = true ∨ (gN L i).parent < 0) : Gd (freeN L i) := by
  have hg := gN_free h hi
  have hl := freeN_len L i
  by_cases hpar : (gN L i).parent < 0
  · have e : freeN L i = L := by
      have hn : L[i]? = some L[i] := List.getElem?_eq_getElem hi
      unfold freeN; rw [hn]; rw [gN_nat hn] at hpar; exact if_pos hpar
    rw [e]; exact h
  have hk' : kidK (gN L i).kind = true := h.knd i (by omega)
  have hup : ∀ x, x ≠ (i : Int) → upN (freeN L i) x = upN L x := fun x hx => by
    rw [upN_g, upN_g, hg]; simp [hx]
  have hupi : upN (freeN L i) i = -1 := by
    rw [upN_g, hg]
    have : ¬ (gN L i).kind = 6 := fun e => by rw [e] at hk'; simp [kidK] at hk'
    simp [this]
  refine ⟨fun t j => ?_, fun t => ?_, fun j => ?_, fun j => ?_, fun j hj => ?_, ?_, fun j => ?_⟩
  · rw [hg t, hg j]
    simp only
    by_cases e : j = i
    · subst e
      rw [if_pos rfl]
      exact ⟨fun hm => absurd hm (fun hm => ((h.nd t).mem_erase_iff.1 hm).1 rfl), fun hm => by omega⟩
    · rw [if_neg e, (h.nd t).mem_erase_iff, h.kid t j]
      exact ⟨fun hm => hm.2, fun hm => ⟨e, hm⟩⟩
  · rw [hg t]; exact (h.nd t).erase _
  · rw [hg j]; simp only; split
    · omega
    · exact h.low j
  · rw [hg j]; simp only
    split
    · intro hh; omega
    · exact h.knd j
  · rw [hl] at hj ⊢
    obtain ⟨k, hk⟩ := h.way j hj
    exact dn_cut (i := i) hup (m := 0) (by rw [hupi]; exact dn_neg (by omega) 0) hk
  · rw [hg]; exact h.doc
  · rw [hg]; exact h.one j
end Go.Vk
