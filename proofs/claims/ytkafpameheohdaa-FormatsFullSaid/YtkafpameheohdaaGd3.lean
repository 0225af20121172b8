/- The invariant under a node that is put behind all, and under changes that leave kinds, parents and kids alone. No program in sight. -/
import Derived.Test.YtkafpameheohdaaOp1
set_option linter.unusedSimpArgs false
set_option linter.unusedVariables false
namespace Go.Vk
theorem dn_more {N N' : Int} {up up' : Int → Int} (hN : N ≤ N') (hs : ∀ x, 0 ≤ x → x < N → up' x = up x) : ∀ {k : Nat} {j : Int}, dn N up k j = true → dn N' up' k j = true
  | 0, j, h => by simpa [dn] using h
  | k + 1, j, h => by
    rw [dn] at h ⊢
    simp only [Bool.or_eq_true, Bool.and_eq_true, decide_eq_true_eq] at h ⊢
    by_cases h0 : j < 0
    · exact .inl h0
    · rcases h with h | h
      · exact absurd h h0
      · exact .inr ⟨by omega, by rw [hs j (by omega) h.1]; exact dn_more hN hs h.2⟩
theorem gN_push (L : List Nd) (n : Nd) (t : Int) : gN (L ++ [n]) t = if t = L.length then n else gN L t := by
  by_cases h0 : 0 ≤ t ∧ t < (L.length : Int) + 1
  · obtain ⟨k, rfl⟩ : ∃ k : Nat, t = k := ⟨t.toNat, by omega⟩
    unfold gN
    rw [nd?_nat, nd?_nat]
    by_cases e : k = L.length
    · subst e; simp
    · rw [List.getElem?_append_left (by omega), if_neg (by omega)]
  · rw [if_neg (by omega), gN_none (by simp; omega), gN_none (by omega)]
theorem gN_set {L : List Nd} {p : Nat} (hp : p < L.length) (n : Nd) (t : Int) : gN (L.set p n) t = if t = p then n else gN L t := by
  have : L.set p n = L.modify p (fun _ => n) := by
    apply List.ext_getElem?
    intro i
    rw [List.getElem?_set, List.getElem?_modify]
    by_cases e : p = i
    · subst e; simp [hp]
    · simp [e]
  rw [this, gN_modify hp]
theorem Gd.push {L : List Nd} (h : Gd L) {n : Nd} (hp : n.parent = -1) (hk : n.kids = []) (h1 : n.kind ≠ 1) : Gd (L ++ [n]) := by
  have hg := gN_push L n
  have hne := h.ne
  have hpos : 0 < L.length := List.length_pos_iff.2 hne
  have hgl : gN L L.length = noN := gN_none (by omega)
  have hlen : (L ++ [n]).length = L.length + 1 := by simp
  refine ⟨fun t j => ?_, fun t => ?_, fun j => ?_, fun j => ?_, fun j hj => ?_, ?_, fun j => ?_⟩
  · rw [hg t, hg j]
    by_cases et : t = L.length
    · rw [if_pos et, hk]
      refine ⟨fun hm => by simp at hm, fun ⟨h0, hm⟩ => ?_⟩
      by_cases ej : j = L.length
      · rw [if_pos ej, hp] at hm; omega
      · rw [if_neg ej] at hm
        have := (h.range (j := j) (by omega)).2
        omega
    · rw [if_neg et]
      by_cases ej : j = L.length
      · rw [if_pos ej, hp, h.kid t j, ej, hgl]
        exact ⟨fun ⟨a, b⟩ => by simp [noN] at b; omega, fun ⟨a, b⟩ => by omega⟩
      · rw [if_neg ej]; exact h.kid t j
  · rw [hg t]; split
    · rw [hk]; exact List.nodup_nil
    · exact h.nd t
  · rw [hg j]; split
    · omega
    · exact h.low j
  · rw [hg j]; split
    · intro; omega
    · exact h.knd j
  · have hup : ∀ x, 0 ≤ x → x < (L.length : Int) → upN (L ++ [n]) x = upN L x := fun x _ hx => by
      have hx' : gN (L ++ [n]) x = gN L x := by rw [hg, if_neg (by omega)]
      rw [upN_g, upN_g, hx']
    have hold : ∀ j : Int, j < L.length → ∃ k, dn (L ++ [n]).length (upN (L ++ [n])) k j = true := fun j hj => by
      obtain ⟨k, hk⟩ := h.way j hj
      exact ⟨k, dn_more (by rw [hlen]; omega) hup hk⟩
    by_cases ej : j = L.length
    · have hu : upN (L ++ [n]) j = if n.kind = 6 then j - 1 else n.parent := by rw [upN_g, hg, if_pos ej]
      obtain ⟨k, hk⟩ := hold (upN (L ++ [n]) j) (by rw [hu]; split <;> omega)
      refine ⟨k + 1, ?_⟩
      rw [dn]
      simp only [Bool.or_eq_true, Bool.and_eq_true, decide_eq_true_eq]
      exact .inr ⟨hj, hk⟩
    · exact hold j (by rw [hlen] at hj; omega)
  · rw [hg, if_neg (by omega)]; exact h.doc
  · rw [hg]; split
    · intro hh; exact absurd hh h1
    · exact h.one j
theorem Gd.same {L L' : List Nd} (h : Gd L) (hl : L'.length = L.length) (hs : ∀ t, (gN L' t).kind = (gN L t).kind ∧ (gN L' t).parent = (gN L t).parent ∧ (gN L' t).kids = (gN L t).kids) : Gd L' := by
  have hup : ∀ x, upN L' x = upN L x := fun x => by rw [upN_g, upN_g, (hs x).1, (hs x).2.1]
  refine ⟨fun t j => ?_, fun t => ?_, fun j => ?_, fun j => ?_, fun j hj => ?_, ?_, fun j => ?_⟩
  · rw [(hs t).2.2, (hs j).2.1]; exact h.kid t j
  · rw [(hs t).2.2]; exact h.nd t
  · rw [(hs j).2.1]; exact h.low j
  · rw [(hs j).2.1, (hs j).1]; exact h.knd j
  · rw [hl] at hj ⊢
    obtain ⟨k, hk⟩ := h.way j hj
    exact ⟨k, by rw [dn_ext hup]; exact hk⟩
  · rw [(hs 0).1]; exact h.doc
  · rw [(hs j).1]; exact h.one j
theorem docN_gd : Gd [docN] := by
  have hg : ∀ t : Int, gN [docN] t = if t = 0 then docN else noN := fun t => by
    by_cases e : t = 0
    · subst e; rfl
    · rw [if_neg e, gN_none (by simp; omega)]
  refine ⟨fun t j => ?_, fun t => ?_, fun j => ?_, fun j => ?_, fun j hj => ?_, ?_, fun j => ?_⟩
  · rw [hg t, hg j]; split <;> split <;> simp [docN, noN, zN] <;> omega
  · rw [hg t]; split <;> simp [docN, noN, zN]
  · rw [hg j]; split <;> simp [docN, noN, zN]
  · rw [hg j]; split <;> simp [docN, noN, zN]
  · refine ⟨1, ?_⟩
    simp only [List.length_singleton] at hj ⊢
    have : upN [docN] j < 0 := by
      rw [upN_g, hg]; split <;> simp [docN, noN, zN]
    simp [dn, this]; omega
  · rw [hg]; rfl
  · rw [hg]; split
    · intro _; assumption
    · intro hh; simp [noN, zN] at hh
end Go.Vk
