/- hang keeps what holds always. No program in sight. -/
import Derived.Test.YtkafpameheohdaaGd
set_option linter.unusedSimpArgs false
set_option linter.unusedVariables false
namespace Go.Vk
theorem mem_insB (r x y : Int) : ∀ (l : List Int), y ∈ insB r x l ↔ y = x ∨ y ∈ l
  | [] => by simp [insB]
  | z :: l => by
    unfold insB
    split
    · simp
    · rw [List.mem_cons, mem_insB r x y l, List.mem_cons]
      constructor
      · rintro (h | h | h)
        · exact .inr (.inl h)
        · exact .inl h
        · exact .inr (.inr h)
      · rintro (h | h | h)
        · exact .inr (.inl h)
        · exact .inl h
        · exact .inr (.inr h)
theorem nodup_insB (r x : Int) : ∀ {l : List Int}, l.Nodup → x ∉ l → (insB r x l).Nodup
  | [], _, _ => by simp [insB]
  | z :: l, h, hx => by
    unfold insB
    simp only [List.mem_cons, not_or] at hx
    rw [List.nodup_cons] at h
    split
    · exact List.nodup_cons.2 ⟨by simp [hx.1, hx.2], List.nodup_cons.2 h⟩
    · exact List.nodup_cons.2 ⟨fun hm => by
        rcases (mem_insB r x z l).1 hm with e | e
        · exact hx.1 e.symm
        · exact h.1 e, nodup_insB r x h.2 hx.2⟩
def addK (r x : Int) (l : List Int) : List Int := if r < 0 then l ++ [x] else insB r x l
theorem addKid_eq (r x : Int) (q : Nd) : addKid r x q = { q with kids := addK r x q.kids } := rfl
theorem mem_addK (r x y : Int) (l : List Int) : y ∈ addK r x l ↔ y = x ∨ y ∈ l := by
  unfold addK
  split
  · rw [List.mem_append, List.mem_singleton, Or.comm]
  · exact mem_insB r x y l
theorem nodup_addK (r x : Int) {l : List Int} (h : l.Nodup) (hx : x ∉ l) : (addK r x l).Nodup := by
  unfold addK
  split
  · rw [List.nodup_append]
    exact ⟨h, by simp, fun a ha b hb e => by rw [List.mem_singleton] at hb; subst hb; subst e; exact hx ha⟩
  · exact nodup_insB r x h hx
theorem gN_hang {L : List Nd} (h : Gd L) {i p : Nat} (hi : i < L.length) (hp : p < L.length) (r : Int) (t : Int) :
    gN (hangN L p r i) t = { gN L t with kids := if t = p then addK r i ((gN L t).kids.erase i) else (gN L t).kids.erase i, parent := if t = i then (p : Int) else (gN L t).parent } := by
  unfold hangN
  rw [gN_modify (by rw [List.length_modify, freeN_len]; exact hi), gN_modify (by rw [freeN_len]; exact hp), gN_free h hi]
  by_cases e1 : t = i
  · rw [if_pos e1, if_pos e1, if_pos e1]
    by_cases e2 : t = p
    · rw [if_pos e2, if_pos e2]; rfl
    · rw [if_neg e2, if_neg e2]; rfl
  · rw [if_neg e1, if_neg e1, if_neg e1]
    by_cases e2 : t = p
    · rw [if_pos e2, if_pos e2]; rfl
    · rw [if_neg e2, if_neg e2]
theorem Gd.hang {L : List Nd} (h : Gd L) {i p : Nat} (hi : i < L.length) (hp : p < L.length) (hk : kidK (gN L i).kind = true) {k : Nat} (hd : dn L.length (upN L) k p = true) (ha : ab (upN L) i k p = false) (r : Int) : Gd (hangN L p r i) := by
  have hg := gN_hang h hi hp r
  have hl := hangN_len L p r i
  have h6 : ¬ (gN L i).kind = 6 := fun e => by rw [e] at hk; simp [kidK] at hk
  have hup : ∀ x, x ≠ (i : Int) → upN (hangN L p r i) x = upN L x := fun x hx => by
    rw [upN_g, upN_g, hg]; simp [hx]
  have hupi : upN (hangN L p r i) i = p := by
    rw [upN_g, hg]; simp [h6]
  have hni : ∀ t, (i : Int) ∉ (gN L t).kids.erase i := fun t hm => ((h.nd t).mem_erase_iff.1 hm).1 rfl
  refine ⟨fun t j => ?_, fun t => ?_, fun j => ?_, fun j => ?_, fun j hj => ?_, ?_, fun j => ?_⟩
  · rw [hg t, hg j]
    simp only
    by_cases e : j = i
    · subst e
      rw [if_pos rfl]
      by_cases et : t = p
      · rw [if_pos et, mem_addK]
        exact ⟨fun _ => ⟨by omega, et.symm⟩, fun _ => .inl rfl⟩
      · rw [if_neg et]
        exact ⟨fun hm => absurd hm (hni t), fun hm => absurd hm.2.symm et⟩
    · rw [if_neg e]
      have key : j ∈ (gN L t).kids.erase i ↔ 0 ≤ t ∧ (gN L j).parent = t := by
        rw [(h.nd t).mem_erase_iff, h.kid t j]
        exact ⟨fun hm => hm.2, fun hm => ⟨e, hm⟩⟩
      by_cases et : t = p
      · rw [if_pos et, mem_addK, key]
        exact ⟨fun hm => hm.resolve_left e, .inr⟩
      · rw [if_neg et, key]
  · rw [hg t]; simp only
    split
    · exact nodup_addK _ _ ((h.nd t).erase _) (hni t)
    · exact (h.nd t).erase _
  · rw [hg j]; simp only; split
    · omega
    · exact h.low j
  · rw [hg j]; simp only
    split
    · rename_i e; intro _; rw [e]; exact hk
    · exact h.knd j
  · rw [hl] at hj ⊢
    obtain ⟨m, hm⟩ := h.way j hj
    exact dn_cut (i := i) hup (m := k) (by rw [hupi]; exact (dn_same hup ha).2 hd) hm
  · rw [hg]; exact h.doc
  · rw [hg]; exact h.one j
/-- kids are fewer than nodes -/
theorem Gd.few {L : List Nd} (h : Gd L) (t : Int) : (gN L t).kids.length ≤ L.length := by
  have hr : ∀ j ∈ (gN L t).kids, 0 ≤ j ∧ j < L.length := fun j hj => by
    have := (h.kid t j).1 hj
    exact (h.range (j := j) (by omega)).1
  have hn := h.nd t
  generalize (gN L t).kids = l at hr hn
  generalize L.length = n at hr
  induction n generalizing l with
  | zero =>
    cases l with
    | nil => simp
    | cons a r => have := hr a (by simp); omega
  | succ n ih =>
    have := ih (l.erase (n : Int)) (hn.erase _) (fun j hj => by
      have := hn.mem_erase_iff.1 hj
      have := hr j this.2
      omega)
    have h2 : l.length ≤ (l.erase (n : Int)).length + 1 := by
      rw [List.length_erase]; split <;> omega
    omega
end Go.Vk
