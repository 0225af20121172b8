/- hang: a node is put among a parent's kids. -/
import Derived.Test.YtkafpameheohdaaFree
set_option linter.unusedSimpArgs false
set_option linter.unusedVariables false
namespace Go.Vk
def setKids (ks : List Int) (q : Nd) : Nd := { q with kids := ks }
/-- a node's kids are written anew -/
theorem ArM.setKids {w w1 : World} {pa bn cap : Nat} {M : List Laid} (h : ArM w pa bn cap M) {p : Nat} {m : Laid} (hm : M[p]? = some m) {v : Value} {ks : List Int} {bo : Option Nat} (g1 : SlAt w1 1 v (intCells ks) bo)
    (g2 : Upd (fun b => m.kb = some b) w w1) (g3 : ∀ b, bo = some b → m.kb = some b ∨ w.heap.size ≤ b) :
    canO (w1.heap[bn]?) (p * 11 + 8) ∧ ArM (w1.setCell ⟨bn, p * 11 + 8, none⟩ v) pa bn cap (M.set p { nd := Vk.setKids ks m.nd, av := m.av, kv := v, ab := m.ab, kb := bo }) := by
  have hbm : ∀ b, m.kb = some b → b ∈ m.blks := fun b hb => by simp [Laid.blks, hb]
  obtain ⟨nd1, nd2, nd3⟩ := h.nd_blks (List.mem_of_getElem? hm)
  have hbody := h.body.upd g2 fun b hb e => by cases hb; exact nd3 (hbm _ e)
  refine ⟨?_, h.repl hm _ 8 v rfl (by decide) g2 (fun b _ hb => hbm b hb) ⟨(h.sub m (List.mem_of_getElem? hm)).attrs.upd g2 fun b hb e => by simp [Laid.blks, hb, e] at nd1, g1⟩ (fun b hb => ?_) ?_⟩
  · rw [← can_h]
    have := hbody.can (i := p * 11 + 8) (by rw [flat_length]; have := (List.getElem?_eq_some_iff.1 hm).1; omega)
    simpa using this
  · simp only [Laid.blks, List.mem_append, Option.mem_toList] at hb
    rcases hb with hb | hb
    · exact .inl (by simp [Laid.blks, hb])
    · rcases g3 b hb with h | h
      · exact .inl (hbm b h)
      · exact .inr h
  · simp only [Laid.blks]
    have hab : ∀ b, m.ab = some b → b < w.heap.size := fun b hb => (h.sub m (List.mem_of_getElem? hm)).lt (by simp [Laid.blks, hb])
    cases ha : m.ab with
    | none => cases bo <;> simp
    | some a =>
      cases hbo : bo with
      | none => simp
      | some c =>
        have : a ≠ c := fun e => by
          subst e
          rcases g3 a hbo with h | h
          · simp [Laid.blks, ha, h] at nd1
          · have := hab a ha; omega
        simp [this]
def insB (r x : Int) : List Int → List Int
  | [] => [x]
  | y :: l => if r = y then x :: y :: l else y :: insB r x l
def addKid (r x : Int) (q : Nd) : Nd := setKids (if r < 0 then q.kids ++ [x] else insB r x q.kids) q
def hangN (L : List Nd) (p : Nat) (r : Int) (i : Nat) : List Nd := ((freeN L i).modify p (addKid r i)).modify i (setPar p)
theorem insB_mem (r x : Int) : ∀ (l : List Int) (k : Nat), r ∈ l → ∃ j : Nat, idxF r l k = (k + j : Nat) ∧ j < l.length ∧ l.take j ++ [x] ++ l.drop j = insB r x l
  | [], _, h => by simp at h
  | y :: l, k, h => by
    by_cases e : r = y
    · subst e
      exact ⟨0, by simp [idxF], by simp, by simp [insB]⟩
    · obtain ⟨j, h1, h2, h3⟩ := insB_mem r x l (k + 1) (by simpa [e] using h)
      refine ⟨j + 1, by rw [idxF, if_neg e, h1]; simp; omega, by simpa using h2, ?_⟩
      rw [insB, if_neg e, ← h3]; simp
end Go.Vk
