/- Characters at two places: what Text makes of them. No program in sight. -/
import Derived.Test.YtkafpameheohdaaGv
set_option linter.unusedSimpArgs false
set_option linter.unusedVariables false
namespace Go.Vk
theorem lapp_nil {α : Type} (r : List α) : List.append [] r = r := rfl
theorem lapp_cons {α : Type} (x : α) (l r : List α) : List.append (x :: l) r = x :: List.append l r := rfl
/-- a region whose steps are written in two parts -/
theorem Wo_flat {P : Program} {l l' : List Oper} {σ : Regs} {w : World} {K : Regs → World → Prop} (hl : l = l') (h : Wo P l'.toArray l' σ w K) : Wo P l.toArray l σ w K := by subst hl; exact h
def t1 : List Nd := (addN [docN] (elN ⟨#[112]⟩)).1
def t2 : List Nd := (addN t1 (elN s_b)).1
def t3 : List Nd := (appendN t2 0 1).1
def t4 : List Nd := (appendN t3 1 2).1
theorem t1_e : addN [docN] (elN ⟨#[112]⟩) = (t1, 1) := Prod.ext rfl rfl
theorem t2_e : addN t1 (elN s_b) = (t2, 2) := Prod.ext rfl (by rfl)
theorem t3_e : appendN t2 0 1 = (t3, 0) := Prod.ext rfl (by rfl)
theorem t4_e : appendN t3 1 2 = (t4, 0) := Prod.ext rfl (by rfl)
def t5 (s : ByteArray) : List Nd := hangN (t4 ++ [textNd s]) 1 (-1) 3
def t6 (s u : ByteArray) : List Nd := hangN (t5 s ++ [textNd u]) 1 2 4
def TL (s : ByteArray) : List Nd := if s = ⟨#[]⟩ then t4 else t6 s s
theorem app_empty (s : ByteArray) : s ++ (⟨#[]⟩ : ByteArray) = s := by
  apply ByteArray.ext; simp
theorem app_ne {s x : ByteArray} (h : s ≠ ⟨#[]⟩) : s ++ x ≠ ⟨#[]⟩ := fun e => h (by
  have : (s ++ x).data = #[] := by rw [e]
  rw [ByteArray.data_append] at this
  apply ByteArray.ext
  simpa using (Array.append_eq_empty_iff.1 this).1)
theorem empty_app (x : ByteArray) : (⟨#[]⟩ : ByteArray) ++ x = x := by
  apply ByteArray.ext; simp
theorem t5_e {x : ByteArray} (hx : x ≠ ⟨#[]⟩) : textN t4 1 (-1) x = (t5 x, 0) := by
  unfold textN
  rw [if_pos ⟨by rfl, .inl rfl⟩, if_neg hx, if_neg (fun h => absurd h.2 (by decide))]
  rfl
theorem t6_e {x : ByteArray} (u : ByteArray) (hx : x ≠ ⟨#[]⟩) : textN (t5 u) 1 2 x = (t6 u x, 0) := by
  unfold textN
  rw [if_pos ⟨by rfl, .inr ⟨⟨by decide, show (2 : Int) < 4 by decide⟩, by rfl⟩⟩, if_neg hx, if_neg (fun h => absurd h.1 (show ¬ (0 : Int) < 0 by decide))]
  rfl
theorem t7_e {x : ByteArray} (s u : ByteArray) (hx : x ≠ ⟨#[]⟩) : textN (t6 s u) 1 (-1) x = (t6 (s ++ x) u, 0) := by
  unfold textN
  rw [if_pos ⟨by rfl, .inl rfl⟩, if_neg hx, if_pos ⟨show (0 : Int) < 3 by decide, by rfl⟩]
  rfl
theorem t8_e {x : ByteArray} (s u : ByteArray) (hx : x ≠ ⟨#[]⟩) : textN (t6 s u) 1 2 x = (t6 s (u ++ x), 0) := by
  unfold textN
  rw [if_pos ⟨by rfl, .inr ⟨⟨by decide, show (2 : Int) < 5 by decide⟩, by rfl⟩⟩, if_neg hx, if_pos ⟨show (0 : Int) < 1 by decide, by rfl⟩]
  rfl
theorem t4_0 (r : Int) (hr : r = -1 ∨ r = 2) : textN t4 1 r ⟨#[]⟩ = (t4, 0) := by
  rcases hr with rfl | rfl <;> rfl
theorem t6_0 (s u : ByteArray) (r : Int) (hr : r = -1 ∨ r = 2) : textN (t6 s u) 1 r ⟨#[]⟩ = (t6 s u, 0) := by
  rcases hr with rfl | rfl <;> rfl
theorem t6_small (s u : ByteArray) (N : Nat) (hN : 0 < N) (h1 : s.size < N) (h2 : u.size < N) : ∀ n ∈ t6 s u, n.text.size < N := by
  have e : ∃ a b c d f : Nd, t6 s u = [a, b, c, d, f] ∧ a.text.size = 0 ∧ b.text.size = 0 ∧ c.text.size = 0 ∧ d.text = s ∧ f.text = u := ⟨_, _, _, _, _, rfl, rfl, rfl, rfl, rfl, rfl⟩
  obtain ⟨a, b, c, d, f, e, e1, e2, e3, e4, e5⟩ := e
  rw [e]
  intro n hn
  simp only [List.mem_cons, List.not_mem_nil, or_false] at hn
  rcases hn with rfl | rfl | rfl | rfl | rfl
  · omega
  · omega
  · omega
  · rw [e4]; exact h1
  · rw [e5]; exact h2
theorem t5_small (s : ByteArray) (N : Nat) (hN : 0 < N) (h1 : s.size < N) : ∀ n ∈ t5 s, n.text.size < N := by
  have e : ∃ a b c d : Nd, t5 s = [a, b, c, d] ∧ a.text.size = 0 ∧ b.text.size = 0 ∧ c.text.size = 0 ∧ d.text = s := ⟨_, _, _, _, rfl, rfl, rfl, rfl, rfl⟩
  obtain ⟨a, b, c, d, e, e1, e2, e3, e4⟩ := e
  rw [e]
  intro n hn
  simp only [List.mem_cons, List.not_mem_nil, or_false] at hn
  rcases hn with rfl | rfl | rfl | rfl
  · omega
  · omega
  · omega
  · rw [e4]; exact h1
theorem t4_small (N : Nat) (hN : 0 < N) : ∀ n ∈ t4, n.text.size < N := by
  have e : ∃ a b c : Nd, t4 = [a, b, c] ∧ a.text.size = 0 ∧ b.text.size = 0 ∧ c.text.size = 0 := ⟨_, _, _, rfl, rfl, rfl, rfl⟩
  obtain ⟨a, b, c, e, e1, e2, e3⟩ := e
  rw [e]
  intro n hn
  simp only [List.mem_cons, List.not_mem_nil, or_false] at hn
  rcases hn with rfl | rfl | rfl <;> omega
def TM (s x : ByteArray) : List Nd := (textN (TL s) 1 (-1) x).1
theorem TL_len (s : ByteArray) : (TL s).length ≤ 5 := by
  unfold TL; split
  · decide
  · exact Nat.le_refl 5
theorem TL_small (s : ByteArray) (N : Nat) (hN : 0 < N) (h : s.size < N) : ∀ n ∈ TL s, n.text.size < N := by
  unfold TL; split
  · exact t4_small N hN
  · exact t6_small _ _ N hN h h
theorem TL_step (s x : ByteArray) (N : Nat) (hN : 0 < N) (h : s.size + x.size < N) : textN (TL s) 1 (-1) x = (TM s x, 0) ∧ textN (TM s x) 1 2 x = (TL (s ++ x), 0) ∧ (TM s x).length ≤ 5 ∧ ∀ n ∈ TM s x, n.text.size < N := by
  unfold TM
  by_cases hx : x = ⟨#[]⟩
  · subst hx
    rw [app_empty]
    unfold TL
    by_cases hs : s = ⟨#[]⟩
    · rw [if_pos hs, t4_0 _ (.inl rfl)]
      exact ⟨rfl, t4_0 _ (.inr rfl), by decide, t4_small N hN⟩
    · rw [if_neg hs, t6_0 _ _ _ (.inl rfl)]
      exact ⟨rfl, t6_0 _ _ _ (.inr rfl), Nat.le_refl 5, t6_small _ _ N hN (by omega) (by omega)⟩
  · by_cases hs : s = ⟨#[]⟩
    · subst hs
      rw [empty_app]
      unfold TL
      rw [if_pos rfl, if_neg hx, t5_e hx]
      exact ⟨rfl, t6_e _ hx, show (4 : Nat) ≤ 5 by decide, t5_small _ N hN (by omega)⟩
    · unfold TL
      rw [if_neg hs, if_neg (app_ne hs), t7_e _ _ hx]
      refine ⟨rfl, t8_e _ _ hx, Nat.le_refl 5, t6_small _ _ N hN ?_ (by omega)⟩
      rw [ByteArray.size_append]; exact h
theorem TL_attrs (s : ByteArray) : ∀ n ∈ TL s, n.attrs.length < 1000000 := by
  unfold TL
  split
  · decide
  · have e : ∃ a b c d f : Nd, t6 s s = [a, b, c, d, f] ∧ a.attrs = [] ∧ b.attrs = [] ∧ c.attrs = [] ∧ d.attrs = [] ∧ f.attrs = [] := ⟨_, _, _, _, _, rfl, rfl, rfl, rfl, rfl, rfl⟩
    obtain ⟨a, b, c, d, f, e, e1, e2, e3, e4, e5⟩ := e
    rw [e]
    intro n hn
    simp only [List.mem_cons, List.not_mem_nil, or_false] at hn
    rcases hn with rfl | rfl | rfl | rfl | rfl <;> simp [*]
theorem t6_x1 (s : ByteArray) (x : ByteArray) : textN (t6 s s) 2 4 x = (t6 s s, 2) := by
  unfold textN
  rw [if_neg (fun h => by
    rcases h.2 with h | h
    · exact absurd h (by decide)
    · exact absurd h.2 (show ¬ (1 : Int) = 2 by decide))]
theorem t6_x2 (s : ByteArray) (x : ByteArray) : textN (t6 s s) 4 (-1) x = (t6 s s, 2) := by
  unfold textN
  rw [if_neg (fun h => absurd h.1 (show ¬ false = true by decide))]
def cat (l : List ByteArray) : ByteArray := l.foldl (· ++ ·) ⟨#[]⟩
theorem cat_take (l : List ByteArray) {k : Nat} {x : ByteArray} (h : l[k]? = some x) : cat (l.take (k + 1)) = cat (l.take k) ++ x := by
  rw [List.take_add_one, h]; simp [cat]
end Go.Vk
