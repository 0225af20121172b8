/- The tree that an arena's nodes make: what holds of it always. No program in sight. -/
import Derived.Test.YtkafpameheohdaaHang
set_option linter.unusedSimpArgs false
set_option linter.unusedVariables false
namespace Go.Vk
/- ways up that end -/
def dn (N : Int) (up : Int → Int) : Nat → Int → Bool
  | 0, j => decide (j < 0)
  | k + 1, j => decide (j < 0) || (decide (j < N) && dn N up k (up j))
def ab (up : Int → Int) (i : Int) : Nat → Int → Bool
  | 0, _ => false
  | k + 1, j => if j < 0 then false else decide (j = i) || ab up i k (up j)
theorem downN_dn (L : List Nd) : ∀ (k : Nat) (j : Int), downN L k j = dn L.length (upN L) k j
  | 0, _ => rfl
  | k + 1, j => by rw [downN, dn, downN_dn L k]
theorem aboveF_ab (L : List Nd) (i : Int) : ∀ (k : Nat) (j : Int), aboveF L i k j = ab (upN L) i k j
  | 0, _ => rfl
  | k + 1, j => by rw [aboveF, ab, aboveF_ab L i k]
section
variable {N : Int} {up up' : Int → Int} {i j : Int}
theorem dn_neg (h : j < 0) : ∀ k, dn N up k j = true
  | 0 => by simp [dn, h]
  | k + 1 => by simp [dn, h]
theorem dn_mono : ∀ {k : Nat} {j : Int}, dn N up k j = true → dn N up (k + 1) j = true
  | 0, j, h => dn_neg (by simpa [dn] using h) _
  | k + 1, j, h => by
    rw [dn] at h ⊢
    simp only [Bool.or_eq_true, Bool.and_eq_true, decide_eq_true_eq] at h ⊢
    rcases h with h | h
    · exact .inl h
    · exact .inr ⟨h.1, dn_mono h.2⟩
theorem dn_le {k m : Nat} (h : dn N up k j = true) (hk : k ≤ m) : dn N up m j = true := by
  induction hk with
  | refl => exact h
  | step _ ih => exact dn_mono ih
theorem dn_step {k : Nat} (h : dn N up (k + 1) j = true) (hj : 0 ≤ j) : j < N ∧ dn N up k (up j) = true := by
  rw [dn] at h
  simpa [show ¬ j < 0 by omega] using h
theorem php : ∀ (n : Nat) (f : Nat → Nat), (∀ i, i ≤ n → f i < n) → ∃ a b, a < b ∧ b ≤ n ∧ f a = f b
  | 0, f, h => absurd (h 0 (Nat.le_refl _)) (by omega)
  | n + 1, f, h => by
    by_cases hx : ∃ a, a ≤ n ∧ f a = f (n + 1)
    · obtain ⟨a, h1, h2⟩ := hx
      exact ⟨a, n + 1, by omega, Nat.le_refl _, h2⟩
    · have hx' : ∀ a, a ≤ n → f a ≠ f (n + 1) := fun a h1 h2 => hx ⟨a, h1, h2⟩
      obtain ⟨a, b, h1, h2, h3⟩ := php n (fun i => if f i = n then f (n + 1) else f i) (fun i hi => by
        have e1 := h i (by omega)
        have e2 := h (n + 1) (Nat.le_refl _)
        have e3 := hx' i hi
        show (if f i = n then f (n + 1) else f i) < n
        split <;> omega)
      have e1 := hx' a (by omega)
      have e2 := hx' b h2
      refine ⟨a, b, h1, by omega, ?_⟩
      have h3 : (if f a = n then f (n + 1) else f a) = (if f b = n then f (n + 1) else f b) := h3
      split at h3 <;> split at h3 <;> omega
def iter (up : Int → Int) : Nat → Int → Int
  | 0, j => j
  | k + 1, j => iter up k (up j)
theorem dn_iter : ∀ {a k : Nat} {j : Int}, dn N up (a + k) j = true → (∀ b, b < a → 0 ≤ iter up b j) → dn N up k (iter up a j) = true
  | 0, k, j, h, _ => by simpa [iter] using h
  | a + 1, k, j, h, hn => by
    have h0 : 0 ≤ j := hn 0 (by omega)
    rw [show a + 1 + k = (a + k) + 1 by omega] at h
    show dn N up k (iter up a (up j)) = true
    exact dn_iter (dn_step h h0).2 fun b hb => hn (b + 1) (by omega)
theorem dn_of_iter : ∀ {a k : Nat} {j : Int}, (∀ b, b < a → iter up b j < N) → dn N up k (iter up a j) = true → dn N up (a + k) j = true
  | 0, k, j, _, h => by simpa [iter] using h
  | a + 1, k, j, hn, h => by
    rw [show a + 1 + k = (a + k) + 1 by omega, dn]
    have := dn_of_iter (j := up j) (fun b hb => hn (b + 1) (by omega)) h
    have h0 : j < N := hn 0 (by omega)
    simp [this, h0]
theorem dn_lt : ∀ {k : Nat} {j : Int}, dn N up k j = true → ∀ b, (∀ c, c ≤ b → 0 ≤ iter up c j) → b < k ∧ iter up b j < N
  | 0, j, h, b, hc => by
    have := hc 0 (by omega)
    simp [dn] at h; simp [iter] at this; omega
  | k + 1, j, h, 0, hc => ⟨by omega, (dn_step h (hc 0 (by omega))).1⟩
  | k + 1, j, h, b + 1, hc => by
    have := dn_lt (dn_step h (hc 0 (by omega))).2 b fun c hb => hc (c + 1) (by omega)
    exact ⟨by omega, this.2⟩
/-- a way up that ends has at most as many steps as there are nodes -/
theorem dn_len {n : Nat} : ∀ {k : Nat} {j : Int}, dn (n : Int) up k j = true → dn (n : Int) up n j = true := by
  intro k
  induction k using Nat.strongRecOn with
  | ind k ih =>
    intro j h
    by_cases hk : k ≤ n
    · exact dn_le h hk
    · by_cases hall : ∀ c, c ≤ n → 0 ≤ iter up c j
      · obtain ⟨a, b, h1, h2, h3⟩ := php n (fun c => (iter up c j).toNat) (fun c hc => by
          have := (dn_lt h c fun d hd => hall d (by omega)).2
          have := hall c hc
          show (iter up c j).toNat < n
          omega)
        have e : iter up a j = iter up b j := by
          have := hall a (by omega); have := hall b h2
          have h3 : (iter up a j).toNat = (iter up b j).toNat := h3
          omega
        have hb : dn (n : Int) up (k - b) (iter up b j) = true := dn_iter (by rw [show b + (k - b) = k by omega]; exact h) fun c hc => hall c (by omega)
        have hj : dn (n : Int) up (a + (k - b)) j = true := dn_of_iter (fun c hc => (dn_lt h c fun d hd => hall d (by omega)).2) (by rw [e]; exact hb)
        exact ih _ (by omega) hj
      · have : ∃ c, c ≤ n ∧ iter up c j < 0 ∧ ∀ d, d < c → 0 ≤ iter up d j := by
          have hx : ∃ c, c ≤ n ∧ iter up c j < 0 := by
            by_cases hh : ∃ c, c ≤ n ∧ iter up c j < 0
            · exact hh
            · exact absurd (fun c hc => by have : ¬ iter up c j < 0 := fun hl => hh ⟨c, hc, hl⟩; omega) hall
          obtain ⟨c, hc⟩ := hx
          clear hall
          induction c using Nat.strongRecOn with
          | ind c ih2 =>
            by_cases hd : ∃ d, d < c ∧ iter up d j < 0
            · obtain ⟨d, h1, h2⟩ := hd
              exact ih2 d h1 ⟨by omega, h2⟩
            · exact ⟨c, hc.1, hc.2, fun d h1 => by have : ¬ iter up d j < 0 := fun hl => hd ⟨d, h1, hl⟩; omega⟩
        obtain ⟨c, h1, h2, h3⟩ := this
        have : dn (n : Int) up (c + 0) j = true := dn_of_iter (fun d hd => (dn_lt h d fun e he => h3 e (by omega)).2) (dn_neg h2 0)
        exact dn_le this (by omega)
/-- a way that does not meet i is the same when i's upper is another one -/
theorem dn_same (hs : ∀ x, x ≠ i → up' x = up x) : ∀ {k : Nat} {j : Int}, ab up i k j = false → (∀ x, ab up' x k j = ab up x k j) ∧ (dn N up k j = true → dn N up' k j = true)
  | 0, j, _ => ⟨fun _ => rfl, id⟩
  | k + 1, j, h => by
    by_cases hj : j < 0
    · exact ⟨fun x => by simp [ab, hj], fun _ => dn_neg hj _⟩
    · simp only [ab, hj, if_false, Bool.or_eq_false_iff, decide_eq_false_iff_not] at h
      have := dn_same hs h.2
      refine ⟨fun x => by simp only [ab, hj, if_false, hs j h.1, this.1 x], fun hd => ?_⟩
      obtain ⟨h1, h2⟩ := dn_step hd (by omega)
      rw [dn, hs j h.1]
      simp [h1, this.2 h2]
/-- i's upper is another one, whose way ends: each way ends -/
theorem dn_cut (hs : ∀ x, x ≠ i → up' x = up x) {m : Nat} (hq : dn N up' m (up' i) = true) : ∀ {k : Nat} {j : Int}, dn N up k j = true → ∃ k', dn N up' k' j = true
  | 0, j, h => ⟨0, h⟩
  | k + 1, j, h => by
    by_cases hj : j < 0
    · exact ⟨0, by simp [dn, hj]⟩
    · obtain ⟨h1, h2⟩ := dn_step h (by omega)
      by_cases e : j = i
      · subst e
        exact ⟨m + 1, by rw [dn]; simp [h1, hq]⟩
      · obtain ⟨k', h'⟩ := dn_cut hs hq h2
        exact ⟨k' + 1, by rw [dn, hs j e]; simp [h1, h']⟩
/-- who is met on the way, and whose upper is a node: that one is met too -/
theorem ab_up (h0 : 0 ≤ up i) : ∀ {k : Nat} {j : Int}, ab up i k j = true → dn N up k j = true → ab up (up i) k j = true
  | 0, j, h, _ => by simp [ab] at h
  | k + 1, j, h, hd => by
    by_cases hj : j < 0
    · simp [ab, hj] at h
    · obtain ⟨h1, h2⟩ := dn_step hd (by omega)
      simp only [ab, hj, if_false, Bool.or_eq_true, decide_eq_true_eq] at h ⊢
      right
      rcases h with rfl | h
      · cases k with
        | zero => simp [dn] at h2; omega
        | succ k => simp [ab, show ¬ up j < 0 by omega]
      · exact ab_up h0 h h2
end
end Go.Vk
