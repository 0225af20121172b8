/- What the proof leans on, part 3 of 11. -/
import Derived.Test.YtkafpameheohdaaDoorQStackPlayB
section
set_option linter.unusedSimpArgs false
set_option linter.unusedVariables false
namespace Go.Vk
/- ways up that end -/
def dn (N : Int) (up : Int → Int) : Nat → Int → Bool
  | 0, j => decide (j < 0)
  | k + 1, j => decide (j < 0) || (decide (j < N) && dn N up k (up j))
def ab (up : Int → Int) (i : Int) : Nat → Int → Bool
  | 0, _ => false
  | k + 1, j => if j < 0 then false else decide (j = i) || ab up i k (up j)
theorem aboveF_ab (L : List Nd) (i : Int) : ∀ (k : Nat) (j : Int), aboveF L i k j = ab (upN L) i k j
  | 0, _ => rfl
  | k + 1, j => by rw [aboveF, ab, aboveF_ab L i k]
section
variable {N : Int} {up up' : Int → Int} {i j : Int}
theorem dn_neg (h : j < 0) : ∀ k, dn N up k j = true
  | 0 => by simp [dn, h]
  | k + 1 => by simp [dn, h]
theorem dn_mono : ∀ {k : Nat} {j : Int}, dn N up k j = true → dn N up (k + 1) j = true
  | 0, j, h => dn_neg (by simpa [dn] using h) _
  | k + 1, j, h => by
    rw [dn] at h ⊢
    simp only [Bool.or_eq_true, Bool.and_eq_true, decide_eq_true_eq] at h ⊢
    rcases h with h | h
    · exact .inl h
    · exact .inr ⟨h.1, dn_mono h.2⟩
theorem dn_le {k m : Nat} (h : dn N up k j = true) (hk : k ≤ m) : dn N up m j = true := by
  induction hk with
  | refl => exact h
  | step _ ih => exact dn_mono ih
theorem dn_step {k : Nat} (h : dn N up (k + 1) j = true) (hj : 0 ≤ j) : j < N ∧ dn N up k (up j) = true := by
  rw [dn] at h
  simpa [show ¬ j < 0 by omega] using h
theorem php : ∀ (n : Nat) (f : Nat → Nat), (∀ i, i ≤ n → f i < n) → ∃ a b, a < b ∧ b ≤ n ∧ f a = f b
  | 0, f, h => absurd (h 0 (Nat.le_refl _)) (by omega)
  | n + 1, f, h => by
    by_cases hx : ∃ a, a ≤ n ∧ f a = f (n + 1)
    · obtain ⟨a, h1, h2⟩ := hx
      exact ⟨a, n + 1, by omega, Nat.le_refl _, h2⟩
    · have hx' : ∀ a, a ≤ n → f a ≠ f (n + 1) := fun a h1 h2 => hx ⟨a, h1, h2⟩
      obtain ⟨a, b, h1, h2, h3⟩ := php n (fun i => if f i = n then f (n + 1) else f i) (fun i hi => by
        have e1 := h i (by omega)
        have e2 := h (n + 1) (Nat.le_refl _)
        have e3 := hx' i hi
        show (if f i = n then f (n + 1) else f i) < n
        split <;> omega)
      have e1 := hx' a (by omega)
      have e2 := hx' b h2
      refine ⟨a, b, h1, by omega, ?_⟩
      have h3 : (if f a = n then f (n + 1) else f a) = (if f b = n then f (n + 1) else f b) := h3
      split at h3 <;> split at h3 <;> omega
def iter (up : Int → Int) : Nat → Int → Int
  | 0, j => j
  | k + 1, j => iter up k (up j)
theorem dn_iter : ∀ {a k : Nat} {j : Int}, dn N up (a + k) j = true → (∀ b, b < a → 0 ≤ iter up b j) → dn N up k (iter up a j) = true
  | 0, k, j, h, _ => by simpa [iter] using h
  | a + 1, k, j, h, hn => by
    have h0 : 0 ≤ j := hn 0 (by omega)
    rw [show a + 1 + k = (a + k) + 1 by omega] at h
    show dn N up k (iter up a (up j)) = true
    exact dn_iter (dn_step h h0).2 fun b hb => hn (b + 1) (by omega)
theorem dn_of_iter : ∀ {a k : Nat} {j : Int}, (∀ b, b < a → iter up b j < N) → dn N up k (iter up a j) = true → dn N up (a + k) j = true
  | 0, k, j, _, h => by simpa [iter] using h
  | a + 1, k, j, hn, h => by
    rw [show a + 1 + k = (a + k) + 1 by omega, dn]
    have := dn_of_iter (j := up j) (fun b hb => hn (b + 1) (by omega)) h
    have h0 : j < N := hn 0 (by omega)
    simp [this, h0]
theorem dn_lt : ∀ {k : Nat} {j : Int}, dn N up k j = true → ∀ b, (∀ c, c ≤ b → 0 ≤ iter up c j) → b < k ∧ iter up b j < N
  | 0, j, h, b, hc => by
    have := hc 0 (by omega)
    simp [dn] at h; simp [iter] at this; omega
  | k + 1, j, h, 0, hc => ⟨by omega, (dn_step h (hc 0 (by omega))).1⟩
  | k + 1, j, h, b + 1, hc => by
    have := dn_lt (dn_step h (hc 0 (by omega))).2 b fun c hb => hc (c + 1) (by omega)
    exact ⟨by omega, this.2⟩
/-- a way up that ends has at most as many steps as there are nodes -/
theorem dn_len {n : Nat} : ∀ {k : Nat} {j : Int}, dn (n : Int) up k j = true → dn (n : Int) up n j = true := by
  intro k
  induction k using Nat.strongRecOn with
  | ind k ih =>
    intro j h
    by_cases hk : k ≤ n
    · exact dn_le h hk
    · by_cases hall : ∀ c, c ≤ n → 0 ≤ iter up c j
      · obtain ⟨a, b, h1, h2, h3⟩ := php n (fun c => (iter up c j).toNat) (fun c hc => by
          have := (dn_lt h c fun d hd => hall d (by omega)).2
          have := hall c hc
          show (iter up c j).toNat < n
          omega)
        have e : iter up a j = iter up b j := by
          have := hall a (by omega); have := hall b h2
          have h3 : (iter up a j).toNat = (iter up b j).toNat := h3
          omega
        have hb : dn (n : Int) up (k - b) (iter up b j) = true := dn_iter (by rw [show b + (k - b) = k by omega]; exact h) fun c hc => hall c (by omega)
        have hj : dn (n : Int) up (a + (k - b)) j = true := dn_of_iter (fun c hc => (dn_lt h c fun d hd => hall d (by omega)).2) (by rw [e]; exact hb)
        exact ih _ (by omega) hj
      · have : ∃ c, c ≤ n ∧ iter up c j < 0 ∧ ∀ d, d < c → 0 ≤ iter up d j := by
          have hx : ∃ c, c ≤ n ∧ iter up c j < 0 := by
            by_cases hh : ∃ c, c ≤ n ∧ iter up c j < 0
            · exact hh
            · exact absurd (fun c hc => by have : ¬ iter up c j < 0 := fun hl => hh ⟨c, hc, hl⟩; omega) hall
          obtain ⟨c, hc⟩ := hx
          clear hall
          induction c using Nat.strongRecOn with
          | ind c ih2 =>
            by_cases hd : ∃ d, d < c ∧ iter up d j < 0
            · obtain ⟨d, h1, h2⟩ := hd
              exact ih2 d h1 ⟨by omega, h2⟩
            · exact ⟨c, hc.1, hc.2, fun d h1 => by have : ¬ iter up d j < 0 := fun hl => hd ⟨d, h1, hl⟩; omega⟩
        obtain ⟨c, h1, h2, h3⟩ := this
        have : dn (n : Int) up (c + 0) j = true := dn_of_iter (fun d hd => (dn_lt h d fun e he => h3 e (by omega)).2) (dn_neg h2 0)
        exact dn_le this (by omega)
/-- a way that does not meet i is the same when i's upper is another one -/
theorem dn_same (hs : ∀ x, x ≠ i → up' x = up x) : ∀ {k : Nat} {j : Int}, ab up i k j = false → (∀ x, ab up' x k j = ab up x k j) ∧ (dn N up k j = true → dn N up' k j = true)
  | 0, j, _ => ⟨fun _ => rfl, id⟩
  | k + 1, j, h => by
    by_cases hj : j < 0
    · exact ⟨fun x => by simp [ab, hj], fun _ => dn_neg hj _⟩
    · simp only [ab, hj, if_false, Bool.or_eq_false_iff, decide_eq_false_iff_not] at h
      have := dn_same hs h.2
      refine ⟨fun x => by simp only [ab, hj, if_false, hs j h.1, this.1 x], fun hd => ?_⟩
      obtain ⟨h1, h2⟩ := dn_step hd (by omega)
      rw [dn, hs j h.1]
      simp [h1, this.2 h2]
/-- i's upper is another one, whose way ends: each way ends -/
theorem dn_cut (hs : ∀ x, x ≠ i → up' x = up x) {m : Nat} (hq : dn N up' m (up' i) = true) : ∀ {k : Nat} {j : Int}, dn N up k j = true → ∃ k', dn N up' k' j = true
  | 0, j, h => ⟨0, h⟩
  | k + 1, j, h => by
    by_cases hj : j < 0
    · exact ⟨0, by simp [dn, hj]⟩
    · obtain ⟨h1, h2⟩ := dn_step h (by omega)
      by_cases e : j = i
      · subst e
        exact ⟨m + 1, by rw [dn]; simp [h1, hq]⟩
      · obtain ⟨k', h'⟩ := dn_cut hs hq h2
        exact ⟨k' + 1, by rw [dn, hs j e]; simp [h1, h']⟩
/-- who is met on the way, and whose upper is a node: that one is met too -/
theorem ab_up (h0 : 0 ≤ up i) : ∀ {k : Nat} {j : Int}, ab up i k j = true → dn N up k j = true → ab up (up i) k j = true
  | 0, j, h, _ => by simp [ab] at h
  | k + 1, j, h, hd => by
    by_cases hj : j < 0
    · simp [ab, hj] at h
    · obtain ⟨h1, h2⟩ := dn_step hd (by omega)
      simp only [ab, hj, if_false, Bool.or_eq_true, decide_eq_true_eq] at h ⊢
      right
      rcases h with rfl | h
      · cases k with
        | zero => simp [dn] at h2; omega
        | succ k => simp [ab, show ¬ up j < 0 by omega]
      · exact ab_up h0 h h2
end
end Go.Vk
end
section
set_option linter.unusedSimpArgs false
set_option linter.unusedVariables false
namespace Go.Vk
def noN : Nd := { zN with parent := -1 }
def gN (L : List Nd) (t : Int) : Nd := (nd? L t).getD noN
theorem gN_of {L : List Nd} {t : Int} {n : Nd} (h : nd? L t = some n) : gN L t = n := by simp [gN, h]
theorem gN_nat {L : List Nd} {k : Nat} {n : Nd} (h : L[k]? = some n) : gN L k = n := gN_of (by rw [nd?_nat]; exact h)
theorem gN_none {L : List Nd} {t : Int} (h : ¬ (0 ≤ t ∧ t < L.length)) : gN L t = noN := by
  have := nd?_isSome L t
  rw [decide_eq_false h] at this
  simp only [Option.isSome_eq_false_iff, Option.isNone_iff_eq_none] at this
  simp [gN, this]
theorem upN_g (L : List Nd) (j : Int) : upN L j = if (gN L j).kind = 6 then j - 1 else (gN L j).parent := by
  unfold upN gN
  cases nd? L j <;> simp [noN, zN]
structure Gd (L : List Nd) : Prop where
  kid : ∀ t j, j ∈ (gN L t).kids ↔ 0 ≤ t ∧ (gN L j).parent = t
  nd : ∀ t, (gN L t).kids.Nodup
  low : ∀ j, -1 ≤ (gN L j).parent
  knd : ∀ j, 0 ≤ (gN L j).parent → kidK (gN L j).kind = true
  way : ∀ j : Int, j < L.length → ∃ k, dn L.length (upN L) k j = true
  doc : (gN L 0).kind = 1
  one : ∀ j, (gN L j).kind = 1 → j = 0
theorem gN_modify {L : List Nd} {p : Nat} (hp : p < L.length) (f : Nd → Nd) (t : Int) : gN (L.modify p f) t = if t = p then f (gN L t) else gN L t := by
  by_cases h0 : 0 ≤ t
  · obtain ⟨k, rfl⟩ : ∃ k : Nat, t = k := ⟨t.toNat, by omega⟩
    unfold gN
    rw [nd?_nat, nd?_nat, List.getElem?_modify]
    by_cases e : p = k
    · subst e
      rw [List.getElem?_eq_getElem hp]; simp
    · have e' : ¬ (k : Int) = (p : Int) := by omega
      simp [e, e']
  · rw [gN_none (by omega), gN_none (by omega), if_neg (by omega)]
theorem Gd.range {L : List Nd} (h : Gd L) {j : Int} (hp : 0 ≤ (gN L j).parent) : (0 ≤ j ∧ j < L.length) ∧ (gN L j).parent < L.length := by
  have hm := (h.kid _ j).2 ⟨hp, rfl⟩
  refine ⟨?_, ?_⟩
  · by_cases hj : 0 ≤ j ∧ j < L.length
    · exact hj
    · rw [gN_none hj] at hp; simp [noN] at hp
  · by_cases hj : (gN L j).parent < L.length
    · exact hj
    · rw [gN_none (t := (gN L j).parent) (by omega)] at hm; simp [noN, zN] at hm
theorem freeN_len (L : List Nd) (i : Nat) : (freeN L i).length = L.length := by
  unfold freeN
  split
  · rfl
  · split <;> simp
theorem hangN_len (L : List Nd) (p : Nat) (r : Int) (i : Nat) : (hangN L p r i).length = L.length := by
  unfold hangN; simp [freeN_len]
theorem gN_free {L : List Nd} (h : Gd L) {i : Nat} (hi : i < L.length) (t : Int) :
    gN (freeN L i) t = { gN L t with kids := (gN L t).kids.erase i, parent := if t = i then -1 else (gN L t).parent } := by
  have hn : L[i]? = some L[i] := List.getElem?_eq_getElem hi
  have hg : gN L i = L[i] := gN_nat hn
  generalize L[i] = n at hn hg
  have hmem : ∀ u, (i : Int) ∈ (gN L u).kids ↔ 0 ≤ u ∧ n.parent = u := fun u => by rw [h.kid u i, hg]
  unfold freeN
  rw [hn]
  simp only
  by_cases h0 : n.parent < 0
  · rw [if_pos h0, List.erase_of_not_mem (fun hm => by have := (hmem t).1 hm; omega)]
    by_cases e : t = i
    · subst e
      have := h.low i
      rw [hg] at this ⊢
      have e1 : n.parent = -1 := by omega
      rw [if_pos rfl, ← e1]
    · rw [if_neg e]
  · rw [if_neg h0]
    have hr := (h.range (j := i) (by rw [hg]; omega)).2
    rw [hg] at hr
    rw [gN_modify (by rw [List.length_modify]; exact hi), gN_modify (by omega)]
    have hpt : ((n.parent.toNat : Nat) : Int) = n.parent := by omega
    rw [hpt]
    by_cases e1 : t = n.parent
    · rw [if_pos e1]
      by_cases e2 : t = i
      · rw [if_pos e2, if_pos e2]; rfl
      · rw [if_neg e2, if_neg e2]; rfl
    · rw [if_neg e1, List.erase_of_not_mem (fun hm => e1 (((hmem t).1 hm).2.symm))]
      by_cases e2 : t = i
      · rw [if_pos e2, if_pos e2]; rfl
      · rw [if_neg e2, if_neg e2]
theorem dn_ext {N : Int} {up up' : Int → Int} (hs : ∀ x, up' x = up x) : ∀ (k : Nat) (j : Int), dn N up' k j = dn N up k j := by
  have : up' = up := funext hs
  intro k j; rw [this]
theorem Gd.free {L : List Nd} (h : Gd L) {i : Nat} (hi : i < L.length) (hk : kidK (gN L i).kind = true ∨ (gN L i).parent < 0) : Gd (freeN L i) := by
  have hg := gN_free h hi
  have hl := freeN_len L i
  by_cases hpar : (gN L i).parent < 0
  · have e : freeN L i = L := by
      have hn : L[i]? = some L[i] := List.getElem?_eq_getElem hi
      unfold freeN; rw [hn]; rw [gN_nat hn] at hpar; exact if_pos hpar
    rw [e]; exact h
  have hk' : kidK (gN L i).kind = true := h.knd i (by omega)
  have hup : ∀ x, x ≠ (i : Int) → upN (freeN L i) x = upN L x := fun x hx => by
    rw [upN_g, upN_g, hg]; simp [hx]
  have hupi : upN (freeN L i) i = -1 := by
    rw [upN_g, hg]
    have : ¬ (gN L i).kind = 6 := fun e => by rw [e] at hk'; simp [kidK] at hk'
    simp [this]
  refine ⟨fun t j => ?_, fun t => ?_, fun j => ?_, fun j => ?_, fun j hj => ?_, ?_, fun j => ?_⟩
  · rw [hg t, hg j]
    simp only
    by_cases e : j = i
    · subst e
      rw [if_pos rfl]
      exact ⟨fun hm => absurd hm (fun hm => ((h.nd t).mem_erase_iff.1 hm).1 rfl), fun hm => by omega⟩
    · rw [if_neg e, (h.nd t).mem_erase_iff, h.kid t j]
      exact ⟨fun hm => hm.2, fun hm => ⟨e, hm⟩⟩
  · rw [hg t]; exact (h.nd t).erase _
  · rw [hg j]; simp only; split
    · omega
    · exact h.low j
  · rw [hg j]; simp only
    split
    · intro hh; omega
    · exact h.knd j
  · rw [hl] at hj ⊢
    obtain ⟨k, hk⟩ := h.way j hj
    exact dn_cut (i := i) hup (m := 0) (by rw [hupi]; exact dn_neg (by omega) 0) hk
  · rw [hg]; exact h.doc
  · rw [hg]; exact h.one j
end Go.Vk
end
section
set_option linter.unusedSimpArgs false
set_option linter.unusedVariables false
namespace Go.Vk
theorem mem_insB (r x y : Int) : ∀ (l : List Int), y ∈ insB r x l ↔ y = x ∨ y ∈ l
  | [] => by simp [insB]
  | z :: l => by
    unfold insB
    split
    · simp
    · rw [List.mem_cons, mem_insB r x y l, List.mem_cons]
      constructor
      · rintro (h | h | h)
        · exact .inr (.inl h)
        · exact .inl h
        · exact .inr (.inr h)
      · rintro (h | h | h)
        · exact .inr (.inl h)
        · exact .inl h
        · exact .inr (.inr h)
theorem nodup_insB (r x : Int) : ∀ {l : List Int}, l.Nodup → x ∉ l → (insB r x l).Nodup
  | [], _, _ => by simp [insB]
  | z :: l, h, hx => by
    unfold insB
    simp only [List.mem_cons, not_or] at hx
    rw [List.nodup_cons] at h
    split
    · exact List.nodup_cons.2 ⟨by simp [hx.1, hx.2], List.nodup_cons.2 h⟩
    · exact List.nodup_cons.2 ⟨fun hm => by
        rcases (mem_insB r x z l).1 hm with e | e
        · exact hx.1 e.symm
        · exact h.1 e, nodup_insB r x h.2 hx.2⟩
def addK (r x : Int) (l : List Int) : List Int := if r < 0 then l ++ [x] else insB r x l
theorem mem_addK (r x y : Int) (l : List Int) : y ∈ addK r x l ↔ y = x ∨ y ∈ l := by
  unfold addK
  split
  · rw [List.mem_append, List.mem_singleton, Or.comm]
  · exact mem_insB r x y l
theorem nodup_addK (r x : Int) {l : List Int} (h : l.Nodup) (hx : x ∉ l) : (addK r x l).Nodup := by
  unfold addK
  split
  · rw [List.nodup_append]
    exact ⟨h, by simp, fun a ha b hb e => by rw [List.mem_singleton] at hb; subst hb; subst e; exact hx ha⟩
  · exact nodup_insB r x h hx
theorem gN_hang {L : List Nd} (h : Gd L) {i p : Nat} (hi : i < L.length) (hp : p < L.length) (r : Int) (t : Int) :
    gN (hangN L p r i) t = { gN L t with kids := if t = p then addK r i ((gN L t).kids.erase i) else (gN L t).kids.erase i, parent := if t = i then (p : Int) else (gN L t).parent } := by
  unfold hangN
  rw [gN_modify (by rw [List.length_modify, freeN_len]; exact hi), gN_modify (by rw [freeN_len]; exact hp), gN_free h hi]
  by_cases e1 : t = i
  · rw [if_pos e1, if_pos e1, if_pos e1]
    by_cases e2 : t = p
    · rw [if_pos e2, if_pos e2]; rfl
    · rw [if_neg e2, if_neg e2]; rfl
  · rw [if_neg e1, if_neg e1, if_neg e1]
    by_cases e2 : t = p
    · rw [if_pos e2, if_pos e2]; rfl
    · rw [if_neg e2, if_neg e2]
theorem Gd.hang {L : List Nd} (h : Gd L) {i p : Nat} (hi : i < L.length) (hp : p < L.length) (hk : kidK (gN L i).kind = true) {k : Nat} (hd : dn L.length (upN L) k p = true) (ha : ab (upN L) i k p = false) (r : Int) : Gd (hangN L p r i) := by
  have hg := gN_hang h hi hp r
  have hl := hangN_len L p r i
  have h6 : ¬ (gN L i).kind = 6 := fun e => by rw [e] at hk; simp [kidK] at hk
  have hup : ∀ x, x ≠ (i : Int) → upN (hangN L p r i) x = upN L x := fun x hx => by
    rw [upN_g, upN_g, hg]; simp [hx]
  have hupi : upN (hangN L p r i) i = p := by
    rw [upN_g, hg]; simp [h6]
  have hni : ∀ t, (i : Int) ∉ (gN L t).kids.erase i := fun t hm => ((h.nd t).mem_erase_iff.1 hm).1 rfl
  refine ⟨fun t j => ?_, fun t => ?_, fun j => ?_, fun j => ?_, fun j hj => ?_, ?_, fun j => ?_⟩
  · rw [hg t, hg j]
    simp only
    by_cases e : j = i
    · subst e
      rw [if_pos rfl]
      by_cases et : t = p
      · rw [if_pos et, mem_addK]
        exact ⟨fun _ => ⟨by omega, et.symm⟩, fun _ => .inl rfl⟩
      · rw [if_neg et]
        exact ⟨fun hm => absurd hm (hni t), fun hm => absurd hm.2.symm et⟩
    · rw [if_neg e]
      have key : j ∈ (gN L t).kids.erase i ↔ 0 ≤ t ∧ (gN L j).parent = t := by
        rw [(h.nd t).mem_erase_iff, h.kid t j]
        exact ⟨fun hm => hm.2, fun hm => ⟨e, hm⟩⟩
      by_cases et : t = p
      · rw [if_pos et, mem_addK, key]
        exact ⟨fun hm => hm.resolve_left e, .inr⟩
      · rw [if_neg et, key]
  · rw [hg t]; simp only
    split
    · exact nodup_addK _ _ ((h.nd t).erase _) (hni t)
    · exact (h.nd t).erase _
  · rw [hg j]; simp only; split
    · omega
    · exact h.low j
  · rw [hg j]; simp only
    split
    · rename_i e; intro _; rw [e]; exact hk
    · exact h.knd j
  · rw [hl] at hj ⊢
    obtain ⟨m, hm⟩ := h.way j hj
    exact dn_cut (i := i) hup (m := k) (by rw [hupi]; exact (dn_same hup ha).2 hd) hm
  · rw [hg]; exact h.doc
  · rw [hg]; exact h.one j
/-- kids are fewer than nodes -/
theorem Gd.few {L : List Nd} (h : Gd L) (t : Int) : (gN L t).kids.length ≤ L.length := by
  have hr : ∀ j ∈ (gN L t).kids, 0 ≤ j ∧ j < L.length := fun j hj => by
    have := (h.kid t j).1 hj
    exact (h.range (j := j) (by omega)).1
  have hn := h.nd t
  generalize (gN L t).kids = l at hr hn
  generalize L.length = n at hr
  induction n generalizing l with
  | zero =>
    cases l with
    | nil => simp
    | cons a r => have := hr a (by simp); omega
  | succ n ih =>
    have := ih (l.erase (n : Int)) (hn.erase _) (fun j hj => by
      have := hn.mem_erase_iff.1 hj
      have := hr j this.2
      omega)
    have h2 : l.length ≤ (l.erase (n : Int)).length + 1 := by
      rw [List.length_erase]; split <;> omega
    omega
end Go.Vk
end
section
set_option linter.unusedSimpArgs false
set_option linter.unusedVariables false
namespace Go.Vk
def aboveN (L : List Nd) (i j : Int) : Bool := aboveF L i L.length j
theorem Gd.down {L : List Nd} (h : Gd L) {j : Int} (hj : j < L.length) : dn L.length (upN L) L.length j = true := by
  obtain ⟨k, hk⟩ := h.way j hj
  exact dn_len hk
theorem gN_some {L : List Nd} {i : Nat} (h : i < L.length) : L[i]? = some (gN L i) := by
  have := List.getElem?_eq_getElem h
  rw [gN_nat this]; exact this
theorem holdsN_g {L : List Nd} {p : Int} : holdsN L p = holdK (gN L p).kind := by
  unfold holdsN gN; cases nd? L p <;> simp [noN, zN, holdK]
theorem hangsN_g {L : List Nd} {p : Int} : hangsN L p = kidK (gN L p).kind := by
  unfold hangsN gN; cases nd? L p <;> simp [noN, zN, kidK]
theorem holds_in {L : List Nd} {p : Int} (h : holdsN L p = true) : ∃ k : Nat, p = k ∧ k < L.length := by
  by_cases hp : 0 ≤ p ∧ p < L.length
  · exact ⟨p.toNat, by omega, by omega⟩
  · rw [holdsN_g, gN_none hp] at h; simp [noN, zN, holdK] at h
theorem hangs_in {L : List Nd} {p : Int} (h : hangsN L p = true) : ∃ k : Nat, p = k ∧ k < L.length := by
  by_cases hp : 0 ≤ p ∧ p < L.length
  · exact ⟨p.toNat, by omega, by omega⟩
  · rw [hangsN_g, gN_none hp] at h; simp [noN, zN, kidK] at h
def appendN (L : List Nd) (p i : Int) : List Nd × Int := if holdsN L p = true ∧ hangsN L i = true ∧ aboveN L i p = false then (hangN L p.toNat (-1) i.toNat, 0) else (L, 2)
theorem Gd.ne {L : List Nd} (h : Gd L) : L ≠ [] := by
  intro e; subst e
  have := h.doc; simp [gN, nd?, noN, zN] at this
theorem Gd.self {L : List Nd} (h : Gd L) (j : Int) (h0 : 0 ≤ j) : (gN L j).parent ≠ j := by
  intro e
  have hr := (h.range (j := j) (by omega)).1
  have hk := h.knd j (by omega)
  have h6 : ¬ (gN L j).kind = 6 := fun e => by rw [e] at hk; simp [kidK] at hk
  have hu : upN L j = j := by rw [upN_g, if_neg h6, e]
  obtain ⟨k, hk⟩ := h.way j hr.2
  induction k with
  | zero => simp [dn] at hk; omega
  | succ k ih =>
    have := (dn_step hk h0).2
    rw [hu] at this
    exact ih this
theorem Gd.par {L : List Nd} (h : Gd L) {i : Nat} (hi : i < L.length) : 0 ≤ (gN L i).parent → ∃ q, nd? L (gN L i).parent = some q ∧ (i : Int) ∈ q.kids ∧ q.kids.length ≤ L.length ∧ (gN L i).parent ≠ i := by
  intro hp
  have hr := (h.range hp).2
  obtain ⟨k, hk⟩ : ∃ k : Nat, (gN L i).parent = k := ⟨(gN L i).parent.toNat, by omega⟩
  refine ⟨gN L k, ?_, ?_, h.few _, h.self i (by omega)⟩
  · rw [hk, nd?_nat]; exact gN_some (by omega)
  · exact (h.kid k i).2 ⟨by omega, hk⟩
end Go.Vk
namespace Go.Proofs.YtkafpameheohdaaDoor
open Go.Vk
set_option maxHeartbeats 40000000
theorem append_gd {L : List Nd} (h : Gd L) (p i : Int) : Gd (appendN L p i).1 := by
  unfold appendN
  split
  · rename_i hh
    obtain ⟨h1, h2, h3⟩ := hh
    obtain ⟨p, rfl, hp⟩ := holds_in h1
    obtain ⟨i, rfl, hi⟩ := hangs_in h2
    refine h.hang (i := i) (p := p) hi hp (by rw [← hangsN_g]; exact h2) (h.down (by omega)) ?_ _
    rw [← aboveF_ab]; exact h3
  · exact h
end Go.Proofs.YtkafpameheohdaaDoor
end
section
set_option linter.unusedSimpArgs false
set_option linter.unusedVariables false
namespace Go.Vk
theorem dn_more {N N' : Int} {up up' : Int → Int} (hN : N ≤ N') (hs : ∀ x, 0 ≤ x → x < N → up' x = up x) : ∀ {k : Nat} {j : Int}, dn N up k j = true → dn N' up' k j = true
  | 0, j, h => by simpa [dn] using h
  | k + 1, j, h => by
    rw [dn] at h ⊢
    simp only [Bool.or_eq_true, Bool.and_eq_true, decide_eq_true_eq] at h ⊢
    by_cases h0 : j < 0
    · exact .inl h0
    · rcases h with h | h
      · exact absurd h h0
      · exact .inr ⟨by omega, by rw [hs j (by omega) h.1]; exact dn_more hN hs h.2⟩
theorem gN_push (L : List Nd) (n : Nd) (t : Int) : gN (L ++ [n]) t = if t = L.length then n else gN L t := by
  by_cases h0 : 0 ≤ t ∧ t < (L.length : Int) + 1
  · obtain ⟨k, rfl⟩ : ∃ k : Nat, t = k := ⟨t.toNat, by omega⟩
    unfold gN
    rw [nd?_nat, nd?_nat]
    by_cases e : k = L.length
    · subst e; simp
    · rw [List.getElem?_append_left (by omega), if_neg (by omega)]
  · rw [if_neg (by omega), gN_none (by simp; omega), gN_none (by omega)]
theorem Gd.push {L : List Nd} (h : Gd L) {n : Nd} (hp : n.parent = -1) (hk : n.kids = []) (h1 : n.kind ≠ 1) : Gd (L ++ [n]) := by
  have hg := gN_push L n
  have hne := h.ne
  have hpos : 0 < L.length := List.length_pos_iff.2 hne
  have hgl : gN L L.length = noN := gN_none (by omega)
  have hlen : (L ++ [n]).length = L.length + 1 := by simp
  refine ⟨fun t j => ?_, fun t => ?_, fun j => ?_, fun j => ?_, fun j hj => ?_, ?_, fun j => ?_⟩
  · rw [hg t, hg j]
    by_cases et : t = L.length
    · rw [if_pos et, hk]
      refine ⟨fun hm => by simp at hm, fun ⟨h0, hm⟩ => ?_⟩
      by_cases ej : j = L.length
      · rw [if_pos ej, hp] at hm; omega
      · rw [if_neg ej] at hm
        have := (h.range (j := j) (by omega)).2
        omega
    · rw [if_neg et]
      by_cases ej : j = L.length
      · rw [if_pos ej, hp, h.kid t j, ej, hgl]
        exact ⟨fun ⟨a, b⟩ => by simp [noN] at b; omega, fun ⟨a, b⟩ => by omega⟩
      · rw [if_neg ej]; exact h.kid t j
  · rw [hg t]; split
    · rw [hk]; exact List.nodup_nil
    · exact h.nd t
  · rw [hg j]; split
    · omega
    · exact h.low j
  · rw [hg j]; split
    · intro; omega
    · exact h.knd j
  · have hup : ∀ x, 0 ≤ x → x < (L.length : Int) → upN (L ++ [n]) x = upN L x := fun x _ hx => by
      have hx' : gN (L ++ [n]) x = gN L x := by rw [hg, if_neg (by omega)]
      rw [upN_g, upN_g, hx']
    have hold : ∀ j : Int, j < L.length → ∃ k, dn (L ++ [n]).length (upN (L ++ [n])) k j = true := fun j hj => by
      obtain ⟨k, hk⟩ := h.way j hj
      exact ⟨k, dn_more (by rw [hlen]; omega) hup hk⟩
    by_cases ej : j = L.length
    · have hu : upN (L ++ [n]) j = if n.kind = 6 then j - 1 else n.parent := by rw [upN_g, hg, if_pos ej]
      obtain ⟨k, hk⟩ := hold (upN (L ++ [n]) j) (by rw [hu]; split <;> omega)
      refine ⟨k + 1, ?_⟩
      rw [dn]
      simp only [Bool.or_eq_true, Bool.and_eq_true, decide_eq_true_eq]
      exact .inr ⟨hj, hk⟩
    · exact hold j (by rw [hlen] at hj; omega)
  · rw [hg, if_neg (by omega)]; exact h.doc
  · rw [hg]; split
    · intro hh; exact absurd hh h1
    · exact h.one j
theorem Gd.same {L L' : List Nd} (h : Gd L) (hl : L'.length = L.length) (hs : ∀ t, (gN L' t).kind = (gN L t).kind ∧ (gN L' t).parent = (gN L t).parent ∧ (gN L' t).kids = (gN L t).kids) : Gd L' := by
  have hup : ∀ x, upN L' x = upN L x := fun x => by rw [upN_g, upN_g, (hs x).1, (hs x).2.1]
  refine ⟨fun t j => ?_, fun t => ?_, fun j => ?_, fun j => ?_, fun j hj => ?_, ?_, fun j => ?_⟩
  · rw [(hs t).2.2, (hs j).2.1]; exact h.kid t j
  · rw [(hs t).2.2]; exact h.nd t
  · rw [(hs j).2.1]; exact h.low j
  · rw [(hs j).2.1, (hs j).1]; exact h.knd j
  · rw [hl] at hj ⊢
    obtain ⟨k, hk⟩ := h.way j hj
    exact ⟨k, by rw [dn_ext hup]; exact hk⟩
  · rw [(hs 0).1]; exact h.doc
  · rw [(hs j).1]; exact h.one j
theorem docN_gd : Gd [docN] := by
  have hg : ∀ t : Int, gN [docN] t = if t = 0 then docN else noN := fun t => by
    by_cases e : t = 0
    · subst e; rfl
    · rw [if_neg e, gN_none (by simp; omega)]
  refine ⟨fun t j => ?_, fun t => ?_, fun j => ?_, fun j => ?_, fun j hj => ?_, ?_, fun j => ?_⟩
  · rw [hg t, hg j]; split <;> split <;> simp [docN, noN, zN] <;> omega
  · rw [hg t]; split <;> simp [docN, noN, zN]
  · rw [hg j]; split <;> simp [docN, noN, zN]
  · rw [hg j]; split <;> simp [docN, noN, zN]
  · refine ⟨1, ?_⟩
    simp only [List.length_singleton] at hj ⊢
    have : upN [docN] j < 0 := by
      rw [upN_g, hg]; split <;> simp [docN, noN, zN]
    simp [dn, this]; omega
  · rw [hg]; rfl
  · rw [hg]; split
    · intro _; assumption
    · intro hh; simp [noN, zN] at hh
end Go.Vk
end
section
set_option linter.unusedSimpArgs false
set_option linter.unusedVariables false
namespace Go.Vk
theorem kidK_one {k : Int} (h : kidK k = true) : k ≠ 1 := fun e => by subst e; simp [kidK] at h
theorem add_gd {L : List Nd} (h : Gd L) (n : Nd) : Gd (addN L n).1 := by
  unfold addN
  split
  · next hk =>
    have h1 := kidK_one hk
    split
    · have := (h.push (n := { bareN n with content := (L.length : Int) + 1 }) rfl rfl h1).push (n := contN) rfl rfl (by decide)
      simpa using this
    · exact h.push (n := bareN n) rfl rfl h1
  · exact h
def addText (s : ByteArray) (n : Nd) : Nd := { n with text := n.text ++ s }
def textNd (s : ByteArray) : Nd := { zN with kind := 4, text := s, parent := -1, frm := -1, to := -1 }
def atK (r : Int) (ks : List Int) : Int := if r < 0 then (ks.length : Int) else idxF r ks 0
def textN (L : List Nd) (p r : Int) (s : ByteArray) : List Nd × Int :=
  if holdsN L p = true ∧ (r = -1 ∨ ((0 ≤ r ∧ r < L.length) ∧ (gN L r).parent = p)) then
    if s = ⟨#[]⟩ then (L, 0) else
      if 0 < atK r (gN L p).kids ∧ (gN L (((gN L p).kids[(atK r (gN L p).kids - 1).toNat]?).getD 0)).kind = 4 then
        (L.modify (((gN L p).kids[(atK r (gN L p).kids - 1).toNat]?).getD 0).toNat (addText s), 0)
      else (hangN (L ++ [textNd s]) p.toNat r L.length, 0)
  else (L, 2)
theorem Gd.modify {L : List Nd} (h : Gd L) {i : Nat} {f : Nd → Nd} (hf : ∀ n, (f n).kind = n.kind ∧ (f n).parent = n.parent ∧ (f n).kids = n.kids) : Gd (L.modify i f) := by
  by_cases hi : i < L.length
  · refine h.same (by simp) fun t => ?_
    rw [gN_modify hi]
    split
    · exact hf _
    · exact ⟨rfl, rfl, rfl⟩
  · rw [List.modify_eq_self (by omega)]; exact h
end Go.Vk
end
section
set_option linter.unusedSimpArgs false
set_option linter.unusedVariables false
namespace Go.Vk
def hangAll (to : Nat) : List Int → List Nd → List Nd
  | [], L => L
  | j :: l, L => hangAll to l (hangN L to (-1) j.toNat)
def moveN (L : List Nd) (a b : Int) : List Nd × Int := if holdsN L a = true ∧ holdsN L b = true ∧ aboveN L a b = false then (hangAll b.toNat (gN L a).kids L, 0) else (L, 2)
/-- on the way of Move: what is left of the kids of a, none of them above b -/
structure Mv (N : Nat) (a b : Int) (ks : List Int) (L : List Nd) : Prop where
  gd : Gd L
  len : L.length = N
  a0 : 0 ≤ a
  kin : b < N
  nab : ab (upN L) a N b = false
  par : ∀ j ∈ ks, (gN L j).parent = a
  nd : ks.Nodup
theorem Mv.of {L : List Nd} (h : Gd L) {a b : Int} (ha : 0 ≤ a) (hb : b < L.length) (hab : aboveN L a b = false) : Mv L.length a b (gN L a).kids L :=
  ⟨h, rfl, ha, hb, by rw [← aboveF_ab]; exact hab, fun j hj => ((h.kid a j).1 hj).2, h.nd a⟩
theorem Mv.head {N : Nat} {a : Int} {b : Nat} {j : Int} {l : List Int} {L : List Nd} (h : Mv N a b (j :: l) L) :
    ∃ i : Nat, j = i ∧ i < L.length ∧ b < L.length ∧ b ≠ i ∧ Mv N a b l (hangN L b (-1) i) := by
  have hp := h.par j (by simp)
  have hr := (h.gd.range (j := j) (by have := h.a0; omega)).1
  obtain ⟨i, rfl⟩ : ∃ i : Nat, j = i := ⟨j.toNat, by omega⟩
  have hk := h.gd.knd i (by have := h.a0; omega)
  have h6 : ¬ (gN L i).kind = 6 := fun e => by rw [e] at hk; simp [kidK] at hk
  have hu : upN L i = a := by rw [upN_g, if_neg h6, hp]
  have hlen := h.len
  have hd : dn (L.length : Int) (upN L) N b = true := by
    have := h.gd.down (j := (b : Int)) (by have := h.kin; omega)
    rw [hlen] at this; rw [hlen]; exact this
  have hai : ab (upN L) i N b = false := by
    cases e : ab (upN L) i N b with
    | false => rfl
    | true =>
      have := ab_up (by rw [hu]; exact h.a0) e hd
      rw [hu, h.nab] at this; cases this
  have hbi : b ≠ i := fun e => by
    subst e
    have := h.kin
    cases N with
    | zero => omega
    | succ n => simp [ab, show ¬ (b : Int) < 0 by omega] at hai
  have hil : i < L.length := by omega
  have hbl : b < L.length := by have := h.kin; omega
  have hg := gN_hang h.gd hil hbl (-1)
  refine ⟨i, rfl, hil, hbl, hbi, h.gd.hang hil hbl hk hd hai (-1), by rw [hangN_len]; exact hlen, h.a0, h.kin, ?_, fun j hj => ?_, ?_⟩
  · have hup : ∀ x, x ≠ (i : Int) → upN (hangN L b (-1) i) x = upN L x := fun x hx => by
      rw [upN_g, upN_g, hg]; simp [hx]
    rw [(dn_same (N := (N : Int)) hup hai).1 a]; exact h.nab
  · have hn := h.nd
    rw [List.nodup_cons] at hn
    have : j ≠ i := fun e => hn.1 (e ▸ hj)
    rw [hg]; simp only [this, if_false]
    exact h.par j (by simp [hj])
  · exact (List.nodup_cons.1 h.nd).2
theorem Mv.all {N : Nat} {a : Int} {b : Nat} : ∀ {l : List Int} {L : List Nd}, Mv N a b l L → Gd (hangAll b l L) ∧ (hangAll b l L).length = N
  | [], _, h => ⟨h.gd, h.len⟩
  | j :: l, L, h => by
    obtain ⟨i, rfl, _, _, _, h'⟩ := h.head
    have := Mv.all h'
    simpa [hangAll] using this
end Go.Vk
end
section
set_option linter.unusedSimpArgs false
set_option linter.unusedVariables false
namespace Go.Vk
theorem setCells_all {w : World} {b : Nat} {cs : Array Value} {t : TypeId} {f : Nat × Nat} (hb : w.heap[b]? = some (.cells cs t f)) {l : List Value} (hl : cs.size = l.length) : (setCells w ⟨b, 0, none⟩ l 0).heap[b]? = some (.cells l.toArray t f) := by
  rw [setCells_same l w b 0 0 cs t f hb]
  congr 2
  apply Array.ext_getElem?
  intro j
  by_cases hj : j < l.length
  · have := ovw_in l cs 0 j hj (by omega)
    simpa using this
  · rw [ovw_out l cs _ j (by omega), Array.getElem?_eq_none (by omega)]
    simp [hj]
end Go.Vk
namespace Go.Proofs.YtkafpameheohdaaDoor
open Go.Vk
set_option maxHeartbeats 40000000
theorem node_c {pa : Nat} {L : List Nd} {F : Nat → Prop} {w : World} (h : Ar w pa L F) (hb : ∀ n ∈ L, n.kids.length < 1000000 ∧ n.attrs.length < 1000000) (i : Int) :
    Gives Tryd.prog 40 #[.pointer (some ⟨pa, 0, none⟩), .int .i64 i] w fun v w' => ∃ m : Laid, v = m.val ∧ m.nd = (nd? L i).getD zN ∧ m.ok w' ∧ Ext w w' ∧ (∀ b ∈ m.blks, w.heap.size ≤ b) ∧ m.blks.Nodup := by
  cases hn : nd? L i with
  | none =>
    refine Gives.of_W Tryd.call40 Tryd.func40 rfl Tryd.ntmps40 (by simp) ?_; intro Z hZ
    (repeat (first | (with_reducible first | (refine hK _ _ ?_; clear hK K) | refine (show ∀ σ' w', _ → K σ' w' from by assumption) _ _ ?_ | refine W_seq_k fun K hK => ?_ | refine W_block_k fun K hK => ?_ | refine W_skip ?_ | refine W_ret ?_) | ((first | ((with_reducible refine W_id ?_); refine W_reg (by decide) (by rfl) ?_) | (with_reducible first | refine W_cond ?_ | refine hZ _ _ ?_ | refine W_exit ?_ | refine Wo_id ?_)); repeat1' simp only [push_cast, Nat.reduceBEq, Nat.reduceLT, Nat.reduceEqDiff, reduceIte, reduceCtorEq, Nat.reduceMul, Nat.reduceAdd, Nat.reduceSub, Int.reduceEq, Int.reduceLT, Int.reduceLE, Int.reduceNeg, Int.reduceAdd, Int.reduceSub, Int.reduceMul, Nat.reduceLeDiff, Int.reduceToNat, cell_h, can_h, cellO_cells, canO_cells, setO_cells, heap_set_h, heap_alloc_h, size_set_h, size_alloc_h, vcells_agg, succ_ne, ne_succ, List.setIfInBounds_toArray, List.set_cons_succ, List.set_cons_zero, setCells, drew_h, RunV_zero Tryd.zeroValue49]) | ((repeat ((fail_if_success with_reducible refine hK _ _ ?_); clear hK K)); (with_reducible refine hK _ _ ?_); clear hK K)))
    refine (has_n i (h.ext (Ext.alloc _ _))).mono ?_
    rintro v w' ⟨rfl, rfl⟩
    rw [hn]
    ((repeat simp only [push_cast, Nat.reduceBEq, Nat.reduceLT, Nat.reduceEqDiff, reduceIte, reduceCtorEq, Nat.reduceMul, Nat.reduceAdd, Nat.reduceSub, Int.reduceEq, Int.reduceLT, Int.reduceLE, Int.reduceNeg, Int.reduceAdd, Int.reduceSub, Int.reduceMul, Nat.reduceLeDiff, Int.reduceToNat, cell_h, can_h, cellO_cells, canO_cells, setO_cells, heap_set_h, heap_alloc_h, size_set_h, size_alloc_h, vcells_agg, succ_ne, ne_succ, List.setIfInBounds_toArray, List.set_cons_succ, List.set_cons_zero, drew_h]); (repeat (first | (with_reducible first | (refine hK _ _ ?_; clear hK K) | refine (show ∀ σ' w', _ → K σ' w' from by assumption) _ _ ?_ | refine W_seq_k fun K hK => ?_ | refine W_block_k fun K hK => ?_ | refine W_skip ?_ | refine W_ret ?_) | ((first | ((with_reducible refine W_id ?_); refine W_reg (by decide) (by rfl) ?_) | (with_reducible first | refine W_cond ?_ | refine hZ _ _ ?_ | refine W_exit ?_ | refine Wo_id ?_)); repeat1' simp only [push_cast, Nat.reduceBEq, Nat.reduceLT, Nat.reduceEqDiff, reduceIte, reduceCtorEq, Nat.reduceMul, Nat.reduceAdd, Nat.reduceSub, Int.reduceEq, Int.reduceLT, Int.reduceLE, Int.reduceNeg, Int.reduceAdd, Int.reduceSub, Int.reduceMul, Nat.reduceLeDiff, Int.reduceToNat, cell_h, can_h, cellO_cells, canO_cells, setO_cells, heap_set_h, heap_alloc_h, size_set_h, size_alloc_h, vcells_agg, succ_ne, ne_succ, List.setIfInBounds_toArray, List.set_cons_succ, List.set_cons_zero, drew_h]) | ((repeat ((fail_if_success with_reducible refine hK _ _ ?_); clear hK K)); (with_reducible refine hK _ _ ?_); clear hK K))))
    refine build_struct Tryd.zeroValue49 un30 pl30 (cs := #[.int .i64 0, .string ⟨#[]⟩, .string ⟨#[]⟩, .int .i64 0, .slice none 0 0, .bool false, .int .i64 0, .int .i64 0, .slice none 0 0, .int .i64 0, .int .i64 0]) (by rfl) ?_
    ((repeat simp only [push_cast, Nat.reduceBEq, Nat.reduceLT, Nat.reduceEqDiff, reduceIte, reduceCtorEq, Nat.reduceMul, Nat.reduceAdd, Nat.reduceSub, Int.reduceEq, Int.reduceLT, Int.reduceLE, Int.reduceNeg, Int.reduceAdd, Int.reduceSub, Int.reduceMul, Nat.reduceLeDiff, Int.reduceToNat, cell_h, can_h, cellO_cells, canO_cells, setO_cells, heap_set_h, heap_alloc_h, size_set_h, size_alloc_h, vcells_agg, succ_ne, ne_succ, List.setIfInBounds_toArray, List.set_cons_succ, List.set_cons_zero, drew_h]); (repeat (first | (with_reducible first | (refine hK _ _ ?_; clear hK K) | refine (show ∀ σ' w', _ → K σ' w' from by assumption) _ _ ?_ | refine W_seq_k fun K hK => ?_ | refine W_block_k fun K hK => ?_ | refine W_skip ?_ | refine W_ret ?_) | ((first | ((with_reducible refine W_id ?_); refine W_reg (by decide) (by rfl) ?_) | (with_reducible first | refine W_cond ?_ | refine hZ _ _ ?_ | refine W_exit ?_ | refine Wo_id ?_)); repeat1' simp only [push_cast, Nat.reduceBEq, Nat.reduceLT, Nat.reduceEqDiff, reduceIte, reduceCtorEq, Nat.reduceMul, Nat.reduceAdd, Nat.reduceSub, Int.reduceEq, Int.reduceLT, Int.reduceLE, Int.reduceNeg, Int.reduceAdd, Int.reduceSub, Int.reduceMul, Nat.reduceLeDiff, Int.reduceToNat, cell_h, can_h, cellO_cells, canO_cells, setO_cells, heap_set_h, heap_alloc_h, size_set_h, size_alloc_h, vcells_agg, succ_ne, ne_succ, List.setIfInBounds_toArray, List.set_cons_succ, List.set_cons_zero, drew_h]) | ((repeat ((fail_if_success with_reducible refine hK _ _ ?_); clear hK K)); (with_reducible refine hK _ _ ?_); clear hK K))))
    have hb4 := setCells_all (w := w.alloc (.cells #[.int .i64 0, .string ⟨#[]⟩, .string ⟨#[]⟩, .int .i64 0, .slice none 0 0, .bool false, .int .i64 0, .int .i64 0, .slice none 0 0, .int .i64 0, .int .i64 0] 49)) (b := w.heap.size) (cs := #[.int .i64 0, .string ⟨#[]⟩, .string ⟨#[]⟩, .int .i64 0, .slice none 0 0, .bool false, .int .i64 0, .int .i64 0, .slice none 0 0, .int .i64 0, .int .i64 0]) (t := 49) (f := (0, 0)) (by rw [heap_alloc_h, if_pos rfl]) (l := [.int .i64 0, .string ⟨#[]⟩, .string ⟨#[]⟩, .int .i64 0, .slice none 0 0, .bool false, .int .i64 0, .int .i64 0, .slice none 0 0, .int .i64 0, .int .i64 0]) rfl
    ((repeat simp only [push_cast, Nat.reduceBEq, Nat.reduceLT, Nat.reduceEqDiff, reduceIte, reduceCtorEq, Nat.reduceMul, Nat.reduceAdd, Nat.reduceSub, Int.reduceEq, Int.reduceLT, Int.reduceLE, Int.reduceNeg, Int.reduceAdd, Int.reduceSub, Int.reduceMul, Nat.reduceLeDiff, Int.reduceToNat, cell_h, can_h, cellO_cells, canO_cells, setO_cells, heap_set_h, heap_alloc_h, size_set_h, size_alloc_h, vcells_agg, succ_ne, ne_succ, List.setIfInBounds_toArray, List.set_cons_succ, List.set_cons_zero, drew_h, hb4]); (repeat (first | (with_reducible first | (refine hK _ _ ?_; clear hK K) | refine (show ∀ σ' w', _ → K σ' w' from by assumption) _ _ ?_ | refine W_seq_k fun K hK => ?_ | refine W_block_k fun K hK => ?_ | refine W_skip ?_ | refine W_ret ?_) | ((first | ((with_reducible refine W_id ?_); refine W_reg (by decide) (by rfl) ?_) | (with_reducible first | refine W_cond ?_ | refine hZ _ _ ?_ | refine W_exit ?_ | refine Wo_id ?_)); repeat1' simp only [push_cast, Nat.reduceBEq, Nat.reduceLT, Nat.reduceEqDiff, reduceIte, reduceCtorEq, Nat.reduceMul, Nat.reduceAdd, Nat.reduceSub, Int.reduceEq, Int.reduceLT, Int.reduceLE, Int.reduceNeg, Int.reduceAdd, Int.reduceSub, Int.reduceMul, Nat.reduceLeDiff, Int.reduceToNat, cell_h, can_h, cellO_cells, canO_cells, setO_cells, heap_set_h, heap_alloc_h, size_set_h, size_alloc_h, vcells_agg, succ_ne, ne_succ, List.setIfInBounds_toArray, List.set_cons_succ, List.set_cons_zero, drew_h, hb4]) | ((repeat ((fail_if_success with_reducible refine hK _ _ ?_); clear hK K)); (with_reducible refine hK _ _ ?_); clear hK K))))
    refine ⟨⟨zN, .slice none 0 0, .slice none 0 0, none, none⟩, rfl, rfl, ⟨SlAt.nil _ _, SlAt.nil _ _⟩, ?_, by simp [Laid.blks], by simp [Laid.blks]⟩
    exact Upd.trans (Ext.alloc w _) (Upd.setCells (F := fun b => b = w.heap.size) (a := ⟨w.heap.size, 0, none⟩) _ rfl _ 0) fun i hi e => by omega
  | some n =>
    obtain ⟨k, rfl, hk, hkl⟩ := nd?_some hn
    obtain ⟨hb1, hb2⟩ := hb n (List.mem_of_getElem? hk)
    obtain ⟨bn, cap, M, m, hMA, hML, hF, hm, hmn, hl⟩ := h.at hk
    subst hmn
    refine Gives.of_W Tryd.call40 Tryd.func40 rfl Tryd.ntmps40 (by simp) ?_; intro Z hZ
    (repeat (first | (with_reducible first | (refine hK _ _ ?_; clear hK K) | refine (show ∀ σ' w', _ → K σ' w' from by assumption) _ _ ?_ | refine W_seq_k fun K hK => ?_ | refine W_block_k fun K hK => ?_ | refine W_skip ?_ | refine W_ret ?_) | ((first | ((with_reducible refine W_id ?_); refine W_reg (by decide) (by rfl) ?_) | (with_reducible first | refine W_cond ?_ | refine hZ _ _ ?_ | refine W_exit ?_ | refine Wo_id ?_)); repeat1' simp only [push_cast, Nat.reduceBEq, Nat.reduceLT, Nat.reduceEqDiff, reduceIte, reduceCtorEq, Nat.reduceMul, Nat.reduceAdd, Nat.reduceSub, Int.reduceEq, Int.reduceLT, Int.reduceLE, Int.reduceNeg, Int.reduceAdd, Int.reduceSub, Int.reduceMul, Nat.reduceLeDiff, Int.reduceToNat, cell_h, can_h, cellO_cells, canO_cells, setO_cells, heap_set_h, heap_alloc_h, size_set_h, size_alloc_h, vcells_agg, succ_ne, ne_succ, List.setIfInBounds_toArray, List.set_cons_succ, List.set_cons_zero, setCells, drew_h, RunV_zero Tryd.zeroValue49]) | ((repeat ((fail_if_success with_reducible refine hK _ _ ?_); clear hK K)); (with_reducible refine hK _ _ ?_); clear hK K)))
    refine (has_n k (h.ext (Ext.alloc _ _))).mono ?_
    rintro v w' ⟨rfl, rfl⟩
    rw [hn]
    have hM := hMA.frame (Ext.alloc w (.cells #[.int .i64 0, .string ⟨#[]⟩, .string ⟨#[]⟩, .int .i64 0, .slice none 0 0, .bool false, .int .i64 0, .int .i64 0, .slice none 0 0, .int .i64 0, .int .i64 0] 49)) fun _ _ h => h.elim
    have hh := hM.head
    have c0 := hM.cell hm (j := 0) (by decide)
    have c1 := hM.cell hm (j := 1) (by decide)
    have c2 := hM.cell hm (j := 2) (by decide)
    have c3 := hM.cell hm (j := 3) (by decide)
    have c4 := hM.cell hm (j := 4) (by decide)
    have c5 := hM.cell hm (j := 5) (by decide)
    have c6 := hM.cell hm (j := 6) (by decide)
    have c7 := hM.cell hm (j := 7) (by decide)
    have c8 := hM.cell hm (j := 8) (by decide)
    have c9 := hM.cell hm (j := 9) (by decide)
    have c10 := hM.cell hm (j := 10) (by decide)
    simp only [Laid.cells, List.getElem?_cons_zero, List.getElem?_cons_succ, Nat.add_zero] at c0 c1 c2 c3 c4 c5 c6 c7 c8 c9 c10
    have hi1 : (0 : Int) ≤ k := by omega
    have hi2 : (k : Int) < M.length := by omega
    have hok := hM.sub m (List.mem_of_getElem? hm)
    generalize hw1 : w.alloc (.cells #[.int .i64 0, .string ⟨#[]⟩, .string ⟨#[]⟩, .int .i64 0, .slice none 0 0, .bool false, .int .i64 0, .int .i64 0, .slice none 0 0, .int .i64 0, .int .i64 0] 49) = w1 at *
    obtain ⟨va, na, ka, eav, _, _⟩ := hok.attrs.len
    obtain ⟨vb, nb, kb, ekv, _, _⟩ := hok.kids.len
    rw [eav] at c4
    rw [ekv] at c8
    ((repeat simp only [push_cast, Nat.reduceBEq, Nat.reduceLT, Nat.reduceEqDiff, reduceIte, reduceCtorEq, Nat.reduceMul, Nat.reduceAdd, Nat.reduceSub, Int.reduceEq, Int.reduceLT, Int.reduceLE, Int.reduceNeg, Int.reduceAdd, Int.reduceSub, Int.reduceMul, Nat.reduceLeDiff, Int.reduceToNat, cell_h, can_h, cellO_cells, canO_cells, setO_cells, heap_set_h, heap_alloc_h, size_set_h, size_alloc_h, vcells_agg, succ_ne, ne_succ, List.setIfInBounds_toArray, List.set_cons_succ, List.set_cons_zero, drew_h, hh, hi1, hi2, c0, c1, c2, c3, c4, c5, c6, c7, c8, c9, c10, RunV_zero Tryd.zeroValue49]); (repeat (first | (with_reducible first | (refine hK _ _ ?_; clear hK K) | refine (show ∀ σ' w', _ → K σ' w' from by assumption) _ _ ?_ | refine W_seq_k fun K hK => ?_ | refine W_block_k fun K hK => ?_ | refine W_skip ?_ | refine W_ret ?_) | ((first | ((with_reducible refine W_id ?_); refine W_reg (by decide) (by rfl) ?_) | (with_reducible first | refine W_cond ?_ | refine hZ _ _ ?_ | refine W_exit ?_ | refine Wo_id ?_)); repeat1' simp only [push_cast, Nat.reduceBEq, Nat.reduceLT, Nat.reduceEqDiff, reduceIte, reduceCtorEq, Nat.reduceMul, Nat.reduceAdd, Nat.reduceSub, Int.reduceEq, Int.reduceLT, Int.reduceLE, Int.reduceNeg, Int.reduceAdd, Int.reduceSub, Int.reduceMul, Nat.reduceLeDiff, Int.reduceToNat, cell_h, can_h, cellO_cells, canO_cells, setO_cells, heap_set_h, heap_alloc_h, size_set_h, size_alloc_h, vcells_agg, succ_ne, ne_succ, List.setIfInBounds_toArray, List.set_cons_succ, List.set_cons_zero, drew_h, hh, hi1, hi2, c0, c1, c2, c3, c4, c5, c6, c7, c8, c9, c10, RunV_zero Tryd.zeroValue49]) | ((repeat ((fail_if_success with_reducible refine hK _ _ ?_); clear hK K)); (with_reducible refine hK _ _ ?_); clear hK K))))
    have hb5 := setCells_all (w := w1.alloc (.cells #[.int .i64 0, .string ⟨#[]⟩, .string ⟨#[]⟩, .int .i64 0, .slice none 0 0, .bool false, .int .i64 0, .int .i64 0, .slice none 0 0, .int .i64 0, .int .i64 0] 49)) (b := w1.heap.size) (cs := #[.int .i64 0, .string ⟨#[]⟩, .string ⟨#[]⟩, .int .i64 0, .slice none 0 0, .bool false, .int .i64 0, .int .i64 0, .slice none 0 0, .int .i64 0, .int .i64 0]) (t := 49) (f := (0, 0)) (by rw [heap_alloc_h, if_pos rfl]) (l := [.int .i64 m.nd.kind, .string m.nd.name, .string m.nd.text, .int .i64 m.nd.space, .slice va na ka, .bool m.nd.dup, .int .i64 m.nd.parent, .int .i64 m.nd.content, .slice vb nb kb, .int .i64 m.nd.frm, .int .i64 m.nd.to]) rfl
    have hx5 : Ext w1 (setCells (w1.alloc (.cells #[.int .i64 0, .string ⟨#[]⟩, .string ⟨#[]⟩, .int .i64 0, .slice none 0 0, .bool false, .int .i64 0, .int .i64 0, .slice none 0 0, .int .i64 0, .int .i64 0] 49)) ⟨w1.heap.size, 0, none⟩ [.int .i64 m.nd.kind, .string m.nd.name, .string m.nd.text, .int .i64 m.nd.space, .slice va na ka, .bool m.nd.dup, .int .i64 m.nd.parent, .int .i64 m.nd.content, .slice vb nb kb, .int .i64 m.nd.frm, .int .i64 m.nd.to] 0) := Upd.trans (Ext.alloc w1 _) (Upd.setCells (F := fun b => b = w1.heap.size) (a := ⟨w1.heap.size, 0, none⟩) _ rfl _ 0) fun i hi e => by omega
    generalize setCells (w1.alloc (.cells #[.int .i64 0, .string ⟨#[]⟩, .string ⟨#[]⟩, .int .i64 0, .slice none 0 0, .bool false, .int .i64 0, .int .i64 0, .slice none 0 0, .int .i64 0, .int .i64 0] 49)) ⟨w1.heap.size, 0, none⟩ [.int .i64 m.nd.kind, .string m.nd.name, .string m.nd.text, .int .i64 m.nd.space, .slice va na ka, .bool m.nd.dup, .int .i64 m.nd.parent, .int .i64 m.nd.content, .slice vb nb kb, .int .i64 m.nd.frm, .int .i64 m.nd.to] 0 = w2 at *
    refine W_draw (.pas 0 (.pas 1 (.pas 3 (.pas 4 (.act 2 (.pas 6 (.act 5 (.tail [7, 8, 9])))))))) (fun b => b = w1.heap.size) (by decide) mixed (by kernel_rfl) ?_
    (repeat (first | ((first | refine pas_plain rfl ?_ | refine pas_g rfl rfl ?_ | refine act_plain rfl ?_ | refine act_g rfl rfl ?_ | refine last_plain rfl ?_ | refine tail_plain rfl ?_ | refine tail_g rfl rfl ?_); (repeat simp only [push_cast, Nat.reduceBEq, Nat.reduceLT, Nat.reduceEqDiff, reduceIte, reduceCtorEq, Nat.reduceMul, Nat.reduceAdd, Nat.reduceSub, Int.reduceEq, Int.reduceLT, Int.reduceLE, Int.reduceNeg, Int.reduceAdd, Int.reduceSub, Int.reduceMul, Nat.reduceLeDiff, Int.reduceToNat, cell_h, can_h, cellO_cells, canO_cells, setO_cells, heap_set_h, heap_alloc_h, size_set_h, size_alloc_h, vcells_agg, succ_ne, ne_succ, List.setIfInBounds_toArray, List.set_cons_succ, List.set_cons_zero, drew_h, hb5])) | (refine tail_fin ?_) | (refine sch_fin ?_)))
    have hx5d : Ext w1 w2.drew := hx5.trans (Ext.drew _)
    have hat := hok.attrs
    have hkt := hok.kids
    rw [eav] at hat
    rw [ekv] at hkt
    refine (clone_a (hat.ext hx5d).rd hb2).mono ?_
    rintro v w3 ⟨bo3, g1, g2, g3⟩
    have hlt5 := blk_lt hb5
    have hw5 : ∀ b, b = w1.heap.size → b < w2.drew.heap.size := fun b hb => by rw [hb, drew_size]; exact hlt5
    refine ⟨fun b hb => g2.heap (hw5 b hb), ?_⟩
    have hb6 : w3.heap[w1.heap.size]? = some (.cells (List.toArray [.int .i64 m.nd.kind, .string m.nd.name, .string m.nd.text, .int .i64 m.nd.space, .slice va na ka, .bool m.nd.dup, .int .i64 m.nd.parent, .int .i64 m.nd.content, .slice vb nb kb, .int .i64 m.nd.frm, .int .i64 m.nd.to]) 49 (0, 0)) := (g2.heap (hw5 _ rfl)).trans (by rw [drew_h]; exact hb5)
    obtain ⟨va', na', ka', rfl, _, _⟩ := g1.len
    (repeat (first | ((first | refine pas_plain rfl ?_ | refine pas_g rfl rfl ?_ | refine act_plain rfl ?_ | refine act_g rfl rfl ?_ | refine last_plain rfl ?_ | refine tail_plain rfl ?_ | refine tail_g rfl rfl ?_); (repeat simp only [push_cast, Nat.reduceBEq, Nat.reduceLT, Nat.reduceEqDiff, reduceIte, reduceCtorEq, Nat.reduceMul, Nat.reduceAdd, Nat.reduceSub, Int.reduceEq, Int.reduceLT, Int.reduceLE, Int.reduceNeg, Int.reduceAdd, Int.reduceSub, Int.reduceMul, Nat.reduceLeDiff, Int.reduceToNat, cell_h, can_h, cellO_cells, canO_cells, setO_cells, heap_set_h, heap_alloc_h, size_set_h, size_alloc_h, vcells_agg, succ_ne, ne_succ, List.setIfInBounds_toArray, List.set_cons_succ, List.set_cons_zero, drew_h, hb6])) | (refine tail_fin ?_) | (refine sch_fin ?_)))
    refine (clone_i ((hkt.ext hx5d).ext g2) hb1).mono ?_
    rintro v w4 ⟨bo4, q1, q2, q3⟩
    have hb7 := (q2.heap (blk_lt hb6)).trans hb6
    obtain ⟨vb', nb', kb', rfl, _, _⟩ := q1.len
    first
    | refine ⟨fun b hb => q2.heap (by have hb' : b = w1.heap.size := hb; rw [hb']; exact blk_lt hb6), ?_⟩
    | skip
    (repeat (first | ((first | refine pas_plain rfl ?_ | refine pas_g rfl rfl ?_ | refine act_plain rfl ?_ | refine act_g rfl rfl ?_ | refine last_plain rfl ?_ | refine tail_plain rfl ?_ | refine tail_g rfl rfl ?_); (repeat simp only [push_cast, Nat.reduceBEq, Nat.reduceLT, Nat.reduceEqDiff, reduceIte, reduceCtorEq, Nat.reduceMul, Nat.reduceAdd, Nat.reduceSub, Int.reduceEq, Int.reduceLT, Int.reduceLE, Int.reduceNeg, Int.reduceAdd, Int.reduceSub, Int.reduceMul, Nat.reduceLeDiff, Int.reduceToNat, cell_h, can_h, cellO_cells, canO_cells, setO_cells, heap_set_h, heap_alloc_h, size_set_h, size_alloc_h, vcells_agg, succ_ne, ne_succ, List.setIfInBounds_toArray, List.set_cons_succ, List.set_cons_zero, drew_h, hb7])) | (refine tail_fin ?_) | (refine sch_fin ?_)))
    have z1 : w1.heap[w.heap.size]? = some (.cells #[.int .i64 0, .string ⟨#[]⟩, .string ⟨#[]⟩, .int .i64 0, .slice none 0 0, .bool false, .int .i64 0, .int .i64 0, .slice none 0 0, .int .i64 0, .int .i64 0] 49 (0, 0)) := by rw [← hw1, heap_alloc_h, if_pos rfl]
    have hl1 : w.heap.size < w1.heap.size := blk_lt z1
    have z2 := (hx5.heap hl1).trans z1
    have z3 : w3.heap[w.heap.size]? = some (.cells #[.int .i64 0, .string ⟨#[]⟩, .string ⟨#[]⟩, .int .i64 0, .slice none 0 0, .bool false, .int .i64 0, .int .i64 0, .slice none 0 0, .int .i64 0, .int .i64 0] 49 (0, 0)) := (g2.heap (by rw [drew_size]; exact blk_lt z2)).trans (by rw [drew_h]; exact z2)
    have z4 := (q2.heap (blk_lt z3)).trans z3
    have hne : ¬ w.heap.size = w1.heap.size := by omega
    have hne' : ¬ w1.heap.size = w.heap.size := by omega
    have x4 : Ext w w4 := by
      have hxa : Ext w w1 := by rw [← hw1]; exact Ext.alloc _ _
      exact ((hxa.trans hx5d).trans g2).trans q2
    have u5 : Upd (fun b => b = w1.heap.size) w4 ((w4.setCell ⟨w1.heap.size, 4, none⟩ (.slice va' na' ka')).setCell ⟨w1.heap.size, 8, none⟩ (.slice vb' nb' kb')) := by
      with_reducible refine Upd.put ?_ rfl
      with_reducible refine Upd.put ?_ rfl
      exact Upd.refl _ _
    have z5 : ((w4.setCell ⟨w1.heap.size, 4, none⟩ (.slice va' na' ka')).setCell ⟨w1.heap.size, 8, none⟩ (.slice vb' nb' kb')).heap[w.heap.size]? = some (.cells #[.int .i64 0, .string ⟨#[]⟩, .string ⟨#[]⟩, .int .i64 0, .slice none 0 0, .bool false, .int .i64 0, .int .i64 0, .slice none 0 0, .int .i64 0, .int .i64 0] 49 (0, 0)) := (u5.same _ (blk_lt z4) hne).trans z4
    have b5 : ((w4.setCell ⟨w1.heap.size, 4, none⟩ (.slice va' na' ka')).setCell ⟨w1.heap.size, 8, none⟩ (.slice vb' nb' kb')).heap[w1.heap.size]? = some (.cells (List.toArray [.int .i64 m.nd.kind, .string m.nd.name, .string m.nd.text, .int .i64 m.nd.space, .slice va' na' ka', .bool m.nd.dup, .int .i64 m.nd.parent, .int .i64 m.nd.content, .slice vb' nb' kb', .int .i64 m.nd.frm, .int .i64 m.nd.to]) 49 (0, 0)) := by
      rw [heap_set_same (heap_set_same hb7 _ _)]; rfl
    generalize (w4.setCell ⟨w1.heap.size, 4, none⟩ (.slice va' na' ka')).setCell ⟨w1.heap.size, 8, none⟩ (.slice vb' nb' kb') = w5 at *
    have z6 := setCells_all z5 (l := [.int .i64 m.nd.kind, .string m.nd.name, .string m.nd.text, .int .i64 m.nd.space, .slice va' na' ka', .bool m.nd.dup, .int .i64 m.nd.parent, .int .i64 m.nd.content, .slice vb' nb' kb', .int .i64 m.nd.frm, .int .i64 m.nd.to]) rfl
    have u6 : Upd (fun b => b = w.heap.size) w5 (setCells w5 ⟨w.heap.size, 0, none⟩ [.int .i64 m.nd.kind, .string m.nd.name, .string m.nd.text, .int .i64 m.nd.space, .slice va' na' ka', .bool m.nd.dup, .int .i64 m.nd.parent, .int .i64 m.nd.content, .slice vb' nb' kb', .int .i64 m.nd.frm, .int .i64 m.nd.to] 0) := Upd.setCells (F := fun b => b = w.heap.size) (a := ⟨w.heap.size, 0, none⟩) _ rfl _ 0
    have hwl : w1.heap.size < w2.drew.heap.size := hw5 _ rfl
    have hsz2 := g2.alike.size
    have f3 : ∀ b, bo3 = some b → w1.heap.size < b := fun b hb => by have := g3 b hb; omega
    have f4 : ∀ b, bo4 = some b → w3.heap.size ≤ b := q3
    have k1 : SlAt w5 2 (.slice va' na' ka') (attrCells m.nd.attrs) bo3 := (g1.ext q2).upd u5 fun b hb e => by have := f3 b hb; omega
    have k2 : SlAt w5 1 (.slice vb' nb' kb') (intCells m.nd.kids) bo4 := q1.upd u5 fun b hb e => by have := f4 b hb; omega
    have k1' := k1.upd u6 fun b hb e => by have := f3 b hb; omega
    have k2' := k2.upd u6 fun b hb e => by have := f4 b hb; omega
    have hg1 := g1
    clear z4 z3 z2 z1 hb7 hb6 hb5 hw5 q2 g2 hx5d hx5 hkt hat c0 c1 c2 c3 c4 c5 c6 c7 c8 c9 c10 hh hM hMA h k1 k2 g1 q1
    ((repeat simp only [push_cast, Nat.reduceBEq, Nat.reduceLT, Nat.reduceEqDiff, reduceIte, reduceCtorEq, Nat.reduceMul, Nat.reduceAdd, Nat.reduceSub, Int.reduceEq, Int.reduceLT, Int.reduceLE, Int.reduceNeg, Int.reduceAdd, Int.reduceSub, Int.reduceMul, Nat.reduceLeDiff, Int.reduceToNat, cell_h, can_h, cellO_cells, canO_cells, vcells_agg, hne, hne', z5, b5, z6]); (repeat (first | (with_reducible first | (refine hK _ _ ?_; clear hK K) | refine (show ∀ σ' w', _ → K σ' w' from by assumption) _ _ ?_ | refine W_seq_k fun K hK => ?_ | refine W_block_k fun K hK => ?_ | refine W_skip ?_ | refine W_ret ?_) | ((first | ((with_reducible refine W_id ?_); refine W_reg (by decide) (by rfl) ?_) | (with_reducible first | refine W_cond ?_ | refine hZ _ _ ?_ | refine W_exit ?_ | refine Wo_id ?_)); repeat1' simp only [push_cast, Nat.reduceBEq, Nat.reduceLT, Nat.reduceEqDiff, reduceIte, reduceCtorEq, Nat.reduceMul, Nat.reduceAdd, Nat.reduceSub, Int.reduceEq, Int.reduceLT, Int.reduceLE, Int.reduceNeg, Int.reduceAdd, Int.reduceSub, Int.reduceMul, Nat.reduceLeDiff, Int.reduceToNat, cell_h, can_h, cellO_cells, canO_cells, vcells_agg, hne, hne', z5, b5, z6]) | ((repeat ((fail_if_success with_reducible refine hK _ _ ?_); clear hK K)); (with_reducible refine hK _ _ ?_); clear hK K))))
    refine ⟨⟨m.nd, .slice va' na' ka', .slice vb' nb' kb', bo3, bo4⟩, rfl, rfl, ⟨k1', k2'⟩, ?_, fun b hb => ?_, ?_⟩
    · exact Upd.trans (Upd.trans x4 u5 fun i hi e => by omega) u6 fun i hi e => by omega
    · simp only [Laid.blks, List.mem_append, Option.mem_toList] at hb
      rcases hb with hb | hb
      · have := f3 b hb; omega
      · have := f4 b hb; omega
    · simp only [Laid.blks]
      cases bo3 with
      | none => cases bo4 <;> simp
      | some b3 =>
        cases bo4 with
        | none => simp
        | some b4 =>
          have h3 := hg1.lt
          have h4 := f4 b4 rfl
          simp; omega
end Go.Proofs.YtkafpameheohdaaDoor
end
section
set_option linter.unusedSimpArgs false
set_option linter.unusedVariables false
namespace Go.Proofs.YtkafpameheohdaaDoor
open Go.Vk
set_option maxHeartbeats 40000000
/-- the kid ahead of a place -/
theorem ahead {L : List Nd} (h : Gd L) {p : Nat} {k : Nat} (hk : k < (gN L p).kids.length) : ∃ t : Nat, (gN L p).kids[k]? = some (t : Int) ∧ t < L.length ∧ (gN L t).parent = p := by
  have hm := (h.kid p ((gN L p).kids[k])).1 (List.getElem_mem hk)
  have hr := (h.range (j := (gN L p).kids[k]) (by omega)).1
  refine ⟨((gN L p).kids[k]).toNat, ?_, by omega, ?_⟩
  · rw [List.getElem?_eq_getElem hk]; congr 1; omega
  · rw [Int.toNat_of_nonneg (by omega)]; exact hm.2
end Go.Proofs.YtkafpameheohdaaDoor
end
section
set_option linter.unusedSimpArgs false
set_option linter.unusedVariables false
namespace Go.Vk
/-- blocks that the arena may have -/
def AF (w0 : World) (P : Nat → Prop) (b : Nat) : Prop := w0.heap.size ≤ b ∧ ¬ P b
structure At (w0 w : World) (P : Nat → Prop) (pa : Nat) (L : List Nd) : Prop where
  ar : Ar w pa L (AF w0 P)
  gd : Gd L
  ext : Ext w0 w
  low : ∀ b, P b → b < w.heap.size
def noP : Nat → Prop := fun _ => False
theorem At.next {w0 w w' : World} {P : Nat → Prop} {pa : Nat} {L L' : List Nd} (h : At w0 w P pa L) (ha : Ar w' pa L' (fun b => AF w0 P b ∨ w.heap.size ≤ b)) (hg : Gd L') (hu : Upd (AF w0 P) w w') : At w0 w' P pa L' :=
  ⟨ha.mono fun b _ hb => by
    rcases hb with hb | hb
    · exact hb
    · exact ⟨by have := h.ext.alike.size; omega, fun hp => by have := h.low b hp; omega⟩,
    hg, Upd.trans h.ext hu fun i hi hb => by have := hb.1; omega, fun b hb => by have := h.low b hb; have := hu.alike.size; omega⟩
theorem At.pass {w0 w w' : World} {P : Nat → Prop} {pa : Nat} {L : List Nd} (h : At w0 w P pa L) (hu : Ext w w') : At w0 w' P pa L :=
  ⟨h.ar.ext hu, h.gd, h.ext.trans hu, fun b hb => by have := h.low b hb; have := hu.alike.size; omega⟩
/-- other blocks change, that are not the arena's -/
theorem At.frame {G : Nat → Prop} {w0 w w' : World} {P : Nat → Prop} {pa : Nat} {L : List Nd} (h : At w0 w P pa L) (hu : Upd G w w') (hG : ∀ b, G b → P b ∧ w0.heap.size ≤ b) : At w0 w' P pa L :=
  ⟨h.ar.frame hu fun b hb hg => hb.2 (hG b hg).1, h.gd, Upd.trans h.ext hu fun i hi hb => by have := (hG i hb).2; omega, fun b hb => by have := h.low b hb; have := hu.alike.size; omega⟩
/-- blocks that came since the arena was last looked at: it keeps off them, too -/
theorem At.guard {Q : Nat → Prop} {w0 w w' : World} {P : Nat → Prop} {pa : Nat} {L : List Nd} (h : At w0 w P pa L) (hu : Ext w w') (hQ : ∀ b, Q b → P b ∨ (w.heap.size ≤ b ∧ b < w'.heap.size)) : At w0 w' Q pa L :=
  ⟨(h.ar.mono (G := AF w0 Q) fun b hb hf => ⟨hf.1, fun hq => by rcases hQ b hq with hp | hp; exact hf.2 hp; omega⟩).ext hu, h.gd, h.ext.trans hu, fun b hb => by
    rcases hQ b hb with hp | hp
    · have := h.low b hp; have := hu.alike.size; omega
    · exact hp.2⟩
end Go.Vk
namespace Go.Proofs.YtkafpameheohdaaDoor
open Go.Vk
theorem new_a {w0 : World} :
    Gives Tryd.prog 23 #[] w0 fun v w' => ∃ pa, v = .pointer (some ⟨pa, 0, none⟩) ∧ At w0 w' noP pa [docN] :=
  new_c.mono fun v w' ⟨pa, h1, h2, h3⟩ => ⟨pa, h1, h2.mono fun b _ hb => ⟨hb, id⟩, docN_gd, h3, fun _ h => h.elim⟩
section
variable {w0 w : World} {P : Nat → Prop} {pa : Nat} {L : List Nd}
theorem len_a (h : At w0 w P pa L) : Gives Tryd.prog 39 #[.pointer (some ⟨pa, 0, none⟩)] w fun v w' => v = .int .i64 (L.length : Int) ∧ w' = w := len_c h.ar
theorem add_a (h : At w0 w P pa L) (hb : L.length < 100000) {m : Laid} (hm : RdAt w 2 m.av (attrCells m.nd.attrs)) (hmb : m.nd.attrs.length < 1000000) :
    Gives Tryd.prog 25 #[.pointer (some ⟨pa, 0, none⟩), m.val] w fun v w' => v = .int .i64 (addN L m.nd).2 ∧ At w0 w' P pa (addN L m.nd).1 ∧ Upd (AF w0 P) w w' :=
  (add_c h.ar h.gd.ne (by omega) hm hmb).mono fun v w' ⟨h1, h2, h3⟩ => ⟨h1, h.next h2 (add_gd h.gd _) h3, h3⟩
theorem node_a (h : At w0 w P pa L) (hb : L.length < 100000) (ha : ∀ n ∈ L, n.attrs.length < 1000000) (i : Int) :
    Gives Tryd.prog 40 #[.pointer (some ⟨pa, 0, none⟩), .int .i64 i] w fun v w' => ∃ m : Laid, v = m.val ∧ m.nd = (nd? L i).getD zN ∧ m.ok w' ∧ At w0 w' P pa L ∧ Ext w w' ∧ (∀ b ∈ m.blks, w.heap.size ≤ b) ∧ m.blks.Nodup :=
  (node_c h.ar (fun n hn => by
    obtain ⟨k, hk⟩ := List.getElem?_of_mem hn
    refine ⟨?_, ha n hn⟩
    have := h.gd.few k
    rw [gN_nat hk] at this; omega) i).mono fun v w' ⟨m, h1, h2, h3, h4, h5, h6⟩ => ⟨m, h1, h2, h3, h.pass h4, h4, h5, h6⟩
end
end Go.Proofs.YtkafpameheohdaaDoor
end
section
set_option linter.unusedSimpArgs false
set_option linter.unusedVariables false
namespace Go.Vk
def elN (s : ByteArray) : Nd := { zN with kind := 3, name := s }
def sDiv : ByteArray := ⟨#[100, 105, 118]⟩
def s_a : ByteArray := ⟨#[97]⟩
def s_b : ByteArray := ⟨#[98]⟩
def s_c : ByteArray := ⟨#[99]⟩
def g1 : List Nd := (addN [docN] (elN sDiv)).1
def g2 : List Nd := (appendN g1 0 1).1
def g3 : List Nd := (addN g2 (elN tmpl)).1
def g4 : List Nd := (appendN g3 1 2).1
def g5 : List Nd := (textN g4 1 (-1) s_a).1
def g6 : List Nd := (textN g5 1 (-1) s_b).1
def g7 : List Nd := (textN g6 1 4 s_c).1
end Go.Vk
end
section
set_option linter.unusedSimpArgs false
set_option linter.unusedVariables false
namespace Go.Vk
open Go
theorem Pure1_eq {P : Program} {s : Sem Value} {v : Value} (h : ∀ w, s.run P w = .ok v w) (w : World) (K : Value → World → Prop) : Pure1 P s w K = K v w := by
  refine propext ⟨fun ⟨u, h1, h2⟩ => ?_, fun hk => ⟨v, h, hk⟩⟩
  have := h1 w
  rw [h w] at this
  cases this; exact h2
end Go.Vk
end
section
set_option linter.unusedSimpArgs false
set_option linter.unusedVariables false
namespace Go.Vk
def t1 : List Nd := (addN [docN] (elN ⟨#[112]⟩)).1
def t2 : List Nd := (addN t1 (elN s_b)).1
def t3 : List Nd := (appendN t2 0 1).1
def t4 : List Nd := (appendN t3 1 2).1
def t5 (s : ByteArray) : List Nd := hangN (t4 ++ [textNd s]) 1 (-1) 3
end Go.Vk
end
section
set_option linter.unusedSimpArgs false
set_option linter.unusedVariables false
namespace Go.Vk
/-- a slice of nodes -/
structure NdsAt (w : World) (v : Value) (T : List Laid) (bo : Option Nat) : Prop where
  sl : SlAt w 11 v (flat T) bo
  ok : ∀ m ∈ T, m.ok w
  apart : ∀ m ∈ T, ∀ b ∈ m.blks, bo ≠ some b
theorem NdsAt.upd {G : Nat → Prop} {w w' : World} {v : Value} {T : List Laid} {bo : Option Nat} (h : NdsAt w v T bo) (hu : Upd G w w') (h1 : ∀ b, bo = some b → ¬ G b) (h2 : ∀ m ∈ T, ∀ b ∈ m.blks, ¬ G b) : NdsAt w' v T bo :=
  ⟨h.sl.upd hu h1, fun m hm => (h.ok m hm).upd hu (h2 m hm), h.apart⟩
theorem NdsAt.ext {w w' : World} {v : Value} {T : List Laid} {bo : Option Nat} (h : NdsAt w v T bo) (hu : Ext w w') : NdsAt w' v T bo := h.upd hu (fun _ _ h => h) (fun _ _ _ _ h => h)
theorem NdsAt.len {w : World} {v : Value} {T : List Laid} {bo : Option Nat} (h : NdsAt w v T bo) : ∃ a c, v = .slice a T.length c ∧ T.length ≤ c := by
  obtain ⟨a, n, c, rfl, h1, h2⟩ := h.sl.len
  rw [flat_length] at h2
  have : n = T.length := by omega
  subst this
  exact ⟨a, c, rfl, h1⟩
end Go.Vk
end
section
set_option linter.unusedSimpArgs false
set_option linter.unusedVariables false
namespace Go.Vk
open Go
/-- a node's cells, as the walk reads them -/
theorem NdsAt.get {w : World} {b o n c : Nat} {T : List Laid} {bo : Option Nat} (h : NdsAt w (.slice (some ⟨b, o, none⟩) n c) T bo) {i : Nat} {m : Laid} (hm : T[i]? = some m) {j : Nat} (hj : j < 11) : w.cell? ⟨b, o + i * 11 + j, none⟩ = m.cells[j]? := by
  have e := flat_get T i j m hm hj
  rw [← e]
  have hc : ∃ v, (flat T)[i * 11 + j]? = some v := by
    rw [e]; exact ⟨_, List.getElem?_eq_getElem (by rw [m.cells_length]; exact hj)⟩
  obtain ⟨v, hv⟩ := hc
  rw [hv, Nat.add_assoc]
  exact h.sl.get hv
end Go.Vk
end
section
set_option linter.unusedSimpArgs false
set_option linter.unusedVariables false
namespace Go.Vk
open Go
theorem cap_part {P : Program} {t e ty : Nat} (hT : P.underlying t = some (.slice e)) {w : World} {a : Option Addr} {n c : Nat} {K : Value → World → Prop} (h : K (.int .i64 (c : Int)) w) : RunV P (Builtin.cap_ #[t] ty #[.slice a n c]) w K := by
  refine .of (w' := w) ?_ h
  simp [Builtin.cap_, run_underlying hT, goInt]
end Go.Vk
end
section
set_option linter.unusedSimpArgs false
set_option linter.unusedVariables false
namespace Go.Vk
open Go
theorem zeroCells_all {z : Array Value} {n : Nat} (ho : z.toList.all oneCell = true) : (Builtin.zeroCells z n).toList.all oneCell = true := by
  rw [List.all_eq_true] at ho ⊢
  intro v hv
  unfold Builtin.zeroCells at hv
  simp only [Array.toList_map, List.mem_map, Array.toList_range, List.mem_range] at hv
  obtain ⟨i, hi, rfl⟩ := hv
  have hp : 0 < z.size := by
    apply Classical.byContradiction
    intro h
    have : z.size = 0 := by omega
    rw [this] at hi; omega
  have hlt : i % z.size < z.size := Nat.mod_lt _ hp
  rw [getElem!_pos z (i % z.size) hlt]
  exact ho _ (by simp)
theorem app_zerosW {P : Program} {t e t3 ty : Nat} {k0 : IntKind} {es : Nat} (hes : 0 < es) (hT : STy P t e es) (h3 : P.underlying t3 = some (.int k0)) {z : Value} (hz : ∀ w, (zeroValue e).run P w = .ok z w) (hz1 : z.cells.size = es) (ho : z.cells.toList.all oneCell = true)
    {w : World} {s : Value} {c1 : List Value} {b1 : Option Nat} (h1 : SlAt w es s c1 b1) {n : Nat} {m : Int} (hm : m = n) (hl : c1.length + n * es ≤ 1000000) {K : Value → World → Prop}
    (h : ∀ v w' bo, SlAt w' es v (c1 ++ (Builtin.zeroCells z.cells n).toList) bo → Upd (fun b => b1 = some b) w w' → (∀ b, bo = some b → b1 = some b ∨ w.heap.size ≤ b) → (∀ a n1 c, s = .slice a n1 c → c < n1 + n → Ext w w' ∧ (∀ b, bo = some b → w.heap.size ≤ b) ∧ ∃ b o c', v = .slice (some ⟨b, o, none⟩) (n1 + n) c') → K v w') :
    RunV P (Builtin.append_ #[t, t3] ty #[s, .int .i64 m]) w K := by
  subst hm
  obtain ⟨a1, n1, k1, rfl, hk1, hc1⟩ := h1.len
  have hzl : (Builtin.zeroCells z.cells n).toList.length = n * es := by rw [Array.length_toList, zeroCells_size, hz1]
  have hzo := zeroCells_all (n := n) ho
  have hnn : n ≤ n * es := Nat.le_mul_of_pos_right _ hes
  have hn1 : n1 ≤ n1 * es := Nat.le_mul_of_pos_right _ hes
  have hf1 := firstCells_run (P := P) h1 hc1
  have hw : IntKind.i64.wrap (n : Int) = n := wrap_in (by unfold inI64; omega)
  have hneg : ¬ (n : Int) < 0 := by omega
  obtain ⟨i, hi, hi1, hi2⟩ := hT.bytes w
  have hbig : ¬ ((n : Int) * (i.bytes : Int) > 2 ^ 48) := by
    have : n * i.bytes ≤ 1000000 * 1024 := Nat.mul_le_mul (by omega) hi2
    rw [← Int.natCast_mul]; omega
  have happ : ∀ w : World, (if n * es = 0 then (pure #[] : Sem (Array Value)) else do pure (Builtin.zeroCells (← zeroValue e).cells n)).run P w = .ok (Builtin.zeroCells z.cells n) w := by
    intro w
    by_cases h0 : n = 0
    · subst h0
      have : Builtin.zeroCells z.cells 0 = #[] := Array.eq_empty_of_size_eq_zero (by rw [zeroCells_size]; omega)
      simp [Sem.run, this]
    · rw [if_neg (by intro h; rcases Nat.mul_eq_zero.1 h with h | h <;> omega)]
      simp [hz w]
  by_cases hfits : n1 + n ≤ k1
  · have key : ∃ w', (Builtin.append_ #[t, t3] ty #[.slice a1 n1 k1, .int .i64 (n : Int)]).run P w = .ok (.slice a1 (n1 + n) k1) w' ∧ SlAt w' es (.slice a1 (n1 + n) k1) (c1 ++ (Builtin.zeroCells z.cells n).toList) b1 ∧ Upd (fun b => b1 = some b) w w' := by
      rcases h1 with ⟨rfl, hv, rfl⟩ | ⟨b, o, m, c, cs, tt, rfl, hv, g3, g4, g5, g6, g7⟩
      · cases hv
        have hn2 : n = 0 := by omega
        subst hn2
        have hz0 : (Builtin.zeroCells z.cells 0).toList = [] := List.length_eq_zero_iff.1 (by rw [hzl]; omega)
        refine ⟨w, ?_, .inl ⟨rfl, rfl, by rw [hz0]; rfl⟩, .refl _ _⟩
        have hh := happ w
        simp only [Builtin.append_, List.getElem?_toArray, List.getElem?_cons_zero, List.getElem?_cons_succ, Sem.run_bind, Sem.run_pure, Result.andThen_ok, run_underlying hT.und, run_underlying h3, hT.size, asInt, asIntOf,
          hi, hw, hneg, hbig, if_false, if_true, hfits, Bool.not_true, hh, Bool.false_eq_true, Int.toNat_natCast]
      · cases hv
        have hin : n1 * es + n * es ≤ k1 * es := by rw [← Nat.add_mul]; exact Nat.mul_le_mul_right _ hfits
        have hst := run_storeCells (P := P) (a := ⟨b, o + n1 * es, none⟩) (Builtin.zeroCells z.cells n).toList 0 w hzo (fun j _ hj => by rw [add_mk]; exact g5.can (by omega))
        refine ⟨setCells w ⟨b, o + n1 * es, none⟩ (Builtin.zeroCells z.cells n).toList 0, ?_, .inr ⟨b, o, n1 + n, k1, ovw cs (o + n1 * es) (Builtin.zeroCells z.cells n).toList, tt, rfl, rfl, hfits, by rw [List.length_append, hc1, hzl, Nat.add_mul], g5.sets _ (o + n1 * es) 0, by rw [ovw_size]; exact g6, ?_⟩,
          Upd.setCells (F := fun i => some b = some i) (a := ⟨b, o + n1 * es, none⟩) w rfl _ 0⟩
        · have hh := happ w
          simp only [Builtin.append_, List.getElem?_toArray, List.getElem?_cons_zero, List.getElem?_cons_succ, Sem.run_bind, Sem.run_pure, Result.andThen_ok, run_underlying hT.und, run_underlying h3, hT.size, asInt, asIntOf,
            hi, hw, hneg, hbig, if_false, if_true, hfits, Bool.not_true, hh, Bool.false_eq_true, Int.toNat_natCast, add_mk, hst]
        · intro i hi
          rw [List.length_append] at hi
          by_cases hlt : i < c1.length
          · rw [ovw_out _ _ _ _ (by omega), g7 i hlt, List.getElem?_append_left hlt]
          · rw [List.getElem?_append_right (by omega)]
            have := ovw_in (Builtin.zeroCells z.cells n).toList cs (o + n1 * es) (i - c1.length) (by omega) (by omega)
            rw [show o + n1 * es + (i - c1.length) = o + i by omega] at this
            exact this
    obtain ⟨w', hr, hS, hU⟩ := key
    exact .of hr (h _ _ _ hS hU (fun b hb => .inl hb) fun a n1 c e hlt => by cases e; omega)
  · have hcap := nextcap_le (need := n1 + n) (old := k1) (by omega)
    obtain ⟨i', hi', _, _⟩ := hT.bytes w.drew
    have hii : i' = i := by
      have e1 : (typeInfo e).run P w.drew = (match (typeInfo e).run P w with | .ok x _ => .ok x w.drew | .halt h _ => .halt h w.drew) := by
        simp only [typeInfo, program, Sem.run_bind, Sem.run, Result.andThen_ok]
        cases P.info? e <;> simp [stuck, Sem.run]
      rw [hi] at e1
      rw [hi'] at e1
      cases e1; rfl
    subst hii
    have hbytes : ¬ (Builtin.nextslicecap (n1 + n) k1 * i'.bytes > 2 ^ 48) := by
      have : Builtin.nextslicecap (n1 + n) k1 * i'.bytes ≤ (2 * (n1 + n) + 1000) * 1024 := Nat.mul_le_mul hcap hi2
      omega
    have hmax : ¬ (((n1 + n : Nat) : Int) > IntKind.i64.max) := by
      simp [IntKind.max, IntKind.bits, IntKind.signed]; omega
    have h1' : SlAt w.drew es (.slice a1 n1 k1) c1 b1 := h1.ext (Ext.drew w)
    have hf1' := firstCells_run (P := P) (n := n1) h1' hc1
    have hroom : ∀ (n : Nat) (w : World), (askRoom n).run P w = .ok () w := by
      intro n w; unfold askRoom; split <;> simp [mark, Sem.run]
    let nc := (Question.appendCap (n1 + n) k1 e).cut (w.tape w.drawn (.appendCap (n1 + n) k1 e))
    have hnc : n1 + n ≤ nc := by simp only [nc, Question.cut]; omega
    have hch : (choose (.appendCap (n1 + n) k1 e)).run P w = .ok nc w.drew := rfl
    have hh := happ w.drew
    have hr : (Builtin.append_ #[t, t3] ty #[.slice a1 n1 k1, .int .i64 (n : Int)]).run P w =
        .ok (.slice (some ⟨w.heap.size, 0, none⟩) (n1 + n) nc) (w.drew.alloc (.cells (c1.toArray ++ Builtin.zeroCells z.cells n ++ Builtin.zeroCells z.cells (nc - (n1 + n))) e)) := by
      simp only [Builtin.append_, List.getElem?_toArray, List.getElem?_cons_zero, List.getElem?_cons_succ, Sem.run_bind, Sem.run_pure, Result.andThen_ok, run_underlying hT.und, run_underlying h3, hT.size, asInt, asIntOf,
        hi, hw, hneg, hbig, if_false, if_true, hfits, hmax, false_and, hbytes, hch, hroom, hi', hf1', Bool.not_true, hh, hz, newRow, newObj, Bool.false_eq_true, Int.toNat_natCast]
      simp [Sem.run, World.alloc_eq]
      rfl
    refine .of hr (h _ _ _ ?_ ((Ext.drew w).trans (Ext.alloc _ _)).upd (fun b hb => .inr (Nat.le_of_eq (Option.some.inj hb))) fun a n1 c e _ => ⟨(Ext.drew w).trans (Ext.alloc _ _), fun b hb => Nat.le_of_eq (Option.some.inj hb), by cases e; exact ⟨_, _, _, rfl⟩⟩)
    refine .inr ⟨w.heap.size, 0, n1 + n, nc, _, e, rfl, rfl, hnc, by rw [List.length_append, hc1, hzl, Nat.add_mul], .of (heap_alloc_new' w.drew _), ?_, ?_⟩
    · simp only [Array.size_append, List.size_toArray, zeroCells_size, hz1, hc1]
      rw [← Nat.add_mul, ← Nat.add_mul, Nat.zero_add]
      exact Nat.mul_le_mul_right _ (by omega)
    · intro j hj
      have hj2 : j < (c1.toArray ++ Builtin.zeroCells z.cells n).size := by
        simp only [List.length_append, hzl] at hj
        simp only [Array.size_append, List.size_toArray, zeroCells_size, hz1]; exact hj
      rw [Nat.zero_add, Array.getElem?_append_left hj2]
      have : c1.toArray ++ Builtin.zeroCells z.cells n = (c1 ++ (Builtin.zeroCells z.cells n).toList).toArray := by simp
      rw [this, List.getElem?_toArray]
theorem firstCells_takeW {P : Program} {w : World} {es n m c n' c' : Nat} {a : Option Addr} {cells : List Value} (h : RdAt w es (.slice a n c) cells) (hm : m * es ≤ cells.length) :
    (Builtin.firstCells es m (.slice a n' c')).run P w = .ok (cells.take (m * es)).toArray w := by
  obtain ⟨a', n0, c0, e, _, _, h4⟩ := h
  cases e
  cases a with
  | none =>
    have : cells = [] := by
      cases cells with
      | nil => rfl
      | cons x r => obtain ⟨b, o, e, _⟩ := h4 0 x rfl; cases e
    subst this
    simp [Builtin.firstCells]
  | some a =>
    have hc : cellsAt w a (cells.take (m * es)) := by
      intro i v hv
      have hi : cells[i]? = some v := by
        rw [List.getElem?_take] at hv
        split at hv
        · exact hv
        · cases hv
      obtain ⟨b, o, e, h5⟩ := h4 i v hi
      cases e
      rw [add_mk]; exact h5
    have hr := run_loadCells (P := P) hc
    rw [List.length_take, Nat.min_eq_left hm] at hr
    simpa [Builtin.firstCells] using hr
theorem copy_W {P : Program} {t e es ty t2 : Nat} (hT : P.underlying t = some (.slice e)) (hs : ∀ w, (sizeOf e).run P w = .ok es w) {w : World} {b o n c : Nat} {a2 : Option Addr} {n2 k2 : Nat} {c2 : List Value} {k : Nat}
    (h2 : RdAt w es (.slice a2 n2 k2) c2) (ho : (c2.take (k * es)).all oneCell = true) (hk : k = min n2 n) (hc : ∀ j, j < k * es → canStore w ⟨b, o + j, none⟩) {K : Value → World → Prop}
    (h : K (.int .i64 (k : Int)) (setCells w ⟨b, o, none⟩ (c2.take (k * es)) 0)) : RunV P (Builtin.copy_ #[t, t2] ty #[.slice (some ⟨b, o, none⟩) n c, .slice a2 n2 k2]) w K := by
  have h2' := h2
  obtain ⟨a2', n2', k2', e0, hk2, hc2, _⟩ := h2'
  cases e0
  have hle : k * es ≤ n2 * es := Nat.mul_le_mul_right _ (by omega)
  have hf2 := firstCells_takeW (P := P) (m := k) (n' := n2) (c' := k2) h2 (by omega)
  have hst := run_storeCells (P := P) (a := ⟨b, o, none⟩) (c2.take (k * es)) 0 w ho (fun j _ hj => by rw [add_mk]; exact hc j (by rw [List.length_take] at hj; omega))
  refine .of (w' := setCells w ⟨b, o, none⟩ (c2.take (k * es)) 0) ?_ h
  have hm : Nat.min n2 n = k := hk.symm
  simp [Builtin.copy_, run_underlying hT, hs, Builtin.lenOf, hm, hf2, hst, goInt]
theorem clear_W {P : Program} {t e es ty : Nat} (hT : P.underlying t = some (.slice e)) {z : Value} (hz : ∀ w, (zeroValue e).run P w = .ok z w) (hz1 : z.cells.size = es) (ho : z.cells.toList.all oneCell = true) {w : World} {b o n c : Nat}
    (hc : ∀ j, j < n * es → canStore w ⟨b, o + j, none⟩) {K : Value → World → Prop} (h : K (.tuple #[]) (setCells w ⟨b, o, none⟩ (Builtin.zeroCells z.cells n).toList 0)) : RunV P (Builtin.clear_ #[t] ty #[.slice (some ⟨b, o, none⟩) n c]) w K := by
  refine .of (w' := setCells w ⟨b, o, none⟩ (Builtin.zeroCells z.cells n).toList 0) ?_ h
  have hzl : (Builtin.zeroCells z.cells n).toList.length = n * es := by rw [Array.length_toList, zeroCells_size, hz1]
  cases n with
  | zero =>
    have : (Builtin.zeroCells z.cells 0).toList = [] := List.length_eq_zero_iff.1 (by rw [hzl]; omega)
    rw [this]
    simp [Builtin.clear_, run_underlying hT, setCells]
  | succ n =>
    have hst := run_storeCells (P := P) (a := ⟨b, o, none⟩) (Builtin.zeroCells z.cells (n + 1)).toList 0 w (zeroCells_all ho) (fun j _ hj => by rw [add_mk]; exact hc j (by omega))
    simp [Builtin.clear_, run_underlying hT, hz, hst]
theorem SlAt.canW {w : World} {es b o n c : Nat} {cells : List Value} {bo : Option Nat} (h : SlAt w es (.slice (some ⟨b, o, none⟩) n c) cells bo) {q : Nat} (hq : q < c * es) : canStore w ⟨b, o + q, none⟩ := by
  obtain ⟨g1, g3, g4, cs, t, g5, g6, g7⟩ := h.inv
  exact g5.can (by omega)
theorem SlAt.partW {w : World} {es b o n c : Nat} {cells : List Value} {bo : Option Nat} (h : SlAt w es (.slice (some ⟨b, o, none⟩) n c) cells bo) {l k m : Nat} (h1 : l ≤ k) (h2 : k ≤ n) (h3 : k ≤ m) (h4 : m ≤ c) :
    SlAt w es (.slice (if m = l then some ⟨b, o, none⟩ else Option.map (fun x : Addr => x.add (l * es)) (some ⟨b, o, none⟩)) (k - l) (m - l)) ((cells.drop (l * es)).take ((k - l) * es)) bo := by
  have hp := h.part (l := l) (k := k) (m := m) h1 h2 h3 h4
  by_cases e : m = l
  · rw [if_pos e]
    have e1 : k - l = 0 := by omega
    have e2 : m - l = 0 := by omega
    obtain ⟨g1, g3, g4, cs, t, g5, g6, g7⟩ := h.inv
    rw [e1, e2]
    refine .inr ⟨b, o, 0, 0, cs, t, g1, rfl, Nat.le_refl _, by simp, g5, by omega, fun i hi => by simp at hi⟩
  · rw [if_neg e, Option.map_some, add_mk]; exact hp
theorem SlAt.writeW {w : World} {es b o n c : Nat} {cells : List Value} {bo : Option Nat} (h : SlAt w es (.slice (some ⟨b, o, none⟩) n c) cells bo) {q : Nat} (xs : List Value) (hq : q + xs.length ≤ n * es) :
    SlAt (setCells w ⟨b, o + q, none⟩ xs 0) es (.slice (some ⟨b, o, none⟩) n c) (cells.take q ++ xs ++ cells.drop (q + xs.length)) bo := by
  obtain ⟨g1, g3, g4, cs, t, g5, g6, g7⟩ := h.inv
  have hnc : n * es ≤ c * es := Nat.mul_le_mul_right _ g3
  refine .inr ⟨b, o, n, c, ovw cs (o + q + 0) xs, t, g1, rfl, g3, by simp; omega, g5.sets xs (o + q) 0, by rw [ovw_size]; exact g6, fun i hi => ?_⟩
  have hlen : i < n * es := by simp at hi; omega
  rw [Nat.add_zero]
  have hqt : (cells.take q).length = q := by rw [List.length_take]; omega
  by_cases h1 : i < q
  · rw [ovw_out _ _ _ _ (.inl (by omega)), g7 i (by omega), List.append_assoc, List.getElem?_append_left (by omega), List.getElem?_take, if_pos h1]
  · by_cases h2 : i < q + xs.length
    · have := ovw_in xs cs (o + q) (i - q) (by omega) (by omega)
      rw [show o + q + (i - q) = o + i by omega] at this
      rw [this, List.getElem?_append_left (by rw [List.length_append]; omega), List.getElem?_append_right (by omega), hqt]
    · rw [ovw_out _ _ _ _ (.inr (by omega)), g7 i (by omega), List.getElem?_append_right (by rw [List.length_append]; omega), List.getElem?_drop, List.length_append, hqt, show q + xs.length + (i - (q + xs.length)) = i by omega]
/-- one element more of what a slice has room for -/
theorem SlAt.longerW {w : World} {es b o n c : Nat} {cells : List Value} {bo : Option Nat} (h : SlAt w es (.slice (some ⟨b, o, none⟩) n c) cells bo) (hc : n + 1 ≤ c) : ∃ us : List Value, us.length = es ∧ SlAt w es (.slice (some ⟨b, o, none⟩) (n + 1) c) (cells ++ us) bo := by
  obtain ⟨g1, g3, g4, cs, t, g5, g6, g7⟩ := h.inv
  have hmul : (n + 1) * es ≤ c * es := Nat.mul_le_mul_right _ hc
  rw [Nat.add_mul, Nat.one_mul] at hmul
  have hlen : ((cs.toList.drop (o + n * es)).take es).length = es := by
    simp only [List.length_take, List.length_drop, Array.length_toList]; omega
  refine ⟨(cs.toList.drop (o + n * es)).take es, hlen, .inr ⟨b, o, n + 1, c, cs, t, g1, rfl, hc, by rw [List.length_append, hlen, g4, Nat.add_mul, Nat.one_mul], g5, g6, fun i hi => ?_⟩⟩
  rw [List.length_append, hlen] at hi
  by_cases h1 : i < cells.length
  · rw [g7 i h1, List.getElem?_append_left h1]
  · rw [List.getElem?_append_right (by omega), List.getElem?_take, if_pos (by omega), List.getElem?_drop, Array.getElem?_toList, show o + n * es + (i - cells.length) = o + i by omega]
theorem ins_growW (l X Z : List Value) (K E : Nat) (hk : K ≤ l.length) (hX : X.length = E) (hZ : l.length + E = K + Z.length) :
    ((l.take K ++ Z).take K ++ X ++ (l.take K ++ Z).drop (K + E)).take (K + E) ++ l.drop K ++ ((l.take K ++ Z).take K ++ X ++ (l.take K ++ Z).drop (K + E)).drop (K + E + (l.drop K).length) = l.take K ++ X ++ l.drop K := by
  have hlt : (l.take K).length = K := by rw [List.length_take]; omega
  have e1 : (l.take K ++ Z).take K = l.take K := by
    rw [List.take_append_of_le_length (by omega), List.take_take, Nat.min_self]
  rw [e1]
  have hl1 : (l.take K ++ X).length = K + E := by rw [List.length_append, hlt, hX]
  have e2 : (l.take K ++ X ++ (l.take K ++ Z).drop (K + E)).take (K + E) = l.take K ++ X := by
    rw [List.take_append_of_le_length (by omega), List.take_of_length_le (by omega)]
  have e3 : (l.take K ++ X ++ (l.take K ++ Z).drop (K + E)).drop (K + E + (l.drop K).length) = [] :=
    List.drop_eq_nil_of_le (by simp only [List.length_append, List.length_take, List.length_drop, hX]; omega)
  rw [e2, e3, List.append_nil]
theorem ins_hereW (l X U : List Value) (K E : Nat) (hk : K ≤ l.length) (hX : X.length = E) (hU : U.length = E) (hE : K + E ≤ l.length) :
    (((l ++ U).take (K + E) ++ l.drop K ++ (l ++ U).drop (K + E + (l.drop K).length)).take K ++ X ++ ((l ++ U).take (K + E) ++ l.drop K ++ (l ++ U).drop (K + E + (l.drop K).length)).drop (K + E)) = l.take K ++ X ++ l.drop K := by
  have e0 : (l ++ U).take (K + E) = l.take (K + E) := List.take_append_of_le_length hE
  have hlt : (l.take (K + E)).length = K + E := by rw [List.length_take]; omega
  have e3 : (l ++ U).drop (K + E + (l.drop K).length) = [] := List.drop_eq_nil_of_le (by simp only [List.length_append, List.length_drop]; omega)
  rw [e0, e3, List.append_nil]
  have e1 : (l.take (K + E) ++ l.drop K).take K = l.take K := by
    rw [List.take_append_of_le_length (by omega), List.take_take, Nat.min_eq_left (by omega)]
  have e2 : (l.take (K + E) ++ l.drop K).drop (K + E) = l.drop K := by
    rw [List.drop_append_of_le_length (by omega), List.drop_eq_nil_of_le (by omega), List.nil_append]
  rw [e1, e2]
end Go.Vk
end
section
set_option linter.unusedSimpArgs false
set_option linter.unusedVariables false
namespace Go.Vk
theorem SlAt.beyond {w : World} {es b o n c : Nat} {cells : List Value} {bo : Option Nat} (h : SlAt w es (.slice (some ⟨b, o, none⟩) n c) cells bo) {q : Nat} (hq : o + cells.length ≤ q) (xs : List Value) :
    SlAt (setCells w ⟨b, q, none⟩ xs 0) es (.slice (some ⟨b, o, none⟩) n c) cells bo := by
  obtain ⟨g1, g3, g4, cs, t, g5, g6, g7⟩ := h.inv
  refine .inr ⟨b, o, n, c, ovw cs (q + 0) xs, t, g1, rfl, g3, g4, g5.sets xs q 0, by rw [ovw_size]; exact g6, fun i hi => ?_⟩
  rw [ovw_out _ _ _ _ (.inl (by omega))]; exact g7 i hi
end Go.Vk
end
section
set_option linter.unusedSimpArgs false
set_option linter.unusedVariables false
namespace Go.Vk
open Go
structure OpS where
  node : Int
  space : Int
  name : ByteArray
def OpS.cells (o : OpS) : List Value := [.int .i64 o.node, .int .i64 o.space, .string o.name]
def OpS.row (o : OpS) : Array Value := #[.int .i64 o.node, .int .i64 o.space, .string o.name]
theorem OpS.len3 (o : OpS) : o.cells.length = 3 := rfl
def opCells (l : List OpS) : List Value := l.flatMap OpS.cells
def zO : Value := .agg #[.int .i64 0, .int .i64 0, .string ⟨#[]⟩]
theorem opCells_length (l : List OpS) : (opCells l).length = l.length * 3 := by
  induction l with
  | nil => rfl
  | cons y l ih => simp only [opCells, List.flatMap_cons, List.length_append, List.length_cons] at ih ⊢; rw [ih]; simp [OpS.cells]; omega
theorem opCells_append (a b : List OpS) : opCells (a ++ b) = opCells a ++ opCells b := by simp [opCells]
theorem opCells_one (l : List OpS) : (opCells l).all oneCell = true := by simp [opCells, OpS.cells, oneCell]
theorem opCells_take : ∀ (l : List OpS) (k : Nat), (opCells l).take (k * 3) = opCells (l.take k)
  | [], k => by simp [opCells]
  | z :: l, 0 => by simp [opCells]
  | z :: l, k + 1 => by
    have e : opCells (z :: l) = [.int .i64 z.node, .int .i64 z.space, .string z.name] ++ opCells l := by simp [opCells, OpS.cells]
    rw [List.take_succ_cons, e, show (k + 1) * 3 = k * 3 + 1 + 1 + 1 by omega]
    simp only [List.cons_append, List.nil_append, List.take_succ_cons]
    rw [opCells_take l k]
    simp [opCells, OpS.cells]
theorem opCells_drop : ∀ (l : List OpS) (k : Nat), (opCells l).drop (k * 3) = opCells (l.drop k)
  | [], k => by simp [opCells]
  | z :: l, 0 => by simp
  | z :: l, k + 1 => by
    have e : opCells (z :: l) = [.int .i64 z.node, .int .i64 z.space, .string z.name] ++ opCells l := by simp [opCells, OpS.cells]
    rw [List.drop_succ_cons, e, show (k + 1) * 3 = k * 3 + 1 + 1 + 1 by omega]
    simp only [List.cons_append, List.nil_append, List.drop_succ_cons]
    exact opCells_drop l k
theorem opCells_ins (l : List OpS) (x : OpS) (k : Nat) : opCells (l.take k ++ x :: l.drop k) = (opCells l).take (k * 3) ++ x.cells ++ (opCells l).drop (k * 3) := by
  rw [opCells_take, opCells_drop]; simp [opCells]
theorem opCells_get : ∀ {l : List OpS} {i : Nat} {y : OpS}, l[i]? = some y → (opCells l)[i * 3]? = some (.int .i64 y.node) ∧ (opCells l)[i * 3 + 1]? = some (.int .i64 y.space) ∧ (opCells l)[i * 3 + 2]? = some (.string y.name)
  | [], i, y, h => by simp at h
  | z :: l, 0, y, h => by
    simp at h; subst h
    exact ⟨rfl, rfl, rfl⟩
  | z :: l, i + 1, y, h => by
    have := opCells_get (l := l) (i := i) (y := y) (by simpa using h)
    have e : opCells (z :: l) = [.int .i64 z.node, .int .i64 z.space, .string z.name] ++ opCells l := by simp [opCells, OpS.cells]
    rw [e, show (i + 1) * 3 = i * 3 + 1 + 1 + 1 by omega]
    exact this
theorem ops_ne {l : List OpS} {k : Nat} (h : k < l.length) : opCells l ≠ [] := fun e => by
  have := opCells_length l
  rw [e] at this; simp at this; omega
theorem ops_len {w : World} {v : Value} {l : List OpS} {bo : Option Nat} (h : SlAt w 3 v (opCells l) bo) : ∃ a c, v = .slice a l.length c ∧ l.length ≤ c := by
  obtain ⟨a, n, c, rfl, h1, h2⟩ := h.len
  rw [opCells_length] at h2
  obtain rfl : n = l.length := by omega
  exact ⟨a, c, rfl, h1⟩
theorem ops_cell {w : World} {v : Value} {l : List OpS} {bo : Option Nat} (h : SlAt w 3 v (opCells l) bo) {i : Nat} {y : OpS} (hy : l[i]? = some y) : ∃ b o c, v = .slice (some ⟨b, o, none⟩) l.length c ∧ bo = some b ∧ cellO (w.heap[b]?) (o + i * 3) = some (.int .i64 y.node) ∧ cellO (w.heap[b]?) (o + i * 3 + 1) = some (.int .i64 y.space) ∧ cellO (w.heap[b]?) (o + i * 3 + 2) = some (.string y.name) := by
  obtain ⟨a, c, rfl, h1⟩ := ops_len h
  obtain ⟨b, o, n', c', e, hb⟩ := h.some_of (ops_ne (List.getElem?_eq_some_iff.1 hy).1)
  cases e
  obtain ⟨g1, g2, g3⟩ := opCells_get hy
  refine ⟨b, o, c, rfl, hb, ?_, ?_, ?_⟩
  · rw [← cell_h]; exact h.get g1
  · rw [← cell_h, Nat.add_assoc]; exact h.get g2
  · rw [← cell_h, Nat.add_assoc]; exact h.get g3
end Go.Vk
namespace Go.Proofs.YtkafpameheohdaaDoor
open Go Go.Vk
theorem styO : STy Tryd.prog 69 79 3 := ⟨Tryd.underlying69, fun w => by simp [Tryd.sizeOf79, Sem.run], fun w => ⟨_, by simp [Tryd.typeInfo79, Sem.run]; rfl, by decide, by decide⟩, fun w => ⟨_, by simp [Tryd.zeroValue79, Sem.run]; rfl, by decide⟩⟩
set_option maxHeartbeats 40000000
theorem overlaps_o {w : World} {va vb : Value} {a b : Addr} {la ca lb cb : Nat} (ea : va = .slice (some a) la ca) (eb : vb = .slice (some b) lb cb) (hne : a.block ≠ b.block) {tA tB : TypeId} {kA kB : Nat}
    (hsa : w.shape? a.block = some (tA, kA)) (hsb : w.shape? b.block = some (tB, kB)) (hkB : kB ≠ 0) (hfa : w.frozen? a = false) (hfe : w.frozen? { block := a.block, off := kA } = false) :
    Gives Tryd.prog 72 #[va, vb] w fun v w' => v = .bool false ∧ w' = w := by
  subst ea; subst eb
  refine Gives.of_ext (v := .bool false) (w' := w) ?_ ⟨rfl, rfl⟩
  rw [run_callFunc_extern Tryd.func72 (by kernel_rfl) (by kernel_rfl) (by kernel_rfl) (e := Extern.SlicesOverlaps.overlaps #[69, 69] #[4]) (by kernel_rfl),
    Lib.run_overlaps_apart w 69 4 79 Tryd.underlying69 3 (fun w => by simp [Tryd.sizeOf79, Sem.run]) a b la ca lb cb hne tA tB kA kB hsa hsb hkB hfa hfe]
  rfl
theorem delete_o {w : World} {v : Value} {l : List OpS} {bo : Option Nat} (h : SlAt w 3 v (opCells l) bo) (hl : l.length < 100000) (k : Nat) (hk : k < l.length) :
    Gives Tryd.prog 53 #[v, .int .i64 (k : Int), .int .i64 ((k : Int) + 1)] w fun u w' => SlAt w' 3 u (opCells (l.eraseIdx k)) bo ∧ Upd (fun b => bo = some b) w w' := by
  obtain ⟨b, o, n, c, rfl, hbo⟩ := h.some_of (ops_ne hk)
  obtain ⟨_, g3, g4, _⟩ := h.inv
  rw [opCells_length] at g4
  have g4 : l.length = n := by omega
  obtain ⟨N, hN⟩ : ∃ N, n = N + 1 := ⟨n - 1, by omega⟩
  subst hN
  have s1 : (0 : Int) ≤ k := by omega
  have s2 : (k : Int) ≤ c := by omega
  have s3 : (k : Int) + 1 ≤ (N : Int) + 1 := by omega
  have s4 : (N : Int) + 1 ≤ c := by omega
  have s5 : (0 : Int) ≤ (k : Int) + 1 := by omega
  have s7 : ((k : Int) + 1).toNat = k + 1 := by omega
  have s8 : (k : Int) + 1 ≤ c := by omega
  have s9 : (k : Int) ≤ (k : Int) + 1 := by omega
  have s10 : ((k : Int) = (k : Int) + 1) = False := eq_false (by omega)
  have s11 : (0 : Int) ≤ (N : Int) + 1 := by omega
  have s12 : ((N : Int) + 1).toNat = N + 1 := by omega
  have s13 : (k : Int) ≤ (N : Int) + 1 := by omega
  refine Gives.of_W Tryd.call53 Tryd.func53 rfl Tryd.ntmps53 (by simp) ?_; intro Z hZ
  (repeat (first | (with_reducible first | (refine hK _ _ ?_; clear hK K) | refine (show ∀ σ' w', _ → K σ' w' from by assumption) _ _ ?_ | refine W_seq_k fun K hK => ?_ | refine W_block_k fun K hK => ?_ | refine W_skip ?_ | refine W_ret ?_) | ((first | ((with_reducible refine W_id ?_); refine W_reg (by decide) (by rfl) ?_) | (with_reducible first | refine W_cond ?_ | refine hZ _ _ ?_ | refine W_exit ?_ | refine Wo_id ?_)); repeat1' simp only [push_cast, Nat.reduceBEq, Nat.reduceLT, Nat.reduceEqDiff, reduceIte, reduceCtorEq, Nat.reduceMul, Nat.reduceAdd, Nat.reduceSub, Int.reduceEq, Int.reduceLT, Int.reduceLE, Int.reduceNeg, Int.reduceAdd, Int.reduceSub, Int.reduceMul, Nat.reduceLeDiff, Int.reduceToNat, s1, s2, s3, s4, s5, s7, s8, s9, s10, s11, s12, s13, Int.le_refl]) | ((repeat ((fail_if_success with_reducible refine hK _ _ ?_); clear hK K)); (with_reducible refine hK _ _ ?_); clear hK K)))
  refine W_draw (.pas 0 (.pas 1 (.pas 2 (.pas 3 (.pas 4 (.pas 5 (.tail [6, 7]))))))) (fun _ => False) (by decide) mixed (by kernel_rfl) ?_
  (repeat (first | ((first | refine pas_plain rfl ?_ | refine pas_g rfl rfl ?_ | refine act_plain rfl ?_ | refine act_g rfl rfl ?_ | refine last_plain rfl ?_ | refine tail_plain rfl ?_ | refine tail_g rfl rfl ?_); (repeat simp only [push_cast, Nat.reduceBEq, Nat.reduceLT, Nat.reduceEqDiff, reduceIte, reduceCtorEq, Nat.reduceMul, Nat.reduceAdd, Nat.reduceSub, Int.reduceEq, Int.reduceLT, Int.reduceLE, Int.reduceNeg, Int.reduceAdd, Int.reduceSub, Int.reduceMul, Nat.reduceLeDiff, Int.reduceToNat, s1, s2, s3, s4, s5, s7, s8, s9, s10, s11, s12, s13, Int.le_refl])) | (refine tail_fin ?_) | (refine sch_fin ?_)))
  have hd := h.ext (Ext.drew w)
  have x1 := hd.partW (l := 0) (k := k) (m := c) (by omega) (by omega) (by omega) (by omega)
  have x2 := hd.partW (l := k + 1) (k := N + 1) (m := c) (by omega) (by omega) (by omega) (by omega)
  rw [opCells_drop, opCells_take] at x1 x2
  refine app_in styO styO.und (by decide) (m := N + 1 - (k + 1)) x1 x2.rd (opCells_one _) (by rw [opCells_length, opCells_length]; simp; omega) (by rw [opCells_length]; simp; omega) (by omega) ?_
  intro w1 g1 g2
  have eA : (if c = 0 then some (⟨b, o, none⟩ : Addr) else Option.map (fun x : Addr => x.add (0 * 3)) (some ⟨b, o, none⟩)) = some ⟨b, o, none⟩ := by rw [if_neg (by omega)]; rfl
  have eN : k - 0 + (N + 1 - (k + 1)) = N := by omega
  rw [eA, eN, Nat.sub_zero, ← opCells_append] at g1
  rw [eA, eN, Nat.sub_zero, Nat.sub_zero]
  have eL : (l.drop 0).take k ++ (l.drop (k + 1)).take (N + 1 - (k + 1)) = l.eraseIdx k := by
    rw [List.eraseIdx_eq_take_drop_succ, List.drop_zero, List.take_of_length_le (l := l.drop (k + 1)) (by simp; omega)]
  rw [List.drop_zero] at eL g1
  rw [Nat.sub_zero, eL] at g1
  have s20 : (0 : Int) ≤ (N : Int) := by omega
  have s21 : (N : Int) ≤ (N : Int) + 1 := by omega
  have s22 : (c = N) = False := eq_false (by omega)
  have s23 : N + 1 - N = 1 := by omega
  (repeat (first | ((first | refine pas_plain rfl ?_ | refine pas_g rfl rfl ?_ | refine act_plain rfl ?_ | refine act_g rfl rfl ?_ | refine last_plain rfl ?_ | refine tail_plain rfl ?_ | refine tail_g rfl rfl ?_); (repeat simp only [push_cast, Nat.reduceBEq, Nat.reduceLT, Nat.reduceEqDiff, reduceIte, reduceCtorEq, Nat.reduceMul, Nat.reduceAdd, Nat.reduceSub, Int.reduceEq, Int.reduceLT, Int.reduceLE, Int.reduceNeg, Int.reduceAdd, Int.reduceSub, Int.reduceMul, Nat.reduceLeDiff, Int.reduceToNat])) | (refine tail_fin ?_) | (refine sch_fin ?_)))
  ((repeat simp only [push_cast, Nat.reduceBEq, Nat.reduceLT, Nat.reduceEqDiff, reduceIte, reduceCtorEq, Nat.reduceMul, Nat.reduceAdd, Nat.reduceSub, Int.reduceEq, Int.reduceLT, Int.reduceLE, Int.reduceNeg, Int.reduceAdd, Int.reduceSub, Int.reduceMul, Nat.reduceLeDiff, Int.reduceToNat, s4, s11, s12, s20, s21, s22, s23]); (repeat (first | (with_reducible first | (refine hK _ _ ?_; clear hK K) | refine (show ∀ σ' w', _ → K σ' w' from by assumption) _ _ ?_ | refine W_seq_k fun K hK => ?_ | refine W_block_k fun K hK => ?_ | refine W_skip ?_ | refine W_ret ?_) | ((first | ((with_reducible refine W_id ?_); refine W_reg (by decide) (by rfl) ?_) | (with_reducible first | refine W_cond ?_ | refine hZ _ _ ?_ | refine W_exit ?_ | refine Wo_id ?_)); repeat1' simp only [push_cast, Nat.reduceBEq, Nat.reduceLT, Nat.reduceEqDiff, reduceIte, reduceCtorEq, Nat.reduceMul, Nat.reduceAdd, Nat.reduceSub, Int.reduceEq, Int.reduceLT, Int.reduceLE, Int.reduceNeg, Int.reduceAdd, Int.reduceSub, Int.reduceMul, Nat.reduceLeDiff, Int.reduceToNat, s4, s11, s12, s20, s21, s22, s23]) | ((repeat ((fail_if_success with_reducible refine hK _ _ ?_); clear hK K)); (with_reducible refine hK _ _ ?_); clear hK K))))
  rw [Option.map_some, add_mk]
  refine clear_W styO.und (es := 3) (z := zO) (fun w => by simp [zO, Tryd.zeroValue79, Sem.run]) rfl rfl (fun j hj => ?_) ?_
  · have := g1.canW (q := N * 3 + j) (by omega)
    rw [Nat.add_assoc]; exact this
  have hb1 : bo = some b := hbo
  have hlen : (opCells (l.eraseIdx k)).length = N * 3 := by rw [opCells_length, List.length_eraseIdx, if_pos hk]; congr 1; omega
  have g3 := g1.beyond (q := o + N * 3) (by omega) (Builtin.zeroCells zO.cells 1).toList
  have g4 : Upd (fun b => bo = some b) w (setCells w1 ⟨b, o + N * 3, none⟩ (Builtin.zeroCells zO.cells 1).toList 0) :=
    Upd.trans ((Ext.drew w).upd.trans g2 fun _ _ h => h) (Upd.setCells (F := fun b => bo = some b) (a := ⟨b, o + N * 3, none⟩) w1 hb1 _ 0) fun _ _ h => h
  ((repeat simp only [push_cast, Nat.reduceBEq, Nat.reduceLT, Nat.reduceEqDiff, reduceIte, reduceCtorEq, Nat.reduceMul, Nat.reduceAdd, Nat.reduceSub, Int.reduceEq, Int.reduceLT, Int.reduceLE, Int.reduceNeg, Int.reduceAdd, Int.reduceSub, Int.reduceMul, Nat.reduceLeDiff, Int.reduceToNat]); (repeat (first | (with_reducible first | (refine hK _ _ ?_; clear hK K) | refine (show ∀ σ' w', _ → K σ' w' from by assumption) _ _ ?_ | refine W_seq_k fun K hK => ?_ | refine W_block_k fun K hK => ?_ | refine W_skip ?_ | refine W_ret ?_) | ((first | ((with_reducible refine W_id ?_); refine W_reg (by decide) (by rfl) ?_) | (with_reducible first | refine W_cond ?_ | refine hZ _ _ ?_ | refine W_exit ?_ | refine Wo_id ?_)); repeat1' simp only [push_cast, Nat.reduceBEq, Nat.reduceLT, Nat.reduceEqDiff, reduceIte, reduceCtorEq, Nat.reduceMul, Nat.reduceAdd, Nat.reduceSub, Int.reduceEq, Int.reduceLT, Int.reduceLE, Int.reduceNeg, Int.reduceAdd, Int.reduceSub, Int.reduceMul, Nat.reduceLeDiff, Int.reduceToNat]) | ((repeat ((fail_if_success with_reducible refine hK _ _ ?_); clear hK K)); (with_reducible refine hK _ _ ?_); clear hK K))))
  exact ⟨g3, g4⟩
theorem insert_o {w : World} {v : Value} {l : List OpS} {bo : Option Nat} (h : SlAt w 3 v (opCells l) bo) (hl : l.length < 100000) {bx : Nat} {x : OpS} (hx : w.heap[bx]? = some (.cells x.row 79 (0, 0))) (hne : bo ≠ some bx) (k : Nat) (hk : k ≤ l.length) :
    Gives Tryd.prog 52 #[v, .int .i64 (k : Int), .slice (some ⟨bx, 0, none⟩) 1 1] w fun u w' => ∃ bo', SlAt w' 3 u (opCells (l.take k ++ x :: l.drop k)) bo' ∧ Upd (fun b => bo = some b) w w' ∧ ∀ b, bo' = some b → bo = some b ∨ w.heap.size ≤ b := by
  have hxs : SlAt w 3 (.slice (some ⟨bx, 0, none⟩) 1 1) (opCells [x]) (some bx) := .inr ⟨bx, 0, 1, 1, _, _, rfl, rfl, Nat.le_refl _, rfl, .of hx, by simp [OpS.row], fun i hi => by
    rw [Nat.zero_add]; simp [opCells, OpS.cells, OpS.row]⟩
  obtain ⟨a, c, rfl, hc⟩ := ops_len h
  have s1 : (0 : Int) ≤ k := by omega
  have s2 : (k : Int) ≤ (l.length : Int) := by omega
  have s3 : (l.length : Int) ≤ c := by omega
  have s4 : (k : Int) ≤ c := by omega
  have s5 : ((1 : Int) = 0) = False := by decide
  by_cases hkl : k = l.length
  · subst hkl
    refine Gives.of_W Tryd.call52 Tryd.func52 rfl Tryd.ntmps52 (by simp) ?_; intro Z hZ
    (repeat (first | (with_reducible first | (refine hK _ _ ?_; clear hK K) | refine (show ∀ σ' w', _ → K σ' w' from by assumption) _ _ ?_ | refine W_seq_k fun K hK => ?_ | refine W_block_k fun K hK => ?_ | refine W_skip ?_ | refine W_ret ?_) | ((first | ((with_reducible refine W_id ?_); refine W_reg (by decide) (by rfl) ?_) | (with_reducible first | refine W_cond ?_ | refine hZ _ _ ?_ | refine W_exit ?_ | refine Wo_id ?_)); repeat1' simp only [push_cast, Nat.reduceBEq, Nat.reduceLT, Nat.reduceEqDiff, reduceIte, reduceCtorEq, Nat.reduceMul, Nat.reduceAdd, Nat.reduceSub, Int.reduceEq, Int.reduceLT, Int.reduceLE, Int.reduceNeg, Int.reduceAdd, Int.reduceSub, Int.reduceMul, Nat.reduceLeDiff, Int.reduceToNat, s1, s2, s3, s4, s5, Int.le_refl]) | ((repeat ((fail_if_success with_reducible refine hK _ _ ?_); clear hK K)); (with_reducible refine hK _ _ ?_); clear hK K)))
    refine app_to styO styO.und (by decide) h hxs (opCells_one _) (by rw [opCells_length, opCells_length]; simp; omega) ?_
    intro v' w' bo' g1 g2 g3
    rw [← opCells_append] at g1
    ((repeat simp only [push_cast, Nat.reduceBEq, Nat.reduceLT, Nat.reduceEqDiff, reduceIte, reduceCtorEq, Nat.reduceMul, Nat.reduceAdd, Nat.reduceSub, Int.reduceEq, Int.reduceLT, Int.reduceLE, Int.reduceNeg, Int.reduceAdd, Int.reduceSub, Int.reduceMul, Nat.reduceLeDiff, Int.reduceToNat]); (repeat (first | (with_reducible first | (refine hK _ _ ?_; clear hK K) | refine (show ∀ σ' w', _ → K σ' w' from by assumption) _ _ ?_ | refine W_seq_k fun K hK => ?_ | refine W_block_k fun K hK => ?_ | refine W_skip ?_ | refine W_ret ?_) | ((first | ((with_reducible refine W_id ?_); refine W_reg (by decide) (by rfl) ?_) | (with_reducible first | refine W_cond ?_ | refine hZ _ _ ?_ | refine W_exit ?_ | refine Wo_id ?_)); repeat1' simp only [push_cast, Nat.reduceBEq, Nat.reduceLT, Nat.reduceEqDiff, reduceIte, reduceCtorEq, Nat.reduceMul, Nat.reduceAdd, Nat.reduceSub, Int.reduceEq, Int.reduceLT, Int.reduceLE, Int.reduceNeg, Int.reduceAdd, Int.reduceSub, Int.reduceMul, Nat.reduceLeDiff, Int.reduceToNat]) | ((repeat ((fail_if_success with_reducible refine hK _ _ ?_); clear hK K)); (with_reducible refine hK _ _ ?_); clear hK K))))
    rw [List.take_length, List.drop_length]
    exact ⟨bo', g1, g2, g3⟩
  · have hlt : k < l.length := by omega
    obtain ⟨b, o, n0, c0, e0, hbo⟩ := h.some_of (ops_ne hlt)
    cases e0
    obtain ⟨_, _, _, cs, ct, hHB, hcs, _⟩ := h.inv
    have hbx : b ≠ bx := fun e => hne (by rw [hbo, e])
    generalize hn : l.length = n at *
    have s6 : ((k : Int) = (n : Int)) = False := eq_false (by omega)
    have s7 : inI64 ((n : Int) + 1) := by unfold inI64; omega
    have s8 : inI64 ((n : Int) + 1 - k) := by unfold inI64; omega
    have s9 : inI64 ((k : Int) + 1) := by unfold inI64; omega
    have s10 : (0 : Int) ≤ (k : Int) + 1 := by omega
    have s11 : ((k : Int) + 1).toNat = k + 1 := by omega
    have s12 : (0 : Int) ≤ (n : Int) + 1 := by omega
    have s13 : ((n : Int) + 1).toNat = n + 1 := by omega
    have s14 : (k : Int) ≤ (n : Int) + 1 := by omega
    have s15 : (k : Int) + 1 ≤ (n : Int) + 1 := by omega
    by_cases hroom : n + 1 ≤ c
    · have r1 : ¬ (c : Int) < (n : Int) + 1 := by omega
      have r2 : (n : Int) + 1 ≤ c := by omega
      obtain ⟨u, hul, hu⟩ := h.longerW hroom
      refine Gives.of_W Tryd.call52 Tryd.func52 rfl Tryd.ntmps52 (by simp) ?_; intro Z hZ
      (repeat (first | (with_reducible first | (refine hK _ _ ?_; clear hK K) | refine (show ∀ σ' w', _ → K σ' w' from by assumption) _ _ ?_ | refine W_seq_k fun K hK => ?_ | refine W_block_k fun K hK => ?_ | refine W_skip ?_ | refine W_ret ?_) | ((first | ((with_reducible refine W_id ?_); refine W_reg (by decide) (by rfl) ?_) | (with_reducible first | refine W_cond ?_ | refine hZ _ _ ?_ | refine W_exit ?_ | refine Wo_id ?_)); repeat1' simp only [push_cast, Nat.reduceBEq, Nat.reduceLT, Nat.reduceEqDiff, reduceIte, reduceCtorEq, Nat.reduceMul, Nat.reduceAdd, Nat.reduceSub, Int.reduceEq, Int.reduceLT, Int.reduceLE, Int.reduceNeg, Int.reduceAdd, Int.reduceSub, Int.reduceMul, Nat.reduceLeDiff, Int.reduceToNat, s1, s2, s3, s4, s5, s6, s7, Int.le_refl]) | ((repeat ((fail_if_success with_reducible refine hK _ _ ?_); clear hK K)); (with_reducible refine hK _ _ ?_); clear hK K)))
      refine cap_part styO.und ?_
      have z0 : (c = 0) = False := eq_false (by omega)
      have z1 : (c = k) = False := eq_false (by omega)
      have z2 : (c = k + 1) = False := eq_false (by omega)
      have hHB' := hHB
      obtain ⟨f, hf, hbk⟩ := hHB'
      have hsb : w.shape? b = some (ct, cs.size) := by simp [World.shape?, hbk]
      have hsx : w.shape? bx = some (79, 3) := by simp [World.shape?, hx, OpS.row]
      have hfa : w.frozen? ⟨bx, 0, none⟩ = false := by rw [froz_h, hx]; rfl
      have hfe : w.frozen? ⟨bx, 3, none⟩ = false := by rw [froz_h, hx]; rfl
      ((repeat simp only [push_cast, Nat.reduceBEq, Nat.reduceLT, Nat.reduceEqDiff, reduceIte, reduceCtorEq, Nat.reduceMul, Nat.reduceAdd, Nat.reduceSub, Int.reduceEq, Int.reduceLT, Int.reduceLE, Int.reduceNeg, Int.reduceAdd, Int.reduceSub, Int.reduceMul, Nat.reduceLeDiff, Int.reduceToNat, r1, r2, s7, s9, s10, s11, s12, s13, s14, s15, z0, z1, z2, Nat.sub_zero, Int.sub_zero, Option.map_some]); (repeat (first | (with_reducible first | (refine hK _ _ ?_; clear hK K) | refine (show ∀ σ' w', _ → K σ' w' from by assumption) _ _ ?_ | refine W_seq_k fun K hK => ?_ | refine W_block_k fun K hK => ?_ | refine W_skip ?_ | refine W_ret ?_) | ((first | ((with_reducible refine W_id ?_); refine W_reg (by decide) (by rfl) ?_) | (with_reducible first | refine W_cond ?_ | refine hZ _ _ ?_ | refine W_exit ?_ | refine Wo_id ?_)); repeat1' simp only [push_cast, Nat.reduceBEq, Nat.reduceLT, Nat.reduceEqDiff, reduceIte, reduceCtorEq, Nat.reduceMul, Nat.reduceAdd, Nat.reduceSub, Int.reduceEq, Int.reduceLT, Int.reduceLE, Int.reduceNeg, Int.reduceAdd, Int.reduceSub, Int.reduceMul, Nat.reduceLeDiff, Int.reduceToNat, r1, r2, s7, s9, s10, s11, s12, s13, s14, s15, z0, z1, z2, Nat.sub_zero, Int.sub_zero, Option.map_some]) | ((repeat ((fail_if_success with_reducible refine hK _ _ ?_); clear hK K)); (with_reducible refine hK _ _ ?_); clear hK K))))
      refine (overlaps_o (a := ⟨bx, 0, none⟩) (b := ⟨b, o + (k + 1) * 3, none⟩) rfl rfl (fun e => hbx e.symm) hsx hsb (by omega) hfa hfe).mono ?_
      rintro v' w' ⟨rfl, rfl⟩
      ((repeat simp only [push_cast, Nat.reduceBEq, Nat.reduceLT, Nat.reduceEqDiff, reduceIte, reduceCtorEq, Nat.reduceMul, Nat.reduceAdd, Nat.reduceSub, Int.reduceEq, Int.reduceLT, Int.reduceLE, Int.reduceNeg, Int.reduceAdd, Int.reduceSub, Int.reduceMul, Nat.reduceLeDiff, Int.reduceToNat, s9]); (repeat (first | (with_reducible first | (refine hK _ _ ?_; clear hK K) | refine (show ∀ σ' w', _ → K σ' w' from by assumption) _ _ ?_ | refine W_seq_k fun K hK => ?_ | refine W_block_k fun K hK => ?_ | refine W_skip ?_ | refine W_ret ?_) | ((first | ((with_reducible refine W_id ?_); refine W_reg (by decide) (by rfl) ?_) | (with_reducible first | refine W_cond ?_ | refine hZ _ _ ?_ | refine W_exit ?_ | refine Wo_id ?_)); repeat1' simp only [push_cast, Nat.reduceBEq, Nat.reduceLT, Nat.reduceEqDiff, reduceIte, reduceCtorEq, Nat.reduceMul, Nat.reduceAdd, Nat.reduceSub, Int.reduceEq, Int.reduceLT, Int.reduceLE, Int.reduceNeg, Int.reduceAdd, Int.reduceSub, Int.reduceMul, Nat.reduceLeDiff, Int.reduceToNat, s9]) | ((repeat ((fail_if_success with_reducible refine hK _ _ ?_); clear hK K)); (with_reducible refine hK _ _ ?_); clear hK K))))
      refine W_draw (.pas 0 (.pas 1 (.pas 2 (.pas 3 (.pas 4 (.pas 5 (.pas 6 (.pas 7 (.tail [8]))))))))) (fun _ => False) (by decide) mixed (by kernel_rfl) ?_
      (repeat (first | ((first | refine pas_plain rfl ?_ | refine pas_g rfl rfl ?_ | refine act_plain rfl ?_ | refine act_g rfl rfl ?_ | refine last_plain rfl ?_ | refine tail_plain rfl ?_ | refine tail_g rfl rfl ?_); (repeat simp only [push_cast, Nat.reduceBEq, Nat.reduceLT, Nat.reduceEqDiff, reduceIte, reduceCtorEq, Nat.reduceMul, Nat.reduceAdd, Nat.reduceSub, Int.reduceEq, Int.reduceLT, Int.reduceLE, Int.reduceNeg, Int.reduceAdd, Int.reduceSub, Int.reduceMul, Nat.reduceLeDiff, Int.reduceToNat, s1, s2, s3, s4, r2, s9, s10, s11, s12, s13, s14, s15, z0, z1, z2, Nat.sub_zero, Int.sub_zero, Option.map_some])) | (refine tail_fin ?_) | (refine sch_fin ?_)))
      have hLl : (opCells l).length = n * 3 := by rw [opCells_length, hn]
      have hud := hu.ext (Ext.drew w')
      have p1 := hud.part (l := k) (k := n + 1) (m := c) (by omega) (by omega) (by omega) (by omega)
      have hc2l : (((opCells l ++ u).drop (k * 3)).take ((n + 1 - k) * 3)).length = (n + 1 - k) * 3 := by
        simp only [List.length_take, List.length_drop, List.length_append, hul, hLl]; omega
      have e1 : (((opCells l ++ u).drop (k * 3)).take ((n + 1 - k) * 3)).take ((n - k) * 3) = (opCells l).drop (k * 3) := by
        rw [List.take_take, Nat.min_eq_left (by omega), List.drop_append_of_le_length (by omega), List.take_append_of_le_length (by rw [List.length_drop]; omega), List.take_of_length_le (by rw [List.length_drop]; omega)]
      have p2 : RdAt w'.drew 3 (.slice (some ⟨b, o + k * 3, none⟩) (n + 1 - k) (c - k)) (((opCells l ++ u).drop (k * 3)).take ((n + 1 - k) * 3)) := p1.rd
      refine copy_W styO.und (es := 3) (fun w => by simp [Tryd.sizeOf79, Sem.run]) (k := n - k) p2 (by rw [e1]; have := opCells_one l; rw [List.all_eq_true] at this ⊢; exact fun y hy => this y (List.mem_of_mem_drop hy)) (by omega) (fun q hq => ?_) ?_
      · have := hud.canW (q := (k + 1) * 3 + q) (by omega)
        rw [Nat.add_assoc]; exact this
      rw [e1]
      have hu1 := hud.writeW (q := (k + 1) * 3) ((opCells l).drop (k * 3)) (by rw [List.length_drop]; omega)
      have hbo' : bo = some b := hbo
      have up1 : Upd (fun b => bo = some b) w' (setCells w'.drew ⟨b, o + (k + 1) * 3, none⟩ ((opCells l).drop (k * 3)) 0) :=
        Upd.trans (Ext.drew w').upd (Upd.setCells (F := fun b => bo = some b) (a := ⟨b, o + (k + 1) * 3, none⟩) w'.drew hbo' _ 0) fun _ _ h => h
      have hxs1 := hxs.upd up1 fun q hq e => hne (by rw [e]; exact hq.symm ▸ rfl)
      generalize setCells w'.drew ⟨b, o + (k + 1) * 3, none⟩ ((opCells l).drop (k * 3)) 0 = w1 at *
      (repeat (first | ((first | refine pas_plain rfl ?_ | refine pas_g rfl rfl ?_ | refine act_plain rfl ?_ | refine act_g rfl rfl ?_ | refine last_plain rfl ?_ | refine tail_plain rfl ?_ | refine tail_g rfl rfl ?_); (repeat simp only [push_cast, Nat.reduceBEq, Nat.reduceLT, Nat.reduceEqDiff, reduceIte, reduceCtorEq, Nat.reduceMul, Nat.reduceAdd, Nat.reduceSub, Int.reduceEq, Int.reduceLT, Int.reduceLE, Int.reduceNeg, Int.reduceAdd, Int.reduceSub, Int.reduceMul, Nat.reduceLeDiff, Int.reduceToNat])) | (refine tail_fin ?_) | (refine sch_fin ?_)))
      ((repeat simp only [push_cast, Nat.reduceBEq, Nat.reduceLT, Nat.reduceEqDiff, reduceIte, reduceCtorEq, Nat.reduceMul, Nat.reduceAdd, Nat.reduceSub, Int.reduceEq, Int.reduceLT, Int.reduceLE, Int.reduceNeg, Int.reduceAdd, Int.reduceSub, Int.reduceMul, Nat.reduceLeDiff, Int.reduceToNat, s1, s2, s3, s4, r2, s14, s12, z0, z1, z2, Nat.sub_zero, Int.sub_zero, Option.map_some]); (repeat (first | (with_reducible first | (refine hK _ _ ?_; clear hK K) | refine (show ∀ σ' w', _ → K σ' w' from by assumption) _ _ ?_ | refine W_seq_k fun K hK => ?_ | refine W_block_k fun K hK => ?_ | refine W_skip ?_ | refine W_ret ?_) | ((first | ((with_reducible refine W_id ?_); refine W_reg (by decide) (by rfl) ?_) | (with_reducible first | refine W_cond ?_ | refine hZ _ _ ?_ | refine W_exit ?_ | refine Wo_id ?_)); repeat1' simp only [push_cast, Nat.reduceBEq, Nat.reduceLT, Nat.reduceEqDiff, reduceIte, reduceCtorEq, Nat.reduceMul, Nat.reduceAdd, Nat.reduceSub, Int.reduceEq, Int.reduceLT, Int.reduceLE, Int.reduceNeg, Int.reduceAdd, Int.reduceSub, Int.reduceMul, Nat.reduceLeDiff, Int.reduceToNat, s1, s2, s3, s4, r2, s14, s12, z0, z1, z2, Nat.sub_zero, Int.sub_zero, Option.map_some]) | ((repeat ((fail_if_success with_reducible refine hK _ _ ?_); clear hK K)); (with_reducible refine hK _ _ ?_); clear hK K))))
      refine copy_W styO.und (es := 3) (fun w => by simp [Tryd.sizeOf79, Sem.run]) (k := 1) hxs1.rd (by simp [opCells, OpS.cells, oneCell]) (by omega) (fun q hq => ?_) ?_
      · have := hu1.canW (q := k * 3 + q) (by omega)
        rw [Nat.add_assoc]; exact this
      have e3 : (opCells [x]).take (1 * 3) = x.cells := rfl
      rw [e3]
      have hu2 := hu1.writeW (q := k * 3) x.cells (by rw [x.len3]; omega)
      rw [x.len3, show (k + 1) * 3 = k * 3 + 3 by omega, ins_hereW (opCells l) x.cells u (k * 3) 3 (by omega) x.len3 hul (by omega)] at hu2
      have up2 : Upd (fun b => bo = some b) w' (setCells w1 ⟨b, o + k * 3, none⟩ x.cells 0) :=
        Upd.trans up1 (Upd.setCells (F := fun b => bo = some b) (a := ⟨b, o + k * 3, none⟩) w1 hbo' _ 0) fun _ _ h => h
      ((repeat simp only [push_cast, Nat.reduceBEq, Nat.reduceLT, Nat.reduceEqDiff, reduceIte, reduceCtorEq, Nat.reduceMul, Nat.reduceAdd, Nat.reduceSub, Int.reduceEq, Int.reduceLT, Int.reduceLE, Int.reduceNeg, Int.reduceAdd, Int.reduceSub, Int.reduceMul, Nat.reduceLeDiff, Int.reduceToNat]); (repeat (first | (with_reducible first | (refine hK _ _ ?_; clear hK K) | refine (show ∀ σ' w', _ → K σ' w' from by assumption) _ _ ?_ | refine W_seq_k fun K hK => ?_ | refine W_block_k fun K hK => ?_ | refine W_skip ?_ | refine W_ret ?_) | ((first | ((with_reducible refine W_id ?_); refine W_reg (by decide) (by rfl) ?_) | (with_reducible first | refine W_cond ?_ | refine hZ _ _ ?_ | refine W_exit ?_ | refine Wo_id ?_)); repeat1' simp only [push_cast, Nat.reduceBEq, Nat.reduceLT, Nat.reduceEqDiff, reduceIte, reduceCtorEq, Nat.reduceMul, Nat.reduceAdd, Nat.reduceSub, Int.reduceEq, Int.reduceLT, Int.reduceLE, Int.reduceNeg, Int.reduceAdd, Int.reduceSub, Int.reduceMul, Nat.reduceLeDiff, Int.reduceToNat]) | ((repeat ((fail_if_success with_reducible refine hK _ _ ?_); clear hK K)); (with_reducible refine hK _ _ ?_); clear hK K))))
      exact ⟨bo, by rw [opCells_ins]; exact hu2, up2, fun b hb => .inl hb⟩
    · have r1 : (c : Int) < (n : Int) + 1 := by omega
      refine Gives.of_W Tryd.call52 Tryd.func52 rfl Tryd.ntmps52 (by simp) ?_; intro Z hZ
      (repeat (first | (with_reducible first | (refine hK _ _ ?_; clear hK K) | refine (show ∀ σ' w', _ → K σ' w' from by assumption) _ _ ?_ | refine W_seq_k fun K hK => ?_ | refine W_block_k fun K hK => ?_ | refine W_skip ?_ | refine W_ret ?_) | ((first | ((with_reducible refine W_id ?_); refine W_reg (by decide) (by rfl) ?_) | (with_reducible first | refine W_cond ?_ | refine hZ _ _ ?_ | refine W_exit ?_ | refine Wo_id ?_)); repeat1' simp only [push_cast, Nat.reduceBEq, Nat.reduceLT, Nat.reduceEqDiff, reduceIte, reduceCtorEq, Nat.reduceMul, Nat.reduceAdd, Nat.reduceSub, Int.reduceEq, Int.reduceLT, Int.reduceLE, Int.reduceNeg, Int.reduceAdd, Int.reduceSub, Int.reduceMul, Nat.reduceLeDiff, Int.reduceToNat, s1, s2, s3, s4, s5, s6, s7, Int.le_refl]) | ((repeat ((fail_if_success with_reducible refine hK _ _ ?_); clear hK K)); (with_reducible refine hK _ _ ?_); clear hK K)))
      refine cap_part styO.und ?_
      ((repeat simp only [push_cast, Nat.reduceBEq, Nat.reduceLT, Nat.reduceEqDiff, reduceIte, reduceCtorEq, Nat.reduceMul, Nat.reduceAdd, Nat.reduceSub, Int.reduceEq, Int.reduceLT, Int.reduceLE, Int.reduceNeg, Int.reduceAdd, Int.reduceSub, Int.reduceMul, Nat.reduceLeDiff, Int.reduceToNat, r1, s1, s4, s7, s8]); (repeat (first | (with_reducible first | (refine hK _ _ ?_; clear hK K) | refine (show ∀ σ' w', _ → K σ' w' from by assumption) _ _ ?_ | refine W_seq_k fun K hK => ?_ | refine W_block_k fun K hK => ?_ | refine W_skip ?_ | refine W_ret ?_) | ((first | ((with_reducible refine W_id ?_); refine W_reg (by decide) (by rfl) ?_) | (with_reducible first | refine W_cond ?_ | refine hZ _ _ ?_ | refine W_exit ?_ | refine Wo_id ?_)); repeat1' simp only [push_cast, Nat.reduceBEq, Nat.reduceLT, Nat.reduceEqDiff, reduceIte, reduceCtorEq, Nat.reduceMul, Nat.reduceAdd, Nat.reduceSub, Int.reduceEq, Int.reduceLT, Int.reduceLE, Int.reduceNeg, Int.reduceAdd, Int.reduceSub, Int.reduceMul, Nat.reduceLeDiff, Int.reduceToNat, r1, s1, s4, s7, s8]) | ((repeat ((fail_if_success with_reducible refine hK _ _ ?_); clear hK K)); (with_reducible refine hK _ _ ?_); clear hK K))))
      have hLl : (opCells l).length = n * 3 := by rw [opCells_length, hn]
      have x1 := h.partW (l := 0) (k := k) (m := c) (by omega) (by omega) (by omega) (by omega)
      rw [Nat.zero_mul, List.drop_zero, Nat.sub_zero] at x1
      refine app_zerosW (es := 3) (by decide) styO Tryd.underlying3 (z := zO) (fun w => by simp [zO, Tryd.zeroValue79, Sem.run]) rfl rfl x1 (n := n + 1 - k) (by omega) (by simp [hLl]; omega) ?_
      intro v1 w1 bo1 g1 g2 g3 g4
      obtain ⟨hx1, hf1, b1, o1, c1, rfl⟩ := g4 _ _ _ rfl (by omega)
      have eN : k - 0 + (n + 1 - k) = n + 1 := by omega
      rw [Nat.sub_zero] at eN
      rw [eN] at g1
      rw [Nat.sub_zero, eN]
      have hZl : (Builtin.zeroCells zO.cells (n + 1 - k)).toList.length = (n + 1 - k) * 3 := by rw [Array.length_toList, zeroCells_size]; rfl
      obtain ⟨hb1, hc1, _⟩ := g1.inv
      have t1 : (k : Int) ≤ c1 := by omega
      have t2 : (c1 = k) = False := eq_false (by omega)
      have t3 : (c1 = k + 1) = False := eq_false (by omega)
      have t4 : (n : Int) + 1 ≤ c1 := by omega
      have t5 : (c = k) = False := eq_false (by omega)
      have hxs1 := hxs.ext hx1
      have hh1 := h.ext hx1
      have hfr := hf1 b1 hb1
      ((repeat simp only [push_cast, Nat.reduceBEq, Nat.reduceLT, Nat.reduceEqDiff, reduceIte, reduceCtorEq, Nat.reduceMul, Nat.reduceAdd, Nat.reduceSub, Int.reduceEq, Int.reduceLT, Int.reduceLE, Int.reduceNeg, Int.reduceAdd, Int.reduceSub, Int.reduceMul, Nat.reduceLeDiff, Int.reduceToNat, s1, s2, s3, s4, s9, s10, s11, s12, s13, s14, s15, t1, t2, t4, Option.map_some]); (repeat (first | (with_reducible first | (refine hK _ _ ?_; clear hK K) | refine (show ∀ σ' w', _ → K σ' w' from by assumption) _ _ ?_ | refine W_seq_k fun K hK => ?_ | refine W_block_k fun K hK => ?_ | refine W_skip ?_ | refine W_ret ?_) | ((first | ((with_reducible refine W_id ?_); refine W_reg (by decide) (by rfl) ?_) | (with_reducible first | refine W_cond ?_ | refine hZ _ _ ?_ | refine W_exit ?_ | refine Wo_id ?_)); repeat1' simp only [push_cast, Nat.reduceBEq, Nat.reduceLT, Nat.reduceEqDiff, reduceIte, reduceCtorEq, Nat.reduceMul, Nat.reduceAdd, Nat.reduceSub, Int.reduceEq, Int.reduceLT, Int.reduceLE, Int.reduceNeg, Int.reduceAdd, Int.reduceSub, Int.reduceMul, Nat.reduceLeDiff, Int.reduceToNat, s1, s2, s3, s4, s9, s10, s11, s12, s13, s14, s15, t1, t2, t4, Option.map_some]) | ((repeat ((fail_if_success with_reducible refine hK _ _ ?_); clear hK K)); (with_reducible refine hK _ _ ?_); clear hK K))))
      refine copy_W styO.und (es := 3) (fun w => by simp [Tryd.sizeOf79, Sem.run]) (k := 1) hxs1.rd (by simp [opCells, OpS.cells, oneCell]) (by omega) (fun q hq => ?_) ?_
      · have := g1.canW (q := k * 3 + q) (by omega)
        rw [Nat.add_assoc]; exact this
      have e3 : (opCells [x]).take (1 * 3) = x.cells := rfl
      rw [e3]
      have hu1 := g1.writeW (q := k * 3) x.cells (by rw [x.len3]; omega)
      rw [x.len3] at hu1
      have hbl : ∀ q, bo = some q → q < w.heap.size := fun q hq => by rw [hq] at h; exact h.lt
      have hh2 := hh1.upd (Upd.setCells (F := fun q => q = b1) (a := ⟨b1, o1 + k * 3, none⟩) w1 rfl x.cells 0) fun q hq e => by have := hbl q hq; omega
      have hx2 : Ext w (setCells w1 ⟨b1, o1 + k * 3, none⟩ x.cells 0) := Upd.trans hx1 (Upd.setCells (F := fun q => q = b1) (a := ⟨b1, o1 + k * 3, none⟩) w1 rfl _ 0) fun q hq e => by omega
      generalize setCells w1 ⟨b1, o1 + k * 3, none⟩ x.cells 0 = w2 at *
      ((repeat simp only [push_cast, Nat.reduceBEq, Nat.reduceLT, Nat.reduceEqDiff, reduceIte, reduceCtorEq, Nat.reduceMul, Nat.reduceAdd, Nat.reduceSub, Int.reduceEq, Int.reduceLT, Int.reduceLE, Int.reduceNeg, Int.reduceAdd, Int.reduceSub, Int.reduceMul, Nat.reduceLeDiff, Int.reduceToNat]); (repeat (first | (with_reducible first | (refine hK _ _ ?_; clear hK K) | refine (show ∀ σ' w', _ → K σ' w' from by assumption) _ _ ?_ | refine W_seq_k fun K hK => ?_ | refine W_block_k fun K hK => ?_ | refine W_skip ?_ | refine W_ret ?_) | ((first | ((with_reducible refine W_id ?_); refine W_reg (by decide) (by rfl) ?_) | (with_reducible first | refine W_cond ?_ | refine hZ _ _ ?_ | refine W_exit ?_ | refine Wo_id ?_)); repeat1' simp only [push_cast, Nat.reduceBEq, Nat.reduceLT, Nat.reduceEqDiff, reduceIte, reduceCtorEq, Nat.reduceMul, Nat.reduceAdd, Nat.reduceSub, Int.reduceEq, Int.reduceLT, Int.reduceLE, Int.reduceNeg, Int.reduceAdd, Int.reduceSub, Int.reduceMul, Nat.reduceLeDiff, Int.reduceToNat]) | ((repeat ((fail_if_success with_reducible refine hK _ _ ?_); clear hK K)); (with_reducible refine hK _ _ ?_); clear hK K))))
      refine W_draw (.pas 0 (.pas 1 (.pas 2 (.pas 3 (.pas 4 (.pas 5 (.pas 6 (.pas 7 (.tail [8]))))))))) (fun _ => False) (by decide) mixed (by kernel_rfl) ?_
      (repeat (first | ((first | refine pas_plain rfl ?_ | refine pas_g rfl rfl ?_ | refine act_plain rfl ?_ | refine act_g rfl rfl ?_ | refine last_plain rfl ?_ | refine tail_plain rfl ?_ | refine tail_g rfl rfl ?_); (repeat simp only [push_cast, Nat.reduceBEq, Nat.reduceLT, Nat.reduceEqDiff, reduceIte, reduceCtorEq, Nat.reduceMul, Nat.reduceAdd, Nat.reduceSub, Int.reduceEq, Int.reduceLT, Int.reduceLE, Int.reduceNeg, Int.reduceAdd, Int.reduceSub, Int.reduceMul, Nat.reduceLeDiff, Int.reduceToNat, s1, s2, s3, s4, s9, s10, s11, s12, s13, s14, s15, t1, t2, t3, t4, t5, Option.map_some, Int.le_refl])) | (refine tail_fin ?_) | (refine sch_fin ?_)))
      have q1 := (hh2.ext (Ext.drew w2)).part (l := k) (k := n) (m := c) (by omega) (by omega) (by omega) (by omega)
      have eD : ((opCells l).drop (k * 3)).take ((n - k) * 3) = (opCells l).drop (k * 3) := List.take_of_length_le (by rw [List.length_drop]; omega)
      rw [eD] at q1
      have hdl : ((opCells l).drop (k * 3)).length = (n - k) * 3 := by rw [List.length_drop]; omega
      have hone : ((opCells l).drop (k * 3)).all oneCell = true := by
        have := opCells_one l
        rw [List.all_eq_true] at this ⊢
        exact fun y hy => this y (List.mem_of_mem_drop hy)
      have hud := hu1.ext (Ext.drew w2)
      refine copy_W styO.und (es := 3) (fun w => by simp [Tryd.sizeOf79, Sem.run]) (k := n - k) q1.rd (by rw [eD]; exact hone) (by omega) (fun q hq => ?_) ?_
      · have := hud.canW (q := (k + 1) * 3 + q) (by omega)
        rw [Nat.add_assoc]; exact this
      rw [eD]
      have hu3 := hud.writeW (q := (k + 1) * 3) ((opCells l).drop (k * 3)) (by omega)
      have e13 : (k + 1) * 3 = k * 3 + 3 := by omega
      rw [e13, ins_growW (opCells l) x.cells (Builtin.zeroCells zO.cells (n + 1 - k)).toList (k * 3) 3 (by omega) x.len3 (by omega), ← e13] at hu3
      have hx3 : Ext w (setCells w2.drew ⟨b1, o1 + (k + 1) * 3, none⟩ ((opCells l).drop (k * 3)) 0) := Upd.trans (hx2.trans (Ext.drew w2)) (Upd.setCells (F := fun q => q = b1) (a := ⟨b1, o1 + (k + 1) * 3, none⟩) w2.drew rfl _ 0) fun q hq e => by omega
      (repeat (first | ((first | refine pas_plain rfl ?_ | refine pas_g rfl rfl ?_ | refine act_plain rfl ?_ | refine act_g rfl rfl ?_ | refine last_plain rfl ?_ | refine tail_plain rfl ?_ | refine tail_g rfl rfl ?_); (repeat simp only [push_cast, Nat.reduceBEq, Nat.reduceLT, Nat.reduceEqDiff, reduceIte, reduceCtorEq, Nat.reduceMul, Nat.reduceAdd, Nat.reduceSub, Int.reduceEq, Int.reduceLT, Int.reduceLE, Int.reduceNeg, Int.reduceAdd, Int.reduceSub, Int.reduceMul, Nat.reduceLeDiff, Int.reduceToNat])) | (refine tail_fin ?_) | (refine sch_fin ?_)))
      ((repeat simp only [push_cast, Nat.reduceBEq, Nat.reduceLT, Nat.reduceEqDiff, reduceIte, reduceCtorEq, Nat.reduceMul, Nat.reduceAdd, Nat.reduceSub, Int.reduceEq, Int.reduceLT, Int.reduceLE, Int.reduceNeg, Int.reduceAdd, Int.reduceSub, Int.reduceMul, Nat.reduceLeDiff, Int.reduceToNat]); (repeat (first | (with_reducible first | (refine hK _ _ ?_; clear hK K) | refine (show ∀ σ' w', _ → K σ' w' from by assumption) _ _ ?_ | refine W_seq_k fun K hK => ?_ | refine W_block_k fun K hK => ?_ | refine W_skip ?_ | refine W_ret ?_) | ((first | ((with_reducible refine W_id ?_); refine W_reg (by decide) (by rfl) ?_) | (with_reducible first | refine W_cond ?_ | refine hZ _ _ ?_ | refine W_exit ?_ | refine Wo_id ?_)); repeat1' simp only [push_cast, Nat.reduceBEq, Nat.reduceLT, Nat.reduceEqDiff, reduceIte, reduceCtorEq, Nat.reduceMul, Nat.reduceAdd, Nat.reduceSub, Int.reduceEq, Int.reduceLT, Int.reduceLE, Int.reduceNeg, Int.reduceAdd, Int.reduceSub, Int.reduceMul, Nat.reduceLeDiff, Int.reduceToNat]) | ((repeat ((fail_if_success with_reducible refine hK _ _ ?_); clear hK K)); (with_reducible refine hK _ _ ?_); clear hK K))))
      exact ⟨bo1, by rw [opCells_ins]; exact hu3, hx3.upd, fun b hb => .inr (hf1 b hb)⟩
end Go.Proofs.YtkafpameheohdaaDoor
end
section
set_option linter.unusedSimpArgs false
set_option linter.unusedVariables false
namespace Go.Proofs.YtkafpameheohdaaDoor
open Go Go.Shelf Go.Vk Go.Proofs
def laysContains_ren : Go.Shelf.Ren := ⟨fun | 144 => 82 | 143 => 86 | 219 => 88 | 217 => 89 | 225 => 90 | 224 => 91 | 267 => 92 | 266 => 93 | 314 => 94 | n => n, fun | 9 => 9 | 4 => 4 | 3 => 3 | 5 => 5 | 46 => 115 | 146 => 117 | 51 => 116 | n => n, fun | 1 => 1 | n => n⟩
theorem laysContains : Go.Proofs.Lays.n144 Tryd.prog laysContains_ren := {
  mixed := by kernel_rfl
  f143 := Tryd.func86.trans (congrArg some (by kernel_rfl))
  f144 := Tryd.func82.trans (congrArg some (by kernel_rfl))
  f217 := Tryd.func89.trans (congrArg some (by kernel_rfl))
  f219 := Tryd.func88.trans (congrArg some (by kernel_rfl))
  f224 := Tryd.func91.trans (congrArg some (by kernel_rfl))
  f225 := Tryd.func90.trans (congrArg some (by kernel_rfl))
  f266 := Tryd.func93.trans (congrArg some (by kernel_rfl))
  f267 := Tryd.func92.trans (congrArg some (by kernel_rfl))
  f314 := Tryd.func94.trans (congrArg some (by kernel_rfl))
  t3 := Tryd.underlying3
  a3 := Tryd.isAgg3
  z3 := Tryd.sizeOf3
  v3 := Tryd.zeroValue3
  t4 := Tryd.underlying4
  a4 := Tryd.isAgg4
  z4 := Tryd.sizeOf4
  v4 := Tryd.zeroValue4
  t5 := Tryd.underlying5
  a5 := Tryd.isAgg5
  z5 := Tryd.sizeOf5
  v5 := Tryd.zeroValue5
  t9 := Tryd.underlying9
  a9 := Tryd.isAgg9
  z9 := Tryd.sizeOf9
  v9 := Tryd.zeroValue9
  t46 := Tryd.underlying115
  a46 := Tryd.isAgg115
  z46 := Tryd.sizeOf115
  v46 := Tryd.zeroValue115
  t51 := Tryd.underlying116
  a51 := Tryd.isAgg116
  z51 := Tryd.sizeOf116
  v51 := Tryd.zeroValue116
  t146 := Tryd.underlying117
  a146 := Tryd.isAgg117
  z146 := Tryd.sizeOf117
  v146 := Tryd.zeroValue117
  g1 := by kernel_rfl }
def MaxAt (w : World) : Prop := ∃ m, w.cell? ⟨1, 0, none⟩ = some (.int .i64 m)
theorem MaxAt.ext {w w' : World} (h : MaxAt w) (hx : Ext w w') : MaxAt w' := let ⟨m, h⟩ := h; ⟨m, cell_ext hx h⟩
theorem maxAt_of {w : World} (h : w.ShapedOpen Tryd.prog) : MaxAt w :=
  Go.Proofs.cell_of_shapedOpen_int (zero := #[.int .i64 0]) (t := 3) h (of_decide_eq_true (by kernel_rfl)) (by kernel_rfl) rfl (by kernel_rfl) (by kernel_rfl) Tryd.underlying3
theorem contains_one_c (s : ByteArray) (c : UInt8) (w : World) : Gives Tryd.prog 82 #[.string s, .string ⟨#[c]⟩] w fun v w' => v = .bool (decide (0 ≤ Lib.indexByte s.data.toList c)) ∧ w' = w :=
  .inl ⟨Tryd.call82, (Any.strings_Contains_one laysContains s c w).mono fun _ _ ⟨h1, h2⟩ => ⟨_, h1, rfl, h2⟩⟩
theorem strcont_c (s sub : ByteArray) {w : World} (hs : s.size < 4294967281) (hm : MaxAt w) : Gives Tryd.prog 82 #[.string s, .string sub] w fun v w' => v = .bool (Lib.contains s.data.toList sub.data.toList) ∧ w' = w := by
  obtain ⟨m, hm⟩ := hm
  exact .inl ⟨Tryd.call82, (Any.strings_Contains laysContains s sub m w hs hm).mono fun _ _ ⟨h1, h2⟩ => ⟨_, h1, rfl, h2⟩⟩
end Go.Proofs.YtkafpameheohdaaDoor
end
