/- What the proof leans on, part 3 of 7. -/
import Derived.Test.YtkafpameheohdaaDoorQStackBackB
section
set_option linter.unusedSimpArgs false
set_option linter.unusedVariables false
namespace Go.Vk
/- ways up that end -/
def dn (N : Int) (up : Int → Int) : Nat → Int → Bool
  | 0, j => decide (j < 0)
  | k + 1, j => decide (j < 0) || (decide (j < N) && dn N up k (up j))
def ab (up : Int → Int) (i : Int) : Nat → Int → Bool
  | 0, _ => false
  | k + 1, j => if j < 0 then false else decide (j = i) || ab up i k (up j)
theorem aboveF_ab (L : List Nd) (i : Int) : ∀ (k : Nat) (j : Int), aboveF L i k j = ab (upN L) i k j
  | 0, _ => rfl
  | k + 1, j => by rw [aboveF, ab, aboveF_ab L i k]
section
variable {N : Int} {up up' : Int → Int} {i j : Int}
theorem dn_neg (h : j < 0) : ∀ k, dn N up k j = true
  | 0 => by simp [dn, h]
  | k + 1 => by simp [dn, h]
theorem dn_mono : ∀ {k : Nat} {j : Int}, dn N up k j = true → dn N up (k + 1) j = true
  | 0, j, h => dn_neg (by simpa [dn] using h) _
  | k + 1, j, h => by
    rw [dn] at h ⊢
    simp only [Bool.or_eq_true, Bool.and_eq_true, decide_eq_true_eq] at h ⊢
    rcases h with h | h
    · exact .inl h
    · exact .inr ⟨h.1, dn_mono h.2⟩
theorem dn_le {k m : Nat} (h : dn N up k j = true) (hk : k ≤ m) : dn N up m j = true := by
  induction hk with
  | refl => exact h
  | step _ ih => exact dn_mono ih
theorem dn_step {k : Nat} (h : dn N up (k + 1) j = true) (hj : 0 ≤ j) : j < N ∧ dn N up k (up j) = true := by
  rw [dn] at h
  simpa [show ¬ j < 0 by omega] using h
theorem php : ∀ (n : Nat) (f : Nat → Nat), (∀ i, i ≤ n → f i < n) → ∃ a b, a < b ∧ b ≤ n ∧ f a = f b
  | 0, f, h => absurd (h 0 (Nat.le_refl _)) (by omega)
  | n + 1, f, h => by
    by_cases hx : ∃ a, a ≤ n ∧ f a = f (n + 1)
    · obtain ⟨a, h1, h2⟩ := hx
      exact ⟨a, n + 1, by omega, Nat.le_refl _, h2⟩
    · have hx' : ∀ a, a ≤ n → f a ≠ f (n + 1) := fun a h1 h2 => hx ⟨a, h1, h2⟩
      obtain ⟨a, b, h1, h2, h3⟩ := php n (fun i => if f i = n then f (n + 1) else f i) (fun i hi => by
        have e1 := h i (by omega)
        have e2 := h (n + 1) (Nat.le_refl _)
        have e3 := hx' i hi
        show (if f i = n then f (n + 1) else f i) < n
        split <;> omega)
      have e1 := hx' a (by omega)
      have e2 := hx' b h2
      refine ⟨a, b, h1, by omega, ?_⟩
      have h3 : (if f a = n then f (n + 1) else f a) = (if f b = n then f (n + 1) else f b) := h3
      split at h3 <;> split at h3 <;> omega
def iter (up : Int → Int) : Nat → Int → Int
  | 0, j => j
  | k + 1, j => iter up k (up j)
theorem dn_iter : ∀ {a k : Nat} {j : Int}, dn N up (a + k) j = true → (∀ b, b < a → 0 ≤ iter up b j) → dn N up k (iter up a j) = true
  | 0, k, j, h, _ => by simpa [iter] using h
  | a + 1, k, j, h, hn => by
    have h0 : 0 ≤ j := hn 0 (by omega)
    rw [show a + 1 + k = (a + k) + 1 by omega] at h
    show dn N up k (iter up a (up j)) = true
    exact dn_iter (dn_step h h0).2 fun b hb => hn (b + 1) (by omega)
theorem dn_of_iter : ∀ {a k : Nat} {j : Int}, (∀ b, b < a → iter up b j < N) → dn N up k (iter up a j) = true → dn N up (a + k) j = true
  | 0, k, j, _, h => by simpa [iter] using h
  | a + 1, k, j, hn, h => by
    rw [show a + 1 + k = (a + k) + 1 by omega, dn]
    have := dn_of_iter (j := up j) (fun b hb => hn (b + 1) (by omega)) h
    have h0 : j < N := hn 0 (by omega)
    simp [this, h0]
theorem dn_lt : ∀ {k : Nat} {j : Int}, dn N up k j = true → ∀ b, (∀ c, c ≤ b → 0 ≤ iter up c j) → b < k ∧ iter up b j < N
  | 0, j, h, b, hc => by
    have := hc 0 (by omega)
    simp [dn] at h; simp [iter] at this; omega
  | k + 1, j, h, 0, hc => ⟨by omega, (dn_step h (hc 0 (by omega))).1⟩
  | k + 1, j, h, b + 1, hc => by
    have := dn_lt (dn_step h (hc 0 (by omega))).2 b fun c hb => hc (c + 1) (by omega)
    exact ⟨by omega, this.2⟩
/-- a way up that ends has at most as many steps as there are nodes -/
theorem dn_len {n : Nat} : ∀ {k : Nat} {j : Int}, dn (n : Int) up k j = true → dn (n : Int) up n j = true := by
  intro k
  induction k using Nat.strongRecOn with
  | ind k ih =>
    intro j h
    by_cases hk : k ≤ n
    · exact dn_le h hk
    · by_cases hall : ∀ c, c ≤ n → 0 ≤ iter up c j
      · obtain ⟨a, b, h1, h2, h3⟩ := php n (fun c => (iter up c j).toNat) (fun c hc => by
          have := (dn_lt h c fun d hd => hall d (by omega)).2
          have := hall c hc
          show (iter up c j).toNat < n
          omega)
        have e : iter up a j = iter up b j := by
          have := hall a (by omega); have := hall b h2
          have h3 : (iter up a j).toNat = (iter up b j).toNat := h3
          omega
        have hb : dn (n : Int) up (k - b) (iter up b j) = true := dn_iter (by rw [show b + (k - b) = k by omega]; exact h) fun c hc => hall c (by omega)
        have hj : dn (n : Int) up (a + (k - b)) j = true := dn_of_iter (fun c hc => (dn_lt h c fun d hd => hall d (by omega)).2) (by rw [e]; exact hb)
        exact ih _ (by omega) hj
      · have : ∃ c, c ≤ n ∧ iter up c j < 0 ∧ ∀ d, d < c → 0 ≤ iter up d j := by
          have hx : ∃ c, c ≤ n ∧ iter up c j < 0 := by
            by_cases hh : ∃ c, c ≤ n ∧ iter up c j < 0
            · exact hh
            · exact absurd (fun c hc => by have : ¬ iter up c j < 0 := fun hl => hh ⟨c, hc, hl⟩; omega) hall
          obtain ⟨c, hc⟩ := hx
          clear hall
          induction c using Nat.strongRecOn with
          | ind c ih2 =>
            by_cases hd : ∃ d, d < c ∧ iter up d j < 0
            · obtain ⟨d, h1, h2⟩ := hd
              exact ih2 d h1 ⟨by omega, h2⟩
            · exact ⟨c, hc.1, hc.2, fun d h1 => by have : ¬ iter up d j < 0 := fun hl => hd ⟨d, h1, hl⟩; omega⟩
        obtain ⟨c, h1, h2, h3⟩ := this
        have : dn (n : Int) up (c + 0) j = true := dn_of_iter (fun d hd => (dn_lt h d fun e he => h3 e (by omega)).2) (dn_neg h2 0)
        exact dn_le this (by omega)
/-- a way that does not meet i is the same when i's upper is another one -/
theorem dn_same (hs : ∀ x, x ≠ i → up' x = up x) : ∀ {k : Nat} {j : Int}, ab up i k j = false → (∀ x, ab up' x k j = ab up x k j) ∧ (dn N up k j = true → dn N up' k j = true)
  | 0, j, _ => ⟨fun _ => rfl, id⟩
  | k + 1, j, h => by
    by_cases hj : j < 0
    · exact ⟨fun x => by simp [ab, hj], fun _ => dn_neg hj _⟩
    · simp only [ab, hj, if_false, Bool.or_eq_false_iff, decide_eq_false_iff_not] at h
      have := dn_same hs h.2
      refine ⟨fun x => by simp only [ab, hj, if_false, hs j h.1, this.1 x], fun hd => ?_⟩
      obtain ⟨h1, h2⟩ := dn_step hd (by omega)
      rw [dn, hs j h.1]
      simp [h1, this.2 h2]
/-- i's upper is another one, whose way ends: each way ends -/
theorem dn_cut (hs : ∀ x, x ≠ i → up' x = up x) {m : Nat} (hq : dn N up' m (up' i) = true) : ∀ {k : Nat} {j : Int}, dn N up k j = true → ∃ k', dn N up' k' j = true
  | 0, j, h => ⟨0, h⟩
  | k + 1, j, h => by
    by_cases hj : j < 0
    · exact ⟨0, by simp [dn, hj]⟩
    · obtain ⟨h1, h2⟩ := dn_step h (by omega)
      by_cases e : j = i
      · subst e
        exact ⟨m + 1, by rw [dn]; simp [h1, hq]⟩
      · obtain ⟨k', h'⟩ := dn_cut hs hq h2
        exact ⟨k' + 1, by rw [dn, hs j e]; simp [h1, h']⟩
/-- who is met on the way, and whose upper is a node: that one is met too -/
theorem ab_up (h0 : 0 ≤ up i) : ∀ {k : Nat} {j : Int}, ab up i k j = true → dn N up k j = true → ab up (up i) k j = true
  | 0, j, h, _ => by simp [ab] at h
  | k + 1, j, h, hd => by
    by_cases hj : j < 0
    · simp [ab, hj] at h
    · obtain ⟨h1, h2⟩ := dn_step hd (by omega)
      simp only [ab, hj, if_false, Bool.or_eq_true, decide_eq_true_eq] at h ⊢
      right
      rcases h with rfl | h
      · cases k with
        | zero => simp [dn] at h2; omega
        | succ k => simp [ab, show ¬ up j < 0 by omega]
      · exact ab_up h0 h h2
end
end Go.Vk
end
section
set_option linter.unusedSimpArgs false
set_option linter.unusedVariables false
namespace Go.Vk
def noN : Nd := { zN with parent := -1 }
def gN (L : List Nd) (t : Int) : Nd := (nd? L t).getD noN
theorem gN_of {L : List Nd} {t : Int} {n : Nd} (h : nd? L t = some n) : gN L t = n := by simp [gN, h]
theorem gN_nat {L : List Nd} {k : Nat} {n : Nd} (h : L[k]? = some n) : gN L k = n := gN_of (by rw [nd?_nat]; exact h)
theorem gN_none {L : List Nd} {t : Int} (h : ¬ (0 ≤ t ∧ t < L.length)) : gN L t = noN := by
  have := nd?_isSome L t
  rw [decide_eq_false h] at this
  simp only [Option.isSome_eq_false_iff, Option.isNone_iff_eq_none] at this
  simp [gN, this]
theorem upN_g (L : List Nd) (j : Int) : upN L j = if (gN L j).kind = 6 then j - 1 else (gN L j).parent := by
  unfold upN gN
  cases nd? L j <;> simp [noN, zN]
structure Gd (L : List Nd) : Prop where
  kid : ∀ t j, j ∈ (gN L t).kids ↔ 0 ≤ t ∧ (gN L j).parent = t
  nd : ∀ t, (gN L t).kids.Nodup
  low : ∀ j, -1 ≤ (gN L j).parent
  knd : ∀ j, 0 ≤ (gN L j).parent → kidK (gN L j).kind = true
  way : ∀ j : Int, j < L.length → ∃ k, dn L.length (upN L) k j = true
  doc : (gN L 0).kind = 1
  one : ∀ j, (gN L j).kind = 1 → j = 0
theorem gN_modify {L : List Nd} {p : Nat} (hp : p < L.length) (f : Nd → Nd) (t : Int) : gN (L.modify p f) t = if t = p then f (gN L t) else gN L t := by
  by_cases h0 : 0 ≤ t
  · obtain ⟨k, rfl⟩ : ∃ k : Nat, t = k := ⟨t.toNat, by omega⟩
    unfold gN
    rw [nd?_nat, nd?_nat, List.getElem?_modify]
    by_cases e : p = k
    · subst e
      rw [List.getElem?_eq_getElem hp]; simp
    · have e' : ¬ (k : Int) = (p : Int) := by omega
      simp [e, e']
  · rw [gN_none (by omega), gN_none (by omega), if_neg (by omega)]
theorem Gd.range {L : List Nd} (h : Gd L) {j : Int} (hp : 0 ≤ (gN L j).parent) : (0 ≤ j ∧ j < L.length) ∧ (gN L j).parent < L.length := by
  have hm := (h.kid _ j).2 ⟨hp, rfl⟩
  refine ⟨?_, ?_⟩
  · by_cases hj : 0 ≤ j ∧ j < L.length
    · exact hj
    · rw [gN_none hj] at hp; simp [noN] at hp
  · by_cases hj : (gN L j).parent < L.length
    · exact hj
    · rw [gN_none (t := (gN L j).parent) (by omega)] at hm; simp [noN, zN] at hm
theorem freeN_len (L : List Nd) (i : Nat) : (freeN L i).length = L.length := by
  unfold freeN
  split
  · rfl
  · split <;> simp
theorem hangN_len (L : List Nd) (p : Nat) (r : Int) (i : Nat) : (hangN L p r i).length = L.length := by
  unfold hangN; simp [freeN_len]
theorem gN_free {L : List Nd} (h : Gd L) {i : Nat} (hi : i < L.length) (t : Int) :
    gN (freeN L i) t = { gN L t with kids := (gN L t).kids.erase i, parent := if t = i then -1 else (gN L t).parent } := by
  have hn : L[i]? = some L[i] := List.getElem?_eq_getElem hi
  have hg : gN L i = L[i] := gN_nat hn
  generalize L[i] = n at hn hg
  have hmem : ∀ u, (i : Int) ∈ (gN L u).kids ↔ 0 ≤ u ∧ n.parent = u := fun u => by rw [h.kid u i, hg]
  unfold freeN
  rw [hn]
  simp only
  by_cases h0 : n.parent < 0
  · rw [if_pos h0, List.erase_of_not_mem (fun hm => by have := (hmem t).1 hm; omega)]
    by_cases e : t = i
    · subst e
      have := h.low i
      rw [hg] at this ⊢
      have e1 : n.parent = -1 := by omega
      rw [if_pos rfl, ← e1]
    · rw [if_neg e]
  · rw [if_neg h0]
    have hr := (h.range (j := i) (by rw [hg]; omega)).2
    rw [hg] at hr
    rw [gN_modify (by rw [List.length_modify]; exact hi), gN_modify (by omega)]
    have hpt : ((n.parent.toNat : Nat) : Int) = n.parent := by omega
    rw [hpt]
    by_cases e1 : t = n.parent
    · rw [if_pos e1]
      by_cases e2 : t = i
      · rw [if_pos e2, if_pos e2]; rfl
      · rw [if_neg e2, if_neg e2]; rfl
    · rw [if_neg e1, List.erase_of_not_mem (fun hm => e1 (((hmem t).1 hm).2.symm))]
      by_cases e2 : t = i
      · rw [if_pos e2, if_pos e2]; rfl
      · rw [if_neg e2, if_neg e2]
theorem dn_ext {N : Int} {up up' : Int → Int} (hs : ∀ x, up' x = up x) : ∀ (k : Nat) (j : Int), dn N up' k j = dn N up k j := by
  have : up' = up := funext hs
  intro k j; rw [this]
theorem Gd.free {L : List Nd} (h : Gd L) {i : Nat} (hi : i < L.length) (hk : kidK (gN L i).kind = true ∨ (gN L i).parent < 0) : Gd (freeN L i) := by
  have hg := gN_free h hi
  have hl := freeN_len L i
  by_cases hpar : (gN L i).parent < 0
  · have e : freeN L i = L := by
      have hn : L[i]? = some L[i] := List.getElem?_eq_getElem hi
      unfold freeN; rw [hn]; rw [gN_nat hn] at hpar; exact if_pos hpar
    rw [e]; exact h
  have hk' : kidK (gN L i).kind = true := h.knd i (by omega)
  have hup : ∀ x, x ≠ (i : Int) → upN (freeN L i) x = upN L x := fun x hx => by
    rw [upN_g, upN_g, hg]; simp [hx]
  have hupi : upN (freeN L i) i = -1 := by
    rw [upN_g, hg]
    have : ¬ (gN L i).kind = 6 := fun e => by rw [e] at hk'; simp [kidK] at hk'
    simp [this]
  refine ⟨fun t j => ?_, fun t => ?_, fun j => ?_, fun j => ?_, fun j hj => ?_, ?_, fun j => ?_⟩
  · rw [hg t, hg j]
    simp only
    by_cases e : j = i
    · subst e
      rw [if_pos rfl]
      exact ⟨fun hm => absurd hm (fun hm => ((h.nd t).mem_erase_iff.1 hm).1 rfl), fun hm => by omega⟩
    · rw [if_neg e, (h.nd t).mem_erase_iff, h.kid t j]
      exact ⟨fun hm => hm.2, fun hm => ⟨e, hm⟩⟩
  · rw [hg t]; exact (h.nd t).erase _
  · rw [hg j]; simp only; split
    · omega
    · exact h.low j
  · rw [hg j]; simp only
    split
    · intro hh; omega
    · exact h.knd j
  · rw [hl] at hj ⊢
    obtain ⟨k, hk⟩ := h.way j hj
    exact dn_cut (i := i) hup (m := 0) (by rw [hupi]; exact dn_neg (by omega) 0) hk
  · rw [hg]; exact h.doc
  · rw [hg]; exact h.one j
end Go.Vk
end
section
set_option linter.unusedSimpArgs false
set_option linter.unusedVariables false
namespace Go.Vk
theorem mem_insB (r x y : Int) : ∀ (l : List Int), y ∈ insB r x l ↔ y = x ∨ y ∈ l
  | [] => by simp [insB]
  | z :: l => by
    unfold insB
    split
    · simp
    · rw [List.mem_cons, mem_insB r x y l, List.mem_cons]
      constructor
      · rintro (h | h | h)
        · exact .inr (.inl h)
        · exact .inl h
        · exact .inr (.inr h)
      · rintro (h | h | h)
        · exact .inr (.inl h)
        · exact .inl h
        · exact .inr (.inr h)
theorem nodup_insB (r x : Int) : ∀ {l : List Int}, l.Nodup → x ∉ l → (insB r x l).Nodup
  | [], _, _ => by simp [insB]
  | z :: l, h, hx => by
    unfold insB
    simp only [List.mem_cons, not_or] at hx
    rw [List.nodup_cons] at h
    split
    · exact List.nodup_cons.2 ⟨by simp [hx.1, hx.2], List.nodup_cons.2 h⟩
    · exact List.nodup_cons.2 ⟨fun hm => by
        rcases (mem_insB r x z l).1 hm with e | e
        · exact hx.1 e.symm
        · exact h.1 e, nodup_insB r x h.2 hx.2⟩
def addK (r x : Int) (l : List Int) : List Int := if r < 0 then l ++ [x] else insB r x l
theorem mem_addK (r x y : Int) (l : List Int) : y ∈ addK r x l ↔ y = x ∨ y ∈ l := by
  unfold addK
  split
  · rw [List.mem_append, List.mem_singleton, Or.comm]
  · exact mem_insB r x y l
theorem nodup_addK (r x : Int) {l : List Int} (h : l.Nodup) (hx : x ∉ l) : (addK r x l).Nodup := by
  unfold addK
  split
  · rw [List.nodup_append]
    exact ⟨h, by simp, fun a ha b hb e => by rw [List.mem_singleton] at hb; subst hb; subst e; exact hx ha⟩
  · exact nodup_insB r x h hx
theorem gN_hang {L : List Nd} (h : Gd L) {i p : Nat} (hi : i < L.length) (hp : p < L.length) (r : Int) (t : Int) :
    gN (hangN L p r i) t = { gN L t with kids := if t = p then addK r i ((gN L t).kids.erase i) else (gN L t).kids.erase i, parent := if t = i then (p : Int) else (gN L t).parent } := by
  unfold hangN
  rw [gN_modify (by rw [List.length_modify, freeN_len]; exact hi), gN_modify (by rw [freeN_len]; exact hp), gN_free h hi]
  by_cases e1 : t = i
  · rw [if_pos e1, if_pos e1, if_pos e1]
    by_cases e2 : t = p
    · rw [if_pos e2, if_pos e2]; rfl
    · rw [if_neg e2, if_neg e2]; rfl
  · rw [if_neg e1, if_neg e1, if_neg e1]
    by_cases e2 : t = p
    · rw [if_pos e2, if_pos e2]; rfl
    · rw [if_neg e2, if_neg e2]
theorem Gd.hang {L : List Nd} (h : Gd L) {i p : Nat} (hi : i < L.length) (hp : p < L.length) (hk : kidK (gN L i).kind = true) {k : Nat} (hd : dn L.length (upN L) k p = true) (ha : ab (upN L) i k p = false) (r : Int) : Gd (hangN L p r i) := by
  have hg := gN_hang h hi hp r
  have hl := hangN_len L p r i
  have h6 : ¬ (gN L i).kind = 6 := fun e => by rw [e] at hk; simp [kidK] at hk
  have hup : ∀ x, x ≠ (i : Int) → upN (hangN L p r i) x = upN L x := fun x hx => by
    rw [upN_g, upN_g, hg]; simp [hx]
  have hupi : upN (hangN L p r i) i = p := by
    rw [upN_g, hg]; simp [h6]
  have hni : ∀ t, (i : Int) ∉ (gN L t).kids.erase i := fun t hm => ((h.nd t).mem_erase_iff.1 hm).1 rfl
  refine ⟨fun t j => ?_, fun t => ?_, fun j => ?_, fun j => ?_, fun j hj => ?_, ?_, fun j => ?_⟩
  · rw [hg t, hg j]
    simp only
    by_cases e : j = i
    · subst e
      rw [if_pos rfl]
      by_cases et : t = p
      · rw [if_pos et, mem_addK]
        exact ⟨fun _ => ⟨by omega, et.symm⟩, fun _ => .inl rfl⟩
      · rw [if_neg et]
        exact ⟨fun hm => absurd hm (hni t), fun hm => absurd hm.2.symm et⟩
    · rw [if_neg e]
      have key : j ∈ (gN L t).kids.erase i ↔ 0 ≤ t ∧ (gN L j).parent = t := by
        rw [(h.nd t).mem_erase_iff, h.kid t j]
        exact ⟨fun hm => hm.2, fun hm => ⟨e, hm⟩⟩
      by_cases et : t = p
      · rw [if_pos et, mem_addK, key]
        exact ⟨fun hm => hm.resolve_left e, .inr⟩
      · rw [if_neg et, key]
  · rw [hg t]; simp only
    split
    · exact nodup_addK _ _ ((h.nd t).erase _) (hni t)
    · exact (h.nd t).erase _
  · rw [hg j]; simp only; split
    · omega
    · exact h.low j
  · rw [hg j]; simp only
    split
    · rename_i e; intro _; rw [e]; exact hk
    · exact h.knd j
  · rw [hl] at hj ⊢
    obtain ⟨m, hm⟩ := h.way j hj
    exact dn_cut (i := i) hup (m := k) (by rw [hupi]; exact (dn_same hup ha).2 hd) hm
  · rw [hg]; exact h.doc
  · rw [hg]; exact h.one j
/-- kids are fewer than nodes -/
theorem Gd.few {L : List Nd} (h : Gd L) (t : Int) : (gN L t).kids.length ≤ L.length := by
  have hr : ∀ j ∈ (gN L t).kids, 0 ≤ j ∧ j < L.length := fun j hj => by
    have := (h.kid t j).1 hj
    exact (h.range (j := j) (by omega)).1
  have hn := h.nd t
  generalize (gN L t).kids = l at hr hn
  generalize L.length = n at hr
  induction n generalizing l with
  | zero =>
    cases l with
    | nil => simp
    | cons a r => have := hr a (by simp); omega
  | succ n ih =>
    have := ih (l.erase (n : Int)) (hn.erase _) (fun j hj => by
      have := hn.mem_erase_iff.1 hj
      have := hr j this.2
      omega)
    have h2 : l.length ≤ (l.erase (n : Int)).length + 1 := by
      rw [List.length_erase]; split <;> omega
    omega
end Go.Vk
end
section
set_option linter.unusedSimpArgs false
set_option linter.unusedVariables false
namespace Go.Vk
def aboveN (L : List Nd) (i j : Int) : Bool := aboveF L i L.length j
theorem Gd.down {L : List Nd} (h : Gd L) {j : Int} (hj : j < L.length) : dn L.length (upN L) L.length j = true := by
  obtain ⟨k, hk⟩ := h.way j hj
  exact dn_len hk
theorem gN_some {L : List Nd} {i : Nat} (h : i < L.length) : L[i]? = some (gN L i) := by
  have := List.getElem?_eq_getElem h
  rw [gN_nat this]; exact this
theorem holdsN_g {L : List Nd} {p : Int} : holdsN L p = holdK (gN L p).kind := by
  unfold holdsN gN; cases nd? L p <;> simp [noN, zN, holdK]
theorem hangsN_g {L : List Nd} {p : Int} : hangsN L p = kidK (gN L p).kind := by
  unfold hangsN gN; cases nd? L p <;> simp [noN, zN, kidK]
theorem holds_in {L : List Nd} {p : Int} (h : holdsN L p = true) : ∃ k : Nat, p = k ∧ k < L.length := by
  by_cases hp : 0 ≤ p ∧ p < L.length
  · exact ⟨p.toNat, by omega, by omega⟩
  · rw [holdsN_g, gN_none hp] at h; simp [noN, zN, holdK] at h
theorem hangs_in {L : List Nd} {p : Int} (h : hangsN L p = true) : ∃ k : Nat, p = k ∧ k < L.length := by
  by_cases hp : 0 ≤ p ∧ p < L.length
  · exact ⟨p.toNat, by omega, by omega⟩
  · rw [hangsN_g, gN_none hp] at h; simp [noN, zN, kidK] at h
def appendN (L : List Nd) (p i : Int) : List Nd × Int := if holdsN L p = true ∧ hangsN L i = true ∧ aboveN L i p = false then (hangN L p.toNat (-1) i.toNat, 0) else (L, 2)
theorem Gd.ne {L : List Nd} (h : Gd L) : L ≠ [] := by
  intro e; subst e
  have := h.doc; simp [gN, nd?, noN, zN] at this
theorem Gd.self {L : List Nd} (h : Gd L) (j : Int) (h0 : 0 ≤ j) : (gN L j).parent ≠ j := by
  intro e
  have hr := (h.range (j := j) (by omega)).1
  have hk := h.knd j (by omega)
  have h6 : ¬ (gN L j).kind = 6 := fun e => by rw [e] at hk; simp [kidK] at hk
  have hu : upN L j = j := by rw [upN_g, if_neg h6, e]
  obtain ⟨k, hk⟩ := h.way j hr.2
  induction k with
  | zero => simp [dn] at hk; omega
  | succ k ih =>
    have := (dn_step hk h0).2
    rw [hu] at this
    exact ih this
theorem Gd.par {L : List Nd} (h : Gd L) {i : Nat} (hi : i < L.length) : 0 ≤ (gN L i).parent → ∃ q, nd? L (gN L i).parent = some q ∧ (i : Int) ∈ q.kids ∧ q.kids.length ≤ L.length ∧ (gN L i).parent ≠ i := by
  intro hp
  have hr := (h.range hp).2
  obtain ⟨k, hk⟩ : ∃ k : Nat, (gN L i).parent = k := ⟨(gN L i).parent.toNat, by omega⟩
  refine ⟨gN L k, ?_, ?_, h.few _, h.self i (by omega)⟩
  · rw [hk, nd?_nat]; exact gN_some (by omega)
  · exact (h.kid k i).2 ⟨by omega, hk⟩
end Go.Vk
namespace Go.Proofs.YtkafpameheohdaaDoor
open Go.Vk
set_option maxHeartbeats 40000000
theorem append_gd {L : List Nd} (h : Gd L) (p i : Int) : Gd (appendN L p i).1 := by
  unfold appendN
  split
  · rename_i hh
    obtain ⟨h1, h2, h3⟩ := hh
    obtain ⟨p, rfl, hp⟩ := holds_in h1
    obtain ⟨i, rfl, hi⟩ := hangs_in h2
    refine h.hang (i := i) (p := p) hi hp (by rw [← hangsN_g]; exact h2) (h.down (by omega)) ?_ _
    rw [← aboveF_ab]; exact h3
  · exact h
end Go.Proofs.YtkafpameheohdaaDoor
end
section
set_option linter.unusedSimpArgs false
set_option linter.unusedVariables false
namespace Go.Vk
theorem dn_more {N N' : Int} {up up' : Int → Int} (hN : N ≤ N') (hs : ∀ x, 0 ≤ x → x < N → up' x = up x) : ∀ {k : Nat} {j : Int}, dn N up k j = true → dn N' up' k j = true
  | 0, j, h => by simpa [dn] using h
  | k + 1, j, h => by
    rw [dn] at h ⊢
    simp only [Bool.or_eq_true, Bool.and_eq_true, decide_eq_true_eq] at h ⊢
    by_cases h0 : j < 0
    · exact .inl h0
    · rcases h with h | h
      · exact absurd h h0
      · exact .inr ⟨by omega, by rw [hs j (by omega) h.1]; exact dn_more hN hs h.2⟩
theorem gN_push (L : List Nd) (n : Nd) (t : Int) : gN (L ++ [n]) t = if t = L.length then n else gN L t := by
  by_cases h0 : 0 ≤ t ∧ t < (L.length : Int) + 1
  · obtain ⟨k, rfl⟩ : ∃ k : Nat, t = k := ⟨t.toNat, by omega⟩
    unfold gN
    rw [nd?_nat, nd?_nat]
    by_cases e : k = L.length
    · subst e; simp
    · rw [List.getElem?_append_left (by omega), if_neg (by omega)]
  · rw [if_neg (by omega), gN_none (by simp; omega), gN_none (by omega)]
theorem Gd.push {L : List Nd} (h : Gd L) {n : Nd} (hp : n.parent = -1) (hk : n.kids = []) (h1 : n.kind ≠ 1) : Gd (L ++ [n]) := by
  have hg := gN_push L n
  have hne := h.ne
  have hpos : 0 < L.length := List.length_pos_iff.2 hne
  have hgl : gN L L.length = noN := gN_none (by omega)
  have hlen : (L ++ [n]).length = L.length + 1 := by simp
  refine ⟨fun t j => ?_, fun t => ?_, fun j => ?_, fun j => ?_, fun j hj => ?_, ?_, fun j => ?_⟩
  · rw [hg t, hg j]
    by_cases et : t = L.length
    · rw [if_pos et, hk]
      refine ⟨fun hm => by simp at hm, fun ⟨h0, hm⟩ => ?_⟩
      by_cases ej : j = L.length
      · rw [if_pos ej, hp] at hm; omega
      · rw [if_neg ej] at hm
        have := (h.range (j := j) (by omega)).2
        omega
    · rw [if_neg et]
      by_cases ej : j = L.length
      · rw [if_pos ej, hp, h.kid t j, ej, hgl]
        exact ⟨fun ⟨a, b⟩ => by simp [noN] at b; omega, fun ⟨a, b⟩ => by omega⟩
      · rw [if_neg ej]; exact h.kid t j
  · rw [hg t]; split
    · rw [hk]; exact List.nodup_nil
    · exact h.nd t
  · rw [hg j]; split
    · omega
    · exact h.low j
  · rw [hg j]; split
    · intro; omega
    · exact h.knd j
  · have hup : ∀ x, 0 ≤ x → x < (L.length : Int) → upN (L ++ [n]) x = upN L x := fun x _ hx => by
      have hx' : gN (L ++ [n]) x = gN L x := by rw [hg, if_neg (by omega)]
      rw [upN_g, upN_g, hx']
    have hold : ∀ j : Int, j < L.length → ∃ k, dn (L ++ [n]).length (upN (L ++ [n])) k j = true := fun j hj => by
      obtain ⟨k, hk⟩ := h.way j hj
      exact ⟨k, dn_more (by rw [hlen]; omega) hup hk⟩
    by_cases ej : j = L.length
    · have hu : upN (L ++ [n]) j = if n.kind = 6 then j - 1 else n.parent := by rw [upN_g, hg, if_pos ej]
      obtain ⟨k, hk⟩ := hold (upN (L ++ [n]) j) (by rw [hu]; split <;> omega)
      refine ⟨k + 1, ?_⟩
      rw [dn]
      simp only [Bool.or_eq_true, Bool.and_eq_true, decide_eq_true_eq]
      exact .inr ⟨hj, hk⟩
    · exact hold j (by rw [hlen] at hj; omega)
  · rw [hg, if_neg (by omega)]; exact h.doc
  · rw [hg]; split
    · intro hh; exact absurd hh h1
    · exact h.one j
theorem Gd.same {L L' : List Nd} (h : Gd L) (hl : L'.length = L.length) (hs : ∀ t, (gN L' t).kind = (gN L t).kind ∧ (gN L' t).parent = (gN L t).parent ∧ (gN L' t).kids = (gN L t).kids) : Gd L' := by
  have hup : ∀ x, upN L' x = upN L x := fun x => by rw [upN_g, upN_g, (hs x).1, (hs x).2.1]
  refine ⟨fun t j => ?_, fun t => ?_, fun j => ?_, fun j => ?_, fun j hj => ?_, ?_, fun j => ?_⟩
  · rw [(hs t).2.2, (hs j).2.1]; exact h.kid t j
  · rw [(hs t).2.2]; exact h.nd t
  · rw [(hs j).2.1]; exact h.low j
  · rw [(hs j).2.1, (hs j).1]; exact h.knd j
  · rw [hl] at hj ⊢
    obtain ⟨k, hk⟩ := h.way j hj
    exact ⟨k, by rw [dn_ext hup]; exact hk⟩
  · rw [(hs 0).1]; exact h.doc
  · rw [(hs j).1]; exact h.one j
theorem docN_gd : Gd [docN] := by
  have hg : ∀ t : Int, gN [docN] t = if t = 0 then docN else noN := fun t => by
    by_cases e : t = 0
    · subst e; rfl
    · rw [if_neg e, gN_none (by simp; omega)]
  refine ⟨fun t j => ?_, fun t => ?_, fun j => ?_, fun j => ?_, fun j hj => ?_, ?_, fun j => ?_⟩
  · rw [hg t, hg j]; split <;> split <;> simp [docN, noN, zN] <;> omega
  · rw [hg t]; split <;> simp [docN, noN, zN]
  · rw [hg j]; split <;> simp [docN, noN, zN]
  · rw [hg j]; split <;> simp [docN, noN, zN]
  · refine ⟨1, ?_⟩
    simp only [List.length_singleton] at hj ⊢
    have : upN [docN] j < 0 := by
      rw [upN_g, hg]; split <;> simp [docN, noN, zN]
    simp [dn, this]; omega
  · rw [hg]; rfl
  · rw [hg]; split
    · intro _; assumption
    · intro hh; simp [noN, zN] at hh
end Go.Vk
end
section
set_option linter.unusedSimpArgs false
set_option linter.unusedVariables false
namespace Go.Vk
theorem kidK_one {k : Int} (h : kidK k = true) : k ≠ 1 := fun e => by subst e; simp [kidK] at h
theorem add_gd {L : List Nd} (h : Gd L) (n : Nd) : Gd (addN L n).1 := by
  unfold addN
  split
  · next hk =>
    have h1 := kidK_one hk
    split
    · have := (h.push (n := { bareN n with content := (L.length : Int) + 1 }) rfl rfl h1).push (n := contN) rfl rfl (by decide)
      simpa using this
    · exact h.push (n := bareN n) rfl rfl h1
  · exact h
def addText (s : ByteArray) (n : Nd) : Nd := { n with text := n.text ++ s }
def textNd (s : ByteArray) : Nd := { zN with kind := 4, text := s, parent := -1, frm := -1, to := -1 }
def atK (r : Int) (ks : List Int) : Int := if r < 0 then (ks.length : Int) else idxF r ks 0
def textN (L : List Nd) (p r : Int) (s : ByteArray) : List Nd × Int :=
  if holdsN L p = true ∧ (r = -1 ∨ ((0 ≤ r ∧ r < L.length) ∧ (gN L r).parent = p)) then
    if s = ⟨#[]⟩ then (L, 0) else
      if 0 < atK r (gN L p).kids ∧ (gN L (((gN L p).kids[(atK r (gN L p).kids - 1).toNat]?).getD 0)).kind = 4 then
        (L.modify (((gN L p).kids[(atK r (gN L p).kids - 1).toNat]?).getD 0).toNat (addText s), 0)
      else (hangN (L ++ [textNd s]) p.toNat r L.length, 0)
  else (L, 2)
theorem Gd.modify {L : List Nd} (h : Gd L) {i : Nat} {f : Nd → Nd} (hf : ∀ n, (f n).kind = n.kind ∧ (f n).parent = n.parent ∧ (f n).kids = n.kids) : Gd (L.modify i f) := by
  by_cases hi : i < L.length
  · refine h.same (by simp) fun t => ?_
    rw [gN_modify hi]
    split
    · exact hf _
    · exact ⟨rfl, rfl, rfl⟩
  · rw [List.modify_eq_self (by omega)]; exact h
end Go.Vk
end
section
set_option linter.unusedSimpArgs false
set_option linter.unusedVariables false
namespace Go.Vk
def hangAll (to : Nat) : List Int → List Nd → List Nd
  | [], L => L
  | j :: l, L => hangAll to l (hangN L to (-1) j.toNat)
def moveN (L : List Nd) (a b : Int) : List Nd × Int := if holdsN L a = true ∧ holdsN L b = true ∧ aboveN L a b = false then (hangAll b.toNat (gN L a).kids L, 0) else (L, 2)
/-- on the way of Move: what is left of the kids of a, none of them above b -/
structure Mv (N : Nat) (a b : Int) (ks : List Int) (L : List Nd) : Prop where
  gd : Gd L
  len : L.length = N
  a0 : 0 ≤ a
  kin : b < N
  nab : ab (upN L) a N b = false
  par : ∀ j ∈ ks, (gN L j).parent = a
  nd : ks.Nodup
theorem Mv.of {L : List Nd} (h : Gd L) {a b : Int} (ha : 0 ≤ a) (hb : b < L.length) (hab : aboveN L a b = false) : Mv L.length a b (gN L a).kids L :=
  ⟨h, rfl, ha, hb, by rw [← aboveF_ab]; exact hab, fun j hj => ((h.kid a j).1 hj).2, h.nd a⟩
theorem Mv.head {N : Nat} {a : Int} {b : Nat} {j : Int} {l : List Int} {L : List Nd} (h : Mv N a b (j :: l) L) :
    ∃ i : Nat, j = i ∧ i < L.length ∧ b < L.length ∧ b ≠ i ∧ Mv N a b l (hangN L b (-1) i) := by
  have hp := h.par j (by simp)
  have hr := (h.gd.range (j := j) (by have := h.a0; omega)).1
  obtain ⟨i, rfl⟩ : ∃ i : Nat, j = i := ⟨j.toNat, by omega⟩
  have hk := h.gd.knd i (by have := h.a0; omega)
  have h6 : ¬ (gN L i).kind = 6 := fun e => by rw [e] at hk; simp [kidK] at hk
  have hu : upN L i = a := by rw [upN_g, if_neg h6, hp]
  have hlen := h.len
  have hd : dn (L.length : Int) (upN L) N b = true := by
    have := h.gd.down (j := (b : Int)) (by have := h.kin; omega)
    rw [hlen] at this; rw [hlen]; exact this
  have hai : ab (upN L) i N b = false := by
    cases e : ab (upN L) i N b with
    | false => rfl
    | true =>
      have := ab_up (by rw [hu]; exact h.a0) e hd
      rw [hu, h.nab] at this; cases this
  have hbi : b ≠ i := fun e => by
    subst e
    have := h.kin
    cases N with
    | zero => omega
    | succ n => simp [ab, show ¬ (b : Int) < 0 by omega] at hai
  have hil : i < L.length := by omega
  have hbl : b < L.length := by have := h.kin; omega
  have hg := gN_hang h.gd hil hbl (-1)
  refine ⟨i, rfl, hil, hbl, hbi, h.gd.hang hil hbl hk hd hai (-1), by rw [hangN_len]; exact hlen, h.a0, h.kin, ?_, fun j hj => ?_, ?_⟩
  · have hup : ∀ x, x ≠ (i : Int) → upN (hangN L b (-1) i) x = upN L x := fun x hx => by
      rw [upN_g, upN_g, hg]; simp [hx]
    rw [(dn_same (N := (N : Int)) hup hai).1 a]; exact h.nab
  · have hn := h.nd
    rw [List.nodup_cons] at hn
    have : j ≠ i := fun e => hn.1 (e ▸ hj)
    rw [hg]; simp only [this, if_false]
    exact h.par j (by simp [hj])
  · exact (List.nodup_cons.1 h.nd).2
theorem Mv.all {N : Nat} {a : Int} {b : Nat} : ∀ {l : List Int} {L : List Nd}, Mv N a b l L → Gd (hangAll b l L) ∧ (hangAll b l L).length = N
  | [], _, h => ⟨h.gd, h.len⟩
  | j :: l, L, h => by
    obtain ⟨i, rfl, _, _, _, h'⟩ := h.head
    have := Mv.all h'
    simpa [hangAll] using this
end Go.Vk
end
section
set_option linter.unusedSimpArgs false
set_option linter.unusedVariables false
namespace Go.Vk
theorem setCells_all {w : World} {b : Nat} {cs : Array Value} {t : TypeId} {f : Nat × Nat} (hb : w.heap[b]? = some (.cells cs t f)) {l : List Value} (hl : cs.size = l.length) : (setCells w ⟨b, 0, none⟩ l 0).heap[b]? = some (.cells l.toArray t f) := by
  rw [setCells_same l w b 0 0 cs t f hb]
  congr 2
  apply Array.ext_getElem?
  intro j
  by_cases hj : j < l.length
  · have := ovw_in l cs 0 j hj (by omega)
    simpa using this
  · rw [ovw_out l cs _ j (by omega), Array.getElem?_eq_none (by omega)]
    simp [hj]
end Go.Vk
namespace Go.Proofs.YtkafpameheohdaaDoor
open Go.Vk
set_option maxHeartbeats 40000000
theorem node_c {pa : Nat} {L : List Nd} {F : Nat → Prop} {w : World} (h : Ar w pa L F) (hb : ∀ n ∈ L, n.kids.length < 1000000 ∧ n.attrs.length < 1000000) (i : Int) :
    Gives Tryd.prog 40 #[.pointer (some ⟨pa, 0, none⟩), .int .i64 i] w fun v w' => ∃ m : Laid, v = m.val ∧ m.nd = (nd? L i).getD zN ∧ m.ok w' ∧ Ext w w' ∧ (∀ b ∈ m.blks, w.heap.size ≤ b) ∧ m.blks.Nodup := by
  cases hn : nd? L i with
  | none =>
    refine Gives.of_W Tryd.call40 Tryd.func40 rfl Tryd.ntmps40 (by simp) ?_; intro Z hZ
    (repeat (first | (with_reducible first | (refine hK _ _ ?_; clear hK K) | refine (show ∀ σ' w', _ → K σ' w' from by assumption) _ _ ?_ | refine W_seq_k fun K hK => ?_ | refine W_block_k fun K hK => ?_ | refine W_skip ?_ | refine W_ret ?_) | ((first | ((with_reducible refine W_id ?_); refine W_reg (by decide) (by rfl) ?_) | (with_reducible first | refine W_cond ?_ | refine hZ _ _ ?_ | refine W_exit ?_ | refine Wo_id ?_)); repeat1' simp only [push_cast, Nat.reduceBEq, Nat.reduceLT, Nat.reduceEqDiff, reduceIte, reduceCtorEq, Nat.reduceMul, Nat.reduceAdd, Nat.reduceSub, Int.reduceEq, Int.reduceLT, Int.reduceLE, Int.reduceNeg, Int.reduceAdd, Int.reduceSub, Int.reduceMul, Nat.reduceLeDiff, Int.reduceToNat, cell_h, can_h, cellO_cells, canO_cells, setO_cells, heap_set_h, heap_alloc_h, size_set_h, size_alloc_h, vcells_agg, succ_ne, ne_succ, List.setIfInBounds_toArray, List.set_cons_succ, List.set_cons_zero, setCells, drew_h, RunV_zero Tryd.zeroValue49]) | ((repeat ((fail_if_success with_reducible refine hK _ _ ?_); clear hK K)); (with_reducible refine hK _ _ ?_); clear hK K)))
    refine (has_n i (h.ext (Ext.alloc _ _))).mono ?_
    rintro v w' ⟨rfl, rfl⟩
    rw [hn]
    ((repeat simp only [push_cast, Nat.reduceBEq, Nat.reduceLT, Nat.reduceEqDiff, reduceIte, reduceCtorEq, Nat.reduceMul, Nat.reduceAdd, Nat.reduceSub, Int.reduceEq, Int.reduceLT, Int.reduceLE, Int.reduceNeg, Int.reduceAdd, Int.reduceSub, Int.reduceMul, Nat.reduceLeDiff, Int.reduceToNat, cell_h, can_h, cellO_cells, canO_cells, setO_cells, heap_set_h, heap_alloc_h, size_set_h, size_alloc_h, vcells_agg, succ_ne, ne_succ, List.setIfInBounds_toArray, List.set_cons_succ, List.set_cons_zero, drew_h]); (repeat (first | (with_reducible first | (refine hK _ _ ?_; clear hK K) | refine (show ∀ σ' w', _ → K σ' w' from by assumption) _ _ ?_ | refine W_seq_k fun K hK => ?_ | refine W_block_k fun K hK => ?_ | refine W_skip ?_ | refine W_ret ?_) | ((first | ((with_reducible refine W_id ?_); refine W_reg (by decide) (by rfl) ?_) | (with_reducible first | refine W_cond ?_ | refine hZ _ _ ?_ | refine W_exit ?_ | refine Wo_id ?_)); repeat1' simp only [push_cast, Nat.reduceBEq, Nat.reduceLT, Nat.reduceEqDiff, reduceIte, reduceCtorEq, Nat.reduceMul, Nat.reduceAdd, Nat.reduceSub, Int.reduceEq, Int.reduceLT, Int.reduceLE, Int.reduceNeg, Int.reduceAdd, Int.reduceSub, Int.reduceMul, Nat.reduceLeDiff, Int.reduceToNat, cell_h, can_h, cellO_cells, canO_cells, setO_cells, heap_set_h, heap_alloc_h, size_set_h, size_alloc_h, vcells_agg, succ_ne, ne_succ, List.setIfInBounds_toArray, List.set_cons_succ, List.set_cons_zero, drew_h]) | ((repeat ((fail_if_success with_reducible refine hK _ _ ?_); clear hK K)); (with_reducible refine hK _ _ ?_); clear hK K))))
    refine build_struct Tryd.zeroValue49 un30 pl30 (cs := #[.int .i64 0, .string ⟨#[]⟩, .string ⟨#[]⟩, .int .i64 0, .slice none 0 0, .bool false, .int .i64 0, .int .i64 0, .slice none 0 0, .int .i64 0, .int .i64 0]) (by rfl) ?_
    ((repeat simp only [push_cast, Nat.reduceBEq, Nat.reduceLT, Nat.reduceEqDiff, reduceIte, reduceCtorEq, Nat.reduceMul, Nat.reduceAdd, Nat.reduceSub, Int.reduceEq, Int.reduceLT, Int.reduceLE, Int.reduceNeg, Int.reduceAdd, Int.reduceSub, Int.reduceMul, Nat.reduceLeDiff, Int.reduceToNat, cell_h, can_h, cellO_cells, canO_cells, setO_cells, heap_set_h, heap_alloc_h, size_set_h, size_alloc_h, vcells_agg, succ_ne, ne_succ, List.setIfInBounds_toArray, List.set_cons_succ, List.set_cons_zero, drew_h]); (repeat (first | (with_reducible first | (refine hK _ _ ?_; clear hK K) | refine (show ∀ σ' w', _ → K σ' w' from by assumption) _ _ ?_ | refine W_seq_k fun K hK => ?_ | refine W_block_k fun K hK => ?_ | refine W_skip ?_ | refine W_ret ?_) | ((first | ((with_reducible refine W_id ?_); refine W_reg (by decide) (by rfl) ?_) | (with_reducible first | refine W_cond ?_ | refine hZ _ _ ?_ | refine W_exit ?_ | refine Wo_id ?_)); repeat1' simp only [push_cast, Nat.reduceBEq, Nat.reduceLT, Nat.reduceEqDiff, reduceIte, reduceCtorEq, Nat.reduceMul, Nat.reduceAdd, Nat.reduceSub, Int.reduceEq, Int.reduceLT, Int.reduceLE, Int.reduceNeg, Int.reduceAdd, Int.reduceSub, Int.reduceMul, Nat.reduceLeDiff, Int.reduceToNat, cell_h, can_h, cellO_cells, canO_cells, setO_cells, heap_set_h, heap_alloc_h, size_set_h, size_alloc_h, vcells_agg, succ_ne, ne_succ, List.setIfInBounds_toArray, List.set_cons_succ, List.set_cons_zero, drew_h]) | ((repeat ((fail_if_success with_reducible refine hK _ _ ?_); clear hK K)); (with_reducible refine hK _ _ ?_); clear hK K))))
    have hb4 := setCells_all (w := w.alloc (.cells #[.int .i64 0, .string ⟨#[]⟩, .string ⟨#[]⟩, .int .i64 0, .slice none 0 0, .bool false, .int .i64 0, .int .i64 0, .slice none 0 0, .int .i64 0, .int .i64 0] 49)) (b := w.heap.size) (cs := #[.int .i64 0, .string ⟨#[]⟩, .string ⟨#[]⟩, .int .i64 0, .slice none 0 0, .bool false, .int .i64 0, .int .i64 0, .slice none 0 0, .int .i64 0, .int .i64 0]) (t := 49) (f := (0, 0)) (by rw [heap_alloc_h, if_pos rfl]) (l := [.int .i64 0, .string ⟨#[]⟩, .string ⟨#[]⟩, .int .i64 0, .slice none 0 0, .bool false, .int .i64 0, .int .i64 0, .slice none 0 0, .int .i64 0, .int .i64 0]) rfl
    ((repeat simp only [push_cast, Nat.reduceBEq, Nat.reduceLT, Nat.reduceEqDiff, reduceIte, reduceCtorEq, Nat.reduceMul, Nat.reduceAdd, Nat.reduceSub, Int.reduceEq, Int.reduceLT, Int.reduceLE, Int.reduceNeg, Int.reduceAdd, Int.reduceSub, Int.reduceMul, Nat.reduceLeDiff, Int.reduceToNat, cell_h, can_h, cellO_cells, canO_cells, setO_cells, heap_set_h, heap_alloc_h, size_set_h, size_alloc_h, vcells_agg, succ_ne, ne_succ, List.setIfInBounds_toArray, List.set_cons_succ, List.set_cons_zero, drew_h, hb4]); (repeat (first | (with_reducible first | (refine hK _ _ ?_; clear hK K) | refine (show ∀ σ' w', _ → K σ' w' from by assumption) _ _ ?_ | refine W_seq_k fun K hK => ?_ | refine W_block_k fun K hK => ?_ | refine W_skip ?_ | refine W_ret ?_) | ((first | ((with_reducible refine W_id ?_); refine W_reg (by decide) (by rfl) ?_) | (with_reducible first | refine W_cond ?_ | refine hZ _ _ ?_ | refine W_exit ?_ | refine Wo_id ?_)); repeat1' simp only [push_cast, Nat.reduceBEq, Nat.reduceLT, Nat.reduceEqDiff, reduceIte, reduceCtorEq, Nat.reduceMul, Nat.reduceAdd, Nat.reduceSub, Int.reduceEq, Int.reduceLT, Int.reduceLE, Int.reduceNeg, Int.reduceAdd, Int.reduceSub, Int.reduceMul, Nat.reduceLeDiff, Int.reduceToNat, cell_h, can_h, cellO_cells, canO_cells, setO_cells, heap_set_h, heap_alloc_h, size_set_h, size_alloc_h, vcells_agg, succ_ne, ne_succ, List.setIfInBounds_toArray, List.set_cons_succ, List.set_cons_zero, drew_h, hb4]) | ((repeat ((fail_if_success with_reducible refine hK _ _ ?_); clear hK K)); (with_reducible refine hK _ _ ?_); clear hK K))))
    refine ⟨⟨zN, .slice none 0 0, .slice none 0 0, none, none⟩, rfl, rfl, ⟨SlAt.nil _ _, SlAt.nil _ _⟩, ?_, by simp [Laid.blks], by simp [Laid.blks]⟩
    exact Upd.trans (Ext.alloc w _) (Upd.setCells (F := fun b => b = w.heap.size) (a := ⟨w.heap.size, 0, none⟩) _ rfl _ 0) fun i hi e => by omega
  | some n =>
    obtain ⟨k, rfl, hk, hkl⟩ := nd?_some hn
    obtain ⟨hb1, hb2⟩ := hb n (List.mem_of_getElem? hk)
    obtain ⟨bn, cap, M, m, hMA, hML, hF, hm, hmn, hl⟩ := h.at hk
    subst hmn
    refine Gives.of_W Tryd.call40 Tryd.func40 rfl Tryd.ntmps40 (by simp) ?_; intro Z hZ
    (repeat (first | (with_reducible first | (refine hK _ _ ?_; clear hK K) | refine (show ∀ σ' w', _ → K σ' w' from by assumption) _ _ ?_ | refine W_seq_k fun K hK => ?_ | refine W_block_k fun K hK => ?_ | refine W_skip ?_ | refine W_ret ?_) | ((first | ((with_reducible refine W_id ?_); refine W_reg (by decide) (by rfl) ?_) | (with_reducible first | refine W_cond ?_ | refine hZ _ _ ?_ | refine W_exit ?_ | refine Wo_id ?_)); repeat1' simp only [push_cast, Nat.reduceBEq, Nat.reduceLT, Nat.reduceEqDiff, reduceIte, reduceCtorEq, Nat.reduceMul, Nat.reduceAdd, Nat.reduceSub, Int.reduceEq, Int.reduceLT, Int.reduceLE, Int.reduceNeg, Int.reduceAdd, Int.reduceSub, Int.reduceMul, Nat.reduceLeDiff, Int.reduceToNat, cell_h, can_h, cellO_cells, canO_cells, setO_cells, heap_set_h, heap_alloc_h, size_set_h, size_alloc_h, vcells_agg, succ_ne, ne_succ, List.setIfInBounds_toArray, List.set_cons_succ, List.set_cons_zero, setCells, drew_h, RunV_zero Tryd.zeroValue49]) | ((repeat ((fail_if_success with_reducible refine hK _ _ ?_); clear hK K)); (with_reducible refine hK _ _ ?_); clear hK K)))
    refine (has_n k (h.ext (Ext.alloc _ _))).mono ?_
    rintro v w' ⟨rfl, rfl⟩
    rw [hn]
    have hM := hMA.frame (Ext.alloc w (.cells #[.int .i64 0, .string ⟨#[]⟩, .string ⟨#[]⟩, .int .i64 0, .slice none 0 0, .bool false, .int .i64 0, .int .i64 0, .slice none 0 0, .int .i64 0, .int .i64 0] 49)) fun _ _ h => h.elim
    have hh := hM.head
    have c0 := hM.cell hm (j := 0) (by decide)
    have c1 := hM.cell hm (j := 1) (by decide)
    have c2 := hM.cell hm (j := 2) (by decide)
    have c3 := hM.cell hm (j := 3) (by decide)
    have c4 := hM.cell hm (j := 4) (by decide)
    have c5 := hM.cell hm (j := 5) (by decide)
    have c6 := hM.cell hm (j := 6) (by decide)
    have c7 := hM.cell hm (j := 7) (by decide)
    have c8 := hM.cell hm (j := 8) (by decide)
    have c9 := hM.cell hm (j := 9) (by decide)
    have c10 := hM.cell hm (j := 10) (by decide)
    simp only [Laid.cells, List.getElem?_cons_zero, List.getElem?_cons_succ, Nat.add_zero] at c0 c1 c2 c3 c4 c5 c6 c7 c8 c9 c10
    have hi1 : (0 : Int) ≤ k := by omega
    have hi2 : (k : Int) < M.length := by omega
    have hok := hM.sub m (List.mem_of_getElem? hm)
    generalize hw1 : w.alloc (.cells #[.int .i64 0, .string ⟨#[]⟩, .string ⟨#[]⟩, .int .i64 0, .slice none 0 0, .bool false, .int .i64 0, .int .i64 0, .slice none 0 0, .int .i64 0, .int .i64 0] 49) = w1 at *
    obtain ⟨va, na, ka, eav, _, _⟩ := hok.attrs.len
    obtain ⟨vb, nb, kb, ekv, _, _⟩ := hok.kids.len
    rw [eav] at c4
    rw [ekv] at c8
    ((repeat simp only [push_cast, Nat.reduceBEq, Nat.reduceLT, Nat.reduceEqDiff, reduceIte, reduceCtorEq, Nat.reduceMul, Nat.reduceAdd, Nat.reduceSub, Int.reduceEq, Int.reduceLT, Int.reduceLE, Int.reduceNeg, Int.reduceAdd, Int.reduceSub, Int.reduceMul, Nat.reduceLeDiff, Int.reduceToNat, cell_h, can_h, cellO_cells, canO_cells, setO_cells, heap_set_h, heap_alloc_h, size_set_h, size_alloc_h, vcells_agg, succ_ne, ne_succ, List.setIfInBounds_toArray, List.set_cons_succ, List.set_cons_zero, drew_h, hh, hi1, hi2, c0, c1, c2, c3, c4, c5, c6, c7, c8, c9, c10, RunV_zero Tryd.zeroValue49]); (repeat (first | (with_reducible first | (refine hK _ _ ?_; clear hK K) | refine (show ∀ σ' w', _ → K σ' w' from by assumption) _ _ ?_ | refine W_seq_k fun K hK => ?_ | refine W_block_k fun K hK => ?_ | refine W_skip ?_ | refine W_ret ?_) | ((first | ((with_reducible refine W_id ?_); refine W_reg (by decide) (by rfl) ?_) | (with_reducible first | refine W_cond ?_ | refine hZ _ _ ?_ | refine W_exit ?_ | refine Wo_id ?_)); repeat1' simp only [push_cast, Nat.reduceBEq, Nat.reduceLT, Nat.reduceEqDiff, reduceIte, reduceCtorEq, Nat.reduceMul, Nat.reduceAdd, Nat.reduceSub, Int.reduceEq, Int.reduceLT, Int.reduceLE, Int.reduceNeg, Int.reduceAdd, Int.reduceSub, Int.reduceMul, Nat.reduceLeDiff, Int.reduceToNat, cell_h, can_h, cellO_cells, canO_cells, setO_cells, heap_set_h, heap_alloc_h, size_set_h, size_alloc_h, vcells_agg, succ_ne, ne_succ, List.setIfInBounds_toArray, List.set_cons_succ, List.set_cons_zero, drew_h, hh, hi1, hi2, c0, c1, c2, c3, c4, c5, c6, c7, c8, c9, c10, RunV_zero Tryd.zeroValue49]) | ((repeat ((fail_if_success with_reducible refine hK _ _ ?_); clear hK K)); (with_reducible refine hK _ _ ?_); clear hK K))))
    have hb5 := setCells_all (w := w1.alloc (.cells #[.int .i64 0, .string ⟨#[]⟩, .string ⟨#[]⟩, .int .i64 0, .slice none 0 0, .bool false, .int .i64 0, .int .i64 0, .slice none 0 0, .int .i64 0, .int .i64 0] 49)) (b := w1.heap.size) (cs := #[.int .i64 0, .string ⟨#[]⟩, .string ⟨#[]⟩, .int .i64 0, .slice none 0 0, .bool false, .int .i64 0, .int .i64 0, .slice none 0 0, .int .i64 0, .int .i64 0]) (t := 49) (f := (0, 0)) (by rw [heap_alloc_h, if_pos rfl]) (l := [.int .i64 m.nd.kind, .string m.nd.name, .string m.nd.text, .int .i64 m.nd.space, .slice va na ka, .bool m.nd.dup, .int .i64 m.nd.parent, .int .i64 m.nd.content, .slice vb nb kb, .int .i64 m.nd.frm, .int .i64 m.nd.to]) rfl
    have hx5 : Ext w1 (setCells (w1.alloc (.cells #[.int .i64 0, .string ⟨#[]⟩, .string ⟨#[]⟩, .int .i64 0, .slice none 0 0, .bool false, .int .i64 0, .int .i64 0, .slice none 0 0, .int .i64 0, .int .i64 0] 49)) ⟨w1.heap.size, 0, none⟩ [.int .i64 m.nd.kind, .string m.nd.name, .string m.nd.text, .int .i64 m.nd.space, .slice va na ka, .bool m.nd.dup, .int .i64 m.nd.parent, .int .i64 m.nd.content, .slice vb nb kb, .int .i64 m.nd.frm, .int .i64 m.nd.to] 0) := Upd.trans (Ext.alloc w1 _) (Upd.setCells (F := fun b => b = w1.heap.size) (a := ⟨w1.heap.size, 0, none⟩) _ rfl _ 0) fun i hi e => by omega
    generalize setCells (w1.alloc (.cells #[.int .i64 0, .string ⟨#[]⟩, .string ⟨#[]⟩, .int .i64 0, .slice none 0 0, .bool false, .int .i64 0, .int .i64 0, .slice none 0 0, .int .i64 0, .int .i64 0] 49)) ⟨w1.heap.size, 0, none⟩ [.int .i64 m.nd.kind, .string m.nd.name, .string m.nd.text, .int .i64 m.nd.space, .slice va na ka, .bool m.nd.dup, .int .i64 m.nd.parent, .int .i64 m.nd.content, .slice vb nb kb, .int .i64 m.nd.frm, .int .i64 m.nd.to] 0 = w2 at *
    refine W_draw (.pas 0 (.pas 1 (.pas 3 (.pas 4 (.act 2 (.pas 6 (.act 5 (.tail [7, 8, 9])))))))) (fun b => b = w1.heap.size) (by decide) mixed (by kernel_rfl) ?_
    (repeat (first | ((first | refine pas_plain rfl ?_ | refine pas_g rfl rfl ?_ | refine act_plain rfl ?_ | refine act_g rfl rfl ?_ | refine last_plain rfl ?_ | refine tail_plain rfl ?_ | refine tail_g rfl rfl ?_); (repeat simp only [push_cast, Nat.reduceBEq, Nat.reduceLT, Nat.reduceEqDiff, reduceIte, reduceCtorEq, Nat.reduceMul, Nat.reduceAdd, Nat.reduceSub, Int.reduceEq, Int.reduceLT, Int.reduceLE, Int.reduceNeg, Int.reduceAdd, Int.reduceSub, Int.reduceMul, Nat.reduceLeDiff, Int.reduceToNat, cell_h, can_h, cellO_cells, canO_cells, setO_cells, heap_set_h, heap_alloc_h, size_set_h, size_alloc_h, vcells_agg, succ_ne, ne_succ, List.setIfInBounds_toArray, List.set_cons_succ, List.set_cons_zero, drew_h, hb5])) | (refine tail_fin ?_) | (refine sch_fin ?_)))
    have hx5d : Ext w1 w2.drew := hx5.trans (Ext.drew _)
    have hat := hok.attrs
    have hkt := hok.kids
    rw [eav] at hat
    rw [ekv] at hkt
    refine (clone_a (hat.ext hx5d).rd hb2).mono ?_
    rintro v w3 ⟨bo3, g1, g2, g3⟩
    have hlt5 := blk_lt hb5
    have hw5 : ∀ b, b = w1.heap.size → b < w2.drew.heap.size := fun b hb => by rw [hb, drew_size]; exact hlt5
    refine ⟨fun b hb => g2.heap (hw5 b hb), ?_⟩
    have hb6 : w3.heap[w1.heap.size]? = some (.cells (List.toArray [.int .i64 m.nd.kind, .string m.nd.name, .string m.nd.text, .int .i64 m.nd.space, .slice va na ka, .bool m.nd.dup, .int .i64 m.nd.parent, .int .i64 m.nd.content, .slice vb nb kb, .int .i64 m.nd.frm, .int .i64 m.nd.to]) 49 (0, 0)) := (g2.heap (hw5 _ rfl)).trans (by rw [drew_h]; exact hb5)
    obtain ⟨va', na', ka', rfl, _, _⟩ := g1.len
    (repeat (first | ((first | refine pas_plain rfl ?_ | refine pas_g rfl rfl ?_ | refine act_plain rfl ?_ | refine act_g rfl rfl ?_ | refine last_plain rfl ?_ | refine tail_plain rfl ?_ | refine tail_g rfl rfl ?_); (repeat simp only [push_cast, Nat.reduceBEq, Nat.reduceLT, Nat.reduceEqDiff, reduceIte, reduceCtorEq, Nat.reduceMul, Nat.reduceAdd, Nat.reduceSub, Int.reduceEq, Int.reduceLT, Int.reduceLE, Int.reduceNeg, Int.reduceAdd, Int.reduceSub, Int.reduceMul, Nat.reduceLeDiff, Int.reduceToNat, cell_h, can_h, cellO_cells, canO_cells, setO_cells, heap_set_h, heap_alloc_h, size_set_h, size_alloc_h, vcells_agg, succ_ne, ne_succ, List.setIfInBounds_toArray, List.set_cons_succ, List.set_cons_zero, drew_h, hb6])) | (refine tail_fin ?_) | (refine sch_fin ?_)))
    refine (clone_i ((hkt.ext hx5d).ext g2) hb1).mono ?_
    rintro v w4 ⟨bo4, q1, q2, q3⟩
    have hb7 := (q2.heap (blk_lt hb6)).trans hb6
    obtain ⟨vb', nb', kb', rfl, _, _⟩ := q1.len
    first
    | refine ⟨fun b hb => q2.heap (by have hb' : b = w1.heap.size := hb; rw [hb']; exact blk_lt hb6), ?_⟩
    | skip
    (repeat (first | ((first | refine pas_plain rfl ?_ | refine pas_g rfl rfl ?_ | refine act_plain rfl ?_ | refine act_g rfl rfl ?_ | refine last_plain rfl ?_ | refine tail_plain rfl ?_ | refine tail_g rfl rfl ?_); (repeat simp only [push_cast, Nat.reduceBEq, Nat.reduceLT, Nat.reduceEqDiff, reduceIte, reduceCtorEq, Nat.reduceMul, Nat.reduceAdd, Nat.reduceSub, Int.reduceEq, Int.reduceLT, Int.reduceLE, Int.reduceNeg, Int.reduceAdd, Int.reduceSub, Int.reduceMul, Nat.reduceLeDiff, Int.reduceToNat, cell_h, can_h, cellO_cells, canO_cells, setO_cells, heap_set_h, heap_alloc_h, size_set_h, size_alloc_h, vcells_agg, succ_ne, ne_succ, List.setIfInBounds_toArray, List.set_cons_succ, List.set_cons_zero, drew_h, hb7])) | (refine tail_fin ?_) | (refine sch_fin ?_)))
    have z1 : w1.heap[w.heap.size]? = some (.cells #[.int .i64 0, .string ⟨#[]⟩, .string ⟨#[]⟩, .int .i64 0, .slice none 0 0, .bool false, .int .i64 0, .int .i64 0, .slice none 0 0, .int .i64 0, .int .i64 0] 49 (0, 0)) := by rw [← hw1, heap_alloc_h, if_pos rfl]
    have hl1 : w.heap.size < w1.heap.size := blk_lt z1
    have z2 := (hx5.heap hl1).trans z1
    have z3 : w3.heap[w.heap.size]? = some (.cells #[.int .i64 0, .string ⟨#[]⟩, .string ⟨#[]⟩, .int .i64 0, .slice none 0 0, .bool false, .int .i64 0, .int .i64 0, .slice none 0 0, .int .i64 0, .int .i64 0] 49 (0, 0)) := (g2.heap (by rw [drew_size]; exact blk_lt z2)).trans (by rw [drew_h]; exact z2)
    have z4 := (q2.heap (blk_lt z3)).trans z3
    have hne : ¬ w.heap.size = w1.heap.size := by omega
    have hne' : ¬ w1.heap.size = w.heap.size := by omega
    have x4 : Ext w w4 := by
      have hxa : Ext w w1 := by rw [← hw1]; exact Ext.alloc _ _
      exact ((hxa.trans hx5d).trans g2).trans q2
    have u5 : Upd (fun b => b = w1.heap.size) w4 ((w4.setCell ⟨w1.heap.size, 4, none⟩ (.slice va' na' ka')).setCell ⟨w1.heap.size, 8, none⟩ (.slice vb' nb' kb')) := by
      with_reducible refine Upd.put ?_ rfl
      with_reducible refine Upd.put ?_ rfl
      exact Upd.refl _ _
    have z5 : ((w4.setCell ⟨w1.heap.size, 4, none⟩ (.slice va' na' ka')).setCell ⟨w1.heap.size, 8, none⟩ (.slice vb' nb' kb')).heap[w.heap.size]? = some (.cells #[.int .i64 0, .string ⟨#[]⟩, .string ⟨#[]⟩, .int .i64 0, .slice none 0 0, .bool false, .int .i64 0, .int .i64 0, .slice none 0 0, .int .i64 0, .int .i64 0] 49 (0, 0)) := (u5.same _ (blk_lt z4) hne).trans z4
    have b5 : ((w4.setCell ⟨w1.heap.size, 4, none⟩ (.slice va' na' ka')).setCell ⟨w1.heap.size, 8, none⟩ (.slice vb' nb' kb')).heap[w1.heap.size]? = some (.cells (List.toArray [.int .i64 m.nd.kind, .string m.nd.name, .string m.nd.text, .int .i64 m.nd.space, .slice va' na' ka', .bool m.nd.dup, .int .i64 m.nd.parent, .int .i64 m.nd.content, .slice vb' nb' kb', .int .i64 m.nd.frm, .int .i64 m.nd.to]) 49 (0, 0)) := by
      rw [heap_set_same (heap_set_same hb7 _ _)]; rfl
    generalize (w4.setCell ⟨w1.heap.size, 4, none⟩ (.slice va' na' ka')).setCell ⟨w1.heap.size, 8, none⟩ (.slice vb' nb' kb') = w5 at *
    have z6 := setCells_all z5 (l := [.int .i64 m.nd.kind, .string m.nd.name, .string m.nd.text, .int .i64 m.nd.space, .slice va' na' ka', .bool m.nd.dup, .int .i64 m.nd.parent, .int .i64 m.nd.content, .slice vb' nb' kb', .int .i64 m.nd.frm, .int .i64 m.nd.to]) rfl
    have u6 : Upd (fun b => b = w.heap.size) w5 (setCells w5 ⟨w.heap.size, 0, none⟩ [.int .i64 m.nd.kind, .string m.nd.name, .string m.nd.text, .int .i64 m.nd.space, .slice va' na' ka', .bool m.nd.dup, .int .i64 m.nd.parent, .int .i64 m.nd.content, .slice vb' nb' kb', .int .i64 m.nd.frm, .int .i64 m.nd.to] 0) := Upd.setCells (F := fun b => b = w.heap.size) (a := ⟨w.heap.size, 0, none⟩) _ rfl _ 0
    have hwl : w1.heap.size < w2.drew.heap.size := hw5 _ rfl
    have hsz2 := g2.alike.size
    have f3 : ∀ b, bo3 = some b → w1.heap.size < b := fun b hb => by have := g3 b hb; omega
    have f4 : ∀ b, bo4 = some b → w3.heap.size ≤ b := q3
    have k1 : SlAt w5 2 (.slice va' na' ka') (attrCells m.nd.attrs) bo3 := (g1.ext q2).upd u5 fun b hb e => by have := f3 b hb; omega
    have k2 : SlAt w5 1 (.slice vb' nb' kb') (intCells m.nd.kids) bo4 := q1.upd u5 fun b hb e => by have := f4 b hb; omega
    have k1' := k1.upd u6 fun b hb e => by have := f3 b hb; omega
    have k2' := k2.upd u6 fun b hb e => by have := f4 b hb; omega
    have hg1 := g1
    clear z4 z3 z2 z1 hb7 hb6 hb5 hw5 q2 g2 hx5d hx5 hkt hat c0 c1 c2 c3 c4 c5 c6 c7 c8 c9 c10 hh hM hMA h k1 k2 g1 q1
    ((repeat simp only [push_cast, Nat.reduceBEq, Nat.reduceLT, Nat.reduceEqDiff, reduceIte, reduceCtorEq, Nat.reduceMul, Nat.reduceAdd, Nat.reduceSub, Int.reduceEq, Int.reduceLT, Int.reduceLE, Int.reduceNeg, Int.reduceAdd, Int.reduceSub, Int.reduceMul, Nat.reduceLeDiff, Int.reduceToNat, cell_h, can_h, cellO_cells, canO_cells, vcells_agg, hne, hne', z5, b5, z6]); (repeat (first | (with_reducible first | (refine hK _ _ ?_; clear hK K) | refine (show ∀ σ' w', _ → K σ' w' from by assumption) _ _ ?_ | refine W_seq_k fun K hK => ?_ | refine W_block_k fun K hK => ?_ | refine W_skip ?_ | refine W_ret ?_) | ((first | ((with_reducible refine W_id ?_); refine W_reg (by decide) (by rfl) ?_) | (with_reducible first | refine W_cond ?_ | refine hZ _ _ ?_ | refine W_exit ?_ | refine Wo_id ?_)); repeat1' simp only [push_cast, Nat.reduceBEq, Nat.reduceLT, Nat.reduceEqDiff, reduceIte, reduceCtorEq, Nat.reduceMul, Nat.reduceAdd, Nat.reduceSub, Int.reduceEq, Int.reduceLT, Int.reduceLE, Int.reduceNeg, Int.reduceAdd, Int.reduceSub, Int.reduceMul, Nat.reduceLeDiff, Int.reduceToNat, cell_h, can_h, cellO_cells, canO_cells, vcells_agg, hne, hne', z5, b5, z6]) | ((repeat ((fail_if_success with_reducible refine hK _ _ ?_); clear hK K)); (with_reducible refine hK _ _ ?_); clear hK K))))
    refine ⟨⟨m.nd, .slice va' na' ka', .slice vb' nb' kb', bo3, bo4⟩, rfl, rfl, ⟨k1', k2'⟩, ?_, fun b hb => ?_, ?_⟩
    · exact Upd.trans (Upd.trans x4 u5 fun i hi e => by omega) u6 fun i hi e => by omega
    · simp only [Laid.blks, List.mem_append, Option.mem_toList] at hb
      rcases hb with hb | hb
      · have := f3 b hb; omega
      · have := f4 b hb; omega
    · simp only [Laid.blks]
      cases bo3 with
      | none => cases bo4 <;> simp
      | some b3 =>
        cases bo4 with
        | none => simp
        | some b4 =>
          have h3 := hg1.lt
          have h4 := f4 b4 rfl
          simp; omega
end Go.Proofs.YtkafpameheohdaaDoor
end
section
set_option linter.unusedSimpArgs false
set_option linter.unusedVariables false
namespace Go.Proofs.YtkafpameheohdaaDoor
open Go.Vk
set_option maxHeartbeats 40000000
/-- the kid ahead of a place -/
theorem ahead {L : List Nd} (h : Gd L) {p : Nat} {k : Nat} (hk : k < (gN L p).kids.length) : ∃ t : Nat, (gN L p).kids[k]? = some (t : Int) ∧ t < L.length ∧ (gN L t).parent = p := by
  have hm := (h.kid p ((gN L p).kids[k])).1 (List.getElem_mem hk)
  have hr := (h.range (j := (gN L p).kids[k]) (by omega)).1
  refine ⟨((gN L p).kids[k]).toNat, ?_, by omega, ?_⟩
  · rw [List.getElem?_eq_getElem hk]; congr 1; omega
  · rw [Int.toNat_of_nonneg (by omega)]; exact hm.2
end Go.Proofs.YtkafpameheohdaaDoor
end
section
set_option linter.unusedSimpArgs false
set_option linter.unusedVariables false
namespace Go.Vk
/-- blocks that the arena may have -/
def AF (w0 : World) (P : Nat → Prop) (b : Nat) : Prop := w0.heap.size ≤ b ∧ ¬ P b
structure At (w0 w : World) (P : Nat → Prop) (pa : Nat) (L : List Nd) : Prop where
  ar : Ar w pa L (AF w0 P)
  gd : Gd L
  ext : Ext w0 w
  low : ∀ b, P b → b < w.heap.size
def noP : Nat → Prop := fun _ => False
theorem At.next {w0 w w' : World} {P : Nat → Prop} {pa : Nat} {L L' : List Nd} (h : At w0 w P pa L) (ha : Ar w' pa L' (fun b => AF w0 P b ∨ w.heap.size ≤ b)) (hg : Gd L') (hu : Upd (AF w0 P) w w') : At w0 w' P pa L' :=
  ⟨ha.mono fun b _ hb => by
    rcases hb with hb | hb
    · exact hb
    · exact ⟨by have := h.ext.alike.size; omega, fun hp => by have := h.low b hp; omega⟩,
    hg, Upd.trans h.ext hu fun i hi hb => by have := hb.1; omega, fun b hb => by have := h.low b hb; have := hu.alike.size; omega⟩
theorem At.pass {w0 w w' : World} {P : Nat → Prop} {pa : Nat} {L : List Nd} (h : At w0 w P pa L) (hu : Ext w w') : At w0 w' P pa L :=
  ⟨h.ar.ext hu, h.gd, h.ext.trans hu, fun b hb => by have := h.low b hb; have := hu.alike.size; omega⟩
/-- other blocks change, that are not the arena's -/
theorem At.frame {G : Nat → Prop} {w0 w w' : World} {P : Nat → Prop} {pa : Nat} {L : List Nd} (h : At w0 w P pa L) (hu : Upd G w w') (hG : ∀ b, G b → P b ∧ w0.heap.size ≤ b) : At w0 w' P pa L :=
  ⟨h.ar.frame hu fun b hb hg => hb.2 (hG b hg).1, h.gd, Upd.trans h.ext hu fun i hi hb => by have := (hG i hb).2; omega, fun b hb => by have := h.low b hb; have := hu.alike.size; omega⟩
/-- blocks that came since the arena was last looked at: it keeps off them, too -/
theorem At.guard {Q : Nat → Prop} {w0 w w' : World} {P : Nat → Prop} {pa : Nat} {L : List Nd} (h : At w0 w P pa L) (hu : Ext w w') (hQ : ∀ b, Q b → P b ∨ (w.heap.size ≤ b ∧ b < w'.heap.size)) : At w0 w' Q pa L :=
  ⟨(h.ar.mono (G := AF w0 Q) fun b hb hf => ⟨hf.1, fun hq => by rcases hQ b hq with hp | hp; exact hf.2 hp; omega⟩).ext hu, h.gd, h.ext.trans hu, fun b hb => by
    rcases hQ b hb with hp | hp
    · have := h.low b hp; have := hu.alike.size; omega
    · exact hp.2⟩
end Go.Vk
namespace Go.Proofs.YtkafpameheohdaaDoor
open Go.Vk
theorem new_a {w0 : World} :
    Gives Tryd.prog 23 #[] w0 fun v w' => ∃ pa, v = .pointer (some ⟨pa, 0, none⟩) ∧ At w0 w' noP pa [docN] :=
  new_c.mono fun v w' ⟨pa, h1, h2, h3⟩ => ⟨pa, h1, h2.mono fun b _ hb => ⟨hb, id⟩, docN_gd, h3, fun _ h => h.elim⟩
section
variable {w0 w : World} {P : Nat → Prop} {pa : Nat} {L : List Nd}
theorem len_a (h : At w0 w P pa L) : Gives Tryd.prog 39 #[.pointer (some ⟨pa, 0, none⟩)] w fun v w' => v = .int .i64 (L.length : Int) ∧ w' = w := len_c h.ar
theorem add_a (h : At w0 w P pa L) (hb : L.length < 100000) {m : Laid} (hm : RdAt w 2 m.av (attrCells m.nd.attrs)) (hmb : m.nd.attrs.length < 1000000) :
    Gives Tryd.prog 25 #[.pointer (some ⟨pa, 0, none⟩), m.val] w fun v w' => v = .int .i64 (addN L m.nd).2 ∧ At w0 w' P pa (addN L m.nd).1 ∧ Upd (AF w0 P) w w' :=
  (add_c h.ar h.gd.ne (by omega) hm hmb).mono fun v w' ⟨h1, h2, h3⟩ => ⟨h1, h.next h2 (add_gd h.gd _) h3, h3⟩
theorem node_a (h : At w0 w P pa L) (hb : L.length < 100000) (ha : ∀ n ∈ L, n.attrs.length < 1000000) (i : Int) :
    Gives Tryd.prog 40 #[.pointer (some ⟨pa, 0, none⟩), .int .i64 i] w fun v w' => ∃ m : Laid, v = m.val ∧ m.nd = (nd? L i).getD zN ∧ m.ok w' ∧ At w0 w' P pa L ∧ Ext w w' ∧ (∀ b ∈ m.blks, w.heap.size ≤ b) ∧ m.blks.Nodup :=
  (node_c h.ar (fun n hn => by
    obtain ⟨k, hk⟩ := List.getElem?_of_mem hn
    refine ⟨?_, ha n hn⟩
    have := h.gd.few k
    rw [gN_nat hk] at this; omega) i).mono fun v w' ⟨m, h1, h2, h3, h4, h5, h6⟩ => ⟨m, h1, h2, h3, h.pass h4, h4, h5, h6⟩
end
end Go.Proofs.YtkafpameheohdaaDoor
end
section
set_option linter.unusedSimpArgs false
set_option linter.unusedVariables false
namespace Go.Vk
theorem take_same {α : Type} {a b : List α} {k : Nat} (h : a.take k = b.take k) (hl : a.length = b.length) (hk : k < a.length) : (a[k]? = b[k]? ∧ a.take (k + 1) = b.take (k + 1)) ∨ (a[k]? ≠ b[k]? ∧ a ≠ b) := by
  by_cases e : a[k]? = b[k]?
  · refine .inl ⟨e, ?_⟩
    rw [List.take_add_one, List.take_add_one, h, e]
  · exact .inr ⟨e, fun e' => e (by rw [e'])⟩
end Go.Vk
namespace Go.Proofs.YtkafpameheohdaaDoor
open Go.Vk
set_option maxHeartbeats 40000000
theorem ints_c {va vb : Value} {la lb : List Int} {ba bb : Option Nat} {w : World} (ha : SlAt w 1 va (intCells la) ba) (hb : SlAt w 1 vb (intCells lb) bb) (hl : la.length < 1000000000) :
    Gives Tryd.prog 11 #[va, vb] w fun v w' => v = .bool (decide (la = lb)) ∧ Ext w w' := by
  obtain ⟨pa, ca, rfl, hca⟩ := ha.ints_len
  obtain ⟨pb, cb, rfl, hcb⟩ := hb.ints_len
  by_cases hlen : la.length = lb.length
  · have n0 : (la.length : Int) = lb.length := by omega
    refine Gives.of_W Tryd.call11 Tryd.func11 rfl Tryd.ntmps11 (by simp) ?_; intro Z hZ
    (repeat (first | (with_reducible first | (refine hK _ _ ?_; clear hK K) | refine (show ∀ σ' w', _ → K σ' w' from by assumption) _ _ ?_ | refine W_seq_k fun K hK => ?_ | refine W_block_k fun K hK => ?_ | refine W_skip ?_ | refine W_ret ?_) | ((first | ((with_reducible refine W_id ?_); refine W_reg (by decide) (by rfl) ?_) | (with_reducible first | refine W_cond ?_ | refine hZ _ _ ?_ | refine W_exit ?_ | refine Wo_id ?_)); repeat1' simp only [push_cast, Nat.reduceBEq, Nat.reduceLT, Nat.reduceEqDiff, reduceIte, reduceCtorEq, Nat.reduceMul, Nat.reduceAdd, Nat.reduceSub, Int.reduceEq, Int.reduceLT, Int.reduceLE, Int.reduceNeg, Int.reduceAdd, Int.reduceSub, Int.reduceMul, Nat.reduceLeDiff, Int.reduceToNat, n0, not_true_eq_false]) | ((repeat ((fail_if_success with_reducible refine hK _ _ ?_); clear hK K)); (with_reducible refine hK _ _ ?_); clear hK K)))
    refine W_loop (S := Nat) (fun k => [(0, .slice pa la.length ca), (1, .slice pb lb.length cb), (5, .int .i64 (k : Int))])
      (fun k w2 => k ≤ la.length ∧ la.take k = lb.take k ∧ Ext w w2) (fun k => la.length - k) 0 ?_ ?_ ?_
    · (repeat simp only [push_cast, Nat.reduceBEq, Nat.reduceLT, Nat.reduceEqDiff, reduceIte, reduceCtorEq, Nat.reduceMul, Nat.reduceAdd, Nat.reduceSub, Int.reduceEq, Int.reduceLT, Int.reduceLE, Int.reduceNeg, Int.reduceAdd, Int.reduceSub, Int.reduceMul, Nat.reduceLeDiff, Int.reduceToNat])
    · exact ⟨by omega, by simp, Ext.refl _⟩
    rintro k w2 ⟨hk, ht, hx⟩
    by_cases hkl : k < la.length
    · obtain ⟨b1, o1, n1, c1, e1, h1⟩ := ha.some_of (by intro e; have := intCells_length la; rw [e] at this; simp at this; omega)
      obtain ⟨b2, o2, n2, c2, e2, h2⟩ := hb.some_of (by intro e; have := intCells_length lb; rw [e] at this; simp at this; omega)
      cases e1; cases e2
      have hka : la[k]? = some la[k] := List.getElem?_eq_getElem hkl
      have hkb : lb[k]? = some (lb[k]'(by omega)) := List.getElem?_eq_getElem (by omega)
      have d1 := ((ha.ext hx).ext (Ext.drew _)).ints_cell hka
      have d2 := ((hb.ext hx).ext (Ext.drew _)).ints_cell hkb
      have b0 : (k : Int) < (la.length : Int) := by omega
      have b1' : (k : Int) < (lb.length : Int) := by omega
      have b2' : (0 : Int) ≤ (k : Int) := by omega
      have b3 : inI64 ((k : Int) + 1) := by unfold inI64; omega
      rcases take_same ht hlen hkl with ⟨e, ht'⟩ | ⟨e, ht'⟩
      · have e' : la[k] = lb[k]'(by omega) := by rw [hka, hkb] at e; exact Option.some.inj e
        rw [← e'] at d2
        generalize la[k] = x at d1 d2
        clear hka hkb
        (repeat (first | (with_reducible first | (refine hK _ _ ?_; clear hK K) | refine (show ∀ σ' w', _ → K σ' w' from by assumption) _ _ ?_ | refine W_seq_k fun K hK => ?_ | refine W_block_k fun K hK => ?_ | refine W_skip ?_ | refine W_ret ?_) | ((first | ((with_reducible refine W_id ?_); refine W_reg (by decide) (by rfl) ?_) | (with_reducible first | refine W_cond ?_ | refine hZ _ _ ?_ | refine W_exit ?_ | refine Wo_id ?_)); repeat1' simp only [push_cast, Nat.reduceBEq, Nat.reduceLT, Nat.reduceEqDiff, reduceIte, reduceCtorEq, Nat.reduceMul, Nat.reduceAdd, Nat.reduceSub, Int.reduceEq, Int.reduceLT, Int.reduceLE, Int.reduceNeg, Int.reduceAdd, Int.reduceSub, Int.reduceMul, Nat.reduceLeDiff, Int.reduceToNat, b0, b1', b2']) | ((repeat ((fail_if_success with_reducible refine hK _ _ ?_); clear hK K)); (with_reducible refine hK _ _ ?_); clear hK K)))
        refine W_draw (.pas 0 (.pas 1 (.pas 2 (.pas 3 (.pas 4 (.pas 5 (.pas 6 (.pas 7 (.pas 8 .fin))))))))) (fun _ => True) (by decide) mixed (by kernel_rfl) ?_
        (repeat (first | ((first | refine pas_plain rfl ?_ | refine pas_g rfl rfl ?_ | refine act_plain rfl ?_ | refine act_g rfl rfl ?_ | refine last_plain rfl ?_ | refine tail_plain rfl ?_ | refine tail_g rfl rfl ?_); (repeat simp only [push_cast, Nat.reduceBEq, Nat.reduceLT, Nat.reduceEqDiff, reduceIte, reduceCtorEq, Nat.reduceMul, Nat.reduceAdd, Nat.reduceSub, Int.reduceEq, Int.reduceLT, Int.reduceLE, Int.reduceNeg, Int.reduceAdd, Int.reduceSub, Int.reduceMul, Nat.reduceLeDiff, Int.reduceToNat, d1, d2, b0, b1', b2', not_true_eq_false])) | (refine tail_fin ?_) | (refine sch_fin ?_)))
        ((repeat simp only [push_cast, Nat.reduceBEq, Nat.reduceLT, Nat.reduceEqDiff, reduceIte, reduceCtorEq, Nat.reduceMul, Nat.reduceAdd, Nat.reduceSub, Int.reduceEq, Int.reduceLT, Int.reduceLE, Int.reduceNeg, Int.reduceAdd, Int.reduceSub, Int.reduceMul, Nat.reduceLeDiff, Int.reduceToNat, b3]); (repeat (first | (with_reducible first | (refine hK _ _ ?_; clear hK K) | refine (show ∀ σ' w', _ → K σ' w' from by assumption) _ _ ?_ | refine W_seq_k fun K hK => ?_ | refine W_block_k fun K hK => ?_ | refine W_skip ?_ | refine W_ret ?_) | ((first | ((with_reducible refine W_id ?_); refine W_reg (by decide) (by rfl) ?_) | (with_reducible first | refine W_cond ?_ | refine hZ _ _ ?_ | refine W_exit ?_ | refine Wo_id ?_)); repeat1' simp only [push_cast, Nat.reduceBEq, Nat.reduceLT, Nat.reduceEqDiff, reduceIte, reduceCtorEq, Nat.reduceMul, Nat.reduceAdd, Nat.reduceSub, Int.reduceEq, Int.reduceLT, Int.reduceLE, Int.reduceNeg, Int.reduceAdd, Int.reduceSub, Int.reduceMul, Nat.reduceLeDiff, Int.reduceToNat, b3]) | ((repeat ((fail_if_success with_reducible refine hK _ _ ?_); clear hK K)); (with_reducible refine hK _ _ ?_); clear hK K))))
        refine ⟨k + 1, by omega, ?_⟩
        (repeat simp only [push_cast, Nat.reduceBEq, Nat.reduceLT, Nat.reduceEqDiff, reduceIte, reduceCtorEq, Nat.reduceMul, Nat.reduceAdd, Nat.reduceSub, Int.reduceEq, Int.reduceLT, Int.reduceLE, Int.reduceNeg, Int.reduceAdd, Int.reduceSub, Int.reduceMul, Nat.reduceLeDiff, Int.reduceToNat])
        exact ⟨by omega, ht', hx.trans (Ext.drew _)⟩
      · have e' : ¬ la[k] = lb[k]'(by omega) := fun e' => e (by rw [hka, hkb, e'])
        generalize la[k] = x at *
        generalize lb[k]'_ = y at *
        clear hka hkb
        (repeat (first | (with_reducible first | (refine hK _ _ ?_; clear hK K) | refine (show ∀ σ' w', _ → K σ' w' from by assumption) _ _ ?_ | refine W_seq_k fun K hK => ?_ | refine W_block_k fun K hK => ?_ | refine W_skip ?_ | refine W_ret ?_) | ((first | ((with_reducible refine W_id ?_); refine W_reg (by decide) (by rfl) ?_) | (with_reducible first | refine W_cond ?_ | refine hZ _ _ ?_ | refine W_exit ?_ | refine Wo_id ?_)); repeat1' simp only [push_cast, Nat.reduceBEq, Nat.reduceLT, Nat.reduceEqDiff, reduceIte, reduceCtorEq, Nat.reduceMul, Nat.reduceAdd, Nat.reduceSub, Int.reduceEq, Int.reduceLT, Int.reduceLE, Int.reduceNeg, Int.reduceAdd, Int.reduceSub, Int.reduceMul, Nat.reduceLeDiff, Int.reduceToNat, b0, b1', b2']) | ((repeat ((fail_if_success with_reducible refine hK _ _ ?_); clear hK K)); (with_reducible refine hK _ _ ?_); clear hK K)))
        refine W_draw (.pas 0 (.pas 1 (.pas 2 (.pas 3 (.pas 4 (.pas 5 (.pas 6 (.pas 7 (.pas 8 .fin))))))))) (fun _ => True) (by decide) mixed (by kernel_rfl) ?_
        (repeat (first | ((first | refine pas_plain rfl ?_ | refine pas_g rfl rfl ?_ | refine act_plain rfl ?_ | refine act_g rfl rfl ?_ | refine last_plain rfl ?_ | refine tail_plain rfl ?_ | refine tail_g rfl rfl ?_); (repeat simp only [push_cast, Nat.reduceBEq, Nat.reduceLT, Nat.reduceEqDiff, reduceIte, reduceCtorEq, Nat.reduceMul, Nat.reduceAdd, Nat.reduceSub, Int.reduceEq, Int.reduceLT, Int.reduceLE, Int.reduceNeg, Int.reduceAdd, Int.reduceSub, Int.reduceMul, Nat.reduceLeDiff, Int.reduceToNat, d1, d2, b0, b1', b2', e', not_false_eq_true])) | (refine tail_fin ?_) | (refine sch_fin ?_)))
        ((repeat simp only [push_cast, Nat.reduceBEq, Nat.reduceLT, Nat.reduceEqDiff, reduceIte, reduceCtorEq, Nat.reduceMul, Nat.reduceAdd, Nat.reduceSub, Int.reduceEq, Int.reduceLT, Int.reduceLE, Int.reduceNeg, Int.reduceAdd, Int.reduceSub, Int.reduceMul, Nat.reduceLeDiff, Int.reduceToNat, b3]); (repeat (first | (with_reducible first | (refine hK _ _ ?_; clear hK K) | refine (show ∀ σ' w', _ → K σ' w' from by assumption) _ _ ?_ | refine W_seq_k fun K hK => ?_ | refine W_block_k fun K hK => ?_ | refine W_skip ?_ | refine W_ret ?_) | ((first | ((with_reducible refine W_id ?_); refine W_reg (by decide) (by rfl) ?_) | (with_reducible first | refine W_cond ?_ | refine hZ _ _ ?_ | refine W_exit ?_ | refine Wo_id ?_)); repeat1' simp only [push_cast, Nat.reduceBEq, Nat.reduceLT, Nat.reduceEqDiff, reduceIte, reduceCtorEq, Nat.reduceMul, Nat.reduceAdd, Nat.reduceSub, Int.reduceEq, Int.reduceLT, Int.reduceLE, Int.reduceNeg, Int.reduceAdd, Int.reduceSub, Int.reduceMul, Nat.reduceLeDiff, Int.reduceToNat, b3]) | ((repeat ((fail_if_success with_reducible refine hK _ _ ?_); clear hK K)); (with_reducible refine hK _ _ ?_); clear hK K))))
        exact ⟨by simp [ht'], hx.trans (Ext.drew _)⟩
    · have hke : k = la.length := by omega
      subst hke
      have hab : la = lb := by
        have h1 := List.take_length (l := la)
        have h2 := List.take_length (l := lb)
        rw [← hlen, ← ht, h1] at h2; exact h2
      have b0 : ¬ (la.length : Int) < (la.length : Int) := by omega
      (repeat (first | (with_reducible first | (refine hK _ _ ?_; clear hK K) | refine (show ∀ σ' w', _ → K σ' w' from by assumption) _ _ ?_ | refine W_seq_k fun K hK => ?_ | refine W_block_k fun K hK => ?_ | refine W_skip ?_ | refine W_ret ?_) | ((first | ((with_reducible refine W_id ?_); refine W_reg (by decide) (by rfl) ?_) | (with_reducible first | refine W_cond ?_ | refine hZ _ _ ?_ | refine W_exit ?_ | refine Wo_id ?_)); repeat1' simp only [push_cast, Nat.reduceBEq, Nat.reduceLT, Nat.reduceEqDiff, reduceIte, reduceCtorEq, Nat.reduceMul, Nat.reduceAdd, Nat.reduceSub, Int.reduceEq, Int.reduceLT, Int.reduceLE, Int.reduceNeg, Int.reduceAdd, Int.reduceSub, Int.reduceMul, Nat.reduceLeDiff, Int.reduceToNat, b0]) | ((repeat ((fail_if_success with_reducible refine hK _ _ ?_); clear hK K)); (with_reducible refine hK _ _ ?_); clear hK K)))
      exact ⟨by simp [hab], hx⟩
  · have n0 : ¬ (la.length : Int) = lb.length := by omega
    have hne : ¬ la = lb := fun e => hlen (by rw [e])
    refine Gives.of_W Tryd.call11 Tryd.func11 rfl Tryd.ntmps11 (by simp) ?_; intro Z hZ
    (repeat (first | (with_reducible first | (refine hK _ _ ?_; clear hK K) | refine (show ∀ σ' w', _ → K σ' w' from by assumption) _ _ ?_ | refine W_seq_k fun K hK => ?_ | refine W_block_k fun K hK => ?_ | refine W_skip ?_ | refine W_ret ?_) | ((first | ((with_reducible refine W_id ?_); refine W_reg (by decide) (by rfl) ?_) | (with_reducible first | refine W_cond ?_ | refine hZ _ _ ?_ | refine W_exit ?_ | refine Wo_id ?_)); repeat1' simp only [push_cast, Nat.reduceBEq, Nat.reduceLT, Nat.reduceEqDiff, reduceIte, reduceCtorEq, Nat.reduceMul, Nat.reduceAdd, Nat.reduceSub, Int.reduceEq, Int.reduceLT, Int.reduceLE, Int.reduceNeg, Int.reduceAdd, Int.reduceSub, Int.reduceMul, Nat.reduceLeDiff, Int.reduceToNat, n0, not_false_eq_true]) | ((repeat ((fail_if_success with_reducible refine hK _ _ ?_); clear hK K)); (with_reducible refine hK _ _ ?_); clear hK K)))
    exact ⟨by simp [hne], Ext.refl _⟩
end Go.Proofs.YtkafpameheohdaaDoor
end
section
set_option linter.unusedSimpArgs false
set_option linter.unusedVariables false
namespace Go.Vk
def elN (s : ByteArray) : Nd := { zN with kind := 3, name := s }
def sDiv : ByteArray := ⟨#[100, 105, 118]⟩
def s_a : ByteArray := ⟨#[97]⟩
def s_b : ByteArray := ⟨#[98]⟩
def s_c : ByteArray := ⟨#[99]⟩
def g1 : List Nd := (addN [docN] (elN sDiv)).1
def g2 : List Nd := (appendN g1 0 1).1
def g3 : List Nd := (addN g2 (elN tmpl)).1
def g4 : List Nd := (appendN g3 1 2).1
def g5 : List Nd := (textN g4 1 (-1) s_a).1
def g6 : List Nd := (textN g5 1 (-1) s_b).1
def g7 : List Nd := (textN g6 1 4 s_c).1
end Go.Vk
end
section
set_option linter.unusedSimpArgs false
set_option linter.unusedVariables false
namespace Go.Vk
open Go
theorem Pure1_eq {P : Program} {s : Sem Value} {v : Value} (h : ∀ w, s.run P w = .ok v w) (w : World) (K : Value → World → Prop) : Pure1 P s w K = K v w := by
  refine propext ⟨fun ⟨u, h1, h2⟩ => ?_, fun hk => ⟨v, h, hk⟩⟩
  have := h1 w
  rw [h w] at this
  cases this; exact h2
end Go.Vk
namespace Go.Proofs.YtkafpameheohdaaDoor
open Go.Vk
theorem fld0 (m : Laid) (w : World) (K : Value → World → Prop) : Pure1 Tryd.prog (Instr.field 49 m.val 0) w K = K (.int .i64 m.nd.kind) w :=
  Pure1_eq (fun w => by rw [Laid.val_eq]; simp [Instr.field, run_underlying Tryd.underlying49, asAgg, part, Tryd.sizeOf3, Sem.run]) w K
end Go.Proofs.YtkafpameheohdaaDoor
end
section
set_option linter.unusedSimpArgs false
set_option linter.unusedVariables false
namespace Go.Vk
def t1 : List Nd := (addN [docN] (elN ⟨#[112]⟩)).1
def t2 : List Nd := (addN t1 (elN s_b)).1
def t3 : List Nd := (appendN t2 0 1).1
def t4 : List Nd := (appendN t3 1 2).1
def t5 (s : ByteArray) : List Nd := hangN (t4 ++ [textNd s]) 1 (-1) 3
end Go.Vk
end
section
set_option linter.unusedSimpArgs false
set_option linter.unusedVariables false
namespace Go.Vk
/-- a slice of nodes -/
structure NdsAt (w : World) (v : Value) (T : List Laid) (bo : Option Nat) : Prop where
  sl : SlAt w 11 v (flat T) bo
  ok : ∀ m ∈ T, m.ok w
  apart : ∀ m ∈ T, ∀ b ∈ m.blks, bo ≠ some b
theorem NdsAt.upd {G : Nat → Prop} {w w' : World} {v : Value} {T : List Laid} {bo : Option Nat} (h : NdsAt w v T bo) (hu : Upd G w w') (h1 : ∀ b, bo = some b → ¬ G b) (h2 : ∀ m ∈ T, ∀ b ∈ m.blks, ¬ G b) : NdsAt w' v T bo :=
  ⟨h.sl.upd hu h1, fun m hm => (h.ok m hm).upd hu (h2 m hm), h.apart⟩
theorem NdsAt.ext {w w' : World} {v : Value} {T : List Laid} {bo : Option Nat} (h : NdsAt w v T bo) (hu : Ext w w') : NdsAt w' v T bo := h.upd hu (fun _ _ h => h) (fun _ _ _ _ h => h)
theorem NdsAt.len {w : World} {v : Value} {T : List Laid} {bo : Option Nat} (h : NdsAt w v T bo) : ∃ a c, v = .slice a T.length c ∧ T.length ≤ c := by
  obtain ⟨a, n, c, rfl, h1, h2⟩ := h.sl.len
  rw [flat_length] at h2
  have : n = T.length := by omega
  subst this
  exact ⟨a, c, rfl, h1⟩
end Go.Vk
end
section
set_option linter.unusedSimpArgs false
set_option linter.unusedVariables false
namespace Go.Vk
open Go
/-- a node's cells, as the walk reads them -/
theorem NdsAt.get {w : World} {b o n c : Nat} {T : List Laid} {bo : Option Nat} (h : NdsAt w (.slice (some ⟨b, o, none⟩) n c) T bo) {i : Nat} {m : Laid} (hm : T[i]? = some m) {j : Nat} (hj : j < 11) : w.cell? ⟨b, o + i * 11 + j, none⟩ = m.cells[j]? := by
  have e := flat_get T i j m hm hj
  rw [← e]
  have hc : ∃ v, (flat T)[i * 11 + j]? = some v := by
    rw [e]; exact ⟨_, List.getElem?_eq_getElem (by rw [m.cells_length]; exact hj)⟩
  obtain ⟨v, hv⟩ := hc
  rw [hv, Nat.add_assoc]
  exact h.sl.get hv
end Go.Vk
end
section
set_option linter.unusedSimpArgs false
set_option linter.unusedVariables false
namespace Go.Vk
open Go
theorem cap_part {P : Program} {t e ty : Nat} (hT : P.underlying t = some (.slice e)) {w : World} {a : Option Addr} {n c : Nat} {K : Value → World → Prop} (h : K (.int .i64 (c : Int)) w) : RunV P (Builtin.cap_ #[t] ty #[.slice a n c]) w K := by
  refine .of (w' := w) ?_ h
  simp [Builtin.cap_, run_underlying hT, goInt]
end Go.Vk
end
section
set_option linter.unusedSimpArgs false
set_option linter.unusedVariables false
namespace Go.Vk
structure MvS (L : List Nd) (N : Nat) (pk ck : List Int) : Prop where
  gd : Gd L
  len : L.length = N
  big : 4 ≤ N
  k1 : (gN L 1).kids = pk
  k3 : (gN L 3).kids = ck
  n1 : (gN L 1).kind = 3
  n2 : (gN L 2).kind = 3
  n3 : (gN L 3).kind = 6
  p1 : (gN L 1).parent = -1
  p2 : (gN L 2).parent = -1
  c2 : (gN L 2).content = 3
  at_ : ∀ n ∈ L, n.attrs = []
theorem MvS.up1 {L : List Nd} {N : Nat} {pk ck : List Int} (h : MvS L N pk ck) : upN L 1 = -1 := by rw [upN_g, h.n1, h.p1]; decide
theorem MvS.up2 {L : List Nd} {N : Nat} {pk ck : List Int} (h : MvS L N pk ck) : upN L 2 = -1 := by rw [upN_g, h.n2, h.p2]; decide
theorem MvS.up3 {L : List Nd} {N : Nat} {pk ck : List Int} (h : MvS L N pk ck) : upN L 3 = 2 := by rw [upN_g, h.n3, if_pos rfl]; rfl
/-- who stands above the two -/
theorem MvS.above1 {L : List Nd} {N : Nat} {pk ck : List Int} (h : MvS L N pk ck) (i : Int) : aboveN L i 1 = decide (1 = i) := by
  obtain ⟨n, hn⟩ : ∃ n, L.length = n + 4 := ⟨L.length - 4, by have := h.len; have := h.big; omega⟩
  rw [aboveN, aboveF_ab, hn]
  simp [ab, h.up1]
theorem MvS.above3 {L : List Nd} {N : Nat} {pk ck : List Int} (h : MvS L N pk ck) (i : Int) : aboveN L i 3 = (decide (3 = i) || decide (2 = i)) := by
  obtain ⟨n, hn⟩ : ∃ n, L.length = n + 4 := ⟨L.length - 4, by have := h.len; have := h.big; omega⟩
  rw [aboveN, aboveF_ab, hn]
  simp [ab, h.up3, h.up2]
theorem addK_neg (i : Int) (l : List Int) : addK (-1) i l = l ++ [i] := by simp [addK]
/-- a node is hung that was nobody's kid, or another one's -/
theorem MvS.hang {L : List Nd} {N : Nat} {pk ck : List Int} (h : MvS L N pk ck) {i p : Nat} (hi : 4 ≤ i) (hil : i < N) (hp : p = 1 ∨ p = 3) (hg : Gd (hangN L p (-1) i)) :
    MvS (hangN L p (-1) i) N (if p = 1 then pk.erase i ++ [(i : Int)] else pk.erase i) (if p = 3 then ck.erase i ++ [(i : Int)] else ck.erase i) := by
  have hl := h.len
  have hb := h.big
  have hgn := gN_hang h.gd (i := i) (p := p) (by omega) (by omega) (-1)
  have ne : ∀ t : Int, t < 4 → ¬ t = (i : Int) := fun t ht => by omega
  refine ⟨hg, by rw [hangN_len]; exact hl, hb, ?_, ?_, ?_, ?_, ?_, ?_, ?_, ?_, fun n hn => ?_⟩
  · rw [hgn]
    show (if (1 : Int) = (p : Nat) then addK (-1) i ((gN L 1).kids.erase i) else (gN L 1).kids.erase i) = _
    rw [h.k1, addK_neg]
    rcases hp with rfl | rfl
    · rw [if_pos rfl]; exact if_pos rfl
    · rw [if_neg (by decide), if_neg (by decide)]
  · rw [hgn]
    show (if (3 : Int) = (p : Nat) then addK (-1) i ((gN L 3).kids.erase i) else (gN L 3).kids.erase i) = _
    rw [h.k3, addK_neg]
    rcases hp with rfl | rfl
    · rw [if_neg (by decide), if_neg (by decide)]
    · rw [if_pos rfl]; exact if_pos rfl
  · rw [hgn]; exact h.n1
  · rw [hgn]; exact h.n2
  · rw [hgn]; exact h.n3
  · rw [hgn]; simp only [if_neg (ne 1 (by decide))]; exact h.p1
  · rw [hgn]; simp only [if_neg (ne 2 (by decide))]; exact h.p2
  · rw [hgn]; exact h.c2
  · obtain ⟨k, hk⟩ := List.getElem?_of_mem hn
    have e := gN_nat hk
    rw [hgn] at e
    have e2 : n.attrs = (gN L k).attrs := by rw [← e]
    rw [e2]
    by_cases hkl : k < L.length
    · exact h.at_ _ (List.mem_of_getElem? (gN_some hkl))
    · rw [gN_none (by omega)]; rfl
theorem MvS.push {L : List Nd} {N : Nat} {pk ck : List Int} (h : MvS L N pk ck) {n : Nd} (hp : n.parent = -1) (hk : n.kids = []) (ha : n.attrs = []) (h1 : n.kind ≠ 1) : MvS (L ++ [n]) (N + 1) pk ck := by
  have hl := h.len
  have hb := h.big
  have ne : ∀ t : Int, t < 4 → gN (L ++ [n]) t = gN L t := fun t ht => by rw [gN_push, if_neg (by omega)]
  refine ⟨h.gd.push hp hk h1, by simp [hl], by omega, ?_, ?_, ?_, ?_, ?_, ?_, ?_, ?_, fun m hm => ?_⟩
  · rw [ne 1 (by decide)]; exact h.k1
  · rw [ne 3 (by decide)]; exact h.k3
  · rw [ne 1 (by decide)]; exact h.n1
  · rw [ne 2 (by decide)]; exact h.n2
  · rw [ne 3 (by decide)]; exact h.n3
  · rw [ne 1 (by decide)]; exact h.p1
  · rw [ne 2 (by decide)]; exact h.p2
  · rw [ne 2 (by decide)]; exact h.c2
  · simp only [List.mem_append, List.mem_singleton] at hm
    rcases hm with hm | rfl
    · exact h.at_ m hm
    · exact ha
/-- a new node behind the kids of one of the two -/
theorem MvS.add {L : List Nd} {N : Nat} {pk ck : List Int} (h : MvS L N pk ck) {n : Nd} (hk : kidK n.kind = true) (hp : n.parent = -1) (hks : n.kids = []) (ha : n.attrs = []) {p : Nat} (hp2 : p = 1 ∨ p = 3) :
    ∃ L', appendN (L ++ [n]) p N = (L', 0) ∧ MvS L' (N + 1) (if p = 1 then pk ++ [(N : Int)] else pk) (if p = 3 then ck ++ [(N : Int)] else ck) := by
  have hl := h.len
  have hb := h.big
  have h' := h.push hp hks ha (kidK_one hk)
  have hh : holdsN (L ++ [n]) p = true := by
    rw [holdsN_g]
    rcases hp2 with rfl | rfl
    · show holdK (gN (L ++ [n]) 1).kind = true; rw [h'.n1]; decide
    · show holdK (gN (L ++ [n]) 3).kind = true; rw [h'.n3]; decide
  have hn : hangsN (L ++ [n]) N = true := by rw [hangsN_g, gN_push, if_pos (by omega)]; exact hk
  have hab : aboveN (L ++ [n]) N p = false := by
    rcases hp2 with rfl | rfl
    · show aboveN (L ++ [n]) N 1 = false
      rw [h'.above1]; simp; omega
    · show aboveN (L ++ [n]) N 3 = false
      rw [h'.above3]; simp; omega
  have e : appendN (L ++ [n]) p N = (hangN (L ++ [n]) p (-1) N, 0) := by
    unfold appendN
    rw [if_pos ⟨hh, hn, hab⟩]
    simp
  refine ⟨_, e, ?_⟩
  have hg : Gd (hangN (L ++ [n]) p (-1) N) := by have := Go.Proofs.YtkafpameheohdaaDoor.append_gd h'.gd p N; rw [e] at this; exact this
  have := h'.hang (i := N) (p := p) hb (by omega) hp2 hg
  have e1 : pk.erase (N : Int) = pk := List.erase_of_not_mem fun hm => by
    rw [← h.k1] at hm
    have := (h.gd.range (j := (N : Int)) (by have := (h.gd.kid 1 N).1 hm; omega)).1; omega
  have e2 : ck.erase (N : Int) = ck := List.erase_of_not_mem fun hm => by
    rw [← h.k3] at hm
    have := (h.gd.range (j := (N : Int)) (by have := (h.gd.kid 3 N).1 hm; omega)).1; omega
  rw [e1, e2] at this
  exact this
theorem MvS.holds {L : List Nd} {N : Nat} {pk ck : List Int} (h : MvS L N pk ck) : holdsN L 1 = true ∧ holdsN L 3 = true := by
  refine ⟨?_, ?_⟩
  · rw [holdsN_g, h.n1]; decide
  · rw [holdsN_g, h.n3]; decide
/-- the template among the kids: then its content stands below them -/
theorem MvS.last {L : List Nd} {N : Nat} {pk ck : List Int} (h : MvS L N pk ck) : ∃ L', appendN L 1 2 = (L', 0) ∧ moveN L' 1 3 = (L', 2) ∧ Gd L' ∧ L'.length = N ∧ ∀ n ∈ L', n.attrs = [] := by
  have hb := h.big
  have hl := h.len
  have hh : hangsN L 2 = true := by rw [hangsN_g, h.n2]; decide
  have hab : aboveN L 2 1 = false := by rw [h.above1]; decide
  have e : appendN L 1 2 = (hangN L 1 (-1) 2, 0) := if_pos ⟨h.holds.1, hh, hab⟩
  have hg : Gd (hangN L 1 (-1) 2) := by have := Go.Proofs.YtkafpameheohdaaDoor.append_gd h.gd 1 2; rw [e] at this; exact this
  have hgn := gN_hang h.gd (i := 2) (p := 1) (by omega) (by omega) (-1)
  have hlen : (hangN L 1 (-1) 2).length = N := by rw [hangN_len]; exact hl
  refine ⟨_, e, if_neg fun hx => ?_, hg, hlen, fun n hn => ?_⟩
  · have hx := hx.2.2
    obtain ⟨n, hn⟩ : ∃ n, (hangN L 1 (-1) 2).length = n + 4 := ⟨N - 4, by omega⟩
    have u3 : upN (hangN L 1 (-1) 2) 3 = 2 := by rw [upN_g, hgn]; simp [h.n3]
    have u2 : upN (hangN L 1 (-1) 2) 2 = 1 := by rw [upN_g, hgn]; simp [h.n2]
    rw [aboveN, aboveF_ab, hn] at hx
    simp [ab, u3, u2] at hx
  · obtain ⟨k, hk⟩ := List.getElem?_of_mem hn
    have e := gN_nat hk
    rw [hgn] at e
    have e2 : n.attrs = (gN L k).attrs := by rw [← e]
    rw [e2]
    by_cases hkl : k < L.length
    · exact h.at_ _ (List.mem_of_getElem? (gN_some hkl))
    · rw [gN_none (by omega)]; rfl
end Go.Vk
end
section
set_option linter.unusedSimpArgs false
set_option linter.unusedVariables false
namespace Go.Vk
/-- other memory of our own changes -/
theorem At.app {G Q : Nat → Prop} {w0 w w' : World} {P : Nat → Prop} {pa : Nat} {L : List Nd} (h : At w0 w P pa L) (hu : Upd G w w') (hG : ∀ b, b < w.heap.size → G b → P b ∧ w0.heap.size ≤ b) (hQ : ∀ b, Q b → P b ∨ (w.heap.size ≤ b ∧ b < w'.heap.size)) : At w0 w' Q pa L := by
  have hs := hu.alike.size
  have h1 := h.ar.mono (G := fun b => AF w0 P b ∧ b < w.heap.size) fun b hl hf => ⟨hf, hl⟩
  have h2 := h1.frame hu fun b hf hg => hf.1.2 (hG b hf.2 hg).1
  refine ⟨h2.mono fun b _ hf => ⟨hf.1.1, fun hq => ?_⟩, h.gd, Upd.trans h.ext hu fun i hi hg => ?_, fun b hb => ?_⟩
  · rcases hQ b hq with hp | hp
    · exact hf.1.2 hp
    · have := hf.2; omega
  · have h0 := h.ext.alike.size
    have := (hG i (by omega) hg).2; omega
  · rcases hQ b hb with hp | hp
    · have := h.low b hp; omega
    · exact hp.2
end Go.Vk
end
section
set_option linter.unusedSimpArgs false
set_option linter.unusedVariables false
namespace Go.Vk
open Go
theorem fill30 (k : Int) (s t : ByteArray) (sp : Int) (a : Option Addr) (n c : Nat) (d : Bool) (p f o : Int) :
    Instr.fill (#[(0,1),(1,1),(2,1),(3,1),(4,1),(5,1),(6,1),(7,1),(8,1),(9,1),(10,1)][·]?) #[.int .i64 0, .string ⟨#[]⟩, .string ⟨#[]⟩, .int .i64 0, .slice none 0 0, .bool false, .int .i64 0, .int .i64 0, .slice none 0 0, .int .i64 0, .int .i64 0]
      [(0, .int .i64 k), (1, .string s), (2, .string t), (3, .int .i64 sp), (4, .slice a n c), (5, .bool d), (6, .int .i64 p), (9, .int .i64 f), (10, .int .i64 o)] = some #[.int .i64 k, .string s, .string t, .int .i64 sp, .slice a n c, .bool d, .int .i64 p, .int .i64 0, .slice none 0 0, .int .i64 f, .int .i64 o] := by
  simp [Instr.fill, Value.cells]
end Go.Vk
namespace Go.Proofs.YtkafpameheohdaaDoor
open Go Go.Vk
set_option maxHeartbeats 40000000
theorem rkid_c (k : Int) {w : World} : Gives Tryd.prog 75 #[.int .i64 k] w fun v w' => v = .bool (kidK k) ∧ w' = w := by
  unfold kidK
  by_cases h2 : k = 2
  · refine Gives.of_W Tryd.call75 Tryd.func75 rfl Tryd.ntmps75 (by simp) ?_; intro Z hZ
    (repeat (first | (with_reducible first | (refine hK _ _ ?_; clear hK K) | refine (show ∀ σ' w', _ → K σ' w' from by assumption) _ _ ?_ | refine W_seq_k fun K hK => ?_ | refine W_block_k fun K hK => ?_ | refine W_skip ?_ | refine W_ret ?_) | ((first | ((with_reducible refine W_id ?_); refine W_reg (by decide) (by rfl) ?_) | (with_reducible first | refine W_cond ?_ | refine hZ _ _ ?_ | refine W_exit ?_ | refine Wo_id ?_)); repeat1' simp only [push_cast, Nat.reduceBEq, Nat.reduceLT, Nat.reduceEqDiff, reduceIte, reduceCtorEq, Nat.reduceMul, Nat.reduceAdd, Nat.reduceSub, Int.reduceEq, Int.reduceLT, Int.reduceLE, Int.reduceNeg, Int.reduceAdd, Int.reduceSub, Int.reduceMul, Nat.reduceLeDiff, Int.reduceToNat, h2]) | ((repeat ((fail_if_success with_reducible refine hK _ _ ?_); clear hK K)); (with_reducible refine hK _ _ ?_); clear hK K)))
    simp [h2]
  · by_cases h3 : k = 3
    · refine Gives.of_W Tryd.call75 Tryd.func75 rfl Tryd.ntmps75 (by simp) ?_; intro Z hZ
      (repeat (first | (with_reducible first | (refine hK _ _ ?_; clear hK K) | refine (show ∀ σ' w', _ → K σ' w' from by assumption) _ _ ?_ | refine W_seq_k fun K hK => ?_ | refine W_block_k fun K hK => ?_ | refine W_skip ?_ | refine W_ret ?_) | ((first | ((with_reducible refine W_id ?_); refine W_reg (by decide) (by rfl) ?_) | (with_reducible first | refine W_cond ?_ | refine hZ _ _ ?_ | refine W_exit ?_ | refine Wo_id ?_)); repeat1' simp only [push_cast, Nat.reduceBEq, Nat.reduceLT, Nat.reduceEqDiff, reduceIte, reduceCtorEq, Nat.reduceMul, Nat.reduceAdd, Nat.reduceSub, Int.reduceEq, Int.reduceLT, Int.reduceLE, Int.reduceNeg, Int.reduceAdd, Int.reduceSub, Int.reduceMul, Nat.reduceLeDiff, Int.reduceToNat, h2, h3]) | ((repeat ((fail_if_success with_reducible refine hK _ _ ?_); clear hK K)); (with_reducible refine hK _ _ ?_); clear hK K)))
      simp [h3]
    · by_cases h4 : k = 4
      · refine Gives.of_W Tryd.call75 Tryd.func75 rfl Tryd.ntmps75 (by simp) ?_; intro Z hZ
        (repeat (first | (with_reducible first | (refine hK _ _ ?_; clear hK K) | refine (show ∀ σ' w', _ → K σ' w' from by assumption) _ _ ?_ | refine W_seq_k fun K hK => ?_ | refine W_block_k fun K hK => ?_ | refine W_skip ?_ | refine W_ret ?_) | ((first | ((with_reducible refine W_id ?_); refine W_reg (by decide) (by rfl) ?_) | (with_reducible first | refine W_cond ?_ | refine hZ _ _ ?_ | refine W_exit ?_ | refine Wo_id ?_)); repeat1' simp only [push_cast, Nat.reduceBEq, Nat.reduceLT, Nat.reduceEqDiff, reduceIte, reduceCtorEq, Nat.reduceMul, Nat.reduceAdd, Nat.reduceSub, Int.reduceEq, Int.reduceLT, Int.reduceLE, Int.reduceNeg, Int.reduceAdd, Int.reduceSub, Int.reduceMul, Nat.reduceLeDiff, Int.reduceToNat, h2, h3, h4]) | ((repeat ((fail_if_success with_reducible refine hK _ _ ?_); clear hK K)); (with_reducible refine hK _ _ ?_); clear hK K)))
        simp [h4]
      · by_cases h5 : k = 5
        · refine Gives.of_W Tryd.call75 Tryd.func75 rfl Tryd.ntmps75 (by simp) ?_; intro Z hZ
          (repeat (first | (with_reducible first | (refine hK _ _ ?_; clear hK K) | refine (show ∀ σ' w', _ → K σ' w' from by assumption) _ _ ?_ | refine W_seq_k fun K hK => ?_ | refine W_block_k fun K hK => ?_ | refine W_skip ?_ | refine W_ret ?_) | ((first | ((with_reducible refine W_id ?_); refine W_reg (by decide) (by rfl) ?_) | (with_reducible first | refine W_cond ?_ | refine hZ _ _ ?_ | refine W_exit ?_ | refine Wo_id ?_)); repeat1' simp only [push_cast, Nat.reduceBEq, Nat.reduceLT, Nat.reduceEqDiff, reduceIte, reduceCtorEq, Nat.reduceMul, Nat.reduceAdd, Nat.reduceSub, Int.reduceEq, Int.reduceLT, Int.reduceLE, Int.reduceNeg, Int.reduceAdd, Int.reduceSub, Int.reduceMul, Nat.reduceLeDiff, Int.reduceToNat, h2, h3, h4, h5]) | ((repeat ((fail_if_success with_reducible refine hK _ _ ?_); clear hK K)); (with_reducible refine hK _ _ ?_); clear hK K)))
          simp [h5]
        · refine Gives.of_W Tryd.call75 Tryd.func75 rfl Tryd.ntmps75 (by simp) ?_; intro Z hZ
          (repeat (first | (with_reducible first | (refine hK _ _ ?_; clear hK K) | refine (show ∀ σ' w', _ → K σ' w' from by assumption) _ _ ?_ | refine W_seq_k fun K hK => ?_ | refine W_block_k fun K hK => ?_ | refine W_skip ?_ | refine W_ret ?_) | ((first | ((with_reducible refine W_id ?_); refine W_reg (by decide) (by rfl) ?_) | (with_reducible first | refine W_cond ?_ | refine hZ _ _ ?_ | refine W_exit ?_ | refine Wo_id ?_)); repeat1' simp only [push_cast, Nat.reduceBEq, Nat.reduceLT, Nat.reduceEqDiff, reduceIte, reduceCtorEq, Nat.reduceMul, Nat.reduceAdd, Nat.reduceSub, Int.reduceEq, Int.reduceLT, Int.reduceLE, Int.reduceNeg, Int.reduceAdd, Int.reduceSub, Int.reduceMul, Nat.reduceLeDiff, Int.reduceToNat, h2, h3, h4, h5]) | ((repeat ((fail_if_success with_reducible refine hK _ _ ?_); clear hK K)); (with_reducible refine hK _ _ ?_); clear hK K)))
          simp [h2, h3, h4, h5]
theorem rmade_c {w : World} {m : Laid} (h : RdAt w 2 m.av (attrCells m.nd.attrs)) (hb : m.nd.attrs.length < 1000000) :
    Gives Tryd.prog 74 #[m.val] w fun v w' => ∃ m' : Laid, v = m'.val ∧ m'.nd = bareN m.nd ∧ m'.ok w' ∧ Ext w w' ∧ (∀ b ∈ m'.blks, w.heap.size ≤ b) ∧ m'.blks.Nodup ∧ m'.kb = none := by
  rw [Laid.val_eq]
  refine Gives.of_W Tryd.call74 Tryd.func74 rfl Tryd.ntmps74 (by simp) ?_; intro Z hZ
  (repeat (first | (with_reducible first | (refine hK _ _ ?_; clear hK K) | refine (show ∀ σ' w', _ → K σ' w' from by assumption) _ _ ?_ | refine W_seq_k fun K hK => ?_ | refine W_block_k fun K hK => ?_ | refine W_skip ?_ | refine W_ret ?_) | ((first | ((with_reducible refine W_id ?_); refine W_reg (by decide) (by rfl) ?_) | (with_reducible first | refine W_cond ?_ | refine hZ _ _ ?_ | refine W_exit ?_ | refine Wo_id ?_)); repeat1' simp only [push_cast, Nat.reduceBEq, Nat.reduceLT, Nat.reduceEqDiff, reduceIte, reduceCtorEq, Nat.reduceMul, Nat.reduceAdd, Nat.reduceSub, Int.reduceEq, Int.reduceLT, Int.reduceLE, Int.reduceNeg, Int.reduceAdd, Int.reduceSub, Int.reduceMul, Nat.reduceLeDiff, Int.reduceToNat, RunV_zero Tryd.zeroValue49, vcells_agg, size_alloc_h]) | ((repeat ((fail_if_success with_reducible refine hK _ _ ?_); clear hK K)); (with_reducible refine hK _ _ ?_); clear hK K)))
  have hx1 : Ext w ((w.alloc (.cells #[.int .i64 m.nd.kind, .string m.nd.name, .string m.nd.text, .int .i64 m.nd.space, m.av, .bool m.nd.dup, .int .i64 m.nd.parent, .int .i64 m.nd.content, m.kv, .int .i64 m.nd.frm, .int .i64 m.nd.to] 49)).alloc (.cells #[.int .i64 0, .string ⟨#[]⟩, .string ⟨#[]⟩, .int .i64 0, .slice none 0 0, .bool false, .int .i64 0, .int .i64 0, .slice none 0 0, .int .i64 0, .int .i64 0] 49)) := (Ext.alloc _ _).trans (Ext.alloc _ _)
  have c1 : ((w.alloc (.cells #[.int .i64 m.nd.kind, .string m.nd.name, .string m.nd.text, .int .i64 m.nd.space, m.av, .bool m.nd.dup, .int .i64 m.nd.parent, .int .i64 m.nd.content, m.kv, .int .i64 m.nd.frm, .int .i64 m.nd.to] 49)).alloc (.cells #[.int .i64 0, .string ⟨#[]⟩, .string ⟨#[]⟩, .int .i64 0, .slice none 0 0, .bool false, .int .i64 0, .int .i64 0, .slice none 0 0, .int .i64 0, .int .i64 0] 49)).heap[w.heap.size]? = some (.cells #[.int .i64 m.nd.kind, .string m.nd.name, .string m.nd.text, .int .i64 m.nd.space, m.av, .bool m.nd.dup, .int .i64 m.nd.parent, .int .i64 m.nd.content, m.kv, .int .i64 m.nd.frm, .int .i64 m.nd.to] 49 (0, 0)) := by
    rw [heap_alloc_h, if_neg (by rw [size_alloc_h]; omega), heap_alloc_h, if_pos rfl]
  have c2 : ((w.alloc (.cells #[.int .i64 m.nd.kind, .string m.nd.name, .string m.nd.text, .int .i64 m.nd.space, m.av, .bool m.nd.dup, .int .i64 m.nd.parent, .int .i64 m.nd.content, m.kv, .int .i64 m.nd.frm, .int .i64 m.nd.to] 49)).alloc (.cells #[.int .i64 0, .string ⟨#[]⟩, .string ⟨#[]⟩, .int .i64 0, .slice none 0 0, .bool false, .int .i64 0, .int .i64 0, .slice none 0 0, .int .i64 0, .int .i64 0] 49)).heap[w.heap.size + 1]? = some (.cells #[.int .i64 0, .string ⟨#[]⟩, .string ⟨#[]⟩, .int .i64 0, .slice none 0 0, .bool false, .int .i64 0, .int .i64 0, .slice none 0 0, .int .i64 0, .int .i64 0] 49 (0, 0)) := by
    rw [heap_alloc_h, if_pos (by rw [size_alloc_h])]
  generalize (w.alloc (.cells #[.int .i64 m.nd.kind, .string m.nd.name, .string m.nd.text, .int .i64 m.nd.space, m.av, .bool m.nd.dup, .int .i64 m.nd.parent, .int .i64 m.nd.content, m.kv, .int .i64 m.nd.frm, .int .i64 m.nd.to] 49)).alloc (.cells #[.int .i64 0, .string ⟨#[]⟩, .string ⟨#[]⟩, .int .i64 0, .slice none 0 0, .bool false, .int .i64 0, .int .i64 0, .slice none 0 0, .int .i64 0, .int .i64 0] 49) = w1 at *
  have d1 := (Ext.drew w1).blk c1
  have d2 := (Ext.drew w1).blk c2
  have hxd := hx1.trans (Ext.drew w1)
  refine W_draw (.pas 0 (.pas 1 (.pas 2 (.pas 3 (.pas 4 (.pas 5 (.pas 6 (.pas 7 (.pas 8 (.pas 9 (.pas 11 (.pas 12 (.pas 13 (.pas 14 (.pas 15 (.pas 16 (.act 10 (.pas 17 (.last 18))))))))))))))))))) (fun b => b = w.heap.size) (by decide) mixed (by kernel_rfl) ?_
  generalize w1.drew = w2 at *
  have hl1 := blk_lt d1
  have hl2 := blk_lt d2
  (repeat (first | ((first | refine pas_plain rfl ?_ | refine pas_g rfl rfl ?_ | refine act_plain rfl ?_ | refine act_g rfl rfl ?_ | refine last_plain rfl ?_ | refine tail_plain rfl ?_ | refine tail_g rfl rfl ?_); (repeat simp only [push_cast, Nat.reduceBEq, Nat.reduceLT, Nat.reduceEqDiff, reduceIte, reduceCtorEq, Nat.reduceMul, Nat.reduceAdd, Nat.reduceSub, Int.reduceEq, Int.reduceLT, Int.reduceLE, Int.reduceNeg, Int.reduceAdd, Int.reduceSub, Int.reduceMul, Nat.reduceLeDiff, Int.reduceToNat, cell_h, d1, cellO_cells, eq_self])) | (refine tail_fin ?_) | (refine sch_fin ?_)))
  refine app_to_rd sty27 sty27.und (by decide) (SlAt.nil _ _) (h.ext hxd) (attrCells_one _) (by rw [attrCells_length]; simp; omega) ?_
  intro v w3 bo g1 g2 g3
  rw [List.nil_append] at g1
  refine ⟨kept_upd g2 fun b hb => ⟨by have : b = w.heap.size := hb; omega, fun e => by cases e⟩, ?_⟩
  have hx3 : Ext w2 w3 := g2.mono fun b _ e => by cases e
  have d3 := hx3.blk d2
  obtain ⟨va, vn, vc, rfl, _, _⟩ := g1.len
  (repeat (first | ((first | refine pas_plain rfl ?_ | refine pas_g rfl rfl ?_ | refine act_plain rfl ?_ | refine act_g rfl rfl ?_ | refine last_plain rfl ?_ | refine tail_plain rfl ?_ | refine tail_g rfl rfl ?_); (repeat simp only [push_cast, Nat.reduceBEq, Nat.reduceLT, Nat.reduceEqDiff, reduceIte, reduceCtorEq, Nat.reduceMul, Nat.reduceAdd, Nat.reduceSub, Int.reduceEq, Int.reduceLT, Int.reduceLE, Int.reduceNeg, Int.reduceAdd, Int.reduceSub, Int.reduceMul, Nat.reduceLeDiff, Int.reduceToNat, cell_h, d1, cellO_cells, eq_self])) | (refine tail_fin ?_) | (refine sch_fin ?_)))
  refine build_struct Tryd.zeroValue49 un30 pl30 (cs := #[.int .i64 m.nd.kind, .string m.nd.name, .string m.nd.text, .int .i64 m.nd.space, .slice va vn vc, .bool m.nd.dup, .int .i64 (-1), .int .i64 0, .slice none 0 0, .int .i64 m.nd.frm, .int .i64 m.nd.to]) (fill30 _ _ _ _ _ _ _ _ _ _ _) ?_
  (repeat (first | ((first | refine pas_plain rfl ?_ | refine pas_g rfl rfl ?_ | refine act_plain rfl ?_ | refine act_g rfl rfl ?_ | refine last_plain rfl ?_ | refine tail_plain rfl ?_ | refine tail_g rfl rfl ?_); (repeat simp only [push_cast, Nat.reduceBEq, Nat.reduceLT, Nat.reduceEqDiff, reduceIte, reduceCtorEq, Nat.reduceMul, Nat.reduceAdd, Nat.reduceSub, Int.reduceEq, Int.reduceLT, Int.reduceLE, Int.reduceNeg, Int.reduceAdd, Int.reduceSub, Int.reduceMul, Nat.reduceLeDiff, Int.reduceToNat, cell_h, d1, cellO_cells, eq_self])) | (refine tail_fin ?_) | (refine sch_fin ?_)))
  simp only [can_h, d3, canO_cells, List.size_toArray, List.length_cons, List.length_nil, Nat.zero_add, Nat.reduceAdd, Nat.reduceLT, true_and]
  have hp4 := setCells_all d3 (l := [.int .i64 m.nd.kind, .string m.nd.name, .string m.nd.text, .int .i64 m.nd.space, .slice va vn vc, .bool m.nd.dup, .int .i64 (-1), .int .i64 0, .slice none 0 0, .int .i64 m.nd.frm, .int .i64 m.nd.to]) rfl
  have hu4 := Upd.setCells (F := fun b => b = w.heap.size + 1) (a := ⟨w.heap.size + 1, 0, none⟩) w3 rfl [.int .i64 m.nd.kind, .string m.nd.name, .string m.nd.text, .int .i64 m.nd.space, .slice va vn vc, .bool m.nd.dup, .int .i64 (-1), .int .i64 0, .slice none 0 0, .int .i64 m.nd.frm, .int .i64 m.nd.to] 0
  generalize setCells w3 ⟨w.heap.size + 1, 0, none⟩ [.int .i64 m.nd.kind, .string m.nd.name, .string m.nd.text, .int .i64 m.nd.space, .slice va vn vc, .bool m.nd.dup, .int .i64 (-1), .int .i64 0, .slice none 0 0, .int .i64 m.nd.frm, .int .i64 m.nd.to] 0 = w4 at *
  ((repeat simp only [push_cast, Nat.reduceBEq, Nat.reduceLT, Nat.reduceEqDiff, reduceIte, reduceCtorEq, Nat.reduceMul, Nat.reduceAdd, Nat.reduceSub, Int.reduceEq, Int.reduceLT, Int.reduceLE, Int.reduceNeg, Int.reduceAdd, Int.reduceSub, Int.reduceMul, Nat.reduceLeDiff, Int.reduceToNat, cell_h, hp4, cellO_cells]); (repeat (first | (with_reducible first | (refine hK _ _ ?_; clear hK K) | refine (show ∀ σ' w', _ → K σ' w' from by assumption) _ _ ?_ | refine W_seq_k fun K hK => ?_ | refine W_block_k fun K hK => ?_ | refine W_skip ?_ | refine W_ret ?_) | ((first | ((with_reducible refine W_id ?_); refine W_reg (by decide) (by rfl) ?_) | (with_reducible first | refine W_cond ?_ | refine hZ _ _ ?_ | refine W_exit ?_ | refine Wo_id ?_)); repeat1' simp only [push_cast, Nat.reduceBEq, Nat.reduceLT, Nat.reduceEqDiff, reduceIte, reduceCtorEq, Nat.reduceMul, Nat.reduceAdd, Nat.reduceSub, Int.reduceEq, Int.reduceLT, Int.reduceLE, Int.reduceNeg, Int.reduceAdd, Int.reduceSub, Int.reduceMul, Nat.reduceLeDiff, Int.reduceToNat, cell_h, hp4, cellO_cells]) | ((repeat ((fail_if_success with_reducible refine hK _ _ ?_); clear hK K)); (with_reducible refine hK _ _ ?_); clear hK K))))
  have hx4 : Ext w w4 := Upd.trans (hxd.trans hx3) hu4 fun i hi e => by omega
  refine ⟨⟨bareN m.nd, .slice va vn vc, .slice none 0 0, bo, none⟩, rfl, rfl, ⟨g1.upd hu4 fun b hb e => ?_, SlAt.nil _ _⟩, hx4, fun b hb => ?_, ?_, rfl⟩
  · rcases g3 b hb with h1 | h1
    · cases h1
    · omega
  · simp only [Laid.blks, Option.toList_none, List.append_nil, Option.mem_toList] at hb
    rcases g3 b hb with h1 | h1
    · cases h1
    · omega
  · cases bo <;> simp [Laid.blks]
theorem pl64 (w : World) : ((fsOf Tryd.prog 108).mapM plOf).run Tryd.prog w = .ok #[(0,1)] w := by
  simp [fsOf, plOf, Tryd.underlying108, Sem.run, Tryd.sizeOf72]
theorem un64 : Tryd.prog.underlying 108 = some (.struct (fsOf Tryd.prog 108)) := by rw [fsOf, Tryd.underlying108]
theorem rnew_c {w : World} :
    Gives Tryd.prog 54 #[] w fun v w' => ∃ pa, v = .pointer (some ⟨pa, 0, none⟩) ∧ Ar w' pa [docN] (fun b => w.heap.size ≤ b) ∧ Ext w w' := by
  refine Gives.of_W Tryd.call54 Tryd.func54 rfl Tryd.ntmps54 (by simp) ?_; intro Z hZ
  (repeat (first | (with_reducible first | (refine hK _ _ ?_; clear hK K) | refine (show ∀ σ' w', _ → K σ' w' from by assumption) _ _ ?_ | refine W_seq_k fun K hK => ?_ | refine W_block_k fun K hK => ?_ | refine W_skip ?_ | refine W_ret ?_) | ((first | ((with_reducible refine W_id ?_); refine W_reg (by decide) (by rfl) ?_) | (with_reducible first | refine W_cond ?_ | refine hZ _ _ ?_ | refine W_exit ?_ | refine Wo_id ?_)); repeat1' simp only [push_cast, Nat.reduceBEq, Nat.reduceLT, Nat.reduceEqDiff, reduceIte, reduceCtorEq, Nat.reduceMul, Nat.reduceAdd, Nat.reduceSub, Int.reduceEq, Int.reduceLT, Int.reduceLE, Int.reduceNeg, Int.reduceAdd, Int.reduceSub, Int.reduceMul, Nat.reduceLeDiff, Int.reduceToNat]) | ((repeat ((fail_if_success with_reducible refine hK _ _ ?_); clear hK K)); (with_reducible refine hK _ _ ?_); clear hK K)))
  refine build_struct Tryd.zeroValue49 un30 pl30 (cs := #[.int .i64 1, .string ⟨#[]⟩, .string ⟨#[]⟩, .int .i64 0, .slice none 0 0, .bool false, .int .i64 0, .int .i64 0, .slice none 0 0, .int .i64 (-1), .int .i64 (-1)]) (by rfl) ?_
  refine (rmade_c (m := ⟨{ zN with kind := 1, frm := -1, to := -1 }, .slice none 0 0, .slice none 0 0, none, none⟩) (SlAt.nil _ _).rd (by decide)).mono ?_
  rintro v w' ⟨m', rfl, h1, h2, h3, h4, h5, h6⟩
  ((repeat simp only [push_cast, Nat.reduceBEq, Nat.reduceLT, Nat.reduceEqDiff, reduceIte, reduceCtorEq, Nat.reduceMul, Nat.reduceAdd, Nat.reduceSub, Int.reduceEq, Int.reduceLT, Int.reduceLE, Int.reduceNeg, Int.reduceAdd, Int.reduceSub, Int.reduceMul, Nat.reduceLeDiff, Int.reduceToNat]); (repeat (first | (with_reducible first | (refine hK _ _ ?_; clear hK K) | refine (show ∀ σ' w', _ → K σ' w' from by assumption) _ _ ?_ | refine W_seq_k fun K hK => ?_ | refine W_block_k fun K hK => ?_ | refine W_skip ?_ | refine W_ret ?_) | ((first | ((with_reducible refine W_id ?_); refine W_reg (by decide) (by rfl) ?_) | (with_reducible first | refine W_cond ?_ | refine hZ _ _ ?_ | refine W_exit ?_ | refine Wo_id ?_)); repeat1' simp only [push_cast, Nat.reduceBEq, Nat.reduceLT, Nat.reduceEqDiff, reduceIte, reduceCtorEq, Nat.reduceMul, Nat.reduceAdd, Nat.reduceSub, Int.reduceEq, Int.reduceLT, Int.reduceLE, Int.reduceNeg, Int.reduceAdd, Int.reduceSub, Int.reduceMul, Nat.reduceLeDiff, Int.reduceToNat]) | ((repeat ((fail_if_success with_reducible refine hK _ _ ?_); clear hK K)); (with_reducible refine hK _ _ ?_); clear hK K))))
  refine bs_one sty39 (by decide) (by decide) (v := m'.val) rfl ?_
  ((repeat simp only [push_cast, Nat.reduceBEq, Nat.reduceLT, Nat.reduceEqDiff, reduceIte, reduceCtorEq, Nat.reduceMul, Nat.reduceAdd, Nat.reduceSub, Int.reduceEq, Int.reduceLT, Int.reduceLE, Int.reduceNeg, Int.reduceAdd, Int.reduceSub, Int.reduceMul, Nat.reduceLeDiff, Int.reduceToNat]); (repeat (first | (with_reducible first | (refine hK _ _ ?_; clear hK K) | refine (show ∀ σ' w', _ → K σ' w' from by assumption) _ _ ?_ | refine W_seq_k fun K hK => ?_ | refine W_block_k fun K hK => ?_ | refine W_skip ?_ | refine W_ret ?_) | ((first | ((with_reducible refine W_id ?_); refine W_reg (by decide) (by rfl) ?_) | (with_reducible first | refine W_cond ?_ | refine hZ _ _ ?_ | refine W_exit ?_ | refine Wo_id ?_)); repeat1' simp only [push_cast, Nat.reduceBEq, Nat.reduceLT, Nat.reduceEqDiff, reduceIte, reduceCtorEq, Nat.reduceMul, Nat.reduceAdd, Nat.reduceSub, Int.reduceEq, Int.reduceLT, Int.reduceLE, Int.reduceNeg, Int.reduceAdd, Int.reduceSub, Int.reduceMul, Nat.reduceLeDiff, Int.reduceToNat]) | ((repeat ((fail_if_success with_reducible refine hK _ _ ?_); clear hK K)); (with_reducible refine hK _ _ ?_); clear hK K))))
  refine build_struct Tryd.zeroValue108 un64 pl64 (cs := #[.slice (some ⟨w'.heap.size, 0, none⟩) 1 1]) (by rfl) ?_
  ((repeat simp only [push_cast, Nat.reduceBEq, Nat.reduceLT, Nat.reduceEqDiff, reduceIte, reduceCtorEq, Nat.reduceMul, Nat.reduceAdd, Nat.reduceSub, Int.reduceEq, Int.reduceLT, Int.reduceLE, Int.reduceNeg, Int.reduceAdd, Int.reduceSub, Int.reduceMul, Nat.reduceLeDiff, Int.reduceToNat, cell_h, can_h, cellO_cells, canO_cells, setO_cells, heap_set_h, heap_alloc_h, size_set_h, size_alloc_h, vcells_agg, succ_ne, ne_succ, List.setIfInBounds_toArray, List.set_cons_succ, List.set_cons_zero, setCells, drew_h]); (repeat (first | (with_reducible first | (refine hK _ _ ?_; clear hK K) | refine (show ∀ σ' w', _ → K σ' w' from by assumption) _ _ ?_ | refine W_seq_k fun K hK => ?_ | refine W_block_k fun K hK => ?_ | refine W_skip ?_ | refine W_ret ?_) | ((first | ((with_reducible refine W_id ?_); refine W_reg (by decide) (by rfl) ?_) | (with_reducible first | refine W_cond ?_ | refine hZ _ _ ?_ | refine W_exit ?_ | refine Wo_id ?_)); repeat1' simp only [push_cast, Nat.reduceBEq, Nat.reduceLT, Nat.reduceEqDiff, reduceIte, reduceCtorEq, Nat.reduceMul, Nat.reduceAdd, Nat.reduceSub, Int.reduceEq, Int.reduceLT, Int.reduceLE, Int.reduceNeg, Int.reduceAdd, Int.reduceSub, Int.reduceMul, Nat.reduceLeDiff, Int.reduceToNat, cell_h, can_h, cellO_cells, canO_cells, setO_cells, heap_set_h, heap_alloc_h, size_set_h, size_alloc_h, vcells_agg, succ_ne, ne_succ, List.setIfInBounds_toArray, List.set_cons_succ, List.set_cons_zero, setCells, drew_h]) | ((repeat ((fail_if_success with_reducible refine hK _ _ ?_); clear hK K)); (with_reducible refine hK _ _ ?_); clear hK K))))
  have hsz := h3.alike.size
  have hx : Ext w' ((w'.alloc (.cells m'.val.cells 49)).alloc (.cells #[.slice (some ⟨w'.heap.size, 0, none⟩) 1 1] 108)) := (Ext.alloc _ _).trans (Ext.alloc _ _)
  refine ⟨w'.heap.size + 1, rfl, ⟨w'.heap.size, 1, [m'], ⟨⟨108, ?_⟩, ?_, ?_, ?_⟩, ?_, ?_⟩, h3.trans hx⟩
  · rw [heap_alloc_h, if_pos (by simp)]; rfl
  · exact (SlAt.new w' 11 m'.val.cells 49 1 rfl).ext (Ext.alloc _ _)
  · intro m hm
    simp only [List.mem_singleton] at hm
    subst hm
    exact h2.upd hx fun _ _ h => h.elim
  · have hb : ∀ b ∈ m'.blks, b < w'.heap.size := fun b hb => h2.lt hb
    simp only [blocks, List.flatMap_cons, List.flatMap_nil, List.append_nil, List.nodup_cons, List.mem_cons, not_or]
    refine ⟨⟨by omega, fun hm => ?_⟩, fun hm => ?_, h5⟩
    · have := hb _ hm; omega
    · have := hb _ hm; omega
  · simp [h1, docN, bareN, zN]
  · intro b hb
    simp only [blocks, List.flatMap_cons, List.flatMap_nil, List.append_nil, List.mem_cons] at hb
    rcases hb with rfl | rfl | hb
    · omega
    · omega
    · exact h4 b hb
end Go.Proofs.YtkafpameheohdaaDoor
end
