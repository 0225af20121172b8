/- Two parents and their kids: what Append and Move make of them. No program in sight. -/
import Derived.Test.YtkafpameheohdaaSo
set_option linter.unusedSimpArgs false
set_option linter.unusedVariables false
namespace Go.Vk
structure MvS (L : List Nd) (N : Nat) (pk ck : List Int) : Prop where
  gd : Gd L
  len : L.length = N
  big : 4 ≤ N
  k1 : (gN L 1).kids = pk
  k3 : (gN L 3).kids = ck
  n1 : (gN L 1).kind = 3
  n2 : (gN L 2).kind = 3
  n3 : (gN L 3).kind = 6
  p1 : (gN L 1).parent = -1
  p2 : (gN L 2).parent = -1
  c2 : (gN L 2).content = 3
  at_ : ∀ n ∈ L, n.attrs = []
theorem MvS.p3 {L : List Nd} {N : Nat} {pk ck : List Int} (h : MvS L N pk ck) : (gN L 3).parent = -1 := by
  have h1 := h.gd.low 3
  have h2 := h.gd.knd 3
  rw [h.n3] at h2
  by_cases hp : 0 ≤ (gN L 3).parent
  · have := h2 hp; simp [kidK] at this
  · omega
theorem MvS.up1 {L : List Nd} {N : Nat} {pk ck : List Int} (h : MvS L N pk ck) : upN L 1 = -1 := by rw [upN_g, h.n1, h.p1]; decide
theorem MvS.up2 {L : List Nd} {N : Nat} {pk ck : List Int} (h : MvS L N pk ck) : upN L 2 = -1 := by rw [upN_g, h.n2, h.p2]; decide
theorem MvS.up3 {L : List Nd} {N : Nat} {pk ck : List Int} (h : MvS L N pk ck) : upN L 3 = 2 := by rw [upN_g, h.n3, if_pos rfl]; rfl
/-- who stands above the two -/
theorem MvS.above1 {L : List Nd} {N : Nat} {pk ck : List Int} (h : MvS L N pk ck) (i : Int) : aboveN L i 1 = decide (1 = i) := by
  obtain ⟨n, hn⟩ : ∃ n, L.length = n + 4 := ⟨L.length - 4, by have := h.len; have := h.big; omega⟩
  rw [aboveN, aboveF_ab, hn]
  simp [ab, h.up1]
theorem MvS.above3 {L : List Nd} {N : Nat} {pk ck : List Int} (h : MvS L N pk ck) (i : Int) : aboveN L i 3 = (decide (3 = i) || decide (2 = i)) := by
  obtain ⟨n, hn⟩ : ∃ n, L.length = n + 4 := ⟨L.length - 4, by have := h.len; have := h.big; omega⟩
  rw [aboveN, aboveF_ab, hn]
  simp [ab, h.up3, h.up2]
theorem addK_neg (i : Int) (l : List Int) : addK (-1) i l = l ++ [i] := by simp [addK]
/-- a node is hung that was nobody's kid, or another one's -/
theorem MvS.hang {L : List Nd} {N : Nat} {pk ck : List Int} (h : MvS L N pk ck) {i p : Nat} (hi : 4 ≤ i) (hil : i < N) (hp : p = 1 ∨ p = 3) (hg : Gd (hangN L p (-1) i)) :
    MvS (hangN L p (-1) i) N (if p = 1 then pk.erase i ++ [(i : Int)] else pk.erase i) (if p = 3 then ck.erase i ++ [(i : Int)] else ck.erase i) := by
  have hl := h.len
  have hb := h.big
  have hgn := gN_hang h.gd (i := i) (p := p) (by omega) (by omega) (-1)
  have ne : ∀ t : Int, t < 4 → ¬ t = (i : Int) := fun t ht => by omega
  refine ⟨hg, by rw [hangN_len]; exact hl, hb, ?_, ?_, ?_, ?_, ?_, ?_, ?_, ?_, fun n hn => ?_⟩
  · rw [hgn]
    show (if (1 : Int) = (p : Nat) then addK (-1) i ((gN L 1).kids.erase i) else (gN L 1).kids.erase i) = _
    rw [h.k1, addK_neg]
    rcases hp with rfl | rfl
    · rw [if_pos rfl]; exact if_pos rfl
    · rw [if_neg (by decide), if_neg (by decide)]
  · rw [hgn]
    show (if (3 : Int) = (p : Nat) then addK (-1) i ((gN L 3).kids.erase i) else (gN L 3).kids.erase i) = _
    rw [h.k3, addK_neg]
    rcases hp with rfl | rfl
    · rw [if_neg (by decide), if_neg (by decide)]
    · rw [if_pos rfl]; exact if_pos rfl
  · rw [hgn]; exact h.n1
  · rw [hgn]; exact h.n2
  · rw [hgn]; exact h.n3
  · rw [hgn]; simp only [if_neg (ne 1 (by decide))]; exact h.p1
  · rw [hgn]; simp only [if_neg (ne 2 (by decide))]; exact h.p2
  · rw [hgn]; exact h.c2
  · obtain ⟨k, hk⟩ := List.getElem?_of_mem hn
    have e := gN_nat hk
    rw [hgn] at e
    have e2 : n.attrs = (gN L k).attrs := by rw [← e]
    rw [e2]
    by_cases hkl : k < L.length
    · exact h.at_ _ (List.mem_of_getElem? (gN_some hkl))
    · rw [gN_none (by omega)]; rfl
theorem MvS.push {L : List Nd} {N : Nat} {pk ck : List Int} (h : MvS L N pk ck) {n : Nd} (hp : n.parent = -1) (hk : n.kids = []) (ha : n.attrs = []) (h1 : n.kind ≠ 1) : MvS (L ++ [n]) (N + 1) pk ck := by
  have hl := h.len
  have hb := h.big
  have ne : ∀ t : Int, t < 4 → gN (L ++ [n]) t = gN L t := fun t ht => by rw [gN_push, if_neg (by omega)]
  refine ⟨h.gd.push hp hk h1, by simp [hl], by omega, ?_, ?_, ?_, ?_, ?_, ?_, ?_, ?_, fun m hm => ?_⟩
  · rw [ne 1 (by decide)]; exact h.k1
  · rw [ne 3 (by decide)]; exact h.k3
  · rw [ne 1 (by decide)]; exact h.n1
  · rw [ne 2 (by decide)]; exact h.n2
  · rw [ne 3 (by decide)]; exact h.n3
  · rw [ne 1 (by decide)]; exact h.p1
  · rw [ne 2 (by decide)]; exact h.p2
  · rw [ne 2 (by decide)]; exact h.c2
  · simp only [List.mem_append, List.mem_singleton] at hm
    rcases hm with hm | rfl
    · exact h.at_ m hm
    · exact ha
/-- a new node behind the kids of one of the two -/
theorem MvS.add {L : List Nd} {N : Nat} {pk ck : List Int} (h : MvS L N pk ck) {n : Nd} (hk : kidK n.kind = true) (hp : n.parent = -1) (hks : n.kids = []) (ha : n.attrs = []) {p : Nat} (hp2 : p = 1 ∨ p = 3) :
    ∃ L', appendN (L ++ [n]) p N = (L', 0) ∧ MvS L' (N + 1) (if p = 1 then pk ++ [(N : Int)] else pk) (if p = 3 then ck ++ [(N : Int)] else ck) := by
  have hl := h.len
  have hb := h.big
  have h' := h.push hp hks ha (kidK_one hk)
  have hh : holdsN (L ++ [n]) p = true := by
    rw [holdsN_g]
    rcases hp2 with rfl | rfl
    · show holdK (gN (L ++ [n]) 1).kind = true; rw [h'.n1]; decide
    · show holdK (gN (L ++ [n]) 3).kind = true; rw [h'.n3]; decide
  have hn : hangsN (L ++ [n]) N = true := by rw [hangsN_g, gN_push, if_pos (by omega)]; exact hk
  have hab : aboveN (L ++ [n]) N p = false := by
    rcases hp2 with rfl | rfl
    · show aboveN (L ++ [n]) N 1 = false
      rw [h'.above1]; simp; omega
    · show aboveN (L ++ [n]) N 3 = false
      rw [h'.above3]; simp; omega
  have e : appendN (L ++ [n]) p N = (hangN (L ++ [n]) p (-1) N, 0) := by
    unfold appendN
    rw [if_pos ⟨hh, hn, hab⟩]
    simp
  refine ⟨_, e, ?_⟩
  have hg : Gd (hangN (L ++ [n]) p (-1) N) := by have := Go.Proofs.Ytkafpameheohdaa.append_gd h'.gd p N; rw [e] at this; exact this
  have := h'.hang (i := N) (p := p) hb (by omega) hp2 hg
  have e1 : pk.erase (N : Int) = pk := List.erase_of_not_mem fun hm => by
    rw [← h.k1] at hm
    have := (h.gd.range (j := (N : Int)) (by have := (h.gd.kid 1 N).1 hm; omega)).1; omega
  have e2 : ck.erase (N : Int) = ck := List.erase_of_not_mem fun hm => by
    rw [← h.k3] at hm
    have := (h.gd.range (j := (N : Int)) (by have := (h.gd.kid 3 N).1 hm; omega)).1; omega
  rw [e1, e2] at this
  exact this
/-- all kids of one behind those of the other one -/
theorem MvS.hangAll13 {N : Nat} : ∀ {l : List Int} {L : List Nd} {ck : List Int}, MvS L N l ck → Mv N 1 (3 : Nat) l L → (∀ j ∈ l, 4 ≤ j) → MvS (hangAll 3 l L) N [] (ck ++ l)
  | [], L, ck, h, _, _ => by simpa [hangAll] using h
  | j :: l, L, ck, h, hm, h4 => by
    obtain ⟨i, rfl, hil, hbl, hne, hm'⟩ := hm.head
    have hi4 : 4 ≤ i := by have := h4 i (by simp); omega
    have hs := h.hang (i := i) (p := 3) hi4 (by have := h.len; omega) (.inr rfl) hm'.gd
    have hnot : ¬ (i : Int) ∈ ck := fun hin => by
      have h1 := hm.par i (by simp)
      rw [← h.k3] at hin
      have := (h.gd.kid 3 i).1 hin; omega
    rw [if_neg (by decide), if_pos rfl, List.erase_cons_head, List.erase_of_not_mem hnot] at hs
    have := MvS.hangAll13 hs hm' fun j hj => h4 j (by simp [hj])
    simpa [hangAll] using this
theorem MvS.hangAll31 {N : Nat} : ∀ {l : List Int} {L : List Nd} {pk : List Int}, MvS L N pk l → Mv N 3 (1 : Nat) l L → (∀ j ∈ l, 4 ≤ j) → MvS (hangAll 1 l L) N (pk ++ l) []
  | [], L, pk, h, _, _ => by simpa [hangAll] using h
  | j :: l, L, pk, h, hm, h4 => by
    obtain ⟨i, rfl, hil, hbl, hne, hm'⟩ := hm.head
    have hi4 : 4 ≤ i := by have := h4 i (by simp); omega
    have hs := h.hang (i := i) (p := 1) hi4 (by have := h.len; omega) (.inl rfl) hm'.gd
    have hnot : ¬ (i : Int) ∈ pk := fun hin => by
      have h1 := hm.par i (by simp)
      rw [← h.k1] at hin
      have := (h.gd.kid 1 i).1 hin; omega
    rw [if_pos rfl, if_neg (by decide), List.erase_cons_head, List.erase_of_not_mem hnot] at hs
    have := MvS.hangAll31 hs hm' fun j hj => h4 j (by simp [hj])
    simpa [hangAll] using this
theorem MvS.low4 {L : List Nd} {N : Nat} {pk ck : List Int} (h : MvS L N pk ck) : (∀ j ∈ pk, 4 ≤ j) ∧ ∀ j ∈ ck, 4 ≤ j := by
  have key : ∀ (t j : Int), j ∈ (gN L t).kids → 4 ≤ j := fun t j hj => by
    obtain ⟨h0, hp⟩ := (h.gd.kid t j).1 hj
    have hr := (h.gd.range (j := j) (by omega)).1
    have hd : j ≠ 0 := fun e => by
      subst e
      have := h.gd.knd 0 (by omega)
      rw [h.gd.doc] at this; simp [kidK] at this
    have h1 : j ≠ 1 := fun e => by subst e; rw [h.p1] at hp; omega
    have h2 : j ≠ 2 := fun e => by subst e; rw [h.p2] at hp; omega
    have h3 : j ≠ 3 := fun e => by subst e; rw [h.p3] at hp; omega
    omega
  exact ⟨fun j hj => key 1 j (by rw [h.k1]; exact hj), fun j hj => key 3 j (by rw [h.k3]; exact hj)⟩
theorem MvS.holds {L : List Nd} {N : Nat} {pk ck : List Int} (h : MvS L N pk ck) : holdsN L 1 = true ∧ holdsN L 3 = true := by
  refine ⟨?_, ?_⟩
  · rw [holdsN_g, h.n1]; decide
  · rw [holdsN_g, h.n3]; decide
theorem MvS.move13 {L : List Nd} {N : Nat} {pk ck : List Int} (h : MvS L N pk ck) : ∃ L', moveN L 1 3 = (L', 0) ∧ MvS L' N [] (ck ++ pk) := by
  have hb := h.big
  have hab : aboveN L 1 3 = false := by rw [h.above3]; decide
  refine ⟨_, if_pos ⟨h.holds.1, h.holds.2, hab⟩, ?_⟩
  have hm := Mv.of h.gd (a := 1) (b := 3) (by decide) (by have := h.len; omega) hab
  rw [h.len] at hm
  rw [h.k1] at hm ⊢
  exact h.hangAll13 hm h.low4.1
theorem MvS.move31 {L : List Nd} {N : Nat} {pk ck : List Int} (h : MvS L N pk ck) : ∃ L', moveN L 3 1 = (L', 0) ∧ MvS L' N (pk ++ ck) [] := by
  have hb := h.big
  have hab : aboveN L 3 1 = false := by rw [h.above1]; decide
  refine ⟨_, if_pos ⟨h.holds.2, h.holds.1, hab⟩, ?_⟩
  have hm := Mv.of h.gd (a := 3) (b := 1) (by decide) (by have := h.len; omega) hab
  rw [h.len] at hm
  rw [h.k3] at hm ⊢
  exact h.hangAll31 hm h.low4.2
theorem MvS.move11 {L : List Nd} {N : Nat} {pk ck : List Int} (h : MvS L N pk ck) : moveN L 1 1 = (L, 2) := by
  refine if_neg fun hh => ?_
  rw [h.above1] at hh
  simp at hh
/-- the template among the kids: then its content stands below them -/
theorem MvS.last {L : List Nd} {N : Nat} {pk ck : List Int} (h : MvS L N pk ck) : ∃ L', appendN L 1 2 = (L', 0) ∧ moveN L' 1 3 = (L', 2) ∧ Gd L' ∧ L'.length = N ∧ ∀ n ∈ L', n.attrs = [] := by
  have hb := h.big
  have hl := h.len
  have hh : hangsN L 2 = true := by rw [hangsN_g, h.n2]; decide
  have hab : aboveN L 2 1 = false := by rw [h.above1]; decide
  have e : appendN L 1 2 = (hangN L 1 (-1) 2, 0) := if_pos ⟨h.holds.1, hh, hab⟩
  have hg : Gd (hangN L 1 (-1) 2) := by have := Go.Proofs.Ytkafpameheohdaa.append_gd h.gd 1 2; rw [e] at this; exact this
  have hgn := gN_hang h.gd (i := 2) (p := 1) (by omega) (by omega) (-1)
  have hlen : (hangN L 1 (-1) 2).length = N := by rw [hangN_len]; exact hl
  refine ⟨_, e, if_neg fun hx => ?_, hg, hlen, fun n hn => ?_⟩
  · have hx := hx.2.2
    obtain ⟨n, hn⟩ : ∃ n, (hangN L 1 (-1) 2).length = n + 4 := ⟨N - 4, by omega⟩
    have u3 : upN (hangN L 1 (-1) 2) 3 = 2 := by rw [upN_g, hgn]; simp [h.n3]
    have u2 : upN (hangN L 1 (-1) 2) 2 = 1 := by rw [upN_g, hgn]; simp [h.n2]
    rw [aboveN, aboveF_ab, hn] at hx
    simp [ab, u3, u2] at hx
  · obtain ⟨k, hk⟩ := List.getElem?_of_mem hn
    have e := gN_nat hk
    rw [hgn] at e
    have e2 : n.attrs = (gN L k).attrs := by rw [← e]
    rw [e2]
    by_cases hkl : k < L.length
    · exact h.at_ _ (List.mem_of_getElem? (gN_some hkl))
    · rw [gN_none (by omega)]; rfl
def ms1 : List Nd := (addN [docN] (elN ⟨#[112]⟩)).1
def ms2 : List Nd := (addN ms1 (elN tmpl)).1
theorem ms1_e : addN [docN] (elN ⟨#[112]⟩) = (ms1, 1) := Prod.ext rfl rfl
theorem ms2_e : addN ms1 (elN tmpl) = (ms2, 2) := Prod.ext rfl (by rfl)
theorem ms2_s : MvS ms2 4 [] [] := by
  have h1 : Gd ms1 := add_gd docN_gd _
  refine ⟨add_gd h1 _, rfl, Nat.le_refl _, rfl, rfl, rfl, rfl, rfl, rfl, rfl, rfl, by decide⟩
def from4 (a k : Nat) : List Int := (List.range k).map fun i => ((a + i : Nat) : Int)
theorem from4_succ (a k : Nat) : from4 a (k + 1) = from4 a k ++ [((a + k : Nat) : Int)] := by simp [from4, List.range_succ]
theorem from4_len (a k : Nat) : (from4 a k).length = k := by simp [from4]
end Go.Vk
