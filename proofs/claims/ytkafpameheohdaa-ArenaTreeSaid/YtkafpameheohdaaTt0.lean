/- What acts leave as it was. No program in sight. -/
import Derived.Test.YtkafpameheohdaaMo
import Derived.Test.YtkafpameheohdaaDo
set_option linter.unusedSimpArgs false
set_option linter.unusedVariables false
namespace Go.Vk
def doneN (L : List Nd) (x : ActD) : List Nd × Int :=
  if x.kd.tmod 11 = 3 ∨ x.kd.tmod 11 = 4 then appendN L x.i x.j else if x.kd.tmod 11 = 5 then beforeN L x.i x.j else if x.kd.tmod 11 = 6 then detachN L x.i else if x.kd.tmod 11 = 7 then moveN L x.i x.j
  else if x.kd.tmod 11 = 8 ∨ x.kd.tmod 11 = 9 then textN L x.i x.j x.m.nd.text else if x.kd.tmod 11 = 10 then moreN L x.i x.m.nd.attrs else addN L x.m.nd
/-- the same nodes, but for who hangs where -/
structure Tk (L L' : List Nd) : Prop where
  len : L'.length = L.length
  kind : ∀ t, (gN L' t).kind = (gN L t).kind
  name : ∀ t, (gN L' t).name = (gN L t).name
  cont : ∀ t, (gN L' t).content = (gN L t).content
  text : ∀ t, (gN L' t).text = (gN L t).text
  attrs : ∀ t, (gN L' t).attrs = (gN L t).attrs
theorem Tk.refl (L : List Nd) : Tk L L := ⟨rfl, fun _ => rfl, fun _ => rfl, fun _ => rfl, fun _ => rfl, fun _ => rfl⟩
theorem Tk.trans {A B C : List Nd} (h : Tk A B) (k : Tk B C) : Tk A C :=
  ⟨k.len.trans h.len, fun t => (k.kind t).trans (h.kind t), fun t => (k.name t).trans (h.name t), fun t => (k.cont t).trans (h.cont t), fun t => (k.text t).trans (h.text t), fun t => (k.attrs t).trans (h.attrs t)⟩
theorem Tk.hang {L : List Nd} (h : Gd L) {i p : Nat} (hi : i < L.length) (hp : p < L.length) (r : Int) : Tk L (hangN L p r i) := by
  have hg := gN_hang h hi hp r
  exact ⟨hangN_len L p r i, fun t => by rw [hg], fun t => by rw [hg], fun t => by rw [hg], fun t => by rw [hg], fun t => by rw [hg]⟩
theorem Tk.free {L : List Nd} (h : Gd L) {i : Nat} (hi : i < L.length) : Tk L (freeN L i) := by
  have hg := gN_free h hi
  exact ⟨freeN_len L i, fun t => by rw [hg], fun t => by rw [hg], fun t => by rw [hg], fun t => by rw [hg], fun t => by rw [hg]⟩
theorem Tk.append {L : List Nd} (h : Gd L) (p i : Int) : Tk L (appendN L p i).1 := by
  unfold appendN
  split
  · next hh =>
    obtain ⟨p, rfl, hp⟩ := holds_in hh.1
    obtain ⟨i, rfl, hi⟩ := hangs_in hh.2.1
    exact Tk.hang h hi hp _
  · exact Tk.refl L
theorem Tk.detach {L : List Nd} (h : Gd L) (i : Int) : Tk L (detachN L i).1 := by
  unfold detachN
  split
  · exact Tk.free h (by omega)
  · exact Tk.refl L
theorem Tk.before {L : List Nd} (h : Gd L) (i r : Int) : Tk L (beforeN L i r).1 := by
  unfold beforeN
  split
  · next hh =>
    obtain ⟨i, rfl, hi⟩ := hangs_in hh.1
    have := (h.range (j := r) hh.2.2.1).2
    exact Tk.hang h hi (by omega) _
  · exact Tk.refl L
theorem Tk.all {N : Nat} {a : Int} {b : Nat} : ∀ {l : List Int} {L : List Nd}, Mv N a b l L → Tk L (hangAll b l L)
  | [], L, _ => Tk.refl L
  | j :: l, L, h => by
    obtain ⟨i, rfl, hi, hb, _, h'⟩ := h.head
    exact (Tk.hang h.gd hi hb (-1)).trans (Tk.all h')
theorem Tk.move {L : List Nd} (h : Gd L) (a b : Int) : Tk L (moveN L a b).1 := by
  unfold moveN
  split
  · next hh =>
    obtain ⟨a, rfl, ha⟩ := holds_in hh.1
    obtain ⟨b, rfl, hb⟩ := holds_in hh.2.1
    exact Tk.all (Mv.of h (by omega) (by omega) hh.2.2)
  · exact Tk.refl L
/-- numbers stay what they were -/
structure Kp (L L' : List Nd) : Prop where
  len : L.length ≤ L'.length
  kind : ∀ t : Int, t < L.length → (gN L' t).kind = (gN L t).kind
  name : ∀ t : Int, t < L.length → (gN L' t).name = (gN L t).name
  cont : ∀ t : Int, t < L.length → (gN L' t).content = (gN L t).content
theorem Tk.kp {L L' : List Nd} (h : Tk L L') : Kp L L' := ⟨by rw [h.len]; exact Nat.le_refl _, fun t _ => h.kind t, fun t _ => h.name t, fun t _ => h.cont t⟩
theorem Kp.trans {A B C : List Nd} (h : Kp A B) (k : Kp B C) : Kp A C := by
  have h1 := h.len
  exact ⟨Nat.le_trans h.len k.len, fun t ht => (k.kind t (by omega)).trans (h.kind t ht), fun t ht => (k.name t (by omega)).trans (h.name t ht), fun t ht => (k.cont t (by omega)).trans (h.cont t ht)⟩
theorem Kp.push (L : List Nd) (n : Nd) : Kp L (L ++ [n]) := by
  have hg : ∀ t : Int, t < L.length → gN (L ++ [n]) t = gN L t := fun t ht => by rw [gN_push, if_neg (by omega)]
  exact ⟨by simp, fun t ht => by rw [hg t ht], fun t ht => by rw [hg t ht], fun t ht => by rw [hg t ht]⟩
theorem Kp.modify (L : List Nd) (i : Nat) (f : Nd → Nd) (hf : ∀ n, (f n).kind = n.kind ∧ (f n).name = n.name ∧ (f n).content = n.content) : Kp L (L.modify i f) := by
  by_cases hi : i < L.length
  · have hg := gN_modify hi f
    have key : ∀ t, (gN (L.modify i f) t).kind = (gN L t).kind ∧ (gN (L.modify i f) t).name = (gN L t).name ∧ (gN (L.modify i f) t).content = (gN L t).content := fun t => by
      rw [hg]; split
      · exact hf _
      · exact ⟨rfl, rfl, rfl⟩
    exact ⟨by simp, fun t _ => (key t).1, fun t _ => (key t).2.1, fun t _ => (key t).2.2⟩
  · rw [List.modify_eq_self (by omega)]
    exact (Tk.refl L).kp
/-- how great things are, behind so many acts -/
structure Sz (L : List Nd) (k : Nat) : Prop where
  len : L.length ≤ 1 + 2 * k
  text : ∀ t, (gN L t).text.size ≤ 200 * k
  attrs : ∀ t, (gN L t).attrs.length ≤ 8 * k
theorem Sz.more {L : List Nd} {k : Nat} (h : Sz L k) : Sz L (k + 1) :=
  ⟨by have := h.len; omega, fun t => by have := h.text t; omega, fun t => by have := h.attrs t; omega⟩
theorem Sz.tk {L L' : List Nd} {k : Nat} (h : Sz L k) (ht : Tk L L') : Sz L' (k + 1) :=
  ⟨by have := h.len; have := ht.len; omega, fun t => by have := h.text t; rw [ht.text]; omega, fun t => by have := h.attrs t; rw [ht.attrs]; omega⟩
theorem Sz.mem {L : List Nd} {k : Nat} (h : Sz L k) {n : Nd} (hn : n ∈ L) : n.text.size ≤ 200 * k ∧ n.attrs.length ≤ 8 * k := by
  obtain ⟨i, hi⟩ := List.getElem?_of_mem hn
  have e := gN_nat hi
  have h1 := h.text i
  have h2 := h.attrs i
  rw [e] at h1 h2
  exact ⟨h1, h2⟩
theorem Sz.push {L : List Nd} {k : Nat} {n : Nd} (ht : ∀ t, (gN L t).text.size ≤ 200 * (k + 1)) (ha : ∀ t, (gN L t).attrs.length ≤ 8 * (k + 1)) (h1 : n.text.size ≤ 200 * (k + 1)) (h2 : n.attrs.length ≤ 8 * (k + 1)) :
    (∀ t, (gN (L ++ [n]) t).text.size ≤ 200 * (k + 1)) ∧ ∀ t, (gN (L ++ [n]) t).attrs.length ≤ 8 * (k + 1) := by
  refine ⟨fun t => ?_, fun t => ?_⟩
  · rw [gN_push]; split
    · exact h1
    · exact ht t
  · rw [gN_push]; split
    · exact h2
    · exact ha t
theorem doneN_ok {L : List Nd} (h : Gd L) {k : Nat} (hs : Sz L k) (x : ActD) (hx : x.m.nd.attrs.length ≤ 8 ∧ x.m.nd.text.size ≤ 200) (hk : 0 ≤ x.kd) :
    Gd (doneN L x).1 ∧ Kp L (doneN L x).1 ∧ Sz (doneN L x).1 (k + 1) ∧ ((x.kd.tmod 11 < 3 ∧ (doneN L x).2 < 0 ∨ ¬ x.kd.tmod 11 < 3 ∧ (doneN L x).2 ≠ 0) → (doneN L x).1 = L) := by
  have hr : 0 ≤ x.kd.tmod 11 ∧ x.kd.tmod 11 < 11 := by rw [Int.tmod_eq_emod_of_nonneg hk]; omega
  unfold doneN
  split
  · refine ⟨Go.Proofs.Ytkafpameheohdaa.append_gd h _ _, (Tk.append h _ _).kp, hs.tk (Tk.append h _ _), fun hh => ?_⟩
    unfold appendN at hh ⊢
    split
    · next hc => rw [if_pos hc] at hh; omega
    · rfl
  split
  · refine ⟨Go.Proofs.Ytkafpameheohdaa.before_gd h _ _, (Tk.before h _ _).kp, hs.tk (Tk.before h _ _), fun hh => ?_⟩
    unfold beforeN at hh ⊢
    split
    · next hc => rw [if_pos hc] at hh; omega
    · rfl
  split
  · refine ⟨Go.Proofs.Ytkafpameheohdaa.detach_gd h _, (Tk.detach h _).kp, hs.tk (Tk.detach h _), fun hh => ?_⟩
    unfold detachN at hh ⊢
    split
    · next hc => rw [if_pos hc] at hh; omega
    · rfl
  split
  · refine ⟨(Go.Proofs.Ytkafpameheohdaa.move_gd h _ _).1, (Tk.move h _ _).kp, hs.tk (Tk.move h _ _), fun hh => ?_⟩
    unfold moveN at hh ⊢
    split
    · next hc => rw [if_pos hc] at hh; omega
    · rfl
  split
  · refine ⟨text_gd h _ _ _, ?_, ?_, fun hh => ?_⟩
    · unfold textN
      split
      · split
        · exact (Tk.refl L).kp
        · split
          · exact Kp.modify _ _ _ fun n => ⟨rfl, rfl, rfl⟩
          · next hh _ _ =>
            obtain ⟨p, hp, hpl⟩ := holds_in hh.1
            have hpush := h.push (n := textNd x.m.nd.text) rfl rfl (show (4 : Int) ≠ 1 by decide)
            exact (Kp.push L _).trans (Tk.hang hpush (by simp) (by simp; omega) _).kp
      · exact (Tk.refl L).kp
    · unfold textN
      split
      · split
        · exact hs.more
        · split
          · refine ⟨by simp; have := hs.len; omega, fun t => ?_, fun t => ?_⟩
            · generalize (((gN L x.i).kids[(atK x.j (gN L x.i).kids - 1).toNat]?).getD 0).toNat = q
              by_cases hq : q < L.length
              · rw [gN_modify hq]; split
                · simp only [addText, ByteArray.size_append]; have := hs.text t; omega
                · have := hs.text t; omega
              · rw [List.modify_eq_self (by omega)]; have := hs.text t; show (gN L t).text.size ≤ _; omega
            · generalize (((gN L x.i).kids[(atK x.j (gN L x.i).kids - 1).toNat]?).getD 0).toNat = q
              by_cases hq : q < L.length
              · rw [gN_modify hq]; split
                · simp only [addText]; have := hs.attrs t; omega
                · have := hs.attrs t; omega
              · rw [List.modify_eq_self (by omega)]; have := hs.attrs t; show (gN L t).attrs.length ≤ _; omega
          · next hh _ _ =>
            obtain ⟨p, hp, hpl⟩ := holds_in hh.1
            have hpush := h.push (n := textNd x.m.nd.text) rfl rfl (show (4 : Int) ≠ 1 by decide)
            have ht := Tk.hang hpush (i := L.length) (p := x.i.toNat) (by simp) (by simp; omega) x.j
            obtain ⟨s1, s2⟩ := Sz.push (n := textNd x.m.nd.text) hs.more.text hs.more.attrs (by show x.m.nd.text.size ≤ _; omega) (by show (0 : Nat) ≤ _; omega)
            exact ⟨by rw [ht.len]; simp; have := hs.len; omega, fun t => by rw [ht.text]; exact s1 t, fun t => by rw [ht.attrs]; exact s2 t⟩
      · exact hs.more
    · unfold textN at hh ⊢
      split
      · next hc =>
        rw [if_pos hc] at hh
        split
        · rfl
        · next hc2 =>
          rw [if_neg hc2] at hh
          split
          · next hc3 => rw [if_pos hc3] at hh; omega
          · next hc3 => rw [if_neg hc3] at hh; omega
      · rfl
  split
  · refine ⟨more_gd h _ _, ?_, ?_, fun hh => ?_⟩
    · unfold moreN
      split
      · exact Kp.modify _ _ _ fun n => ⟨rfl, rfl, rfl⟩
      · exact (Tk.refl L).kp
    · unfold moreN
      split
      · next hc =>
        have hq : x.i.toNat < L.length := by omega
        refine ⟨by simp; have := hs.len; omega, fun t => ?_, fun t => ?_⟩
        · rw [gN_modify hq]; split
          · simp only [setAttrs]; have := hs.text t; omega
          · have := hs.text t; omega
        · rw [gN_modify hq]; split
          · simp only [setAttrs]
            have := Go.Proofs.Ytkafpameheohdaa.moreA_len (gN L t).attrs x.m.nd.attrs
            have := hs.attrs t; omega
          · have := hs.attrs t; omega
      · exact hs.more
    · unfold moreN at hh ⊢
      split
      · next hc => rw [if_pos hc] at hh; omega
      · rfl
  · refine ⟨add_gd h _, ?_, ?_, fun hh => ?_⟩
    · unfold addN
      split
      · split
        · have := (Kp.push L { bareN x.m.nd with content := (L.length : Int) + 1 }).trans (Kp.push _ contN)
          simpa using this
        · exact Kp.push L _
      · exact (Tk.refl L).kp
    · unfold addN
      split
      · split
        · obtain ⟨s1, s2⟩ := Sz.push (n := { bareN x.m.nd with content := (L.length : Int) + 1 }) hs.more.text hs.more.attrs (by show x.m.nd.text.size ≤ _; omega) (by show x.m.nd.attrs.length ≤ _; omega)
          obtain ⟨u1, u2⟩ := Sz.push (n := contN) s1 s2 (by show (0 : Nat) ≤ _; omega) (by show (0 : Nat) ≤ _; omega)
          rw [List.append_assoc] at u1 u2
          exact ⟨by simp; have := hs.len; omega, u1, u2⟩
        · obtain ⟨s1, s2⟩ := Sz.push (n := bareN x.m.nd) hs.more.text hs.more.attrs (by show x.m.nd.text.size ≤ _; omega) (by show x.m.nd.attrs.length ≤ _; omega)
          exact ⟨by simp; have := hs.len; omega, s1, s2⟩
      · exact hs.more
    · unfold addN at hh ⊢
      split
      · next hc =>
        rw [if_pos hc] at hh
        split
        · next hc2 => rw [if_pos hc2] at hh; omega
        · next hc2 => rw [if_neg hc2] at hh; omega
      · rfl
end Go.Vk
