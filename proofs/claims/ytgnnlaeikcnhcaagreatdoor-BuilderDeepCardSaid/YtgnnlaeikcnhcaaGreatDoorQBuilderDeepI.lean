/- What the proof leans on, part 9 of 9. -/
import Derived.Test.YtgnnlaeikcnhcaaGreatDoorQBuilderDeepH
section
set_option linter.unusedSimpArgs false
set_option linter.unusedVariables false
namespace Go.Vk
open Go
/-- a builder whose nodes are the document and those of a list, none of them a template; nothing fostered; what is open is among them -/
structure Reg (b : BSt) (ns : List Nd) : Prop where
  gd : Gd b.L
  len : b.L.length = ns.length + 1
  nod : ∀ (i : Nat) (n : Nd), ns[i]? = some n → gN b.L ((i : Int) + 1) = { n with parent := (gN b.L ((i : Int) + 1)).parent, kids := (gN b.L ((i : Int) + 1)).kids }
  pl : ∀ n ∈ ns, kidK n.kind = true ∧ n.name ≠ tmpl
  stk : ∀ o ∈ b.s, ∃ (i : Nat) (n : Nd), ns[i]? = some n ∧ n.kind = 3 ∧ o = ⟨(i : Int) + 1, n.space, n.name⟩
  fo : b.foster = false
theorem nodeN_gN {L : List Nd} {i : Int} (h : 0 ≤ i ∧ i < L.length) : nodeN L i = gN L i := by
  unfold nodeN gN
  have := nd?_isSome L i
  rw [decide_eq_true h] at this
  obtain ⟨n, hn⟩ := Option.isSome_iff_exists.1 this
  rw [hn]; rfl
theorem aboveF_new {L : List Nd} (h : Gd L) (n : Nd) : ∀ (k : Nat) (j : Int), j < L.length → aboveF (L ++ [n]) L.length k j = false
  | 0, _, _ => rfl
  | k + 1, j, hj => by
    rw [aboveF]
    by_cases h0 : j < 0
    · rw [if_pos h0]
    · rw [if_neg h0]
      have e : ¬ j = (L.length : Int) := by omega
      rw [decide_eq_false e, Bool.false_or]
      apply aboveF_new h n k
      rw [upN_g, gN_push, if_neg e]
      split
      · omega
      · by_cases hp : 0 ≤ (gN L j).parent
        · exact (h.range hp).2
        · omega
theorem addN_pl {L : List Nd} {n : Nd} (hk : kidK n.kind = true) (hn : n.name ≠ tmpl) : addN L n = (L ++ [bareN n], (L.length : Int)) := by
  unfold addN
  rw [if_pos hk, if_neg (fun h => hn h.2.2)]
/-- a builder behind an Insert where nothing is odd -/
def insR (b : BSt) (n : Nd) : BSt := { b with L := hangN (b.L ++ [bareN n]) (targB b).toNat (-1) b.L.length, s := b.s ++ [⟨(b.L.length : Int), n.space, n.name⟩] }
theorem topS_eq (s : List OpS) : topS s = match s.getLast? with | none => -1 | some o => o.node := by
  unfold topS atS
  rcases List.eq_nil_or_concat s with rfl | ⟨r, o, rfl⟩
  · rfl
  · rw [List.concat_eq_append, List.getLast?_concat]
    simp only [List.length_append, List.length_cons, List.length_nil]
    rw [if_pos ⟨by omega, by omega⟩]
    have e : (((r.length + (0 + 1) : Nat) : Int) - 1).toNat = r.length := by omega
    rw [e]
    simp
theorem Reg.targ {b : BSt} {ns : List Nd} (h : Reg b ns) : (b.s = [] ∧ targB b = 0) ∨ ∃ (i : Nat) (n : Nd), ns[i]? = some n ∧ n.kind = 3 ∧ targB b = (i : Int) + 1 := by
  unfold targB
  rw [topS_eq]
  rcases List.eq_nil_or_concat b.s with e | ⟨r, o, e⟩
  · rw [e]; exact .inl ⟨rfl, rfl⟩
  · rw [List.concat_eq_append] at e
    obtain ⟨i, n, h1, h2, h3⟩ := h.stk o (by rw [e]; simp)
    right
    refine ⟨i, n, h1, h2, ?_⟩
    rw [e, List.getLast?_concat]
    subst h3
    dsimp only
    rw [if_neg (by omega)]
theorem Reg.t0 {b : BSt} {ns : List Nd} (h : Reg b ns) : 0 ≤ targB b ∧ targB b < b.L.length ∧ (((gN b.L (targB b)).kind = 1 ∧ targB b = 0) ∨ ((gN b.L (targB b)).kind = 3 ∧ (gN b.L (targB b)).name ≠ tmpl)) := by
  have hl := h.len
  rcases h.targ with ⟨_, e⟩ | ⟨i, n, h1, h2, e⟩
  · rw [e]; exact ⟨by omega, by omega, .inl ⟨h.gd.doc, rfl⟩⟩
  · have hi : i < ns.length := (List.getElem?_eq_some_iff.1 h1).1
    rw [e]
    refine ⟨by omega, by omega, .inr ?_⟩
    rw [h.nod i n h1]
    exact ⟨h2, (h.pl n (List.mem_of_getElem? h1)).2⟩
theorem Reg.place {b : BSt} {ns : List Nd} (h : Reg b ns) {L' : List Nd} (hk : (nodeN L' (targB b)).kind ≠ 3 ∨ (nodeN L' (targB b)).name ≠ tmpl) : placeB { b with L := L' } (targB b) = (targB b, -1) := by
  have e1 : place1 { b with L := L' } (targB b) = (targB b, -1) := by
    unfold place1
    rw [if_neg (by rw [show ({ b with L := L' } : BSt).foster = false from h.fo]; simp)]
  unfold placeB
  rw [e1]
  rw [if_neg]
  rintro ⟨_, hh⟩
  unfold htmlN at hh
  simp only [List.any_cons, List.any_nil, Bool.or_false, Bool.and_eq_true, decide_eq_true_eq] at hh
  rcases hk with hk | hk
  · exact hk hh.1
  · exact hk hh.2.2
theorem gN_hang_new {L : List Nd} (h : Gd L) {n : Nd} (hp : n.parent = -1) (hk : n.kids = []) (h1 : n.kind ≠ 1) {p : Nat} (hpl : p < L.length) (t : Int) :
    gN (hangN (L ++ [n]) p (-1) L.length) t = if t = L.length then { n with parent := (p : Int) } else if t = p then { gN L t with kids := (gN L t).kids ++ [(L.length : Int)] } else gN L t := by
  have hg := h.push hp hk h1
  have hlen : (L ++ [n]).length = L.length + 1 := by simp
  rw [gN_hang hg (by omega) (by omega)]
  have hno : ∀ u : Int, (L.length : Int) ∉ (gN (L ++ [n]) u).kids := fun u hm => by
    have := (hg.kid u _).1 hm
    rw [gN_push, if_pos rfl, hp] at this
    omega
  rw [List.erase_of_not_mem (hno t), gN_push]
  by_cases e1 : t = (L.length : Int)
  · have e2 : ¬ t = (p : Int) := by omega
    simp only [if_pos e1, if_neg e2]
  · simp only [if_neg e1]
    by_cases e2 : t = (p : Int)
    · simp only [if_pos e2, addK]
      rw [if_pos (by decide)]
    · simp only [if_neg e2]
theorem Reg.ins {b : BSt} {ns : List Nd} (h : Reg b ns) (hs : b.s.length < 512) {n : Nd} (hk : n.kind = 3) (hn : n.name ≠ tmpl) :
    insertB b n = (insR b n, (b.L.length : Int)) ∧ Reg (insR b n) (ns ++ [bareN n]) ∧
    ∀ t, gN (insR b n).L t = if t = b.L.length then { bareN n with parent := targB b } else if t = targB b then { gN b.L t with kids := (gN b.L t).kids ++ [(b.L.length : Int)] } else gN b.L t := by
  obtain ⟨t0, t1, t2⟩ := h.t0
  have hl := h.len
  have hkk : kidK n.kind = true := by rw [hk]; rfl
  have hadd : addN b.L n = (b.L ++ [bareN n], (b.L.length : Int)) := addN_pl hkk hn
  have hbp : (bareN n).parent = -1 := rfl
  have hbk : (bareN n).kids = [] := rfl
  have hb1 : (bareN n).kind ≠ 1 := by rw [show (bareN n).kind = n.kind from rfl, hk]; decide
  have hgd := h.gd.push hbp hbk hb1
  have hlen : (b.L ++ [bareN n]).length = b.L.length + 1 := by simp
  obtain ⟨p, hp⟩ : ∃ p : Nat, targB b = p := ⟨(targB b).toNat, by omega⟩
  have hpl : p < b.L.length := by omega
  have hG : ∀ t, gN (insR b n).L t = if t = b.L.length then { bareN n with parent := targB b } else if t = targB b then { gN b.L t with kids := (gN b.L t).kids ++ [(b.L.length : Int)] } else gN b.L t := fun t => by
    unfold insR
    dsimp only
    rw [hp, Int.toNat_natCast]
    exact gN_hang_new h.gd hbp hbk hb1 hpl t
  have hpt : gN (b.L ++ [bareN n]) p = gN b.L p := by rw [gN_push, if_neg (by omega)]
  have hnp : nodeN (b.L ++ [bareN n]) p = gN b.L p := by rw [nodeN_gN (by omega), hpt]
  have happ : appendN (b.L ++ [bareN n]) p b.L.length = (hangN (b.L ++ [bareN n]) p (-1) b.L.length, 0) := by
    unfold appendN
    have c1 : holdsN (b.L ++ [bareN n]) p = true := by
      unfold holdsN
      have := nd?_isSome (b.L ++ [bareN n]) p
      rw [decide_eq_true (by omega)] at this
      obtain ⟨x, hx⟩ := Option.isSome_iff_exists.1 this
      rw [hx]
      have e := gN_of hx
      rw [hpt] at e
      rw [hp] at t2
      rw [← e]
      rcases t2 with t2 | t2
      · show holdK (gN b.L p).kind = true
        rw [t2.1]; rfl
      · show holdK (gN b.L p).kind = true
        rw [t2.1]; rfl
    have c2 : hangsN (b.L ++ [bareN n]) b.L.length = true := by
      unfold hangsN
      rw [nd?_nat, List.getElem?_append_right (Nat.le_refl _), Nat.sub_self]
      exact hkk
    have c3 : aboveN (b.L ++ [bareN n]) b.L.length p = false := by
      unfold aboveN
      exact aboveF_new h.gd _ _ _ (by omega)
    rw [if_pos ⟨c1, c2, c3⟩, Int.toNat_natCast, Int.toNat_natCast]
  have hhung : hungB b n = { b with L := hangN (b.L ++ [bareN n]) p (-1) b.L.length } := by
    unfold hungB
    rw [hadd]
    have ht : targB (addB b n) = targB b := rfl
    have ea : addB b n = { b with L := b.L ++ [bareN n] } := by unfold addB; rw [hadd]
    have hpl' : placeB (addB b n) (targB (addB b n)) = (targB b, -1) := by
      rw [ht, ea]
      refine h.place ?_
      rw [hp, hnp]
      rw [hp] at t2
      rcases t2 with t2 | t2
      · left; rw [t2.1]; decide
      · exact .inr t2.2
    unfold putB
    rw [hpl', if_neg (show ¬ (0 : Int) ≤ -1 by decide)]
    dsimp only
    rw [hp, ea]
    dsimp only
    rw [happ]
  have hgi : gN (insR b n).L b.L.length = { bareN n with parent := targB b } := by rw [hG, if_pos rfl]
  have hil : (insR b n).L.length = b.L.length + 1 := by unfold insR; dsimp only; rw [hangN_len, hlen]
  have hgdR : Gd (insR b n).L := by
    have := Go.Proofs.YtgnnlaeikcnhcaaGreatDoor.append_gd hgd (p : Int) (b.L.length : Int)
    rw [happ] at this
    unfold insR
    dsimp only
    rw [hp, Int.toNat_natCast]
    exact this
  refine ⟨?_, ⟨hgdR, ?_, ?_, ?_, ?_, h.fo⟩, hG⟩
  · unfold insertB
    rw [if_neg (by omega), hadd]
    dsimp only
    rw [hhung]
    have hop : opN (hangN (b.L ++ [bareN n]) p (-1) b.L.length) b.L.length = ⟨(b.L.length : Int), n.space, n.name⟩ := by
      have e : nodeN (insR b n).L b.L.length = { bareN n with parent := targB b } := by rw [nodeN_gN (by omega), hgi]
      unfold insR at e
      dsimp only at e
      rw [hp, Int.toNat_natCast] at e
      unfold opN
      unfold nodeN at e
      rw [e]; rfl
    have hk3 : ((nd? (hangN (b.L ++ [bareN n]) p (-1) b.L.length) b.L.length).getD zN).kind = 3 := by
      have e : nodeN (insR b n).L b.L.length = { bareN n with parent := targB b } := by rw [nodeN_gN (by omega), hgi]
      unfold insR at e
      dsimp only at e
      rw [hp, Int.toNat_natCast] at e
      unfold nodeN at e
      rw [e]; exact hk
    have hpush : pushB { b with L := hangN (b.L ++ [bareN n]) p (-1) b.L.length } b.L.length = (insR b n, 0) := by
      unfold pushB insS
      dsimp only
      rw [if_pos hk3, if_pos ⟨by omega, Int.le_refl _⟩, if_neg (by omega), hop, Int.toNat_natCast, List.take_length, List.drop_length]
      unfold insR
      rw [hp, Int.toNat_natCast]
    rw [hpush]
    unfold failB
    rw [if_neg (fun h => h.2 rfl)]
  · rw [hil, hl]; simp
  · intro i x hx
    rw [List.getElem?_append] at hx
    split at hx
    · rename_i hi
      have hi' : ¬ (i : Int) + 1 = (b.L.length : Int) := by omega
      have := h.nod i x hx
      rw [hG, if_neg hi']
      split
      · rw [this]
      · rw [this]
    · rename_i hi
      have e0 : i - ns.length = 0 := by
        have := (List.getElem?_eq_some_iff.1 hx).1
        simp at this; omega
      rw [e0] at hx
      obtain rfl : bareN n = x := by simpa using hx
      have hi' : (i : Int) + 1 = (b.L.length : Int) := by omega
      rw [hG, if_pos hi']
  · intro x hx
    simp only [List.mem_append, List.mem_cons, List.not_mem_nil, or_false] at hx
    rcases hx with hx | rfl
    · exact h.pl x hx
    · exact ⟨hkk, hn⟩
  · intro o ho
    unfold insR at ho
    simp only [List.mem_append, List.mem_cons, List.not_mem_nil, or_false] at ho
    rcases ho with ho | rfl
    · obtain ⟨i, x, h1, h2, h3⟩ := h.stk o ho
      exact ⟨i, x, by rw [List.getElem?_append_left (List.getElem?_eq_some_iff.1 h1).1]; exact h1, h2, h3⟩
    · refine ⟨ns.length, bareN n, by simp, hk, ?_⟩
      have : (b.L.length : Int) = (ns.length : Int) + 1 := by omega
      rw [this]; rfl
theorem Reg.mode {b : BSt} {ns : List Nd} (h : Reg b ns) (m : Int) : Reg { b with mode := m } ns := ⟨h.gd, h.len, h.nod, h.pl, h.stk, h.fo⟩
theorem reg_new : Reg newB [] := ⟨docN_gd, rfl, fun i n h => by simp at h, fun n h => by simp at h, fun o h => by simp [newB] at h, rfl⟩
theorem insR_att {b : BSt} {n : Nd} (h : Att b.L) (hn : n.attrs.length < 1000000) : Att (insR b n).L := by
  unfold insR
  dsimp only
  refine att_hang (fun x hx => ?_) _ _ _
  simp only [List.mem_append, List.mem_cons, List.not_mem_nil, or_false] at hx
  rcases hx with hx | rfl
  · exact h x hx
  · exact hn
end Go.Vk
end
section
set_option linter.unusedSimpArgs false
set_option linter.unusedVariables false
namespace Go.Vk
open Go
def deepN (nm : ByteArray) : Nd := elTok (tokI nm) 0
def deepB (nm : ByteArray) : Nat → BSt
  | 0 => newB
  | k + 1 => (implyB (deepB nm k) nm).1
structure Deep (nm : ByteArray) (k : Nat) (b : BSt) : Prop where
  reg : Reg b (List.replicate k (bareN (deepN nm)))
  s : b.s.length = k
  err : b.err = none
  at_ : Att b.L
  l : b.l = []
theorem Deep.ok {nm : ByteArray} {k : Nat} {b : BSt} (h : Deep nm k b) (hk : k ≤ 512) : okB b ∧ b.L.length = k + 1 := by
  have := h.reg.len
  rw [List.length_replicate] at this
  exact ⟨⟨by omega, h.at_, by rw [h.s]; omega, by rw [h.l]; decide⟩, this⟩
theorem Deep.step {nm : ByteArray} {k : Nat} {b : BSt} (h : Deep nm k b) (hk : k < 512) (hn : nm ≠ tmpl) : (implyB b nm).2 = (k : Int) + 1 ∧ Deep nm (k + 1) (implyB b nm).1 := by
  obtain ⟨e, r, _⟩ := h.reg.ins (n := deepN nm) (by rw [h.s]; exact hk) rfl hn
  have hl := (h.ok (by omega)).2
  have e' : implyB b nm = (insR b (deepN nm), (b.L.length : Int)) := e
  rw [e']
  refine ⟨by dsimp only; omega, ⟨?_, ?_, h.err, insR_att h.at_ (show (0 : Nat) < 1000000 by decide), h.l⟩⟩
  · rw [List.replicate_succ']; exact r
  · show (b.s ++ [_]).length = _
    simp [h.s]
theorem att_new : Att newB.L := by
  intro n hn
  have : n = docN := by simpa [newB] using hn
  subst this; decide
theorem deep_B {nm : ByteArray} (hn : nm ≠ tmpl) : ∀ k : Nat, k ≤ 512 → Deep nm k (deepB nm k)
  | 0, _ => ⟨reg_new, rfl, rfl, att_new, rfl⟩
  | k + 1, h => ((deep_B hn k (by omega)).step (by omega) hn).2
theorem full_ins {b : BSt} (h : 512 ≤ b.s.length) (n : Nd) : insertB b n = (failB b 150, -1) := by
  unfold insertB; rw [if_pos h]
theorem failB_none {b : BSt} (h : b.err = none) {e : Int} (he : e ≠ 0) : failB b e = { b with err := some e } := by
  unfold failB; rw [if_pos ⟨h, he⟩]
theorem failB_some {b : BSt} {x : Int} (h : b.err = some x) (e : Int) : failB b e = b := by
  unfold failB; rw [if_neg (fun hh => by rw [h] at hh; cases hh.1)]
def fullB (b : BSt) : BSt := { b with err := some 150 }
theorem Deep.full {nm : ByteArray} {b : BSt} (h : Deep nm 512 b) (x : ByteArray) : implyB b x = (fullB b, -1) := by
  unfold implyB
  rw [full_ins (by rw [h.s]; exact Nat.le_refl _), failB_none h.err (by decide)]
  rfl
theorem full_imp {b : BSt} (h : b.s.length = 512) (x : ByteArray) : implyB (fullB b) x = (fullB b, -1) := by
  unfold implyB
  rw [full_ins (b := fullB b) (by show 512 ≤ b.s.length; omega), failB_some (x := 150) rfl]
theorem full_only {b : BSt} (h : b.s.length = 512) (t : HTok) : onlyB (fullB b) t = (fullB b, -1) := by
  unfold onlyB
  rw [full_ins (b := fullB b) (by show 512 ≤ b.s.length; omega), failB_some (x := 150) rfl]
  rfl
theorem Deep.fok {nm : ByteArray} {b : BSt} (h : Deep nm 512 b) : okB (fullB b) ∧ (fullB b).L.length = 513 ∧ (fullB b).s.length = 512 := by
  obtain ⟨⟨h1, h2, h3, h4⟩, h5⟩ := h.ok (Nat.le_refl _)
  exact ⟨⟨h1, h2, h3, h4⟩, h5, h.s⟩
end Go.Vk
end
section
set_option linter.unusedSimpArgs false
set_option linter.unusedVariables false
namespace Go.Proofs.YtgnnlaeikcnhcaaGreatDoor
open Go Go.Vk
def sBody : ByteArray := ⟨#[98, 111, 100, 121]⟩
def gb1 : BSt := (implyB newB sHtml).1
def gb2 : BSt := (implyB gb1 sBody).1
def gb3 : BSt := (implyB gb2 sTable).1
def gb4 : BSt := { gb3 with foster := true }
def gc3 : BSt := (implyB gb2 ⟨#[98]⟩).1
def gc4 : BSt := { gc3 with l := (pushN gc3.L gc3.l 3).1 }
def gc5 : BSt := { gc4 with s := gc4.s.dropLast }
def gc6 : BSt := rebuildB gc5
def gd2 : BSt := (implyB gb1 ⟨#[116, 100]⟩).1
def gd3 : BSt := resetB gd2
def gd4 : BSt := (implyB gd3 ⟨#[116, 114]⟩).1
def gd5 : BSt := resetB gd4
def okb (b : BSt) : Bool := decide (b.L.length < 80000) && (b.L.all fun n => decide (n.attrs.length < 1000000) && decide (n.name.size < 4294967281)) && decide (b.s.length < 10000) && decide (b.l.length < 1000) && decide (b.modes.length < 100000)
theorem okb_ok {b : BSt} (h : okb b = true) : okB b ∧ b.L.length + 2 < 90000 ∧ b.L.length + 2 * b.l.length + 2 < 90000 ∧ (∀ n ∈ b.L, n.name.size < 4294967281) ∧ b.modes.length < 100000 := by
  simp only [okb, Bool.and_eq_true, decide_eq_true_eq, List.all_eq_true] at h
  obtain ⟨⟨⟨⟨h1, h2⟩, h3⟩, h4⟩, h5⟩ := h
  exact ⟨⟨by omega, fun n hn => (h2 n hn).1, h3, by omega⟩, by omega, by omega, fun n hn => (h2 n hn).2, h5⟩
theorem okg0 : okb newB = true := by kernel_rfl
theorem okg1 : okb gb1 = true := by kernel_rfl
theorem okg2 : okb gb2 = true := by kernel_rfl
theorem okg4 : okb gb4 = true := by kernel_rfl
theorem okc3 : okb gc3 = true := by kernel_rfl
theorem okc4 : okb gc4 = true := by kernel_rfl
theorem okc5 : okb gc5 = true := by kernel_rfl
theorem okd2 : okb gd2 = true := by kernel_rfl
theorem okd3 : okb gd3 = true := by kernel_rfl
theorem okd4 : okb gd4 = true := by kernel_rfl
theorem g_1 : (implyB newB ⟨#[104, 116, 109, 108]⟩).2 = 1 := by kernel_rfl
theorem g_2 : (implyB gb1 ⟨#[98, 111, 100, 121]⟩).2 = 2 := by kernel_rfl
theorem g_3 : (implyB gb2 ⟨#[116, 97, 98, 108, 101]⟩).2 = 3 := by kernel_rfl
theorem g_4 : placeB gb4 3 = (2, 3) := by kernel_rfl
theorem g_5 : (implyB gb2 ⟨#[98]⟩).2 = 3 := by kernel_rfl
theorem g_6 : (pushN gc3.L gc3.l 3).2 = 0 := by kernel_rfl
theorem g_7 : topS gc4.s = 3 := by kernel_rfl
theorem g_8 : (if (0 : Int) ≤ 0 ∧ (0 : Int) < gc6.l.length then gc6.l.getD (0 : Int).toNat 0 else -1) = 4 := by kernel_rfl
theorem g_9 : decide (((0 : Int) ≤ 0 ∧ (0 : Int) < gc6.l.length) ∧ gc6.l.getD (0 : Int).toNat 0 = -1) = false := by kernel_rfl
theorem g_10 : gd3.mode = 14 := by kernel_rfl
theorem g_11 : gd5.mode = 13 := by kernel_rfl
theorem g_12 : gd5.err = none := by kernel_rfl
set_option maxHeartbeats 40000000
section
variable {w0 w : World} {Q : Nat → Prop} {pb ps pl pa : Nat} {b : BSt}
theorem bfpush_c (h : BuAt w0 w Q pb ps pl pa b) (hb : okB b) (i : Int) : Gives Tryz.prog 22 #[.pointer (some ⟨pl, 0, none⟩), .int .i64 i] w fun v w' => v = .int .i64 (pushN b.L b.l i).2 ∧ BuAt w0 w' Q pb ps pl pa { b with l := (pushN b.L b.l i).1 } ∧ Upd (AF w0 Q) w w' := by
  obtain ⟨P, hF, hback⟩ := h.fmt
  have := hb.L
  refine (push_c hF (by omega) hb.at_ hb.l i).mono ?_
  rintro v w' ⟨rfl, g1, g2⟩
  exact ⟨rfl, hback _ _ _ g1 g2⟩
end
theorem nP {w : World} : ∀ q, noP q → q < w.heap.size := fun _ h => h.elim
set_option maxHeartbeats 1000000 in
theorem grows_c {w : World} (hg : GB w) : Gives Tryz.prog 16 #[] w fun v w' => v = .bool true ∧ Ext w w' := by
  obtain ⟨k0, j0, _⟩ := okb_ok okg0
  obtain ⟨k1, j1, _⟩ := okb_ok okg1
  obtain ⟨k2, j2, _⟩ := okb_ok okg2
  obtain ⟨k4, _⟩ := okb_ok okg4
  obtain ⟨c3, _⟩ := okb_ok okc3
  obtain ⟨c4, _⟩ := okb_ok okc4
  obtain ⟨c5, _, c5j, _⟩ := okb_ok okc5
  obtain ⟨d2, _, _, d2n, d2m⟩ := okb_ok okd2
  obtain ⟨d3, d3j, _, d3n, d3m⟩ := okb_ok okd3
  obtain ⟨d4, d4j, _, d4n, d4m⟩ := okb_ok okd4
  refine Gives.of_W Tryz.call16 Tryz.func16 rfl Tryz.ntmps16 (by simp) ?_; intro Z hZ
  (repeat (first | (with_reducible first | (refine hK _ _ ?_; clear hK K) | refine (show ∀ σ' w', _ → K σ' w' from by assumption) _ _ ?_ | refine W_seq_k fun K hK => ?_ | refine W_block_k fun K hK => ?_ | refine W_skip ?_ | refine W_ret ?_) | ((first | ((with_reducible refine W_id ?_); refine W_reg (by decide) (by rfl) ?_) | (with_reducible first | refine W_cond ?_ | refine hZ _ _ ?_ | refine W_exit ?_ | refine Wo_id ?_)); repeat1' simp only [push_cast, Nat.reduceBEq, Nat.reduceLT, Nat.reduceEqDiff, reduceIte, reduceCtorEq, Nat.reduceMul, Nat.reduceAdd, Nat.reduceSub, Int.reduceEq, Int.reduceLT, Int.reduceLE, Int.reduceNeg, Int.reduceAdd, Int.reduceSub, Int.reduceMul, Nat.reduceLeDiff, Int.reduceToNat]) | ((repeat ((fail_if_success with_reducible refine hK _ _ ?_); clear hK K)); (with_reducible refine hK _ _ ?_); clear hK K)))
  refine bnew_c.mono ?_
  rintro v w1 ⟨pb, ps, pl, pa, rfl, h0⟩
  ((repeat simp only [push_cast, Nat.reduceBEq, Nat.reduceLT, Nat.reduceEqDiff, reduceIte, reduceCtorEq, Nat.reduceMul, Nat.reduceAdd, Nat.reduceSub, Int.reduceEq, Int.reduceLT, Int.reduceLE, Int.reduceNeg, Int.reduceAdd, Int.reduceSub, Int.reduceMul, Nat.reduceLeDiff, Int.reduceToNat]); (repeat (first | (with_reducible first | (refine hK _ _ ?_; clear hK K) | refine (show ∀ σ' w', _ → K σ' w' from by assumption) _ _ ?_ | refine W_seq_k fun K hK => ?_ | refine W_block_k fun K hK => ?_ | refine W_skip ?_ | refine W_ret ?_) | ((first | ((with_reducible refine W_id ?_); refine W_reg (by decide) (by rfl) ?_) | (with_reducible first | refine W_cond ?_ | refine hZ _ _ ?_ | refine W_exit ?_ | refine Wo_id ?_)); repeat1' simp only [push_cast, Nat.reduceBEq, Nat.reduceLT, Nat.reduceEqDiff, reduceIte, reduceCtorEq, Nat.reduceMul, Nat.reduceAdd, Nat.reduceSub, Int.reduceEq, Int.reduceLT, Int.reduceLE, Int.reduceNeg, Int.reduceAdd, Int.reduceSub, Int.reduceMul, Nat.reduceLeDiff, Int.reduceToNat]) | ((repeat ((fail_if_success with_reducible refine hK _ _ ?_); clear hK K)); (with_reducible refine hK _ _ ?_); clear hK K))))
  refine (bimply_c h0 k0 j0 nP _).mono ?_
  rintro v w2 ⟨rfl, h1, _⟩
  replace h1 : BuAt w w2 noP pb ps pl pa gb1 := h1
  rw [g_1]
  ((repeat simp only [push_cast, Nat.reduceBEq, Nat.reduceLT, Nat.reduceEqDiff, reduceIte, reduceCtorEq, Nat.reduceMul, Nat.reduceAdd, Nat.reduceSub, Int.reduceEq, Int.reduceLT, Int.reduceLE, Int.reduceNeg, Int.reduceAdd, Int.reduceSub, Int.reduceMul, Nat.reduceLeDiff, Int.reduceToNat, not_true_eq_false, eq_self]); (repeat (first | (with_reducible first | (refine hK _ _ ?_; clear hK K) | refine (show ∀ σ' w', _ → K σ' w' from by assumption) _ _ ?_ | refine W_seq_k fun K hK => ?_ | refine W_block_k fun K hK => ?_ | refine W_skip ?_ | refine W_ret ?_) | ((first | ((with_reducible refine W_id ?_); refine W_reg (by decide) (by rfl) ?_) | (with_reducible first | refine W_cond ?_ | refine hZ _ _ ?_ | refine W_exit ?_ | refine Wo_id ?_)); repeat1' simp only [push_cast, Nat.reduceBEq, Nat.reduceLT, Nat.reduceEqDiff, reduceIte, reduceCtorEq, Nat.reduceMul, Nat.reduceAdd, Nat.reduceSub, Int.reduceEq, Int.reduceLT, Int.reduceLE, Int.reduceNeg, Int.reduceAdd, Int.reduceSub, Int.reduceMul, Nat.reduceLeDiff, Int.reduceToNat, not_true_eq_false, eq_self]) | ((repeat ((fail_if_success with_reducible refine hK _ _ ?_); clear hK K)); (with_reducible refine hK _ _ ?_); clear hK K))))
  refine (bimply_c h1 k1 j1 nP _).mono ?_
  rintro v w3 ⟨rfl, h2, _⟩
  replace h2 : BuAt w w3 noP pb ps pl pa gb2 := h2
  rw [g_2]
  ((repeat simp only [push_cast, Nat.reduceBEq, Nat.reduceLT, Nat.reduceEqDiff, reduceIte, reduceCtorEq, Nat.reduceMul, Nat.reduceAdd, Nat.reduceSub, Int.reduceEq, Int.reduceLT, Int.reduceLE, Int.reduceNeg, Int.reduceAdd, Int.reduceSub, Int.reduceMul, Nat.reduceLeDiff, Int.reduceToNat, not_true_eq_false, eq_self]); (repeat (first | (with_reducible first | (refine hK _ _ ?_; clear hK K) | refine (show ∀ σ' w', _ → K σ' w' from by assumption) _ _ ?_ | refine W_seq_k fun K hK => ?_ | refine W_block_k fun K hK => ?_ | refine W_skip ?_ | refine W_ret ?_) | ((first | ((with_reducible refine W_id ?_); refine W_reg (by decide) (by rfl) ?_) | (with_reducible first | refine W_cond ?_ | refine hZ _ _ ?_ | refine W_exit ?_ | refine Wo_id ?_)); repeat1' simp only [push_cast, Nat.reduceBEq, Nat.reduceLT, Nat.reduceEqDiff, reduceIte, reduceCtorEq, Nat.reduceMul, Nat.reduceAdd, Nat.reduceSub, Int.reduceEq, Int.reduceLT, Int.reduceLE, Int.reduceNeg, Int.reduceAdd, Int.reduceSub, Int.reduceMul, Nat.reduceLeDiff, Int.reduceToNat, not_true_eq_false, eq_self]) | ((repeat ((fail_if_success with_reducible refine hK _ _ ?_); clear hK K)); (with_reducible refine hK _ _ ?_); clear hK K))))
  refine (bimply_c h2 k2 j2 nP _).mono ?_
  rintro v w4 ⟨rfl, h3, _⟩
  replace h3 : BuAt w w4 noP pb ps pl pa gb3 := h3
  rw [g_3]
  ((repeat simp only [push_cast, Nat.reduceBEq, Nat.reduceLT, Nat.reduceEqDiff, reduceIte, reduceCtorEq, Nat.reduceMul, Nat.reduceAdd, Nat.reduceSub, Int.reduceEq, Int.reduceLT, Int.reduceLE, Int.reduceNeg, Int.reduceAdd, Int.reduceSub, Int.reduceMul, Nat.reduceLeDiff, Int.reduceToNat, not_true_eq_false, eq_self]); (repeat (first | (with_reducible first | (refine hK _ _ ?_; clear hK K) | refine (show ∀ σ' w', _ → K σ' w' from by assumption) _ _ ?_ | refine W_seq_k fun K hK => ?_ | refine W_block_k fun K hK => ?_ | refine W_skip ?_ | refine W_ret ?_) | ((first | ((with_reducible refine W_id ?_); refine W_reg (by decide) (by rfl) ?_) | (with_reducible first | refine W_cond ?_ | refine hZ _ _ ?_ | refine W_exit ?_ | refine Wo_id ?_)); repeat1' simp only [push_cast, Nat.reduceBEq, Nat.reduceLT, Nat.reduceEqDiff, reduceIte, reduceCtorEq, Nat.reduceMul, Nat.reduceAdd, Nat.reduceSub, Int.reduceEq, Int.reduceLT, Int.reduceLE, Int.reduceNeg, Int.reduceAdd, Int.reduceSub, Int.reduceMul, Nat.reduceLeDiff, Int.reduceToNat, not_true_eq_false, eq_self]) | ((repeat ((fail_if_success with_reducible refine hK _ _ ?_); clear hK K)); (with_reducible refine hK _ _ ?_); clear hK K))))
  refine (bfoster_c h3 true).mono ?_
  rintro v w5 ⟨h4, _⟩
  replace h4 : BuAt w w5 noP pb ps pl pa gb4 := h4
  ((repeat simp only [push_cast, Nat.reduceBEq, Nat.reduceLT, Nat.reduceEqDiff, reduceIte, reduceCtorEq, Nat.reduceMul, Nat.reduceAdd, Nat.reduceSub, Int.reduceEq, Int.reduceLT, Int.reduceLE, Int.reduceNeg, Int.reduceAdd, Int.reduceSub, Int.reduceMul, Nat.reduceLeDiff, Int.reduceToNat]); (repeat (first | (with_reducible first | (refine hK _ _ ?_; clear hK K) | refine (show ∀ σ' w', _ → K σ' w' from by assumption) _ _ ?_ | refine W_seq_k fun K hK => ?_ | refine W_block_k fun K hK => ?_ | refine W_skip ?_ | refine W_ret ?_) | ((first | ((with_reducible refine W_id ?_); refine W_reg (by decide) (by rfl) ?_) | (with_reducible first | refine W_cond ?_ | refine hZ _ _ ?_ | refine W_exit ?_ | refine Wo_id ?_)); repeat1' simp only [push_cast, Nat.reduceBEq, Nat.reduceLT, Nat.reduceEqDiff, reduceIte, reduceCtorEq, Nat.reduceMul, Nat.reduceAdd, Nat.reduceSub, Int.reduceEq, Int.reduceLT, Int.reduceLE, Int.reduceNeg, Int.reduceAdd, Int.reduceSub, Int.reduceMul, Nat.reduceLeDiff, Int.reduceToNat]) | ((repeat ((fail_if_success with_reducible refine hK _ _ ?_); clear hK K)); (with_reducible refine hK _ _ ?_); clear hK K))))
  refine (bplace_c h4 k4 3).mono ?_
  rintro v w6 ⟨rfl, hx6⟩
  have h5 := h4.pass hx6
  rw [g_4]
  ((repeat simp only [push_cast, Nat.reduceBEq, Nat.reduceLT, Nat.reduceEqDiff, reduceIte, reduceCtorEq, Nat.reduceMul, Nat.reduceAdd, Nat.reduceSub, Int.reduceEq, Int.reduceLT, Int.reduceLE, Int.reduceNeg, Int.reduceAdd, Int.reduceSub, Int.reduceMul, Nat.reduceLeDiff, Int.reduceToNat, ext0, ext1]); (repeat (first | (with_reducible first | (refine hK _ _ ?_; clear hK K) | refine (show ∀ σ' w', _ → K σ' w' from by assumption) _ _ ?_ | refine W_seq_k fun K hK => ?_ | refine W_block_k fun K hK => ?_ | refine W_skip ?_ | refine W_ret ?_) | ((first | ((with_reducible refine W_id ?_); refine W_reg (by decide) (by rfl) ?_) | (with_reducible first | refine W_cond ?_ | refine hZ _ _ ?_ | refine W_exit ?_ | refine Wo_id ?_)); repeat1' simp only [push_cast, Nat.reduceBEq, Nat.reduceLT, Nat.reduceEqDiff, reduceIte, reduceCtorEq, Nat.reduceMul, Nat.reduceAdd, Nat.reduceSub, Int.reduceEq, Int.reduceLT, Int.reduceLE, Int.reduceNeg, Int.reduceAdd, Int.reduceSub, Int.reduceMul, Nat.reduceLeDiff, Int.reduceToNat, ext0, ext1]) | ((repeat ((fail_if_success with_reducible refine hK _ _ ?_); clear hK K)); (with_reducible refine hK _ _ ?_); clear hK K))))
  have hw6 := h5.out
  clear h0 h1 h2 h3 h4 h5 hx6
  refine bnew_c.mono ?_
  rintro v w7 ⟨pb, ps, pl, pa, rfl, h0⟩
  ((repeat simp only [push_cast, Nat.reduceBEq, Nat.reduceLT, Nat.reduceEqDiff, reduceIte, reduceCtorEq, Nat.reduceMul, Nat.reduceAdd, Nat.reduceSub, Int.reduceEq, Int.reduceLT, Int.reduceLE, Int.reduceNeg, Int.reduceAdd, Int.reduceSub, Int.reduceMul, Nat.reduceLeDiff, Int.reduceToNat]); (repeat (first | (with_reducible first | (refine hK _ _ ?_; clear hK K) | refine (show ∀ σ' w', _ → K σ' w' from by assumption) _ _ ?_ | refine W_seq_k fun K hK => ?_ | refine W_block_k fun K hK => ?_ | refine W_skip ?_ | refine W_ret ?_) | ((first | ((with_reducible refine W_id ?_); refine W_reg (by decide) (by rfl) ?_) | (with_reducible first | refine W_cond ?_ | refine hZ _ _ ?_ | refine W_exit ?_ | refine Wo_id ?_)); repeat1' simp only [push_cast, Nat.reduceBEq, Nat.reduceLT, Nat.reduceEqDiff, reduceIte, reduceCtorEq, Nat.reduceMul, Nat.reduceAdd, Nat.reduceSub, Int.reduceEq, Int.reduceLT, Int.reduceLE, Int.reduceNeg, Int.reduceAdd, Int.reduceSub, Int.reduceMul, Nat.reduceLeDiff, Int.reduceToNat]) | ((repeat ((fail_if_success with_reducible refine hK _ _ ?_); clear hK K)); (with_reducible refine hK _ _ ?_); clear hK K))))
  refine (bimply_c h0 k0 j0 nP _).mono ?_
  rintro v w8 ⟨rfl, h1, _⟩
  replace h1 : BuAt w6 w8 noP pb ps pl pa gb1 := h1
  ((repeat simp only [push_cast, Nat.reduceBEq, Nat.reduceLT, Nat.reduceEqDiff, reduceIte, reduceCtorEq, Nat.reduceMul, Nat.reduceAdd, Nat.reduceSub, Int.reduceEq, Int.reduceLT, Int.reduceLE, Int.reduceNeg, Int.reduceAdd, Int.reduceSub, Int.reduceMul, Nat.reduceLeDiff, Int.reduceToNat]); (repeat (first | (with_reducible first | (refine hK _ _ ?_; clear hK K) | refine (show ∀ σ' w', _ → K σ' w' from by assumption) _ _ ?_ | refine W_seq_k fun K hK => ?_ | refine W_block_k fun K hK => ?_ | refine W_skip ?_ | refine W_ret ?_) | ((first | ((with_reducible refine W_id ?_); refine W_reg (by decide) (by rfl) ?_) | (with_reducible first | refine W_cond ?_ | refine hZ _ _ ?_ | refine W_exit ?_ | refine Wo_id ?_)); repeat1' simp only [push_cast, Nat.reduceBEq, Nat.reduceLT, Nat.reduceEqDiff, reduceIte, reduceCtorEq, Nat.reduceMul, Nat.reduceAdd, Nat.reduceSub, Int.reduceEq, Int.reduceLT, Int.reduceLE, Int.reduceNeg, Int.reduceAdd, Int.reduceSub, Int.reduceMul, Nat.reduceLeDiff, Int.reduceToNat]) | ((repeat ((fail_if_success with_reducible refine hK _ _ ?_); clear hK K)); (with_reducible refine hK _ _ ?_); clear hK K))))
  refine (bimply_c h1 k1 j1 nP _).mono ?_
  rintro v w9 ⟨rfl, h2, _⟩
  replace h2 : BuAt w6 w9 noP pb ps pl pa gb2 := h2
  ((repeat simp only [push_cast, Nat.reduceBEq, Nat.reduceLT, Nat.reduceEqDiff, reduceIte, reduceCtorEq, Nat.reduceMul, Nat.reduceAdd, Nat.reduceSub, Int.reduceEq, Int.reduceLT, Int.reduceLE, Int.reduceNeg, Int.reduceAdd, Int.reduceSub, Int.reduceMul, Nat.reduceLeDiff, Int.reduceToNat, not_true_eq_false, eq_self]); (repeat (first | (with_reducible first | (refine hK _ _ ?_; clear hK K) | refine (show ∀ σ' w', _ → K σ' w' from by assumption) _ _ ?_ | refine W_seq_k fun K hK => ?_ | refine W_block_k fun K hK => ?_ | refine W_skip ?_ | refine W_ret ?_) | ((first | ((with_reducible refine W_id ?_); refine W_reg (by decide) (by rfl) ?_) | (with_reducible first | refine W_cond ?_ | refine hZ _ _ ?_ | refine W_exit ?_ | refine Wo_id ?_)); repeat1' simp only [push_cast, Nat.reduceBEq, Nat.reduceLT, Nat.reduceEqDiff, reduceIte, reduceCtorEq, Nat.reduceMul, Nat.reduceAdd, Nat.reduceSub, Int.reduceEq, Int.reduceLT, Int.reduceLE, Int.reduceNeg, Int.reduceAdd, Int.reduceSub, Int.reduceMul, Nat.reduceLeDiff, Int.reduceToNat, not_true_eq_false, eq_self]) | ((repeat ((fail_if_success with_reducible refine hK _ _ ?_); clear hK K)); (with_reducible refine hK _ _ ?_); clear hK K))))
  refine (bimply_c h2 k2 j2 nP _).mono ?_
  rintro v w10 ⟨rfl, h3, _⟩
  replace h3 : BuAt w6 w10 noP pb ps pl pa gc3 := h3
  rw [g_5]
  ((repeat simp only [push_cast, Nat.reduceBEq, Nat.reduceLT, Nat.reduceEqDiff, reduceIte, reduceCtorEq, Nat.reduceMul, Nat.reduceAdd, Nat.reduceSub, Int.reduceEq, Int.reduceLT, Int.reduceLE, Int.reduceNeg, Int.reduceAdd, Int.reduceSub, Int.reduceMul, Nat.reduceLeDiff, Int.reduceToNat, not_true_eq_false, eq_self]); (repeat (first | (with_reducible first | (refine hK _ _ ?_; clear hK K) | refine (show ∀ σ' w', _ → K σ' w' from by assumption) _ _ ?_ | refine W_seq_k fun K hK => ?_ | refine W_block_k fun K hK => ?_ | refine W_skip ?_ | refine W_ret ?_) | ((first | ((with_reducible refine W_id ?_); refine W_reg (by decide) (by rfl) ?_) | (with_reducible first | refine W_cond ?_ | refine hZ _ _ ?_ | refine W_exit ?_ | refine Wo_id ?_)); repeat1' simp only [push_cast, Nat.reduceBEq, Nat.reduceLT, Nat.reduceEqDiff, reduceIte, reduceCtorEq, Nat.reduceMul, Nat.reduceAdd, Nat.reduceSub, Int.reduceEq, Int.reduceLT, Int.reduceLE, Int.reduceNeg, Int.reduceAdd, Int.reduceSub, Int.reduceMul, Nat.reduceLeDiff, Int.reduceToNat, not_true_eq_false, eq_self]) | ((repeat ((fail_if_success with_reducible refine hK _ _ ?_); clear hK K)); (with_reducible refine hK _ _ ?_); clear hK K))))
  refine (bforms_c h3).mono ?_
  rintro v w11 ⟨rfl, rfl⟩
  ((repeat simp only [push_cast, Nat.reduceBEq, Nat.reduceLT, Nat.reduceEqDiff, reduceIte, reduceCtorEq, Nat.reduceMul, Nat.reduceAdd, Nat.reduceSub, Int.reduceEq, Int.reduceLT, Int.reduceLE, Int.reduceNeg, Int.reduceAdd, Int.reduceSub, Int.reduceMul, Nat.reduceLeDiff, Int.reduceToNat]); (repeat (first | (with_reducible first | (refine hK _ _ ?_; clear hK K) | refine (show ∀ σ' w', _ → K σ' w' from by assumption) _ _ ?_ | refine W_seq_k fun K hK => ?_ | refine W_block_k fun K hK => ?_ | refine W_skip ?_ | refine W_ret ?_) | ((first | ((with_reducible refine W_id ?_); refine W_reg (by decide) (by rfl) ?_) | (with_reducible first | refine W_cond ?_ | refine hZ _ _ ?_ | refine W_exit ?_ | refine Wo_id ?_)); repeat1' simp only [push_cast, Nat.reduceBEq, Nat.reduceLT, Nat.reduceEqDiff, reduceIte, reduceCtorEq, Nat.reduceMul, Nat.reduceAdd, Nat.reduceSub, Int.reduceEq, Int.reduceLT, Int.reduceLE, Int.reduceNeg, Int.reduceAdd, Int.reduceSub, Int.reduceMul, Nat.reduceLeDiff, Int.reduceToNat]) | ((repeat ((fail_if_success with_reducible refine hK _ _ ?_); clear hK K)); (with_reducible refine hK _ _ ?_); clear hK K))))
  refine (bfpush_c h3 c3 3).mono ?_
  rintro v w12 ⟨rfl, h4, _⟩
  replace h4 : BuAt w6 w12 noP pb ps pl pa gc4 := h4
  rw [g_6]
  ((repeat simp only [push_cast, Nat.reduceBEq, Nat.reduceLT, Nat.reduceEqDiff, reduceIte, reduceCtorEq, Nat.reduceMul, Nat.reduceAdd, Nat.reduceSub, Int.reduceEq, Int.reduceLT, Int.reduceLE, Int.reduceNeg, Int.reduceAdd, Int.reduceSub, Int.reduceMul, Nat.reduceLeDiff, Int.reduceToNat, not_true_eq_false, eq_self]); (repeat (first | (with_reducible first | (refine hK _ _ ?_; clear hK K) | refine (show ∀ σ' w', _ → K σ' w' from by assumption) _ _ ?_ | refine W_seq_k fun K hK => ?_ | refine W_block_k fun K hK => ?_ | refine W_skip ?_ | refine W_ret ?_) | ((first | ((with_reducible refine W_id ?_); refine W_reg (by decide) (by rfl) ?_) | (with_reducible first | refine W_cond ?_ | refine hZ _ _ ?_ | refine W_exit ?_ | refine Wo_id ?_)); repeat1' simp only [push_cast, Nat.reduceBEq, Nat.reduceLT, Nat.reduceEqDiff, reduceIte, reduceCtorEq, Nat.reduceMul, Nat.reduceAdd, Nat.reduceSub, Int.reduceEq, Int.reduceLT, Int.reduceLE, Int.reduceNeg, Int.reduceAdd, Int.reduceSub, Int.reduceMul, Nat.reduceLeDiff, Int.reduceToNat, not_true_eq_false, eq_self]) | ((repeat ((fail_if_success with_reducible refine hK _ _ ?_); clear hK K)); (with_reducible refine hK _ _ ?_); clear hK K))))
  refine (bstack_c h4).mono ?_
  rintro v w13 ⟨rfl, rfl⟩
  ((repeat simp only [push_cast, Nat.reduceBEq, Nat.reduceLT, Nat.reduceEqDiff, reduceIte, reduceCtorEq, Nat.reduceMul, Nat.reduceAdd, Nat.reduceSub, Int.reduceEq, Int.reduceLT, Int.reduceLE, Int.reduceNeg, Int.reduceAdd, Int.reduceSub, Int.reduceMul, Nat.reduceLeDiff, Int.reduceToNat]); (repeat (first | (with_reducible first | (refine hK _ _ ?_; clear hK K) | refine (show ∀ σ' w', _ → K σ' w' from by assumption) _ _ ?_ | refine W_seq_k fun K hK => ?_ | refine W_block_k fun K hK => ?_ | refine W_skip ?_ | refine W_ret ?_) | ((first | ((with_reducible refine W_id ?_); refine W_reg (by decide) (by rfl) ?_) | (with_reducible first | refine W_cond ?_ | refine hZ _ _ ?_ | refine W_exit ?_ | refine Wo_id ?_)); repeat1' simp only [push_cast, Nat.reduceBEq, Nat.reduceLT, Nat.reduceEqDiff, reduceIte, reduceCtorEq, Nat.reduceMul, Nat.reduceAdd, Nat.reduceSub, Int.reduceEq, Int.reduceLT, Int.reduceLE, Int.reduceNeg, Int.reduceAdd, Int.reduceSub, Int.reduceMul, Nat.reduceLeDiff, Int.reduceToNat]) | ((repeat ((fail_if_success with_reducible refine hK _ _ ?_); clear hK K)); (with_reducible refine hK _ _ ?_); clear hK K))))
  refine (bpop_c h4 c4).mono ?_
  rintro v w14 ⟨rfl, h5, _⟩
  replace h5 : BuAt w6 w14 noP pb ps pl pa gc5 := h5
  rw [g_7]
  ((repeat simp only [push_cast, Nat.reduceBEq, Nat.reduceLT, Nat.reduceEqDiff, reduceIte, reduceCtorEq, Nat.reduceMul, Nat.reduceAdd, Nat.reduceSub, Int.reduceEq, Int.reduceLT, Int.reduceLE, Int.reduceNeg, Int.reduceAdd, Int.reduceSub, Int.reduceMul, Nat.reduceLeDiff, Int.reduceToNat, not_true_eq_false, eq_self]); (repeat (first | (with_reducible first | (refine hK _ _ ?_; clear hK K) | refine (show ∀ σ' w', _ → K σ' w' from by assumption) _ _ ?_ | refine W_seq_k fun K hK => ?_ | refine W_block_k fun K hK => ?_ | refine W_skip ?_ | refine W_ret ?_) | ((first | ((with_reducible refine W_id ?_); refine W_reg (by decide) (by rfl) ?_) | (with_reducible first | refine W_cond ?_ | refine hZ _ _ ?_ | refine W_exit ?_ | refine Wo_id ?_)); repeat1' simp only [push_cast, Nat.reduceBEq, Nat.reduceLT, Nat.reduceEqDiff, reduceIte, reduceCtorEq, Nat.reduceMul, Nat.reduceAdd, Nat.reduceSub, Int.reduceEq, Int.reduceLT, Int.reduceLE, Int.reduceNeg, Int.reduceAdd, Int.reduceSub, Int.reduceMul, Nat.reduceLeDiff, Int.reduceToNat, not_true_eq_false, eq_self]) | ((repeat ((fail_if_success with_reducible refine hK _ _ ?_); clear hK K)); (with_reducible refine hK _ _ ?_); clear hK K))))
  refine (brebuild_c h5 c5 c5j nP).mono ?_
  rintro v w15 ⟨h6, _⟩
  replace h6 : BuAt w6 w15 noP pb ps pl pa gc6 := h6
  ((repeat simp only [push_cast, Nat.reduceBEq, Nat.reduceLT, Nat.reduceEqDiff, reduceIte, reduceCtorEq, Nat.reduceMul, Nat.reduceAdd, Nat.reduceSub, Int.reduceEq, Int.reduceLT, Int.reduceLE, Int.reduceNeg, Int.reduceAdd, Int.reduceSub, Int.reduceMul, Nat.reduceLeDiff, Int.reduceToNat]); (repeat (first | (with_reducible first | (refine hK _ _ ?_; clear hK K) | refine (show ∀ σ' w', _ → K σ' w' from by assumption) _ _ ?_ | refine W_seq_k fun K hK => ?_ | refine W_block_k fun K hK => ?_ | refine W_skip ?_ | refine W_ret ?_) | ((first | ((with_reducible refine W_id ?_); refine W_reg (by decide) (by rfl) ?_) | (with_reducible first | refine W_cond ?_ | refine hZ _ _ ?_ | refine W_exit ?_ | refine Wo_id ?_)); repeat1' simp only [push_cast, Nat.reduceBEq, Nat.reduceLT, Nat.reduceEqDiff, reduceIte, reduceCtorEq, Nat.reduceMul, Nat.reduceAdd, Nat.reduceSub, Int.reduceEq, Int.reduceLT, Int.reduceLE, Int.reduceNeg, Int.reduceAdd, Int.reduceSub, Int.reduceMul, Nat.reduceLeDiff, Int.reduceToNat]) | ((repeat ((fail_if_success with_reducible refine hK _ _ ?_); clear hK K)); (with_reducible refine hK _ _ ?_); clear hK K))))
  refine (bforms_c h6).mono ?_
  rintro v w16 ⟨rfl, rfl⟩
  ((repeat simp only [push_cast, Nat.reduceBEq, Nat.reduceLT, Nat.reduceEqDiff, reduceIte, reduceCtorEq, Nat.reduceMul, Nat.reduceAdd, Nat.reduceSub, Int.reduceEq, Int.reduceLT, Int.reduceLE, Int.reduceNeg, Int.reduceAdd, Int.reduceSub, Int.reduceMul, Nat.reduceLeDiff, Int.reduceToNat]); (repeat (first | (with_reducible first | (refine hK _ _ ?_; clear hK K) | refine (show ∀ σ' w', _ → K σ' w' from by assumption) _ _ ?_ | refine W_seq_k fun K hK => ?_ | refine W_block_k fun K hK => ?_ | refine W_skip ?_ | refine W_ret ?_) | ((first | ((with_reducible refine W_id ?_); refine W_reg (by decide) (by rfl) ?_) | (with_reducible first | refine W_cond ?_ | refine hZ _ _ ?_ | refine W_exit ?_ | refine Wo_id ?_)); repeat1' simp only [push_cast, Nat.reduceBEq, Nat.reduceLT, Nat.reduceEqDiff, reduceIte, reduceCtorEq, Nat.reduceMul, Nat.reduceAdd, Nat.reduceSub, Int.reduceEq, Int.reduceLT, Int.reduceLE, Int.reduceNeg, Int.reduceAdd, Int.reduceSub, Int.reduceMul, Nat.reduceLeDiff, Int.reduceToNat]) | ((repeat ((fail_if_success with_reducible refine hK _ _ ?_); clear hK K)); (with_reducible refine hK _ _ ?_); clear hK K))))
  refine (bfat_c h6 0).mono ?_
  rintro v w17 ⟨rfl, hx⟩
  have h7 := h6.pass hx
  rw [g_8, g_9]
  ((repeat simp only [push_cast, Nat.reduceBEq, Nat.reduceLT, Nat.reduceEqDiff, reduceIte, reduceCtorEq, Nat.reduceMul, Nat.reduceAdd, Nat.reduceSub, Int.reduceEq, Int.reduceLT, Int.reduceLE, Int.reduceNeg, Int.reduceAdd, Int.reduceSub, Int.reduceMul, Nat.reduceLeDiff, Int.reduceToNat, ext0, ext1]); (repeat (first | (with_reducible first | (refine hK _ _ ?_; clear hK K) | refine (show ∀ σ' w', _ → K σ' w' from by assumption) _ _ ?_ | refine W_seq_k fun K hK => ?_ | refine W_block_k fun K hK => ?_ | refine W_skip ?_ | refine W_ret ?_) | ((first | ((with_reducible refine W_id ?_); refine W_reg (by decide) (by rfl) ?_) | (with_reducible first | refine W_cond ?_ | refine hZ _ _ ?_ | refine W_exit ?_ | refine Wo_id ?_)); repeat1' simp only [push_cast, Nat.reduceBEq, Nat.reduceLT, Nat.reduceEqDiff, reduceIte, reduceCtorEq, Nat.reduceMul, Nat.reduceAdd, Nat.reduceSub, Int.reduceEq, Int.reduceLT, Int.reduceLE, Int.reduceNeg, Int.reduceAdd, Int.reduceSub, Int.reduceMul, Nat.reduceLeDiff, Int.reduceToNat, ext0, ext1]) | ((repeat ((fail_if_success with_reducible refine hK _ _ ?_); clear hK K)); (with_reducible refine hK _ _ ?_); clear hK K))))
  have hw17 := hw6.trans h7.out
  clear h0 h1 h2 h3 h4 h5 h6 h7 hx hw6
  have hg17 := hg.ext hw17
  refine bnew_c.mono ?_
  rintro v w18 ⟨pb, ps, pl, pa, rfl, h0⟩
  ((repeat simp only [push_cast, Nat.reduceBEq, Nat.reduceLT, Nat.reduceEqDiff, reduceIte, reduceCtorEq, Nat.reduceMul, Nat.reduceAdd, Nat.reduceSub, Int.reduceEq, Int.reduceLT, Int.reduceLE, Int.reduceNeg, Int.reduceAdd, Int.reduceSub, Int.reduceMul, Nat.reduceLeDiff, Int.reduceToNat]); (repeat (first | (with_reducible first | (refine hK _ _ ?_; clear hK K) | refine (show ∀ σ' w', _ → K σ' w' from by assumption) _ _ ?_ | refine W_seq_k fun K hK => ?_ | refine W_block_k fun K hK => ?_ | refine W_skip ?_ | refine W_ret ?_) | ((first | ((with_reducible refine W_id ?_); refine W_reg (by decide) (by rfl) ?_) | (with_reducible first | refine W_cond ?_ | refine hZ _ _ ?_ | refine W_exit ?_ | refine Wo_id ?_)); repeat1' simp only [push_cast, Nat.reduceBEq, Nat.reduceLT, Nat.reduceEqDiff, reduceIte, reduceCtorEq, Nat.reduceMul, Nat.reduceAdd, Nat.reduceSub, Int.reduceEq, Int.reduceLT, Int.reduceLE, Int.reduceNeg, Int.reduceAdd, Int.reduceSub, Int.reduceMul, Nat.reduceLeDiff, Int.reduceToNat]) | ((repeat ((fail_if_success with_reducible refine hK _ _ ?_); clear hK K)); (with_reducible refine hK _ _ ?_); clear hK K))))
  refine (bimply_c h0 k0 j0 nP _).mono ?_
  rintro v w19 ⟨rfl, h1, _⟩
  replace h1 : BuAt w17 w19 noP pb ps pl pa gb1 := h1
  ((repeat simp only [push_cast, Nat.reduceBEq, Nat.reduceLT, Nat.reduceEqDiff, reduceIte, reduceCtorEq, Nat.reduceMul, Nat.reduceAdd, Nat.reduceSub, Int.reduceEq, Int.reduceLT, Int.reduceLE, Int.reduceNeg, Int.reduceAdd, Int.reduceSub, Int.reduceMul, Nat.reduceLeDiff, Int.reduceToNat]); (repeat (first | (with_reducible first | (refine hK _ _ ?_; clear hK K) | refine (show ∀ σ' w', _ → K σ' w' from by assumption) _ _ ?_ | refine W_seq_k fun K hK => ?_ | refine W_block_k fun K hK => ?_ | refine W_skip ?_ | refine W_ret ?_) | ((first | ((with_reducible refine W_id ?_); refine W_reg (by decide) (by rfl) ?_) | (with_reducible first | refine W_cond ?_ | refine hZ _ _ ?_ | refine W_exit ?_ | refine Wo_id ?_)); repeat1' simp only [push_cast, Nat.reduceBEq, Nat.reduceLT, Nat.reduceEqDiff, reduceIte, reduceCtorEq, Nat.reduceMul, Nat.reduceAdd, Nat.reduceSub, Int.reduceEq, Int.reduceLT, Int.reduceLE, Int.reduceNeg, Int.reduceAdd, Int.reduceSub, Int.reduceMul, Nat.reduceLeDiff, Int.reduceToNat]) | ((repeat ((fail_if_success with_reducible refine hK _ _ ?_); clear hK K)); (with_reducible refine hK _ _ ?_); clear hK K))))
  refine (bimply_c h1 k1 j1 nP _).mono ?_
  rintro v w20 ⟨rfl, h2, _⟩
  replace h2 : BuAt w17 w20 noP pb ps pl pa gd2 := h2
  ((repeat simp only [push_cast, Nat.reduceBEq, Nat.reduceLT, Nat.reduceEqDiff, reduceIte, reduceCtorEq, Nat.reduceMul, Nat.reduceAdd, Nat.reduceSub, Int.reduceEq, Int.reduceLT, Int.reduceLE, Int.reduceNeg, Int.reduceAdd, Int.reduceSub, Int.reduceMul, Nat.reduceLeDiff, Int.reduceToNat]); (repeat (first | (with_reducible first | (refine hK _ _ ?_; clear hK K) | refine (show ∀ σ' w', _ → K σ' w' from by assumption) _ _ ?_ | refine W_seq_k fun K hK => ?_ | refine W_block_k fun K hK => ?_ | refine W_skip ?_ | refine W_ret ?_) | ((first | ((with_reducible refine W_id ?_); refine W_reg (by decide) (by rfl) ?_) | (with_reducible first | refine W_cond ?_ | refine hZ _ _ ?_ | refine W_exit ?_ | refine Wo_id ?_)); repeat1' simp only [push_cast, Nat.reduceBEq, Nat.reduceLT, Nat.reduceEqDiff, reduceIte, reduceCtorEq, Nat.reduceMul, Nat.reduceAdd, Nat.reduceSub, Int.reduceEq, Int.reduceLT, Int.reduceLE, Int.reduceNeg, Int.reduceAdd, Int.reduceSub, Int.reduceMul, Nat.reduceLeDiff, Int.reduceToNat]) | ((repeat ((fail_if_success with_reducible refine hK _ _ ?_); clear hK K)); (with_reducible refine hK _ _ ?_); clear hK K))))
  refine (breset_c h2 d2 hg17 d2n d2m).mono ?_
  rintro v w21 ⟨h3, _⟩
  replace h3 : BuAt w17 w21 noP pb ps pl pa gd3 := h3
  ((repeat simp only [push_cast, Nat.reduceBEq, Nat.reduceLT, Nat.reduceEqDiff, reduceIte, reduceCtorEq, Nat.reduceMul, Nat.reduceAdd, Nat.reduceSub, Int.reduceEq, Int.reduceLT, Int.reduceLE, Int.reduceNeg, Int.reduceAdd, Int.reduceSub, Int.reduceMul, Nat.reduceLeDiff, Int.reduceToNat]); (repeat (first | (with_reducible first | (refine hK _ _ ?_; clear hK K) | refine (show ∀ σ' w', _ → K σ' w' from by assumption) _ _ ?_ | refine W_seq_k fun K hK => ?_ | refine W_block_k fun K hK => ?_ | refine W_skip ?_ | refine W_ret ?_) | ((first | ((with_reducible refine W_id ?_); refine W_reg (by decide) (by rfl) ?_) | (with_reducible first | refine W_cond ?_ | refine hZ _ _ ?_ | refine W_exit ?_ | refine Wo_id ?_)); repeat1' simp only [push_cast, Nat.reduceBEq, Nat.reduceLT, Nat.reduceEqDiff, reduceIte, reduceCtorEq, Nat.reduceMul, Nat.reduceAdd, Nat.reduceSub, Int.reduceEq, Int.reduceLT, Int.reduceLE, Int.reduceNeg, Int.reduceAdd, Int.reduceSub, Int.reduceMul, Nat.reduceLeDiff, Int.reduceToNat]) | ((repeat ((fail_if_success with_reducible refine hK _ _ ?_); clear hK K)); (with_reducible refine hK _ _ ?_); clear hK K))))
  refine (bmode_c h3).mono ?_
  rintro v w22 ⟨rfl, rfl⟩
  rw [g_10]
  ((repeat simp only [push_cast, Nat.reduceBEq, Nat.reduceLT, Nat.reduceEqDiff, reduceIte, reduceCtorEq, Nat.reduceMul, Nat.reduceAdd, Nat.reduceSub, Int.reduceEq, Int.reduceLT, Int.reduceLE, Int.reduceNeg, Int.reduceAdd, Int.reduceSub, Int.reduceMul, Nat.reduceLeDiff, Int.reduceToNat]); (repeat (first | (with_reducible first | (refine hK _ _ ?_; clear hK K) | refine (show ∀ σ' w', _ → K σ' w' from by assumption) _ _ ?_ | refine W_seq_k fun K hK => ?_ | refine W_block_k fun K hK => ?_ | refine W_skip ?_ | refine W_ret ?_) | ((first | ((with_reducible refine W_id ?_); refine W_reg (by decide) (by rfl) ?_) | (with_reducible first | refine W_cond ?_ | refine hZ _ _ ?_ | refine W_exit ?_ | refine Wo_id ?_)); repeat1' simp only [push_cast, Nat.reduceBEq, Nat.reduceLT, Nat.reduceEqDiff, reduceIte, reduceCtorEq, Nat.reduceMul, Nat.reduceAdd, Nat.reduceSub, Int.reduceEq, Int.reduceLT, Int.reduceLE, Int.reduceNeg, Int.reduceAdd, Int.reduceSub, Int.reduceMul, Nat.reduceLeDiff, Int.reduceToNat]) | ((repeat ((fail_if_success with_reducible refine hK _ _ ?_); clear hK K)); (with_reducible refine hK _ _ ?_); clear hK K))))
  refine (bimply_c h3 d3 d3j nP _).mono ?_
  rintro v w23 ⟨rfl, h4, _⟩
  replace h4 : BuAt w17 w23 noP pb ps pl pa gd4 := h4
  ((repeat simp only [push_cast, Nat.reduceBEq, Nat.reduceLT, Nat.reduceEqDiff, reduceIte, reduceCtorEq, Nat.reduceMul, Nat.reduceAdd, Nat.reduceSub, Int.reduceEq, Int.reduceLT, Int.reduceLE, Int.reduceNeg, Int.reduceAdd, Int.reduceSub, Int.reduceMul, Nat.reduceLeDiff, Int.reduceToNat]); (repeat (first | (with_reducible first | (refine hK _ _ ?_; clear hK K) | refine (show ∀ σ' w', _ → K σ' w' from by assumption) _ _ ?_ | refine W_seq_k fun K hK => ?_ | refine W_block_k fun K hK => ?_ | refine W_skip ?_ | refine W_ret ?_) | ((first | ((with_reducible refine W_id ?_); refine W_reg (by decide) (by rfl) ?_) | (with_reducible first | refine W_cond ?_ | refine hZ _ _ ?_ | refine W_exit ?_ | refine Wo_id ?_)); repeat1' simp only [push_cast, Nat.reduceBEq, Nat.reduceLT, Nat.reduceEqDiff, reduceIte, reduceCtorEq, Nat.reduceMul, Nat.reduceAdd, Nat.reduceSub, Int.reduceEq, Int.reduceLT, Int.reduceLE, Int.reduceNeg, Int.reduceAdd, Int.reduceSub, Int.reduceMul, Nat.reduceLeDiff, Int.reduceToNat]) | ((repeat ((fail_if_success with_reducible refine hK _ _ ?_); clear hK K)); (with_reducible refine hK _ _ ?_); clear hK K))))
  refine (breset_c h4 d4 hg17 d4n d4m).mono ?_
  rintro v w24 ⟨h5, _⟩
  replace h5 : BuAt w17 w24 noP pb ps pl pa gd5 := h5
  ((repeat simp only [push_cast, Nat.reduceBEq, Nat.reduceLT, Nat.reduceEqDiff, reduceIte, reduceCtorEq, Nat.reduceMul, Nat.reduceAdd, Nat.reduceSub, Int.reduceEq, Int.reduceLT, Int.reduceLE, Int.reduceNeg, Int.reduceAdd, Int.reduceSub, Int.reduceMul, Nat.reduceLeDiff, Int.reduceToNat, not_true_eq_false, eq_self, not_false_eq_true]); (repeat (first | (with_reducible first | (refine hK _ _ ?_; clear hK K) | refine (show ∀ σ' w', _ → K σ' w' from by assumption) _ _ ?_ | refine W_seq_k fun K hK => ?_ | refine W_block_k fun K hK => ?_ | refine W_skip ?_ | refine W_ret ?_) | ((first | ((with_reducible refine W_id ?_); refine W_reg (by decide) (by rfl) ?_) | (with_reducible first | refine W_cond ?_ | refine hZ _ _ ?_ | refine W_exit ?_ | refine Wo_id ?_)); repeat1' simp only [push_cast, Nat.reduceBEq, Nat.reduceLT, Nat.reduceEqDiff, reduceIte, reduceCtorEq, Nat.reduceMul, Nat.reduceAdd, Nat.reduceSub, Int.reduceEq, Int.reduceLT, Int.reduceLE, Int.reduceNeg, Int.reduceAdd, Int.reduceSub, Int.reduceMul, Nat.reduceLeDiff, Int.reduceToNat, not_true_eq_false, eq_self, not_false_eq_true]) | ((repeat ((fail_if_success with_reducible refine hK _ _ ?_); clear hK K)); (with_reducible refine hK _ _ ?_); clear hK K))))
  refine (bmode_c h5).mono ?_
  rintro v w25 ⟨rfl, rfl⟩
  rw [g_11]
  ((repeat simp only [push_cast, Nat.reduceBEq, Nat.reduceLT, Nat.reduceEqDiff, reduceIte, reduceCtorEq, Nat.reduceMul, Nat.reduceAdd, Nat.reduceSub, Int.reduceEq, Int.reduceLT, Int.reduceLE, Int.reduceNeg, Int.reduceAdd, Int.reduceSub, Int.reduceMul, Nat.reduceLeDiff, Int.reduceToNat, not_true_eq_false, eq_self, not_false_eq_true]); (repeat (first | (with_reducible first | (refine hK _ _ ?_; clear hK K) | refine (show ∀ σ' w', _ → K σ' w' from by assumption) _ _ ?_ | refine W_seq_k fun K hK => ?_ | refine W_block_k fun K hK => ?_ | refine W_skip ?_ | refine W_ret ?_) | ((first | ((with_reducible refine W_id ?_); refine W_reg (by decide) (by rfl) ?_) | (with_reducible first | refine W_cond ?_ | refine hZ _ _ ?_ | refine W_exit ?_ | refine Wo_id ?_)); repeat1' simp only [push_cast, Nat.reduceBEq, Nat.reduceLT, Nat.reduceEqDiff, reduceIte, reduceCtorEq, Nat.reduceMul, Nat.reduceAdd, Nat.reduceSub, Int.reduceEq, Int.reduceLT, Int.reduceLE, Int.reduceNeg, Int.reduceAdd, Int.reduceSub, Int.reduceMul, Nat.reduceLeDiff, Int.reduceToNat, not_true_eq_false, eq_self, not_false_eq_true]) | ((repeat ((fail_if_success with_reducible refine hK _ _ ?_); clear hK K)); (with_reducible refine hK _ _ ?_); clear hK K))))
  refine (berr0_c h5 g_12).mono ?_
  rintro v w26 ⟨rfl, hx⟩
  have h6 := h5.pass hx
  ((repeat simp only [push_cast, Nat.reduceBEq, Nat.reduceLT, Nat.reduceEqDiff, reduceIte, reduceCtorEq, Nat.reduceMul, Nat.reduceAdd, Nat.reduceSub, Int.reduceEq, Int.reduceLT, Int.reduceLE, Int.reduceNeg, Int.reduceAdd, Int.reduceSub, Int.reduceMul, Nat.reduceLeDiff, Int.reduceToNat, not_true_eq_false, eq_self, not_false_eq_true]); (repeat (first | (with_reducible first | (refine hK _ _ ?_; clear hK K) | refine (show ∀ σ' w', _ → K σ' w' from by assumption) _ _ ?_ | refine W_seq_k fun K hK => ?_ | refine W_block_k fun K hK => ?_ | refine W_skip ?_ | refine W_ret ?_) | ((first | ((with_reducible refine W_id ?_); refine W_reg (by decide) (by rfl) ?_) | (with_reducible first | refine W_cond ?_ | refine hZ _ _ ?_ | refine W_exit ?_ | refine Wo_id ?_)); repeat1' simp only [push_cast, Nat.reduceBEq, Nat.reduceLT, Nat.reduceEqDiff, reduceIte, reduceCtorEq, Nat.reduceMul, Nat.reduceAdd, Nat.reduceSub, Int.reduceEq, Int.reduceLT, Int.reduceLE, Int.reduceNeg, Int.reduceAdd, Int.reduceSub, Int.reduceMul, Nat.reduceLeDiff, Int.reduceToNat, not_true_eq_false, eq_self, not_false_eq_true]) | ((repeat ((fail_if_success with_reducible refine hK _ _ ?_); clear hK K)); (with_reducible refine hK _ _ ?_); clear hK K))))
  exact hw17.trans h6.out
end Go.Proofs.YtgnnlaeikcnhcaaGreatDoor
end
section
set_option linter.unusedSimpArgs false
set_option linter.unusedVariables false
namespace Go.Vk
open Go
theorem byN_at {H : Type} (s : ByteArray) (zd : DataW H) : (DataW.map (byL.map fun x => ((Lit.string x.1.data.toList : Lit), (DataW.lit (.int .i64 x.2) : DataW H)))).atKey (.string s.data.toList) zd = (match byN s with | some n => .lit (.int .i64 n) | none => zd) := by
  unfold DataW.atKey byN
  simp only [List.find?_map, Function.comp_def, Lit.sameKey]
  have e : (fun x : ByteArray × Int => x.1.data.toList == s.data.toList) = fun x => decide (x.1 = s) := by
    funext x
    by_cases h : x.1 = s
    · simp [h]
    · have : x.1.data.toList ≠ s.data.toList := fun h2 => h (ByteArray.ext (Array.toList_inj.1 h2))
      simp only [h, decide_false, beq_eq_false_iff_ne, ne_eq]
      exact this
  rw [e]
  cases byL.find? fun x => decide (x.1 = s) <;> rfl
end Go.Vk
namespace Go.Proofs.YtgnnlaeikcnhcaaGreatDoor
open Go Go.Vk Go.WideElems Go.ChangeMaps
open Go.WideMaps (string_law keyOf_string_mk)
theorem gBy : Tryz.prog.globalNamed "lazaret/builder.by" = some 2 := by kernel_rfl
theorem gByT : (Tryz.prog.globals[2]?).map (·.type) = some 170 := by kernel_rfl
theorem by_laid {H : Type} : (Rows.laid_lazaret_builder_by : DataW H) = .map (byL.map fun x => ((Lit.string x.1.data.toList : Lit), (DataW.lit (.int .i64 x.2) : DataW H))) := rfl
theorem keysS : Go.WideMaps.KeyLaw Tryz.prog 9 := string_law Tryz.underlying9
theorem gb_of_var {W : World} {cs : Array Value} {sp : Nat → Bool} {held : Bool} {fuel : Nat} {x : List MemPlace} {enc : TypeId × Value → Unit}
    (hvar : W.var? Tryz.prog "lazaret/builder.by" = some cs) (hd : DataW.trod enc Tryz.prog W 0 sp held fuel 170 cs.toList = some (Rows.laid_lazaret_builder_by, x)) : GB W := by
  rcases WideElems.open_map Tryz.underlying170 hd with ⟨_, hx⟩ | ⟨bm, es, clock, m, rfl, hcs, hb, _, F, hx⟩
  · simp [by_laid] at hx
  simp only [Prod.mk.injEq] at hx
  have hcell : W.cell? ⟨2, 0, none⟩ = some (.map (some bm)) := by
    have := World.var?_cell gBy hvar 0
    rw [Array.eq_one_of_toList hcs] at this
    simpa using this
  refine ⟨bm, hcell, fun w' hx' s hs => ?_⟩
  have hb' : w'.heap[bm]? = some (.map es clock) := by
    have hlt : bm < W.heap.size := (Array.getElem?_eq_some_iff.1 hb).1
    rw [← hb]
    exact hx'.blk hb ▸ hb.symm
  have zero : (zeroValue 3).run Tryz.prog w' = .ok (.int .i64 0) w' := by kernel_rfl
  have hk := keyOf_string_mk (s := s) (P := Tryz.prog) Tryz.underlying9 (by unfold maxLen; omega)
  rcases fit_lookup_ok (w := w') keysS Tryz.underlying170 zero hb' F hk with ⟨hrun, hat⟩ | ⟨v, y, hrun, hRv, hat, _⟩
  · have := hat .nil
    rw [← hx.1, by_laid, byN_at] at this
    cases hn : byN s with
    | none => exact hrun
    | some n => rw [hn] at this; cases this
  · obtain ⟨r, rfl, rfl, _⟩ := elemAt_int Tryz.underlying3 hRv
    have := hat .nil
    rw [← hx.1, by_laid, byN_at] at this
    cases hn : byN s with
    | none => rw [hn] at this; cases this
    | some n =>
      rw [hn] at this
      cases this
      exact hrun
/-- the rows of the builder that lay the error's type and the map -/
theorem gb_of {W : World} (h : laidMetH Tryz.prog [("errors.errorType", Rows.laid_errors_errorType), ("lazaret/builder.by", Rows.laid_lazaret_builder_by)] W) : GB W := by
  have h' : laidMet Tryz.prog [("lazaret/builder.by", Rows.laid_lazaret_builder_by)] W ∧ _ := h
  obtain ⟨⟨ps, ⟨g', t', cs, fuel, p, q, hg', ht', hvar, hd, _, _⟩, _⟩, _⟩ := h'
  obtain rfl := Option.some.inj (gBy.symm.trans hg')
  obtain rfl := Option.some.inj (gByT.symm.trans ht')
  exact gb_of_var hvar hd
end Go.Proofs.YtgnnlaeikcnhcaaGreatDoor
end
section
set_option linter.unusedSimpArgs false
set_option linter.unusedVariables false
namespace Go.Proofs.YtgnnlaeikcnhcaaGreatDoor
open Go Go.Vk Go.RowKit Go.Extern.Stop Go.Stop Go.Extern
def hv (t : Nat) : Value := .pointer (some ⟨5, t, none⟩)
theorem er_valueOfP (t : Addr) (w : World) : (ReflectliteValue.unpack (.iface 129 (.pointer (some t)))).run Tryz.prog w
    = .ok (.agg #[.pointer (some ⟨5, 129, none⟩), .pointer (some ⟨w.heap.size, 0, none⟩), .int .u64 150]) (w.alloc (.cells #[.pointer (some t)] 129)) := by kernel_rfl
theorem er_typeP (a : Addr) (w : World) : (ReflectliteValue.methodAny (ReflectliteValue.valueError "reflectlite.Value.Type" 0) (fun t _ _ _ => ReflectliteType.toType t) #[.agg #[.pointer (some ⟨5, 129, none⟩), .pointer (some a), .int .u64 150]]).run Tryz.prog w
    = .ok (.iface 192 (.agg #[.pointer (some ⟨5, 129, none⟩)])) w := by kernel_rfl
theorem er_mKind (h : Value) (w : World) : (Go.method 351 192 (.agg #[h]) "Kind").run Tryz.prog w = .ok (269, h) w := by kernel_rfl
theorem er_mElem (h : Value) (w : World) : (Go.method 351 192 (.agg #[h]) "Elem").run Tryz.prog w = .ok (279, .agg #[h]) w := by kernel_rfl
theorem er_mImpl (h : Value) (w : World) : (Go.method 351 192 (.agg #[h]) "Implements").run Tryz.prog w = .ok (280, .agg #[h]) w := by kernel_rfl
theorem er_mAss (h : Value) (w : World) : (Go.method 351 192 (.agg #[h]) "AssignableTo").run Tryz.prog w = .ok (277, .agg #[h]) w := by kernel_rfl
theorem er_kindP (w : World) : ((ReflectliteType.abiMethod fun t => (fun a : Nat => Value.int IntKind.u8 (a : Int)) <$> Rtype.kind t) #[.pointer (some ⟨5, 129, none⟩)]).run Tryz.prog w = .ok (.int .u8 22) w := by kernel_rfl
theorem er_kindE (w : World) : ((ReflectliteType.abiMethod fun t => (fun a : Nat => Value.int IntKind.u8 (a : Int)) <$> Rtype.kind t) #[.pointer (some ⟨5, 28, none⟩)]).run Tryz.prog w = .ok (.int .u8 2) w := by kernel_rfl
theorem er_rlm (z : Sem Value) (f : TypeId → Addr → Nat → Nat → Sem Value) (v : Value) :
    ReflectliteValue.method z f #[v] = (do match ← ReflectliteValue.parts v with | none => z | some (t, a, fl) => f t a fl (fl % 32)) := rfl
theorem er_partsP (a : Addr) (w : World) : (ReflectliteValue.parts (.agg #[.pointer (some ⟨5, 129, none⟩), .pointer (some a), .int .u64 150])).run Tryz.prog w = .ok (some (129, a, 150)) w := by kernel_rfl
theorem er_isNilP (a p : Addr) (W : World) (ha : W.cell? a = some (.pointer (some p))) :
    (ReflectliteValue.method (ReflectliteValue.valueError "reflectlite.Value.IsNil" 0) ReflectliteValue.isNil #[.agg #[.pointer (some ⟨5, 129, none⟩), .pointer (some a), .int .u64 150]]).run Tryz.prog W = .ok (.bool false) W := by
  rw [er_rlm]
  simp only [Sem.run_bind, er_partsP, Result.andThen]
  simp [ReflectliteValue.isNil, loadVar, isAgg, underlying, Tryz.underlying129, ha, Result.andThen]
theorem er_elemP (w : World) : (ReflectliteType.method ReflectliteType.elem #[.agg #[.pointer (some ⟨5, 129, none⟩)]]).run Tryz.prog w = .ok (.iface 192 (.agg #[.pointer (some ⟨5, 28, none⟩)])) w := by kernel_rfl
theorem er_implE (w : World) : (ReflectliteType.relation "Implements" ReflectliteType.implements_ #[.agg #[.pointer (some ⟨5, 28, none⟩)], .iface 192 (.agg #[.pointer (some ⟨5, 65, none⟩)])]).run Tryz.prog w = .ok (.bool true) w := by kernel_rfl
theorem er_typeOfE (v : Value) (w : World) : (ReflectliteType.typeOf #[.iface 28 v]).run Tryz.prog w = .ok (.iface 192 (.agg #[.pointer (some ⟨5, 28, none⟩)])) w := by kernel_rfl
theorem er_assE (w : World) : (ReflectliteType.relation "AssignableTo" ReflectliteType.assignableTo #[.agg #[.pointer (some ⟨5, 28, none⟩)], .iface 192 (.agg #[.pointer (some ⟨5, 28, none⟩)])]).run Tryz.prog w = .ok (.bool true) w := by kernel_rfl
theorem er_valueOfE (e : Int) (w : World) : (ReflectliteValue.unpack (.iface 28 (.int .i64 e))).run Tryz.prog w
    = .ok (.agg #[.pointer (some ⟨5, 28, none⟩), .pointer (some ⟨w.heap.size, 0, none⟩), .int .u64 130]) (w.alloc (.cells #[.int .i64 e] 28)) := by kernel_rfl
theorem er_elemOf (w : World) : (Rtype.elem? 129).run Tryz.prog w = .ok (some 28) w := by kernel_rfl
theorem er_mkE (p : Addr) (w : World) : (ReflectliteValue.mk 28 p ReflectliteValue.flagAddr).run Tryz.prog w = .ok (.agg #[.pointer (some ⟨5, 28, none⟩), .pointer (some p), .int .u64 386]) w := by kernel_rfl
theorem er_elemV (a p : Addr) (W : World) (ha : W.cell? a = some (.pointer (some p))) :
    (ReflectliteValue.method (ReflectliteValue.valueError "reflectlite.Value.Elem" 0) ReflectliteValue.elem #[.agg #[.pointer (some ⟨5, 129, none⟩), .pointer (some a), .int .u64 150]]).run Tryz.prog W
      = .ok (.agg #[.pointer (some ⟨5, 28, none⟩), .pointer (some p), .int .u64 386]) W := by
  rw [er_rlm]
  simp only [Sem.run_bind, er_partsP, Result.andThen]
  simp [ReflectliteValue.elem, loadVar, isAgg, underlying, Tryz.underlying129, ha, Result.andThen, er_elemOf, er_mkE]
theorem er_rls (v x : Value) : ReflectliteValue.set #[v, x] = (do
    let (some (dst, a, fl), some (src, b, _)) := (← ReflectliteValue.parts v, ← ReflectliteValue.parts x)
      | unsupported (.noEntry "extern/(internal/reflectlite.Value).Set.zeroValue")
    if fl / ReflectliteValue.flagAddr % 2 == 0 then unsupported (.noEntry "extern/(internal/reflectlite.Value).Set.unaddressable")
    let val ← loadVar src b
    if ← Rtype.directlyAssignable dst src then storeVar dst a val
    else if ← Rtype.implements dst src then
      if (← Rtype.kind src) == 20 then
        match val with
        | .nilIface => unsupported (.noEntry "extern/reflectlite: a nil value of one interface type handed on as a value of another")
        | _ => storeVar dst a val
      else storeVar dst a (.iface src val)
    else panicString ("reflectlite.Set: value of type " ++ (← Rtype.spelt src) ++ " is not assignable to type " ++ (← Rtype.spelt dst))
    pure (.tuple #[])) := rfl
theorem er_partsA (a : Addr) (w : World) : (ReflectliteValue.parts (.agg #[.pointer (some ⟨5, 28, none⟩), .pointer (some a), .int .u64 386])).run Tryz.prog w = .ok (some (28, a, 386)) w := by kernel_rfl
theorem er_partsE (a : Addr) (w : World) : (ReflectliteValue.parts (.agg #[.pointer (some ⟨5, 28, none⟩), .pointer (some a), .int .u64 130])).run Tryz.prog w = .ok (some (28, a, 130)) w := by kernel_rfl
theorem er_direct (w : World) : (Rtype.directlyAssignable 28 28).run Tryz.prog w = .ok true w := by kernel_rfl
theorem er_set (ta b : Addr) (e : Int) (old : Value) (W : World) (hb : W.cell? b = some (.int .i64 e)) (ht : W.cell? ta = some old) (hf : W.frozen? ta = false) :
    (ReflectliteValue.set #[.agg #[.pointer (some ⟨5, 28, none⟩), .pointer (some ta), .int .u64 386], .agg #[.pointer (some ⟨5, 28, none⟩), .pointer (some b), .int .u64 130]]).run Tryz.prog W
      = .ok (.tuple #[]) (W.setCell ta (.int .i64 e)) := by
  rw [er_rls]
  simp only [Sem.run_bind, er_partsA, er_partsE, Result.andThen]
  simp [ReflectliteValue.flagAddr, loadVar, isAgg, underlying, Tryz.underlying28, hb, Result.andThen, er_direct, storeVar, Value.cells, storeCells, Addr.add]
  rw [run_store Tryz.prog W ta _ _ (by rfl)]
  simp [ht, hf]
def asW1 (w : World) (t : Addr) : World := (w.alloc (.cells #[.pointer (some t)] 129)).alloc (.cells #[.pointer (some ⟨5, 129, none⟩), .pointer (some ⟨w.heap.size, 0, none⟩), .int .u64 150] 159)
def asW2 (w : World) (t : Addr) : World := (asW1 w t).alloc (.cells #[.pointer (some ⟨5, 129, none⟩), .pointer (some ⟨w.heap.size, 0, none⟩), .int .u64 150] 159)
def asW3 (w : World) (t : Addr) (e : Int) : World := (asW2 w t).alloc (.cells #[.int .i64 e] 28)
set_option maxHeartbeats 4000000 in
theorem as_hit (e : Int) (t : Addr) (old : Value) (w : World) (hg : w.cell? ⟨1, 0, none⟩ = some (.iface 192 (.agg #[.pointer (some ⟨5, 65, none⟩)]))) (ht0 : w.cell? t = some old) (hf0 : w.frozen? t = false) :
    Calls Tryz.prog 113 #[.iface 28 (.int .i64 e), .iface 129 (.pointer (some t))] w fun ev w' => ev = .returned (.bool true) ∧ w' = (asW3 w t e).setCell t (.int .i64 e) := by
  have hValueOf := @run_callFunc_extern Tryz.prog 152 _ (fun args => ReflectliteValue.unpack (args.getD 0 (.tuple #[]))) Tryz.func152 (by kernel_rfl) (by kernel_rfl) (by kernel_rfl) (by kernel_rfl)
  have hType := @run_callFunc_extern Tryz.prog 153 _ (ReflectliteValue.methodAny (ReflectliteValue.valueError "reflectlite.Value.Type" 0) (fun t _ _ _ => ReflectliteType.toType t)) Tryz.func153 (by kernel_rfl) (by kernel_rfl) (by kernel_rfl) (by kernel_rfl)
  have hIsNil := @run_callFunc_extern Tryz.prog 154 _ (ReflectliteValue.method (ReflectliteValue.valueError "reflectlite.Value.IsNil" 0) ReflectliteValue.isNil) Tryz.func154 (by kernel_rfl) (by kernel_rfl) (by kernel_rfl) (by kernel_rfl)
  have hKind := @run_callFunc_extern Tryz.prog 269 _ (ReflectliteType.abiMethod fun t => do pure (.int .u8 (← Rtype.kind t))) Tryz.func269 (by kernel_rfl) (by kernel_rfl) (by kernel_rfl) (by kernel_rfl)
  have htElem := @run_callFunc_extern Tryz.prog 279 _ (ReflectliteType.method ReflectliteType.elem) Tryz.func279 (by kernel_rfl) (by kernel_rfl) (by kernel_rfl) (by kernel_rfl)
  have hImpl := @run_callFunc_extern Tryz.prog 280 _ (ReflectliteType.relation "Implements" ReflectliteType.implements_) Tryz.func280 (by kernel_rfl) (by kernel_rfl) (by kernel_rfl) (by kernel_rfl)
  have hTypeOf := @run_callFunc_extern Tryz.prog 200 _ ReflectliteType.typeOf Tryz.func200 (by kernel_rfl) (by kernel_rfl) (by kernel_rfl) (by kernel_rfl)
  have hAss := @run_callFunc_extern Tryz.prog 277 _ (ReflectliteType.relation "AssignableTo" ReflectliteType.assignableTo) Tryz.func277 (by kernel_rfl) (by kernel_rfl) (by kernel_rfl) (by kernel_rfl)
  have hvElem := @run_callFunc_extern Tryz.prog 201 _ (ReflectliteValue.method (ReflectliteValue.valueError "reflectlite.Value.Elem" 0) ReflectliteValue.elem) Tryz.func201 (by kernel_rfl) (by kernel_rfl) (by kernel_rfl) (by kernel_rfl)
  have hSet := @run_callFunc_extern Tryz.prog 202 _ ReflectliteValue.set Tryz.func202 (by kernel_rfl) (by kernel_rfl) (by kernel_rfl) (by kernel_rfl)
  have k_er_typeOfE := er_typeOfE
  have k_er_mAss := er_mAss
  have k_er_assE := er_assE
  have k_er_valueOfE := er_valueOfE
  have k_er_valueOfP := er_valueOfP
  have k_er_typeP := er_typeP
  have k_er_mKind := er_mKind
  have k_er_mElem := er_mElem
  have k_er_mImpl := er_mImpl
  have k_er_kindP := er_kindP
  have k_er_kindE := er_kindE
  have k_er_elemP := er_elemP
  have k_er_implE := er_implE
  have n8 := er_isNilP ⟨w.heap.size, 0, none⟩ t (asW1 w t) (by unfold asW1; simp)
  have hlt : 1 < w.heap.size := by
    rcases Nat.lt_or_ge 1 w.heap.size with h | h
    · exact h
    · simp [World.cell?, Array.getElem?_eq_none h] at hg
  have hg2 : (asW1 w t).cell? ⟨1, 0, none⟩ = some (.iface 192 (.agg #[.pointer (some ⟨5, 65, none⟩)])) := by
    unfold asW1
    rw [World.cell?_alloc_lt _ _ ⟨1, 0, none⟩ (by simp; omega), World.cell?_alloc_lt _ _ ⟨1, 0, none⟩ hlt]; exact hg
  have htl : t.block < w.heap.size := by
    rcases Nat.lt_or_ge t.block w.heap.size with h | h
    · exact h
    · simp [World.cell?, Array.getElem?_eq_none h] at ht0
  have el := er_elemV ⟨w.heap.size, 0, none⟩ t (asW2 w t) (by unfold asW2 asW1; rw [World.cell?_alloc_lt _ _ ⟨w.heap.size, 0, none⟩ (by simp; omega)]; simp)
  have st := er_set t ⟨w.heap.size + 1 + 1 + 1, 0, none⟩ e old (asW3 w t e)
    (by unfold asW3 asW2 asW1; rw [World.cell?_alloc_at _ _ _ _ (by simp)]; rfl)
    (by unfold asW3 asW2 asW1; rw [World.cell?_alloc_lt _ _ t (by simp; omega), World.cell?_alloc_lt _ _ t (by simp; omega), World.cell?_alloc_lt _ _ t (by simp; omega), World.cell?_alloc_lt _ _ t htl]; exact ht0)
    (by unfold asW3 asW2 asW1; rw [World.frozen?_alloc_old _ _ t (by simp; omega), World.frozen?_alloc_old _ _ t (by simp; omega), World.frozen?_alloc_old _ _ t (by simp; omega), World.frozen?_alloc_old _ _ t (Nat.ne_of_lt htl)]; exact hf0)
  unfold asW3 asW2 asW1 at *
  go_enter Tryz.func113, Tryz.ntmps113
  go_wp2
  refine wp_loop_rounds 1 ?_
  rw [rounds_succ]
  go_wp2
  go_ret
  exact ⟨rfl, rfl⟩
end Go.Proofs.YtgnnlaeikcnhcaaGreatDoor
end
section
set_option linter.unusedSimpArgs false
set_option linter.unusedVariables false
namespace Go.Proofs.YtgnnlaeikcnhcaaGreatDoor
open Go Go.Vk Go.RowKit
/-- the error's type, as it lies -/
def ET (w : World) : Prop := w.cell? ⟨1, 0, none⟩ = some (.iface 192 (.agg #[.pointer (some ⟨5, 65, none⟩)]))
theorem ET.ext {w w' : World} (h : ET w) (hx : Ext w w') : ET w' := cell_ext hx h
theorem et_g : Tryz.prog.globalNamed "errors.errorType" = some 1 := by kernel_rfl
theorem et_rt : (Tryz.prog.cutTypes.find? (·.1 == "internal/reflectlite.rtype")).map (·.2) = some 192 := by kernel_rfl
theorem et_size : Tryz.prog.types.size = 251 := by kernel_rfl
theorem et_row : ((List.range 251).filter fun t => Tryz.prog.rowNamed t [101, 114, 114, 111, 114]) = [65] := by kernel_rfl
theorem et_of {W : World} (h : handlesMet Tryz.prog [("errors.errorType", Rows.laid_errors_errorType)] W) : ET W := by
  obtain ⟨name, u, ty, e1, e2, e3, e4, e5⟩ := h _ (List.mem_singleton.2 rfl)
  have en : name = [101, 114, 114, 111, 114] := (Option.some.inj e1).symm
  subst en
  obtain rfl := Option.some.inj (et_rt.symm.trans e2)
  have hm : ty ∈ (List.range 251).filter fun t => Tryz.prog.rowNamed t [101, 114, 114, 111, 114] := List.mem_filter.2 ⟨List.mem_range.2 (by rw [← et_size]; exact e3), e4⟩
  rw [et_row] at hm
  obtain rfl := List.mem_singleton.1 hm
  have hh : typeHandle Tryz.prog 65 = .pointer (some ⟨5, 65, none⟩) := by kernel_rfl
  rw [hh] at e5
  unfold ET
  simpa using World.var?_cell et_g e5 0
theorem as_hit_c {w : World} (he : ET w) (e : Int) {p : Nat} (hp : w.heap[p]? = some (.cells #[.int .i64 0] 28 (0, 0))) :
    Gives Tryz.prog 113 #[.iface 28 (.int .i64 e), .iface 129 (.pointer (some ⟨p, 0, none⟩))] w fun v w' => v = .bool true ∧ Upd (fun q => q = p) w w' ∧ w'.heap[p]? = some (.cells #[.int .i64 e] 28 (0, 0)) := by
  have ht0 : w.cell? ⟨p, 0, none⟩ = some (.int .i64 0) := by rw [cell_h, hp, cellO_cells]; rfl
  have hf0 : w.frozen? ⟨p, 0, none⟩ = false := by simp [World.frozen?, hp]
  refine .inl ⟨Tryz.call113, (as_hit e ⟨p, 0, none⟩ _ w he ht0 hf0).mono fun v w' ⟨h1, h2⟩ => ⟨_, h1, rfl, ?_⟩⟩
  have hx : Ext w (asW3 w ⟨p, 0, none⟩ e) := by
    unfold asW3 asW2 asW1
    exact ((((Ext.alloc _ _).trans (Ext.alloc _ _)).trans (Ext.alloc _ _)).trans (Ext.alloc _ _))
  have up : Upd (fun q => q = p) (asW3 w ⟨p, 0, none⟩ e) ((asW3 w ⟨p, 0, none⟩ e).setCell ⟨p, 0, none⟩ (.int .i64 e)) := Upd.setCell (F := fun q => q = p) (a := ⟨p, 0, none⟩) _ rfl _
  subst h2
  refine ⟨Upd.trans hx.upd up fun _ _ h => h, ?_⟩
  rw [heap_set_h, if_pos rfl, hx.blk hp]; rfl
set_option maxHeartbeats 40000000
section
variable {w0 w : World} {Q : Nat → Prop} {pb ps pl pa : Nat} {b : BSt}
theorem berr_c (h : BuAt w0 w Q pb ps pl pa b) (hg : ET w0) : Gives Tryz.prog 31 #[.pointer (some ⟨pb, 0, none⟩)] w fun v w' => v = .int .i64 (b.err.getD 0) ∧ Ext w w' := by
  cases he : b.err with
  | none => exact berr0_c h he
  | some e =>
    obtain ⟨ma, mn, mc, av, _, _, hh⟩ := h.hd
    rw [he] at hh
    have hx := Ext.alloc w (.cells #[.int .i64 0] 28)
    have hh2 := hx.blk hh
    have hz : (w.alloc (.cells #[.int .i64 0] 28)).heap[w.heap.size]? = some (.cells #[.int .i64 0] 28 (0, 0)) := by rw [heap_alloc_h, if_pos rfl]
    refine Gives.of_W Tryz.call31 Tryz.func31 rfl Tryz.ntmps31 (by simp) ?_; intro Z hZ
    (repeat (first | (with_reducible first | (refine hK _ _ ?_; clear hK K) | refine (show ∀ σ' w', _ → K σ' w' from by assumption) _ _ ?_ | refine W_seq_k fun K hK => ?_ | refine W_block_k fun K hK => ?_ | refine W_skip ?_ | refine W_ret ?_) | ((first | ((with_reducible refine W_id ?_); refine W_reg (by decide) (by rfl) ?_) | (with_reducible first | refine W_cond ?_ | refine hZ _ _ ?_ | refine W_exit ?_ | refine Wo_id ?_)); repeat1' simp only [push_cast, Nat.reduceBEq, Nat.reduceLT, Nat.reduceEqDiff, reduceIte, reduceCtorEq, Nat.reduceMul, Nat.reduceAdd, Nat.reduceSub, Int.reduceEq, Int.reduceLT, Int.reduceLE, Int.reduceNeg, Int.reduceAdd, Int.reduceSub, Int.reduceMul, Nat.reduceLeDiff, Int.reduceToNat]) | ((repeat ((fail_if_success with_reducible refine hK _ _ ?_); clear hK K)); (with_reducible refine hK _ _ ?_); clear hK K)))
    refine (bnone_c h).mono ?_
    intro v w' ⟨hv, hw⟩
    subst hv; subst w'
    ((repeat simp only [push_cast, Nat.reduceBEq, Nat.reduceLT, Nat.reduceEqDiff, reduceIte, reduceCtorEq, Nat.reduceMul, Nat.reduceAdd, Nat.reduceSub, Int.reduceEq, Int.reduceLT, Int.reduceLE, Int.reduceNeg, Int.reduceAdd, Int.reduceSub, Int.reduceMul, Nat.reduceLeDiff, Int.reduceToNat, RunV_zero Tryz.zeroValue28, vcells_int]); (repeat (first | (with_reducible first | (refine hK _ _ ?_; clear hK K) | refine (show ∀ σ' w', _ → K σ' w' from by assumption) _ _ ?_ | refine W_seq_k fun K hK => ?_ | refine W_block_k fun K hK => ?_ | refine W_skip ?_ | refine W_ret ?_) | ((first | ((with_reducible refine W_id ?_); refine W_reg (by decide) (by rfl) ?_) | (with_reducible first | refine W_cond ?_ | refine hZ _ _ ?_ | refine W_exit ?_ | refine Wo_id ?_)); repeat1' simp only [push_cast, Nat.reduceBEq, Nat.reduceLT, Nat.reduceEqDiff, reduceIte, reduceCtorEq, Nat.reduceMul, Nat.reduceAdd, Nat.reduceSub, Int.reduceEq, Int.reduceLT, Int.reduceLE, Int.reduceNeg, Int.reduceAdd, Int.reduceSub, Int.reduceMul, Nat.reduceLeDiff, Int.reduceToNat, RunV_zero Tryz.zeroValue28, vcells_int]) | ((repeat ((fail_if_success with_reducible refine hK _ _ ?_); clear hK K)); (with_reducible refine hK _ _ ?_); clear hK K))))
    generalize w.alloc (.cells #[.int .i64 0] 28) = w2 at *
    ((repeat simp only [push_cast, Nat.reduceBEq, Nat.reduceLT, Nat.reduceEqDiff, reduceIte, reduceCtorEq, Nat.reduceMul, Nat.reduceAdd, Nat.reduceSub, Int.reduceEq, Int.reduceLT, Int.reduceLE, Int.reduceNeg, Int.reduceAdd, Int.reduceSub, Int.reduceMul, Nat.reduceLeDiff, Int.reduceToNat, cell_h, cellO_cells, hh2, errV, mkPtr]); (repeat (first | (with_reducible first | (refine hK _ _ ?_; clear hK K) | refine (show ∀ σ' w', _ → K σ' w' from by assumption) _ _ ?_ | refine W_seq_k fun K hK => ?_ | refine W_block_k fun K hK => ?_ | refine W_skip ?_ | refine W_ret ?_) | ((first | ((with_reducible refine W_id ?_); refine W_reg (by decide) (by rfl) ?_) | (with_reducible first | refine W_cond ?_ | refine hZ _ _ ?_ | refine W_exit ?_ | refine Wo_id ?_)); repeat1' simp only [push_cast, Nat.reduceBEq, Nat.reduceLT, Nat.reduceEqDiff, reduceIte, reduceCtorEq, Nat.reduceMul, Nat.reduceAdd, Nat.reduceSub, Int.reduceEq, Int.reduceLT, Int.reduceLE, Int.reduceNeg, Int.reduceAdd, Int.reduceSub, Int.reduceMul, Nat.reduceLeDiff, Int.reduceToNat, cell_h, cellO_cells, hh2, errV, mkPtr]) | ((repeat ((fail_if_success with_reducible refine hK _ _ ?_); clear hK K)); (with_reducible refine hK _ _ ?_); clear hK K))))
    refine (as_hit_c ((hg.ext h.out).ext hx) e hz).mono ?_
    rintro v w3 ⟨rfl, hu, h3⟩
    ((repeat simp only [push_cast, Nat.reduceBEq, Nat.reduceLT, Nat.reduceEqDiff, reduceIte, reduceCtorEq, Nat.reduceMul, Nat.reduceAdd, Nat.reduceSub, Int.reduceEq, Int.reduceLT, Int.reduceLE, Int.reduceNeg, Int.reduceAdd, Int.reduceSub, Int.reduceMul, Nat.reduceLeDiff, Int.reduceToNat, cell_h, cellO_cells, h3]); (repeat (first | (with_reducible first | (refine hK _ _ ?_; clear hK K) | refine (show ∀ σ' w', _ → K σ' w' from by assumption) _ _ ?_ | refine W_seq_k fun K hK => ?_ | refine W_block_k fun K hK => ?_ | refine W_skip ?_ | refine W_ret ?_) | ((first | ((with_reducible refine W_id ?_); refine W_reg (by decide) (by rfl) ?_) | (with_reducible first | refine W_cond ?_ | refine hZ _ _ ?_ | refine W_exit ?_ | refine Wo_id ?_)); repeat1' simp only [push_cast, Nat.reduceBEq, Nat.reduceLT, Nat.reduceEqDiff, reduceIte, reduceCtorEq, Nat.reduceMul, Nat.reduceAdd, Nat.reduceSub, Int.reduceEq, Int.reduceLT, Int.reduceLE, Int.reduceNeg, Int.reduceAdd, Int.reduceSub, Int.reduceMul, Nat.reduceLeDiff, Int.reduceToNat, cell_h, cellO_cells, h3]) | ((repeat ((fail_if_success with_reducible refine hK _ _ ?_); clear hK K)); (with_reducible refine hK _ _ ?_); clear hK K))))
    exact ⟨rfl, Upd.trans hx hu fun q hq e => by omega⟩
end
end Go.Proofs.YtgnnlaeikcnhcaaGreatDoor
end
section
set_option linter.unusedSimpArgs false
set_option linter.unusedVariables false
namespace Go.Proofs.YtgnnlaeikcnhcaaGreatDoor
open Go Go.Vk
set_option maxHeartbeats 40000000
set_option maxHeartbeats 1000000 in
theorem builderDeep_c {w0 : World} (hg : GB w0) (he : ET w0) (nm : ByteArray) (x : Nat) (hx : x < 256) :
    Gives Tryz.prog 4 #[.string nm, .int .u8 (x : Int)] w0 fun v w' => v = .bool true ∧ Ext w0 w' := by
  by_cases h3 : 300 < nm.size
  · have h3' : (300 : Int) < (nm.size : Int) := by omega
    refine Gives.of_W Tryz.call4 Tryz.func4 rfl Tryz.ntmps4 (by simp) ?_; intro Z hZ
    (repeat (first | (with_reducible first | (refine hK _ _ ?_; clear hK K) | refine (show ∀ σ' w', _ → K σ' w' from by assumption) _ _ ?_ | refine W_seq_k fun K hK => ?_ | refine W_block_k fun K hK => ?_ | refine W_skip ?_ | refine W_ret ?_) | ((first | ((with_reducible refine W_id ?_); refine W_reg (by decide) (by rfl) ?_) | (with_reducible first | refine W_cond ?_ | refine hZ _ _ ?_ | refine W_exit ?_ | refine Wo_id ?_)); repeat1' simp only [push_cast, Nat.reduceBEq, Nat.reduceLT, Nat.reduceEqDiff, reduceIte, reduceCtorEq, Nat.reduceMul, Nat.reduceAdd, Nat.reduceSub, Int.reduceEq, Int.reduceLT, Int.reduceLE, Int.reduceNeg, Int.reduceAdd, Int.reduceSub, Int.reduceMul, Nat.reduceLeDiff, Int.reduceToNat, h3']) | ((repeat ((fail_if_success with_reducible refine hK _ _ ?_); clear hK K)); (with_reducible refine hK _ _ ?_); clear hK K)))
    refine (grows_c hg).mono ?_
    rintro v w' ⟨rfl, hy⟩
    ((repeat simp only [push_cast, Nat.reduceBEq, Nat.reduceLT, Nat.reduceEqDiff, reduceIte, reduceCtorEq, Nat.reduceMul, Nat.reduceAdd, Nat.reduceSub, Int.reduceEq, Int.reduceLT, Int.reduceLE, Int.reduceNeg, Int.reduceAdd, Int.reduceSub, Int.reduceMul, Nat.reduceLeDiff, Int.reduceToNat]); (repeat (first | (with_reducible first | (refine hK _ _ ?_; clear hK K) | refine (show ∀ σ' w', _ → K σ' w' from by assumption) _ _ ?_ | refine W_seq_k fun K hK => ?_ | refine W_block_k fun K hK => ?_ | refine W_skip ?_ | refine W_ret ?_) | ((first | ((with_reducible refine W_id ?_); refine W_reg (by decide) (by rfl) ?_) | (with_reducible first | refine W_cond ?_ | refine hZ _ _ ?_ | refine W_exit ?_ | refine Wo_id ?_)); repeat1' simp only [push_cast, Nat.reduceBEq, Nat.reduceLT, Nat.reduceEqDiff, reduceIte, reduceCtorEq, Nat.reduceMul, Nat.reduceAdd, Nat.reduceSub, Int.reduceEq, Int.reduceLT, Int.reduceLE, Int.reduceNeg, Int.reduceAdd, Int.reduceSub, Int.reduceMul, Nat.reduceLeDiff, Int.reduceToNat]) | ((repeat ((fail_if_success with_reducible refine hK _ _ ?_); clear hK K)); (with_reducible refine hK _ _ ?_); clear hK K))))
    exact hy
  have h3' : ¬ (300 : Int) < (nm.size : Int) := by omega
  by_cases ht : nm = tmpl
  · subst ht
    unfold tmpl at h3' ⊢
    refine Gives.of_W Tryz.call4 Tryz.func4 rfl Tryz.ntmps4 (by simp) ?_; intro Z hZ
    (repeat (first | (with_reducible first | (refine hK _ _ ?_; clear hK K) | refine (show ∀ σ' w', _ → K σ' w' from by assumption) _ _ ?_ | refine W_seq_k fun K hK => ?_ | refine W_block_k fun K hK => ?_ | refine W_skip ?_ | refine W_ret ?_) | ((first | ((with_reducible refine W_id ?_); refine W_reg (by decide) (by rfl) ?_) | (with_reducible first | refine W_cond ?_ | refine hZ _ _ ?_ | refine W_exit ?_ | refine Wo_id ?_)); repeat1' simp only [push_cast, Nat.reduceBEq, Nat.reduceLT, Nat.reduceEqDiff, reduceIte, reduceCtorEq, Nat.reduceMul, Nat.reduceAdd, Nat.reduceSub, Int.reduceEq, Int.reduceLT, Int.reduceLE, Int.reduceNeg, Int.reduceAdd, Int.reduceSub, Int.reduceMul, Nat.reduceLeDiff, Int.reduceToNat, h3', eq_self]) | ((repeat ((fail_if_success with_reducible refine hK _ _ ?_); clear hK K)); (with_reducible refine hK _ _ ?_); clear hK K)))
    refine (grows_c hg).mono ?_
    rintro v w' ⟨rfl, hy⟩
    ((repeat simp only [push_cast, Nat.reduceBEq, Nat.reduceLT, Nat.reduceEqDiff, reduceIte, reduceCtorEq, Nat.reduceMul, Nat.reduceAdd, Nat.reduceSub, Int.reduceEq, Int.reduceLT, Int.reduceLE, Int.reduceNeg, Int.reduceAdd, Int.reduceSub, Int.reduceMul, Nat.reduceLeDiff, Int.reduceToNat]); (repeat (first | (with_reducible first | (refine hK _ _ ?_; clear hK K) | refine (show ∀ σ' w', _ → K σ' w' from by assumption) _ _ ?_ | refine W_seq_k fun K hK => ?_ | refine W_block_k fun K hK => ?_ | refine W_skip ?_ | refine W_ret ?_) | ((first | ((with_reducible refine W_id ?_); refine W_reg (by decide) (by rfl) ?_) | (with_reducible first | refine W_cond ?_ | refine hZ _ _ ?_ | refine W_exit ?_ | refine Wo_id ?_)); repeat1' simp only [push_cast, Nat.reduceBEq, Nat.reduceLT, Nat.reduceEqDiff, reduceIte, reduceCtorEq, Nat.reduceMul, Nat.reduceAdd, Nat.reduceSub, Int.reduceEq, Int.reduceLT, Int.reduceLE, Int.reduceNeg, Int.reduceAdd, Int.reduceSub, Int.reduceMul, Nat.reduceLeDiff, Int.reduceToNat]) | ((repeat ((fail_if_success with_reducible refine hK _ _ ?_); clear hK K)); (with_reducible refine hK _ _ ?_); clear hK K))))
    exact hy
  have ht' : ¬ nm = ⟨#[116, 101, 109, 112, 108, 97, 116, 101]⟩ := ht
  refine Gives.of_W Tryz.call4 Tryz.func4 rfl Tryz.ntmps4 (by simp) ?_; intro Z hZ
  (repeat (first | (with_reducible first | (refine hK _ _ ?_; clear hK K) | refine (show ∀ σ' w', _ → K σ' w' from by assumption) _ _ ?_ | refine W_seq_k fun K hK => ?_ | refine W_block_k fun K hK => ?_ | refine W_skip ?_ | refine W_ret ?_) | ((first | ((with_reducible refine W_id ?_); refine W_reg (by decide) (by rfl) ?_) | (with_reducible first | refine W_cond ?_ | refine hZ _ _ ?_ | refine W_exit ?_ | refine Wo_id ?_)); repeat1' simp only [push_cast, Nat.reduceBEq, Nat.reduceLT, Nat.reduceEqDiff, reduceIte, reduceCtorEq, Nat.reduceMul, Nat.reduceAdd, Nat.reduceSub, Int.reduceEq, Int.reduceLT, Int.reduceLE, Int.reduceNeg, Int.reduceAdd, Int.reduceSub, Int.reduceMul, Nat.reduceLeDiff, Int.reduceToNat, h3', ht']) | ((repeat ((fail_if_success with_reducible refine hK _ _ ?_); clear hK K)); (with_reducible refine hK _ _ ?_); clear hK K)))
  refine bnew_c.mono ?_
  rintro v w1 ⟨pb, ps, pl, pa, rfl, h0⟩
  ((repeat simp only [push_cast, Nat.reduceBEq, Nat.reduceLT, Nat.reduceEqDiff, reduceIte, reduceCtorEq, Nat.reduceMul, Nat.reduceAdd, Nat.reduceSub, Int.reduceEq, Int.reduceLT, Int.reduceLE, Int.reduceNeg, Int.reduceAdd, Int.reduceSub, Int.reduceMul, Nat.reduceLeDiff, Int.reduceToNat]); (repeat (first | (with_reducible first | (refine hK _ _ ?_; clear hK K) | refine (show ∀ σ' w', _ → K σ' w' from by assumption) _ _ ?_ | refine W_seq_k fun K hK => ?_ | refine W_block_k fun K hK => ?_ | refine W_skip ?_ | refine W_ret ?_) | ((first | ((with_reducible refine W_id ?_); refine W_reg (by decide) (by rfl) ?_) | (with_reducible first | refine W_cond ?_ | refine hZ _ _ ?_ | refine W_exit ?_ | refine Wo_id ?_)); repeat1' simp only [push_cast, Nat.reduceBEq, Nat.reduceLT, Nat.reduceEqDiff, reduceIte, reduceCtorEq, Nat.reduceMul, Nat.reduceAdd, Nat.reduceSub, Int.reduceEq, Int.reduceLT, Int.reduceLE, Int.reduceNeg, Int.reduceAdd, Int.reduceSub, Int.reduceMul, Nat.reduceLeDiff, Int.reduceToNat]) | ((repeat ((fail_if_success with_reducible refine hK _ _ ?_); clear hK K)); (with_reducible refine hK _ _ ?_); clear hK K))))
  refine W_loop (S := Nat) (fun k => [(0, .string nm), (1, .int .u8 (x : Int)), (5, .pointer (some ⟨pb, 0, none⟩)), (6, .int .i64 (k : Int))])
    (fun k w2 => k ≤ 512 ∧ BuAt w0 w2 noP pb ps pl pa (deepB nm k)) (fun k => 512 - k) 0 ?_ ?_ ?_
  · (repeat simp only [push_cast, Nat.reduceBEq, Nat.reduceLT, Nat.reduceEqDiff, reduceIte, reduceCtorEq, Nat.reduceMul, Nat.reduceAdd, Nat.reduceSub, Int.reduceEq, Int.reduceLT, Int.reduceLE, Int.reduceNeg, Int.reduceAdd, Int.reduceSub, Int.reduceMul, Nat.reduceLeDiff, Int.reduceToNat])
  · exact ⟨by decide, h0⟩
  rintro k w2 ⟨hk, hA⟩
  have hD := deep_B ht k hk
  obtain ⟨hok, hlen⟩ := hD.ok hk
  by_cases hkl : k < 512
  · have b0 : (k : Int) < 512 := by omega
    have b2 : inI64 ((k : Int) + 1) := by unfold inI64; omega
    obtain ⟨s1, s2⟩ := hD.step hkl ht
    (repeat (first | (with_reducible first | (refine hK _ _ ?_; clear hK K) | refine (show ∀ σ' w', _ → K σ' w' from by assumption) _ _ ?_ | refine W_seq_k fun K hK => ?_ | refine W_block_k fun K hK => ?_ | refine W_skip ?_ | refine W_ret ?_) | ((first | ((with_reducible refine W_id ?_); refine W_reg (by decide) (by rfl) ?_) | (with_reducible first | refine W_cond ?_ | refine hZ _ _ ?_ | refine W_exit ?_ | refine Wo_id ?_)); repeat1' simp only [push_cast, Nat.reduceBEq, Nat.reduceLT, Nat.reduceEqDiff, reduceIte, reduceCtorEq, Nat.reduceMul, Nat.reduceAdd, Nat.reduceSub, Int.reduceEq, Int.reduceLT, Int.reduceLE, Int.reduceNeg, Int.reduceAdd, Int.reduceSub, Int.reduceMul, Nat.reduceLeDiff, Int.reduceToNat, b0]) | ((repeat ((fail_if_success with_reducible refine hK _ _ ?_); clear hK K)); (with_reducible refine hK _ _ ?_); clear hK K)))
    refine (bimply_c hA hok (by omega) nP nm).mono ?_
    rintro v w3 ⟨rfl, h3, _⟩
    replace h3 : BuAt w0 w3 noP pb ps pl pa (deepB nm (k + 1)) := h3
    rw [s1]
    have hD' : (deepB nm (k + 1)).err = none := s2.err
    ((repeat simp only [push_cast, Nat.reduceBEq, Nat.reduceLT, Nat.reduceEqDiff, reduceIte, reduceCtorEq, Nat.reduceMul, Nat.reduceAdd, Nat.reduceSub, Int.reduceEq, Int.reduceLT, Int.reduceLE, Int.reduceNeg, Int.reduceAdd, Int.reduceSub, Int.reduceMul, Nat.reduceLeDiff, Int.reduceToNat, b2, not_true_eq_false, eq_self]); (repeat (first | (with_reducible first | (refine hK _ _ ?_; clear hK K) | refine (show ∀ σ' w', _ → K σ' w' from by assumption) _ _ ?_ | refine W_seq_k fun K hK => ?_ | refine W_block_k fun K hK => ?_ | refine W_skip ?_ | refine W_ret ?_) | ((first | ((with_reducible refine W_id ?_); refine W_reg (by decide) (by rfl) ?_) | (with_reducible first | refine W_cond ?_ | refine hZ _ _ ?_ | refine W_exit ?_ | refine Wo_id ?_)); repeat1' simp only [push_cast, Nat.reduceBEq, Nat.reduceLT, Nat.reduceEqDiff, reduceIte, reduceCtorEq, Nat.reduceMul, Nat.reduceAdd, Nat.reduceSub, Int.reduceEq, Int.reduceLT, Int.reduceLE, Int.reduceNeg, Int.reduceAdd, Int.reduceSub, Int.reduceMul, Nat.reduceLeDiff, Int.reduceToNat, b2, not_true_eq_false, eq_self]) | ((repeat ((fail_if_success with_reducible refine hK _ _ ?_); clear hK K)); (with_reducible refine hK _ _ ?_); clear hK K))))
    refine (berr_c h3 he).mono ?_
    rintro v w4 ⟨rfl, hx4⟩
    have h4 := h3.pass hx4
    rw [hD', Option.getD_none]
    ((repeat simp only [push_cast, Nat.reduceBEq, Nat.reduceLT, Nat.reduceEqDiff, reduceIte, reduceCtorEq, Nat.reduceMul, Nat.reduceAdd, Nat.reduceSub, Int.reduceEq, Int.reduceLT, Int.reduceLE, Int.reduceNeg, Int.reduceAdd, Int.reduceSub, Int.reduceMul, Nat.reduceLeDiff, Int.reduceToNat, b2, not_true_eq_false, eq_self]); (repeat (first | (with_reducible first | (refine hK _ _ ?_; clear hK K) | refine (show ∀ σ' w', _ → K σ' w' from by assumption) _ _ ?_ | refine W_seq_k fun K hK => ?_ | refine W_block_k fun K hK => ?_ | refine W_skip ?_ | refine W_ret ?_) | ((first | ((with_reducible refine W_id ?_); refine W_reg (by decide) (by rfl) ?_) | (with_reducible first | refine W_cond ?_ | refine hZ _ _ ?_ | refine W_exit ?_ | refine Wo_id ?_)); repeat1' simp only [push_cast, Nat.reduceBEq, Nat.reduceLT, Nat.reduceEqDiff, reduceIte, reduceCtorEq, Nat.reduceMul, Nat.reduceAdd, Nat.reduceSub, Int.reduceEq, Int.reduceLT, Int.reduceLE, Int.reduceNeg, Int.reduceAdd, Int.reduceSub, Int.reduceMul, Nat.reduceLeDiff, Int.reduceToNat, b2, not_true_eq_false, eq_self]) | ((repeat ((fail_if_success with_reducible refine hK _ _ ?_); clear hK K)); (with_reducible refine hK _ _ ?_); clear hK K))))
    refine ⟨k + 1, by omega, ?_⟩
    (repeat simp only [push_cast, Nat.reduceBEq, Nat.reduceLT, Nat.reduceEqDiff, reduceIte, reduceCtorEq, Nat.reduceMul, Nat.reduceAdd, Nat.reduceSub, Int.reduceEq, Int.reduceLT, Int.reduceLE, Int.reduceNeg, Int.reduceAdd, Int.reduceSub, Int.reduceMul, Nat.reduceLeDiff, Int.reduceToNat])
    exact ⟨by omega, h4⟩
  have hk5 : k = 512 := by omega
  have b0 : ¬ (k : Int) < 512 := by omega
  generalize deepB nm k = b at *
  (repeat (first | (with_reducible first | (refine hK _ _ ?_; clear hK K) | refine (show ∀ σ' w', _ → K σ' w' from by assumption) _ _ ?_ | refine W_seq_k fun K hK => ?_ | refine W_block_k fun K hK => ?_ | refine W_skip ?_ | refine W_ret ?_) | ((first | ((with_reducible refine W_id ?_); refine W_reg (by decide) (by rfl) ?_) | (with_reducible first | refine W_cond ?_ | refine hZ _ _ ?_ | refine W_exit ?_ | refine Wo_id ?_)); repeat1' simp only [push_cast, Nat.reduceBEq, Nat.reduceLT, Nat.reduceEqDiff, reduceIte, reduceCtorEq, Nat.reduceMul, Nat.reduceAdd, Nat.reduceSub, Int.reduceEq, Int.reduceLT, Int.reduceLE, Int.reduceNeg, Int.reduceAdd, Int.reduceSub, Int.reduceMul, Nat.reduceLeDiff, Int.reduceToNat, b0]) | ((repeat ((fail_if_success with_reducible refine hK _ _ ?_); clear hK K)); (with_reducible refine hK _ _ ?_); clear hK K)))
  refine (barena_c hA).mono ?_
  intro v w' ⟨hv, hw⟩
  subst hv; subst w'
  ((repeat simp only [push_cast, Nat.reduceBEq, Nat.reduceLT, Nat.reduceEqDiff, reduceIte, reduceCtorEq, Nat.reduceMul, Nat.reduceAdd, Nat.reduceSub, Int.reduceEq, Int.reduceLT, Int.reduceLE, Int.reduceNeg, Int.reduceAdd, Int.reduceSub, Int.reduceMul, Nat.reduceLeDiff, Int.reduceToNat]); (repeat (first | (with_reducible first | (refine hK _ _ ?_; clear hK K) | refine (show ∀ σ' w', _ → K σ' w' from by assumption) _ _ ?_ | refine W_seq_k fun K hK => ?_ | refine W_block_k fun K hK => ?_ | refine W_skip ?_ | refine W_ret ?_) | ((first | ((with_reducible refine W_id ?_); refine W_reg (by decide) (by rfl) ?_) | (with_reducible first | refine W_cond ?_ | refine hZ _ _ ?_ | refine W_exit ?_ | refine Wo_id ?_)); repeat1' simp only [push_cast, Nat.reduceBEq, Nat.reduceLT, Nat.reduceEqDiff, reduceIte, reduceCtorEq, Nat.reduceMul, Nat.reduceAdd, Nat.reduceSub, Int.reduceEq, Int.reduceLT, Int.reduceLE, Int.reduceNeg, Int.reduceAdd, Int.reduceSub, Int.reduceMul, Nat.reduceLeDiff, Int.reduceToNat]) | ((repeat ((fail_if_success with_reducible refine hK _ _ ?_); clear hK K)); (with_reducible refine hK _ _ ?_); clear hK K))))
  obtain ⟨PA, hA1, _⟩ := hA.ar
  refine (len_a hA1).mono ?_
  intro v w' ⟨hv, hw⟩
  subst hv; subst w'
  have hlen' : (b.L.length : Int) = 513 := by omega
  have hD5 : Deep nm 512 b := hk5 ▸ hD
  have hf := hD5.fok
  rw [hlen']
  clear hlen hk5
  ((repeat simp only [push_cast, Nat.reduceBEq, Nat.reduceLT, Nat.reduceEqDiff, reduceIte, reduceCtorEq, Nat.reduceMul, Nat.reduceAdd, Nat.reduceSub, Int.reduceEq, Int.reduceLT, Int.reduceLE, Int.reduceNeg, Int.reduceAdd, Int.reduceSub, Int.reduceMul, Nat.reduceLeDiff, Int.reduceToNat]); (repeat (first | (with_reducible first | (refine hK _ _ ?_; clear hK K) | refine (show ∀ σ' w', _ → K σ' w' from by assumption) _ _ ?_ | refine W_seq_k fun K hK => ?_ | refine W_block_k fun K hK => ?_ | refine W_skip ?_ | refine W_ret ?_) | ((first | ((with_reducible refine W_id ?_); refine W_reg (by decide) (by rfl) ?_) | (with_reducible first | refine W_cond ?_ | refine hZ _ _ ?_ | refine W_exit ?_ | refine Wo_id ?_)); repeat1' simp only [push_cast, Nat.reduceBEq, Nat.reduceLT, Nat.reduceEqDiff, reduceIte, reduceCtorEq, Nat.reduceMul, Nat.reduceAdd, Nat.reduceSub, Int.reduceEq, Int.reduceLT, Int.reduceLE, Int.reduceNeg, Int.reduceAdd, Int.reduceSub, Int.reduceMul, Nat.reduceLeDiff, Int.reduceToNat]) | ((repeat ((fail_if_success with_reducible refine hK _ _ ?_); clear hK K)); (with_reducible refine hK _ _ ?_); clear hK K))))
  have hsx : (x % 5 : Nat) < 5 := Nat.mod_lt _ (by decide)
  refine W_loop (S := Nat) (fun k => [(0, .string nm), (1, .int .u8 (x : Int)), (5, .pointer (some ⟨pb, 0, none⟩)), (7, .int .i64 513), (8, .int .i64 (k : Int))])
    (fun k w3 => k ≤ x % 5 + 1 ∧ BuAt w0 w3 noP pb ps pl pa (if k = 0 then b else fullB b)) (fun k => x % 5 + 1 - k) 0 ?_ ?_ ?_
  · (repeat simp only [push_cast, Nat.reduceBEq, Nat.reduceLT, Nat.reduceEqDiff, reduceIte, reduceCtorEq, Nat.reduceMul, Nat.reduceAdd, Nat.reduceSub, Int.reduceEq, Int.reduceLT, Int.reduceLE, Int.reduceNeg, Int.reduceAdd, Int.reduceSub, Int.reduceMul, Nat.reduceLeDiff, Int.reduceToNat])
  · exact ⟨by omega, hA⟩
  rintro k w3 ⟨hk, h3⟩
  obtain ⟨y, hy⟩ : ∃ y : Nat, y = x % 5 := ⟨_, rfl⟩
  have hyt : Int.tmod (x : Int) 5 = (y : Int) := by
    rw [hy, Int.tmod_eq_emod_of_nonneg (by omega)]; omega
  rw [← hy] at hk hsx ⊢
  have c0 : ((5 : Int) = 0) = False := by decide
  have hw : IntKind.i64.wrap (x : Int) = x := wrap_in (by unfold inI64; omega)
  have c1 : inI64 ((y : Int) + 1) := by unfold inI64; omega
  have hbs : b.s.length = 512 := hD5.s
  by_cases hkl : k < y + 1
  · have b0 : (k : Int) < (y : Int) + 1 := by omega
    have b2 : inI64 ((k : Int) + 1) := by unfold inI64; omega
    have h4 : ∃ c, (if k = 0 then b else fullB b) = c ∧ okB c ∧ implyB c nm = (fullB b, -1) ∧ c.L.length = 513 := by
      split
      · exact ⟨_, rfl, hok, hD5.full nm, by omega⟩
      · exact ⟨_, rfl, hf.1, full_imp hbs nm, hf.2.1⟩
    obtain ⟨c, hc, hc1, hc2, hc3⟩ := h4
    rw [hc] at h3
    (repeat (first | (with_reducible first | (refine hK _ _ ?_; clear hK K) | refine (show ∀ σ' w', _ → K σ' w' from by assumption) _ _ ?_ | refine W_seq_k fun K hK => ?_ | refine W_block_k fun K hK => ?_ | refine W_skip ?_ | refine W_ret ?_) | ((first | ((with_reducible refine W_id ?_); refine W_reg (by decide) (by rfl) ?_) | (with_reducible first | refine W_cond ?_ | refine hZ _ _ ?_ | refine W_exit ?_ | refine Wo_id ?_)); repeat1' simp only [push_cast, Nat.reduceBEq, Nat.reduceLT, Nat.reduceEqDiff, reduceIte, reduceCtorEq, Nat.reduceMul, Nat.reduceAdd, Nat.reduceSub, Int.reduceEq, Int.reduceLT, Int.reduceLE, Int.reduceNeg, Int.reduceAdd, Int.reduceSub, Int.reduceMul, Nat.reduceLeDiff, Int.reduceToNat, hw, hyt, b0, c0, c1]) | ((repeat ((fail_if_success with_reducible refine hK _ _ ?_); clear hK K)); (with_reducible refine hK _ _ ?_); clear hK K)))
    refine (bimply_c h3 hc1 (by omega) nP nm).mono ?_
    rintro v w4 ⟨rfl, h5, _⟩
    rw [hc2] at h5 ⊢
    dsimp only at h5 ⊢
    ((repeat simp only [push_cast, Nat.reduceBEq, Nat.reduceLT, Nat.reduceEqDiff, reduceIte, reduceCtorEq, Nat.reduceMul, Nat.reduceAdd, Nat.reduceSub, Int.reduceEq, Int.reduceLT, Int.reduceLE, Int.reduceNeg, Int.reduceAdd, Int.reduceSub, Int.reduceMul, Nat.reduceLeDiff, Int.reduceToNat, not_true_eq_false, eq_self]); (repeat (first | (with_reducible first | (refine hK _ _ ?_; clear hK K) | refine (show ∀ σ' w', _ → K σ' w' from by assumption) _ _ ?_ | refine W_seq_k fun K hK => ?_ | refine W_block_k fun K hK => ?_ | refine W_skip ?_ | refine W_ret ?_) | ((first | ((with_reducible refine W_id ?_); refine W_reg (by decide) (by rfl) ?_) | (with_reducible first | refine W_cond ?_ | refine hZ _ _ ?_ | refine W_exit ?_ | refine Wo_id ?_)); repeat1' simp only [push_cast, Nat.reduceBEq, Nat.reduceLT, Nat.reduceEqDiff, reduceIte, reduceCtorEq, Nat.reduceMul, Nat.reduceAdd, Nat.reduceSub, Int.reduceEq, Int.reduceLT, Int.reduceLE, Int.reduceNeg, Int.reduceAdd, Int.reduceSub, Int.reduceMul, Nat.reduceLeDiff, Int.reduceToNat, not_true_eq_false, eq_self]) | ((repeat ((fail_if_success with_reducible refine hK _ _ ?_); clear hK K)); (with_reducible refine hK _ _ ?_); clear hK K))))
    refine build_struct Tryz.zeroValue37 unTo plTo (cs := #[.int .i64 2, .string nm, .string ⟨#[]⟩, .slice none 0 0, .bool false, .bool false, .bool false, .int .i64 0, .int .i64 0]) (by rfl) ?_
    ((repeat simp only [push_cast, Nat.reduceBEq, Nat.reduceLT, Nat.reduceEqDiff, reduceIte, reduceCtorEq, Nat.reduceMul, Nat.reduceAdd, Nat.reduceSub, Int.reduceEq, Int.reduceLT, Int.reduceLE, Int.reduceNeg, Int.reduceAdd, Int.reduceSub, Int.reduceMul, Nat.reduceLeDiff, Int.reduceToNat]); (repeat (first | (with_reducible first | (refine hK _ _ ?_; clear hK K) | refine (show ∀ σ' w', _ → K σ' w' from by assumption) _ _ ?_ | refine W_seq_k fun K hK => ?_ | refine W_block_k fun K hK => ?_ | refine W_skip ?_ | refine W_ret ?_) | ((first | ((with_reducible refine W_id ?_); refine W_reg (by decide) (by rfl) ?_) | (with_reducible first | refine W_cond ?_ | refine hZ _ _ ?_ | refine W_exit ?_ | refine Wo_id ?_)); repeat1' simp only [push_cast, Nat.reduceBEq, Nat.reduceLT, Nat.reduceEqDiff, reduceIte, reduceCtorEq, Nat.reduceMul, Nat.reduceAdd, Nat.reduceSub, Int.reduceEq, Int.reduceLT, Int.reduceLE, Int.reduceNeg, Int.reduceAdd, Int.reduceSub, Int.reduceMul, Nat.reduceLeDiff, Int.reduceToNat]) | ((repeat ((fail_if_success with_reducible refine hK _ _ ?_); clear hK K)); (with_reducible refine hK _ _ ?_); clear hK K))))
    refine (bonly_c h5 hf.1 (by omega) nP (t := ⟨2, nm, ⟨#[]⟩, [], false, false, false, 0, 0⟩) (av := .slice none 0 0) (SlAt.nil _ _).rd (show (0 : Nat) < 1000000 by decide)).mono ?_
    rintro v w5 ⟨rfl, h6, _⟩
    rw [full_only hbs] at h6 ⊢
    dsimp only at h6 ⊢
    ((repeat simp only [push_cast, Nat.reduceBEq, Nat.reduceLT, Nat.reduceEqDiff, reduceIte, reduceCtorEq, Nat.reduceMul, Nat.reduceAdd, Nat.reduceSub, Int.reduceEq, Int.reduceLT, Int.reduceLE, Int.reduceNeg, Int.reduceAdd, Int.reduceSub, Int.reduceMul, Nat.reduceLeDiff, Int.reduceToNat, not_true_eq_false, eq_self, b2]); (repeat (first | (with_reducible first | (refine hK _ _ ?_; clear hK K) | refine (show ∀ σ' w', _ → K σ' w' from by assumption) _ _ ?_ | refine W_seq_k fun K hK => ?_ | refine W_block_k fun K hK => ?_ | refine W_skip ?_ | refine W_ret ?_) | ((first | ((with_reducible refine W_id ?_); refine W_reg (by decide) (by rfl) ?_) | (with_reducible first | refine W_cond ?_ | refine hZ _ _ ?_ | refine W_exit ?_ | refine Wo_id ?_)); repeat1' simp only [push_cast, Nat.reduceBEq, Nat.reduceLT, Nat.reduceEqDiff, reduceIte, reduceCtorEq, Nat.reduceMul, Nat.reduceAdd, Nat.reduceSub, Int.reduceEq, Int.reduceLT, Int.reduceLE, Int.reduceNeg, Int.reduceAdd, Int.reduceSub, Int.reduceMul, Nat.reduceLeDiff, Int.reduceToNat, not_true_eq_false, eq_self, b2]) | ((repeat ((fail_if_success with_reducible refine hK _ _ ?_); clear hK K)); (with_reducible refine hK _ _ ?_); clear hK K))))
    refine ⟨k + 1, by omega, ?_⟩
    (repeat simp only [push_cast, Nat.reduceBEq, Nat.reduceLT, Nat.reduceEqDiff, reduceIte, reduceCtorEq, Nat.reduceMul, Nat.reduceAdd, Nat.reduceSub, Int.reduceEq, Int.reduceLT, Int.reduceLE, Int.reduceNeg, Int.reduceAdd, Int.reduceSub, Int.reduceMul, Nat.reduceLeDiff, Int.reduceToNat])
    refine ⟨by omega, ?_⟩
    exact h6
  have b0 : ¬ (k : Int) < (y : Int) + 1 := by omega
  rw [if_neg (by omega)] at h3
  have hff : ∀ e, failB (fullB b) e = fullB b := fun e => failB_some rfl e
  (repeat (first | (with_reducible first | (refine hK _ _ ?_; clear hK K) | refine (show ∀ σ' w', _ → K σ' w' from by assumption) _ _ ?_ | refine W_seq_k fun K hK => ?_ | refine W_block_k fun K hK => ?_ | refine W_skip ?_ | refine W_ret ?_) | ((first | ((with_reducible refine W_id ?_); refine W_reg (by decide) (by rfl) ?_) | (with_reducible first | refine W_cond ?_ | refine hZ _ _ ?_ | refine W_exit ?_ | refine Wo_id ?_)); repeat1' simp only [push_cast, Nat.reduceBEq, Nat.reduceLT, Nat.reduceEqDiff, reduceIte, reduceCtorEq, Nat.reduceMul, Nat.reduceAdd, Nat.reduceSub, Int.reduceEq, Int.reduceLT, Int.reduceLE, Int.reduceNeg, Int.reduceAdd, Int.reduceSub, Int.reduceMul, Nat.reduceLeDiff, Int.reduceToNat, hw, hyt, b0, c0, c1]) | ((repeat ((fail_if_success with_reducible refine hK _ _ ?_); clear hK K)); (with_reducible refine hK _ _ ?_); clear hK K)))
  refine (bfail_c h3 3).mono ?_
  rintro v w4 ⟨h4, _⟩
  rw [hff] at h4
  ((repeat simp only [push_cast, Nat.reduceBEq, Nat.reduceLT, Nat.reduceEqDiff, reduceIte, reduceCtorEq, Nat.reduceMul, Nat.reduceAdd, Nat.reduceSub, Int.reduceEq, Int.reduceLT, Int.reduceLE, Int.reduceNeg, Int.reduceAdd, Int.reduceSub, Int.reduceMul, Nat.reduceLeDiff, Int.reduceToNat]); (repeat (first | (with_reducible first | (refine hK _ _ ?_; clear hK K) | refine (show ∀ σ' w', _ → K σ' w' from by assumption) _ _ ?_ | refine W_seq_k fun K hK => ?_ | refine W_block_k fun K hK => ?_ | refine W_skip ?_ | refine W_ret ?_) | ((first | ((with_reducible refine W_id ?_); refine W_reg (by decide) (by rfl) ?_) | (with_reducible first | refine W_cond ?_ | refine hZ _ _ ?_ | refine W_exit ?_ | refine Wo_id ?_)); repeat1' simp only [push_cast, Nat.reduceBEq, Nat.reduceLT, Nat.reduceEqDiff, reduceIte, reduceCtorEq, Nat.reduceMul, Nat.reduceAdd, Nat.reduceSub, Int.reduceEq, Int.reduceLT, Int.reduceLE, Int.reduceNeg, Int.reduceAdd, Int.reduceSub, Int.reduceMul, Nat.reduceLeDiff, Int.reduceToNat]) | ((repeat ((fail_if_success with_reducible refine hK _ _ ?_); clear hK K)); (with_reducible refine hK _ _ ?_); clear hK K))))
  refine (berr_c h4 he).mono ?_
  rintro v w5 ⟨rfl, hx5⟩
  have h5 := h4.pass hx5
  rw [show (fullB b).err = some 150 from rfl, Option.getD_some]
  ((repeat simp only [push_cast, Nat.reduceBEq, Nat.reduceLT, Nat.reduceEqDiff, reduceIte, reduceCtorEq, Nat.reduceMul, Nat.reduceAdd, Nat.reduceSub, Int.reduceEq, Int.reduceLT, Int.reduceLE, Int.reduceNeg, Int.reduceAdd, Int.reduceSub, Int.reduceMul, Nat.reduceLeDiff, Int.reduceToNat, eq_self]); (repeat (first | (with_reducible first | (refine hK _ _ ?_; clear hK K) | refine (show ∀ σ' w', _ → K σ' w' from by assumption) _ _ ?_ | refine W_seq_k fun K hK => ?_ | refine W_block_k fun K hK => ?_ | refine W_skip ?_ | refine W_ret ?_) | ((first | ((with_reducible refine W_id ?_); refine W_reg (by decide) (by rfl) ?_) | (with_reducible first | refine W_cond ?_ | refine hZ _ _ ?_ | refine W_exit ?_ | refine Wo_id ?_)); repeat1' simp only [push_cast, Nat.reduceBEq, Nat.reduceLT, Nat.reduceEqDiff, reduceIte, reduceCtorEq, Nat.reduceMul, Nat.reduceAdd, Nat.reduceSub, Int.reduceEq, Int.reduceLT, Int.reduceLE, Int.reduceNeg, Int.reduceAdd, Int.reduceSub, Int.reduceMul, Nat.reduceLeDiff, Int.reduceToNat, eq_self]) | ((repeat ((fail_if_success with_reducible refine hK _ _ ?_); clear hK K)); (with_reducible refine hK _ _ ?_); clear hK K))))
  refine (barena_c h5).mono ?_
  intro v w' ⟨hv, hw⟩
  subst hv; subst w'
  ((repeat simp only [push_cast, Nat.reduceBEq, Nat.reduceLT, Nat.reduceEqDiff, reduceIte, reduceCtorEq, Nat.reduceMul, Nat.reduceAdd, Nat.reduceSub, Int.reduceEq, Int.reduceLT, Int.reduceLE, Int.reduceNeg, Int.reduceAdd, Int.reduceSub, Int.reduceMul, Nat.reduceLeDiff, Int.reduceToNat]); (repeat (first | (with_reducible first | (refine hK _ _ ?_; clear hK K) | refine (show ∀ σ' w', _ → K σ' w' from by assumption) _ _ ?_ | refine W_seq_k fun K hK => ?_ | refine W_block_k fun K hK => ?_ | refine W_skip ?_ | refine W_ret ?_) | ((first | ((with_reducible refine W_id ?_); refine W_reg (by decide) (by rfl) ?_) | (with_reducible first | refine W_cond ?_ | refine hZ _ _ ?_ | refine W_exit ?_ | refine Wo_id ?_)); repeat1' simp only [push_cast, Nat.reduceBEq, Nat.reduceLT, Nat.reduceEqDiff, reduceIte, reduceCtorEq, Nat.reduceMul, Nat.reduceAdd, Nat.reduceSub, Int.reduceEq, Int.reduceLT, Int.reduceLE, Int.reduceNeg, Int.reduceAdd, Int.reduceSub, Int.reduceMul, Nat.reduceLeDiff, Int.reduceToNat]) | ((repeat ((fail_if_success with_reducible refine hK _ _ ?_); clear hK K)); (with_reducible refine hK _ _ ?_); clear hK K))))
  obtain ⟨PA5, hA5, _⟩ := h5.ar
  refine (len_a hA5).mono ?_
  intro v w' ⟨hv, hw⟩
  subst hv; subst w'
  rw [show (((fullB b).L.length : Nat) : Int) = 513 from hlen']
  ((repeat simp only [push_cast, Nat.reduceBEq, Nat.reduceLT, Nat.reduceEqDiff, reduceIte, reduceCtorEq, Nat.reduceMul, Nat.reduceAdd, Nat.reduceSub, Int.reduceEq, Int.reduceLT, Int.reduceLE, Int.reduceNeg, Int.reduceAdd, Int.reduceSub, Int.reduceMul, Nat.reduceLeDiff, Int.reduceToNat, eq_self]); (repeat (first | (with_reducible first | (refine hK _ _ ?_; clear hK K) | refine (show ∀ σ' w', _ → K σ' w' from by assumption) _ _ ?_ | refine W_seq_k fun K hK => ?_ | refine W_block_k fun K hK => ?_ | refine W_skip ?_ | refine W_ret ?_) | ((first | ((with_reducible refine W_id ?_); refine W_reg (by decide) (by rfl) ?_) | (with_reducible first | refine W_cond ?_ | refine hZ _ _ ?_ | refine W_exit ?_ | refine Wo_id ?_)); repeat1' simp only [push_cast, Nat.reduceBEq, Nat.reduceLT, Nat.reduceEqDiff, reduceIte, reduceCtorEq, Nat.reduceMul, Nat.reduceAdd, Nat.reduceSub, Int.reduceEq, Int.reduceLT, Int.reduceLE, Int.reduceNeg, Int.reduceAdd, Int.reduceSub, Int.reduceMul, Nat.reduceLeDiff, Int.reduceToNat, eq_self]) | ((repeat ((fail_if_success with_reducible refine hK _ _ ?_); clear hK K)); (with_reducible refine hK _ _ ?_); clear hK K))))
  refine (bstack_c h5).mono ?_
  intro v w' ⟨hv, hw⟩
  subst hv; subst w'
  ((repeat simp only [push_cast, Nat.reduceBEq, Nat.reduceLT, Nat.reduceEqDiff, reduceIte, reduceCtorEq, Nat.reduceMul, Nat.reduceAdd, Nat.reduceSub, Int.reduceEq, Int.reduceLT, Int.reduceLE, Int.reduceNeg, Int.reduceAdd, Int.reduceSub, Int.reduceMul, Nat.reduceLeDiff, Int.reduceToNat]); (repeat (first | (with_reducible first | (refine hK _ _ ?_; clear hK K) | refine (show ∀ σ' w', _ → K σ' w' from by assumption) _ _ ?_ | refine W_seq_k fun K hK => ?_ | refine W_block_k fun K hK => ?_ | refine W_skip ?_ | refine W_ret ?_) | ((first | ((with_reducible refine W_id ?_); refine W_reg (by decide) (by rfl) ?_) | (with_reducible first | refine W_cond ?_ | refine hZ _ _ ?_ | refine W_exit ?_ | refine Wo_id ?_)); repeat1' simp only [push_cast, Nat.reduceBEq, Nat.reduceLT, Nat.reduceEqDiff, reduceIte, reduceCtorEq, Nat.reduceMul, Nat.reduceAdd, Nat.reduceSub, Int.reduceEq, Int.reduceLT, Int.reduceLE, Int.reduceNeg, Int.reduceAdd, Int.reduceSub, Int.reduceMul, Nat.reduceLeDiff, Int.reduceToNat]) | ((repeat ((fail_if_success with_reducible refine hK _ _ ?_); clear hK K)); (with_reducible refine hK _ _ ?_); clear hK K))))
  refine (bslen_c h5).mono ?_
  intro v w' ⟨hv, hw⟩
  subst hv; subst w'
  rw [show (((fullB b).s.length : Nat) : Int) = 512 by rw [show (fullB b).s.length = 512 from hbs]; rfl]
  ((repeat simp only [push_cast, Nat.reduceBEq, Nat.reduceLT, Nat.reduceEqDiff, reduceIte, reduceCtorEq, Nat.reduceMul, Nat.reduceAdd, Nat.reduceSub, Int.reduceEq, Int.reduceLT, Int.reduceLE, Int.reduceNeg, Int.reduceAdd, Int.reduceSub, Int.reduceMul, Nat.reduceLeDiff, Int.reduceToNat, eq_self]); (repeat (first | (with_reducible first | (refine hK _ _ ?_; clear hK K) | refine (show ∀ σ' w', _ → K σ' w' from by assumption) _ _ ?_ | refine W_seq_k fun K hK => ?_ | refine W_block_k fun K hK => ?_ | refine W_skip ?_ | refine W_ret ?_) | ((first | ((with_reducible refine W_id ?_); refine W_reg (by decide) (by rfl) ?_) | (with_reducible first | refine W_cond ?_ | refine hZ _ _ ?_ | refine W_exit ?_ | refine Wo_id ?_)); repeat1' simp only [push_cast, Nat.reduceBEq, Nat.reduceLT, Nat.reduceEqDiff, reduceIte, reduceCtorEq, Nat.reduceMul, Nat.reduceAdd, Nat.reduceSub, Int.reduceEq, Int.reduceLT, Int.reduceLE, Int.reduceNeg, Int.reduceAdd, Int.reduceSub, Int.reduceMul, Nat.reduceLeDiff, Int.reduceToNat, eq_self]) | ((repeat ((fail_if_success with_reducible refine hK _ _ ?_); clear hK K)); (with_reducible refine hK _ _ ?_); clear hK K))))
  refine (grows_c (hg.ext h5.out)).mono ?_
  rintro v w' ⟨rfl, hy⟩
  ((repeat simp only [push_cast, Nat.reduceBEq, Nat.reduceLT, Nat.reduceEqDiff, reduceIte, reduceCtorEq, Nat.reduceMul, Nat.reduceAdd, Nat.reduceSub, Int.reduceEq, Int.reduceLT, Int.reduceLE, Int.reduceNeg, Int.reduceAdd, Int.reduceSub, Int.reduceMul, Nat.reduceLeDiff, Int.reduceToNat]); (repeat (first | (with_reducible first | (refine hK _ _ ?_; clear hK K) | refine (show ∀ σ' w', _ → K σ' w' from by assumption) _ _ ?_ | refine W_seq_k fun K hK => ?_ | refine W_block_k fun K hK => ?_ | refine W_skip ?_ | refine W_ret ?_) | ((first | ((with_reducible refine W_id ?_); refine W_reg (by decide) (by rfl) ?_) | (with_reducible first | refine W_cond ?_ | refine hZ _ _ ?_ | refine W_exit ?_ | refine Wo_id ?_)); repeat1' simp only [push_cast, Nat.reduceBEq, Nat.reduceLT, Nat.reduceEqDiff, reduceIte, reduceCtorEq, Nat.reduceMul, Nat.reduceAdd, Nat.reduceSub, Int.reduceEq, Int.reduceLT, Int.reduceLE, Int.reduceNeg, Int.reduceAdd, Int.reduceSub, Int.reduceMul, Nat.reduceLeDiff, Int.reduceToNat]) | ((repeat ((fail_if_success with_reducible refine hK _ _ ?_); clear hK K)); (with_reducible refine hK _ _ ?_); clear hK K))))
  exact h5.out.trans hy
end Go.Proofs.YtgnnlaeikcnhcaaGreatDoor
end
section
set_option linter.unusedSimpArgs false
set_option linter.unusedVariables false
namespace Go.Proofs.YtgnnlaeikcnhcaaGreatDoor
open Go Go.Vk
theorem et_of2 {W : World} {r : List (String × DataW Unit)} (h : laidMetH Tryz.prog (("errors.errorType", Rows.laid_errors_errorType) :: r) W) : ET W := by
  have h' : laidMet Tryz.prog ((("errors.errorType", Rows.laid_errors_errorType) :: r).filter fun x => x.2.handleName?.isNone) W ∧ handlesMet Tryz.prog ((("errors.errorType", Rows.laid_errors_errorType) :: r).filter fun x => x.2.handleName?.isSome) W := h
  refine et_of fun x hx => h'.2 x ?_
  rw [List.mem_singleton] at hx
  subst hx
  exact List.mem_filter.2 ⟨List.mem_cons_self, rfl⟩
end Go.Proofs.YtgnnlaeikcnhcaaGreatDoor
end
section
set_option linter.unusedSimpArgs false
set_option linter.unusedVariables false
namespace Go.Vk
open Go Go.RowKit Go.WideShapes Go.ChangeShapes
variable {H : Type} {enc : TypeId × Value → H} {P : Program}
theorem Ext.below {w w' : World} (h : Ext w w') : Below w.heap.size w w' := ⟨h.alike.os, h.alike.tape, h.alike.output, h.alike.size, fun _ hk => h.heap hk⟩
theorem post_ext {f : Func} {s : ChangeSpec} {apart fresh handsOn again : Bool} {W W' : World} {args : Array Value} {v : Value} {ds gs : List (DataW H)} {before pa pv : List MemPlace}
    (hW : DataW.Whole enc P f.params.toList s.vars apart W args.toList ds gs before)
    (hres : ∀ (b : Nat) (sp : Nat → Bool) (hd : Bool), DataW.TrodAll enc P W' b sp hd f.resultTypes.toList (v.resultList f.resultTypes.size) (s.fn H (ds ++ gs)).results [])
    (hargs : ∀ sp : Nat → Bool, (∀ p ∈ before, sp p.block = true) → DataW.TrodAll enc P W' 0 sp true f.params.toList args.toList (s.fn H (ds ++ gs)).args pa)
    (hvars : ∀ sp : Nat → Bool, (∀ p ∈ before, sp p.block = true) → DataW.TrodVars enc P W' sp s.vars (s.fn H (ds ++ gs)).vars pv)
    (hps : before = pa ++ pv) (hx : Ext W W')
    (hok : ∀ (j : Nat) (t : TypeId) (r : Value), f.resultTypes[j]? = some t → (v.resultList f.resultTypes.size)[j]? = some r → Value.okWide P W' .any 0 t r) :
    s.post enc P f apart fresh handsOn again W args v W' := by
  subst hps
  have hb := hx.below
  have lt : ∀ p ∈ pa ++ pv, p.block < W.heap.size := fun p hp => hW.lt p hp
  have old : ∀ p ∈ pa ++ pv, (fun b => decide (b < W.heap.size)) p.block = true := fun p hp => by simpa using lt p hp
  refine ⟨ds, gs, pa ++ pv, [], pa, pv, hW, hres _ _ _, hargs _ old, hvars _ old, World.keptBut_mono (fun p hp => ⟨hp, .inr (List.mem_append.1 hp)⟩) (hb.frame (· ∈ pa ++ pv)), fun _ => ?_⟩
  obtain ⟨_, _, _, _, _, hz, hn⟩ := hW
  refine ⟨hok, _, _, ([] ++ pa) ++ pv, ⟨[] ++ pa, pv, trodAll_append (hargs _ fun _ _ => rfl) (hres _ _ _), hvars _ fun _ _ => rfl, rfl, fun b off hp => ?_, fun ha => by simpa using hn ha⟩, fun p hp _ => by simpa using hp⟩
  have hin : MemPlace.cell b off ∈ pa ++ pv := by simpa using hp
  rw [hb.frozen (lt _ hin)]
  exact hz b off hin
end Go.Vk
end
section
set_option linter.unusedSimpArgs false
set_option linter.unusedVariables false
namespace Go.Vk
open Go Go.RowKit Go.WideShapes Go.ChangeShapes
variable {H : Type} {enc : TypeId × Value → H} {P : Program}
theorem stays_all (hl : laidOutB P = true) {W W' : World} (hx : Ext W W') {sp : Nat → Bool} : ∀ {ts : List TypeId} {vs : List Value} {ds : List (DataW H)} {ps : List MemPlace},
    DataW.TrodAll enc P W 0 (fun _ => true) true ts vs ds ps → (ts.all fun t => P.readableRec t && decide (t < P.types.size)) = true → (∀ p ∈ ps, p.block < W.heap.size) → (∀ p ∈ ps, sp p.block = true) →
    DataW.TrodAll enc P W' 0 sp true ts vs ds ps
  | [], vs, ds, ps, h, _, _, _ => by
    obtain ⟨rfl, rfl, rfl⟩ := trodAll_nil h
    exact trodAll_mk0
  | t :: ts, vs, ds, ps, h, ht, hlt, hs => by
    obtain ⟨v, vs', d, ds', p, q, rfl, rfl, rfl, h0, hr⟩ := trodAll_cons h
    simp only [List.all_cons, Bool.and_eq_true, decide_eq_true_eq] at ht
    exact trodAll_cons_mk (WideElems.Trod_stays hl ht.1.1 ht.1.2 h0 (fun x hx' => hx.below.same (hlt x (by simp [hx']))) (fun x hx' => hs x (by simp [hx'])))
      (stays_all hl hx hr (by simpa using ht.2) (fun x hx' => hlt x (by simp [hx'])) (fun x hx' => hs x (by simp [hx'])))
theorem law_post {f : Func} {s : ChangeSpec} {fresh handsOn again : Bool} {W W' : World} {args : Array Value} {ds gs : List (DataW H)} {before : List MemPlace} {tb : TypeId}
    (hl : laidOutB P = true) (hts : (f.params.toList.all fun t => P.readableRec t && decide (t < P.types.size)) = true) (hb : P.underlying tb = some .bool) (hres : f.resultTypes = #[tb])
    (hvars : s.vars = []) (hfn : s.fn H (ds ++ gs) = { results := [.lit (.bool true)], args := ds })
    (hW : DataW.Whole enc P f.params.toList s.vars false W args.toList ds gs before) (hx : Ext W W') :
    s.post enc P f false fresh handsOn again W args (.bool true) W' := by
  have hlt : ∀ p ∈ before, p.block < W.heap.size := fun p hp => hW.lt p hp
  have hW' := hW
  obtain ⟨p, q, hA, hV, rfl, hfz, hnd⟩ := hW
  rw [hvars] at hV
  obtain ⟨rfl, rfl⟩ := trodVars_none hV
  rw [List.append_nil] at *
  refine post_ext (pa := p) (pv := []) hW' (fun b sp hd => ?_) (fun sp hs => ?_) (fun sp hs => ?_) (by simp) hx (fun j t r hj hv => ?_)
  · rw [hres, List.append_nil, hfn]
    exact trodAll_cons_mk (shut_bool hb _) trodAll_mk0
  · rw [List.append_nil, hfn]
    exact stays_all hl hx hA hts hlt hs
  · rw [List.append_nil, hfn, hvars]; rfl
  · rw [hres] at hj hv
    match j, hj, hv with
    | 0, hj, hv =>
      simp [Value.resultList] at hj hv
      subst hj; subst hv
      exact okWide_bool_mk hb _
end Go.Vk
end
section
set_option linter.unusedSimpArgs false
set_option linter.unusedVariables false
namespace Go.Vk
open Go Go.RowKit Go.WideShapes Go.ChangeShapes
structure AcF where
  kd : Int
  i : Int
  j : Int
def AcF.cells (x : AcF) : List Value := [.int .u8 x.kd, .int .i64 x.i, .int .i64 x.j]
end Go.Vk
end
