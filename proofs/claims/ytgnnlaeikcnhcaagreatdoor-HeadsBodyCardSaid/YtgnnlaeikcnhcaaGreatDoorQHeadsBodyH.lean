/- What the proof leans on, part 8 of 11. -/
import Derived.Test.YtgnnlaeikcnhcaaGreatDoorQHeadsBodyG
section
set_option linter.unusedSimpArgs false
set_option linter.unusedVariables false
namespace Go.Vk
open Go
/-- a builder whose nodes are the document and those of a list, none of them a template; nothing fostered; what is open is among them -/
structure Reg (b : BSt) (ns : List Nd) : Prop where
  gd : Gd b.L
  len : b.L.length = ns.length + 1
  nod : ∀ (i : Nat) (n : Nd), ns[i]? = some n → gN b.L ((i : Int) + 1) = { n with parent := (gN b.L ((i : Int) + 1)).parent, kids := (gN b.L ((i : Int) + 1)).kids }
  pl : ∀ n ∈ ns, kidK n.kind = true ∧ n.name ≠ tmpl
  stk : ∀ o ∈ b.s, ∃ (i : Nat) (n : Nd), ns[i]? = some n ∧ n.kind = 3 ∧ o = ⟨(i : Int) + 1, n.space, n.name⟩
  fo : b.foster = false
theorem nodeN_gN {L : List Nd} {i : Int} (h : 0 ≤ i ∧ i < L.length) : nodeN L i = gN L i := by
  unfold nodeN gN
  have := nd?_isSome L i
  rw [decide_eq_true h] at this
  obtain ⟨n, hn⟩ := Option.isSome_iff_exists.1 this
  rw [hn]; rfl
theorem aboveF_new {L : List Nd} (h : Gd L) (n : Nd) : ∀ (k : Nat) (j : Int), j < L.length → aboveF (L ++ [n]) L.length k j = false
  | 0, _, _ => rfl
  | k + 1, j, hj => by
    rw [aboveF]
    by_cases h0 : j < 0
    · rw [if_pos h0]
    · rw [if_neg h0]
      have e : ¬ j = (L.length : Int) := by omega
      rw [decide_eq_false e, Bool.false_or]
      apply aboveF_new h n k
      rw [upN_g, gN_push, if_neg e]
      split
      · omega
      · by_cases hp : 0 ≤ (gN L j).parent
        · exact (h.range hp).2
        · omega
theorem addN_pl {L : List Nd} {n : Nd} (hk : kidK n.kind = true) (hn : n.name ≠ tmpl) : addN L n = (L ++ [bareN n], (L.length : Int)) := by
  unfold addN
  rw [if_pos hk, if_neg (fun h => hn h.2.2)]
/-- a builder behind an Insert where nothing is odd -/
def insR (b : BSt) (n : Nd) : BSt := { b with L := hangN (b.L ++ [bareN n]) (targB b).toNat (-1) b.L.length, s := b.s ++ [⟨(b.L.length : Int), n.space, n.name⟩] }
theorem topS_eq (s : List OpS) : topS s = match s.getLast? with | none => -1 | some o => o.node := by
  unfold topS atS
  rcases List.eq_nil_or_concat s with rfl | ⟨r, o, rfl⟩
  · rfl
  · rw [List.concat_eq_append, List.getLast?_concat]
    simp only [List.length_append, List.length_cons, List.length_nil]
    rw [if_pos ⟨by omega, by omega⟩]
    have e : (((r.length + (0 + 1) : Nat) : Int) - 1).toNat = r.length := by omega
    rw [e]
    simp
theorem Reg.targ {b : BSt} {ns : List Nd} (h : Reg b ns) : (b.s = [] ∧ targB b = 0) ∨ ∃ (i : Nat) (n : Nd), ns[i]? = some n ∧ n.kind = 3 ∧ targB b = (i : Int) + 1 := by
  unfold targB
  rw [topS_eq]
  rcases List.eq_nil_or_concat b.s with e | ⟨r, o, e⟩
  · rw [e]; exact .inl ⟨rfl, rfl⟩
  · rw [List.concat_eq_append] at e
    obtain ⟨i, n, h1, h2, h3⟩ := h.stk o (by rw [e]; simp)
    right
    refine ⟨i, n, h1, h2, ?_⟩
    rw [e, List.getLast?_concat]
    subst h3
    dsimp only
    rw [if_neg (by omega)]
theorem Reg.t0 {b : BSt} {ns : List Nd} (h : Reg b ns) : 0 ≤ targB b ∧ targB b < b.L.length ∧ (((gN b.L (targB b)).kind = 1 ∧ targB b = 0) ∨ ((gN b.L (targB b)).kind = 3 ∧ (gN b.L (targB b)).name ≠ tmpl)) := by
  have hl := h.len
  rcases h.targ with ⟨_, e⟩ | ⟨i, n, h1, h2, e⟩
  · rw [e]; exact ⟨by omega, by omega, .inl ⟨h.gd.doc, rfl⟩⟩
  · have hi : i < ns.length := (List.getElem?_eq_some_iff.1 h1).1
    rw [e]
    refine ⟨by omega, by omega, .inr ?_⟩
    rw [h.nod i n h1]
    exact ⟨h2, (h.pl n (List.mem_of_getElem? h1)).2⟩
theorem Reg.place {b : BSt} {ns : List Nd} (h : Reg b ns) {L' : List Nd} (hk : (nodeN L' (targB b)).kind ≠ 3 ∨ (nodeN L' (targB b)).name ≠ tmpl) : placeB { b with L := L' } (targB b) = (targB b, -1) := by
  have e1 : place1 { b with L := L' } (targB b) = (targB b, -1) := by
    unfold place1
    rw [if_neg (by rw [show ({ b with L := L' } : BSt).foster = false from h.fo]; simp)]
  unfold placeB
  rw [e1]
  rw [if_neg]
  rintro ⟨_, hh⟩
  unfold htmlN at hh
  simp only [List.any_cons, List.any_nil, Bool.or_false, Bool.and_eq_true, decide_eq_true_eq] at hh
  rcases hk with hk | hk
  · exact hk hh.1
  · exact hk hh.2.2
theorem gN_hang_new {L : List Nd} (h : Gd L) {n : Nd} (hp : n.parent = -1) (hk : n.kids = []) (h1 : n.kind ≠ 1) {p : Nat} (hpl : p < L.length) (t : Int) :
    gN (hangN (L ++ [n]) p (-1) L.length) t = if t = L.length then { n with parent := (p : Int) } else if t = p then { gN L t with kids := (gN L t).kids ++ [(L.length : Int)] } else gN L t := by
  have hg := h.push hp hk h1
  have hlen : (L ++ [n]).length = L.length + 1 := by simp
  rw [gN_hang hg (by omega) (by omega)]
  have hno : ∀ u : Int, (L.length : Int) ∉ (gN (L ++ [n]) u).kids := fun u hm => by
    have := (hg.kid u _).1 hm
    rw [gN_push, if_pos rfl, hp] at this
    omega
  rw [List.erase_of_not_mem (hno t), gN_push]
  by_cases e1 : t = (L.length : Int)
  · have e2 : ¬ t = (p : Int) := by omega
    simp only [if_pos e1, if_neg e2]
  · simp only [if_neg e1]
    by_cases e2 : t = (p : Int)
    · simp only [if_pos e2, addK]
      rw [if_pos (by decide)]
    · simp only [if_neg e2]
theorem Reg.ins {b : BSt} {ns : List Nd} (h : Reg b ns) (hs : b.s.length < 512) {n : Nd} (hk : n.kind = 3) (hn : n.name ≠ tmpl) :
    insertB b n = (insR b n, (b.L.length : Int)) ∧ Reg (insR b n) (ns ++ [bareN n]) ∧
    ∀ t, gN (insR b n).L t = if t = b.L.length then { bareN n with parent := targB b } else if t = targB b then { gN b.L t with kids := (gN b.L t).kids ++ [(b.L.length : Int)] } else gN b.L t := by
  obtain ⟨t0, t1, t2⟩ := h.t0
  have hl := h.len
  have hkk : kidK n.kind = true := by rw [hk]; rfl
  have hadd : addN b.L n = (b.L ++ [bareN n], (b.L.length : Int)) := addN_pl hkk hn
  have hbp : (bareN n).parent = -1 := rfl
  have hbk : (bareN n).kids = [] := rfl
  have hb1 : (bareN n).kind ≠ 1 := by rw [show (bareN n).kind = n.kind from rfl, hk]; decide
  have hgd := h.gd.push hbp hbk hb1
  have hlen : (b.L ++ [bareN n]).length = b.L.length + 1 := by simp
  obtain ⟨p, hp⟩ : ∃ p : Nat, targB b = p := ⟨(targB b).toNat, by omega⟩
  have hpl : p < b.L.length := by omega
  have hG : ∀ t, gN (insR b n).L t = if t = b.L.length then { bareN n with parent := targB b } else if t = targB b then { gN b.L t with kids := (gN b.L t).kids ++ [(b.L.length : Int)] } else gN b.L t := fun t => by
    unfold insR
    dsimp only
    rw [hp, Int.toNat_natCast]
    exact gN_hang_new h.gd hbp hbk hb1 hpl t
  have hpt : gN (b.L ++ [bareN n]) p = gN b.L p := by rw [gN_push, if_neg (by omega)]
  have hnp : nodeN (b.L ++ [bareN n]) p = gN b.L p := by rw [nodeN_gN (by omega), hpt]
  have happ : appendN (b.L ++ [bareN n]) p b.L.length = (hangN (b.L ++ [bareN n]) p (-1) b.L.length, 0) := by
    unfold appendN
    have c1 : holdsN (b.L ++ [bareN n]) p = true := by
      unfold holdsN
      have := nd?_isSome (b.L ++ [bareN n]) p
      rw [decide_eq_true (by omega)] at this
      obtain ⟨x, hx⟩ := Option.isSome_iff_exists.1 this
      rw [hx]
      have e := gN_of hx
      rw [hpt] at e
      rw [hp] at t2
      rw [← e]
      rcases t2 with t2 | t2
      · show holdK (gN b.L p).kind = true
        rw [t2.1]; rfl
      · show holdK (gN b.L p).kind = true
        rw [t2.1]; rfl
    have c2 : hangsN (b.L ++ [bareN n]) b.L.length = true := by
      unfold hangsN
      rw [nd?_nat, List.getElem?_append_right (Nat.le_refl _), Nat.sub_self]
      exact hkk
    have c3 : aboveN (b.L ++ [bareN n]) b.L.length p = false := by
      unfold aboveN
      exact aboveF_new h.gd _ _ _ (by omega)
    rw [if_pos ⟨c1, c2, c3⟩, Int.toNat_natCast, Int.toNat_natCast]
  have hhung : hungB b n = { b with L := hangN (b.L ++ [bareN n]) p (-1) b.L.length } := by
    unfold hungB
    rw [hadd]
    have ht : targB (addB b n) = targB b := rfl
    have ea : addB b n = { b with L := b.L ++ [bareN n] } := by unfold addB; rw [hadd]
    have hpl' : placeB (addB b n) (targB (addB b n)) = (targB b, -1) := by
      rw [ht, ea]
      refine h.place ?_
      rw [hp, hnp]
      rw [hp] at t2
      rcases t2 with t2 | t2
      · left; rw [t2.1]; decide
      · exact .inr t2.2
    unfold putB
    rw [hpl', if_neg (show ¬ (0 : Int) ≤ -1 by decide)]
    dsimp only
    rw [hp, ea]
    dsimp only
    rw [happ]
  have hgi : gN (insR b n).L b.L.length = { bareN n with parent := targB b } := by rw [hG, if_pos rfl]
  have hil : (insR b n).L.length = b.L.length + 1 := by unfold insR; dsimp only; rw [hangN_len, hlen]
  have hgdR : Gd (insR b n).L := by
    have := Go.Proofs.YtgnnlaeikcnhcaaGreatDoor.append_gd hgd (p : Int) (b.L.length : Int)
    rw [happ] at this
    unfold insR
    dsimp only
    rw [hp, Int.toNat_natCast]
    exact this
  refine ⟨?_, ⟨hgdR, ?_, ?_, ?_, ?_, h.fo⟩, hG⟩
  · unfold insertB
    rw [if_neg (by omega), hadd]
    dsimp only
    rw [hhung]
    have hop : opN (hangN (b.L ++ [bareN n]) p (-1) b.L.length) b.L.length = ⟨(b.L.length : Int), n.space, n.name⟩ := by
      have e : nodeN (insR b n).L b.L.length = { bareN n with parent := targB b } := by rw [nodeN_gN (by omega), hgi]
      unfold insR at e
      dsimp only at e
      rw [hp, Int.toNat_natCast] at e
      unfold opN
      unfold nodeN at e
      rw [e]; rfl
    have hk3 : ((nd? (hangN (b.L ++ [bareN n]) p (-1) b.L.length) b.L.length).getD zN).kind = 3 := by
      have e : nodeN (insR b n).L b.L.length = { bareN n with parent := targB b } := by rw [nodeN_gN (by omega), hgi]
      unfold insR at e
      dsimp only at e
      rw [hp, Int.toNat_natCast] at e
      unfold nodeN at e
      rw [e]; exact hk
    have hpush : pushB { b with L := hangN (b.L ++ [bareN n]) p (-1) b.L.length } b.L.length = (insR b n, 0) := by
      unfold pushB insS
      dsimp only
      rw [if_pos hk3, if_pos ⟨by omega, Int.le_refl _⟩, if_neg (by omega), hop, Int.toNat_natCast, List.take_length, List.drop_length]
      unfold insR
      rw [hp, Int.toNat_natCast]
    rw [hpush]
    unfold failB
    rw [if_neg (fun h => h.2 rfl)]
  · rw [hil, hl]; simp
  · intro i x hx
    rw [List.getElem?_append] at hx
    split at hx
    · rename_i hi
      have hi' : ¬ (i : Int) + 1 = (b.L.length : Int) := by omega
      have := h.nod i x hx
      rw [hG, if_neg hi']
      split
      · rw [this]
      · rw [this]
    · rename_i hi
      have e0 : i - ns.length = 0 := by
        have := (List.getElem?_eq_some_iff.1 hx).1
        simp at this; omega
      rw [e0] at hx
      obtain rfl : bareN n = x := by simpa using hx
      have hi' : (i : Int) + 1 = (b.L.length : Int) := by omega
      rw [hG, if_pos hi']
  · intro x hx
    simp only [List.mem_append, List.mem_cons, List.not_mem_nil, or_false] at hx
    rcases hx with hx | rfl
    · exact h.pl x hx
    · exact ⟨hkk, hn⟩
  · intro o ho
    unfold insR at ho
    simp only [List.mem_append, List.mem_cons, List.not_mem_nil, or_false] at ho
    rcases ho with ho | rfl
    · obtain ⟨i, x, h1, h2, h3⟩ := h.stk o ho
      exact ⟨i, x, by rw [List.getElem?_append_left (List.getElem?_eq_some_iff.1 h1).1]; exact h1, h2, h3⟩
    · refine ⟨ns.length, bareN n, by simp, hk, ?_⟩
      have : (b.L.length : Int) = (ns.length : Int) + 1 := by omega
      rw [this]; rfl
theorem Reg.mode {b : BSt} {ns : List Nd} (h : Reg b ns) (m : Int) : Reg { b with mode := m } ns := ⟨h.gd, h.len, h.nod, h.pl, h.stk, h.fo⟩
theorem insR_att {b : BSt} {n : Nd} (h : Att b.L) (hn : n.attrs.length < 1000000) : Att (insR b n).L := by
  unfold insR
  dsimp only
  refine att_hang (fun x hx => ?_) _ _ _
  simp only [List.mem_append, List.mem_cons, List.not_mem_nil, or_false] at hx
  rcases hx with hx | rfl
  · exact h x hx
  · exact hn
end Go.Vk
end
section
set_option linter.unusedSimpArgs false
set_option linter.unusedVariables false
namespace Go.Vk
open Go
def deepN (nm : ByteArray) : Nd := elTok (tokI nm) 0
structure Deep (nm : ByteArray) (k : Nat) (b : BSt) : Prop where
  reg : Reg b (List.replicate k (bareN (deepN nm)))
  s : b.s.length = k
  err : b.err = none
  at_ : Att b.L
  l : b.l = []
theorem Deep.ok {nm : ByteArray} {k : Nat} {b : BSt} (h : Deep nm k b) (hk : k ≤ 512) : okB b ∧ b.L.length = k + 1 := by
  have := h.reg.len
  rw [List.length_replicate] at this
  exact ⟨⟨by omega, h.at_, by rw [h.s]; omega, by rw [h.l]; decide⟩, this⟩
theorem Deep.step {nm : ByteArray} {k : Nat} {b : BSt} (h : Deep nm k b) (hk : k < 512) (hn : nm ≠ tmpl) : (implyB b nm).2 = (k : Int) + 1 ∧ Deep nm (k + 1) (implyB b nm).1 := by
  obtain ⟨e, r, _⟩ := h.reg.ins (n := deepN nm) (by rw [h.s]; exact hk) rfl hn
  have hl := (h.ok (by omega)).2
  have e' : implyB b nm = (insR b (deepN nm), (b.L.length : Int)) := e
  rw [e']
  refine ⟨by dsimp only; omega, ⟨?_, ?_, h.err, insR_att h.at_ (show (0 : Nat) < 1000000 by decide), h.l⟩⟩
  · rw [List.replicate_succ']; exact r
  · show (b.s ++ [_]).length = _
    simp [h.s]
end Go.Vk
end
section
set_option linter.unusedSimpArgs false
set_option linter.unusedVariables false
namespace Go.Vk
open Go
def rsNames : List ByteArray := [⟨#[100, 105, 118]⟩, ⟨#[112]⟩, ⟨#[116, 100]⟩, ⟨#[116, 104]⟩, ⟨#[116, 114]⟩, ⟨#[116, 98, 111, 100, 121]⟩, ⟨#[116, 104, 101, 97, 100]⟩, ⟨#[116, 102, 111, 111, 116]⟩, ⟨#[99, 97, 112, 116, 105, 111, 110]⟩, ⟨#[99, 111, 108, 103, 114, 111, 117, 112]⟩, ⟨#[116, 97, 98, 108, 101]⟩, ⟨#[104, 101, 97, 100]⟩, ⟨#[98, 111, 100, 121]⟩, ⟨#[115, 118, 103]⟩]
def rsName (k : Nat) : ByteArray := rsNames.getD k ⟨#[]⟩
def rsSp (k : Nat) : Int := if k = 13 then 1 else 0
def rsTok (k : Nat) : HTok := ⟨2, rsName k, ⟨#[]⟩, [], false, false, false, 0, 0⟩
def rsNd (k : Nat) : Nd := elTok (rsTok k) (rsSp k)
def rsHtml : Nd := bareN (elTok (tokI sHtml) 0)
structure Rsv (ks : List Nat) (b : BSt) : Prop where
  reg : Reg b (rsHtml :: ks.map fun k => bareN (rsNd k))
  s : b.s = (List.range (ks.length + 1)).map fun j => ⟨(j : Int) + 1, ((rsHtml :: ks.map fun k => bareN (rsNd k)).getD j zN).space, ((rsHtml :: ks.map fun k => bareN (rsNd k)).getD j zN).name⟩
  head : b.head = -1
  modes : b.modes = []
  at_ : Att b.L
  l : b.l = []
  doc : (gN b.L 0).name.size < 4294967281
theorem rs_nt (k : Nat) (hk : k < 14) : rsName k ≠ tmpl ∧ (rsName k).size < 20 := by
  have : ∀ k, k < 14 → rsName k ≠ tmpl ∧ (rsName k).size < 20 := by decide +kernel
  exact this k hk
theorem Rsv.ins {ks : List Nat} {b : BSt} (h : Rsv ks b) {k : Nat} (hk : k < 14) (hl : ks.length < 100) : Rsv (ks ++ [k]) (insertB b (rsNd k)).1 ∧ (insertB b (rsNd k)).2 = (ks.length : Int) + 2 := by
  have hlen := h.reg.len
  rw [List.length_cons, List.length_map] at hlen
  have hsl : b.s.length = ks.length + 1 := by rw [h.s]; simp
  obtain ⟨e, r, hG⟩ := h.reg.ins (n := rsNd k) (by omega) rfl (rs_nt k hk).1
  rw [e]
  refine ⟨⟨?_, ?_, h.head, h.modes, insR_att h.at_ (by exact (by decide : (0 : Nat) < 1000000)), h.l, ?_⟩, by dsimp only; omega⟩
  · have : (rsHtml :: List.map (fun k => bareN (rsNd k)) (ks ++ [k])) = (rsHtml :: List.map (fun k => bareN (rsNd k)) ks) ++ [bareN (rsNd k)] := by simp
    rw [this]; exact r
  · show b.s ++ [_] = _
    have e2 : (rsHtml :: List.map (fun k => bareN (rsNd k)) (ks ++ [k])) = (rsHtml :: List.map (fun k => bareN (rsNd k)) ks) ++ [bareN (rsNd k)] := by simp
    rw [e2, List.length_append, List.length_singleton, List.range_succ, List.map_append, h.s]
    congr 1
    · apply List.map_congr_left
      intro j hj
      rw [List.mem_range] at hj
      rw [List.getD_eq_getElem?_getD, List.getD_eq_getElem?_getD, List.getElem?_append_left (by simp; omega)]
    · have e3 : ((rsHtml :: List.map (fun k => bareN (rsNd k)) ks) ++ [bareN (rsNd k)]).getD (ks.length + 1) zN = bareN (rsNd k) := by
        rw [List.getD_eq_getElem?_getD, List.getElem?_append_right (by simp)]; simp
      rw [List.map_singleton, e3]
      have : (b.L.length : Int) = ((ks.length + 1 : Nat) : Int) + 1 := by omega
      rw [this]; rfl
  · have h0 := hG 0
    rw [if_neg (by omega)] at h0
    show (gN (insR b (rsNd k)).L 0).name.size < _
    rw [h0]
    split
    · exact h.doc
    · exact h.doc
end Go.Vk
end
section
set_option linter.unusedSimpArgs false
set_option linter.unusedVariables false
namespace Go.Proofs.YtgnnlaeikcnhcaaGreatDoor
open Go Go.Vk
section
variable {w0 w : World} {Q : Nat → Prop} {pb ps pl pa : Nat} {b : BSt}
theorem bsrem_c (h : BuAt w0 w Q pb ps pl pa b) (hb : okB b) (i : Int) : Gives Tryz.prog 206 #[.pointer (some ⟨ps, 0, none⟩), .int .i64 i] w fun v w' => v = .int .i64 (remS b.s i).2 ∧ BuAt w0 w' Q pb ps pl pa { b with s := (remS b.s i).1 } ∧ Upd (AF w0 Q) w w' := by
  obtain ⟨P, hS, hback⟩ := h.stk
  refine (srem_c hS hb.s i).mono ?_
  rintro v w' ⟨rfl, g1, g2⟩
  exact ⟨rfl, hback _ _ _ g1 g2⟩
theorem buntil_c (h : BuAt w0 w Q pb ps pl pa b) (hb : okB b) {nv : Value} {l : List ByteArray} (hn : RdAt w 1 nv (strCells l)) (hl : l.length < 1000000000) : Gives Tryz.prog 133 #[.pointer (some ⟨ps, 0, none⟩), nv] w fun v w' => v = .int .i64 (untS b.s l).2 ∧ BuAt w0 w' Q pb ps pl pa { b with s := (untS b.s l).1 } ∧ Upd (AF w0 Q) w w' := by
  obtain ⟨P, hS, hback⟩ := h.stk
  refine (suntil_c hS hb.s hn hl).mono ?_
  rintro v w' ⟨rfl, g1, g2⟩
  exact ⟨rfl, hback _ _ _ g1 g2⟩
theorem bthor_c (h : BuAt w0 w Q pb ps pl pa b) (hb : okB b) (hm : MaxAt w0) (hz : ∀ o ∈ b.s, o.name.size < 4294967281) : Gives Tryz.prog 212 #[.pointer (some ⟨ps, 0, none⟩)] w fun _ w' => BuAt w0 w' Q pb ps pl pa { b with s := dropS thoN b.s } ∧ Upd (AF w0 Q) w w' := by
  obtain ⟨P, hS, hback⟩ := h.stk
  refine (sthor_c hS hb.s hm hz).mono ?_
  rintro v w' ⟨g1, g2⟩
  exact hback _ _ _ g1 g2
theorem bfclear_c (h : BuAt w0 w Q pb ps pl pa b) (hb : okB b) : Gives Tryz.prog 174 #[.pointer (some ⟨pl, 0, none⟩)] w fun _ w' => BuAt w0 w' Q pb ps pl pa { b with l := clearN b.l (openN b.l) } ∧ Upd (AF w0 Q) w w' := by
  obtain ⟨P, hF, hback⟩ := h.fmt
  refine (clear_c hF hb.l).mono ?_
  rintro v w' ⟨g1, g2⟩
  exact hback _ _ _ g1 g2
theorem bappend_c (h : BuAt w0 w Q pb ps pl pa b) (hb : okB b) (p i : Int) : Gives Tryz.prog 132 #[.pointer (some ⟨pa, 0, none⟩), .int .i64 p, .int .i64 i] w fun v w' => v = .int .i64 (appendN b.L p i).2 ∧ BuAt w0 w' Q pb ps pl pa { b with L := (appendN b.L p i).1 } ∧ Upd (AF w0 Q) w w' := by
  obtain ⟨P, hA, hback⟩ := h.ar
  have := hb.L
  refine (append_a hA (by omega) p i).mono ?_
  rintro v w' ⟨rfl, g1, g2⟩
  exact ⟨rfl, hback _ _ g1 g2⟩
end
set_option maxHeartbeats 40000000
end Go.Proofs.YtgnnlaeikcnhcaaGreatDoor
end
section
set_option linter.unusedSimpArgs false
set_option linter.unusedVariables false
namespace Go.Vk
open Go
theorem W_drawN {P : Program} {n : Nat} {K : Regs → World → Prop} {X : Outs} (sch : Sch) (B : Nat → Prop) (N : Nat) {l : List Oper} (hN : l.length = N) (hn : n ≤ 1000000) (hm : P.follows .mixedOrders = true)
    (hc : (Region.noSelect l.toArray && l.toArray.all (dLt n) && chk P .any l.toArray N (Array.replicate N false) sch) = true)
    {id : Nat} {σ : Regs} {w : World} (h : SchW P l.toArray B K sch σ w.drew) : W P n σ w (.region id l.toArray true) K X := by
  subst hN
  refine W_draw sch B hn hm ?_ h
  rw [List.size_toArray]
  exact hc
end Go.Vk
end
section
set_option linter.unusedSimpArgs false
set_option linter.unusedVariables false
namespace Go.Proofs.YtgnnlaeikcnhcaaGreatDoor
open Go Go.Vk
set_option maxHeartbeats 40000000
section
variable {w : World} {t : HTok} {xa : Option Addr} {xn xc : Nat}
theorem hstart_c {nv : Value} {l : List ByteArray} (hn : RdAt w 1 nv (strCells l)) (hl : l.length < 1000000000) : Gives Tryz.prog 125 #[.agg (t.row (.slice xa xn xc)), nv] w fun v w' => v = .bool (startT t l) ∧ Ext w w' := by
  have hrow : t.row (.slice xa xn xc) = #[.int .i64 t.kind, .string t.name, .string t.text, .slice xa xn xc, .bool t.dup, .bool t.self, .bool t.quirks, .int .i64 t.frm, .int .i64 t.to] := rfl
  have hx := Ext.alloc w (.cells (t.row (.slice xa xn xc)) 37)
  have hp : (w.alloc (.cells (t.row (.slice xa xn xc)) 37)).heap[w.heap.size]? = some (.cells (t.row (.slice xa xn xc)) 37 (0, 0)) := by rw [heap_alloc_h, if_pos rfl]
  obtain ⟨r, hr⟩ : ∃ r, r = startT t l := ⟨_, rfl⟩
  rw [← hr]
  unfold startT at hr
  refine Gives.of_W Tryz.call125 Tryz.func125 rfl Tryz.ntmps125 (by simp) ?_; intro Z hZ
  (repeat first|(with_reducible first|(refine hK _ _ ?_;clear hK K)|refine ‹∀σ w,_→K σ w› _ _ ?_|(refine W_st ?_;constructor;try intro K hK))|((with_reducible first|refine hZ _ _ ?_|refine W_rg ?_|skip);repeat1' simp only[push_cast,seval,-Nat.reduceSubDiff,vcells_agg])|((repeat((fail_if_success with_reducible refine hK _ _ ?_);clear hK K));with_reducible refine hK _ _ ?_;clear hK K))
  generalize w.alloc (.cells (t.row (.slice xa xn xc)) 37) = w1 at *
  obtain ⟨p, hpe⟩ : ∃ p, p = w.heap.size := ⟨_, rfl⟩
  rw [← hpe] at hp ⊢
  rw [hrow] at hp
  by_cases hk : t.kind = 2
  · rw [decide_eq_true hk, Bool.true_and] at hr
    (repeat first|(with_reducible first|(refine hK _ _ ?_;clear hK K)|refine ‹∀σ w,_→K σ w› _ _ ?_|(refine W_st ?_;constructor;try intro K hK))|((with_reducible first|refine hZ _ _ ?_|refine W_rg ?_|skip);repeat1' simp only[push_cast,seval,-Nat.reduceSubDiff,cell_h,cellO_cells,hp,hk,eq_self])|((repeat((fail_if_success with_reducible refine hK _ _ ?_);clear hK K));with_reducible refine hK _ _ ?_;clear hK K))
    refine (sconts_c (hn.ext hx) hl t.name).mono ?_
    intro v w' ⟨hv, hw⟩
    subst hv; subst w'
    (repeat first|(with_reducible first|(refine hK _ _ ?_;clear hK K)|refine ‹∀σ w,_→K σ w› _ _ ?_|(refine W_st ?_;constructor;try intro K hK))|((with_reducible first|refine hZ _ _ ?_|refine W_rg ?_|skip);repeat1' simp only[push_cast,seval,-Nat.reduceSubDiff])|((repeat((fail_if_success with_reducible refine hK _ _ ?_);clear hK K));with_reducible refine hK _ _ ?_;clear hK K))
    exact ⟨by rw [hr], hx⟩
  · rw [decide_eq_false hk, Bool.false_and] at hr
    (repeat first|(with_reducible first|(refine hK _ _ ?_;clear hK K)|refine ‹∀σ w,_→K σ w› _ _ ?_|(refine W_st ?_;constructor;try intro K hK))|((with_reducible first|refine hZ _ _ ?_|refine W_rg ?_|skip);repeat1' simp only[push_cast,seval,-Nat.reduceSubDiff,cell_h,cellO_cells,hp,hk])|((repeat((fail_if_success with_reducible refine hK _ _ ?_);clear hK K));with_reducible refine hK _ _ ?_;clear hK K))
    exact ⟨by rw [hr], hx⟩
theorem hend_c {nv : Value} {l : List ByteArray} (hn : RdAt w 1 nv (strCells l)) (hl : l.length < 1000000000) : Gives Tryz.prog 128 #[.agg (t.row (.slice xa xn xc)), nv] w fun v w' => v = .bool (endT t l) ∧ Ext w w' := by
  have hrow : t.row (.slice xa xn xc) = #[.int .i64 t.kind, .string t.name, .string t.text, .slice xa xn xc, .bool t.dup, .bool t.self, .bool t.quirks, .int .i64 t.frm, .int .i64 t.to] := rfl
  have hx := Ext.alloc w (.cells (t.row (.slice xa xn xc)) 37)
  have hp : (w.alloc (.cells (t.row (.slice xa xn xc)) 37)).heap[w.heap.size]? = some (.cells (t.row (.slice xa xn xc)) 37 (0, 0)) := by rw [heap_alloc_h, if_pos rfl]
  obtain ⟨r, hr⟩ : ∃ r, r = endT t l := ⟨_, rfl⟩
  rw [← hr]
  unfold endT at hr
  refine Gives.of_W Tryz.call128 Tryz.func128 rfl Tryz.ntmps128 (by simp) ?_; intro Z hZ
  (repeat first|(with_reducible first|(refine hK _ _ ?_;clear hK K)|refine ‹∀σ w,_→K σ w› _ _ ?_|(refine W_st ?_;constructor;try intro K hK))|((with_reducible first|refine hZ _ _ ?_|refine W_rg ?_|skip);repeat1' simp only[push_cast,seval,-Nat.reduceSubDiff,vcells_agg])|((repeat((fail_if_success with_reducible refine hK _ _ ?_);clear hK K));with_reducible refine hK _ _ ?_;clear hK K))
  generalize w.alloc (.cells (t.row (.slice xa xn xc)) 37) = w1 at *
  obtain ⟨p, hpe⟩ : ∃ p, p = w.heap.size := ⟨_, rfl⟩
  rw [← hpe] at hp ⊢
  rw [hrow] at hp
  by_cases hk : t.kind = 3
  · rw [decide_eq_true hk, Bool.true_and] at hr
    (repeat first|(with_reducible first|(refine hK _ _ ?_;clear hK K)|refine ‹∀σ w,_→K σ w› _ _ ?_|(refine W_st ?_;constructor;try intro K hK))|((with_reducible first|refine hZ _ _ ?_|refine W_rg ?_|skip);repeat1' simp only[push_cast,seval,-Nat.reduceSubDiff,cell_h,cellO_cells,hp,hk,eq_self])|((repeat((fail_if_success with_reducible refine hK _ _ ?_);clear hK K));with_reducible refine hK _ _ ?_;clear hK K))
    refine (sconts_c (hn.ext hx) hl t.name).mono ?_
    intro v w' ⟨hv, hw⟩
    subst hv; subst w'
    (repeat first|(with_reducible first|(refine hK _ _ ?_;clear hK K)|refine ‹∀σ w,_→K σ w› _ _ ?_|(refine W_st ?_;constructor;try intro K hK))|((with_reducible first|refine hZ _ _ ?_|refine W_rg ?_|skip);repeat1' simp only[push_cast,seval,-Nat.reduceSubDiff])|((repeat((fail_if_success with_reducible refine hK _ _ ?_);clear hK K));with_reducible refine hK _ _ ?_;clear hK K))
    exact ⟨by rw [hr], hx⟩
  · rw [decide_eq_false hk, Bool.false_and] at hr
    (repeat first|(with_reducible first|(refine hK _ _ ?_;clear hK K)|refine ‹∀σ w,_→K σ w› _ _ ?_|(refine W_st ?_;constructor;try intro K hK))|((with_reducible first|refine hZ _ _ ?_|refine W_rg ?_|skip);repeat1' simp only[push_cast,seval,-Nat.reduceSubDiff,cell_h,cellO_cells,hp,hk])|((repeat((fail_if_success with_reducible refine hK _ _ ?_);clear hK K));with_reducible refine hK _ _ ?_;clear hK K))
    exact ⟨by rw [hr], hx⟩
theorem hstrange_c : Gives Tryz.prog 127 #[.agg (t.row (.slice xa xn xc))] w fun v w' => v = .bool (strT t) ∧ Ext w w' := by
  have hrow : t.row (.slice xa xn xc) = #[.int .i64 t.kind, .string t.name, .string t.text, .slice xa xn xc, .bool t.dup, .bool t.self, .bool t.quirks, .int .i64 t.frm, .int .i64 t.to] := rfl
  have hx := Ext.alloc w (.cells (t.row (.slice xa xn xc)) 37)
  have hp : (w.alloc (.cells (t.row (.slice xa xn xc)) 37)).heap[w.heap.size]? = some (.cells (t.row (.slice xa xn xc)) 37 (0, 0)) := by rw [heap_alloc_h, if_pos rfl]
  obtain ⟨r, hr⟩ : ∃ r, r = strT t := ⟨_, rfl⟩
  rw [← hr]
  unfold strT at hr
  refine Gives.of_W Tryz.call127 Tryz.func127 rfl Tryz.ntmps127 (by simp) ?_; intro Z hZ
  (repeat first|(with_reducible first|(refine hK _ _ ?_;clear hK K)|refine ‹∀σ w,_→K σ w› _ _ ?_|(refine W_st ?_;constructor;try intro K hK))|((with_reducible first|refine hZ _ _ ?_|refine W_rg ?_|skip);repeat1' simp only[push_cast,seval,-Nat.reduceSubDiff,vcells_agg])|((repeat((fail_if_success with_reducible refine hK _ _ ?_);clear hK K));with_reducible refine hK _ _ ?_;clear hK K))
  generalize w.alloc (.cells (t.row (.slice xa xn xc)) 37) = w1 at *
  obtain ⟨p, hpe⟩ : ∃ p, p = w.heap.size := ⟨_, rfl⟩
  rw [← hpe] at hp ⊢
  rw [hrow] at hp
  by_cases hk : t.kind = 3
  · rw [decide_eq_true hk, Bool.true_and] at hr
    (repeat first|(with_reducible first|(refine hK _ _ ?_;clear hK K)|refine ‹∀σ w,_→K σ w› _ _ ?_|(refine W_st ?_;constructor;try intro K hK))|((with_reducible first|refine hZ _ _ ?_|refine W_rg ?_|skip);repeat1' simp only[push_cast,seval,-Nat.reduceSubDiff,cell_h,cellO_cells,hp,hk,eq_self])|((repeat((fail_if_success with_reducible refine hK _ _ ?_);clear hK K));with_reducible refine hK _ _ ?_;clear hK K))
    refine bsl (l := lStr) rfl (by decide) (by decide) (by kernel_rfl) ?_
    rintro v w2 hx2 hn2 ⟨bn, rfl⟩
    have hp2 := hx2.blk hp
    (repeat first|(with_reducible first|(refine hK _ _ ?_;clear hK K)|refine ‹∀σ w,_→K σ w› _ _ ?_|(refine W_st ?_;constructor;try intro K hK))|((with_reducible first|refine hZ _ _ ?_|refine W_rg ?_|skip);repeat1' simp only[push_cast,seval,-Nat.reduceSubDiff,cell_h,cellO_cells,hp2])|((repeat((fail_if_success with_reducible refine hK _ _ ?_);clear hK K));with_reducible refine hK _ _ ?_;clear hK K))
    refine (sconts_c hn2 (by decide) t.name).mono ?_
    intro v w' ⟨hv, hw⟩
    subst hv; subst w'
    (repeat first|(with_reducible first|(refine hK _ _ ?_;clear hK K)|refine ‹∀σ w,_→K σ w› _ _ ?_|(refine W_st ?_;constructor;try intro K hK))|((with_reducible first|refine hZ _ _ ?_|refine W_rg ?_|skip);repeat1' simp only[push_cast,seval,-Nat.reduceSubDiff])|((repeat((fail_if_success with_reducible refine hK _ _ ?_);clear hK K));with_reducible refine hK _ _ ?_;clear hK K))
    exact ⟨by rw [hr], hx.trans hx2⟩
  · rw [decide_eq_false hk, Bool.false_and] at hr
    (repeat first|(with_reducible first|(refine hK _ _ ?_;clear hK K)|refine ‹∀σ w,_→K σ w› _ _ ?_|(refine W_st ?_;constructor;try intro K hK))|((with_reducible first|refine hZ _ _ ?_|refine W_rg ?_|skip);repeat1' simp only[push_cast,seval,-Nat.reduceSubDiff,cell_h,cellO_cells,hp,hk])|((repeat((fail_if_success with_reducible refine hK _ _ ?_);clear hK K));with_reducible refine hK _ _ ?_;clear hK K))
    exact ⟨by rw [hr], hx⟩
theorem hbelongs_c : Gives Tryz.prog 89 #[.agg (t.row (.slice xa xn xc))] w fun v w' => v = .bool (belT t) ∧ Ext w w' := by
  have hrow : t.row (.slice xa xn xc) = #[.int .i64 t.kind, .string t.name, .string t.text, .slice xa xn xc, .bool t.dup, .bool t.self, .bool t.quirks, .int .i64 t.frm, .int .i64 t.to] := rfl
  have hx := Ext.alloc w (.cells (t.row (.slice xa xn xc)) 37)
  have hp : (w.alloc (.cells (t.row (.slice xa xn xc)) 37)).heap[w.heap.size]? = some (.cells (t.row (.slice xa xn xc)) 37 (0, 0)) := by rw [heap_alloc_h, if_pos rfl]
  obtain ⟨r, hr⟩ : ∃ r, r = belT t := ⟨_, rfl⟩
  rw [← hr]
  unfold belT at hr
  refine Gives.of_W Tryz.call89 Tryz.func89 rfl Tryz.ntmps89 (by simp) ?_; intro Z hZ
  (repeat first|(with_reducible first|(refine hK _ _ ?_;clear hK K)|refine ‹∀σ w,_→K σ w› _ _ ?_|(refine W_st ?_;constructor;try intro K hK))|((with_reducible first|refine hZ _ _ ?_|refine W_rg ?_|skip);repeat1' simp only[push_cast,seval,-Nat.reduceSubDiff,vcells_agg])|((repeat((fail_if_success with_reducible refine hK _ _ ?_);clear hK K));with_reducible refine hK _ _ ?_;clear hK K))
  generalize w.alloc (.cells (t.row (.slice xa xn xc)) 37) = w1 at *
  obtain ⟨p, hpe⟩ : ∃ p, p = w.heap.size := ⟨_, rfl⟩
  rw [← hpe] at hp ⊢
  rw [hrow] at hp
  (repeat first|(with_reducible first|(refine hK _ _ ?_;clear hK K)|refine ‹∀σ w,_→K σ w› _ _ ?_|(refine W_st ?_;constructor;try intro K hK))|((with_reducible first|refine hZ _ _ ?_|refine W_rg ?_|skip);repeat1' simp only[push_cast,seval,-Nat.reduceSubDiff,cell_h,cellO_cells,hp])|((repeat((fail_if_success with_reducible refine hK _ _ ?_);clear hK K));with_reducible refine hK _ _ ?_;clear hK K))
  refine bsl (l := lBel) rfl (by decide) (by decide) (by kernel_rfl) ?_
  rintro v w2 hx2 hn2 ⟨bn, rfl⟩
  have hp2 := hx2.blk hp
  (repeat first|(with_reducible first|(refine hK _ _ ?_;clear hK K)|refine ‹∀σ w,_→K σ w› _ _ ?_|(refine W_st ?_;constructor;try intro K hK))|((with_reducible first|refine hZ _ _ ?_|refine W_rg ?_|skip);repeat1' simp only[push_cast,seval,-Nat.reduceSubDiff])|((repeat((fail_if_success with_reducible refine hK _ _ ?_);clear hK K));with_reducible refine hK _ _ ?_;clear hK K))
  rw [← hrow]
  refine (hstart_c hn2 (by decide)).mono ?_
  rintro v w3 ⟨rfl, hx3⟩
  have hp3 := hx3.blk hp2
  cases hst : startT t lBel with
  | true =>
    rw [hst, Bool.true_or] at hr
    (repeat first|(with_reducible first|(refine hK _ _ ?_;clear hK K)|refine ‹∀σ w,_→K σ w› _ _ ?_|(refine W_st ?_;constructor;try intro K hK))|((with_reducible first|refine hZ _ _ ?_|refine W_rg ?_|skip);repeat1' simp only[push_cast,seval,-Nat.reduceSubDiff])|((repeat((fail_if_success with_reducible refine hK _ _ ?_);clear hK K));with_reducible refine hK _ _ ?_;clear hK K))
    exact ⟨by rw [hr], (hx.trans hx2).trans hx3⟩
  | false =>
    (repeat first|(with_reducible first|(refine hK _ _ ?_;clear hK K)|refine ‹∀σ w,_→K σ w› _ _ ?_|(refine W_st ?_;constructor;try intro K hK))|((with_reducible first|refine hZ _ _ ?_|refine W_rg ?_|skip);repeat1' simp only[push_cast,seval,-Nat.reduceSubDiff,cell_h,cellO_cells,hp3])|((repeat((fail_if_success with_reducible refine hK _ _ ?_);clear hK K));with_reducible refine hK _ _ ?_;clear hK K))
    refine bsl (l := lTem) rfl (by decide) (by decide) (by kernel_rfl) ?_
    rintro v w4 hx4 hn4 ⟨bn4, rfl⟩
    (repeat first|(with_reducible first|(refine hK _ _ ?_;clear hK K)|refine ‹∀σ w,_→K σ w› _ _ ?_|(refine W_st ?_;constructor;try intro K hK))|((with_reducible first|refine hZ _ _ ?_|refine W_rg ?_|skip);repeat1' simp only[push_cast,seval,-Nat.reduceSubDiff])|((repeat((fail_if_success with_reducible refine hK _ _ ?_);clear hK K));with_reducible refine hK _ _ ?_;clear hK K))
    rw [← hrow]
    refine (hend_c hn4 (by decide)).mono ?_
    rintro v w5 ⟨rfl, hx5⟩
    rw [hst, Bool.false_or] at hr
    (repeat first|(with_reducible first|(refine hK _ _ ?_;clear hK K)|refine ‹∀σ w,_→K σ w› _ _ ?_|(refine W_st ?_;constructor;try intro K hK))|((with_reducible first|refine hZ _ _ ?_|refine W_rg ?_|skip);repeat1' simp only[push_cast,seval,-Nat.reduceSubDiff])|((repeat((fail_if_success with_reducible refine hK _ _ ?_);clear hK K));with_reducible refine hK _ _ ?_;clear hK K))
    exact ⟨by rw [hr], (((hx.trans hx2).trans hx3).trans hx4).trans hx5⟩
end
section
variable {w0 w : World} {Q : Nat → Prop} {pb ps pl pa : Nat} {b : BSt}
theorem bcomment_c (h : BuAt w0 w Q pb ps pl pa b) (hb : okB b) (hL : b.L.length + 2 < 90000) (hQl : ∀ q, Q q → q < w.heap.size) (t : HTok) {xa : Option Addr} {xn xc : Nat} (into : Int) :
    Gives Tryz.prog 75 #[.pointer (some ⟨pb, 0, none⟩), .agg (t.row (.slice xa xn xc)), .int .i64 into] w fun _ w' => BuAt w0 w' Q pb ps pl pa (commB b t.text into) ∧ Upd (AF w0 Q) w w' := by
  have hrow : t.row (.slice xa xn xc) = #[.int .i64 t.kind, .string t.name, .string t.text, .slice xa xn xc, .bool t.dup, .bool t.self, .bool t.quirks, .int .i64 t.frm, .int .i64 t.to] := rfl
  have hx := Ext.alloc w (.cells (t.row (.slice xa xn xc)) 37)
  have hp : (w.alloc (.cells (t.row (.slice xa xn xc)) 37)).heap[w.heap.size]? = some (.cells (t.row (.slice xa xn xc)) 37 (0, 0)) := by rw [heap_alloc_h, if_pos rfl]
  obtain ⟨r, hr⟩ : ∃ r, r = commB b t.text into := ⟨_, rfl⟩
  rw [← hr]
  unfold commB at hr
  refine Gives.of_W Tryz.call75 Tryz.func75 rfl Tryz.ntmps75 (by simp) ?_; intro Z hZ
  (repeat first|(with_reducible first|(refine hK _ _ ?_;clear hK K)|refine ‹∀σ w,_→K σ w› _ _ ?_|(refine W_st ?_;constructor;try intro K hK))|((with_reducible first|refine hZ _ _ ?_|refine W_rg ?_|skip);repeat1' simp only[push_cast,seval,-Nat.reduceSubDiff,vcells_agg])|((repeat((fail_if_success with_reducible refine hK _ _ ?_);clear hK K));with_reducible refine hK _ _ ?_;clear hK K))
  generalize w.alloc (.cells (t.row (.slice xa xn xc)) 37) = w1 at *
  obtain ⟨p, hpe⟩ : ∃ p, p = w.heap.size := ⟨_, rfl⟩
  rw [← hpe] at hp ⊢
  rw [hrow] at hp
  have h1 := h.pass hx
  have hsz := hx.sz
  have lp := blk_lt hp
  have hval : (Laid.mk (comTok t.text) (.slice none 0 0) (.slice none 0 0) none none).val = .agg #[.int .i64 5, .string ⟨#[]⟩, .string t.text, .int .i64 0, .slice none 0 0, .bool false, .int .i64 0, .int .i64 0, .slice none 0 0, .int .i64 (-1), .int .i64 (-1)] := by rw [Laid.val_eq]; rfl
  refine (bnone_c h1).mono ?_
  intro v w' ⟨hv, hw⟩
  subst hv; subst w'
  obtain ⟨ma, mn, mc, av', _, _, hh⟩ := h1.hd
  (repeat first|(with_reducible first|(refine hK _ _ ?_;clear hK K)|refine ‹∀σ w,_→K σ w› _ _ ?_|(refine W_st ?_;constructor;try intro K hK))|((with_reducible first|refine hZ _ _ ?_|refine W_rg ?_|skip);repeat1' simp only[push_cast,seval,-Nat.reduceSubDiff])|((repeat((fail_if_success with_reducible refine hK _ _ ?_);clear hK K));with_reducible refine hK _ _ ?_;clear hK K))
  refine W_drawN (.pas 0 (.pas 1 (.pas 2 (.pas 3 (.pas 4 (.pas 5 (.pas 6 (.act 7 (.pas 8 .fin))))))))) (fun q => q = pb ∨ q = p) 9 rfl (by decide) mixed (by kernel_rfl) ?_
  have hxd := Ext.drew w1
  generalize w1.drew = wd at *
  have hpd := hxd.blk hp
  have hhd := hxd.blk hh
  have hsd := hxd.sz
  have l1 : pb < w1.heap.size := blk_lt hh
  have hd : BuAt w0 wd (fun q => Q q ∨ q = p) pb ps pl pa b := h.more (hx.trans hxd) fun q hq => by
    rcases hq with hq | hq
    · exact .inl hq
    · exact .inr ⟨by omega, by omega⟩
  (repeat (first | ((first | refine pas_plain rfl ?_ | refine pas_g rfl rfl ?_ | refine act_plain rfl ?_ | refine act_g rfl rfl ?_ | refine last_plain rfl ?_ | refine tail_plain rfl ?_ | refine tail_g rfl rfl ?_); (repeat simp only [push_cast, seval, -Nat.reduceSubDiff, eq_self, true_or, or_true, cell_h, cellO_cells, hpd, hhd])) | (refine tail_fin ?_) | (refine sch_fin ?_)))
  refine build_struct Tryz.zeroValue46 un30 pl30 (cs := #[.int .i64 5, .string ⟨#[]⟩, .string t.text, .int .i64 0, .slice none 0 0, .bool false, .int .i64 0, .int .i64 0, .slice none 0 0, .int .i64 (-1), .int .i64 (-1)]) (by rfl) ?_
  (repeat (first | ((first | refine pas_plain rfl ?_ | refine pas_g rfl rfl ?_ | refine act_plain rfl ?_ | refine act_g rfl rfl ?_ | refine last_plain rfl ?_ | refine tail_plain rfl ?_ | refine tail_g rfl rfl ?_); (repeat simp only [push_cast, seval, -Nat.reduceSubDiff, eq_self, true_or, or_true, cell_h, cellO_cells, hpd, hhd])) | (refine tail_fin ?_) | (refine sch_fin ?_)))
  rw [← hval]
  obtain ⟨P, ⟨kb, kq⟩, hA, hback⟩ := hd.arK
  have hLb := hb.L
  refine (add_a hA (by omega) (m := Laid.mk (comTok t.text) (.slice none 0 0) (.slice none 0 0) none none) (SlAt.nil _ _).rd (show (0 : Nat) < 1000000 by decide)).mono ?_
  rintro v w3 ⟨rfl, g1, g2⟩
  obtain ⟨h3', hu3'⟩ := hback _ _ g1 g2
  have h3 : BuAt w0 w3 Q pb ps pl pa (addB b (comTok t.text)) := h3'.less fun q hq => .inl hq
  have hu3 : Upd (AF w0 Q) wd w3 := hu3'.mono fun q _ hf => ⟨hf.1, fun hq => hf.2 (.inl hq)⟩
  refine ⟨kept_upd g2 fun q hq => ⟨by rcases hq with hq | hq <;> omega, fun hf => ?_⟩, ?_⟩
  · rcases hq with hq | hq
    · exact hf.2 (hq ▸ kb)
    · exact hf.2 (hq ▸ kq p (.inr rfl))
  have hb3 : okB (addB b (comTok t.text)) := hb.add hL (show (0 : Nat) < 1000000 by decide)
  have hu03 := Upd.trans (hx.trans hxd).upd hu3 fun _ _ h => h
  obtain ⟨ma3, mn3, mc3, av3, _, _, hh3⟩ := h3.hd
  (repeat (first | ((first | refine pas_plain rfl ?_ | refine pas_g rfl rfl ?_ | refine act_plain rfl ?_ | refine act_g rfl rfl ?_ | refine last_plain rfl ?_ | refine tail_plain rfl ?_ | refine tail_g rfl rfl ?_); (repeat simp only [push_cast, seval, -Nat.reduceSubDiff, eq_self])) | (refine tail_fin ?_) | (refine sch_fin ?_)))
  by_cases hi : into < 0
  · rw [if_pos hi] at hr
    (repeat first|(with_reducible first|(refine hK _ _ ?_;clear hK K)|refine ‹∀σ w,_→K σ w› _ _ ?_|(refine W_st ?_;constructor;try intro K hK))|((with_reducible first|refine hZ _ _ ?_|refine W_rg ?_|skip);repeat1' simp only[push_cast,seval,-Nat.reduceSubDiff,hi])|((repeat((fail_if_success with_reducible refine hK _ _ ?_);clear hK K));with_reducible refine hK _ _ ?_;clear hK K))
    refine (btarg_c h3 hb3).mono ?_
    intro v w' ⟨hv, hw⟩
    subst hv; subst w'
    (repeat first|(with_reducible first|(refine hK _ _ ?_;clear hK K)|refine ‹∀σ w,_→K σ w› _ _ ?_|(refine W_st ?_;constructor;try intro K hK))|((with_reducible first|refine hZ _ _ ?_|refine W_rg ?_|skip);repeat1' simp only[push_cast,seval,-Nat.reduceSubDiff])|((repeat((fail_if_success with_reducible refine hK _ _ ?_);clear hK K));with_reducible refine hK _ _ ?_;clear hK K))
    refine (bput_c h3 hb3 _ _).mono ?_
    rintro v w4 ⟨h4, hu4⟩
    (repeat first|(with_reducible first|(refine hK _ _ ?_;clear hK K)|refine ‹∀σ w,_→K σ w› _ _ ?_|(refine W_st ?_;constructor;try intro K hK))|((with_reducible first|refine hZ _ _ ?_|refine W_rg ?_|skip);repeat1' simp only[push_cast,seval,-Nat.reduceSubDiff])|((repeat((fail_if_success with_reducible refine hK _ _ ?_);clear hK K));with_reducible refine hK _ _ ?_;clear hK K))
    rw [hr]
    exact ⟨h4, Upd.trans hu03 hu4 fun _ _ h => h⟩
  · rw [if_neg hi] at hr
    (repeat first|(with_reducible first|(refine hK _ _ ?_;clear hK K)|refine ‹∀σ w,_→K σ w› _ _ ?_|(refine W_st ?_;constructor;try intro K hK))|((with_reducible first|refine hZ _ _ ?_|refine W_rg ?_|skip);repeat1' simp only[push_cast,seval,-Nat.reduceSubDiff,hi,cell_h,cellO_cells,hh3])|((repeat((fail_if_success with_reducible refine hK _ _ ?_);clear hK K));with_reducible refine hK _ _ ?_;clear hK K))
    refine (bappend_c h3 hb3 _ _).mono ?_
    rintro v w4 ⟨rfl, h4, hu4⟩
    (repeat first|(with_reducible first|(refine hK _ _ ?_;clear hK K)|refine ‹∀σ w,_→K σ w› _ _ ?_|(refine W_st ?_;constructor;try intro K hK))|((with_reducible first|refine hZ _ _ ?_|refine W_rg ?_|skip);repeat1' simp only[push_cast,seval,-Nat.reduceSubDiff])|((repeat((fail_if_success with_reducible refine hK _ _ ?_);clear hK K));with_reducible refine hK _ _ ?_;clear hK K))
    rw [hr]
    exact ⟨h4, Upd.trans hu03 hu4 fun _ _ h => h⟩
end
end Go.Proofs.YtgnnlaeikcnhcaaGreatDoor
end
section
set_option linter.unusedSimpArgs false
set_option linter.unusedVariables false
namespace Go.Vk
open Go Go.Proofs.YtgnnlaeikcnhcaaGreatDoor
theorem okB.fresh {b : BSt} (h : okB b) (hL : b.L.length + 2 < 90000) (i : Int) : okB (freshB b i) := by
  refine h.add hL ?_
  show (nodeN b.L i).attrs.length < 1000000
  unfold nodeN
  cases hx : nd? b.L i with
  | none => exact (by decide : (0 : Nat) < 1000000)
  | some x =>
    obtain ⟨k, _, hk, _⟩ := nd?_some hx
    exact h.at_ x (List.mem_of_getElem? hk)
theorem freshB_len (b : BSt) (i : Int) : (freshB b i).L.length ≤ b.L.length + 2 := len_add _ _
end Go.Vk
end
section
set_option linter.unusedSimpArgs false
set_option linter.unusedVariables false
namespace Go.Vk
open Go Go.Proofs.YtgnnlaeikcnhcaaGreatDoor
theorem lastB_none {p : Nat → Bool} : ∀ {k : Nat}, (∀ j, j < k → p j = false) → lastB p k = -1
  | 0, _ => rfl
  | k + 1, h => by
    rw [lastB, h k (by omega), if_neg (by decide)]
    exact lastB_none fun j hj => h j (by omega)
theorem lastB_ge {p : Nat → Bool} : ∀ {k j : Nat}, j < k → p j = true → (j : Int) ≤ lastB p k
  | 0, j, h, _ => by omega
  | k + 1, j, h, hp => by
    rw [lastB]
    split
    · omega
    · rename_i hk
      have : j ≠ k := fun e => by subst e; exact hk hp
      exact lastB_ge (by omega) hp
end Go.Vk
end
section
set_option linter.unusedSimpArgs false
set_option linter.unusedVariables false
namespace Go.Vk
open Go Go.Proofs.YtgnnlaeikcnhcaaGreatDoor
theorem indexS_ge {s : List OpS} {k : Nat} {i : Int} (hk : k < s.length) (h : (s.getD k zS).node = i) : (k : Int) ≤ indexS s i := by
  unfold indexS
  exact lastB_ge hk (decide_eq_true h)
theorem lastB_lt {p : Nat → Bool} : ∀ k : Nat, lastB p k < k ∧ -1 ≤ lastB p k
  | 0 => by simp [lastB]
  | k + 1 => by
    have := lastB_lt (p := p) k
    rw [lastB]
    split <;> omega
theorem indexS_rng (s : List OpS) (i : Int) : indexS s i < s.length ∧ -1 ≤ indexS s i := lastB_lt _
theorem remS_low {s : List OpS} {k : Nat} (hk : k < s.length) : (∀ j, j < k → (remS s (s.getD k zS).node).1.getD j zS = s.getD j zS) ∧ k ≤ (remS s (s.getD k zS).node).1.length ∧ (remS s (s.getD k zS).node).1.length ≤ s.length := by
  have hge := indexS_ge (i := (s.getD k zS).node) hk rfl
  have hrng := indexS_rng s (s.getD k zS).node
  unfold remS
  rw [if_neg (by omega)]
  generalize indexS s (s.getD k zS).node = ix at *
  refine ⟨fun j hj => ?_, ?_, ?_⟩
  · rw [List.getD_eq_getElem?_getD, List.getD_eq_getElem?_getD, List.getElem?_eraseIdx_of_lt (by omega)]
  · dsimp only
    rw [List.length_eraseIdx]; split <;> omega
  · dsimp only
    rw [List.length_eraseIdx]; split <;> omega
theorem replS_low {L : List Nd} {s : List OpS} {k : Nat} {i : Int} : (∀ j, j < k → (replS L s k i).1.getD j zS = s.getD j zS) ∧ (replS L s k i).1.length = s.length := by
  unfold replS
  split
  · split
    · refine ⟨fun j hj => ?_, by simp⟩
      dsimp only
      rw [List.getD_eq_getElem?_getD, List.getD_eq_getElem?_getD, Int.toNat_natCast, List.getElem?_set_ne (by omega)]
    · exact ⟨fun _ _ => rfl, rfl⟩
  · exact ⟨fun _ _ => rfl, rfl⟩
theorem removeN_len (l : List Int) (i : Int) : (removeN l i).1.length ≤ l.length := by
  unfold removeN
  split
  · exact Nat.le_refl _
  · dsimp only; rw [List.length_eraseIdx]; split <;> omega
theorem indexN_rng (l : List Int) (i : Int) : -1 ≤ indexN l i ∧ indexN l i < l.length := by
  unfold indexN
  split
  · omega
  · have := lastF_rng (fun y => decide (y = i)) l 0 l.length
    omega
/-- what holds at each round of inward -/
structure InwI (fmt : Int) (f k : Nat) (r : IR) : Prop where
  ok : okB r.b
  fk : f < k
  at_ : (r.b.s.getD f zS).node = fmt
  kl : k ≤ r.b.s.length
  L : r.b.L.length + 2 * k + 2 < 90000
  m : -1 ≤ r.mark ∧ r.mark ≤ 20000
theorem InwI.step {fmt blk : Int} {f k : Nat} {r : IR} {many : Int} (h : InwI fmt f (k + 1) r) (hx : (r.b.s.getD k zS).node ≠ fmt) : InwI fmt f k (inwStep blk k many r) := by
  have hk := h.kl
  have hfk : f < k := by
    have := h.fk
    rcases Nat.lt_or_ge f k with h' | h'
    · exact h'
    · have e : f = k := by omega
      exact absurd (e ▸ h.at_) hx
  have hL := h.L
  have hm := h.m
  have hl := h.ok.l
  have hs := h.ok.s
  unfold inwStep
  split
  · obtain ⟨r1, r2, r3⟩ := remS_low (s := r.b.s) (k := k) (by omega)
    unfold inwOut
    split
    · rename_i hc
      have hln := removeN_len r.b.l (r.b.s.getD k zS).node
      refine ⟨⟨h.ok.L, h.ok.at_, by dsimp only; omega, by dsimp only; omega⟩, hfk, ?_, r2, by dsimp only; omega, ?_⟩
      · exact (congrArg OpS.node (r1 f hfk)).trans h.at_
      · dsimp only; unfold lessM; split <;> omega
    · exact ⟨⟨h.ok.L, h.ok.at_, by dsimp only; omega, h.ok.l⟩, hfk, (congrArg OpS.node (r1 f hfk)).trans h.at_, r2, by dsimp only; omega, hm⟩
  · rename_i hat
    have hat' : inwAt many (r.b.s.getD k zS).node r = indexN r.b.l (r.b.s.getD k zS).node ∧ inwOut many (r.b.s.getD k zS).node r = r := by
      unfold inwAt at hat ⊢
      unfold inwOut
      split
      · rename_i hc
        rw [if_pos hc] at hat; omega
      · exact ⟨rfl, rfl⟩
    rw [hat'.2]
    have hir := indexN_rng r.b.l (r.b.s.getD k zS).node
    unfold inwNew
    dsimp only
    have hfl := freshB_len r.b (r.b.s.getD k zS).node
    have hfo := h.ok.fresh (by omega) (r.b.s.getD k zS).node
    obtain ⟨q1, q2⟩ := replS_low (L := (freshB r.b (r.b.s.getD k zS).node).L) (s := r.b.s) (k := k) (i := freshI_ r.b (r.b.s.getD k zS).node)
    refine ⟨⟨?_, ?_, ?_, ?_⟩, hfk, ?_, ?_, ?_, ?_⟩
    · dsimp only; rw [len_append]; exact hfo.L
    · dsimp only; exact att_append hfo.at_ _ _
    · dsimp only; show (replS _ r.b.s _ _).1.length < _; rw [q2]; exact hs
    · dsimp only; show (replN _ r.b.l _ _).1.length < _; rw [replN_len]; exact hl
    · dsimp only
      exact (congrArg OpS.node (q1 f hfk)).trans h.at_
    · dsimp only; show k ≤ (replS _ r.b.s _ _).1.length; rw [q2]; omega
    · dsimp only; rw [len_append]; omega
    · dsimp only
      rw [hat'.1]
      split <;> omega
end Go.Vk
end
section
set_option linter.unusedSimpArgs false
set_option linter.unusedVariables false
namespace Go.Vk
open Go Go.Proofs.YtgnnlaeikcnhcaaGreatDoor
/-- a field of ours changes, that the builder keeps off -/
theorem BuAt.frame {w0 w : World} {Q : Nat → Prop} {pb ps pl pa : Nat} {b : BSt} (h : BuAt w0 w Q pb ps pl pa b) {pr : Nat} (hq : Q pr) (h0 : w0.heap.size ≤ pr) (k : Nat) (v : Value) : BuAt w0 (w.setCell ⟨pr, k, none⟩ v) Q pb ps pl pa b :=
  h.app (Upd.setCell (F := fun q => q = pr) (a := ⟨pr, k, none⟩) w rfl v) (fun q _ e => by cases e; exact ⟨hq, h0⟩) fun q hq => .inl hq
end Go.Vk
end
section
set_option linter.unusedSimpArgs false
set_option linter.unusedVariables false
namespace Go.Vk
open Go Go.Proofs.YtgnnlaeikcnhcaaGreatDoor
theorem insS_le {L : List Nd} {s : List OpS} {k i : Int} : (insS L s k i).1.length ≤ s.length + 1 := by
  unfold insS
  split
  · split
    · split
      · exact Nat.le_succ _
      · simp; omega
    · exact Nat.le_succ _
  · exact Nat.le_succ _
theorem remS_le (s : List OpS) (i : Int) : (remS s i).1.length ≤ s.length := by
  unfold remS
  split
  · exact Nat.le_refl _
  · dsimp only; rw [List.length_eraseIdx]; split <;> omega
end Go.Vk
end
section
set_option linter.unusedSimpArgs false
set_option linter.unusedVariables false
namespace Go.Vk
open Go Go.Proofs.YtgnnlaeikcnhcaaGreatDoor
def AllN (P : Nd → Prop) (L : List Nd) : Prop := ∀ n ∈ L, P n
/-- it hangs on nothing but what stays -/
def Stay (P : Nd → Prop) : Prop := ∀ (n : Nd) (p : Int) (ks : List Int), P n → P { n with parent := p, kids := ks }
section
variable {P : Nd → Prop}
theorem all_modify {L : List Nd} {f : Nd → Nd} (hf : ∀ n, P n → P (f n)) (h : AllN P L) (k : Nat) : AllN P (L.modify k f) := by
  intro n hn
  obtain ⟨j, hj⟩ := List.mem_iff_getElem?.1 hn
  rw [List.getElem?_modify] at hj
  cases hl : L[j]? with
  | none => rw [hl] at hj; simp at hj
  | some x =>
    have hx := h x (List.mem_of_getElem? hl)
    have e : n = if k = j then f x else x := by
      rw [hl] at hj
      exact (Option.some.inj hj).symm
    rw [e]
    split
    · exact hf _ hx
    · exact hx
theorem st_par (hP : Stay P) (p : Int) (n : Nd) (h : P n) : P (setPar p n) := hP n p n.kids h
theorem st_unkid (hP : Stay P) (x : Int) (n : Nd) (h : P n) : P (unkid x n) := hP n n.parent _ h
theorem st_add (hP : Stay P) (r x : Int) (n : Nd) (h : P n) : P (addKid r x n) := hP n n.parent _ h
theorem all_free (hP : Stay P) {L : List Nd} (h : AllN P L) (i : Nat) : AllN P (freeN L i) := by
  unfold freeN
  split
  · exact h
  · split
    · exact h
    · exact all_modify (st_par hP _) (all_modify (st_unkid hP _) h _) _
theorem all_hang (hP : Stay P) {L : List Nd} (h : AllN P L) (p : Nat) (r : Int) (i : Nat) : AllN P (hangN L p r i) := all_modify (st_par hP _) (all_modify (st_add hP _ _) (all_free hP h _) _) _
theorem all_append (hP : Stay P) {L : List Nd} (h : AllN P L) (p i : Int) : AllN P (appendN L p i).1 := by
  unfold appendN; split
  · exact all_hang hP h _ _ _
  · exact h
theorem all_before (hP : Stay P) {L : List Nd} (h : AllN P L) (p i : Int) : AllN P (beforeN L p i).1 := by
  unfold beforeN; split
  · exact all_hang hP h _ _ _
  · exact h
theorem all_push {L : List Nd} (h : AllN P L) {n : Nd} (hn : P n) : AllN P (L ++ [n]) := by
  intro x hx
  simp only [List.mem_append, List.mem_cons, List.not_mem_nil, or_false] at hx
  rcases hx with hx | rfl
  · exact h x hx
  · exact hn
theorem all_add {L : List Nd} (h : AllN P L) {n : Nd} (hn : P (bareN n)) (hc : P { bareN n with content := (L.length : Int) + 1 }) (h0 : P contN) : AllN P (addN L n).1 := by
  unfold addN
  split
  · split
    · intro x hx
      simp only [List.mem_append, List.mem_cons, List.not_mem_nil, or_false] at hx
      rcases hx with hx | rfl | rfl
      · exact h x hx
      · exact hc
      · exact h0
    · exact all_push h hn
  · exact h
theorem all_put (hP : Stay P) {b : BSt} (h : AllN P b.L) (i t : Int) : AllN P (putB b i t).L := by
  unfold putB; split
  · exact all_before hP h _ _
  · exact all_append hP h _ _
theorem all_node {L : List Nd} (h : AllN P L) (h0 : P zN) (i : Int) : P (nodeN L i) := by
  unfold nodeN
  cases hx : nd? L i with
  | none => exact h0
  | some x =>
    obtain ⟨k, _, hk, _⟩ := nd?_some hx
    exact h x (List.mem_of_getElem? hk)
end
/-- how a node's name and text are bounded -/
def Sml (n : Nd) : Prop := n.name.size < 4294967281 ∧ n.text.size < 1000000000 ∧ n.attrs.length < 1000000
theorem sml_stay : Stay Sml := fun _ _ _ h => h
theorem sml_zN : Sml zN := ⟨by decide, by decide, by decide⟩
structure HdO (m : Nat) (b : BSt) : Prop where
  L : b.L.length + m < 90000
  s : b.s.length + m < 10000
  l : b.l.length + m < 10000
  md : b.modes.length + m < 99000
  nd : AllN Sml b.L
  sn : ∀ o ∈ b.s, o.name.size < 4294967281
section
variable {b : BSt} {m m' : Nat}
theorem HdO.ok (h : HdO m b) : okB b := ⟨by have := h.L; omega, fun n hn => (h.nd n hn).2.2, by have := h.s; omega, by have := h.l; omega⟩
theorem HdO.nms (h : HdO m b) : Nms b.L := fun n hn => (h.nd n hn).1
theorem HdO.txt (h : HdO m b) : ∀ n ∈ b.L, n.text.size < 1000000000 := fun n hn => (h.nd n hn).2.1
theorem HdO.mono (h : HdO m b) (hm : m' ≤ m) : HdO m' b := ⟨by have := h.L; omega, by have := h.s; omega, by have := h.l; omega, by have := h.md; omega, h.nd, h.sn⟩
theorem HdO.fail (h : HdO m b) (e : Int) : HdO m (failB b e) := by
  unfold failB; split
  · exact ⟨h.L, h.s, h.l, h.md, h.nd, h.sn⟩
  · exact h
theorem opN_name {L : List Nd} (h : AllN Sml L) (i : Int) : (opN L i).name.size < 4294967281 := (all_node h sml_zN i).1
theorem HdO.push (h : HdO (m + 1) b) (i : Int) : HdO m (pushB b i).1 := by
  have hle := insS_le (L := b.L) (s := b.s) (k := b.s.length) (i := i)
  have := h.s
  refine ⟨by have := h.L; show b.L.length + m < _; omega, by show (insS b.L b.s b.s.length i).1.length + m < _; omega, by have := h.l; show b.l.length + m < _; omega, by have := h.md; show b.modes.length + m < _; omega, h.nd, ?_⟩
  show ∀ o ∈ (insS b.L b.s b.s.length i).1, _
  unfold insS
  split
  · split
    · split
      · exact h.sn
      · intro o ho
        simp only [List.mem_append, List.mem_cons] at ho
        rcases ho with ho | rfl | ho
        · exact h.sn o (List.mem_of_mem_take ho)
        · exact opN_name h.nd i
        · exact h.sn o (List.mem_of_mem_drop ho)
    · exact h.sn
  · exact h.sn
theorem hung_f (b : BSt) (n : Nd) : (hungB b n).s = b.s ∧ (hungB b n).l = b.l ∧ (hungB b n).modes = b.modes ∧ (hungB b n).L.length ≤ b.L.length + 2 := by
  obtain ⟨h1, h2⟩ := putB_s (addB b n) (addN b.L n).2 (targB (addB b n))
  refine ⟨h1, h2, ?_, ?_⟩
  · unfold hungB putB; split <;> rfl
  · have := len_add b.L n
    unfold hungB putB
    split
    · show (beforeN _ _ _).1.length ≤ _; rw [len_before]; exact this
    · show (appendN _ _ _).1.length ≤ _; rw [len_append]; exact this
theorem HdO.ins (h : HdO (m + 3) b) {n : Nd} (hn : Sml n) : HdO m (insertB b n).1 := by
  unfold insertB
  split
  · exact (h.fail _).mono (by omega)
  · obtain ⟨e1, e2, e3, e4⟩ := hung_f b n
    have h1 := h.L; have h2 := h.s; have h3 := h.l; have h4 := h.md
    have hH : HdO (m + 1) (hungB b n) := by
      refine ⟨by omega, by rw [e1]; omega, by rw [e2]; omega, by rw [e3]; omega, ?_, by rw [e1]; exact h.sn⟩
      exact all_put sml_stay (b := addB b n) (all_add h.nd ⟨hn.1, hn.2.1, hn.2.2⟩ ⟨hn.1, hn.2.1, hn.2.2⟩ ⟨by decide, by decide, by decide⟩) _ _
    exact (hH.push _).fail _
theorem HdO.str {s' : List OpS} {l' : List Int} (h : HdO m b) (hs : s'.length ≤ b.s.length) (hn : ∀ o ∈ s', o ∈ b.s) (hl : l'.length ≤ b.l.length) : HdO m { b with s := s', l := l' } :=
  ⟨h.L, by have := h.s; show s'.length + m < _; omega, by have := h.l; show l'.length + m < _; omega, h.md, h.nd, fun o ho => h.sn o (hn o ho)⟩
theorem HdO.set (h : HdO m b) {b' : BSt} (e : b'.L = b.L ∧ b'.s = b.s ∧ b'.l = b.l ∧ b'.modes = b.modes) : HdO m b' := by
  obtain ⟨e1, e2, e3, e4⟩ := e
  exact ⟨by rw [e1]; exact h.L, by rw [e2]; exact h.s, by rw [e3]; exact h.l, by rw [e4]; exact h.md, by rw [e1]; exact h.nd, by rw [e2]; exact h.sn⟩
end
end Go.Vk
end
section
set_option linter.unusedSimpArgs false
set_option linter.unusedVariables false
namespace Go.Vk
open Go Go.Proofs.YtgnnlaeikcnhcaaGreatDoor
/-- a token that is not too large -/
def SmT (t : HTok) : Prop := t.name.size < 4294967281 ∧ t.text.size < 1000000000 ∧ t.attrs.length < 1000000
theorem smT_el {t : HTok} (h : SmT t) (sp : Int) : Sml (elTok t sp) := ⟨h.1, by show (0 : Nat) < _; decide, h.2.2⟩
end Go.Vk
namespace Go.Proofs.YtgnnlaeikcnhcaaGreatDoor
open Go Go.Vk
set_option maxHeartbeats 40000000
theorem hstate_c {w : World} (x : ByteArray) : Gives Tryz.prog 173 #[.string x] w fun v w' => v = .int .i64 (stateN x) ∧ w' = w := by
  unfold stateN
  by_cases h1 : x = ⟨#[116, 101, 120, 116, 97, 114, 101, 97]⟩
  · rw [if_pos (.inl h1)]
    refine Gives.of_W Tryz.call173 Tryz.func173 rfl Tryz.ntmps173 (by simp) ?_; intro Z hZ
    (repeat first|(with_reducible first|(refine hK _ _ ?_;clear hK K)|refine ‹∀σ w,_→K σ w› _ _ ?_|(refine W_st ?_;constructor;try intro K hK))|((with_reducible first|refine hZ _ _ ?_|refine W_rg ?_|skip);repeat1' simp only[push_cast,seval,-Nat.reduceSubDiff,h1,eq_self])|((repeat((fail_if_success with_reducible refine hK _ _ ?_);clear hK K));with_reducible refine hK _ _ ?_;clear hK K))
  by_cases h2 : x = ⟨#[116, 105, 116, 108, 101]⟩
  · rw [if_pos (.inr h2)]
    subst h2
    refine Gives.of_W Tryz.call173 Tryz.func173 rfl Tryz.ntmps173 (by simp) ?_; intro Z hZ
    (repeat first|(with_reducible first|(refine hK _ _ ?_;clear hK K)|refine ‹∀σ w,_→K σ w› _ _ ?_|(refine W_st ?_;constructor;try intro K hK))|((with_reducible first|refine hZ _ _ ?_|refine W_rg ?_|skip);repeat1' simp only[push_cast,seval,-Nat.reduceSubDiff,h1,eq_self])|((repeat((fail_if_success with_reducible refine hK _ _ ?_);clear hK K));with_reducible refine hK _ _ ?_;clear hK K))
  rw [if_neg (fun h => h.elim h1 h2)]
  by_cases h3 : x = ⟨#[105, 102, 114, 97, 109, 101]⟩
  · rw [if_pos (.inl h3)]
    subst h3
    refine Gives.of_W Tryz.call173 Tryz.func173 rfl Tryz.ntmps173 (by simp) ?_; intro Z hZ
    (repeat first|(with_reducible first|(refine hK _ _ ?_;clear hK K)|refine ‹∀σ w,_→K σ w› _ _ ?_|(refine W_st ?_;constructor;try intro K hK))|((with_reducible first|refine hZ _ _ ?_|refine W_rg ?_|skip);repeat1' simp only[push_cast,seval,-Nat.reduceSubDiff,h1,h2,eq_self])|((repeat((fail_if_success with_reducible refine hK _ _ ?_);clear hK K));with_reducible refine hK _ _ ?_;clear hK K))
  by_cases h4 : x = ⟨#[110, 111, 101, 109, 98, 101, 100]⟩
  · rw [if_pos (.inr (.inl h4))]
    subst h4
    refine Gives.of_W Tryz.call173 Tryz.func173 rfl Tryz.ntmps173 (by simp) ?_; intro Z hZ
    (repeat first|(with_reducible first|(refine hK _ _ ?_;clear hK K)|refine ‹∀σ w,_→K σ w› _ _ ?_|(refine W_st ?_;constructor;try intro K hK))|((with_reducible first|refine hZ _ _ ?_|refine W_rg ?_|skip);repeat1' simp only[push_cast,seval,-Nat.reduceSubDiff,h1,h2,h3,eq_self])|((repeat((fail_if_success with_reducible refine hK _ _ ?_);clear hK K));with_reducible refine hK _ _ ?_;clear hK K))
  by_cases h5 : x = ⟨#[110, 111, 102, 114, 97, 109, 101, 115]⟩
  · rw [if_pos (.inr (.inr (.inl h5)))]
    subst h5
    refine Gives.of_W Tryz.call173 Tryz.func173 rfl Tryz.ntmps173 (by simp) ?_; intro Z hZ
    (repeat first|(with_reducible first|(refine hK _ _ ?_;clear hK K)|refine ‹∀σ w,_→K σ w› _ _ ?_|(refine W_st ?_;constructor;try intro K hK))|((with_reducible first|refine hZ _ _ ?_|refine W_rg ?_|skip);repeat1' simp only[push_cast,seval,-Nat.reduceSubDiff,h1,h2,h3,h4,eq_self])|((repeat((fail_if_success with_reducible refine hK _ _ ?_);clear hK K));with_reducible refine hK _ _ ?_;clear hK K))
  by_cases h6 : x = ⟨#[115, 116, 121, 108, 101]⟩
  · rw [if_pos (.inr (.inr (.inr (.inl h6))))]
    subst h6
    refine Gives.of_W Tryz.call173 Tryz.func173 rfl Tryz.ntmps173 (by simp) ?_; intro Z hZ
    (repeat first|(with_reducible first|(refine hK _ _ ?_;clear hK K)|refine ‹∀σ w,_→K σ w› _ _ ?_|(refine W_st ?_;constructor;try intro K hK))|((with_reducible first|refine hZ _ _ ?_|refine W_rg ?_|skip);repeat1' simp only[push_cast,seval,-Nat.reduceSubDiff,h1,h2,h3,h4,h5,eq_self])|((repeat((fail_if_success with_reducible refine hK _ _ ?_);clear hK K));with_reducible refine hK _ _ ?_;clear hK K))
  by_cases h7 : x = ⟨#[120, 109, 112]⟩
  · rw [if_pos (.inr (.inr (.inr (.inr h7))))]
    subst h7
    refine Gives.of_W Tryz.call173 Tryz.func173 rfl Tryz.ntmps173 (by simp) ?_; intro Z hZ
    (repeat first|(with_reducible first|(refine hK _ _ ?_;clear hK K)|refine ‹∀σ w,_→K σ w› _ _ ?_|(refine W_st ?_;constructor;try intro K hK))|((with_reducible first|refine hZ _ _ ?_|refine W_rg ?_|skip);repeat1' simp only[push_cast,seval,-Nat.reduceSubDiff,h1,h2,h3,h4,h5,h6,eq_self])|((repeat((fail_if_success with_reducible refine hK _ _ ?_);clear hK K));with_reducible refine hK _ _ ?_;clear hK K))
  rw [if_neg (fun h => by rcases h with h | h | h | h | h <;> first | exact h3 h | exact h4 h | exact h5 h | exact h6 h | exact h7 h)]
  by_cases h8 : x = ⟨#[115, 99, 114, 105, 112, 116]⟩
  · rw [if_pos h8]
    subst h8
    refine Gives.of_W Tryz.call173 Tryz.func173 rfl Tryz.ntmps173 (by simp) ?_; intro Z hZ
    (repeat first|(with_reducible first|(refine hK _ _ ?_;clear hK K)|refine ‹∀σ w,_→K σ w› _ _ ?_|(refine W_st ?_;constructor;try intro K hK))|((with_reducible first|refine hZ _ _ ?_|refine W_rg ?_|skip);repeat1' simp only[push_cast,seval,-Nat.reduceSubDiff,h1,h2,h3,h4,h5,h6,h7,eq_self])|((repeat((fail_if_success with_reducible refine hK _ _ ?_);clear hK K));with_reducible refine hK _ _ ?_;clear hK K))
  rw [if_neg h8]
  by_cases h9 : x = ⟨#[112, 108, 97, 105, 110, 116, 101, 120, 116]⟩
  · rw [if_pos h9]
    subst h9
    refine Gives.of_W Tryz.call173 Tryz.func173 rfl Tryz.ntmps173 (by simp) ?_; intro Z hZ
    (repeat first|(with_reducible first|(refine hK _ _ ?_;clear hK K)|refine ‹∀σ w,_→K σ w› _ _ ?_|(refine W_st ?_;constructor;try intro K hK))|((with_reducible first|refine hZ _ _ ?_|refine W_rg ?_|skip);repeat1' simp only[push_cast,seval,-Nat.reduceSubDiff,h1,h2,h3,h4,h5,h6,h7,h8,eq_self])|((repeat((fail_if_success with_reducible refine hK _ _ ?_);clear hK K));with_reducible refine hK _ _ ?_;clear hK K))
  rw [if_neg h9]
  refine Gives.of_W Tryz.call173 Tryz.func173 rfl Tryz.ntmps173 (by simp) ?_; intro Z hZ
  (repeat first|(with_reducible first|(refine hK _ _ ?_;clear hK K)|refine ‹∀σ w,_→K σ w› _ _ ?_|(refine W_st ?_;constructor;try intro K hK))|((with_reducible first|refine hZ _ _ ?_|refine W_rg ?_|skip);repeat1' simp only[push_cast,seval,-Nat.reduceSubDiff,h1,h2,h3,h4,h5,h6,h7,h8,h9])|((repeat((fail_if_success with_reducible refine hK _ _ ?_);clear hK K));with_reducible refine hK _ _ ?_;clear hK K))
section
variable {w0 w : World} {Q : Nat → Prop} {pb ps pl pa : Nat} {b : BSt}
theorem leave_c (h : BuAt w0 w Q pb ps pl pa b) (hO : HdO 2 b) (hg : GB w0) (hQl : ∀ q, Q q → q < w.heap.size) : Gives Tryz.prog 129 #[.pointer (some ⟨pb, 0, none⟩)] w fun _ w' => BuAt w0 w' Q pb ps pl pa (leaveB b) ∧ Upd (AF w0 Q) w w' := by
  obtain ⟨b1, hb1⟩ : ∃ b1, b1 = untB b lTem := ⟨_, rfl⟩
  obtain ⟨b2, hb2⟩ : ∃ b2, b2 = clearB b1 := ⟨_, rfl⟩
  obtain ⟨b3, hb3⟩ : ∃ b3, b3 = popM b2 := ⟨_, rfl⟩
  have hR : leaveB b = resetB b3 := by rw [hb3, hb2, hb1]; rfl
  rw [hR]
  have O1 : HdO 2 b1 := by
    rw [hb1]
    have : HdO 2 { b with s := (untS b.s lTem).1, l := b.l } := by
      refine hO.str ?_ ?_ (Nat.le_refl _)
      · unfold untS; split
        · exact Nat.le_refl _
        · dsimp only; rw [List.length_take]; omega
      · unfold untS; split
        · exact fun o ho => ho
        · exact fun o ho => List.mem_of_mem_take ho
    exact this
  have O2 : HdO 2 b2 := by
    rw [hb2]
    have : HdO 2 { b1 with s := b1.s, l := clearN b1.l (openN b1.l) } := by
      refine O1.str (Nat.le_refl _) (fun o ho => ho) ?_
      unfold clearN; rw [List.length_take]; omega
    exact this
  have O3 : HdO 2 b3 := by
    rw [hb3]
    exact ⟨O2.L, O2.s, O2.l, by have := O2.md; show b2.modes.dropLast.length + 2 < _; rw [List.length_dropLast]; omega, O2.nd, O2.sn⟩
  refine Gives.of_W Tryz.call129 Tryz.func129 rfl Tryz.ntmps129 (by simp) ?_; intro Z hZ
  (repeat first|(with_reducible first|(refine hK _ _ ?_;clear hK K)|refine ‹∀σ w,_→K σ w› _ _ ?_|(refine W_st ?_;constructor;try intro K hK))|((with_reducible first|refine hZ _ _ ?_|refine W_rg ?_|skip);repeat1' simp only[push_cast,seval,-Nat.reduceSubDiff])|((repeat((fail_if_success with_reducible refine hK _ _ ?_);clear hK K));with_reducible refine hK _ _ ?_;clear hK K))
  refine (bstack_c h).mono ?_
  intro v w' ⟨hv, hw⟩
  subst hv; subst w'
  (repeat first|(with_reducible first|(refine hK _ _ ?_;clear hK K)|refine ‹∀σ w,_→K σ w› _ _ ?_|(refine W_st ?_;constructor;try intro K hK))|((with_reducible first|refine hZ _ _ ?_|refine W_rg ?_|skip);repeat1' simp only[push_cast,seval,-Nat.reduceSubDiff])|((repeat((fail_if_success with_reducible refine hK _ _ ?_);clear hK K));with_reducible refine hK _ _ ?_;clear hK K))
  refine bsl (l := lTem) rfl (by decide) (by decide) (by kernel_rfl) ?_
  rintro v w2 hx2 hn2 ⟨bn, rfl⟩
  have h2 := h.pass hx2
  (repeat first|(with_reducible first|(refine hK _ _ ?_;clear hK K)|refine ‹∀σ w,_→K σ w› _ _ ?_|(refine W_st ?_;constructor;try intro K hK))|((with_reducible first|refine hZ _ _ ?_|refine W_rg ?_|skip);repeat1' simp only[push_cast,seval,-Nat.reduceSubDiff])|((repeat((fail_if_success with_reducible refine hK _ _ ?_);clear hK K));with_reducible refine hK _ _ ?_;clear hK K))
  refine (buntil_c h2 hO.ok hn2 (by decide)).mono ?_
  rintro v w3 ⟨rfl, h3, hu3⟩
  replace h3 : BuAt w0 w3 Q pb ps pl pa b1 := hb1 ▸ h3
  (repeat first|(with_reducible first|(refine hK _ _ ?_;clear hK K)|refine ‹∀σ w,_→K σ w› _ _ ?_|(refine W_st ?_;constructor;try intro K hK))|((with_reducible first|refine hZ _ _ ?_|refine W_rg ?_|skip);repeat1' simp only[push_cast,seval,-Nat.reduceSubDiff])|((repeat((fail_if_success with_reducible refine hK _ _ ?_);clear hK K));with_reducible refine hK _ _ ?_;clear hK K))
  refine (bforms_c h3).mono ?_
  intro v w' ⟨hv, hw⟩
  subst hv; subst w'
  (repeat first|(with_reducible first|(refine hK _ _ ?_;clear hK K)|refine ‹∀σ w,_→K σ w› _ _ ?_|(refine W_st ?_;constructor;try intro K hK))|((with_reducible first|refine hZ _ _ ?_|refine W_rg ?_|skip);repeat1' simp only[push_cast,seval,-Nat.reduceSubDiff])|((repeat((fail_if_success with_reducible refine hK _ _ ?_);clear hK K));with_reducible refine hK _ _ ?_;clear hK K))
  refine (bfclear_c h3 O1.ok).mono ?_
  rintro v w4 ⟨h4, hu4⟩
  replace h4 : BuAt w0 w4 Q pb ps pl pa b2 := hb2 ▸ h4
  (repeat first|(with_reducible first|(refine hK _ _ ?_;clear hK K)|refine ‹∀σ w,_→K σ w› _ _ ?_|(refine W_st ?_;constructor;try intro K hK))|((with_reducible first|refine hZ _ _ ?_|refine W_rg ?_|skip);repeat1' simp only[push_cast,seval,-Nat.reduceSubDiff])|((repeat((fail_if_success with_reducible refine hK _ _ ?_);clear hK K));with_reducible refine hK _ _ ?_;clear hK K))
  have hs2 := hx2.sz
  have hs3 := hu3.alike.size
  have hs4 := hu4.alike.size
  refine (bpopm_c h4 (fun q hq => by have := hQl q hq; omega) (by have := O2.md; omega)).mono ?_
  rintro v w5 ⟨h5, hu5⟩
  rw [← hb3] at h5
  (repeat first|(with_reducible first|(refine hK _ _ ?_;clear hK K)|refine ‹∀σ w,_→K σ w› _ _ ?_|(refine W_st ?_;constructor;try intro K hK))|((with_reducible first|refine hZ _ _ ?_|refine W_rg ?_|skip);repeat1' simp only[push_cast,seval,-Nat.reduceSubDiff])|((repeat((fail_if_success with_reducible refine hK _ _ ?_);clear hK K));with_reducible refine hK _ _ ?_;clear hK K))
  refine (breset_c h5 O3.ok hg O3.nms (by have := O3.md; omega)).mono ?_
  rintro v w6 ⟨h6, hu6⟩
  (repeat first|(with_reducible first|(refine hK _ _ ?_;clear hK K)|refine ‹∀σ w,_→K σ w› _ _ ?_|(refine W_st ?_;constructor;try intro K hK))|((with_reducible first|refine hZ _ _ ?_|refine W_rg ?_|skip);repeat1' simp only[push_cast,seval,-Nat.reduceSubDiff])|((repeat((fail_if_success with_reducible refine hK _ _ ?_);clear hK K));with_reducible refine hK _ _ ?_;clear hK K))
  exact ⟨h6, Upd.trans (Upd.trans (Upd.trans (Upd.trans hx2.upd hu3 fun _ _ h => h) hu4 fun _ _ h => h) hu5 fun _ _ h => h) hu6 fun _ _ h => h⟩
end
end Go.Proofs.YtgnnlaeikcnhcaaGreatDoor
end
section
set_option linter.unusedSimpArgs false
set_option linter.unusedVariables false
namespace Go.Proofs.YtgnnlaeikcnhcaaGreatDoor
open Go Go.Vk
set_option maxHeartbeats 40000000
section
variable {w0 w : World} {Q : Nat → Prop} {pb ps pl pa : Nat} {b : BSt}
theorem bmore_c (h : BuAt w0 w Q pb ps pl pa b) (hb : okB b) (hQl : ∀ q, Q q → q < w.heap.size) {t : HTok} {av : Value} (ha0 : RdAt w0 2 av (attrCells t.attrs)) (hal : t.attrs.length < 1000000) :
    Gives Tryz.prog 79 #[.pointer (some ⟨pb, 0, none⟩), .agg (t.row av)] w fun _ w' => BuAt w0 w' Q pb ps pl pa (moreB b t) ∧ Upd (AF w0 Q) w w' := by
  obtain ⟨xa, xn, xc, eav, _⟩ := id ha0
  subst eav
  have hrow : t.row (.slice xa xn xc) = #[.int .i64 t.kind, .string t.name, .string t.text, .slice xa xn xc, .bool t.dup, .bool t.self, .bool t.quirks, .int .i64 t.frm, .int .i64 t.to] := rfl
  have hx := Ext.alloc w (.cells (t.row (.slice xa xn xc)) 37)
  have hp : (w.alloc (.cells (t.row (.slice xa xn xc)) 37)).heap[w.heap.size]? = some (.cells (t.row (.slice xa xn xc)) 37 (0, 0)) := by rw [heap_alloc_h, if_pos rfl]
  obtain ⟨r, hr⟩ : ∃ r, r = moreB b t := ⟨_, rfl⟩
  rw [← hr]
  unfold moreB at hr
  refine Gives.of_W Tryz.call79 Tryz.func79 rfl Tryz.ntmps79 (by simp) ?_; intro Z hZ
  (repeat first|(with_reducible first|(refine hK _ _ ?_;clear hK K)|refine ‹∀σ w,_→K σ w› _ _ ?_|(refine W_st ?_;constructor;try intro K hK))|((with_reducible first|refine hZ _ _ ?_|refine W_rg ?_|skip);repeat1' simp only[push_cast,seval,-Nat.reduceSubDiff,vcells_agg])|((repeat((fail_if_success with_reducible refine hK _ _ ?_);clear hK K));with_reducible refine hK _ _ ?_;clear hK K))
  generalize w.alloc (.cells (t.row (.slice xa xn xc)) 37) = w1 at *
  obtain ⟨p, hpe⟩ : ∃ p, p = w.heap.size := ⟨_, rfl⟩
  rw [← hpe] at hp ⊢
  rw [hrow] at hp
  have h1 := h.pass hx
  have hsz := hx.sz
  refine (bnone_c h1).mono ?_
  intro v w' ⟨hv, hw⟩
  subst hv; subst w'
  (repeat first|(with_reducible first|(refine hK _ _ ?_;clear hK K)|refine ‹∀σ w,_→K σ w› _ _ ?_|(refine W_st ?_;constructor;try intro K hK))|((with_reducible first|refine hZ _ _ ?_|refine W_rg ?_|skip);repeat1' simp only[push_cast,seval,-Nat.reduceSubDiff])|((repeat((fail_if_success with_reducible refine hK _ _ ?_);clear hK K));with_reducible refine hK _ _ ?_;clear hK K))
  refine (bopen_c h1 hb _).mono ?_
  rintro v w2 ⟨rfl, hx2⟩
  have h2 := h1.pass hx2
  have hp2 := hx2.blk hp
  have hs2 := hx2.sz
  have lp := blk_lt hp2
  obtain ⟨ma, mn, mc, av', _, _, hh⟩ := h2.hd
  by_cases ho : 0 ≤ lastBu b tmpl
  · rw [if_pos ho] at hr
    have ho' : decide (0 ≤ lastBu b ⟨#[116, 101, 109, 112, 108, 97, 116, 101]⟩) = true := decide_eq_true ho
    (repeat first|(with_reducible first|(refine hK _ _ ?_;clear hK K)|refine ‹∀σ w,_→K σ w› _ _ ?_|(refine W_st ?_;constructor;try intro K hK))|((with_reducible first|refine hZ _ _ ?_|refine W_rg ?_|skip);repeat1' simp only[push_cast,seval,-Nat.reduceSubDiff,ho'])|((repeat((fail_if_success with_reducible refine hK _ _ ?_);clear hK K));with_reducible refine hK _ _ ?_;clear hK K))
    rw [hr]
    exact ⟨h2, (hx.trans hx2).upd⟩
  rw [if_neg ho] at hr
  have ho' : decide (0 ≤ lastBu b ⟨#[116, 101, 109, 112, 108, 97, 116, 101]⟩) = false := decide_eq_false ho
  (repeat first|(with_reducible first|(refine hK _ _ ?_;clear hK K)|refine ‹∀σ w,_→K σ w› _ _ ?_|(refine W_st ?_;constructor;try intro K hK))|((with_reducible first|refine hZ _ _ ?_|refine W_rg ?_|skip);repeat1' simp only[push_cast,seval,-Nat.reduceSubDiff,ho'])|((repeat((fail_if_success with_reducible refine hK _ _ ?_);clear hK K));with_reducible refine hK _ _ ?_;clear hK K))
  have l1 : pb < w2.heap.size := blk_lt hh
  refine W_draw (.pas 0 (.pas 1 (.pas 2 (.pas 3 (.pas 4 (.pas 5 (.pas 6 (.pas 7 (.pas 9 (.pas 10 (.act 8 (.act 11 .fin)))))))))))) (fun q => q = pb ∨ q = p) (by decide) mixed (by kernel_rfl) ?_
  have hxd := Ext.drew w2
  generalize w2.drew = wd at *
  have hpd := hxd.blk hp2
  have hhd := hxd.blk hh
  have hsd := hxd.sz
  have hd : BuAt w0 wd (fun q => Q q ∨ q = p) pb ps pl pa b := h.more ((hx.trans hx2).trans hxd) fun q hq => by
    rcases hq with hq | hq
    · exact .inl hq
    · exact .inr ⟨by omega, by omega⟩
  (repeat (first | ((first | refine pas_plain rfl ?_ | refine pas_g rfl rfl ?_ | refine act_plain rfl ?_ | refine act_g rfl rfl ?_ | refine last_plain rfl ?_ | refine tail_plain rfl ?_ | refine tail_g rfl rfl ?_); (repeat simp only [push_cast, seval, -Nat.reduceSubDiff, eq_self, true_or, or_true, cell_h, cellO_cells, hpd, hhd])) | (refine tail_fin ?_) | (refine sch_fin ?_)))
  refine (bsat_c hd 0).mono ?_
  intro v w' ⟨hv, hw⟩
  subst hv; subst w'
  refine ⟨fun _ _ => rfl, ?_⟩
  (repeat (first | ((first | refine pas_plain rfl ?_ | refine pas_g rfl rfl ?_ | refine act_plain rfl ?_ | refine act_g rfl rfl ?_ | refine last_plain rfl ?_ | refine tail_plain rfl ?_ | refine tail_g rfl rfl ?_); (repeat simp only [push_cast, seval, -Nat.reduceSubDiff, eq_self, true_or, or_true, cell_h, cellO_cells, hpd, hhd])) | (refine tail_fin ?_) | (refine sch_fin ?_)))
  obtain ⟨P, ⟨kb, kq⟩, hA, hback⟩ := hd.arK
  have hLb := hb.L
  refine (more_a hA (by omega) hb.at_ ha0 hal _).mono ?_
  rintro v w3 ⟨rfl, g1, g2⟩
  obtain ⟨h3', hu3'⟩ := hback _ _ g1 g2
  have h3 := h3'.less (Q' := Q) fun q hq => .inl hq
  have hu3 : Upd (AF w0 Q) wd w3 := hu3'.mono fun q _ hf => ⟨hf.1, fun hq => hf.2 (.inl hq)⟩
  refine ⟨kept_upd g2 fun q hq => ⟨by rcases hq with hq | hq <;> omega, fun hf => ?_⟩, ?_⟩
  · rcases hq with hq | hq
    · exact hf.2 (hq ▸ kb)
    · exact hf.2 (hq ▸ kq p (.inr rfl))
  (repeat (first | ((first | refine pas_plain rfl ?_ | refine pas_g rfl rfl ?_ | refine act_plain rfl ?_ | refine act_g rfl rfl ?_ | refine last_plain rfl ?_ | refine tail_plain rfl ?_ | refine tail_g rfl rfl ?_); (repeat simp only [push_cast, seval, -Nat.reduceSubDiff, eq_self])) | (refine tail_fin ?_) | (refine sch_fin ?_)))
  (repeat first|(with_reducible first|(refine hK _ _ ?_;clear hK K)|refine ‹∀σ w,_→K σ w› _ _ ?_|(refine W_st ?_;constructor;try intro K hK))|((with_reducible first|refine hZ _ _ ?_|refine W_rg ?_|skip);repeat1' simp only[push_cast,seval,-Nat.reduceSubDiff])|((repeat((fail_if_success with_reducible refine hK _ _ ?_);clear hK K));with_reducible refine hK _ _ ?_;clear hK K))
  rw [hr]
  exact ⟨h3, Upd.trans ((hx.trans hx2).trans hxd).upd hu3 fun _ _ h => h⟩
end
end Go.Proofs.YtgnnlaeikcnhcaaGreatDoor
end
section
set_option linter.unusedSimpArgs false
set_option linter.unusedVariables false
namespace Go.Vk
open Go Go.Proofs.YtgnnlaeikcnhcaaGreatDoor
theorem dropK_down (p : OpS → Bool) (s : List OpS) : ∀ k : Nat, dropK p s k ≤ k
  | 0 => Nat.le_refl _
  | k + 1 => by
    have := dropK_down p s k
    rw [dropK]; split <;> omega
theorem HdO.mark {b : BSt} {m : Nat} (h : HdO (m + 1) b) : HdO m (markB b).1 := by
  refine ⟨by have := h.L; show b.L.length + m < _; omega, by have := h.s; show b.s.length + m < _; omega, ?_, by have := h.md; show b.modes.length + m < _; omega, h.nd, h.sn⟩
  have := h.l
  show (layN b.l b.l.length (-1)).1.length + m < _
  unfold layN
  split
  · show b.l.length + m < _
    omega
  · show (b.l.take b.l.length ++ -1 :: b.l.drop b.l.length).length + m < _
    simp only [List.length_append, List.length_take, List.length_cons, List.length_drop]; omega
theorem HdO.thor {b : BSt} {m : Nat} (h : HdO m b) : HdO m (thorB b) :=
  h.str (s' := dropS thoN b.s) (l' := b.l) (by unfold dropS; rw [List.length_take]; have := dropK_down (goP thoN) b.s b.s.length; omega) (fun o ho => List.mem_of_mem_take ho) (Nat.le_refl _)
end Go.Vk
namespace Go.Proofs.YtgnnlaeikcnhcaaGreatDoor
open Go Go.Vk
set_option maxHeartbeats 40000000
section
variable {w0 w : World} {Q : Nat → Prop} {pb ps pl pa : Nat} {b : BSt}
theorem template_c (h : BuAt w0 w Q pb ps pl pa b) (hO : HdO 5 b) (hg : GB w0) (hM : MaxAt w0) (hQl : ∀ q, Q q → q < w.heap.size) {t : HTok} {av : Value} (ha : RdAt w 2 av (attrCells t.attrs)) (ht : SmT t) :
    Gives Tryz.prog 172 #[.pointer (some ⟨pb, 0, none⟩), .agg (t.row av)] w fun _ w' => BuAt w0 w' Q pb ps pl pa (temH b t) ∧ Upd (AF w0 Q) w w' := by
  obtain ⟨xa, xn, xc, eav, _⟩ := id ha
  subst eav
  have hrow : t.row (.slice xa xn xc) = #[.int .i64 t.kind, .string t.name, .string t.text, .slice xa xn xc, .bool t.dup, .bool t.self, .bool t.quirks, .int .i64 t.frm, .int .i64 t.to] := rfl
  have hx := Ext.alloc w (.cells (t.row (.slice xa xn xc)) 37)
  have hp : (w.alloc (.cells (t.row (.slice xa xn xc)) 37)).heap[w.heap.size]? = some (.cells (t.row (.slice xa xn xc)) 37 (0, 0)) := by rw [heap_alloc_h, if_pos rfl]
  obtain ⟨r, hr⟩ : ∃ r, r = temH b t := ⟨_, rfl⟩
  rw [← hr]
  unfold temH at hr
  refine Gives.of_W Tryz.call172 Tryz.func172 rfl Tryz.ntmps172 (by simp) ?_; intro Z hZ
  (repeat first|(with_reducible first|(refine hK _ _ ?_;clear hK K)|refine ‹∀σ w,_→K σ w› _ _ ?_|(refine W_st ?_;constructor;try intro K hK))|((with_reducible first|refine hZ _ _ ?_|refine W_rg ?_|skip);repeat1' simp only[push_cast,seval,-Nat.reduceSubDiff,vcells_agg])|((repeat((fail_if_success with_reducible refine hK _ _ ?_);clear hK K));with_reducible refine hK _ _ ?_;clear hK K))
  generalize w.alloc (.cells (t.row (.slice xa xn xc)) 37) = w1 at *
  obtain ⟨p, hpe⟩ : ∃ p, p = w.heap.size := ⟨_, rfl⟩
  rw [← hpe] at hp ⊢
  rw [hrow] at hp
  have h1 := h.pass hx
  have hsz := hx.sz
  by_cases hk : t.kind = 2
  · rw [if_pos hk] at hr
    dsimp only at hr
    obtain ⟨b1, hb1⟩ : ∃ b1, b1 = (insertB b (elTok t 0)).1 := ⟨_, rfl⟩
    rw [← hb1] at hr
    obtain ⟨b2, hb2⟩ : ∃ b2, b2 = (markB b1).1 := ⟨_, rfl⟩
    obtain ⟨b3, hb3⟩ : ∃ b3, b3 = failB b2 (markB b1).2 := ⟨_, rfl⟩
    rw [← hb2, ← hb3] at hr
    have O1 : HdO 2 b1 := by rw [hb1]; exact hO.ins (smT_el ht 0)
    have O2 : HdO 1 b2 := by rw [hb2]; exact O1.mark
    have O3 : HdO 1 b3 := by rw [hb3]; exact O2.fail _
    have hk' := eq_true hk
    (repeat first|(with_reducible first|(refine hK _ _ ?_;clear hK K)|refine ‹∀σ w,_→K σ w› _ _ ?_|(refine W_st ?_;constructor;try intro K hK))|((with_reducible first|refine hZ _ _ ?_|refine W_rg ?_|skip);repeat1' simp only[push_cast,seval,-Nat.reduceSubDiff,cell_h,cellO_cells,hp,hk'])|((repeat((fail_if_success with_reducible refine hK _ _ ?_);clear hK K));with_reducible refine hK _ _ ?_;clear hK K))
    rw [← hrow]
    refine (binsert_c h1 hO.ok (by have := hO.L; omega) (fun q hq => by have := hQl q hq; omega) (ha.ext hx) ht.2.2 0).mono ?_
    rintro v w2 ⟨rfl, h2, hu2⟩
    rw [← hb1] at h2
    (repeat first|(with_reducible first|(refine hK _ _ ?_;clear hK K)|refine ‹∀σ w,_→K σ w› _ _ ?_|(refine W_st ?_;constructor;try intro K hK))|((with_reducible first|refine hZ _ _ ?_|refine W_rg ?_|skip);repeat1' simp only[push_cast,seval,-Nat.reduceSubDiff])|((repeat((fail_if_success with_reducible refine hK _ _ ?_);clear hK K));with_reducible refine hK _ _ ?_;clear hK K))
    refine (bforms_c h2).mono ?_
    intro v w' ⟨hv, hw⟩
    subst hv; subst w'
    (repeat first|(with_reducible first|(refine hK _ _ ?_;clear hK K)|refine ‹∀σ w,_→K σ w› _ _ ?_|(refine W_st ?_;constructor;try intro K hK))|((with_reducible first|refine hZ _ _ ?_|refine W_rg ?_|skip);repeat1' simp only[push_cast,seval,-Nat.reduceSubDiff])|((repeat((fail_if_success with_reducible refine hK _ _ ?_);clear hK K));with_reducible refine hK _ _ ?_;clear hK K))
    refine (bfmark_c h2 O1.ok).mono ?_
    rintro v w3 ⟨rfl, h3, hu3⟩
    replace h3 : BuAt w0 w3 Q pb ps pl pa b2 := hb2 ▸ h3
    (repeat first|(with_reducible first|(refine hK _ _ ?_;clear hK K)|refine ‹∀σ w,_→K σ w› _ _ ?_|(refine W_st ?_;constructor;try intro K hK))|((with_reducible first|refine hZ _ _ ?_|refine W_rg ?_|skip);repeat1' simp only[push_cast,seval,-Nat.reduceSubDiff])|((repeat((fail_if_success with_reducible refine hK _ _ ?_);clear hK K));with_reducible refine hK _ _ ?_;clear hK K))
    refine (bfail_c h3 _).mono ?_
    rintro v w4 ⟨h4, hu4⟩
    replace h4 : BuAt w0 w4 Q pb ps pl pa b3 := hb3 ▸ h4
    (repeat first|(with_reducible first|(refine hK _ _ ?_;clear hK K)|refine ‹∀σ w,_→K σ w› _ _ ?_|(refine W_st ?_;constructor;try intro K hK))|((with_reducible first|refine hZ _ _ ?_|refine W_rg ?_|skip);repeat1' simp only[push_cast,seval,-Nat.reduceSubDiff])|((repeat((fail_if_success with_reducible refine hK _ _ ?_);clear hK K));with_reducible refine hK _ _ ?_;clear hK K))
    refine (bset_c h4 15).mono ?_
    rintro v w5 ⟨h5, hu5⟩
    (repeat first|(with_reducible first|(refine hK _ _ ?_;clear hK K)|refine ‹∀σ w,_→K σ w› _ _ ?_|(refine W_st ?_;constructor;try intro K hK))|((with_reducible first|refine hZ _ _ ?_|refine W_rg ?_|skip);repeat1' simp only[push_cast,seval,-Nat.reduceSubDiff])|((repeat((fail_if_success with_reducible refine hK _ _ ?_);clear hK K));with_reducible refine hK _ _ ?_;clear hK K))
    have z2 := hu2.alike.size
    have z3 := hu3.alike.size
    have z4 := hu4.alike.size
    have z5 := hu5.alike.size
    refine (bpushm_c h5 (fun q hq => by have := hQl q hq; omega) (by have := O3.md; show b3.modes.length < _; omega) 15).mono ?_
    rintro v w6 ⟨h6, hu6⟩
    (repeat first|(with_reducible first|(refine hK _ _ ?_;clear hK K)|refine ‹∀σ w,_→K σ w› _ _ ?_|(refine W_st ?_;constructor;try intro K hK))|((with_reducible first|refine hZ _ _ ?_|refine W_rg ?_|skip);repeat1' simp only[push_cast,seval,-Nat.reduceSubDiff])|((repeat((fail_if_success with_reducible refine hK _ _ ?_);clear hK K));with_reducible refine hK _ _ ?_;clear hK K))
    rw [hr]
    exact ⟨h6, Upd.trans (Upd.trans (Upd.trans (Upd.trans (Upd.trans hx.upd hu2 fun _ _ h => h) hu3 fun _ _ h => h) hu4 fun _ _ h => h) hu5 fun _ _ h => h) hu6 fun _ _ h => h⟩
  rw [if_neg hk] at hr
  (repeat first|(with_reducible first|(refine hK _ _ ?_;clear hK K)|refine ‹∀σ w,_→K σ w› _ _ ?_|(refine W_st ?_;constructor;try intro K hK))|((with_reducible first|refine hZ _ _ ?_|refine W_rg ?_|skip);repeat1' simp only[push_cast,seval,-Nat.reduceSubDiff,cell_h,cellO_cells,hp,hk])|((repeat((fail_if_success with_reducible refine hK _ _ ?_);clear hK K));with_reducible refine hK _ _ ?_;clear hK K))
  refine (bopen_c h1 hO.ok _).mono ?_
  rintro v w2 ⟨rfl, hx2⟩
  have h2 := h1.pass hx2
  have z2 := hx2.sz
  by_cases ho : 0 ≤ lastBu b tmpl
  · rw [if_pos ho] at hr
    have ho' : decide (0 ≤ lastBu b ⟨#[116, 101, 109, 112, 108, 97, 116, 101]⟩) = true := decide_eq_true ho
    obtain ⟨b1, hb1⟩ : ∃ b1, b1 = thorB b := ⟨_, rfl⟩
    rw [← hb1] at hr
    have O1 : HdO 2 b1 := by rw [hb1]; exact hO.thor.mono (by decide)
    (repeat first|(with_reducible first|(refine hK _ _ ?_;clear hK K)|refine ‹∀σ w,_→K σ w› _ _ ?_|(refine W_st ?_;constructor;try intro K hK))|((with_reducible first|refine hZ _ _ ?_|refine W_rg ?_|skip);repeat1' simp only[push_cast,seval,-Nat.reduceSubDiff,ho'])|((repeat((fail_if_success with_reducible refine hK _ _ ?_);clear hK K));with_reducible refine hK _ _ ?_;clear hK K))
    refine (bstack_c h2).mono ?_
    intro v w' ⟨hv, hw⟩
    subst hv; subst w'
    (repeat first|(with_reducible first|(refine hK _ _ ?_;clear hK K)|refine ‹∀σ w,_→K σ w› _ _ ?_|(refine W_st ?_;constructor;try intro K hK))|((with_reducible first|refine hZ _ _ ?_|refine W_rg ?_|skip);repeat1' simp only[push_cast,seval,-Nat.reduceSubDiff])|((repeat((fail_if_success with_reducible refine hK _ _ ?_);clear hK K));with_reducible refine hK _ _ ?_;clear hK K))
    refine (bthor_c h2 hO.ok hM hO.sn).mono ?_
    rintro v w3 ⟨h3, hu3⟩
    replace h3 : BuAt w0 w3 Q pb ps pl pa b1 := hb1 ▸ h3
    have z3 := hu3.alike.size
    (repeat first|(with_reducible first|(refine hK _ _ ?_;clear hK K)|refine ‹∀σ w,_→K σ w› _ _ ?_|(refine W_st ?_;constructor;try intro K hK))|((with_reducible first|refine hZ _ _ ?_|refine W_rg ?_|skip);repeat1' simp only[push_cast,seval,-Nat.reduceSubDiff])|((repeat((fail_if_success with_reducible refine hK _ _ ?_);clear hK K));with_reducible refine hK _ _ ?_;clear hK K))
    refine (leave_c h3 O1 hg (fun q hq => by have := hQl q hq; omega)).mono ?_
    rintro v w4 ⟨h4, hu4⟩
    (repeat first|(with_reducible first|(refine hK _ _ ?_;clear hK K)|refine ‹∀σ w,_→K σ w› _ _ ?_|(refine W_st ?_;constructor;try intro K hK))|((with_reducible first|refine hZ _ _ ?_|refine W_rg ?_|skip);repeat1' simp only[push_cast,seval,-Nat.reduceSubDiff])|((repeat((fail_if_success with_reducible refine hK _ _ ?_);clear hK K));with_reducible refine hK _ _ ?_;clear hK K))
    rw [hr]
    exact ⟨h4, Upd.trans (Upd.trans (hx.trans hx2).upd hu3 fun _ _ h => h) hu4 fun _ _ h => h⟩
  rw [if_neg ho] at hr
  have ho' : decide (0 ≤ lastBu b ⟨#[116, 101, 109, 112, 108, 97, 116, 101]⟩) = false := decide_eq_false ho
  (repeat first|(with_reducible first|(refine hK _ _ ?_;clear hK K)|refine ‹∀σ w,_→K σ w› _ _ ?_|(refine W_st ?_;constructor;try intro K hK))|((with_reducible first|refine hZ _ _ ?_|refine W_rg ?_|skip);repeat1' simp only[push_cast,seval,-Nat.reduceSubDiff,ho'])|((repeat((fail_if_success with_reducible refine hK _ _ ?_);clear hK K));with_reducible refine hK _ _ ?_;clear hK K))
  rw [hr]
  exact ⟨h2, (hx.trans hx2).upd⟩
end
end Go.Proofs.YtgnnlaeikcnhcaaGreatDoor
end
section
set_option linter.unusedSimpArgs false
set_option linter.unusedVariables false
namespace Go.Proofs.YtgnnlaeikcnhcaaGreatDoor
open Go Go.Vk
set_option maxHeartbeats 40000000
section
variable {w0 w : World} {Q : Nat → Prop} {pb ps pl pa : Nat} {b : BSt}
theorem own_c (h : BuAt w0 w Q pb ps pl pa b) (hO : HdO 5 b) (hg : GB w0) (hM : MaxAt w0) (hQl : ∀ q, Q q → q < w.heap.size) {t : HTok} {av : Value} (ha : RdAt w 2 av (attrCells t.attrs)) (ht : SmT t) :
    Gives Tryz.prog 126 #[.pointer (some ⟨pb, 0, none⟩), .agg (t.row av)] w fun _ w' => BuAt w0 w' Q pb ps pl pa (ownH b t) ∧ Upd (AF w0 Q) w w' := by
  obtain ⟨xa, xn, xc, eav, _⟩ := id ha
  subst eav
  have hrow : t.row (.slice xa xn xc) = #[.int .i64 t.kind, .string t.name, .string t.text, .slice xa xn xc, .bool t.dup, .bool t.self, .bool t.quirks, .int .i64 t.frm, .int .i64 t.to] := rfl
  have hx := Ext.alloc w (.cells (t.row (.slice xa xn xc)) 37)
  have hp : (w.alloc (.cells (t.row (.slice xa xn xc)) 37)).heap[w.heap.size]? = some (.cells (t.row (.slice xa xn xc)) 37 (0, 0)) := by rw [heap_alloc_h, if_pos rfl]
  obtain ⟨r, hr⟩ : ∃ r, r = ownH b t := ⟨_, rfl⟩
  rw [← hr]
  unfold ownH at hr
  have hL := hO.L
  refine Gives.of_W Tryz.call126 Tryz.func126 rfl Tryz.ntmps126 (by simp) ?_; intro Z hZ
  (repeat first|(with_reducible first|(refine hK _ _ ?_;clear hK K)|refine ‹∀σ w,_→K σ w› _ _ ?_|(refine W_st ?_;constructor;try intro K hK))|((with_reducible first|refine hZ _ _ ?_|refine W_rg ?_|skip);repeat1' simp only[push_cast,seval,-Nat.reduceSubDiff,vcells_agg])|((repeat((fail_if_success with_reducible refine hK _ _ ?_);clear hK K));with_reducible refine hK _ _ ?_;clear hK K))
  generalize w.alloc (.cells (t.row (.slice xa xn xc)) 37) = w1 at *
  obtain ⟨p, hpe⟩ : ∃ p, p = w.heap.size := ⟨_, rfl⟩
  rw [← hpe] at hp ⊢
  rw [hrow] at hp
  have h1 := h.pass hx
  have hsz := hx.sz
  have lp := blk_lt hp
  by_cases n1 : t.name = tmpl
  · rw [if_pos n1] at hr
    have n1' : (t.name = (⟨#[116, 101, 109, 112, 108, 97, 116, 101]⟩ : ByteArray)) = True := eq_true n1
    (repeat first|(with_reducible first|(refine hK _ _ ?_;clear hK K)|refine ‹∀σ w,_→K σ w› _ _ ?_|(refine W_st ?_;constructor;try intro K hK))|((with_reducible first|refine hZ _ _ ?_|refine W_rg ?_|skip);repeat1' simp only[push_cast,seval,-Nat.reduceSubDiff,cell_h,cellO_cells,hp,n1'])|((repeat((fail_if_success with_reducible refine hK _ _ ?_);clear hK K));with_reducible refine hK _ _ ?_;clear hK K))
    rw [← hrow]
    refine (template_c h1 hO hg hM (fun q hq => by have := hQl q hq; omega) (ha.ext hx) ht).mono ?_
    rintro v w2 ⟨h2, hu2⟩
    (repeat first|(with_reducible first|(refine hK _ _ ?_;clear hK K)|refine ‹∀σ w,_→K σ w› _ _ ?_|(refine W_st ?_;constructor;try intro K hK))|((with_reducible first|refine hZ _ _ ?_|refine W_rg ?_|skip);repeat1' simp only[push_cast,seval,-Nat.reduceSubDiff])|((repeat((fail_if_success with_reducible refine hK _ _ ?_);clear hK K));with_reducible refine hK _ _ ?_;clear hK K))
    rw [hr]
    exact ⟨h2, Upd.trans hx.upd hu2 fun _ _ h => h⟩
  rw [if_neg n1] at hr
  have n1' : (t.name = (⟨#[116, 101, 109, 112, 108, 97, 116, 101]⟩ : ByteArray)) = False := eq_false n1
  (repeat first|(with_reducible first|(refine hK _ _ ?_;clear hK K)|refine ‹∀σ w,_→K σ w› _ _ ?_|(refine W_st ?_;constructor;try intro K hK))|((with_reducible first|refine hZ _ _ ?_|refine W_rg ?_|skip);repeat1' simp only[push_cast,seval,-Nat.reduceSubDiff,cell_h,cellO_cells,hp,n1'])|((repeat((fail_if_success with_reducible refine hK _ _ ?_);clear hK K));with_reducible refine hK _ _ ?_;clear hK K))
  by_cases n2 : t.name = sTitle ∨ t.name = sNof ∨ t.name = sStyle ∨ t.name = sScript
  · rw [if_pos n2] at hr
    by_cases m0 : t.name = sTitle
    · have m0' : (t.name = (⟨#[116, 105, 116, 108, 101]⟩ : ByteArray)) = True := eq_true m0
      (repeat first|(with_reducible first|(refine hK _ _ ?_;clear hK K)|refine ‹∀σ w,_→K σ w› _ _ ?_|(refine W_st ?_;constructor;try intro K hK))|((with_reducible first|refine hZ _ _ ?_|refine W_rg ?_|skip);repeat1' simp only[push_cast,seval,-Nat.reduceSubDiff,cell_h,cellO_cells,hp,m0'])|((repeat((fail_if_success with_reducible refine hK _ _ ?_);clear hK K));with_reducible refine hK _ _ ?_;clear hK K))
      refine W_draw (.pas 0 (.pas 1 (.pas 2 (.pas 3 (.act 4 (.act 5 .fin)))))) (fun q => q = p) (by decide) mixed (by kernel_rfl) ?_
      have hxd := Ext.drew w1
      generalize w1.drew = wd at *
      have hpd := hxd.blk hp
      (repeat (first | ((first | refine pas_plain rfl ?_ | refine pas_g rfl rfl ?_ | refine act_plain rfl ?_ | refine act_g rfl rfl ?_ | refine last_plain rfl ?_ | refine tail_plain rfl ?_ | refine tail_g rfl rfl ?_); (repeat simp only [push_cast, seval, -Nat.reduceSubDiff, eq_self, true_or, or_true, cell_h, cellO_cells, hpd])) | (refine tail_fin ?_) | (refine sch_fin ?_)))
      refine (hstate_c t.name).mono ?_
      intro v w' ⟨hv, hw⟩
      subst hv; subst w'
      refine ⟨fun _ _ => rfl, ?_⟩
      (repeat (first | ((first | refine pas_plain rfl ?_ | refine pas_g rfl rfl ?_ | refine act_plain rfl ?_ | refine act_g rfl rfl ?_ | refine last_plain rfl ?_ | refine tail_plain rfl ?_ | refine tail_g rfl rfl ?_); (repeat simp only [push_cast, seval, -Nat.reduceSubDiff, eq_self, true_or, or_true, cell_h, cellO_cells, hpd])) | (refine tail_fin ?_) | (refine sch_fin ?_)))
      rw [← hrow]
      have hd : BuAt w0 wd (fun q => Q q ∨ q = p) pb ps pl pa b := h.more (hx.trans hxd) fun q hq => by
        rcases hq with hq | hq
        · exact .inl hq
        · exact .inr ⟨by omega, by have := hxd.sz; omega⟩
      have hQd : ∀ q, (Q q ∨ q = p) → q < wd.heap.size := by
        intro q hq
        have := hxd.sz
        rcases hq with hq | hq
        · have := hQl q hq; omega
        · omega
      refine (braw_c hd hO.ok (by omega) hQd (ha.ext (hx.trans hxd)) ht.2.2 (stateN t.name)).mono ?_
      rintro v w3 ⟨h3', g3⟩
      have h3 : BuAt w0 w3 Q pb ps pl pa (rawB b t (stateN t.name)) := h3'.less fun q hq => .inl hq
      have hu3 : Upd (AF w0 Q) wd w3 := g3.mono fun q _ hf => ⟨hf.1, fun hq => hf.2 (.inl hq)⟩
      refine ⟨kept_upd g3 fun q hq => ⟨by have := hxd.sz; omega, fun hf => hf.2 (.inr hq)⟩, ?_⟩
      (repeat (first | ((first | refine pas_plain rfl ?_ | refine pas_g rfl rfl ?_ | refine act_plain rfl ?_ | refine act_g rfl rfl ?_ | refine last_plain rfl ?_ | refine tail_plain rfl ?_ | refine tail_g rfl rfl ?_); (repeat simp only [push_cast, seval, -Nat.reduceSubDiff])) | (refine tail_fin ?_) | (refine sch_fin ?_)))
      (repeat first|(with_reducible first|(refine hK _ _ ?_;clear hK K)|refine ‹∀σ w,_→K σ w› _ _ ?_|(refine W_st ?_;constructor;try intro K hK))|((with_reducible first|refine hZ _ _ ?_|refine W_rg ?_|skip);repeat1' simp only[push_cast,seval,-Nat.reduceSubDiff])|((repeat((fail_if_success with_reducible refine hK _ _ ?_);clear hK K));with_reducible refine hK _ _ ?_;clear hK K))
      rw [hr]
      exact ⟨h3, Upd.trans (hx.trans hxd).upd hu3 fun _ _ h => h⟩
    have m0' : (t.name = (⟨#[116, 105, 116, 108, 101]⟩ : ByteArray)) = False := eq_false m0
    by_cases m1 : t.name = sNof
    · have m1' : (t.name = (⟨#[110, 111, 102, 114, 97, 109, 101, 115]⟩ : ByteArray)) = True := eq_true m1
      (repeat first|(with_reducible first|(refine hK _ _ ?_;clear hK K)|refine ‹∀σ w,_→K σ w› _ _ ?_|(refine W_st ?_;constructor;try intro K hK))|((with_reducible first|refine hZ _ _ ?_|refine W_rg ?_|skip);repeat1' simp only[push_cast,seval,-Nat.reduceSubDiff,cell_h,cellO_cells,hp,m0',m1'])|((repeat((fail_if_success with_reducible refine hK _ _ ?_);clear hK K));with_reducible refine hK _ _ ?_;clear hK K))
      refine W_draw (.pas 0 (.pas 1 (.pas 2 (.pas 3 (.act 4 (.act 5 .fin)))))) (fun q => q = p) (by decide) mixed (by kernel_rfl) ?_
      have hxd := Ext.drew w1
      generalize w1.drew = wd at *
      have hpd := hxd.blk hp
      (repeat (first | ((first | refine pas_plain rfl ?_ | refine pas_g rfl rfl ?_ | refine act_plain rfl ?_ | refine act_g rfl rfl ?_ | refine last_plain rfl ?_ | refine tail_plain rfl ?_ | refine tail_g rfl rfl ?_); (repeat simp only [push_cast, seval, -Nat.reduceSubDiff, eq_self, true_or, or_true, cell_h, cellO_cells, hpd])) | (refine tail_fin ?_) | (refine sch_fin ?_)))
      refine (hstate_c t.name).mono ?_
      intro v w' ⟨hv, hw⟩
      subst hv; subst w'
      refine ⟨fun _ _ => rfl, ?_⟩
      (repeat (first | ((first | refine pas_plain rfl ?_ | refine pas_g rfl rfl ?_ | refine act_plain rfl ?_ | refine act_g rfl rfl ?_ | refine last_plain rfl ?_ | refine tail_plain rfl ?_ | refine tail_g rfl rfl ?_); (repeat simp only [push_cast, seval, -Nat.reduceSubDiff, eq_self, true_or, or_true, cell_h, cellO_cells, hpd])) | (refine tail_fin ?_) | (refine sch_fin ?_)))
      rw [← hrow]
      have hd : BuAt w0 wd (fun q => Q q ∨ q = p) pb ps pl pa b := h.more (hx.trans hxd) fun q hq => by
        rcases hq with hq | hq
        · exact .inl hq
        · exact .inr ⟨by omega, by have := hxd.sz; omega⟩
      have hQd : ∀ q, (Q q ∨ q = p) → q < wd.heap.size := by
        intro q hq
        have := hxd.sz
        rcases hq with hq | hq
        · have := hQl q hq; omega
        · omega
      refine (braw_c hd hO.ok (by omega) hQd (ha.ext (hx.trans hxd)) ht.2.2 (stateN t.name)).mono ?_
      rintro v w3 ⟨h3', g3⟩
      have h3 : BuAt w0 w3 Q pb ps pl pa (rawB b t (stateN t.name)) := h3'.less fun q hq => .inl hq
      have hu3 : Upd (AF w0 Q) wd w3 := g3.mono fun q _ hf => ⟨hf.1, fun hq => hf.2 (.inl hq)⟩
      refine ⟨kept_upd g3 fun q hq => ⟨by have := hxd.sz; omega, fun hf => hf.2 (.inr hq)⟩, ?_⟩
      (repeat (first | ((first | refine pas_plain rfl ?_ | refine pas_g rfl rfl ?_ | refine act_plain rfl ?_ | refine act_g rfl rfl ?_ | refine last_plain rfl ?_ | refine tail_plain rfl ?_ | refine tail_g rfl rfl ?_); (repeat simp only [push_cast, seval, -Nat.reduceSubDiff])) | (refine tail_fin ?_) | (refine sch_fin ?_)))
      (repeat first|(with_reducible first|(refine hK _ _ ?_;clear hK K)|refine ‹∀σ w,_→K σ w› _ _ ?_|(refine W_st ?_;constructor;try intro K hK))|((with_reducible first|refine hZ _ _ ?_|refine W_rg ?_|skip);repeat1' simp only[push_cast,seval,-Nat.reduceSubDiff])|((repeat((fail_if_success with_reducible refine hK _ _ ?_);clear hK K));with_reducible refine hK _ _ ?_;clear hK K))
      rw [hr]
      exact ⟨h3, Upd.trans (hx.trans hxd).upd hu3 fun _ _ h => h⟩
    have m1' : (t.name = (⟨#[110, 111, 102, 114, 97, 109, 101, 115]⟩ : ByteArray)) = False := eq_false m1
    by_cases m2 : t.name = sStyle
    · have m2' : (t.name = (⟨#[115, 116, 121, 108, 101]⟩ : ByteArray)) = True := eq_true m2
      (repeat first|(with_reducible first|(refine hK _ _ ?_;clear hK K)|refine ‹∀σ w,_→K σ w› _ _ ?_|(refine W_st ?_;constructor;try intro K hK))|((with_reducible first|refine hZ _ _ ?_|refine W_rg ?_|skip);repeat1' simp only[push_cast,seval,-Nat.reduceSubDiff,cell_h,cellO_cells,hp,m0',m1',m2'])|((repeat((fail_if_success with_reducible refine hK _ _ ?_);clear hK K));with_reducible refine hK _ _ ?_;clear hK K))
      refine W_draw (.pas 0 (.pas 1 (.pas 2 (.pas 3 (.act 4 (.act 5 .fin)))))) (fun q => q = p) (by decide) mixed (by kernel_rfl) ?_
      have hxd := Ext.drew w1
      generalize w1.drew = wd at *
      have hpd := hxd.blk hp
      (repeat (first | ((first | refine pas_plain rfl ?_ | refine pas_g rfl rfl ?_ | refine act_plain rfl ?_ | refine act_g rfl rfl ?_ | refine last_plain rfl ?_ | refine tail_plain rfl ?_ | refine tail_g rfl rfl ?_); (repeat simp only [push_cast, seval, -Nat.reduceSubDiff, eq_self, true_or, or_true, cell_h, cellO_cells, hpd])) | (refine tail_fin ?_) | (refine sch_fin ?_)))
      refine (hstate_c t.name).mono ?_
      intro v w' ⟨hv, hw⟩
      subst hv; subst w'
      refine ⟨fun _ _ => rfl, ?_⟩
      (repeat (first | ((first | refine pas_plain rfl ?_ | refine pas_g rfl rfl ?_ | refine act_plain rfl ?_ | refine act_g rfl rfl ?_ | refine last_plain rfl ?_ | refine tail_plain rfl ?_ | refine tail_g rfl rfl ?_); (repeat simp only [push_cast, seval, -Nat.reduceSubDiff, eq_self, true_or, or_true, cell_h, cellO_cells, hpd])) | (refine tail_fin ?_) | (refine sch_fin ?_)))
      rw [← hrow]
      have hd : BuAt w0 wd (fun q => Q q ∨ q = p) pb ps pl pa b := h.more (hx.trans hxd) fun q hq => by
        rcases hq with hq | hq
        · exact .inl hq
        · exact .inr ⟨by omega, by have := hxd.sz; omega⟩
      have hQd : ∀ q, (Q q ∨ q = p) → q < wd.heap.size := by
        intro q hq
        have := hxd.sz
        rcases hq with hq | hq
        · have := hQl q hq; omega
        · omega
      refine (braw_c hd hO.ok (by omega) hQd (ha.ext (hx.trans hxd)) ht.2.2 (stateN t.name)).mono ?_
      rintro v w3 ⟨h3', g3⟩
      have h3 : BuAt w0 w3 Q pb ps pl pa (rawB b t (stateN t.name)) := h3'.less fun q hq => .inl hq
      have hu3 : Upd (AF w0 Q) wd w3 := g3.mono fun q _ hf => ⟨hf.1, fun hq => hf.2 (.inl hq)⟩
      refine ⟨kept_upd g3 fun q hq => ⟨by have := hxd.sz; omega, fun hf => hf.2 (.inr hq)⟩, ?_⟩
      (repeat (first | ((first | refine pas_plain rfl ?_ | refine pas_g rfl rfl ?_ | refine act_plain rfl ?_ | refine act_g rfl rfl ?_ | refine last_plain rfl ?_ | refine tail_plain rfl ?_ | refine tail_g rfl rfl ?_); (repeat simp only [push_cast, seval, -Nat.reduceSubDiff])) | (refine tail_fin ?_) | (refine sch_fin ?_)))
      (repeat first|(with_reducible first|(refine hK _ _ ?_;clear hK K)|refine ‹∀σ w,_→K σ w› _ _ ?_|(refine W_st ?_;constructor;try intro K hK))|((with_reducible first|refine hZ _ _ ?_|refine W_rg ?_|skip);repeat1' simp only[push_cast,seval,-Nat.reduceSubDiff])|((repeat((fail_if_success with_reducible refine hK _ _ ?_);clear hK K));with_reducible refine hK _ _ ?_;clear hK K))
      rw [hr]
      exact ⟨h3, Upd.trans (hx.trans hxd).upd hu3 fun _ _ h => h⟩
    have m2' : (t.name = (⟨#[115, 116, 121, 108, 101]⟩ : ByteArray)) = False := eq_false m2
    by_cases m3 : t.name = sScript
    · have m3' : (t.name = (⟨#[115, 99, 114, 105, 112, 116]⟩ : ByteArray)) = True := eq_true m3
      (repeat first|(with_reducible first|(refine hK _ _ ?_;clear hK K)|refine ‹∀σ w,_→K σ w› _ _ ?_|(refine W_st ?_;constructor;try intro K hK))|((with_reducible first|refine hZ _ _ ?_|refine W_rg ?_|skip);repeat1' simp only[push_cast,seval,-Nat.reduceSubDiff,cell_h,cellO_cells,hp,m0',m1',m2',m3'])|((repeat((fail_if_success with_reducible refine hK _ _ ?_);clear hK K));with_reducible refine hK _ _ ?_;clear hK K))
      refine W_draw (.pas 0 (.pas 1 (.pas 2 (.pas 3 (.act 4 (.act 5 .fin)))))) (fun q => q = p) (by decide) mixed (by kernel_rfl) ?_
      have hxd := Ext.drew w1
      generalize w1.drew = wd at *
      have hpd := hxd.blk hp
      (repeat (first | ((first | refine pas_plain rfl ?_ | refine pas_g rfl rfl ?_ | refine act_plain rfl ?_ | refine act_g rfl rfl ?_ | refine last_plain rfl ?_ | refine tail_plain rfl ?_ | refine tail_g rfl rfl ?_); (repeat simp only [push_cast, seval, -Nat.reduceSubDiff, eq_self, true_or, or_true, cell_h, cellO_cells, hpd])) | (refine tail_fin ?_) | (refine sch_fin ?_)))
      refine (hstate_c t.name).mono ?_
      intro v w' ⟨hv, hw⟩
      subst hv; subst w'
      refine ⟨fun _ _ => rfl, ?_⟩
      (repeat (first | ((first | refine pas_plain rfl ?_ | refine pas_g rfl rfl ?_ | refine act_plain rfl ?_ | refine act_g rfl rfl ?_ | refine last_plain rfl ?_ | refine tail_plain rfl ?_ | refine tail_g rfl rfl ?_); (repeat simp only [push_cast, seval, -Nat.reduceSubDiff, eq_self, true_or, or_true, cell_h, cellO_cells, hpd])) | (refine tail_fin ?_) | (refine sch_fin ?_)))
      rw [← hrow]
      have hd : BuAt w0 wd (fun q => Q q ∨ q = p) pb ps pl pa b := h.more (hx.trans hxd) fun q hq => by
        rcases hq with hq | hq
        · exact .inl hq
        · exact .inr ⟨by omega, by have := hxd.sz; omega⟩
      have hQd : ∀ q, (Q q ∨ q = p) → q < wd.heap.size := by
        intro q hq
        have := hxd.sz
        rcases hq with hq | hq
        · have := hQl q hq; omega
        · omega
      refine (braw_c hd hO.ok (by omega) hQd (ha.ext (hx.trans hxd)) ht.2.2 (stateN t.name)).mono ?_
      rintro v w3 ⟨h3', g3⟩
      have h3 : BuAt w0 w3 Q pb ps pl pa (rawB b t (stateN t.name)) := h3'.less fun q hq => .inl hq
      have hu3 : Upd (AF w0 Q) wd w3 := g3.mono fun q _ hf => ⟨hf.1, fun hq => hf.2 (.inl hq)⟩
      refine ⟨kept_upd g3 fun q hq => ⟨by have := hxd.sz; omega, fun hf => hf.2 (.inr hq)⟩, ?_⟩
      (repeat (first | ((first | refine pas_plain rfl ?_ | refine pas_g rfl rfl ?_ | refine act_plain rfl ?_ | refine act_g rfl rfl ?_ | refine last_plain rfl ?_ | refine tail_plain rfl ?_ | refine tail_g rfl rfl ?_); (repeat simp only [push_cast, seval, -Nat.reduceSubDiff])) | (refine tail_fin ?_) | (refine sch_fin ?_)))
      (repeat first|(with_reducible first|(refine hK _ _ ?_;clear hK K)|refine ‹∀σ w,_→K σ w› _ _ ?_|(refine W_st ?_;constructor;try intro K hK))|((with_reducible first|refine hZ _ _ ?_|refine W_rg ?_|skip);repeat1' simp only[push_cast,seval,-Nat.reduceSubDiff])|((repeat((fail_if_success with_reducible refine hK _ _ ?_);clear hK K));with_reducible refine hK _ _ ?_;clear hK K))
      rw [hr]
      exact ⟨h3, Upd.trans (hx.trans hxd).upd hu3 fun _ _ h => h⟩
    have m3' : (t.name = (⟨#[115, 99, 114, 105, 112, 116]⟩ : ByteArray)) = False := eq_false m3
    exact absurd n2 (fun h => by rcases h with h | h | h | h <;> first | exact m0 h | exact m1 h | exact m2 h | exact m3 h)
  rw [if_neg n2] at hr
  have n3 : (t.name = (⟨#[116, 105, 116, 108, 101]⟩ : ByteArray)) = False := eq_false fun h => n2 (.inl h)
  have n4 : (t.name = (⟨#[110, 111, 102, 114, 97, 109, 101, 115]⟩ : ByteArray)) = False := eq_false fun h => n2 (.inr (.inl h))
  have n5 : (t.name = (⟨#[115, 116, 121, 108, 101]⟩ : ByteArray)) = False := eq_false fun h => n2 (.inr (.inr (.inl h)))
  have n6 : (t.name = (⟨#[115, 99, 114, 105, 112, 116]⟩ : ByteArray)) = False := eq_false fun h => n2 (.inr (.inr (.inr h)))
  (repeat first|(with_reducible first|(refine hK _ _ ?_;clear hK K)|refine ‹∀σ w,_→K σ w› _ _ ?_|(refine W_st ?_;constructor;try intro K hK))|((with_reducible first|refine hZ _ _ ?_|refine W_rg ?_|skip);repeat1' simp only[push_cast,seval,-Nat.reduceSubDiff,cell_h,cellO_cells,hp,n3,n4,n5,n6])|((repeat((fail_if_success with_reducible refine hK _ _ ?_);clear hK K));with_reducible refine hK _ _ ?_;clear hK K))
  rw [← hrow]
  refine (bonly_c h1 hO.ok (by omega) (fun q hq => by have := hQl q hq; omega) (ha.ext hx) ht.2.2).mono ?_
  rintro v w2 ⟨rfl, h2, hu2⟩
  (repeat first|(with_reducible first|(refine hK _ _ ?_;clear hK K)|refine ‹∀σ w,_→K σ w› _ _ ?_|(refine W_st ?_;constructor;try intro K hK))|((with_reducible first|refine hZ _ _ ?_|refine W_rg ?_|skip);repeat1' simp only[push_cast,seval,-Nat.reduceSubDiff])|((repeat((fail_if_success with_reducible refine hK _ _ ?_);clear hK K));with_reducible refine hK _ _ ?_;clear hK K))
  rw [hr]
  exact ⟨h2, Upd.trans hx.upd hu2 fun _ _ h => h⟩
end
end Go.Proofs.YtgnnlaeikcnhcaaGreatDoor
end
section
set_option linter.unusedSimpArgs false
set_option linter.unusedVariables false
namespace Go.Proofs.YtgnnlaeikcnhcaaGreatDoor
open Go Go.Vk
set_option maxHeartbeats 40000000
section
variable {w0 w : World} {Q : Nat → Prop} {pb ps pl pa : Nat} {b : BSt}
theorem head_c (h : BuAt w0 w Q pb ps pl pa b) (hO : HdO 5 b) (hg : GB w0) (hM : MaxAt w0) (hQl : ∀ q, Q q → q < w.heap.size) {t : HTok} {av : Value} (ha0 : RdAt w0 2 av (attrCells t.attrs)) (ht : SmT t) :
    Gives Tryz.prog 61 #[.pointer (some ⟨pb, 0, none⟩), .agg (t.row av)] w fun v w' => v = .bool (headH b t).2 ∧ BuAt w0 w' Q pb ps pl pa (headH b t).1 ∧ Upd (AF w0 Q) w w' := by
  have ha := ha0.ext h.out
  obtain ⟨xa, xn, xc, eav, _⟩ := id ha
  subst eav
  have hrow : t.row (.slice xa xn xc) = #[.int .i64 t.kind, .string t.name, .string t.text, .slice xa xn xc, .bool t.dup, .bool t.self, .bool t.quirks, .int .i64 t.frm, .int .i64 t.to] := rfl
  have hx := Ext.alloc w (.cells (t.row (.slice xa xn xc)) 37)
  have hp : (w.alloc (.cells (t.row (.slice xa xn xc)) 37)).heap[w.heap.size]? = some (.cells (t.row (.slice xa xn xc)) 37 (0, 0)) := by rw [heap_alloc_h, if_pos rfl]
  obtain ⟨r, hr⟩ : ∃ r, r = headH b t := ⟨_, rfl⟩
  rw [← hr]
  unfold headH at hr
  have hL := hO.L
  have hok := hO.ok
  refine Gives.of_W Tryz.call61 Tryz.func61 rfl Tryz.ntmps61 (by simp) ?_; intro Z hZ
  (repeat first|(with_reducible first|(refine hK _ _ ?_;clear hK K)|refine ‹∀σ w,_→K σ w› _ _ ?_|(refine W_st ?_;constructor;try intro K hK))|((with_reducible first|refine hZ _ _ ?_|refine W_rg ?_|skip);repeat1' simp only[push_cast,seval,-Nat.reduceSubDiff,vcells_agg])|((repeat((fail_if_success with_reducible refine hK _ _ ?_);clear hK K));with_reducible refine hK _ _ ?_;clear hK K))
  generalize w.alloc (.cells (t.row (.slice xa xn xc)) 37) = w1 at *
  obtain ⟨p, hpe⟩ : ∃ p, p = w.heap.size := ⟨_, rfl⟩
  rw [← hpe] at hp ⊢
  rw [hrow] at hp
  have h1 := h.pass hx
  have hx1 := hx
  have hp1 := hp
  refine (barena_c h1).mono ?_
  intro v w' ⟨hv, hw⟩
  subst hv; subst w'
  by_cases k1 : t.kind = 1
  · have k1' := eq_true k1
    rw [if_pos k1] at hr
    (repeat first|(with_reducible first|(refine hK _ _ ?_;clear hK K)|refine ‹∀σ w,_→K σ w› _ _ ?_|(refine W_st ?_;constructor;try intro K hK))|((with_reducible first|refine hZ _ _ ?_|refine W_rg ?_|skip);repeat1' simp only[push_cast,seval,-Nat.reduceSubDiff,cell_h,cellO_cells,hp1,k1'])|((repeat((fail_if_success with_reducible refine hK _ _ ?_);clear hK K));with_reducible refine hK _ _ ?_;clear hK K))
    exact ⟨by rw [hr], by rw [hr]; exact h1, hx1.upd⟩
  have k1' := eq_false k1
  rw [if_neg k1] at hr
  by_cases k5 : t.kind = 5
  · have k5' := eq_true k5
    rw [if_pos k5] at hr
    (repeat first|(with_reducible first|(refine hK _ _ ?_;clear hK K)|refine ‹∀σ w,_→K σ w› _ _ ?_|(refine W_st ?_;constructor;try intro K hK))|((with_reducible first|refine hZ _ _ ?_|refine W_rg ?_|skip);repeat1' simp only[push_cast,seval,-Nat.reduceSubDiff,cell_h,cellO_cells,hp1,k1',k5'])|((repeat((fail_if_success with_reducible refine hK _ _ ?_);clear hK K));with_reducible refine hK _ _ ?_;clear hK K))
    refine (bchars_c h1 hok t.text ht.2.1 hO.txt).mono ?_
    rintro v w2 ⟨h2, hu2⟩
    (repeat first|(with_reducible first|(refine hK _ _ ?_;clear hK K)|refine ‹∀σ w,_→K σ w› _ _ ?_|(refine W_st ?_;constructor;try intro K hK))|((with_reducible first|refine hZ _ _ ?_|refine W_rg ?_|skip);repeat1' simp only[push_cast,seval,-Nat.reduceSubDiff])|((repeat((fail_if_success with_reducible refine hK _ _ ?_);clear hK K));with_reducible refine hK _ _ ?_;clear hK K))
    exact ⟨by rw [hr], by rw [hr]; exact h2, Upd.trans hx1.upd hu2 fun _ _ h => h⟩
  have k5' := eq_false k5
  rw [if_neg k5] at hr
  by_cases k4 : t.kind = 4
  · have k4' := eq_true k4
    rw [if_pos k4] at hr
    (repeat first|(with_reducible first|(refine hK _ _ ?_;clear hK K)|refine ‹∀σ w,_→K σ w› _ _ ?_|(refine W_st ?_;constructor;try intro K hK))|((with_reducible first|refine hZ _ _ ?_|refine W_rg ?_|skip);repeat1' simp only[push_cast,seval,-Nat.reduceSubDiff,cell_h,cellO_cells,hp1,k1',k5',k4'])|((repeat((fail_if_success with_reducible refine hK _ _ ?_);clear hK K));with_reducible refine hK _ _ ?_;clear hK K))
    rw [← hrow]
    refine (bcomment_c h1 hok (by omega) (fun q hq => by have := hQl q hq; have := hx1.sz; omega) t (-1)).mono ?_
    rintro v w2 ⟨h2, hu2⟩
    (repeat first|(with_reducible first|(refine hK _ _ ?_;clear hK K)|refine ‹∀σ w,_→K σ w› _ _ ?_|(refine W_st ?_;constructor;try intro K hK))|((with_reducible first|refine hZ _ _ ?_|refine W_rg ?_|skip);repeat1' simp only[push_cast,seval,-Nat.reduceSubDiff])|((repeat((fail_if_success with_reducible refine hK _ _ ?_);clear hK K));with_reducible refine hK _ _ ?_;clear hK K))
    exact ⟨by rw [hr], by rw [hr]; exact h2, Upd.trans hx1.upd hu2 fun _ _ h => h⟩
  have k4' := eq_false k4
  rw [if_neg k4] at hr
  (repeat first|(with_reducible first|(refine hK _ _ ?_;clear hK K)|refine ‹∀σ w,_→K σ w› _ _ ?_|(refine W_st ?_;constructor;try intro K hK))|((with_reducible first|refine hZ _ _ ?_|refine W_rg ?_|skip);repeat1' simp only[push_cast,seval,-Nat.reduceSubDiff,cell_h,cellO_cells,hp1,k1',k5',k4'])|((repeat((fail_if_success with_reducible refine hK _ _ ?_);clear hK K));with_reducible refine hK _ _ ?_;clear hK K))
  refine bsl (l := lHtml) rfl (by decide) (by decide) (by kernel_rfl) ?_
  rintro v w2 hy2 hn2 ⟨bn2, rfl⟩
  (repeat first|(with_reducible first|(refine hK _ _ ?_;clear hK K)|refine ‹∀σ w,_→K σ w› _ _ ?_|(refine W_st ?_;constructor;try intro K hK))|((with_reducible first|refine hZ _ _ ?_|refine W_rg ?_|skip);repeat1' simp only[push_cast,seval,-Nat.reduceSubDiff])|((repeat((fail_if_success with_reducible refine hK _ _ ?_);clear hK K));with_reducible refine hK _ _ ?_;clear hK K))
  rw [← hrow]
  refine (hstart_c hn2 (by decide)).mono ?_
  rintro v w3 ⟨rfl, hy3⟩
  have hx3 := (hx1.trans hy2).trans hy3
  have hp3 := (hy2.trans hy3).blk hp1
  have h3 := h1.pass (hy2.trans hy3)
  by_cases s1 : startT t lHtml = true
  · rw [if_pos s1] at hr
    (repeat first|(with_reducible first|(refine hK _ _ ?_;clear hK K)|refine ‹∀σ w,_→K σ w› _ _ ?_|(refine W_st ?_;constructor;try intro K hK))|((with_reducible first|refine hZ _ _ ?_|refine W_rg ?_|skip);repeat1' simp only[push_cast,seval,-Nat.reduceSubDiff,cell_h,cellO_cells,hp3,s1])|((repeat((fail_if_success with_reducible refine hK _ _ ?_);clear hK K));with_reducible refine hK _ _ ?_;clear hK K))
    rw [← hrow]
    refine (bmore_c h3 hok (fun q hq => by have := hQl q hq; have := hx3.sz; omega) ha0 ht.2.2).mono ?_
    rintro v w4 ⟨h4, hu4⟩
    (repeat first|(with_reducible first|(refine hK _ _ ?_;clear hK K)|refine ‹∀σ w,_→K σ w› _ _ ?_|(refine W_st ?_;constructor;try intro K hK))|((with_reducible first|refine hZ _ _ ?_|refine W_rg ?_|skip);repeat1' simp only[push_cast,seval,-Nat.reduceSubDiff])|((repeat((fail_if_success with_reducible refine hK _ _ ?_);clear hK K));with_reducible refine hK _ _ ?_;clear hK K))
    exact ⟨by rw [hr], by rw [hr]; exact h4, Upd.trans hx3.upd hu4 fun _ _ h => h⟩
  rw [if_neg s1] at hr
  have s1' := eq_false_of_ne_true s1
  (repeat first|(with_reducible first|(refine hK _ _ ?_;clear hK K)|refine ‹∀σ w,_→K σ w› _ _ ?_|(refine W_st ?_;constructor;try intro K hK))|((with_reducible first|refine hZ _ _ ?_|refine W_rg ?_|skip);repeat1' simp only[push_cast,seval,-Nat.reduceSubDiff,cell_h,cellO_cells,hp3,s1'])|((repeat((fail_if_success with_reducible refine hK _ _ ?_);clear hK K));with_reducible refine hK _ _ ?_;clear hK K))
  rw [← hrow]
  refine hbelongs_c.mono ?_
  rintro v w4 ⟨rfl, hy4⟩
  have hx4 := hx3.trans hy4
  have hp4 := hy4.blk hp3
  have h4 := h3.pass hy4
  by_cases s2 : belT t = true
  · rw [if_pos s2] at hr
    (repeat first|(with_reducible first|(refine hK _ _ ?_;clear hK K)|refine ‹∀σ w,_→K σ w› _ _ ?_|(refine W_st ?_;constructor;try intro K hK))|((with_reducible first|refine hZ _ _ ?_|refine W_rg ?_|skip);repeat1' simp only[push_cast,seval,-Nat.reduceSubDiff,cell_h,cellO_cells,hp4,s2])|((repeat((fail_if_success with_reducible refine hK _ _ ?_);clear hK K));with_reducible refine hK _ _ ?_;clear hK K))
    rw [← hrow]
    refine (own_c h4 hO hg hM (fun q hq => by have := hQl q hq; have := hx4.sz; omega) (ha.ext hx4) ht).mono ?_
    rintro v w5 ⟨h5, hu5⟩
    (repeat first|(with_reducible first|(refine hK _ _ ?_;clear hK K)|refine ‹∀σ w,_→K σ w› _ _ ?_|(refine W_st ?_;constructor;try intro K hK))|((with_reducible first|refine hZ _ _ ?_|refine W_rg ?_|skip);repeat1' simp only[push_cast,seval,-Nat.reduceSubDiff])|((repeat((fail_if_success with_reducible refine hK _ _ ?_);clear hK K));with_reducible refine hK _ _ ?_;clear hK K))
    exact ⟨by rw [hr], by rw [hr]; exact h5, Upd.trans hx4.upd hu5 fun _ _ h => h⟩
  rw [if_neg s2] at hr
  have s2' := eq_false_of_ne_true s2
  (repeat first|(with_reducible first|(refine hK _ _ ?_;clear hK K)|refine ‹∀σ w,_→K σ w› _ _ ?_|(refine W_st ?_;constructor;try intro K hK))|((with_reducible first|refine hZ _ _ ?_|refine W_rg ?_|skip);repeat1' simp only[push_cast,seval,-Nat.reduceSubDiff,cell_h,cellO_cells,hp4,s2'])|((repeat((fail_if_success with_reducible refine hK _ _ ?_);clear hK K));with_reducible refine hK _ _ ?_;clear hK K))
  refine bsl (l := lNos) rfl (by decide) (by decide) (by kernel_rfl) ?_
  rintro v w5 hy5 hn5 ⟨bn5, rfl⟩
  (repeat first|(with_reducible first|(refine hK _ _ ?_;clear hK K)|refine ‹∀σ w,_→K σ w› _ _ ?_|(refine W_st ?_;constructor;try intro K hK))|((with_reducible first|refine hZ _ _ ?_|refine W_rg ?_|skip);repeat1' simp only[push_cast,seval,-Nat.reduceSubDiff])|((repeat((fail_if_success with_reducible refine hK _ _ ?_);clear hK K));with_reducible refine hK _ _ ?_;clear hK K))
  rw [← hrow]
  refine (hstart_c hn5 (by decide)).mono ?_
  rintro v w6 ⟨rfl, hy6⟩
  have hx6 := (hx4.trans hy5).trans hy6
  have hp6 := (hy5.trans hy6).blk hp4
  have h6 := h4.pass (hy5.trans hy6)
  by_cases s3 : startT t lNos = true
  · rw [if_pos s3] at hr
    (repeat first|(with_reducible first|(refine hK _ _ ?_;clear hK K)|refine ‹∀σ w,_→K σ w› _ _ ?_|(refine W_st ?_;constructor;try intro K hK))|((with_reducible first|refine hZ _ _ ?_|refine W_rg ?_|skip);repeat1' simp only[push_cast,seval,-Nat.reduceSubDiff,cell_h,cellO_cells,hp6,s3])|((repeat((fail_if_success with_reducible refine hK _ _ ?_);clear hK K));with_reducible refine hK _ _ ?_;clear hK K))
    rw [← hrow]
    refine (binsert_c h6 hok (by omega) (fun q hq => by have := hQl q hq; have := hx6.sz; omega) (ha.ext hx6) ht.2.2 0).mono ?_
    rintro v w7 ⟨rfl, h7, hu7⟩
    (repeat first|(with_reducible first|(refine hK _ _ ?_;clear hK K)|refine ‹∀σ w,_→K σ w› _ _ ?_|(refine W_st ?_;constructor;try intro K hK))|((with_reducible first|refine hZ _ _ ?_|refine W_rg ?_|skip);repeat1' simp only[push_cast,seval,-Nat.reduceSubDiff])|((repeat((fail_if_success with_reducible refine hK _ _ ?_);clear hK K));with_reducible refine hK _ _ ?_;clear hK K))
    refine (bset_c h7 4).mono ?_
    rintro v w8 ⟨h8, hu8⟩
    (repeat first|(with_reducible first|(refine hK _ _ ?_;clear hK K)|refine ‹∀σ w,_→K σ w› _ _ ?_|(refine W_st ?_;constructor;try intro K hK))|((with_reducible first|refine hZ _ _ ?_|refine W_rg ?_|skip);repeat1' simp only[push_cast,seval,-Nat.reduceSubDiff])|((repeat((fail_if_success with_reducible refine hK _ _ ?_);clear hK K));with_reducible refine hK _ _ ?_;clear hK K))
    exact ⟨by rw [hr], by rw [hr]; exact h8, Upd.trans (Upd.trans hx6.upd hu7 fun _ _ h => h) hu8 fun _ _ h => h⟩
  rw [if_neg s3] at hr
  have s3' := eq_false_of_ne_true s3
  (repeat first|(with_reducible first|(refine hK _ _ ?_;clear hK K)|refine ‹∀σ w,_→K σ w› _ _ ?_|(refine W_st ?_;constructor;try intro K hK))|((with_reducible first|refine hZ _ _ ?_|refine W_rg ?_|skip);repeat1' simp only[push_cast,seval,-Nat.reduceSubDiff,cell_h,cellO_cells,hp6,s3'])|((repeat((fail_if_success with_reducible refine hK _ _ ?_);clear hK K));with_reducible refine hK _ _ ?_;clear hK K))
  refine bsl (l := lHead) rfl (by decide) (by decide) (by kernel_rfl) ?_
  rintro v w7 hy7 hn7 ⟨bn7, rfl⟩
  (repeat first|(with_reducible first|(refine hK _ _ ?_;clear hK K)|refine ‹∀σ w,_→K σ w› _ _ ?_|(refine W_st ?_;constructor;try intro K hK))|((with_reducible first|refine hZ _ _ ?_|refine W_rg ?_|skip);repeat1' simp only[push_cast,seval,-Nat.reduceSubDiff])|((repeat((fail_if_success with_reducible refine hK _ _ ?_);clear hK K));with_reducible refine hK _ _ ?_;clear hK K))
  rw [← hrow]
  refine (hstart_c hn7 (by decide)).mono ?_
  rintro v w8 ⟨rfl, hy8⟩
  have hx8 := (hx6.trans hy7).trans hy8
  have hp8 := (hy7.trans hy8).blk hp6
  have h8 := h6.pass (hy7.trans hy8)
  by_cases s4 : startT t lHead = true
  · rw [if_pos (.inl s4)] at hr
    (repeat first|(with_reducible first|(refine hK _ _ ?_;clear hK K)|refine ‹∀σ w,_→K σ w› _ _ ?_|(refine W_st ?_;constructor;try intro K hK))|((with_reducible first|refine hZ _ _ ?_|refine W_rg ?_|skip);repeat1' simp only[push_cast,seval,-Nat.reduceSubDiff,cell_h,cellO_cells,hp8,s4])|((repeat((fail_if_success with_reducible refine hK _ _ ?_);clear hK K));with_reducible refine hK _ _ ?_;clear hK K))
    exact ⟨by rw [hr], by rw [hr]; exact h8, hx8.upd⟩
  have s4' := eq_false_of_ne_true s4
  (repeat first|(with_reducible first|(refine hK _ _ ?_;clear hK K)|refine ‹∀σ w,_→K σ w› _ _ ?_|(refine W_st ?_;constructor;try intro K hK))|((with_reducible first|refine hZ _ _ ?_|refine W_rg ?_|skip);repeat1' simp only[push_cast,seval,-Nat.reduceSubDiff,cell_h,cellO_cells,hp8,s4'])|((repeat((fail_if_success with_reducible refine hK _ _ ?_);clear hK K));with_reducible refine hK _ _ ?_;clear hK K))
  rw [← hrow]
  refine hstrange_c.mono ?_
  rintro v w9 ⟨rfl, hy9⟩
  have hx9 := hx8.trans hy9
  have hp9 := hy9.blk hp8
  have h9 := h8.pass hy9
  by_cases s5 : strT t = true
  · rw [if_pos (.inr s5)] at hr
    (repeat first|(with_reducible first|(refine hK _ _ ?_;clear hK K)|refine ‹∀σ w,_→K σ w› _ _ ?_|(refine W_st ?_;constructor;try intro K hK))|((with_reducible first|refine hZ _ _ ?_|refine W_rg ?_|skip);repeat1' simp only[push_cast,seval,-Nat.reduceSubDiff,cell_h,cellO_cells,hp9,s5])|((repeat((fail_if_success with_reducible refine hK _ _ ?_);clear hK K));with_reducible refine hK _ _ ?_;clear hK K))
    exact ⟨by rw [hr], by rw [hr]; exact h9, hx9.upd⟩
  rw [if_neg (fun h => h.elim s4 s5)] at hr
  have s5' := eq_false_of_ne_true s5
  (repeat first|(with_reducible first|(refine hK _ _ ?_;clear hK K)|refine ‹∀σ w,_→K σ w› _ _ ?_|(refine W_st ?_;constructor;try intro K hK))|((with_reducible first|refine hZ _ _ ?_|refine W_rg ?_|skip);repeat1' simp only[push_cast,seval,-Nat.reduceSubDiff,cell_h,cellO_cells,hp9,s5'])|((repeat((fail_if_success with_reducible refine hK _ _ ?_);clear hK K));with_reducible refine hK _ _ ?_;clear hK K))
  have lp9 := blk_lt hp9
  have hd : BuAt w0 w9 (fun q => Q q ∨ q = p) pb ps pl pa b := h.more hx9 fun q hq => by
    rcases hq with hq | hq
    · exact .inl hq
    · exact .inr ⟨by omega, by omega⟩
  refine (bstack_c hd).mono ?_
  intro v w' ⟨hv, hw⟩
  subst hv; subst w'
  (repeat first|(with_reducible first|(refine hK _ _ ?_;clear hK K)|refine ‹∀σ w,_→K σ w› _ _ ?_|(refine W_st ?_;constructor;try intro K hK))|((with_reducible first|refine hZ _ _ ?_|refine W_rg ?_|skip);repeat1' simp only[push_cast,seval,-Nat.reduceSubDiff])|((repeat((fail_if_success with_reducible refine hK _ _ ?_);clear hK K));with_reducible refine hK _ _ ?_;clear hK K))
  refine (bpop_c hd hok).mono ?_
  rintro v w10 ⟨rfl, h10, g10⟩
  have hp10 := (g10.same p lp9 (fun hf => hf.2 (.inr rfl))).trans hp9
  have lp10 := blk_lt hp10
  (repeat first|(with_reducible first|(refine hK _ _ ?_;clear hK K)|refine ‹∀σ w,_→K σ w› _ _ ?_|(refine W_st ?_;constructor;try intro K hK))|((with_reducible first|refine hZ _ _ ?_|refine W_rg ?_|skip);repeat1' simp only[push_cast,seval,-Nat.reduceSubDiff])|((repeat((fail_if_success with_reducible refine hK _ _ ?_);clear hK K));with_reducible refine hK _ _ ?_;clear hK K))
  refine (bset_c h10 5).mono ?_
  rintro v w11 ⟨h11', g11⟩
  have hp11 := (g11.same p lp10 (fun hf => hf.2 (.inr rfl))).trans hp10
  have h11 : BuAt w0 w11 Q pb ps pl pa (modeB (popS b) 5) := h11'.less fun q hq => .inl hq
  have hu10 : Upd (AF w0 Q) w9 w10 := g10.mono fun q _ hf => ⟨hf.1, fun hq => hf.2 (.inl hq)⟩
  have hu11 : Upd (AF w0 Q) w10 w11 := g11.mono fun q _ hf => ⟨hf.1, fun hq => hf.2 (.inl hq)⟩
  (repeat first|(with_reducible first|(refine hK _ _ ?_;clear hK K)|refine ‹∀σ w,_→K σ w› _ _ ?_|(refine W_st ?_;constructor;try intro K hK))|((with_reducible first|refine hZ _ _ ?_|refine W_rg ?_|skip);repeat1' simp only[push_cast,seval,-Nat.reduceSubDiff,cell_h,cellO_cells,hp11])|((repeat((fail_if_success with_reducible refine hK _ _ ?_);clear hK K));with_reducible refine hK _ _ ?_;clear hK K))
  refine bsl (l := lHead) rfl (by decide) (by decide) (by kernel_rfl) ?_
  rintro v w12 hy12 hn12 ⟨bn12, rfl⟩
  (repeat first|(with_reducible first|(refine hK _ _ ?_;clear hK K)|refine ‹∀σ w,_→K σ w› _ _ ?_|(refine W_st ?_;constructor;try intro K hK))|((with_reducible first|refine hZ _ _ ?_|refine W_rg ?_|skip);repeat1' simp only[push_cast,seval,-Nat.reduceSubDiff])|((repeat((fail_if_success with_reducible refine hK _ _ ?_);clear hK K));with_reducible refine hK _ _ ?_;clear hK K))
  rw [← hrow]
  refine (hend_c hn12 (by decide)).mono ?_
  rintro v w13 ⟨rfl, hy13⟩
  (repeat first|(with_reducible first|(refine hK _ _ ?_;clear hK K)|refine ‹∀σ w,_→K σ w› _ _ ?_|(refine W_st ?_;constructor;try intro K hK))|((with_reducible first|refine hZ _ _ ?_|refine W_rg ?_|skip);repeat1' simp only[push_cast,seval,-Nat.reduceSubDiff])|((repeat((fail_if_success with_reducible refine hK _ _ ?_);clear hK K));with_reducible refine hK _ _ ?_;clear hK K))
  exact ⟨by rw [hr], by rw [hr]; exact h11.pass (hy12.trans hy13), Upd.trans (Upd.trans (Upd.trans hx9.upd hu10 fun _ _ h => h) hu11 fun _ _ h => h) (hy12.trans hy13).upd fun _ _ h => h⟩
end
end Go.Proofs.YtgnnlaeikcnhcaaGreatDoor
end
