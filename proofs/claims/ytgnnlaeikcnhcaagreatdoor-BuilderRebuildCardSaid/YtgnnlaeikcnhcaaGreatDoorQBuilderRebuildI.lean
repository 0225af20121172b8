/- What the proof leans on, part 9 of 10. -/
import Derived.Test.YtgnnlaeikcnhcaaGreatDoorQBuilderRebuildH
section
set_option linter.unusedSimpArgs false
set_option linter.unusedVariables false
namespace Go.Vk
open Go
def rsNames : List ByteArray := [⟨#[100, 105, 118]⟩, ⟨#[112]⟩, ⟨#[116, 100]⟩, ⟨#[116, 104]⟩, ⟨#[116, 114]⟩, ⟨#[116, 98, 111, 100, 121]⟩, ⟨#[116, 104, 101, 97, 100]⟩, ⟨#[116, 102, 111, 111, 116]⟩, ⟨#[99, 97, 112, 116, 105, 111, 110]⟩, ⟨#[99, 111, 108, 103, 114, 111, 117, 112]⟩, ⟨#[116, 97, 98, 108, 101]⟩, ⟨#[104, 101, 97, 100]⟩, ⟨#[98, 111, 100, 121]⟩, ⟨#[115, 118, 103]⟩]
def rsName (k : Nat) : ByteArray := rsNames.getD k ⟨#[]⟩
def rsSp (k : Nat) : Int := if k = 13 then 1 else 0
def rsTok (k : Nat) : HTok := ⟨2, rsName k, ⟨#[]⟩, [], false, false, false, 0, 0⟩
def rsNd (k : Nat) : Nd := elTok (rsTok k) (rsSp k)
def rsHtml : Nd := bareN (elTok (tokI sHtml) 0)
structure Rsv (ks : List Nat) (b : BSt) : Prop where
  reg : Reg b (rsHtml :: ks.map fun k => bareN (rsNd k))
  s : b.s = (List.range (ks.length + 1)).map fun j => ⟨(j : Int) + 1, ((rsHtml :: ks.map fun k => bareN (rsNd k)).getD j zN).space, ((rsHtml :: ks.map fun k => bareN (rsNd k)).getD j zN).name⟩
  head : b.head = -1
  modes : b.modes = []
  at_ : Att b.L
  l : b.l = []
  doc : (gN b.L 0).name.size < 4294967281
theorem rs_nt (k : Nat) (hk : k < 14) : rsName k ≠ tmpl ∧ (rsName k).size < 20 := by
  have : ∀ k, k < 14 → rsName k ≠ tmpl ∧ (rsName k).size < 20 := by decide +kernel
  exact this k hk
theorem Rsv.ins {ks : List Nat} {b : BSt} (h : Rsv ks b) {k : Nat} (hk : k < 14) (hl : ks.length < 100) : Rsv (ks ++ [k]) (insertB b (rsNd k)).1 ∧ (insertB b (rsNd k)).2 = (ks.length : Int) + 2 := by
  have hlen := h.reg.len
  rw [List.length_cons, List.length_map] at hlen
  have hsl : b.s.length = ks.length + 1 := by rw [h.s]; simp
  obtain ⟨e, r, hG⟩ := h.reg.ins (n := rsNd k) (by omega) rfl (rs_nt k hk).1
  rw [e]
  refine ⟨⟨?_, ?_, h.head, h.modes, insR_att h.at_ (by exact (by decide : (0 : Nat) < 1000000)), h.l, ?_⟩, by dsimp only; omega⟩
  · have : (rsHtml :: List.map (fun k => bareN (rsNd k)) (ks ++ [k])) = (rsHtml :: List.map (fun k => bareN (rsNd k)) ks) ++ [bareN (rsNd k)] := by simp
    rw [this]; exact r
  · show b.s ++ [_] = _
    have e2 : (rsHtml :: List.map (fun k => bareN (rsNd k)) (ks ++ [k])) = (rsHtml :: List.map (fun k => bareN (rsNd k)) ks) ++ [bareN (rsNd k)] := by simp
    rw [e2, List.length_append, List.length_singleton, List.range_succ, List.map_append, h.s]
    congr 1
    · apply List.map_congr_left
      intro j hj
      rw [List.mem_range] at hj
      rw [List.getD_eq_getElem?_getD, List.getD_eq_getElem?_getD, List.getElem?_append_left (by simp; omega)]
    · have e3 : ((rsHtml :: List.map (fun k => bareN (rsNd k)) ks) ++ [bareN (rsNd k)]).getD (ks.length + 1) zN = bareN (rsNd k) := by
        rw [List.getD_eq_getElem?_getD, List.getElem?_append_right (by simp)]; simp
      rw [List.map_singleton, e3]
      have : (b.L.length : Int) = ((ks.length + 1 : Nat) : Int) + 1 := by omega
      rw [this]; rfl
  · have h0 := hG 0
    rw [if_neg (by omega)] at h0
    show (gN (insR b (rsNd k)).L 0).name.size < _
    rw [h0]
    split
    · exact h.doc
    · exact h.doc
end Go.Vk
end
section
set_option linter.unusedSimpArgs false
set_option linter.unusedVariables false
namespace Go.Vk
open Go Go.Proofs.YtgnnlaeikcnhcaaGreatDoor
theorem lastB_none {p : Nat → Bool} : ∀ {k : Nat}, (∀ j, j < k → p j = false) → lastB p k = -1
  | 0, _ => rfl
  | k + 1, h => by
    rw [lastB, h k (by omega), if_neg (by decide)]
    exact lastB_none fun j hj => h j (by omega)
theorem lastB_ge {p : Nat → Bool} : ∀ {k j : Nat}, j < k → p j = true → (j : Int) ≤ lastB p k
  | 0, j, h, _ => by omega
  | k + 1, j, h, hp => by
    rw [lastB]
    split
    · omega
    · rename_i hk
      have : j ≠ k := fun e => by subst e; exact hk hp
      exact lastB_ge (by omega) hp
theorem indexS_not {s : List OpS} {i : Int} (h : ∀ o ∈ s, o.node ≠ i) : indexS s i = -1 := by
  unfold indexS
  refine lastB_none fun j hj => ?_
  rw [List.getD_eq_getElem?_getD, List.getElem?_eq_getElem hj]
  exact decide_eq_false (h _ (List.getElem_mem hj))
theorem indexS_mem {s : List OpS} {o : OpS} (h : o ∈ s) : 0 ≤ indexS s o.node := by
  obtain ⟨j, hj, e⟩ := List.mem_iff_getElem.1 h
  have : (j : Int) ≤ indexS s o.node := by
    unfold indexS
    refine lastB_ge hj ?_
    rw [List.getD_eq_getElem?_getD, List.getElem?_eq_getElem hj]
    exact decide_eq_true (by rw [← e]; rfl)
  omega
theorem pushG_none {p : Int → Bool} {l : List Int} {fr : Int} (h : ∀ y ∈ l, p y = false) : ∀ k : Nat, k ≤ l.length → pushG p l fr k 0 0 = (0, 0)
  | 0, _ => rfl
  | k + 1, hk => by
    rw [pushG]
    split
    · rfl
    · have : p (l.getD k 0) = false := by
        rw [List.getD_eq_getElem?_getD, List.getElem?_eq_getElem (by omega)]
        exact h _ (List.getElem_mem (by omega))
      rw [this, if_neg (by decide)]
      exact pushG_none h k (by omega)
theorem pushN_new {L : List Nd} {l : List Int} {i : Int} (hk : (nodeN L i).kind = 3) (h : ∀ y ∈ l, likeP L i y = false) (hl : l.length < 64) : pushN L l i = (l ++ [i], 0) := by
  unfold pushN
  unfold nodeN at hk
  rw [if_pos hk, pushG_none h _ (Nat.le_refl _)]
  unfold dropN layN
  rw [if_neg (show ¬ 3 ≤ 0 by decide), if_neg (by omega), List.take_length, List.drop_length]
theorem layN_end {l : List Int} (h : l.length < 64) (i : Int) : layN l l.length i = (l ++ [i], 0) := by
  unfold layN
  rw [if_neg (by omega), List.take_length, List.drop_length]
/-- where the formatting elements that are lost begin -/
theorem lost_split {b : BSt} {A B : List Int} (hl : b.l = A ++ B) (hB : ∀ x ∈ B, x ≠ -1 ∧ ∀ o ∈ b.s, o.node ≠ x) (hA : A = [] ∨ ∃ x, A.getLast? = some x ∧ (x = -1 ∨ 0 ≤ indexS b.s x)) : lostN b b.l.length = A.length := by
  have hA' : lostN b A.length = A.length := by
    rcases hA with rfl | ⟨x, hx, hh⟩
    · rfl
    · rcases List.eq_nil_or_concat A with rfl | ⟨r, y, rfl⟩
      · rfl
      · rw [List.concat_eq_append] at hx hl ⊢
        rw [List.getLast?_concat] at hx
        cases hx
        rw [List.length_append, List.length_singleton, lostN]
        have e : b.l.getD r.length 0 = x := by rw [hl, List.getD_eq_getElem?_getD]; simp
        rw [if_pos (by rw [e]; exact hh)]
  have : ∀ k : Nat, k ≤ B.length → lostN b (A.length + k) = A.length := by
    intro k
    induction k with
    | zero => intro _; exact hA'
    | succ k ih =>
      intro hk
      rw [← Nat.add_assoc, lostN]
      have hm : B[k]? = some B[k] := List.getElem?_eq_getElem (by omega)
      have e : b.l.getD (A.length + k) 0 = B[k] := by
        rw [hl, List.getD_eq_getElem?_getD, List.getElem?_append_right (by omega), Nat.add_sub_cancel_left, hm]; rfl
      have hb := hB B[k] (List.getElem_mem (by omega))
      rw [if_neg, ih (by omega)]
      rw [e]
      rintro (h | h)
      · exact hb.1 h
      · rw [indexS_not hb.2] at h; exact absurd h (by decide)
  rw [hl, List.length_append]
  exact this B.length (Nat.le_refl _)
/-- a node's copy -/
def cpN (n : Nd) : Nd := bareN (elTok (againT n) 0)
def freshI (L n : Nat) : List Int := (List.range n).map fun j => ((L + j : Nat) : Int)
theorem freshI_succ (L n : Nat) : freshI L (n + 1) = (L : Int) :: freshI (L + 1) n := by
  unfold freshI
  rw [List.range_succ_eq_map, List.map_cons, List.map_map]
  congr 1
  apply List.map_congr_left
  intro j _
  show ((L + (j + 1) : Nat) : Int) = ((L + 1 + j : Nat) : Int)
  omega
/-- the elements of a list are opened anew -/
theorem reb_all : ∀ (B A : List Int) (b : BSt) (ns : List Nd) (cs : List Nd), Reg b ns → b.l = A ++ B → b.s.length + B.length ≤ 512 → Att b.L →
    (∀ (k : Nat) (x : Int), B[k]? = some x → ∃ (i : Nat) (n : Nd), ns[i]? = some n ∧ x = (i : Int) + 1 ∧ n.attrs.length < 1000000 ∧ cs[k]? = some (cpN n)) → cs.length = B.length →
    ∃ b', rebuildN B.length A.length b = b' ∧ Reg b' (ns ++ cs) ∧ b'.l = A ++ freshI b.L.length B.length ∧ (∃ r, b'.s = b.s ++ r ∧ r.map OpS.node = freshI b.L.length B.length) ∧ Att b'.L ∧ b'.err = b.err ∧ b'.foster = b.foster
  | [], A, b, ns, cs, hr, hl, _, ha, _, hc => by
    have : cs = [] := List.length_eq_zero_iff.1 hc
    subst this
    exact ⟨b, rfl, by rw [List.append_nil]; exact hr, hl, ⟨[], by simp, rfl⟩, ha, rfl, rfl⟩
  | x :: B, A, b, ns, cs, hr, hl, hs, ha, hx, hc => by
    rw [List.length_cons] at hs hc
    obtain ⟨i, n, h1, h2, h3, h4⟩ := hx 0 x rfl
    obtain ⟨c, cs, rfl⟩ : ∃ c r, cs = c :: r := by
      cases cs with
      | nil => simp at hc
      | cons c r => exact ⟨c, r, rfl⟩
    have hc0 : c = cpN n := by simpa using h4
    subst hc0
    have hi := (List.getElem?_eq_some_iff.1 h1).1
    have hlen := hr.len
    have hpl := hr.pl n (List.mem_of_getElem? h1)
    have hnd : nodeN b.L x = { n with parent := (gN b.L x).parent, kids := (gN b.L x).kids } := by
      rw [nodeN_gN (by omega), h2]; exact hr.nod i n h1
    have hget : b.l.getD A.length 0 = x := by rw [hl, List.getD_eq_getElem?_getD]; simp
    obtain ⟨e, r, _⟩ := hr.ins (n := elTok (againT n) 0) (by omega) rfl hpl.2
    have hstep : rebStep b A.length = (insR b (elTok (againT n) 0), (b.L.length : Int)) := by
      unfold rebStep
      rw [hget, hnd]
      exact e
    rw [List.length_cons, rebuildN, hstep]
    dsimp only
    rw [if_neg (by omega)]
    have hlI : (insR b (elTok (againT n) 0)).l = A ++ x :: B := hl
    have hLI : (insR b (elTok (againT n) 0)).L.length = b.L.length + 1 := by
      have := r.len
      rw [List.length_append, List.length_singleton] at this
      omega
    have hrepl : replN (insR b (elTok (againT n) 0)).L (insR b (elTok (againT n) 0)).l (A.length : Int) (b.L.length : Int) = (A ++ (b.L.length : Int) :: B, 0) := by
      have hk : (nodeN (insR b (elTok (againT n) 0)).L b.L.length).kind = 3 := by
        rw [nodeN_gN ⟨by omega, by omega⟩]
        have := r.nod ns.length (cpN n) (by simp [cpN])
        have e2 : ((ns.length : Int) + 1) = (b.L.length : Int) := by omega
        rw [e2] at this
        rw [this]; rfl
      unfold replN
      unfold nodeN at hk
      rw [if_pos hk, hlI, if_pos ⟨by omega, by simp; omega⟩, Int.toNat_natCast]
      simp
    rw [hrepl]
    have hr2 : Reg { insR b (elTok (againT n) 0) with l := A ++ (b.L.length : Int) :: B } (ns ++ [cpN n]) := ⟨r.gd, r.len, r.nod, r.pl, r.stk, r.fo⟩
    obtain ⟨b', g1, g2, g3, ⟨q, g4, g4'⟩, g5, g6, g7⟩ := reb_all B (A ++ [(b.L.length : Int)]) _ _ cs hr2 (by simp) (by show (b.s ++ [_]).length + _ ≤ _; simp; omega) (insR_att ha h3) (fun k y hy => by
      obtain ⟨i', n', k1, k2, k3, k4⟩ := hx (k + 1) y (by simpa using hy)
      exact ⟨i', n', by rw [List.getElem?_append_left (List.getElem?_eq_some_iff.1 k1).1]; exact k1, k2, k3, by simpa using k4⟩) (by rw [List.length_cons] at hc; omega)
    refine ⟨b', ?_, ?_, ?_, ?_, g5, g6, g7⟩
    · rw [List.length_append, List.length_singleton] at g1
      exact g1
    · simpa using g2
    · rw [g3, freshI_succ]
      dsimp only
      rw [hLI]; simp
    · refine ⟨⟨(b.L.length : Int), (elTok (againT n) 0).space, (elTok (againT n) 0).name⟩ :: q, ?_, ?_⟩
      · rw [g4]
        show (b.s ++ [_]) ++ q = _
        simp
      · rw [List.map_cons, g4', freshI_succ]
        dsimp only
        rw [hLI]
end Go.Vk
end
section
set_option linter.unusedSimpArgs false
set_option linter.unusedVariables false
namespace Go.Vk
open Go Go.Proofs.YtgnnlaeikcnhcaaGreatDoor
def rbNames : List ByteArray := [⟨#[98]⟩, ⟨#[105]⟩, ⟨#[117]⟩, ⟨#[101, 109]⟩, ⟨#[116, 116]⟩, ⟨#[115]⟩, ⟨#[98, 105, 103]⟩, ⟨#[99, 111, 100, 101]⟩]
def rbAt (i : Nat) : List (ByteArray × ByteArray) := [(⟨#[110]⟩, ⟨#[UInt8.ofNat (97 + i)]⟩)]
def rbTok (x i : Nat) : HTok := ⟨2, rbNames.getD (x % 8) ⟨#[]⟩, ⟨#[]⟩, rbAt i, false, false, false, i, i⟩
def rbNd (x i : Nat) : Nd := bareN (elTok (rbTok x i) 0)
/-- the elements of the statement -/
def rbNs (xs : List Nat) : List Nd := rsHtml :: xs.mapIdx fun i x => rbNd x i
/-- the formatting list: places by numbers, a marker ahead of one of them -/
def rbL (mk : Nat) : Nat → List Int
  | 0 => []
  | i + 1 => rbL mk i ++ (if i = mk then [-1, (i : Int) + 2] else [(i : Int) + 2])
theorem rbL_mem {mk : Nat} : ∀ {n : Nat} {y : Int}, y ∈ rbL mk n → y = -1 ∨ ∃ j : Nat, j < n ∧ y = (j : Int) + 2
  | 0, y, h => by simp [rbL] at h
  | n + 1, y, h => by
    rw [rbL, List.mem_append] at h
    rcases h with h | h
    · rcases rbL_mem h with e | ⟨j, hj, e⟩
      · exact .inl e
      · exact .inr ⟨j, by omega, e⟩
    · split at h
      · simp at h
        rcases h with h | h
        · exact .inl h
        · exact .inr ⟨n, by omega, h⟩
      · simp at h
        exact .inr ⟨n, by omega, h⟩
theorem rbL_len (mk : Nat) : ∀ n : Nat, (rbL mk n).length = n + if mk < n then 1 else 0
  | 0 => rfl
  | n + 1 => by
    rw [rbL, List.length_append, rbL_len mk n]
    by_cases e : n = mk
    · subst e
      rw [if_pos rfl, if_neg (Nat.lt_irrefl _), if_pos (Nat.lt_succ_self _)]; rfl
    · rw [if_neg e]
      by_cases h : mk < n
      · rw [if_pos h, if_pos (by omega), List.length_singleton]
      · rw [if_neg h, if_neg (by omega), List.length_singleton]
structure Rbs (xs : List Nat) (mk : Nat) (b : BSt) : Prop where
  reg : Reg b (rbNs xs)
  s : b.s.map OpS.node = (List.range (xs.length + 1)).map fun j => ((j + 1 : Nat) : Int)
  l : b.l = rbL mk xs.length
  at_ : Att b.L
  err : b.err = none
theorem rbNs_snoc (xs : List Nat) (x : Nat) : rbNs (xs ++ [x]) = rbNs xs ++ [rbNd x xs.length] := by
  unfold rbNs
  rw [List.mapIdx_append]
  simp
theorem rbNs_len (xs : List Nat) : (rbNs xs).length = xs.length + 1 := by simp [rbNs]
theorem rb_nt (x : Nat) : rbNames.getD (x % 8) ⟨#[]⟩ ≠ tmpl := by
  have : ∀ k, k < 8 → rbNames.getD k ⟨#[]⟩ ≠ tmpl := by decide +kernel
  exact this _ (Nat.mod_lt _ (by decide))
theorem Rbs.ins {xs : List Nat} {mk : Nat} {b : BSt} (h : Rbs xs mk b) (x : Nat) (hx : xs.length < 20) :
    insertB { b with l := if xs.length = mk then b.l ++ [-1] else b.l } (elTok (rbTok x xs.length) 0) = (insR { b with l := if xs.length = mk then b.l ++ [-1] else b.l } (elTok (rbTok x xs.length) 0), (xs.length : Int) + 2) ∧
    pushN (insR { b with l := if xs.length = mk then b.l ++ [-1] else b.l } (elTok (rbTok x xs.length) 0)).L (if xs.length = mk then b.l ++ [-1] else b.l) ((xs.length : Int) + 2) = (rbL mk (xs.length + 1), 0) ∧
    Rbs (xs ++ [x]) mk { insR { b with l := if xs.length = mk then b.l ++ [-1] else b.l } (elTok (rbTok x xs.length) 0) with l := rbL mk (xs.length + 1) } := by
  generalize hb1 : ({ b with l := if xs.length = mk then b.l ++ [-1] else b.l } : BSt) = b1
  have hr1 : Reg b1 (rbNs xs) := by subst hb1; exact ⟨h.reg.gd, h.reg.len, h.reg.nod, h.reg.pl, h.reg.stk, h.reg.fo⟩
  have hs1 : b1.s = b.s := by subst hb1; rfl
  have hL1 : b1.L = b.L := by subst hb1; rfl
  have he1 : b1.err = none := by subst hb1; exact h.err
  have hsl : b.s.length = xs.length + 1 := by
    have := congrArg List.length h.s
    simpa using this
  have hlen := hr1.len
  rw [rbNs_len] at hlen
  obtain ⟨e, r, _⟩ := hr1.ins (n := elTok (rbTok x xs.length) 0) (by rw [hs1, hsl]; omega) rfl (rb_nt x)
  have ei : (b1.L.length : Int) = (xs.length : Int) + 2 := by omega
  rw [ei] at e
  have hLi : (insR b1 (elTok (rbTok x xs.length) 0)).L.length = xs.length + 3 := by
    have := r.len
    rw [List.length_append, rbNs_len] at this
    simpa using this
  have r' : Reg (insR b1 (elTok (rbTok x xs.length) 0)) (rbNs (xs ++ [x])) := by rw [rbNs_snoc]; exact r
  have hnode : ∀ j : Nat, j < xs.length + 1 → ∃ y, (nodeN (insR b1 (elTok (rbTok x xs.length) 0)).L ((j : Int) + 2)).kind = 3 ∧ (nodeN (insR b1 (elTok (rbTok x xs.length) 0)).L ((j : Int) + 2)).attrs = rbAt j ∧ (xs ++ [x])[j]? = some y := fun j hj => by
    obtain ⟨y, hy⟩ : ∃ y, (xs ++ [x])[j]? = some y := ⟨_, List.getElem?_eq_getElem (by simp; omega)⟩
    have hn : (rbNs (xs ++ [x]))[j + 1]? = some (rbNd y j) := by
      unfold rbNs
      rw [List.getElem?_cons_succ, List.getElem?_mapIdx, hy]; rfl
    have := r'.nod (j + 1) _ hn
    have e2 : (((j + 1 : Nat) : Int) + 1) = (j : Int) + 2 := by omega
    rw [e2] at this
    refine ⟨_, ?_, ?_, hy⟩
    · rw [nodeN_gN ⟨by omega, by omega⟩, this]; rfl
    · rw [nodeN_gN ⟨by omega, by omega⟩, this]; rfl
  have hl1 : (if xs.length = mk then b.l ++ [-1] else b.l) ++ [(xs.length : Int) + 2] = rbL mk (xs.length + 1) := by
    rw [rbL, ← h.l]
    split
    · simp
    · rfl
  have hpush : pushN (insR b1 (elTok (rbTok x xs.length) 0)).L (if xs.length = mk then b.l ++ [-1] else b.l) ((xs.length : Int) + 2) = (rbL mk (xs.length + 1), 0) := by
    obtain ⟨_, hk, hat, _⟩ := hnode xs.length (by omega)
    rw [← hl1]
    refine pushN_new hk (fun y hy => ?_) ?_
    · have hy' : y = -1 ∨ ∃ j : Nat, j < xs.length ∧ y = (j : Int) + 2 := by
        split at hy
        · rw [List.mem_append] at hy
          rcases hy with hy | hy
          · exact rbL_mem (h.l ▸ hy)
          · exact .inl (by simpa using hy)
        · exact rbL_mem (h.l ▸ hy)
      unfold likeP likeN
      rcases hy' with rfl | ⟨j, hj, rfl⟩
      · have : ((nd? (insR b1 (elTok (rbTok x xs.length) 0)).L (-1)).getD zN).kind = 0 := by
          unfold nd?; rfl
        rw [this]
        simp
      · obtain ⟨_, _, hat2, _⟩ := hnode j (by omega)
        unfold nodeN at hat hat2
        rw [hat, hat2]
        have : (List.all (rbAt xs.length) fun x => (rbAt j).any (hasA x)) = false := by
          have key : ∀ a, a < 20 → ∀ c, c < 20 → a ≠ c → (List.all (rbAt a) fun x => (rbAt c).any (hasA x)) = false := by decide +kernel
          exact key _ hx _ (by omega) (by omega)
        rw [this, Bool.and_false]
    · have := rbL_len mk xs.length
      rw [← h.l] at this
      split
      · rw [List.length_append, List.length_singleton]; split at this <;> omega
      · split at this <;> omega
  refine ⟨e, hpush, ⟨⟨r'.gd, r'.len, r'.nod, r'.pl, r'.stk, r'.fo⟩, ?_, ?_, ?_, he1⟩⟩
  · show List.map OpS.node (b1.s ++ [_]) = _
    rw [List.map_append, hs1, h.s, List.length_append, List.length_singleton, List.range_succ (n := xs.length + 1), List.map_append]
    congr 1
    rw [List.map_singleton, List.map_singleton]
    have : (b1.L.length : Int) = ((xs.length + 1 + 1 : Nat) : Int) := by omega
    exact congrArg (fun q => [q]) this
  · rw [List.length_append, List.length_singleton]
  · exact insR_att (by rw [hL1]; exact h.at_) (show (1 : Nat) < 1000000 by decide)
end Go.Vk
end
section
set_option linter.unusedSimpArgs false
set_option linter.unusedVariables false
namespace Go.Vk
open Go Go.Proofs.YtgnnlaeikcnhcaaGreatDoor
theorem rbL_split (mk : Nat) : ∀ (c m : Nat), (mk ≤ m ∨ m + c ≤ mk) → rbL mk (m + c) = (if mk = m ∧ 0 < c then rbL mk m ++ [-1] else rbL mk m) ++ (List.range c).map fun j => ((m + j + 2 : Nat) : Int)
  | 0, m, _ => by rw [if_neg (fun h => absurd h.2 (Nat.lt_irrefl _))]; simp
  | c + 1, m, h => by
    rw [← Nat.add_assoc, rbL, rbL_split mk c m (by omega), List.range_succ, List.map_append, List.map_singleton]
    have e1 : ((m + c : Nat) : Int) + 2 = ((m + c + 2 : Nat) : Int) := by omega
    rw [e1]
    by_cases hc : c = 0
    · subst hc
      by_cases hm : mk = m
      · subst hm
        rw [if_neg (fun h => absurd h.2 (Nat.lt_irrefl _)), if_pos (Nat.add_zero _), if_pos ⟨rfl, by omega⟩]
        simp
      · rw [if_neg (fun h => hm h.1), if_neg (by omega), if_neg (fun h => hm h.1)]
        simp
    · have hne : ¬ m + c = mk := by omega
      rw [if_neg hne]
      by_cases hm : mk = m
      · rw [if_pos ⟨hm, by omega⟩, if_pos ⟨hm, by omega⟩, List.append_assoc]
      · rw [if_neg (fun h => hm h.1), if_neg (fun h => hm h.1), List.append_assoc]
theorem rbL_last (mk m : Nat) : (rbL mk (m + 1)).getLast? = some ((m : Int) + 2) := by
  rw [rbL]
  split
  · rw [show ([-1, (m : Int) + 2] : List Int) = [-1] ++ [(m : Int) + 2] from rfl, ← List.append_assoc, List.getLast?_concat]
  · rw [List.getLast?_concat]
def wantR (n p mk : Nat) : Nat := if mk < n ∧ n - mk < p then n - mk else p
theorem idx_of_nodes {s : List OpS} {i : Int} (h : i ∈ s.map OpS.node) : 0 ≤ indexS s i := by
  obtain ⟨o, ho, rfl⟩ := List.mem_map.1 h
  exact indexS_mem ho
theorem Rbs.reb {xs : List Nat} {mk : Nat} {b : BSt} (h : Rbs xs mk b) (hn : xs.length ≤ 20) {p : Nat} (hp : p ≤ xs.length) :
    ∃ b2, rebuildB { b with s := b.s.take (xs.length + 1 - p) } = b2 ∧ rebuildB b2 = b2 ∧ okB b2 ∧ b2.err = none ∧ b2.L.length = xs.length + 2 + wantR xs.length p mk ∧ b2.l.length = b.l.length ∧
      ∀ i : Nat, i < wantR xs.length p mk → (nodeN b2.L ((xs.length + 2 + i : Nat) : Int)).frm = ((xs.length - wantR xs.length p mk + i : Nat) : Int) ∧
        (nodeN b2.L ((xs.length + 2 + i : Nat) : Int)).name = rbNames.getD (xs.getD (xs.length - wantR xs.length p mk + i) 0 % 8) ⟨#[]⟩ ∧ 0 ≤ indexS b2.s ((xs.length + 2 + i : Nat) : Int) := by
  generalize hc : wantR xs.length p mk = c
  generalize hnn : xs.length = n at *
  have hcp : c ≤ p ∧ (mk ≤ n - c ∨ n ≤ mk) ∧ (c = p ∨ (n - c = mk ∧ 0 < c)) := by
    unfold wantR at hc
    split at hc <;> omega
  obtain ⟨hc1, hc2, hc3⟩ := hcp
  have hlen := h.reg.len
  rw [rbNs_len, hnn] at hlen
  have hsl : b.s.length = n + 1 := by
    have := congrArg List.length h.s
    simpa [hnn] using this
  have hl := h.l
  rw [hnn] at hl
  have hsp := rbL_split mk c (n - c) (by omega)
  have e0 : n - c + c = n := by omega
  rw [e0] at hsp
  generalize hA : (if mk = n - c ∧ 0 < c then rbL mk (n - c) ++ [-1] else rbL mk (n - c)) = A at hsp
  generalize hB : (List.range c).map (fun j => ((n - c + j + 2 : Nat) : Int)) = B at hsp
  have hBl : B.length = c := by rw [← hB]; simp
  generalize hb1 : ({ b with s := b.s.take (n + 1 - p) } : BSt) = b1
  have hs1 : b1.s.map OpS.node = (List.range (n + 1 - p)).map fun j => ((j + 1 : Nat) : Int) := by
    subst hb1
    show List.map OpS.node (b.s.take (n + 1 - p)) = _
    rw [List.map_take, h.s, hnn, ← List.map_take, List.take_range]
    congr 2
    omega
  have hL1 : b1.L = b.L := by subst hb1; rfl
  have hl1 : b1.l = A ++ B := by subst hb1; exact hl.trans hsp
  have he1 : b1.err = none := by subst hb1; exact h.err
  have hs1l : b1.s.length = n + 1 - p := by
    have := congrArg List.length hs1
    simpa using this
  have hr1 : Reg b1 (rbNs xs) := by
    subst hb1
    exact ⟨h.reg.gd, h.reg.len, h.reg.nod, h.reg.pl, fun o ho => h.reg.stk o (List.mem_of_mem_take ho), h.reg.fo⟩
  have hin : ∀ j : Nat, j < n + 1 - p → 0 ≤ indexS b1.s ((j + 1 : Nat) : Int) := fun j hj => idx_of_nodes (by
    rw [hs1, List.mem_map]; exact ⟨j, List.mem_range.2 hj, rfl⟩)
  have hBn : ∀ x ∈ B, x ≠ -1 ∧ ∀ o ∈ b1.s, o.node ≠ x := fun x hx => by
    rw [← hB, List.mem_map] at hx
    obtain ⟨j, hj, rfl⟩ := hx
    rw [List.mem_range] at hj
    refine ⟨by omega, fun o ho e => ?_⟩
    have : o.node ∈ b1.s.map OpS.node := List.mem_map_of_mem ho
    rw [hs1, List.mem_map] at this
    obtain ⟨q, hq, e2⟩ := this
    rw [List.mem_range] at hq
    rw [e] at e2
    omega
  have hlost : lostN b1 b1.l.length = A.length := by
    refine lost_split hl1 hBn ?_
    rw [← hA]
    split
    · exact .inr ⟨-1, by rw [List.getLast?_concat], .inl rfl⟩
    · rename_i hne
      have hcp : c = p := by
        rcases hc3 with h | h
        · exact h
        · exact absurd ⟨h.1.symm, h.2⟩ hne
      by_cases hm : n - c = 0
      · left; rw [hm]; rfl
      · right
        obtain ⟨m, hm⟩ : ∃ m, n - c = m + 1 := ⟨n - c - 1, by omega⟩
        refine ⟨(m : Int) + 2, by rw [hm]; exact rbL_last mk m, .inr ?_⟩
        have := hin (m + 1) (by omega)
        have e : (((m + 1 + 1 : Nat)) : Int) = (m : Int) + 2 := by omega
        rwa [e] at this
  have hxs : ∀ k : Nat, k < n → (rbNs xs)[k + 1]? = some (rbNd (xs.getD k 0) k) := fun k hk => by
    unfold rbNs
    have : xs[k]? = some xs[k] := List.getElem?_eq_getElem (by omega)
    rw [List.getElem?_cons_succ, List.getElem?_mapIdx, List.getD_eq_getElem?_getD, this]; rfl
  obtain ⟨b2, g1, g2, g3, ⟨r, g4, g4'⟩, g5, g6, g7⟩ := reb_all B A b1 (rbNs xs) ((List.range c).map fun j => cpN (rbNd (xs.getD (n - c + j) 0) (n - c + j))) hr1 hl1 (by omega) (by rw [hL1]; exact h.at_) (fun k x hx => by
    have hk : k < c := by have := (List.getElem?_eq_some_iff.1 hx).1; omega
    rw [← hB, List.getElem?_map, List.getElem?_range hk] at hx
    simp only [Option.map_some, Option.some.injEq] at hx
    subst hx
    refine ⟨n - c + k + 1, _, hxs (n - c + k) (by omega), by omega, (by decide : (1 : Nat) < 1000000), ?_⟩
    rw [List.getElem?_map, List.getElem?_range hk]; rfl) (by simp [hBl])
  have hreb : rebuildB b1 = b2 := by
    unfold rebuildB
    rw [hlost]
    have : b1.l.length - A.length = B.length := by rw [hl1]; simp
    rw [this]
    exact g1
  have hL2 : b2.L.length = n + 2 + c := by
    have := g2.len
    rw [List.length_append, rbNs_len, hnn, List.length_map, List.length_range] at this
    omega
  have hfr : b1.L.length = n + 2 := by rw [hL1]; omega
  rw [hfr, hBl] at g3 g4'
  have hs2 : b2.s.map OpS.node = (List.range (n + 1 - p)).map (fun j => ((j + 1 : Nat) : Int)) ++ freshI (n + 2) c := by rw [g4, List.map_append, hs1, g4']
  have hs2l : b2.s.length = n + 1 - p + c := by
    have := congrArg List.length hs2
    simpa [freshI] using this
  have hl2l : b2.l.length = b.l.length := by rw [g3, hl, hsp, List.length_append, List.length_append, hBl]; simp [freshI]
  have hidx : ∀ i : Nat, i < c → 0 ≤ indexS b2.s ((n + 2 + i : Nat) : Int) := fun i hi => idx_of_nodes (by
    rw [hs2, List.mem_append]
    right
    unfold freshI
    exact List.mem_map.2 ⟨i, List.mem_range.2 hi, rfl⟩)
  have hbl : b.l.length ≤ 21 := by
    rw [hl, rbL_len]; split <;> omega
  refine ⟨b2, hreb, ?_, ⟨by omega, g5, by omega, by omega⟩, g6.trans he1, hL2, hl2l, fun i hi => ?_⟩
  · have hl0 : lostN b2 b2.l.length = b2.l.length := by
      refine (lost_split (A := b2.l) (B := []) (List.append_nil _).symm (fun x hx => by simp at hx) ?_)
      by_cases hc0 : c = 0
      · have hp0 : p = 0 := by omega
        subst hc0; subst hp0
        rw [g3]
        simp only [freshI, List.range_zero, List.map_nil, List.append_nil]
        rw [← hA, if_neg (fun h => absurd h.2 (Nat.lt_irrefl _))]
        by_cases hn0 : n = 0
        · left; rw [hn0]; rfl
        · right
          obtain ⟨m, hm⟩ : ∃ m, n - 0 = m + 1 := ⟨n - 1, by omega⟩
          refine ⟨(m : Int) + 2, by rw [hm]; exact rbL_last mk m, .inr (idx_of_nodes ?_)⟩
          rw [hs2, List.mem_append]
          left
          exact List.mem_map.2 ⟨m + 1, List.mem_range.2 (by omega), by omega⟩
      · right
        obtain ⟨m, hm⟩ : ∃ m, c = m + 1 := ⟨c - 1, by omega⟩
        refine ⟨((n + 2 + m : Nat) : Int), ?_, .inr (hidx m (by omega))⟩
        rw [g3, hm]
        unfold freshI
        rw [List.range_succ, List.map_append, List.map_singleton, ← List.append_assoc, List.getLast?_concat]
    unfold rebuildB
    rw [hl0, Nat.sub_self]
    rfl
  · have hn2 := g2.nod (n + 1 + i) (cpN (rbNd (xs.getD (n - c + i) 0) (n - c + i))) (by
      rw [List.getElem?_append_right (by rw [rbNs_len]; omega), rbNs_len, hnn, Nat.add_sub_cancel_left, List.getElem?_map, List.getElem?_range hi]; rfl)
    have e2 : (((n + 1 + i : Nat) : Int) + 1) = ((n + 2 + i : Nat) : Int) := by omega
    rw [e2] at hn2
    rw [nodeN_gN ⟨by omega, by omega⟩, hn2]
    exact ⟨rfl, rfl, hidx i hi⟩
theorem Rbs.ok {xs : List Nat} {mk : Nat} {b : BSt} (h : Rbs xs mk b) (hn : xs.length ≤ 20) : okB b ∧ b.L.length = xs.length + 2 ∧ b.s.length = xs.length + 1 ∧ b.l.length ≤ 21 := by
  have hlen := h.reg.len
  rw [rbNs_len] at hlen
  have hsl : b.s.length = xs.length + 1 := by
    have := congrArg List.length h.s
    simpa using this
  have hbl : b.l.length ≤ 21 := by
    rw [h.l, rbL_len]; split <;> omega
  exact ⟨⟨by omega, h.at_, by omega, by omega⟩, hlen, hsl, hbl⟩
theorem rbs0 (mk : Nat) : Rbs [] mk (implyB newB sHtml).1 := by
  obtain ⟨e, r, _⟩ := reg_new.ins (n := elTok (tokI sHtml) 0) (by decide) rfl (by decide +kernel)
  have e' : implyB newB sHtml = (insR newB (elTok (tokI sHtml) 0), (newB.L.length : Int)) := e
  rw [e']
  exact ⟨r, rfl, rfl, insR_att att_new (by decide), rfl⟩
end Go.Vk
end
section
set_option linter.unusedSimpArgs false
set_option linter.unusedVariables false
namespace Go.Proofs.YtgnnlaeikcnhcaaGreatDoor
open Go Go.Vk
def sBody : ByteArray := ⟨#[98, 111, 100, 121]⟩
def gb1 : BSt := (implyB newB sHtml).1
def gb2 : BSt := (implyB gb1 sBody).1
def gb3 : BSt := (implyB gb2 sTable).1
def gb4 : BSt := { gb3 with foster := true }
def gc3 : BSt := (implyB gb2 ⟨#[98]⟩).1
def gc4 : BSt := { gc3 with l := (pushN gc3.L gc3.l 3).1 }
def gc5 : BSt := { gc4 with s := gc4.s.dropLast }
def gc6 : BSt := rebuildB gc5
def gd2 : BSt := (implyB gb1 ⟨#[116, 100]⟩).1
def gd3 : BSt := resetB gd2
def gd4 : BSt := (implyB gd3 ⟨#[116, 114]⟩).1
def gd5 : BSt := resetB gd4
def okb (b : BSt) : Bool := decide (b.L.length < 80000) && (b.L.all fun n => decide (n.attrs.length < 1000000) && decide (n.name.size < 4294967281)) && decide (b.s.length < 10000) && decide (b.l.length < 1000) && decide (b.modes.length < 100000)
theorem okb_ok {b : BSt} (h : okb b = true) : okB b ∧ b.L.length + 2 < 90000 ∧ b.L.length + 2 * b.l.length + 2 < 90000 ∧ (∀ n ∈ b.L, n.name.size < 4294967281) ∧ b.modes.length < 100000 := by
  simp only [okb, Bool.and_eq_true, decide_eq_true_eq, List.all_eq_true] at h
  obtain ⟨⟨⟨⟨h1, h2⟩, h3⟩, h4⟩, h5⟩ := h
  exact ⟨⟨by omega, fun n hn => (h2 n hn).1, h3, by omega⟩, by omega, by omega, fun n hn => (h2 n hn).2, h5⟩
theorem okg0 : okb newB = true := by kernel_rfl
theorem okg1 : okb gb1 = true := by kernel_rfl
theorem okg2 : okb gb2 = true := by kernel_rfl
theorem okg4 : okb gb4 = true := by kernel_rfl
theorem okc3 : okb gc3 = true := by kernel_rfl
theorem okc4 : okb gc4 = true := by kernel_rfl
theorem okc5 : okb gc5 = true := by kernel_rfl
theorem okd2 : okb gd2 = true := by kernel_rfl
theorem okd3 : okb gd3 = true := by kernel_rfl
theorem okd4 : okb gd4 = true := by kernel_rfl
theorem g_1 : (implyB newB ⟨#[104, 116, 109, 108]⟩).2 = 1 := by kernel_rfl
theorem g_2 : (implyB gb1 ⟨#[98, 111, 100, 121]⟩).2 = 2 := by kernel_rfl
theorem g_3 : (implyB gb2 ⟨#[116, 97, 98, 108, 101]⟩).2 = 3 := by kernel_rfl
theorem g_4 : placeB gb4 3 = (2, 3) := by kernel_rfl
theorem g_5 : (implyB gb2 ⟨#[98]⟩).2 = 3 := by kernel_rfl
theorem g_6 : (pushN gc3.L gc3.l 3).2 = 0 := by kernel_rfl
theorem g_7 : topS gc4.s = 3 := by kernel_rfl
theorem g_8 : (if (0 : Int) ≤ 0 ∧ (0 : Int) < gc6.l.length then gc6.l.getD (0 : Int).toNat 0 else -1) = 4 := by kernel_rfl
theorem g_9 : decide (((0 : Int) ≤ 0 ∧ (0 : Int) < gc6.l.length) ∧ gc6.l.getD (0 : Int).toNat 0 = -1) = false := by kernel_rfl
theorem g_10 : gd3.mode = 14 := by kernel_rfl
theorem g_11 : gd5.mode = 13 := by kernel_rfl
theorem g_12 : gd5.err = none := by kernel_rfl
set_option maxHeartbeats 40000000
section
variable {w0 w : World} {Q : Nat → Prop} {pb ps pl pa : Nat} {b : BSt}
theorem bfpush_c (h : BuAt w0 w Q pb ps pl pa b) (hb : okB b) (i : Int) : Gives Tryz.prog 22 #[.pointer (some ⟨pl, 0, none⟩), .int .i64 i] w fun v w' => v = .int .i64 (pushN b.L b.l i).2 ∧ BuAt w0 w' Q pb ps pl pa { b with l := (pushN b.L b.l i).1 } ∧ Upd (AF w0 Q) w w' := by
  obtain ⟨P, hF, hback⟩ := h.fmt
  have := hb.L
  refine (push_c hF (by omega) hb.at_ hb.l i).mono ?_
  rintro v w' ⟨rfl, g1, g2⟩
  exact ⟨rfl, hback _ _ _ g1 g2⟩
theorem bfmark_c (h : BuAt w0 w Q pb ps pl pa b) (hb : okB b) : Gives Tryz.prog 20 #[.pointer (some ⟨pl, 0, none⟩)] w fun v w' => v = .int .i64 (layN b.l b.l.length (-1)).2 ∧ BuAt w0 w' Q pb ps pl pa { b with l := (layN b.l b.l.length (-1)).1 } ∧ Upd (AF w0 Q) w w' := by
  obtain ⟨P, hF, hback⟩ := h.fmt
  refine (mark_c hF hb.l).mono ?_
  rintro v w' ⟨rfl, g1, g2⟩
  exact ⟨rfl, hback _ _ _ g1 g2⟩
end
theorem nP {w : World} : ∀ q, noP q → q < w.heap.size := fun _ h => h.elim
set_option maxHeartbeats 1000000 in
theorem grows_c {w : World} (hg : GB w) : Gives Tryz.prog 16 #[] w fun v w' => v = .bool true ∧ Ext w w' := by
  obtain ⟨k0, j0, _⟩ := okb_ok okg0
  obtain ⟨k1, j1, _⟩ := okb_ok okg1
  obtain ⟨k2, j2, _⟩ := okb_ok okg2
  obtain ⟨k4, _⟩ := okb_ok okg4
  obtain ⟨c3, _⟩ := okb_ok okc3
  obtain ⟨c4, _⟩ := okb_ok okc4
  obtain ⟨c5, _, c5j, _⟩ := okb_ok okc5
  obtain ⟨d2, _, _, d2n, d2m⟩ := okb_ok okd2
  obtain ⟨d3, d3j, _, d3n, d3m⟩ := okb_ok okd3
  obtain ⟨d4, d4j, _, d4n, d4m⟩ := okb_ok okd4
  refine Gives.of_W Tryz.call16 Tryz.func16 rfl Tryz.ntmps16 (by simp) ?_; intro Z hZ
  (repeat (first | (with_reducible first | (refine hK _ _ ?_; clear hK K) | refine (show ∀ σ' w', _ → K σ' w' from by assumption) _ _ ?_ | refine W_seq_k fun K hK => ?_ | refine W_block_k fun K hK => ?_ | refine W_skip ?_ | refine W_ret ?_) | ((first | ((with_reducible refine W_id ?_); refine W_reg (by decide) (by rfl) ?_) | (with_reducible first | refine W_cond ?_ | refine hZ _ _ ?_ | refine W_exit ?_ | refine Wo_id ?_)); repeat1' simp only [push_cast, Nat.reduceBEq, Nat.reduceLT, Nat.reduceEqDiff, reduceIte, reduceCtorEq, Nat.reduceMul, Nat.reduceAdd, Nat.reduceSub, Int.reduceEq, Int.reduceLT, Int.reduceLE, Int.reduceNeg, Int.reduceAdd, Int.reduceSub, Int.reduceMul, Nat.reduceLeDiff, Int.reduceToNat]) | ((repeat ((fail_if_success with_reducible refine hK _ _ ?_); clear hK K)); (with_reducible refine hK _ _ ?_); clear hK K)))
  refine bnew_c.mono ?_
  rintro v w1 ⟨pb, ps, pl, pa, rfl, h0⟩
  ((repeat simp only [push_cast, Nat.reduceBEq, Nat.reduceLT, Nat.reduceEqDiff, reduceIte, reduceCtorEq, Nat.reduceMul, Nat.reduceAdd, Nat.reduceSub, Int.reduceEq, Int.reduceLT, Int.reduceLE, Int.reduceNeg, Int.reduceAdd, Int.reduceSub, Int.reduceMul, Nat.reduceLeDiff, Int.reduceToNat]); (repeat (first | (with_reducible first | (refine hK _ _ ?_; clear hK K) | refine (show ∀ σ' w', _ → K σ' w' from by assumption) _ _ ?_ | refine W_seq_k fun K hK => ?_ | refine W_block_k fun K hK => ?_ | refine W_skip ?_ | refine W_ret ?_) | ((first | ((with_reducible refine W_id ?_); refine W_reg (by decide) (by rfl) ?_) | (with_reducible first | refine W_cond ?_ | refine hZ _ _ ?_ | refine W_exit ?_ | refine Wo_id ?_)); repeat1' simp only [push_cast, Nat.reduceBEq, Nat.reduceLT, Nat.reduceEqDiff, reduceIte, reduceCtorEq, Nat.reduceMul, Nat.reduceAdd, Nat.reduceSub, Int.reduceEq, Int.reduceLT, Int.reduceLE, Int.reduceNeg, Int.reduceAdd, Int.reduceSub, Int.reduceMul, Nat.reduceLeDiff, Int.reduceToNat]) | ((repeat ((fail_if_success with_reducible refine hK _ _ ?_); clear hK K)); (with_reducible refine hK _ _ ?_); clear hK K))))
  refine (bimply_c h0 k0 j0 nP _).mono ?_
  rintro v w2 ⟨rfl, h1, _⟩
  replace h1 : BuAt w w2 noP pb ps pl pa gb1 := h1
  rw [g_1]
  ((repeat simp only [push_cast, Nat.reduceBEq, Nat.reduceLT, Nat.reduceEqDiff, reduceIte, reduceCtorEq, Nat.reduceMul, Nat.reduceAdd, Nat.reduceSub, Int.reduceEq, Int.reduceLT, Int.reduceLE, Int.reduceNeg, Int.reduceAdd, Int.reduceSub, Int.reduceMul, Nat.reduceLeDiff, Int.reduceToNat, not_true_eq_false, eq_self]); (repeat (first | (with_reducible first | (refine hK _ _ ?_; clear hK K) | refine (show ∀ σ' w', _ → K σ' w' from by assumption) _ _ ?_ | refine W_seq_k fun K hK => ?_ | refine W_block_k fun K hK => ?_ | refine W_skip ?_ | refine W_ret ?_) | ((first | ((with_reducible refine W_id ?_); refine W_reg (by decide) (by rfl) ?_) | (with_reducible first | refine W_cond ?_ | refine hZ _ _ ?_ | refine W_exit ?_ | refine Wo_id ?_)); repeat1' simp only [push_cast, Nat.reduceBEq, Nat.reduceLT, Nat.reduceEqDiff, reduceIte, reduceCtorEq, Nat.reduceMul, Nat.reduceAdd, Nat.reduceSub, Int.reduceEq, Int.reduceLT, Int.reduceLE, Int.reduceNeg, Int.reduceAdd, Int.reduceSub, Int.reduceMul, Nat.reduceLeDiff, Int.reduceToNat, not_true_eq_false, eq_self]) | ((repeat ((fail_if_success with_reducible refine hK _ _ ?_); clear hK K)); (with_reducible refine hK _ _ ?_); clear hK K))))
  refine (bimply_c h1 k1 j1 nP _).mono ?_
  rintro v w3 ⟨rfl, h2, _⟩
  replace h2 : BuAt w w3 noP pb ps pl pa gb2 := h2
  rw [g_2]
  ((repeat simp only [push_cast, Nat.reduceBEq, Nat.reduceLT, Nat.reduceEqDiff, reduceIte, reduceCtorEq, Nat.reduceMul, Nat.reduceAdd, Nat.reduceSub, Int.reduceEq, Int.reduceLT, Int.reduceLE, Int.reduceNeg, Int.reduceAdd, Int.reduceSub, Int.reduceMul, Nat.reduceLeDiff, Int.reduceToNat, not_true_eq_false, eq_self]); (repeat (first | (with_reducible first | (refine hK _ _ ?_; clear hK K) | refine (show ∀ σ' w', _ → K σ' w' from by assumption) _ _ ?_ | refine W_seq_k fun K hK => ?_ | refine W_block_k fun K hK => ?_ | refine W_skip ?_ | refine W_ret ?_) | ((first | ((with_reducible refine W_id ?_); refine W_reg (by decide) (by rfl) ?_) | (with_reducible first | refine W_cond ?_ | refine hZ _ _ ?_ | refine W_exit ?_ | refine Wo_id ?_)); repeat1' simp only [push_cast, Nat.reduceBEq, Nat.reduceLT, Nat.reduceEqDiff, reduceIte, reduceCtorEq, Nat.reduceMul, Nat.reduceAdd, Nat.reduceSub, Int.reduceEq, Int.reduceLT, Int.reduceLE, Int.reduceNeg, Int.reduceAdd, Int.reduceSub, Int.reduceMul, Nat.reduceLeDiff, Int.reduceToNat, not_true_eq_false, eq_self]) | ((repeat ((fail_if_success with_reducible refine hK _ _ ?_); clear hK K)); (with_reducible refine hK _ _ ?_); clear hK K))))
  refine (bimply_c h2 k2 j2 nP _).mono ?_
  rintro v w4 ⟨rfl, h3, _⟩
  replace h3 : BuAt w w4 noP pb ps pl pa gb3 := h3
  rw [g_3]
  ((repeat simp only [push_cast, Nat.reduceBEq, Nat.reduceLT, Nat.reduceEqDiff, reduceIte, reduceCtorEq, Nat.reduceMul, Nat.reduceAdd, Nat.reduceSub, Int.reduceEq, Int.reduceLT, Int.reduceLE, Int.reduceNeg, Int.reduceAdd, Int.reduceSub, Int.reduceMul, Nat.reduceLeDiff, Int.reduceToNat, not_true_eq_false, eq_self]); (repeat (first | (with_reducible first | (refine hK _ _ ?_; clear hK K) | refine (show ∀ σ' w', _ → K σ' w' from by assumption) _ _ ?_ | refine W_seq_k fun K hK => ?_ | refine W_block_k fun K hK => ?_ | refine W_skip ?_ | refine W_ret ?_) | ((first | ((with_reducible refine W_id ?_); refine W_reg (by decide) (by rfl) ?_) | (with_reducible first | refine W_cond ?_ | refine hZ _ _ ?_ | refine W_exit ?_ | refine Wo_id ?_)); repeat1' simp only [push_cast, Nat.reduceBEq, Nat.reduceLT, Nat.reduceEqDiff, reduceIte, reduceCtorEq, Nat.reduceMul, Nat.reduceAdd, Nat.reduceSub, Int.reduceEq, Int.reduceLT, Int.reduceLE, Int.reduceNeg, Int.reduceAdd, Int.reduceSub, Int.reduceMul, Nat.reduceLeDiff, Int.reduceToNat, not_true_eq_false, eq_self]) | ((repeat ((fail_if_success with_reducible refine hK _ _ ?_); clear hK K)); (with_reducible refine hK _ _ ?_); clear hK K))))
  refine (bfoster_c h3 true).mono ?_
  rintro v w5 ⟨h4, _⟩
  replace h4 : BuAt w w5 noP pb ps pl pa gb4 := h4
  ((repeat simp only [push_cast, Nat.reduceBEq, Nat.reduceLT, Nat.reduceEqDiff, reduceIte, reduceCtorEq, Nat.reduceMul, Nat.reduceAdd, Nat.reduceSub, Int.reduceEq, Int.reduceLT, Int.reduceLE, Int.reduceNeg, Int.reduceAdd, Int.reduceSub, Int.reduceMul, Nat.reduceLeDiff, Int.reduceToNat]); (repeat (first | (with_reducible first | (refine hK _ _ ?_; clear hK K) | refine (show ∀ σ' w', _ → K σ' w' from by assumption) _ _ ?_ | refine W_seq_k fun K hK => ?_ | refine W_block_k fun K hK => ?_ | refine W_skip ?_ | refine W_ret ?_) | ((first | ((with_reducible refine W_id ?_); refine W_reg (by decide) (by rfl) ?_) | (with_reducible first | refine W_cond ?_ | refine hZ _ _ ?_ | refine W_exit ?_ | refine Wo_id ?_)); repeat1' simp only [push_cast, Nat.reduceBEq, Nat.reduceLT, Nat.reduceEqDiff, reduceIte, reduceCtorEq, Nat.reduceMul, Nat.reduceAdd, Nat.reduceSub, Int.reduceEq, Int.reduceLT, Int.reduceLE, Int.reduceNeg, Int.reduceAdd, Int.reduceSub, Int.reduceMul, Nat.reduceLeDiff, Int.reduceToNat]) | ((repeat ((fail_if_success with_reducible refine hK _ _ ?_); clear hK K)); (with_reducible refine hK _ _ ?_); clear hK K))))
  refine (bplace_c h4 k4 3).mono ?_
  rintro v w6 ⟨rfl, hx6⟩
  have h5 := h4.pass hx6
  rw [g_4]
  ((repeat simp only [push_cast, Nat.reduceBEq, Nat.reduceLT, Nat.reduceEqDiff, reduceIte, reduceCtorEq, Nat.reduceMul, Nat.reduceAdd, Nat.reduceSub, Int.reduceEq, Int.reduceLT, Int.reduceLE, Int.reduceNeg, Int.reduceAdd, Int.reduceSub, Int.reduceMul, Nat.reduceLeDiff, Int.reduceToNat, ext0, ext1]); (repeat (first | (with_reducible first | (refine hK _ _ ?_; clear hK K) | refine (show ∀ σ' w', _ → K σ' w' from by assumption) _ _ ?_ | refine W_seq_k fun K hK => ?_ | refine W_block_k fun K hK => ?_ | refine W_skip ?_ | refine W_ret ?_) | ((first | ((with_reducible refine W_id ?_); refine W_reg (by decide) (by rfl) ?_) | (with_reducible first | refine W_cond ?_ | refine hZ _ _ ?_ | refine W_exit ?_ | refine Wo_id ?_)); repeat1' simp only [push_cast, Nat.reduceBEq, Nat.reduceLT, Nat.reduceEqDiff, reduceIte, reduceCtorEq, Nat.reduceMul, Nat.reduceAdd, Nat.reduceSub, Int.reduceEq, Int.reduceLT, Int.reduceLE, Int.reduceNeg, Int.reduceAdd, Int.reduceSub, Int.reduceMul, Nat.reduceLeDiff, Int.reduceToNat, ext0, ext1]) | ((repeat ((fail_if_success with_reducible refine hK _ _ ?_); clear hK K)); (with_reducible refine hK _ _ ?_); clear hK K))))
  have hw6 := h5.out
  clear h0 h1 h2 h3 h4 h5 hx6
  refine bnew_c.mono ?_
  rintro v w7 ⟨pb, ps, pl, pa, rfl, h0⟩
  ((repeat simp only [push_cast, Nat.reduceBEq, Nat.reduceLT, Nat.reduceEqDiff, reduceIte, reduceCtorEq, Nat.reduceMul, Nat.reduceAdd, Nat.reduceSub, Int.reduceEq, Int.reduceLT, Int.reduceLE, Int.reduceNeg, Int.reduceAdd, Int.reduceSub, Int.reduceMul, Nat.reduceLeDiff, Int.reduceToNat]); (repeat (first | (with_reducible first | (refine hK _ _ ?_; clear hK K) | refine (show ∀ σ' w', _ → K σ' w' from by assumption) _ _ ?_ | refine W_seq_k fun K hK => ?_ | refine W_block_k fun K hK => ?_ | refine W_skip ?_ | refine W_ret ?_) | ((first | ((with_reducible refine W_id ?_); refine W_reg (by decide) (by rfl) ?_) | (with_reducible first | refine W_cond ?_ | refine hZ _ _ ?_ | refine W_exit ?_ | refine Wo_id ?_)); repeat1' simp only [push_cast, Nat.reduceBEq, Nat.reduceLT, Nat.reduceEqDiff, reduceIte, reduceCtorEq, Nat.reduceMul, Nat.reduceAdd, Nat.reduceSub, Int.reduceEq, Int.reduceLT, Int.reduceLE, Int.reduceNeg, Int.reduceAdd, Int.reduceSub, Int.reduceMul, Nat.reduceLeDiff, Int.reduceToNat]) | ((repeat ((fail_if_success with_reducible refine hK _ _ ?_); clear hK K)); (with_reducible refine hK _ _ ?_); clear hK K))))
  refine (bimply_c h0 k0 j0 nP _).mono ?_
  rintro v w8 ⟨rfl, h1, _⟩
  replace h1 : BuAt w6 w8 noP pb ps pl pa gb1 := h1
  ((repeat simp only [push_cast, Nat.reduceBEq, Nat.reduceLT, Nat.reduceEqDiff, reduceIte, reduceCtorEq, Nat.reduceMul, Nat.reduceAdd, Nat.reduceSub, Int.reduceEq, Int.reduceLT, Int.reduceLE, Int.reduceNeg, Int.reduceAdd, Int.reduceSub, Int.reduceMul, Nat.reduceLeDiff, Int.reduceToNat]); (repeat (first | (with_reducible first | (refine hK _ _ ?_; clear hK K) | refine (show ∀ σ' w', _ → K σ' w' from by assumption) _ _ ?_ | refine W_seq_k fun K hK => ?_ | refine W_block_k fun K hK => ?_ | refine W_skip ?_ | refine W_ret ?_) | ((first | ((with_reducible refine W_id ?_); refine W_reg (by decide) (by rfl) ?_) | (with_reducible first | refine W_cond ?_ | refine hZ _ _ ?_ | refine W_exit ?_ | refine Wo_id ?_)); repeat1' simp only [push_cast, Nat.reduceBEq, Nat.reduceLT, Nat.reduceEqDiff, reduceIte, reduceCtorEq, Nat.reduceMul, Nat.reduceAdd, Nat.reduceSub, Int.reduceEq, Int.reduceLT, Int.reduceLE, Int.reduceNeg, Int.reduceAdd, Int.reduceSub, Int.reduceMul, Nat.reduceLeDiff, Int.reduceToNat]) | ((repeat ((fail_if_success with_reducible refine hK _ _ ?_); clear hK K)); (with_reducible refine hK _ _ ?_); clear hK K))))
  refine (bimply_c h1 k1 j1 nP _).mono ?_
  rintro v w9 ⟨rfl, h2, _⟩
  replace h2 : BuAt w6 w9 noP pb ps pl pa gb2 := h2
  ((repeat simp only [push_cast, Nat.reduceBEq, Nat.reduceLT, Nat.reduceEqDiff, reduceIte, reduceCtorEq, Nat.reduceMul, Nat.reduceAdd, Nat.reduceSub, Int.reduceEq, Int.reduceLT, Int.reduceLE, Int.reduceNeg, Int.reduceAdd, Int.reduceSub, Int.reduceMul, Nat.reduceLeDiff, Int.reduceToNat, not_true_eq_false, eq_self]); (repeat (first | (with_reducible first | (refine hK _ _ ?_; clear hK K) | refine (show ∀ σ' w', _ → K σ' w' from by assumption) _ _ ?_ | refine W_seq_k fun K hK => ?_ | refine W_block_k fun K hK => ?_ | refine W_skip ?_ | refine W_ret ?_) | ((first | ((with_reducible refine W_id ?_); refine W_reg (by decide) (by rfl) ?_) | (with_reducible first | refine W_cond ?_ | refine hZ _ _ ?_ | refine W_exit ?_ | refine Wo_id ?_)); repeat1' simp only [push_cast, Nat.reduceBEq, Nat.reduceLT, Nat.reduceEqDiff, reduceIte, reduceCtorEq, Nat.reduceMul, Nat.reduceAdd, Nat.reduceSub, Int.reduceEq, Int.reduceLT, Int.reduceLE, Int.reduceNeg, Int.reduceAdd, Int.reduceSub, Int.reduceMul, Nat.reduceLeDiff, Int.reduceToNat, not_true_eq_false, eq_self]) | ((repeat ((fail_if_success with_reducible refine hK _ _ ?_); clear hK K)); (with_reducible refine hK _ _ ?_); clear hK K))))
  refine (bimply_c h2 k2 j2 nP _).mono ?_
  rintro v w10 ⟨rfl, h3, _⟩
  replace h3 : BuAt w6 w10 noP pb ps pl pa gc3 := h3
  rw [g_5]
  ((repeat simp only [push_cast, Nat.reduceBEq, Nat.reduceLT, Nat.reduceEqDiff, reduceIte, reduceCtorEq, Nat.reduceMul, Nat.reduceAdd, Nat.reduceSub, Int.reduceEq, Int.reduceLT, Int.reduceLE, Int.reduceNeg, Int.reduceAdd, Int.reduceSub, Int.reduceMul, Nat.reduceLeDiff, Int.reduceToNat, not_true_eq_false, eq_self]); (repeat (first | (with_reducible first | (refine hK _ _ ?_; clear hK K) | refine (show ∀ σ' w', _ → K σ' w' from by assumption) _ _ ?_ | refine W_seq_k fun K hK => ?_ | refine W_block_k fun K hK => ?_ | refine W_skip ?_ | refine W_ret ?_) | ((first | ((with_reducible refine W_id ?_); refine W_reg (by decide) (by rfl) ?_) | (with_reducible first | refine W_cond ?_ | refine hZ _ _ ?_ | refine W_exit ?_ | refine Wo_id ?_)); repeat1' simp only [push_cast, Nat.reduceBEq, Nat.reduceLT, Nat.reduceEqDiff, reduceIte, reduceCtorEq, Nat.reduceMul, Nat.reduceAdd, Nat.reduceSub, Int.reduceEq, Int.reduceLT, Int.reduceLE, Int.reduceNeg, Int.reduceAdd, Int.reduceSub, Int.reduceMul, Nat.reduceLeDiff, Int.reduceToNat, not_true_eq_false, eq_self]) | ((repeat ((fail_if_success with_reducible refine hK _ _ ?_); clear hK K)); (with_reducible refine hK _ _ ?_); clear hK K))))
  refine (bforms_c h3).mono ?_
  rintro v w11 ⟨rfl, rfl⟩
  ((repeat simp only [push_cast, Nat.reduceBEq, Nat.reduceLT, Nat.reduceEqDiff, reduceIte, reduceCtorEq, Nat.reduceMul, Nat.reduceAdd, Nat.reduceSub, Int.reduceEq, Int.reduceLT, Int.reduceLE, Int.reduceNeg, Int.reduceAdd, Int.reduceSub, Int.reduceMul, Nat.reduceLeDiff, Int.reduceToNat]); (repeat (first | (with_reducible first | (refine hK _ _ ?_; clear hK K) | refine (show ∀ σ' w', _ → K σ' w' from by assumption) _ _ ?_ | refine W_seq_k fun K hK => ?_ | refine W_block_k fun K hK => ?_ | refine W_skip ?_ | refine W_ret ?_) | ((first | ((with_reducible refine W_id ?_); refine W_reg (by decide) (by rfl) ?_) | (with_reducible first | refine W_cond ?_ | refine hZ _ _ ?_ | refine W_exit ?_ | refine Wo_id ?_)); repeat1' simp only [push_cast, Nat.reduceBEq, Nat.reduceLT, Nat.reduceEqDiff, reduceIte, reduceCtorEq, Nat.reduceMul, Nat.reduceAdd, Nat.reduceSub, Int.reduceEq, Int.reduceLT, Int.reduceLE, Int.reduceNeg, Int.reduceAdd, Int.reduceSub, Int.reduceMul, Nat.reduceLeDiff, Int.reduceToNat]) | ((repeat ((fail_if_success with_reducible refine hK _ _ ?_); clear hK K)); (with_reducible refine hK _ _ ?_); clear hK K))))
  refine (bfpush_c h3 c3 3).mono ?_
  rintro v w12 ⟨rfl, h4, _⟩
  replace h4 : BuAt w6 w12 noP pb ps pl pa gc4 := h4
  rw [g_6]
  ((repeat simp only [push_cast, Nat.reduceBEq, Nat.reduceLT, Nat.reduceEqDiff, reduceIte, reduceCtorEq, Nat.reduceMul, Nat.reduceAdd, Nat.reduceSub, Int.reduceEq, Int.reduceLT, Int.reduceLE, Int.reduceNeg, Int.reduceAdd, Int.reduceSub, Int.reduceMul, Nat.reduceLeDiff, Int.reduceToNat, not_true_eq_false, eq_self]); (repeat (first | (with_reducible first | (refine hK _ _ ?_; clear hK K) | refine (show ∀ σ' w', _ → K σ' w' from by assumption) _ _ ?_ | refine W_seq_k fun K hK => ?_ | refine W_block_k fun K hK => ?_ | refine W_skip ?_ | refine W_ret ?_) | ((first | ((with_reducible refine W_id ?_); refine W_reg (by decide) (by rfl) ?_) | (with_reducible first | refine W_cond ?_ | refine hZ _ _ ?_ | refine W_exit ?_ | refine Wo_id ?_)); repeat1' simp only [push_cast, Nat.reduceBEq, Nat.reduceLT, Nat.reduceEqDiff, reduceIte, reduceCtorEq, Nat.reduceMul, Nat.reduceAdd, Nat.reduceSub, Int.reduceEq, Int.reduceLT, Int.reduceLE, Int.reduceNeg, Int.reduceAdd, Int.reduceSub, Int.reduceMul, Nat.reduceLeDiff, Int.reduceToNat, not_true_eq_false, eq_self]) | ((repeat ((fail_if_success with_reducible refine hK _ _ ?_); clear hK K)); (with_reducible refine hK _ _ ?_); clear hK K))))
  refine (bstack_c h4).mono ?_
  rintro v w13 ⟨rfl, rfl⟩
  ((repeat simp only [push_cast, Nat.reduceBEq, Nat.reduceLT, Nat.reduceEqDiff, reduceIte, reduceCtorEq, Nat.reduceMul, Nat.reduceAdd, Nat.reduceSub, Int.reduceEq, Int.reduceLT, Int.reduceLE, Int.reduceNeg, Int.reduceAdd, Int.reduceSub, Int.reduceMul, Nat.reduceLeDiff, Int.reduceToNat]); (repeat (first | (with_reducible first | (refine hK _ _ ?_; clear hK K) | refine (show ∀ σ' w', _ → K σ' w' from by assumption) _ _ ?_ | refine W_seq_k fun K hK => ?_ | refine W_block_k fun K hK => ?_ | refine W_skip ?_ | refine W_ret ?_) | ((first | ((with_reducible refine W_id ?_); refine W_reg (by decide) (by rfl) ?_) | (with_reducible first | refine W_cond ?_ | refine hZ _ _ ?_ | refine W_exit ?_ | refine Wo_id ?_)); repeat1' simp only [push_cast, Nat.reduceBEq, Nat.reduceLT, Nat.reduceEqDiff, reduceIte, reduceCtorEq, Nat.reduceMul, Nat.reduceAdd, Nat.reduceSub, Int.reduceEq, Int.reduceLT, Int.reduceLE, Int.reduceNeg, Int.reduceAdd, Int.reduceSub, Int.reduceMul, Nat.reduceLeDiff, Int.reduceToNat]) | ((repeat ((fail_if_success with_reducible refine hK _ _ ?_); clear hK K)); (with_reducible refine hK _ _ ?_); clear hK K))))
  refine (bpop_c h4 c4).mono ?_
  rintro v w14 ⟨rfl, h5, _⟩
  replace h5 : BuAt w6 w14 noP pb ps pl pa gc5 := h5
  rw [g_7]
  ((repeat simp only [push_cast, Nat.reduceBEq, Nat.reduceLT, Nat.reduceEqDiff, reduceIte, reduceCtorEq, Nat.reduceMul, Nat.reduceAdd, Nat.reduceSub, Int.reduceEq, Int.reduceLT, Int.reduceLE, Int.reduceNeg, Int.reduceAdd, Int.reduceSub, Int.reduceMul, Nat.reduceLeDiff, Int.reduceToNat, not_true_eq_false, eq_self]); (repeat (first | (with_reducible first | (refine hK _ _ ?_; clear hK K) | refine (show ∀ σ' w', _ → K σ' w' from by assumption) _ _ ?_ | refine W_seq_k fun K hK => ?_ | refine W_block_k fun K hK => ?_ | refine W_skip ?_ | refine W_ret ?_) | ((first | ((with_reducible refine W_id ?_); refine W_reg (by decide) (by rfl) ?_) | (with_reducible first | refine W_cond ?_ | refine hZ _ _ ?_ | refine W_exit ?_ | refine Wo_id ?_)); repeat1' simp only [push_cast, Nat.reduceBEq, Nat.reduceLT, Nat.reduceEqDiff, reduceIte, reduceCtorEq, Nat.reduceMul, Nat.reduceAdd, Nat.reduceSub, Int.reduceEq, Int.reduceLT, Int.reduceLE, Int.reduceNeg, Int.reduceAdd, Int.reduceSub, Int.reduceMul, Nat.reduceLeDiff, Int.reduceToNat, not_true_eq_false, eq_self]) | ((repeat ((fail_if_success with_reducible refine hK _ _ ?_); clear hK K)); (with_reducible refine hK _ _ ?_); clear hK K))))
  refine (brebuild_c h5 c5 c5j nP).mono ?_
  rintro v w15 ⟨h6, _⟩
  replace h6 : BuAt w6 w15 noP pb ps pl pa gc6 := h6
  ((repeat simp only [push_cast, Nat.reduceBEq, Nat.reduceLT, Nat.reduceEqDiff, reduceIte, reduceCtorEq, Nat.reduceMul, Nat.reduceAdd, Nat.reduceSub, Int.reduceEq, Int.reduceLT, Int.reduceLE, Int.reduceNeg, Int.reduceAdd, Int.reduceSub, Int.reduceMul, Nat.reduceLeDiff, Int.reduceToNat]); (repeat (first | (with_reducible first | (refine hK _ _ ?_; clear hK K) | refine (show ∀ σ' w', _ → K σ' w' from by assumption) _ _ ?_ | refine W_seq_k fun K hK => ?_ | refine W_block_k fun K hK => ?_ | refine W_skip ?_ | refine W_ret ?_) | ((first | ((with_reducible refine W_id ?_); refine W_reg (by decide) (by rfl) ?_) | (with_reducible first | refine W_cond ?_ | refine hZ _ _ ?_ | refine W_exit ?_ | refine Wo_id ?_)); repeat1' simp only [push_cast, Nat.reduceBEq, Nat.reduceLT, Nat.reduceEqDiff, reduceIte, reduceCtorEq, Nat.reduceMul, Nat.reduceAdd, Nat.reduceSub, Int.reduceEq, Int.reduceLT, Int.reduceLE, Int.reduceNeg, Int.reduceAdd, Int.reduceSub, Int.reduceMul, Nat.reduceLeDiff, Int.reduceToNat]) | ((repeat ((fail_if_success with_reducible refine hK _ _ ?_); clear hK K)); (with_reducible refine hK _ _ ?_); clear hK K))))
  refine (bforms_c h6).mono ?_
  rintro v w16 ⟨rfl, rfl⟩
  ((repeat simp only [push_cast, Nat.reduceBEq, Nat.reduceLT, Nat.reduceEqDiff, reduceIte, reduceCtorEq, Nat.reduceMul, Nat.reduceAdd, Nat.reduceSub, Int.reduceEq, Int.reduceLT, Int.reduceLE, Int.reduceNeg, Int.reduceAdd, Int.reduceSub, Int.reduceMul, Nat.reduceLeDiff, Int.reduceToNat]); (repeat (first | (with_reducible first | (refine hK _ _ ?_; clear hK K) | refine (show ∀ σ' w', _ → K σ' w' from by assumption) _ _ ?_ | refine W_seq_k fun K hK => ?_ | refine W_block_k fun K hK => ?_ | refine W_skip ?_ | refine W_ret ?_) | ((first | ((with_reducible refine W_id ?_); refine W_reg (by decide) (by rfl) ?_) | (with_reducible first | refine W_cond ?_ | refine hZ _ _ ?_ | refine W_exit ?_ | refine Wo_id ?_)); repeat1' simp only [push_cast, Nat.reduceBEq, Nat.reduceLT, Nat.reduceEqDiff, reduceIte, reduceCtorEq, Nat.reduceMul, Nat.reduceAdd, Nat.reduceSub, Int.reduceEq, Int.reduceLT, Int.reduceLE, Int.reduceNeg, Int.reduceAdd, Int.reduceSub, Int.reduceMul, Nat.reduceLeDiff, Int.reduceToNat]) | ((repeat ((fail_if_success with_reducible refine hK _ _ ?_); clear hK K)); (with_reducible refine hK _ _ ?_); clear hK K))))
  refine (bfat_c h6 0).mono ?_
  rintro v w17 ⟨rfl, hx⟩
  have h7 := h6.pass hx
  rw [g_8, g_9]
  ((repeat simp only [push_cast, Nat.reduceBEq, Nat.reduceLT, Nat.reduceEqDiff, reduceIte, reduceCtorEq, Nat.reduceMul, Nat.reduceAdd, Nat.reduceSub, Int.reduceEq, Int.reduceLT, Int.reduceLE, Int.reduceNeg, Int.reduceAdd, Int.reduceSub, Int.reduceMul, Nat.reduceLeDiff, Int.reduceToNat, ext0, ext1]); (repeat (first | (with_reducible first | (refine hK _ _ ?_; clear hK K) | refine (show ∀ σ' w', _ → K σ' w' from by assumption) _ _ ?_ | refine W_seq_k fun K hK => ?_ | refine W_block_k fun K hK => ?_ | refine W_skip ?_ | refine W_ret ?_) | ((first | ((with_reducible refine W_id ?_); refine W_reg (by decide) (by rfl) ?_) | (with_reducible first | refine W_cond ?_ | refine hZ _ _ ?_ | refine W_exit ?_ | refine Wo_id ?_)); repeat1' simp only [push_cast, Nat.reduceBEq, Nat.reduceLT, Nat.reduceEqDiff, reduceIte, reduceCtorEq, Nat.reduceMul, Nat.reduceAdd, Nat.reduceSub, Int.reduceEq, Int.reduceLT, Int.reduceLE, Int.reduceNeg, Int.reduceAdd, Int.reduceSub, Int.reduceMul, Nat.reduceLeDiff, Int.reduceToNat, ext0, ext1]) | ((repeat ((fail_if_success with_reducible refine hK _ _ ?_); clear hK K)); (with_reducible refine hK _ _ ?_); clear hK K))))
  have hw17 := hw6.trans h7.out
  clear h0 h1 h2 h3 h4 h5 h6 h7 hx hw6
  have hg17 := hg.ext hw17
  refine bnew_c.mono ?_
  rintro v w18 ⟨pb, ps, pl, pa, rfl, h0⟩
  ((repeat simp only [push_cast, Nat.reduceBEq, Nat.reduceLT, Nat.reduceEqDiff, reduceIte, reduceCtorEq, Nat.reduceMul, Nat.reduceAdd, Nat.reduceSub, Int.reduceEq, Int.reduceLT, Int.reduceLE, Int.reduceNeg, Int.reduceAdd, Int.reduceSub, Int.reduceMul, Nat.reduceLeDiff, Int.reduceToNat]); (repeat (first | (with_reducible first | (refine hK _ _ ?_; clear hK K) | refine (show ∀ σ' w', _ → K σ' w' from by assumption) _ _ ?_ | refine W_seq_k fun K hK => ?_ | refine W_block_k fun K hK => ?_ | refine W_skip ?_ | refine W_ret ?_) | ((first | ((with_reducible refine W_id ?_); refine W_reg (by decide) (by rfl) ?_) | (with_reducible first | refine W_cond ?_ | refine hZ _ _ ?_ | refine W_exit ?_ | refine Wo_id ?_)); repeat1' simp only [push_cast, Nat.reduceBEq, Nat.reduceLT, Nat.reduceEqDiff, reduceIte, reduceCtorEq, Nat.reduceMul, Nat.reduceAdd, Nat.reduceSub, Int.reduceEq, Int.reduceLT, Int.reduceLE, Int.reduceNeg, Int.reduceAdd, Int.reduceSub, Int.reduceMul, Nat.reduceLeDiff, Int.reduceToNat]) | ((repeat ((fail_if_success with_reducible refine hK _ _ ?_); clear hK K)); (with_reducible refine hK _ _ ?_); clear hK K))))
  refine (bimply_c h0 k0 j0 nP _).mono ?_
  rintro v w19 ⟨rfl, h1, _⟩
  replace h1 : BuAt w17 w19 noP pb ps pl pa gb1 := h1
  ((repeat simp only [push_cast, Nat.reduceBEq, Nat.reduceLT, Nat.reduceEqDiff, reduceIte, reduceCtorEq, Nat.reduceMul, Nat.reduceAdd, Nat.reduceSub, Int.reduceEq, Int.reduceLT, Int.reduceLE, Int.reduceNeg, Int.reduceAdd, Int.reduceSub, Int.reduceMul, Nat.reduceLeDiff, Int.reduceToNat]); (repeat (first | (with_reducible first | (refine hK _ _ ?_; clear hK K) | refine (show ∀ σ' w', _ → K σ' w' from by assumption) _ _ ?_ | refine W_seq_k fun K hK => ?_ | refine W_block_k fun K hK => ?_ | refine W_skip ?_ | refine W_ret ?_) | ((first | ((with_reducible refine W_id ?_); refine W_reg (by decide) (by rfl) ?_) | (with_reducible first | refine W_cond ?_ | refine hZ _ _ ?_ | refine W_exit ?_ | refine Wo_id ?_)); repeat1' simp only [push_cast, Nat.reduceBEq, Nat.reduceLT, Nat.reduceEqDiff, reduceIte, reduceCtorEq, Nat.reduceMul, Nat.reduceAdd, Nat.reduceSub, Int.reduceEq, Int.reduceLT, Int.reduceLE, Int.reduceNeg, Int.reduceAdd, Int.reduceSub, Int.reduceMul, Nat.reduceLeDiff, Int.reduceToNat]) | ((repeat ((fail_if_success with_reducible refine hK _ _ ?_); clear hK K)); (with_reducible refine hK _ _ ?_); clear hK K))))
  refine (bimply_c h1 k1 j1 nP _).mono ?_
  rintro v w20 ⟨rfl, h2, _⟩
  replace h2 : BuAt w17 w20 noP pb ps pl pa gd2 := h2
  ((repeat simp only [push_cast, Nat.reduceBEq, Nat.reduceLT, Nat.reduceEqDiff, reduceIte, reduceCtorEq, Nat.reduceMul, Nat.reduceAdd, Nat.reduceSub, Int.reduceEq, Int.reduceLT, Int.reduceLE, Int.reduceNeg, Int.reduceAdd, Int.reduceSub, Int.reduceMul, Nat.reduceLeDiff, Int.reduceToNat]); (repeat (first | (with_reducible first | (refine hK _ _ ?_; clear hK K) | refine (show ∀ σ' w', _ → K σ' w' from by assumption) _ _ ?_ | refine W_seq_k fun K hK => ?_ | refine W_block_k fun K hK => ?_ | refine W_skip ?_ | refine W_ret ?_) | ((first | ((with_reducible refine W_id ?_); refine W_reg (by decide) (by rfl) ?_) | (with_reducible first | refine W_cond ?_ | refine hZ _ _ ?_ | refine W_exit ?_ | refine Wo_id ?_)); repeat1' simp only [push_cast, Nat.reduceBEq, Nat.reduceLT, Nat.reduceEqDiff, reduceIte, reduceCtorEq, Nat.reduceMul, Nat.reduceAdd, Nat.reduceSub, Int.reduceEq, Int.reduceLT, Int.reduceLE, Int.reduceNeg, Int.reduceAdd, Int.reduceSub, Int.reduceMul, Nat.reduceLeDiff, Int.reduceToNat]) | ((repeat ((fail_if_success with_reducible refine hK _ _ ?_); clear hK K)); (with_reducible refine hK _ _ ?_); clear hK K))))
  refine (breset_c h2 d2 hg17 d2n d2m).mono ?_
  rintro v w21 ⟨h3, _⟩
  replace h3 : BuAt w17 w21 noP pb ps pl pa gd3 := h3
  ((repeat simp only [push_cast, Nat.reduceBEq, Nat.reduceLT, Nat.reduceEqDiff, reduceIte, reduceCtorEq, Nat.reduceMul, Nat.reduceAdd, Nat.reduceSub, Int.reduceEq, Int.reduceLT, Int.reduceLE, Int.reduceNeg, Int.reduceAdd, Int.reduceSub, Int.reduceMul, Nat.reduceLeDiff, Int.reduceToNat]); (repeat (first | (with_reducible first | (refine hK _ _ ?_; clear hK K) | refine (show ∀ σ' w', _ → K σ' w' from by assumption) _ _ ?_ | refine W_seq_k fun K hK => ?_ | refine W_block_k fun K hK => ?_ | refine W_skip ?_ | refine W_ret ?_) | ((first | ((with_reducible refine W_id ?_); refine W_reg (by decide) (by rfl) ?_) | (with_reducible first | refine W_cond ?_ | refine hZ _ _ ?_ | refine W_exit ?_ | refine Wo_id ?_)); repeat1' simp only [push_cast, Nat.reduceBEq, Nat.reduceLT, Nat.reduceEqDiff, reduceIte, reduceCtorEq, Nat.reduceMul, Nat.reduceAdd, Nat.reduceSub, Int.reduceEq, Int.reduceLT, Int.reduceLE, Int.reduceNeg, Int.reduceAdd, Int.reduceSub, Int.reduceMul, Nat.reduceLeDiff, Int.reduceToNat]) | ((repeat ((fail_if_success with_reducible refine hK _ _ ?_); clear hK K)); (with_reducible refine hK _ _ ?_); clear hK K))))
  refine (bmode_c h3).mono ?_
  rintro v w22 ⟨rfl, rfl⟩
  rw [g_10]
  ((repeat simp only [push_cast, Nat.reduceBEq, Nat.reduceLT, Nat.reduceEqDiff, reduceIte, reduceCtorEq, Nat.reduceMul, Nat.reduceAdd, Nat.reduceSub, Int.reduceEq, Int.reduceLT, Int.reduceLE, Int.reduceNeg, Int.reduceAdd, Int.reduceSub, Int.reduceMul, Nat.reduceLeDiff, Int.reduceToNat]); (repeat (first | (with_reducible first | (refine hK _ _ ?_; clear hK K) | refine (show ∀ σ' w', _ → K σ' w' from by assumption) _ _ ?_ | refine W_seq_k fun K hK => ?_ | refine W_block_k fun K hK => ?_ | refine W_skip ?_ | refine W_ret ?_) | ((first | ((with_reducible refine W_id ?_); refine W_reg (by decide) (by rfl) ?_) | (with_reducible first | refine W_cond ?_ | refine hZ _ _ ?_ | refine W_exit ?_ | refine Wo_id ?_)); repeat1' simp only [push_cast, Nat.reduceBEq, Nat.reduceLT, Nat.reduceEqDiff, reduceIte, reduceCtorEq, Nat.reduceMul, Nat.reduceAdd, Nat.reduceSub, Int.reduceEq, Int.reduceLT, Int.reduceLE, Int.reduceNeg, Int.reduceAdd, Int.reduceSub, Int.reduceMul, Nat.reduceLeDiff, Int.reduceToNat]) | ((repeat ((fail_if_success with_reducible refine hK _ _ ?_); clear hK K)); (with_reducible refine hK _ _ ?_); clear hK K))))
  refine (bimply_c h3 d3 d3j nP _).mono ?_
  rintro v w23 ⟨rfl, h4, _⟩
  replace h4 : BuAt w17 w23 noP pb ps pl pa gd4 := h4
  ((repeat simp only [push_cast, Nat.reduceBEq, Nat.reduceLT, Nat.reduceEqDiff, reduceIte, reduceCtorEq, Nat.reduceMul, Nat.reduceAdd, Nat.reduceSub, Int.reduceEq, Int.reduceLT, Int.reduceLE, Int.reduceNeg, Int.reduceAdd, Int.reduceSub, Int.reduceMul, Nat.reduceLeDiff, Int.reduceToNat]); (repeat (first | (with_reducible first | (refine hK _ _ ?_; clear hK K) | refine (show ∀ σ' w', _ → K σ' w' from by assumption) _ _ ?_ | refine W_seq_k fun K hK => ?_ | refine W_block_k fun K hK => ?_ | refine W_skip ?_ | refine W_ret ?_) | ((first | ((with_reducible refine W_id ?_); refine W_reg (by decide) (by rfl) ?_) | (with_reducible first | refine W_cond ?_ | refine hZ _ _ ?_ | refine W_exit ?_ | refine Wo_id ?_)); repeat1' simp only [push_cast, Nat.reduceBEq, Nat.reduceLT, Nat.reduceEqDiff, reduceIte, reduceCtorEq, Nat.reduceMul, Nat.reduceAdd, Nat.reduceSub, Int.reduceEq, Int.reduceLT, Int.reduceLE, Int.reduceNeg, Int.reduceAdd, Int.reduceSub, Int.reduceMul, Nat.reduceLeDiff, Int.reduceToNat]) | ((repeat ((fail_if_success with_reducible refine hK _ _ ?_); clear hK K)); (with_reducible refine hK _ _ ?_); clear hK K))))
  refine (breset_c h4 d4 hg17 d4n d4m).mono ?_
  rintro v w24 ⟨h5, _⟩
  replace h5 : BuAt w17 w24 noP pb ps pl pa gd5 := h5
  ((repeat simp only [push_cast, Nat.reduceBEq, Nat.reduceLT, Nat.reduceEqDiff, reduceIte, reduceCtorEq, Nat.reduceMul, Nat.reduceAdd, Nat.reduceSub, Int.reduceEq, Int.reduceLT, Int.reduceLE, Int.reduceNeg, Int.reduceAdd, Int.reduceSub, Int.reduceMul, Nat.reduceLeDiff, Int.reduceToNat, not_true_eq_false, eq_self, not_false_eq_true]); (repeat (first | (with_reducible first | (refine hK _ _ ?_; clear hK K) | refine (show ∀ σ' w', _ → K σ' w' from by assumption) _ _ ?_ | refine W_seq_k fun K hK => ?_ | refine W_block_k fun K hK => ?_ | refine W_skip ?_ | refine W_ret ?_) | ((first | ((with_reducible refine W_id ?_); refine W_reg (by decide) (by rfl) ?_) | (with_reducible first | refine W_cond ?_ | refine hZ _ _ ?_ | refine W_exit ?_ | refine Wo_id ?_)); repeat1' simp only [push_cast, Nat.reduceBEq, Nat.reduceLT, Nat.reduceEqDiff, reduceIte, reduceCtorEq, Nat.reduceMul, Nat.reduceAdd, Nat.reduceSub, Int.reduceEq, Int.reduceLT, Int.reduceLE, Int.reduceNeg, Int.reduceAdd, Int.reduceSub, Int.reduceMul, Nat.reduceLeDiff, Int.reduceToNat, not_true_eq_false, eq_self, not_false_eq_true]) | ((repeat ((fail_if_success with_reducible refine hK _ _ ?_); clear hK K)); (with_reducible refine hK _ _ ?_); clear hK K))))
  refine (bmode_c h5).mono ?_
  rintro v w25 ⟨rfl, rfl⟩
  rw [g_11]
  ((repeat simp only [push_cast, Nat.reduceBEq, Nat.reduceLT, Nat.reduceEqDiff, reduceIte, reduceCtorEq, Nat.reduceMul, Nat.reduceAdd, Nat.reduceSub, Int.reduceEq, Int.reduceLT, Int.reduceLE, Int.reduceNeg, Int.reduceAdd, Int.reduceSub, Int.reduceMul, Nat.reduceLeDiff, Int.reduceToNat, not_true_eq_false, eq_self, not_false_eq_true]); (repeat (first | (with_reducible first | (refine hK _ _ ?_; clear hK K) | refine (show ∀ σ' w', _ → K σ' w' from by assumption) _ _ ?_ | refine W_seq_k fun K hK => ?_ | refine W_block_k fun K hK => ?_ | refine W_skip ?_ | refine W_ret ?_) | ((first | ((with_reducible refine W_id ?_); refine W_reg (by decide) (by rfl) ?_) | (with_reducible first | refine W_cond ?_ | refine hZ _ _ ?_ | refine W_exit ?_ | refine Wo_id ?_)); repeat1' simp only [push_cast, Nat.reduceBEq, Nat.reduceLT, Nat.reduceEqDiff, reduceIte, reduceCtorEq, Nat.reduceMul, Nat.reduceAdd, Nat.reduceSub, Int.reduceEq, Int.reduceLT, Int.reduceLE, Int.reduceNeg, Int.reduceAdd, Int.reduceSub, Int.reduceMul, Nat.reduceLeDiff, Int.reduceToNat, not_true_eq_false, eq_self, not_false_eq_true]) | ((repeat ((fail_if_success with_reducible refine hK _ _ ?_); clear hK K)); (with_reducible refine hK _ _ ?_); clear hK K))))
  refine (berr0_c h5 g_12).mono ?_
  rintro v w26 ⟨rfl, hx⟩
  have h6 := h5.pass hx
  ((repeat simp only [push_cast, Nat.reduceBEq, Nat.reduceLT, Nat.reduceEqDiff, reduceIte, reduceCtorEq, Nat.reduceMul, Nat.reduceAdd, Nat.reduceSub, Int.reduceEq, Int.reduceLT, Int.reduceLE, Int.reduceNeg, Int.reduceAdd, Int.reduceSub, Int.reduceMul, Nat.reduceLeDiff, Int.reduceToNat, not_true_eq_false, eq_self, not_false_eq_true]); (repeat (first | (with_reducible first | (refine hK _ _ ?_; clear hK K) | refine (show ∀ σ' w', _ → K σ' w' from by assumption) _ _ ?_ | refine W_seq_k fun K hK => ?_ | refine W_block_k fun K hK => ?_ | refine W_skip ?_ | refine W_ret ?_) | ((first | ((with_reducible refine W_id ?_); refine W_reg (by decide) (by rfl) ?_) | (with_reducible first | refine W_cond ?_ | refine hZ _ _ ?_ | refine W_exit ?_ | refine Wo_id ?_)); repeat1' simp only [push_cast, Nat.reduceBEq, Nat.reduceLT, Nat.reduceEqDiff, reduceIte, reduceCtorEq, Nat.reduceMul, Nat.reduceAdd, Nat.reduceSub, Int.reduceEq, Int.reduceLT, Int.reduceLE, Int.reduceNeg, Int.reduceAdd, Int.reduceSub, Int.reduceMul, Nat.reduceLeDiff, Int.reduceToNat, not_true_eq_false, eq_self, not_false_eq_true]) | ((repeat ((fail_if_success with_reducible refine hK _ _ ?_); clear hK K)); (with_reducible refine hK _ _ ?_); clear hK K))))
  exact hw17.trans h6.out
end Go.Proofs.YtgnnlaeikcnhcaaGreatDoor
end
section
set_option linter.unusedSimpArgs false
set_option linter.unusedVariables false
namespace Go.Proofs.YtgnnlaeikcnhcaaGreatDoor
open Go Go.Vk
theorem rd_str {w : World} {b n : Nat} {l : List ByteArray} (h : RdAt w 1 (.slice (some ⟨b, 0, none⟩) n n) (strCells l)) {w' : World} (hx : Ext w w') {k : Nat} {x : ByteArray} (hk : l[k]? = some x) : w'.cell? ⟨b, k, none⟩ = some (.string x) := by
  obtain ⟨a, c, e, _, hc⟩ := str_len h
  obtain ⟨b', o, e2, h2⟩ := hc k x hk
  cases e
  cases e2
  rw [Nat.zero_add] at h2
  exact cell_ext hx h2
set_option maxHeartbeats 40000000
end Go.Proofs.YtgnnlaeikcnhcaaGreatDoor
end
section
set_option linter.unusedSimpArgs false
set_option linter.unusedVariables false
namespace Go.Vk
open Go
def bsL (l : List UInt8) : ByteArray := ⟨l.toArray⟩
theorem to_text {P : Program} {s d e : TypeId} (hs : P.underlying s = some (.slice e)) (he : P.underlying e = some (.int .u8)) (hd : P.underlying d = some .string) {w : World} {b n : Nat} {l : List UInt8} (hn : l.length = n)
    (h : ∀ j, (hj : j < l.length) → w.cell? ⟨b, j, none⟩ = some (.int .u8 (l[j].toNat : Int))) {K : Value → World → Prop} (hk : K (.string (bsL l)) w) : RunV P (convert s d (.slice (some ⟨b, 0, none⟩) n n)) w K := by
  subst hn
  refine .of (run_convert_bytes_back w s d e ⟨b, 0, none⟩ l.length l hs he hd fun j hj => ?_) hk
  rw [add_mk, Nat.zero_add, h j hj]
end Go.Vk
namespace Go.Proofs.YtgnnlaeikcnhcaaGreatDoor
open Go Go.Vk
theorem styB : STy Tryz.prog 22 5 1 := ⟨Tryz.underlying22, Tryz.sizeOf5, fun w => ⟨_, by simp [Tryz.typeInfo5, Sem.run]; rfl, by decide, by decide⟩, fun w => ⟨_, by simp [Tryz.zeroValue5, Sem.run]; rfl, by decide⟩⟩
/-- a text of one byte, out of a new slice -/
theorem one_byte {w : World} (c : UInt8) {K : Value → World → Prop} (h : ∀ b w', Ext w w' → w'.cell? ⟨b, 0, none⟩ = some (.int .u8 (c.toNat : Int)) → K (.slice (some ⟨b, 0, none⟩) 1 1) w') : RunV Tryz.prog (Instr.buildSlice 22 1 #[(0, .int .u8 (c.toNat : Int))]) w K := by
  refine bs_of (parts := [(0, .int .u8 (c.toNat : Int))]) styB (n := 1) (by omega) (by omega) Tryz.zeroValue5 (cs := #[.int .u8 (c.toNat : Int)]) (by kernel_rfl) ?_
  refine h _ _ (Ext.alloc _ _) ?_
  rw [cell_h, heap_alloc_h, if_pos rfl]; rfl
theorem one_text {w : World} {b : Nat} {c : UInt8} (h : w.cell? ⟨b, 0, none⟩ = some (.int .u8 (c.toNat : Int))) {K : Value → World → Prop} (hk : K (.string ⟨#[c]⟩) w) : RunV Tryz.prog (convert 22 9 (.slice (some ⟨b, 0, none⟩) 1 1)) w K :=
  to_text (l := [c]) Tryz.underlying22 Tryz.underlying5 Tryz.underlying9 rfl (fun j hj => by
    have : j = 0 := by simpa using hj
    subst this; exact h) hk
theorem styAt : STy Tryz.prog 35 34 2 := ⟨Tryz.underlying35, Tryz.sizeOf34, fun w => ⟨_, by simp [Tryz.typeInfo34, Sem.run]; rfl, by decide, by decide⟩, fun w => ⟨_, by simp [Tryz.zeroValue34, Sem.run]; rfl, by decide⟩⟩
theorem one_attr {w : World} (x y : ByteArray) {K : Value → World → Prop} (h : ∀ b w', Ext w w' → RdAt w' 2 (.slice (some ⟨b, 0, none⟩) 1 1) (attrCells [(x, y)]) → K (.slice (some ⟨b, 0, none⟩) 1 1) w') : RunV Tryz.prog (Instr.buildSlice 35 1 #[(0, .agg #[.string x, .string y])]) w K := by
  refine bs_of (parts := [(0, .agg #[.string x, .string y])]) styAt (n := 1) (by omega) (by omega) Tryz.zeroValue34 (cs := #[.string x, .string y]) (by kernel_rfl) ?_
  refine h _ _ (Ext.alloc _ _) ?_
  have := (SlAt.new w 2 #[Value.string x, Value.string y] 34 1 rfl).rd
  simpa [attrCells] using this
end Go.Proofs.YtgnnlaeikcnhcaaGreatDoor
end
