/- An arena in memory: nodes, with their kids and attributes in blocks of their own. No program in sight. -/
import Derived.Test.YtkafpameheohdaaHp
set_option linter.unusedSimpArgs false
set_option linter.unusedVariables false
namespace Go.Vk
open Go

structure Nd where
  kind : Int
  name : ByteArray
  text : ByteArray
  space : Int
  attrs : List (ByteArray × ByteArray)
  dup : Bool
  parent : Int
  content : Int
  kids : List Int
  frm : Int
  to : Int
def attrCells (l : List (ByteArray × ByteArray)) : List Value := l.flatMap fun a => [.string a.1, .string a.2]
def intCells (l : List Int) : List Value := l.map (Value.int .i64)
theorem attrCells_length (l : List (ByteArray × ByteArray)) : (attrCells l).length = l.length * 2 := by
  induction l with
  | nil => rfl
  | cons a r ih => simp only [attrCells, List.flatMap_cons] at ih ⊢; rw [List.length_append, ih]; simp; omega
theorem intCells_length (l : List Int) : (intCells l).length = l.length := by simp [intCells]
theorem attrCells_one (l : List (ByteArray × ByteArray)) : (attrCells l).all oneCell = true := by
  induction l with
  | nil => rfl
  | cons a r ih => simp only [attrCells, List.flatMap_cons] at ih ⊢; rw [List.all_append, ih]; simp [oneCell]
theorem intCells_one (l : List Int) : (intCells l).all oneCell = true := by simp [intCells, oneCell]
theorem attrCells_append (a b : List (ByteArray × ByteArray)) : attrCells (a ++ b) = attrCells a ++ attrCells b := by simp [attrCells]
theorem intCells_append (a b : List Int) : intCells (a ++ b) = intCells a ++ intCells b := by simp [intCells]

structure Laid where
  nd : Nd
  av : Value
  kv : Value
  ab : Option Nat
  kb : Option Nat
def Laid.cells (m : Laid) : List Value := [.int .i64 m.nd.kind, .string m.nd.name, .string m.nd.text, .int .i64 m.nd.space, m.av, .bool m.nd.dup, .int .i64 m.nd.parent, .int .i64 m.nd.content, m.kv, .int .i64 m.nd.frm, .int .i64 m.nd.to]
theorem Laid.cells_length (m : Laid) : m.cells.length = 11 := rfl
def Laid.blks (m : Laid) : List Nat := m.ab.toList ++ m.kb.toList
structure Laid.ok (w : World) (m : Laid) : Prop where
  attrs : SlAt w 2 m.av (attrCells m.nd.attrs) m.ab
  kids : SlAt w 1 m.kv (intCells m.nd.kids) m.kb
theorem Laid.ok.lt {w : World} {m : Laid} (h : m.ok w) {b : Nat} (hb : b ∈ m.blks) : b < w.heap.size := by
  simp only [Laid.blks, List.mem_append, Option.mem_toList] at hb
  rcases hb with hb | hb
  · have := h.attrs; rw [hb] at this; exact this.lt
  · have := h.kids; rw [hb] at this; exact this.lt
theorem Laid.ok.upd {G : Nat → Prop} {w w' : World} {m : Laid} (h : m.ok w) (hu : Upd G w w') (hG : ∀ b, b ∈ m.blks → ¬ G b) : m.ok w' :=
  ⟨h.attrs.upd hu fun b hb => hG b (by simp [Laid.blks, hb]), h.kids.upd hu fun b hb => hG b (by simp [Laid.blks, hb])⟩
def flat (M : List Laid) : List Value := M.flatMap Laid.cells
theorem flat_length (M : List Laid) : (flat M).length = M.length * 11 := by
  induction M with
  | nil => rfl
  | cons m r ih => simp only [flat, List.flatMap_cons, List.length_append, List.length_cons] at ih ⊢; rw [ih, m.cells_length]; omega
theorem flat_get : ∀ (M : List Laid) (i j : Nat) (m : Laid), M[i]? = some m → j < 11 → (flat M)[i * 11 + j]? = m.cells[j]?
  | [], _, _, _, h, _ => by simp at h
  | x :: r, 0, j, m, h, hj => by
    simp at h; subst h
    simp only [flat, List.flatMap_cons]
    rw [List.getElem?_append_left (by rw [x.cells_length]; omega)]; simp
  | x :: r, i + 1, j, m, h, hj => by
    simp only [flat, List.flatMap_cons]
    rw [List.getElem?_append_right (by rw [x.cells_length]; omega), x.cells_length, show (i + 1) * 11 + j - 11 = i * 11 + j by omega]
    exact flat_get r i j m (by simpa using h) hj
theorem flat_set : ∀ (M : List Laid) (i j : Nat) (m m' : Laid) (v : Value), M[i]? = some m → j < 11 → m'.cells = m.cells.set j v → (flat M).set (i * 11 + j) v = flat (M.set i m')
  | [], _, _, _, _, _, h, _, _ => by simp at h
  | x :: r, 0, j, m, m', v, h, hj, hc => by
    simp at h; subst h
    simp only [flat, List.flatMap_cons, List.set_cons_zero]
    rw [List.set_append_left _ _ (by rw [x.cells_length]; omega), hc]; simp
  | x :: r, i + 1, j, m, m', v, h, hj, hc => by
    simp only [flat, List.flatMap_cons, List.set_cons_succ]
    rw [List.set_append_right _ _ (by rw [x.cells_length]; omega), x.cells_length, show (i + 1) * 11 + j - 11 = i * 11 + j by omega]
    have := flat_set r i j m m' v (by simpa using h) hj hc
    simp only [flat] at this
    rw [this]
def blocks (pa bn : Nat) (M : List Laid) : List Nat := pa :: bn :: M.flatMap Laid.blks
structure ArM (w : World) (pa bn cap : Nat) (M : List Laid) : Prop where
  hdr : ∃ t, w.heap[pa]? = some (.cells #[.slice (some ⟨bn, 0, none⟩) M.length cap] t (0, 0))
  body : SlAt w 11 (.slice (some ⟨bn, 0, none⟩) M.length cap) (flat M) (some bn)
  sub : ∀ m ∈ M, m.ok w
  own : (blocks pa bn M).Nodup
def Ar (w : World) (pa : Nat) (L : List Nd) (F : Nat → Prop) : Prop := ∃ bn cap M, ArM w pa bn cap M ∧ M.map Laid.nd = L ∧ ∀ b ∈ blocks pa bn M, F b
section
variable {w w1 w' : World} {pa bn cap i : Nat} {M : List Laid} {m : Laid}
theorem ArM.lt (h : ArM w pa bn cap M) {b : Nat} (hb : b ∈ blocks pa bn M) : b < w.heap.size := by
  simp only [blocks, List.mem_cons, List.mem_flatMap] at hb
  rcases hb with rfl | rfl | ⟨m, hm, hb⟩
  · obtain ⟨t, ht⟩ := h.hdr; exact blk_lt ht
  · exact h.body.lt
  · exact (h.sub m hm).lt hb
theorem ArM.head (h : ArM w pa bn cap M) : w.cell? ⟨pa, 0, none⟩ = some (.slice (some ⟨bn, 0, none⟩) M.length cap) := by
  obtain ⟨t, ht⟩ := h.hdr
  rw [cell_blk ht]; rfl
theorem ArM.cell (h : ArM w pa bn cap M) (hi : M[i]? = some m) {j : Nat} (hj : j < 11) : w.cell? ⟨bn, i * 11 + j, none⟩ = m.cells[j]? := by
  have hf := flat_get M i j m hi hj
  have hj' : j < m.cells.length := by rw [m.cells_length]; exact hj
  have := h.body.get (i := i * 11 + j) (v := m.cells[j]) (by rw [hf]; simp)
  rw [List.getElem?_eq_getElem hj']
  simpa using this
theorem ArM.can (h : ArM w pa bn cap M) (hi : i < M.length) {j : Nat} (hj : j < 11) : canStore w ⟨bn, i * 11 + j, none⟩ := by
  have := h.body.can (i := i * 11 + j) (by rw [flat_length]; omega)
  simpa using this
theorem ArM.frame {G : Nat → Prop} (h : ArM w pa bn cap M) (hu : Upd G w w') (hG : ∀ b ∈ blocks pa bn M, ¬ G b) : ArM w' pa bn cap M := by
  refine ⟨?_, h.body.upd hu fun b hb => ?_, fun m hm => (h.sub m hm).upd hu fun b hb => hG b ?_, h.own⟩
  · obtain ⟨t, ht⟩ := h.hdr
    exact ⟨t, (hu.same pa (blk_lt ht) (hG pa (by simp [blocks]))).trans ht⟩
  · cases hb; exact hG bn (by simp [blocks])
  · simp only [blocks, List.mem_cons, List.mem_flatMap]; exact .inr (.inr ⟨m, hm, hb⟩)
theorem Ar.frame {F G : Nat → Prop} {L : List Nd} (h : Ar w pa L F) (hu : Upd G w w') (hG : ∀ b, F b → ¬ G b) : Ar w' pa L F := by
  obtain ⟨bn, cap, M, h1, h2, h3⟩ := h
  exact ⟨bn, cap, M, h1.frame hu fun b hb => hG b (h3 b hb), h2, h3⟩
theorem Ar.ext {F : Nat → Prop} {L : List Nd} (h : Ar w pa L F) (hu : Ext w w') : Ar w' pa L F := h.frame hu fun _ _ h => h.elim
theorem Ar.mono {F G : Nat → Prop} {L : List Nd} (h : Ar w pa L F) (hG : ∀ b, b < w.heap.size → F b → G b) : Ar w pa L G := by
  obtain ⟨bn, cap, M, h1, h2, h3⟩ := h
  exact ⟨bn, cap, M, h1, h2, fun b hb => hG b (h1.lt hb) (h3 b hb)⟩
/-- lists of blocks: one part replaced -/
theorem nodup_repl {a b x y : List Nat} (h : (a ++ x ++ b).Nodup) (hy : y.Nodup) (hn : ∀ i ∈ y, i ∈ x ∨ (i ∉ a ∧ i ∉ b)) : (a ++ y ++ b).Nodup := by
  rw [List.nodup_append] at h ⊢
  obtain ⟨h1, h2, h3⟩ := h
  rw [List.nodup_append] at h1 ⊢
  obtain ⟨g1, g2, g3⟩ := h1
  refine ⟨⟨g1, hy, fun i hi j hj e => ?_⟩, h2, fun i hi j hj e => ?_⟩
  · subst e
    rcases hn i hj with h | h
    · exact g3 i hi i h rfl
    · exact h.1 hi
  · subst e
    rcases List.mem_append.1 hi with hi | hi
    · exact h3 i (by simp [hi]) i hj rfl
    · rcases hn i hi with h | h
      · exact h3 i (by simp [h]) i hj rfl
      · exact h.2 hj
theorem split_at {α : Type} : ∀ (l : List α) (i : Nat) (x : α), l[i]? = some x → ∃ a b, l = a ++ x :: b ∧ a.length = i
  | [], _, _, h => by simp at h
  | y :: r, 0, x, h => by simp at h; subst h; exact ⟨[], r, rfl, rfl⟩
  | y :: r, i + 1, x, h => by
    obtain ⟨a, b, h1, h2⟩ := split_at r i x (by simpa using h)
    exact ⟨y :: a, b, by rw [h1]; rfl, by simp [h2]⟩
theorem set_split {α : Type} (a b : List α) (x y : α) : (a ++ x :: b).set a.length y = a ++ y :: b := by
  rw [List.set_append_right _ _ (Nat.le_refl _)]; simp
/-- one node's field is written, behind what was done to blocks of its own -/
theorem ArM.repl {G : Nat → Prop} (h : ArM w pa bn cap M) (hi : M[i]? = some m) (m' : Laid) (j : Nat) (v : Value) (hc : m'.cells = m.cells.set j v) (hj : j < 11)
    (hu : Upd G w w1) (hG : ∀ b, b < w.heap.size → G b → b ∈ m.blks) (hok : m'.ok w1) (hb : ∀ b ∈ m'.blks, b ∈ m.blks ∨ w.heap.size ≤ b) (hnd : m'.blks.Nodup) :
    ArM (w1.setCell ⟨bn, i * 11 + j, none⟩ v) pa bn cap (M.set i m') := by
  obtain ⟨A, B, rfl, rfl⟩ := split_at M i m hi
  have hlt : ∀ b ∈ blocks pa bn (A ++ m :: B), b < w.heap.size := fun b hb => h.lt hb
  have own := h.own
  have memA : ∀ x ∈ A, ∀ b ∈ x.blks, b ∈ blocks pa bn (A ++ m :: B) := fun x hx b hb => by simp only [blocks, List.mem_cons, List.mem_flatMap]; exact .inr (.inr ⟨x, by simp [hx], hb⟩)
  have memB : ∀ x ∈ B, ∀ b ∈ x.blks, b ∈ blocks pa bn (A ++ m :: B) := fun x hx b hb => by simp only [blocks, List.mem_cons, List.mem_flatMap]; exact .inr (.inr ⟨x, by simp [hx], hb⟩)
  have hshape : blocks pa bn (A ++ m :: B) = (pa :: bn :: A.flatMap Laid.blks) ++ m.blks ++ B.flatMap Laid.blks := by simp [blocks]
  have apart : ∀ b, (b ∈ pa :: bn :: A.flatMap Laid.blks ∨ b ∈ B.flatMap Laid.blks) → b ∉ m.blks := by
    intro b hb hm
    rw [hshape, List.nodup_append] at own
    obtain ⟨o1, _, o3⟩ := own
    rw [List.nodup_append] at o1
    rcases hb with hb | hb
    · exact o1.2.2 b hb b hm rfl
    · exact o3 b (by simp [hm]) b hb rfl
  have hGn : ∀ b ∈ blocks pa bn (A ++ m :: B), b ∉ m.blks → ¬ G b := fun b hb hn hg => hn (hG b (hlt b hb) hg)
  have hbn : bn ∉ m.blks := apart bn (.inl (by simp))
  have hpa : pa ∉ m.blks := apart pa (.inl (by simp))
  have hne : pa ≠ bn := by
    intro e
    have := own
    rw [e] at this
    simp [blocks] at this
  have body1 : SlAt w1 11 (.slice (some ⟨bn, 0, none⟩) (A ++ m :: B).length cap) (flat (A ++ m :: B)) (some bn) := h.body.upd hu fun b hb => by
    cases hb; exact hGn bn (by simp [blocks]) hbn
  have body2 := body1.set (i := A.length * 11 + j) (by rw [flat_length, List.length_append, List.length_cons]; omega) v
  rw [flat_set _ _ _ m m' v hi hj hc] at body2
  rw [Nat.zero_add] at body2
  rw [set_split] at body2 ⊢
  refine ⟨?_, by simpa using body2, ?_, ?_⟩
  · obtain ⟨t, ht⟩ := h.hdr
    refine ⟨t, ?_⟩
    rw [heap_set_other (by simpa using hne), hu.same pa (blk_lt ht) (hGn pa (by simp [blocks]) hpa)]
    simpa using ht
  · have keep : ∀ x : Laid, x.ok w1 → (∀ b ∈ x.blks, b ≠ bn) → x.ok (w1.setCell ⟨bn, A.length * 11 + j, none⟩ v) := fun x hx hn =>
      hx.upd (Upd.setCell (F := fun b => b = bn) w1 rfl v) fun b hb => hn b hb
    intro x hx
    rcases List.mem_append.1 hx with hx | hx
    · refine keep x ((h.sub x (by simp [hx])).upd hu fun b hb => hGn b (memA x hx b hb) (apart b (.inl (by simp only [List.mem_cons, List.mem_flatMap]; exact .inr (.inr ⟨x, hx, hb⟩))))) fun b hb e => ?_
      subst e
      rw [hshape] at own
      simp only [List.cons_append, List.nodup_cons] at own
      exact own.2.1 (by simp only [List.mem_append, List.mem_flatMap]; exact .inl (.inl ⟨x, hx, hb⟩))
    · rcases List.mem_cons.1 hx with rfl | hx
      · refine keep _ hok fun b hb' e => ?_
        subst e
        rcases hb b hb' with h1 | h1
        · exact hbn h1
        · have := hlt b (by simp [blocks]); omega
      · refine keep x ((h.sub x (by simp [hx])).upd hu fun b hb => hGn b (memB x hx b hb) (apart b (.inr (by simp only [List.mem_flatMap]; exact ⟨x, hx, hb⟩)))) fun b hb e => ?_
        subst e
        rw [hshape] at own
        simp only [List.cons_append, List.nodup_cons] at own
        exact own.2.1 (by simp only [List.mem_append, List.mem_flatMap]; exact .inr ⟨x, hx, hb⟩)
  · have : blocks pa bn (A ++ m' :: B) = (pa :: bn :: A.flatMap Laid.blks) ++ m'.blks ++ B.flatMap Laid.blks := by simp [blocks]
    rw [this]
    rw [hshape] at own
    refine nodup_repl own hnd fun b hb' => ?_
    rcases hb b hb' with h1 | h1
    · exact .inl h1
    · refine .inr ⟨fun hm => ?_, fun hm => ?_⟩
      · have := hlt b (by rw [hshape]; simp only [List.mem_append]; exact .inl (.inl hm)); omega
      · have := hlt b (by rw [hshape]; simp only [List.mem_append]; exact .inr hm); omega
/-- a node is put behind the others: w1: its own slices are laid; w2: the nodes' slice has grown -/
theorem ArM.push {w2 : World} (h : ArM w pa bn cap M) (hx : Ext w w1) (m' : Laid) (hok : m'.ok w1) (hb : ∀ b ∈ m'.blks, w.heap.size ≤ b) (hnd : m'.blks.Nodup) {bn' cap' : Nat}
    (hs : SlAt w2 11 (.slice (some ⟨bn', 0, none⟩) (M.length + 1) cap') (flat M ++ m'.cells) (some bn')) (hu : Upd (fun b => b = bn) w1 w2) (hbn : bn' = bn ∨ w1.heap.size ≤ bn') :
    ArM (w2.setCell ⟨pa, 0, none⟩ (.slice (some ⟨bn', 0, none⟩) (M.length + 1) cap')) pa bn' cap' (M ++ [m']) := by
  have hlt : ∀ b ∈ blocks pa bn M, b < w.heap.size := fun b hb => h.lt hb
  have h1 := h.frame hx fun _ _ h => h.elim
  have own := h.own
  have hsz := hx.alike.size
  have hpn : pa ≠ bn := by
    intro e
    have := own
    rw [e] at this
    simp [blocks] at this
  have hpa : pa ≠ bn' := by
    rcases hbn with rfl | h'
    · exact hpn
    · have := hlt pa (by simp [blocks]); omega
  obtain ⟨t, ht⟩ := h1.hdr
  have ht2 := (hu.same pa (blk_lt ht) (by simpa using hpn)).trans ht
  have mem : ∀ x ∈ M, ∀ b ∈ x.blks, b ∈ blocks pa bn M := fun x hx b hb => by simp only [blocks, List.mem_cons, List.mem_flatMap]; exact .inr (.inr ⟨x, hx, hb⟩)
  have hnb : ∀ x ∈ M, ∀ b ∈ x.blks, b ≠ bn ∧ b ≠ pa := fun x hx b hb => by
    simp only [blocks, List.nodup_cons, List.mem_cons, List.mem_flatMap, not_or] at own
    exact ⟨fun e => own.2.1 ⟨x, hx, e ▸ hb⟩, fun e => own.1.2 ⟨x, hx, e ▸ hb⟩⟩
  have hnew : ∀ b ∈ m'.blks, b ≠ bn ∧ b ≠ pa := fun b hb' => by
    have := hb b hb'
    have e1 := hlt bn (by simp [blocks])
    have e2 := hlt pa (by simp [blocks])
    omega
  refine ⟨⟨t, ?_⟩, ?_, ?_, ?_⟩
  · rw [heap_set_same ht2]; simp
  · have hup := Upd.setCell (F := fun b => b = pa) (a := (⟨pa, 0, none⟩ : Addr)) w2 rfl (.slice (some ⟨bn', 0, none⟩) (M.length + 1) cap')
    have := hs.upd hup fun b hb e => by cases hb; exact hpa e.symm
    simpa [flat, List.flatMap_append] using this
  · intro x hx'
    have key : x.ok w1 ∧ ∀ b ∈ x.blks, b ≠ bn ∧ b ≠ pa := by
      rcases List.mem_append.1 hx' with hx' | hx'
      · exact ⟨h1.sub x hx', hnb x hx'⟩
      · simp only [List.mem_singleton] at hx'; subst hx'; exact ⟨hok, hnew⟩
    have hup := Upd.setCell (F := fun b => b = pa) (a := (⟨pa, 0, none⟩ : Addr)) w2 rfl (.slice (some ⟨bn', 0, none⟩) (M.length + 1) cap')
    exact (key.1.upd hu fun b hb e => (key.2 b hb).1 e).upd hup fun b hb e => (key.2 b hb).2 e
  · have e : blocks pa bn' (M ++ [m']) = pa :: bn' :: (M.flatMap Laid.blks ++ m'.blks) := by simp [blocks]
    rw [e]
    simp only [blocks, List.nodup_cons, List.mem_cons, List.mem_append, not_or] at own ⊢
    obtain ⟨⟨o1, o2⟩, o3, o4⟩ := own
    have hlt' : ∀ b ∈ M.flatMap Laid.blks, b < w.heap.size := fun b hb => hlt b (by simp only [blocks, List.mem_cons]; exact .inr (.inr hb))
    refine ⟨⟨hpa, o2, fun hm => (hnew pa hm).2 rfl⟩, ⟨fun hm => ?_, fun hm => ?_⟩, ?_⟩
    · rcases hbn with rfl | h'
      · exact o3 hm
      · have := hlt' _ hm; omega
    · rcases hbn with rfl | h'
      · exact (hnew _ hm).1 rfl
      · have := hok.lt hm; omega
    · rw [List.nodup_append]
      exact ⟨o4, hnd, fun a ha b hb' e => by have := hlt' a ha; have := hb b hb'; omega⟩
end
end Go.Vk
