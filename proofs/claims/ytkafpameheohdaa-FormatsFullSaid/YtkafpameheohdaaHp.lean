/- Memory: blocks, slices of cells, what append does to them. No program in sight. -/
import Derived.Test.YtkafpameheohdaaVk
namespace Go.Vk
open Go
set_option linter.unusedSimpArgs false
set_option linter.unusedVariables false

theorem add_mk (b o n : Nat) : (⟨b, o, none⟩ : Addr).add n = ⟨b, o + n, none⟩ := by
  unfold Addr.add; split <;> simp_all
theorem cell_blk {w : World} {b : Nat} {cs : Array Value} {t : TypeId} {f : Nat × Nat} (h : w.heap[b]? = some (.cells cs t f)) (o : Nat) : w.cell? ⟨b, o, none⟩ = cs[o]? := by
  simp [World.cell?, h]
theorem frozen_blk {w : World} {b : Nat} {cs : Array Value} {t : TypeId} (h : w.heap[b]? = some (.cells cs t (0, 0))) (o : Nat) : w.frozen? ⟨b, o, none⟩ = false := by
  simp [World.frozen?, h]
theorem canStore_blk {w : World} {b : Nat} {cs : Array Value} {t : TypeId} (h : w.heap[b]? = some (.cells cs t (0, 0))) {o : Nat} (ho : o < cs.size) : canStore w ⟨b, o, none⟩ :=
  ⟨⟨cs[o], by rw [cell_blk h]; simp [ho]⟩, frozen_blk h o⟩
theorem heap_set_same {w : World} {b : Nat} {cs : Array Value} {t : TypeId} {f : Nat × Nat} (h : w.heap[b]? = some (.cells cs t f)) (o : Nat) (v : Value) :
    (w.setCell ⟨b, o, none⟩ v).heap[b]? = some (.cells (cs.setIfInBounds o v) t f) := by
  simp [World.setCell, Array.getElem?_modify, h]
theorem heap_set_other {w : World} {a : Addr} {b : Nat} (h : b ≠ a.block) (v : Value) : (w.setCell a v).heap[b]? = w.heap[b]? := by
  simp only [World.setCell, Array.getElem?_modify]
  rw [if_neg (fun e => h e.symm)]
theorem heap_alloc_new' (w : World) (o : Obj) : (w.alloc o).heap[w.heap.size]? = some o := by
  show (w.heap.push o)[w.heap.size]? = _
  simp
theorem heap_alloc_old' (w : World) (o : Obj) {b : Nat} (h : b < w.heap.size) : (w.alloc o).heap[b]? = w.heap[b]? := by
  simp only [World.alloc, Array.getElem?_push]; rw [if_neg (by omega)]
theorem blk_lt {w : World} {b : Nat} {o : Obj} (h : w.heap[b]? = some o) : b < w.heap.size := (Array.getElem?_eq_some_iff.1 h).1

def ovw (cs : Array Value) (o : Nat) : List Value → Array Value
  | [] => cs
  | v :: r => ovw (cs.setIfInBounds o v) (o + 1) r
theorem ovw_size : ∀ (l : List Value) (cs : Array Value) (o : Nat), (ovw cs o l).size = cs.size
  | [], _, _ => rfl
  | v :: r, cs, o => by simp only [ovw]; rw [ovw_size r]; simp
theorem ovw_out : ∀ (l : List Value) (cs : Array Value) (o j : Nat), j < o ∨ o + l.length ≤ j → (ovw cs o l)[j]? = cs[j]?
  | [], _, _, _, _ => rfl
  | v :: r, cs, o, j, h => by
    simp only [ovw]
    rw [ovw_out r _ _ _ (by simp only [List.length_cons] at h; omega), Array.getElem?_setIfInBounds_ne (by simp only [List.length_cons] at h; omega)]
theorem ovw_in : ∀ (l : List Value) (cs : Array Value) (o i : Nat), i < l.length → o + l.length ≤ cs.size → (ovw cs o l)[o + i]? = l[i]?
  | [], _, _, _, h, _ => by simp at h
  | v :: r, cs, o, 0, h, hs => by
    simp only [ovw, Nat.add_zero]
    rw [ovw_out r _ _ _ (by omega)]
    have : o < cs.size := by simp only [List.length_cons] at hs; omega
    simp [this]
  | v :: r, cs, o, i + 1, h, hs => by
    simp only [ovw]
    rw [show o + (i + 1) = (o + 1) + i by omega, ovw_in r _ _ i (by simpa using h) (by simp at hs ⊢; omega)]
    simp
theorem setCells_same : ∀ (l : List Value) (w : World) (b o i : Nat) (cs : Array Value) (t : TypeId) (f : Nat × Nat), w.heap[b]? = some (.cells cs t f) →
    (setCells w ⟨b, o, none⟩ l i).heap[b]? = some (.cells (ovw cs (o + i) l) t f)
  | [], _, _, _, _, _, _, _, h => h
  | v :: r, w, b, o, i, cs, t, f, h => by
    simp only [setCells, ovw, add_mk]
    exact setCells_same r _ b o (i + 1) _ t f (heap_set_same h _ v)
theorem setCells_other : ∀ (l : List Value) (w : World) (a : Addr) (i b : Nat), b ≠ a.block → (setCells w a l i).heap[b]? = w.heap[b]?
  | [], _, _, _, _, _ => rfl
  | v :: r, w, a, i, b, h => by
    simp only [setCells]
    have e : (a.add i).block = a.block := by unfold Addr.add; split <;> rfl
    rw [setCells_other r _ a (i + 1) b h, heap_set_other (by rw [e]; exact h)]
theorem setCells_size : ∀ (l : List Value) (w : World) (a : Addr) (i : Nat), (setCells w a l i).heap.size = w.heap.size
  | [], _, _, _ => rfl
  | v :: r, w, a, i => by simp only [setCells]; rw [setCells_size r]; simp

/-- all but heap and draws is as it was -/
structure Alike (w w' : World) : Prop where
  os : w'.os = w.os
  tape : w'.tape = w.tape
  output : w'.output = w.output
  size : w.heap.size ≤ w'.heap.size
theorem Alike.refl (w : World) : Alike w w := ⟨rfl, rfl, rfl, Nat.le_refl _⟩
theorem Alike.trans {a b c : World} (h : Alike a b) (k : Alike b c) : Alike a c := ⟨k.os.trans h.os, k.tape.trans h.tape, k.output.trans h.output, Nat.le_trans h.size k.size⟩
theorem Alike.drew (w : World) : Alike w w.drew := ⟨rfl, rfl, rfl, Nat.le_refl _⟩
theorem Alike.alloc (w : World) (o : Obj) : Alike w (w.alloc o) := ⟨rfl, rfl, rfl, by simp⟩
theorem Alike.setCell (w : World) (a : Addr) (v : Value) : Alike w (w.setCell a v) := ⟨rfl, rfl, rfl, by simp⟩
theorem Alike.setCells : ∀ (l : List Value) (w : World) (a : Addr) (i : Nat), Alike w (setCells w a l i)
  | [], w, _, _ => .refl w
  | v :: r, w, a, i => (Alike.setCell w _ v).trans (Alike.setCells r _ a (i + 1))
/-- only blocks of F, and new ones, may have changed -/
structure Upd (F : Nat → Prop) (w w' : World) : Prop where
  alike : Alike w w'
  same : ∀ b, b < w.heap.size → ¬ F b → w'.heap[b]? = w.heap[b]?
theorem Upd.refl (F : Nat → Prop) (w : World) : Upd F w w := ⟨.refl w, fun _ _ _ => rfl⟩
theorem Upd.mono {F G : Nat → Prop} {w w' : World} (h : Upd F w w') (hs : ∀ b, b < w.heap.size → F b → G b) : Upd G w w' := ⟨h.alike, fun b hb hg => h.same b hb fun hf => hg (hs b hb hf)⟩
theorem Upd.trans {F G : Nat → Prop} {a b c : World} (h : Upd F a b) (k : Upd G b c) (hg : ∀ i, i < a.heap.size → G i → F i) : Upd F a c :=
  ⟨h.alike.trans k.alike, fun i hi hf => (k.same i (Nat.lt_of_lt_of_le hi h.alike.size) fun hg' => hf (hg i hi hg')).trans (h.same i hi hf)⟩
theorem Upd.drew (F : Nat → Prop) (w : World) : Upd F w w.drew := ⟨.drew w, fun _ _ _ => rfl⟩
theorem Upd.alloc (F : Nat → Prop) (w : World) (o : Obj) : Upd F w (w.alloc o) := ⟨.alloc w o, fun _ hb _ => heap_alloc_old' w o hb⟩
theorem Upd.setCell {F : Nat → Prop} {a : Addr} (w : World) (h : F a.block) (v : Value) : Upd F w (w.setCell a v) := ⟨.setCell w a v, fun _ _ hf => heap_set_other (fun e => hf (by rw [e]; exact h)) v⟩
theorem Upd.setCells {F : Nat → Prop} {a : Addr} (w : World) (h : F a.block) (l : List Value) (i : Nat) : Upd F w (setCells w a l i) :=
  ⟨.setCells l w a i, fun _ _ hf => setCells_other l w a i _ (fun e => hf (by rw [e]; exact h))⟩
def none_ : Nat → Prop := fun _ => False
/-- nothing that was there has changed -/
def Ext (w w' : World) : Prop := Upd none_ w w'
theorem Ext.refl (w : World) : Ext w w := Upd.refl _ w
theorem Ext.trans {a b c : World} (h : Ext a b) (k : Ext b c) : Ext a c := Upd.trans h k fun _ _ h => h
theorem Ext.heap {w w' : World} (h : Ext w w') {b : Nat} (hb : b < w.heap.size) : w'.heap[b]? = w.heap[b]? := h.same b hb id
theorem Ext.upd {F : Nat → Prop} {w w' : World} (h : Ext w w') : Upd F w w' := h.mono fun _ _ h => h.elim
theorem Ext.blk {w w' : World} (h : Ext w w') {b : Nat} {o : Obj} (hb : w.heap[b]? = some o) : w'.heap[b]? = some o := (h.heap (blk_lt hb)).trans hb
theorem Ext.drew (w : World) : Ext w w.drew := Upd.drew _ w
theorem Ext.alloc (w : World) (o : Obj) : Ext w (w.alloc o) := Upd.alloc _ w o
theorem Upd.below {B : Nat} {w w' : World} (h : Upd (fun b => B ≤ b) w w') (hB : B ≤ w.heap.size) : RowKit.Below B w w' :=
  ⟨h.alike.os, h.alike.tape, h.alike.output, h.alike.size, fun k hk => h.same k (by omega) (by omega)⟩

/-- a block, whose frozen range lies behind its cells -/
def HB (w : World) (b : Nat) (cs : Array Value) (t : TypeId) : Prop := ∃ f : Nat × Nat, (f.2 ≤ f.1 ∨ cs.size ≤ f.1) ∧ w.heap[b]? = some (.cells cs t f)
theorem HB.of {w : World} {b : Nat} {cs : Array Value} {t : TypeId} (h : w.heap[b]? = some (.cells cs t (0, 0))) : HB w b cs t := ⟨(0, 0), .inl (Nat.le_refl _), h⟩
theorem HB.lt {w : World} {b : Nat} {cs : Array Value} {t : TypeId} (h : HB w b cs t) : b < w.heap.size := let ⟨_, _, h⟩ := h; blk_lt h
theorem HB.cell {w : World} {b : Nat} {cs : Array Value} {t : TypeId} (h : HB w b cs t) (o : Nat) : w.cell? ⟨b, o, none⟩ = cs[o]? := let ⟨_, _, h⟩ := h; cell_blk h o
theorem HB.can {w : World} {b : Nat} {cs : Array Value} {t : TypeId} (h : HB w b cs t) {o : Nat} (ho : o < cs.size) : canStore w ⟨b, o, none⟩ := by
  obtain ⟨f, hf, h⟩ := h
  refine ⟨⟨cs[o], by rw [cell_blk h]; simp [ho]⟩, ?_⟩
  simp [World.frozen?, h]; omega
theorem HB.set {w : World} {b : Nat} {cs : Array Value} {t : TypeId} (h : HB w b cs t) (o : Nat) (v : Value) : HB (w.setCell ⟨b, o, none⟩ v) b (cs.setIfInBounds o v) t := by
  obtain ⟨f, hf, h⟩ := h
  exact ⟨f, by simpa using hf, heap_set_same h o v⟩
theorem HB.sets {w : World} {b : Nat} {cs : Array Value} {t : TypeId} (h : HB w b cs t) (l : List Value) (o i : Nat) : HB (setCells w ⟨b, o, none⟩ l i) b (ovw cs (o + i) l) t := by
  obtain ⟨f, hf, h⟩ := h
  exact ⟨f, by rw [ovw_size]; exact hf, setCells_same l w b o i cs t f h⟩
theorem HB.frame {w w' : World} {b : Nat} {cs : Array Value} {t : TypeId} (h : HB w b cs t) (e : w'.heap[b]? = w.heap[b]?) : HB w' b cs t := let ⟨f, hf, h⟩ := h; ⟨f, hf, e.trans h⟩
theorem drew_h (w : World) : w.drew.heap = w.heap := by cases w; rfl
theorem drew_size (w : World) : w.drew.heap.size = w.heap.size := by rw [drew_h]
theorem Upd.put {F : Nat → Prop} {a b : World} (h : Upd F a b) {x : Addr} {v : Value} (hx : F x.block) : Upd F a (b.setCell x v) := h.trans (Upd.setCell b hx v) fun _ _ h => h
theorem Upd.put2 {F : Nat → Prop} {a b : World} (h : Upd F a b) {x : Addr} {v : Value} (hx : x.block < a.heap.size → F x.block) : Upd F a (b.setCell x v) :=
  Upd.trans h (Upd.setCell (F := fun i => i = x.block) b rfl v) fun i hi e => by subst e; exact hx hi
theorem Upd.drewR {F : Nat → Prop} {a b : World} (h : Upd F a b) : Upd F a b.drew := h.trans (Upd.drew F b) fun _ _ h => h
/-- v is a slice whose cells read 'cells'; bo: the block it lies in -/
def SlAt (w : World) (es : Nat) (v : Value) (cells : List Value) (bo : Option Nat) : Prop :=
  (bo = none ∧ v = .slice none 0 0 ∧ cells = []) ∨
  ∃ b o n c cs t, bo = some b ∧ v = .slice (some ⟨b, o, none⟩) n c ∧ n ≤ c ∧ cells.length = n * es ∧ HB w b cs t ∧ o + c * es ≤ cs.size ∧ ∀ i, i < cells.length → cs[o + i]? = cells[i]?
theorem SlAt.nil (w : World) (es : Nat) : SlAt w es (.slice none 0 0) [] none := .inl ⟨rfl, rfl, rfl⟩
theorem SlAt.lt {w : World} {es : Nat} {v : Value} {cells : List Value} {b : Nat} (h : SlAt w es v cells (some b)) : b < w.heap.size := by
  rcases h with ⟨h, _⟩ | ⟨b, o, n, c, cs, t, hb, _, _, _, hh, _⟩
  · cases h
  · cases hb; exact hh.lt
theorem SlAt.frame {w w' : World} {es : Nat} {v : Value} {cells : List Value} {bo : Option Nat} (h : SlAt w es v cells bo) (hb : ∀ b, bo = some b → w'.heap[b]? = w.heap[b]?) : SlAt w' es v cells bo := by
  rcases h with h | ⟨b, o, n, c, cs, t, h1, h2, h3, h4, h5, h6⟩
  · exact .inl h
  · exact .inr ⟨b, o, n, c, cs, t, h1, h2, h3, h4, h5.frame (hb b h1), h6⟩
theorem SlAt.ext {w w' : World} {es : Nat} {v : Value} {cells : List Value} {bo : Option Nat} (h : SlAt w es v cells bo) (he : Ext w w') : SlAt w' es v cells bo :=
  h.frame fun b hb => he.heap (by subst hb; exact h.lt)
theorem SlAt.upd {F : Nat → Prop} {w w' : World} {es : Nat} {v : Value} {cells : List Value} {bo : Option Nat} (h : SlAt w es v cells bo) (he : Upd F w w') (hF : ∀ b, bo = some b → ¬ F b) : SlAt w' es v cells bo :=
  h.frame fun b hb => he.same b (by subst hb; exact h.lt) (hF b hb)
/-- the slice as a value: its length -/
theorem SlAt.len {w : World} {es : Nat} {v : Value} {cells : List Value} {bo : Option Nat} (h : SlAt w es v cells bo) : ∃ a n c, v = .slice a n c ∧ n ≤ c ∧ cells.length = n * es := by
  rcases h with ⟨_, rfl, rfl⟩ | ⟨b, o, n, c, cs, t, _, rfl, h3, h4, _⟩
  · exact ⟨none, 0, 0, rfl, Nat.le_refl _, by simp⟩
  · exact ⟨_, n, c, rfl, h3, h4⟩

/- APPEND -/
theorem growBy_le (need : Nat) : ∀ (r c : Nat), c ≤ need → Builtin.growBy need r c ≤ 2 * need + 1000
  | 0, c, h => by simp only [Builtin.growBy]; omega
  | r + 1, c, h => by
    simp only [Builtin.growBy]
    split
    · omega
    · by_cases h' : c + (c + 768) / 4 ≤ need
      · exact growBy_le need r _ h'
      · cases r with
        | zero => simp only [Builtin.growBy]; omega
        | succ r => simp only [Builtin.growBy]; rw [if_pos (by omega)]; omega
theorem nextcap_le {need old : Nat} (h : old < need) : Builtin.nextslicecap need old ≤ 2 * need + 1000 := by
  unfold Builtin.nextslicecap
  split
  · omega
  · split
    · omega
    · exact growBy_le need 4 old (by omega)
/-- the facts on a slice type that append asks -/
structure STy (P : Program) (t e es : Nat) : Prop where
  und : P.underlying t = some (.slice e)
  size : ∀ w, (sizeOf e).run P w = .ok es w
  bytes : ∀ w, ∃ i, (typeInfo e).run P w = .ok i w ∧ 0 < i.bytes ∧ i.bytes ≤ 1024
  zero : ∀ w, ∃ z, (zeroValue e).run P w = .ok z w ∧ z.cells.size = es
/-- a slice, as far as it is read -/
def RdAt (w : World) (es : Nat) (v : Value) (cells : List Value) : Prop :=
  ∃ a n c, v = .slice a n c ∧ n ≤ c ∧ cells.length = n * es ∧ ∀ i u, cells[i]? = some u → ∃ b o, a = some ⟨b, o, none⟩ ∧ w.cell? ⟨b, o + i, none⟩ = some u
theorem cell_ext {w w' : World} (hx : Ext w w') {b o : Nat} {v : Value} (h : w.cell? ⟨b, o, none⟩ = some v) : w'.cell? ⟨b, o, none⟩ = some v := by
  have hl : b < w.heap.size := by
    by_cases hl : b < w.heap.size
    · exact hl
    · unfold World.cell? at h
      rw [Array.getElem?_eq_none (by simpa using hl)] at h; simp at h
  unfold World.cell? at h ⊢
  simp only at h ⊢
  rw [hx.heap hl]; exact h
theorem RdAt.ext {w w' : World} {es : Nat} {v : Value} {cells : List Value} (h : RdAt w es v cells) (hx : Ext w w') : RdAt w' es v cells := by
  obtain ⟨a, n, c, h1, h2, h3, h4⟩ := h
  refine ⟨a, n, c, h1, h2, h3, fun i u hu => ?_⟩
  obtain ⟨b, o, h5, h6⟩ := h4 i u hu
  exact ⟨b, o, h5, cell_ext hx h6⟩
theorem SlAt.rd {w : World} {es : Nat} {v : Value} {cells : List Value} {bo : Option Nat} (h : SlAt w es v cells bo) : RdAt w es v cells := by
  rcases h with ⟨_, h2, h3⟩ | ⟨b, o, n, c, cs, t, h1, h2, h3, h4, h5, h6, h7⟩
  · subst h3; exact ⟨none, 0, 0, h2, Nat.le_refl _, by simp, fun i u hu => by simp at hu⟩
  · refine ⟨_, n, c, h2, h3, h4, fun i u hu => ⟨b, o, rfl, ?_⟩⟩
    rw [h5.cell, h7 i (List.getElem?_eq_some_iff.1 hu).1]; exact hu
theorem firstCells_rd {P : Program} {w : World} {es n c : Nat} {a : Option Addr} {cells : List Value} (h : RdAt w es (.slice a n c) cells) (hn : cells.length = n * es) :
    (Builtin.firstCells es n (.slice a n c)).run P w = .ok cells.toArray w := by
  obtain ⟨a', n', c', e, _, _, h4⟩ := h
  cases e
  cases a with
  | none =>
    have : cells = [] := by
      cases cells with
      | nil => rfl
      | cons x r => obtain ⟨b, o, e, _⟩ := h4 0 x rfl; cases e
    subst this
    simp [Builtin.firstCells]
  | some a =>
    have hc : cellsAt w a cells := by
      intro i v hv
      obtain ⟨b, o, e, h5⟩ := h4 i v hv
      cases e
      rw [add_mk]; exact h5
    have hr := run_loadCells (P := P) hc
    rw [hn] at hr
    simpa [Builtin.firstCells] using hr
theorem firstCells_run {P : Program} {w : World} {es n : Nat} {v : Value} {cells : List Value} {bo : Option Nat} (h : SlAt w es v cells bo) (hn : cells.length = n * es) :
    (Builtin.firstCells es n v).run P w = .ok cells.toArray w := by
  rcases h with ⟨_, rfl, rfl⟩ | ⟨b, o, m, c, cs, t, _, rfl, h3, h4, h5, h6, h7⟩
  · simp [Builtin.firstCells]
  · have : cellsAt w ⟨b, o, none⟩ cells := by
      intro i v hv
      rw [add_mk, h5.cell, h7 i (List.getElem?_eq_some_iff.1 hv).1]; exact hv
    have hr := run_loadCells (P := P) this
    rw [hn] at hr
    simpa [Builtin.firstCells] using hr
theorem zeroCells_size (z : Array Value) (n : Nat) : (Builtin.zeroCells z n).size = n * z.size := by simp [Builtin.zeroCells]
theorem lenOf_run {P : Program} {w : World} {a : Option Addr} {n c : Nat} : (Builtin.lenOf (.slice a n c)).run P w = .ok n w := rfl
set_option maxHeartbeats 1000000 in
theorem app_spec_rd {P : Program} {t e es t2 e2 ty : Nat} (hT : STy P t e es) (hT2 : P.underlying t2 = some (.slice e2)) (hes : 0 < es) {w : World} {s x : Value} {c1 c2 : List Value} {b1 : Option Nat}
    (h1 : SlAt w es s c1 b1) (h2 : RdAt w es x c2) (ho : c2.all oneCell = true) (hl : c1.length + c2.length ≤ 4294967296) {K : Value → World → Prop}
    (hfit : ∀ v w', SlAt w' es v (c1 ++ c2) b1 → Upd (fun b => b1 = some b) w w' → w'.heap.size = w.heap.size → (c2 = [] → v = s ∧ w' = w) →
      (∃ a n c m, s = .slice a n c ∧ v = .slice a (n + m) c ∧ n + m ≤ c ∧ c2.length = m * es) → K v w')
    (hgrow : ∀ v w', SlAt w' es v (c1 ++ c2) (some w.heap.size) → Ext w w' → c2 ≠ [] → (∃ n c, v = .slice (some ⟨w.heap.size, 0, none⟩) n c ∧ c1.length + c2.length = n * es) → w.heap.size < w'.heap.size → (∀ a n c m, s = .slice a n c → c2.length = m * es → c < n + m) → K v w') : RunV P (Builtin.append_ #[t, t2] ty #[s, x]) w K := by
  obtain ⟨a1, n1, k1, rfl, hk1, hc1⟩ := h1.len
  have h2' := h2
  obtain ⟨a2, n2, k2, rfl, hk2, hc2, _⟩ := h2'
  have hf1 := firstCells_run (P := P) h1 hc1
  have hf2 := firstCells_rd (P := P) h2 hc2
  by_cases hfits : n1 + n2 ≤ k1
  · have key : ∃ w', (Builtin.append_ #[t, t2] ty #[.slice a1 n1 k1, .slice a2 n2 k2]).run P w = .ok (.slice a1 (n1 + n2) k1) w' ∧ SlAt w' es (.slice a1 (n1 + n2) k1) (c1 ++ c2) b1 ∧ Upd (fun b => b1 = some b) w w' ∧
        w'.heap.size = w.heap.size ∧ (c2 = [] → w' = w) := by
      rcases h1 with ⟨rfl, hv, rfl⟩ | ⟨b, o, m, c, cs, tt, rfl, hv, h3, h4, h5, h6, h7⟩
      · cases hv
        have hn2 : n2 = 0 := by omega
        subst hn2
        have hc2' : c2 = [] := List.length_eq_zero_iff.1 (by omega)
        subst hc2'
        refine ⟨w, ?_, .inl ⟨rfl, rfl, rfl⟩, .refl _ _, rfl, fun _ => rfl⟩
        simp [Builtin.append_, run_underlying hT.und, run_underlying hT2, hT.size, Builtin.lenOf, hf2]
      · cases hv
        have hin : n1 * es + n2 * es ≤ k1 * es := by rw [← Nat.add_mul]; exact Nat.mul_le_mul_right _ hfits
        have hst := run_storeCells (P := P) (a := ⟨b, o + n1 * es, none⟩) c2 0 w ho (fun j _ hj => by rw [add_mk]; exact h5.can (by omega))
        refine ⟨setCells w ⟨b, o + n1 * es, none⟩ c2 0, ?_, .inr ⟨b, o, n1 + n2, k1, ovw cs (o + n1 * es) c2, tt, rfl, rfl, hfits, by rw [List.length_append, hc1, hc2, Nat.add_mul], ?_, by rw [ovw_size]; exact h6, ?_⟩,
          Upd.setCells (F := fun i => some b = some i) w rfl c2 0, setCells_size _ _ _ _, fun h => by subst h; rfl⟩
        · simp [Builtin.append_, run_underlying hT.und, run_underlying hT2, hT.size, Builtin.lenOf, hf2, hfits, add_mk, hst]
        · exact h5.sets c2 (o + n1 * es) 0
        · intro i hi
          rw [List.length_append] at hi
          by_cases hlt : i < c1.length
          · rw [ovw_out _ _ _ _ (by omega), h7 i hlt, List.getElem?_append_left hlt]
          · rw [List.getElem?_append_right (by omega)]
            have := ovw_in c2 cs (o + n1 * es) (i - c1.length) (by omega) (by omega)
            rw [show o + n1 * es + (i - c1.length) = o + i by omega] at this
            exact this
    obtain ⟨w', hr, hS, hU, hz, hw⟩ := key
    refine .of hr (hfit _ _ hS hU hz (fun h => ⟨?_, hw h⟩) ⟨a1, n1, k1, n2, rfl, rfl, hfits, hc2⟩)
    have : n2 * es = 0 := by rw [← hc2, h]; rfl
    have hn2 : n2 = 0 := by
      rcases Nat.mul_eq_zero.1 this with h | h
      · exact h
      · omega
    rw [hn2]; rfl
  · have hn12 : n1 + n2 ≤ 4294967296 := by
      have a1 : n1 ≤ n1 * es := Nat.le_mul_of_pos_right _ hes
      have a2 : n2 ≤ n2 * es := Nat.le_mul_of_pos_right _ hes
      omega
    have hcap := nextcap_le (need := n1 + n2) (old := k1) (by omega)
    obtain ⟨i, hi, hi1, hi2⟩ := hT.bytes w
    obtain ⟨i', hi', _, _⟩ := hT.bytes w.drew
    have hii : i' = i := by
      have e1 : (typeInfo e).run P w.drew = (match (typeInfo e).run P w with | .ok x _ => .ok x w.drew | .halt h _ => .halt h w.drew) := by
        simp only [typeInfo, program, Sem.run_bind, Sem.run, Result.andThen_ok]
        cases P.info? e <;> simp [stuck, Sem.run]
      rw [hi] at e1
      rw [hi'] at e1
      cases e1; rfl
    subst hii
    obtain ⟨z, hz, hzs⟩ := hT.zero w.drew
    have hbytes : ¬ (Builtin.nextslicecap (n1 + n2) k1 * i'.bytes > 2 ^ 48) := by
      have : Builtin.nextslicecap (n1 + n2) k1 * i'.bytes ≤ (2 * (n1 + n2) + 1000) * 1024 := Nat.mul_le_mul hcap hi2
      omega
    have h1' : SlAt w.drew es (.slice a1 n1 k1) c1 b1 := h1.ext (Ext.drew w)
    have h2' : RdAt w.drew es (.slice a2 n2 k2) c2 := h2.ext (Ext.drew w)
    have hf1' := firstCells_run (P := P) h1' hc1
    have hf2' := firstCells_rd (P := P) h2' hc2
    have hroom : ∀ (n : Nat) (w : World), (askRoom n).run P w = .ok () w := by
      intro n w; unfold askRoom; split <;> simp [mark, Sem.run]
    let nc := (Question.appendCap (n1 + n2) k1 e).cut (w.tape w.drawn (.appendCap (n1 + n2) k1 e))
    have hnc : n1 + n2 ≤ nc := by simp only [nc, Question.cut]; omega
    have hch : (choose (.appendCap (n1 + n2) k1 e)).run P w = .ok nc w.drew := by
      rfl
    have hr : (Builtin.append_ #[t, t2] ty #[.slice a1 n1 k1, .slice a2 n2 k2]).run P w =
        .ok (.slice (some ⟨w.heap.size, 0, none⟩) (n1 + n2) nc) (w.drew.alloc (.cells (c1.toArray ++ c2.toArray ++ Builtin.zeroCells z.cells (nc - (n1 + n2))) e)) := by
      have hb0 : ¬ (i'.bytes = 0) := by omega
      simp only [Builtin.append_, List.getElem?_toArray, List.getElem?_cons_zero, List.getElem?_cons_succ, Sem.run_bind, Sem.run_pure, Result.andThen_ok, run_underlying hT.und, run_underlying hT2, hT.size, Builtin.lenOf,
        Bool.false_eq_true, if_false, hfits, hi, hb0, false_or, and_false, hbytes, hch, hroom, hi', hf1', Bool.not_false, if_true, hf2', hz, newRow, newObj]
      simp [Sem.run, World.alloc_eq]
      rfl
    refine .of hr (hgrow _ _ ?_ ((Ext.drew w).trans (Ext.alloc _ _)) ?_ ⟨_, _, rfl, by rw [hc1, hc2, Nat.add_mul]⟩ (by simp) fun a n c m e hm => by
      cases e
      have : n2 = m := Nat.eq_of_mul_eq_mul_right hes (hc2.symm.trans hm)
      omega)
    · refine .inr ⟨w.heap.size, 0, n1 + n2, nc, _, e, rfl, rfl, hnc, by rw [List.length_append, hc1, hc2, Nat.add_mul], .of (heap_alloc_new' w.drew _), ?_, ?_⟩
      · simp only [Array.size_append, List.size_toArray, zeroCells_size, hzs, hc1, hc2]
        rw [← Nat.add_mul, ← Nat.add_mul]
        rw [show n1 + n2 + (nc - (n1 + n2)) = nc by omega]
        omega
      · intro i hi
        rw [Nat.zero_add, Array.getElem?_append_left (by simpa using hi)]
        simp
    · intro h
      subst h
      simp only [List.length_nil] at hc2
      rcases Nat.mul_eq_zero.1 hc2.symm with h | h <;> omega
theorem app_spec {P : Program} {t e es t2 e2 ty : Nat} (hT : STy P t e es) (hT2 : P.underlying t2 = some (.slice e2)) (hes : 0 < es) {w : World} {s x : Value} {c1 c2 : List Value} {b1 b2 : Option Nat}
    (h1 : SlAt w es s c1 b1) (h2 : SlAt w es x c2 b2) (ho : c2.all oneCell = true) (hl : c1.length + c2.length ≤ 4294967296) {K : Value → World → Prop}
    (hfit : ∀ v w', SlAt w' es v (c1 ++ c2) b1 → Upd (fun b => b1 = some b) w w' → w'.heap.size = w.heap.size → (c2 = [] → v = s ∧ w' = w) →
      (∃ a n c m, s = .slice a n c ∧ v = .slice a (n + m) c ∧ n + m ≤ c ∧ c2.length = m * es) → K v w')
    (hgrow : ∀ v w', SlAt w' es v (c1 ++ c2) (some w.heap.size) → Ext w w' → c2 ≠ [] → (∃ n c, v = .slice (some ⟨w.heap.size, 0, none⟩) n c ∧ c1.length + c2.length = n * es) → w.heap.size < w'.heap.size → K v w') : RunV P (Builtin.append_ #[t, t2] ty #[s, x]) w K := app_spec_rd hT hT2 hes h1 h2.rd ho hl hfit fun v w' g1 g2 g3 g4 g5 _ => hgrow v w' g1 g2 g3 g4 g5

/- ELEMENTS -/
theorem SlAt.inv {w : World} {es b o n c : Nat} {cells : List Value} {bo : Option Nat} (h : SlAt w es (.slice (some ⟨b, o, none⟩) n c) cells bo) :
    bo = some b ∧ n ≤ c ∧ cells.length = n * es ∧ ∃ cs t, HB w b cs t ∧ o + c * es ≤ cs.size ∧ ∀ i, i < cells.length → cs[o + i]? = cells[i]? := by
  rcases h with ⟨_, h, _⟩ | ⟨b', o', n', c', cs, t, rfl, hv, h3, h4, h5, h6, h7⟩
  · cases h
  · cases hv; exact ⟨rfl, h3, h4, cs, t, h5, h6, h7⟩
theorem SlAt.get {w : World} {es b o n c : Nat} {cells : List Value} {bo : Option Nat} (h : SlAt w es (.slice (some ⟨b, o, none⟩) n c) cells bo) {i : Nat} {v : Value} (hi : cells[i]? = some v) :
    w.cell? ⟨b, o + i, none⟩ = some v := by
  obtain ⟨_, _, _, cs, t, h5, _, h7⟩ := h.inv
  rw [h5.cell, h7 i (List.getElem?_eq_some_iff.1 hi).1]; exact hi
theorem SlAt.can {w : World} {es b o n c : Nat} {cells : List Value} {bo : Option Nat} (h : SlAt w es (.slice (some ⟨b, o, none⟩) n c) cells bo) {i : Nat} (hi : i < cells.length) :
    canStore w ⟨b, o + i, none⟩ := by
  obtain ⟨_, h3, h4, cs, t, h5, h6, h7⟩ := h.inv
  refine h5.can ?_
  have : n * es ≤ c * es := Nat.mul_le_mul_right _ h3
  omega
theorem SlAt.set {w : World} {es b o n c : Nat} {cells : List Value} {bo : Option Nat} (h : SlAt w es (.slice (some ⟨b, o, none⟩) n c) cells bo) {i : Nat} (hi : i < cells.length) (v : Value) :
    SlAt (w.setCell ⟨b, o + i, none⟩ v) es (.slice (some ⟨b, o, none⟩) n c) (cells.set i v) bo := by
  obtain ⟨h1, h3, h4, cs, t, h5, h6, h7⟩ := h.inv
  refine .inr ⟨b, o, n, c, _, t, h1, rfl, h3, by simpa using h4, h5.set _ v, by simpa using h6, fun j hj => ?_⟩
  rw [List.length_set] at hj
  have hsz : o + i < cs.size := by
    have : n * es ≤ c * es := Nat.mul_le_mul_right _ h3
    omega
  by_cases e : i = j
  · subst e; simp [hsz, hi]
  · rw [Array.getElem?_setIfInBounds_ne (by omega), List.getElem?_set_ne e]; exact h7 j hj
theorem SlAt.some_of {w : World} {es : Nat} {v : Value} {l : List Value} {bo : Option Nat} (h : SlAt w es v l bo) (hl : l ≠ []) : ∃ b o n c, v = .slice (some ⟨b, o, none⟩) n c ∧ bo = some b := by
  rcases h with ⟨_, _, h⟩ | ⟨b, o, n, c, cs, t, h1, h2, _⟩
  · exact absurd h hl
  · exact ⟨b, o, n, c, h2, h1⟩
/-- a part x[l:h:m] of a slice -/
theorem SlAt.part {w : World} {es b o n c : Nat} {cells : List Value} {bo : Option Nat} (h : SlAt w es (.slice (some ⟨b, o, none⟩) n c) cells bo) {l k m : Nat} (h1 : l ≤ k) (h2 : k ≤ n) (h3 : k ≤ m) (h4 : m ≤ c) :
    SlAt w es (.slice (some ⟨b, o + l * es, none⟩) (k - l) (m - l)) ((cells.drop (l * es)).take ((k - l) * es)) bo := by
  obtain ⟨g1, g3, g4, cs, t, g5, g6, g7⟩ := h.inv
  have e1 : l * es ≤ k * es := Nat.mul_le_mul_right _ h1
  have e2 : k * es ≤ n * es := Nat.mul_le_mul_right _ h2
  have e3 : k * es ≤ m * es := Nat.mul_le_mul_right _ h3
  have e4 : m * es ≤ c * es := Nat.mul_le_mul_right _ h4
  have e5 : (k - l) * es = k * es - l * es := Nat.sub_mul _ _ _
  have e6 : (m - l) * es = m * es - l * es := Nat.sub_mul _ _ _
  refine .inr ⟨b, o + l * es, k - l, m - l, cs, t, g1, rfl, by omega, ?_, g5, by omega, fun i hi => ?_⟩
  · simp only [List.length_take, List.length_drop]; omega
  · simp only [List.length_take, List.length_drop] at hi
    rw [List.getElem?_take, if_pos (by omega), List.getElem?_drop, show o + l * es + i = o + (l * es + i) by omega]
    exact g7 _ (by omega)
/-- append, wherever it puts its answer -/
theorem app_to_rd {P : Program} {t e es t2 e2 ty : Nat} (hT : STy P t e es) (hT2 : P.underlying t2 = some (.slice e2)) (hes : 0 < es) {w : World} {s x : Value} {c1 c2 : List Value} {b1 : Option Nat}
    (h1 : SlAt w es s c1 b1) (h2 : RdAt w es x c2) (ho : c2.all oneCell = true) (hl : c1.length + c2.length ≤ 4294967296) {K : Value → World → Prop}
    (h : ∀ v w' bo, SlAt w' es v (c1 ++ c2) bo → Upd (fun b => b1 = some b) w w' → (∀ b, bo = some b → b1 = some b ∨ w.heap.size ≤ b) → K v w') : RunV P (Builtin.append_ #[t, t2] ty #[s, x]) w K := by
  refine app_spec_rd hT hT2 hes h1 h2 ho hl ?_ ?_
  · intro v w' g1 g2 _ _ _
    exact h v w' b1 g1 g2 fun b hb => .inl hb
  · intro v w' g1 g2 _ _ _ _
    exact h v w' _ g1 g2.upd fun b hb => by cases hb; exact .inr (Nat.le_refl _)
/-- append that has room: in place -/
theorem app_in {P : Program} {t e es t2 e2 ty : Nat} (hT : STy P t e es) (hT2 : P.underlying t2 = some (.slice e2)) (hes : 0 < es) {w : World} {a : Option Addr} {n1 k1 m : Nat} {x : Value} {c1 c2 : List Value} {b1 : Option Nat}
    (h1 : SlAt w es (.slice a n1 k1) c1 b1) (h2 : RdAt w es x c2) (ho : c2.all oneCell = true) (hl : c1.length + c2.length ≤ 4294967296) (hm : c2.length = m * es) (hf : n1 + m ≤ k1) {K : Value → World → Prop}
    (h : ∀ w', SlAt w' es (.slice a (n1 + m) k1) (c1 ++ c2) b1 → Upd (fun b => b1 = some b) w w' → K (.slice a (n1 + m) k1) w') : RunV P (Builtin.append_ #[t, t2] ty #[.slice a n1 k1, x]) w K := by
  refine app_spec_rd hT hT2 hes h1 h2 ho hl ?_ ?_
  · intro v w' g1 g2 _ _ ⟨a', n, c, m', e1, e2, _, e4⟩
    cases e1
    have : m' = m := Nat.eq_of_mul_eq_mul_right hes (e4.symm.trans hm)
    subst this
    subst e2
    exact h w' g1 g2
  · intro v w' _ _ _ _ _ g
    have := g _ _ _ _ rfl hm
    omega
theorem app_to {P : Program} {t e es t2 e2 ty : Nat} (hT : STy P t e es) (hT2 : P.underlying t2 = some (.slice e2)) (hes : 0 < es) {w : World} {s x : Value} {c1 c2 : List Value} {b1 b2 : Option Nat}
    (h1 : SlAt w es s c1 b1) (h2 : SlAt w es x c2 b2) (ho : c2.all oneCell = true) (hl : c1.length + c2.length ≤ 4294967296) {K : Value → World → Prop}
    (h : ∀ v w' bo, SlAt w' es v (c1 ++ c2) bo → Upd (fun b => b1 = some b) w w' → (∀ b, bo = some b → b1 = some b ∨ w.heap.size ≤ b) → K v w') : RunV P (Builtin.append_ #[t, t2] ty #[s, x]) w K := app_to_rd hT hT2 hes h1 h2.rd ho hl h
/- memory as blocks: equations for a walk that writes and reads blocks of its own -/
def cellO (o : Option Obj) (k : Nat) : Option Value := match o with
  | some (.cells cs _ _) => cs[k]?
  | _ => none
def frozO (o : Option Obj) (k : Nat) : Bool := match o with
  | some (.cells _ _ f) => decide (f.1 ≤ k ∧ k < f.2)
  | _ => false
def canO (o : Option Obj) (k : Nat) : Prop := (∃ u, cellO o k = some u) ∧ frozO o k = false
def setO (o : Option Obj) (k : Nat) (v : Value) : Option Obj := match o with
  | some (.cells cs t f) => some (.cells (cs.setIfInBounds k v) t f)
  | o => o
theorem cell_h (w : World) (b o : Nat) : w.cell? ⟨b, o, none⟩ = cellO (w.heap[b]?) o := by
  unfold World.cell? cellO
  cases hb : w.heap[b]? with
  | none => simp [hb]
  | some x => cases x <;> simp [hb]
theorem froz_h (w : World) (b o : Nat) : w.frozen? ⟨b, o, none⟩ = frozO (w.heap[b]?) o := by
  unfold World.frozen? frozO
  cases hb : w.heap[b]? with
  | none => simp [hb]
  | some x => cases x <;> simp [hb]
theorem can_h (w : World) (b o : Nat) : canStore w ⟨b, o, none⟩ = canO (w.heap[b]?) o := by
  unfold canStore canO; rw [cell_h, froz_h]
theorem cellO_cells (cs : Array Value) (t : TypeId) (f : Nat × Nat) (k : Nat) : cellO (some (.cells cs t f)) k = cs[k]? := by simp only [cellO]
theorem canO_cells (cs : Array Value) (t : TypeId) (k : Nat) : canO (some (.cells cs t (0, 0))) k = (k < cs.size) := by
  refine propext ⟨fun h => ?_, fun h => ⟨⟨cs[k], ?_⟩, ?_⟩⟩
  · obtain ⟨⟨u, hu⟩, _⟩ := h
    exact (Array.getElem?_eq_some_iff.1 hu).1
  · simp [cellO, h]
  · simp [frozO]
theorem setO_cells (cs : Array Value) (t : TypeId) (f : Nat × Nat) (k : Nat) (v : Value) : setO (some (.cells cs t f)) k v = some (.cells (cs.setIfInBounds k v) t f) := by simp only [setO]
theorem heap_set_h (w : World) (a b o : Nat) (v : Value) : (w.setCell ⟨a, o, none⟩ v).heap[b]? = if b = a then setO (w.heap[b]?) o v else w.heap[b]? := by
  by_cases h : b = a
  · subst h
    rw [if_pos rfl]
    cases hb : w.heap[b]? with
    | none => simp [World.setCell, Array.getElem?_modify, hb, setO]
    | some x => cases x <;> simp [World.setCell, Array.getElem?_modify, hb, setO]
  · rw [if_neg h, heap_set_other (by simpa using h)]
theorem heap_alloc_h (w : World) (b : Nat) (o : Obj) : (w.alloc o).heap[b]? = if b = w.heap.size then some o else w.heap[b]? := by
  by_cases h : b = w.heap.size
  · rw [h, if_pos rfl, heap_alloc_new']
  · rw [if_neg h]
    simp only [World.alloc, Array.getElem?_push, if_neg h]
theorem size_set_h (w : World) (a : Addr) (v : Value) : (w.setCell a v).heap.size = w.heap.size := by simp
theorem size_alloc_h (w : World) (o : Obj) : (w.alloc o).heap.size = w.heap.size + 1 := by simp
theorem vcells_agg (cs : Array Value) : (Value.agg cs).cells = cs := rfl
theorem succ_ne (n : Nat) : (n + 1 = n) = False := by simp
theorem ne_succ (n : Nat) : (n = n + 1) = False := by simp
theorem RunV_zero {P : Program} {t : TypeId} {z : Value} (h : ∀ w, (zeroValue t).run P w = .ok z w) (w : World) (K : Value → World → Prop) : RunV P (zeroValue t) w K = K z w := by
  refine propext ⟨fun g => ?_, fun g => .of (h w) g⟩
  obtain ⟨v, w', h1, h2⟩ := g.spec
  rw [h w] at h1
  cases h1; exact h2
/-- new slices -/
theorem bs_one {P : Program} {t e es : Nat} (hT : STy P t e es) (h1es : 0 < es) (hes : es ≤ 4096) {w : World} {v : Value} (hv : v.cells.size = es) {K : Value → World → Prop}
    (h : K (.slice (some ⟨w.heap.size, 0, none⟩) 1 1) (w.alloc (.cells v.cells e))) : RunV P (Instr.buildSlice t 1 [(0, v)].toArray) w K := by
  obtain ⟨z, hz, hzs⟩ := hT.zero w
  refine .of (w' := w.alloc (.cells v.cells e)) ?_ h
  have hlim : ¬ (1 * es > 2 ^ 24) := by omega
  have h0 : ¬ es = 0 := by omega
  have hf : Instr.fill (fun i => some (i * es, es)) ((Array.range (1 * es)).map (z.cells[· % z.cells.size]!)) [(0, v)] = some v.cells := by
    have hlen : ∀ (l : List Value) (A : Array Value) (k : Nat), k + l.length ≤ A.size → ∀ j, ((l.zipIdx k).foldl (fun cs (c, j) => cs.setIfInBounds (0 * es + j) c) A)[j]? = if k ≤ j ∧ j < k + l.length then l[j - k]? else A[j]? := by
      intro l
      induction l with
      | nil => intro A k hk j; simp; omega
      | cons x r ih =>
        intro A k hk j
        simp only [List.zipIdx_cons, List.foldl_cons]
        rw [ih _ (k + 1) (by simp at hk ⊢; omega) j]
        simp only [List.length_cons] at hk ⊢
        by_cases hj : j = k
        · subst hj
          rw [if_neg (by omega), if_pos (by omega)]
          have hj : j < A.size := by omega
          simp [hj]
        · by_cases hin : k + 1 ≤ j ∧ j < k + 1 + r.length
          · rw [if_pos hin, if_pos (by omega), show j - k = (j - (k + 1)) + 1 by omega]; simp
          · rw [if_neg hin, if_neg (by omega), Array.getElem?_setIfInBounds_ne (by omega)]
    have hA : ((Array.range (1 * es)).map (z.cells[· % z.cells.size]!)).size = es := by simp
    simp only [Instr.fill, hv]
    rw [if_neg (by simp)]
    congr 1
    apply Array.ext_getElem?
    intro j
    have := hlen v.cells.toList ((Array.range (1 * es)).map (z.cells[· % z.cells.size]!)) 0 (by rw [hA]; simp [hv]) j
    rw [← Array.foldl_toList, Array.toList_zipIdx]
    rw [this]
    by_cases hj : j < es
    · rw [if_pos (by simp [hv]; omega)]; simp
    · rw [if_neg (by simp [hv]; omega), Array.getElem?_eq_none (by rw [hA]; omega), Array.getElem?_eq_none (by omega)]
  have hne : ¬ (1 * es = 0) := by omega
  simp only [Instr.buildSlice, Sem.run_bind, run_underlying hT.und, hT.size, Result.andThen_ok, hlim, if_false, hne, hz, Sem.run_pure, hf, newRow, newObj]
  simp [Sem.run]
theorem bs_zero {P : Program} {t e es : Nat} (hT : STy P t e es) {w : World} {K : Value → World → Prop}
    (h : K (.slice (some ⟨w.heap.size, 0, none⟩) 0 0) (w.alloc (.cells #[] e))) : RunV P (Instr.buildSlice t 0 [].toArray) w K := by
  refine .of (w' := w.alloc (.cells #[] e)) ?_ h
  have e0 : Array.range 0 = #[] := rfl
  simp [Instr.buildSlice, run_underlying hT.und, hT.size, Instr.fill, newRow, newObj, Sem.run, e0]
theorem SlAt.new (w : World) (es : Nat) (cs : Array Value) (e n : Nat) (h : cs.size = n * es) : SlAt (w.alloc (.cells cs e)) es (.slice (some ⟨w.heap.size, 0, none⟩) n n) cs.toList (some w.heap.size) :=
  .inr ⟨w.heap.size, 0, n, n, cs, e, rfl, rfl, Nat.le_refl _, by simpa using h, .of (heap_alloc_new' w _), by omega, fun i _ => by simp⟩
end Go.Vk
