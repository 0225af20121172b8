/- What the proof leans on,part 2 of 15. -/
import Derived.Test.YtgnnlaeikcnhcaaGreatDoorQHeadsPlayA
set_option linter.unusedSimpArgs false
set_option linter.unusedVariables false
section
namespace Go.Vk
open Go
theorem add_mk (b o n : Nat) : (⟨b,o,none⟩ : Addr).add n = ⟨b,o + n,none⟩ := by
  unfold Addr.add; split <;> simp_all
theorem cell_blk {w : World} {b : Nat} {cs : Array Value} {t : TypeId} {f : Nat × Nat} (h : w.heap[b]? = some (.cells cs t f)) (o : Nat) : w.cell? ⟨b,o,none⟩ = cs[o]? := by
  simp [World.cell?,h]
theorem heap_set_same {w : World} {b : Nat} {cs : Array Value} {t : TypeId} {f : Nat × Nat} (h : w.heap[b]? = some (.cells cs t f)) (o : Nat) (v : Value) :
    (w.setCell ⟨b,o,none⟩ v).heap[b]? = some (.cells (cs.setIfInBounds o v) t f) := by
  simp [World.setCell,Array.getElem?_modify,h]
theorem heap_set_other {w : World} {a : Addr} {b : Nat} (h : b ≠ a.block) (v : Value) : (w.setCell a v).heap[b]? = w.heap[b]? := by
  simp only [World.setCell,Array.getElem?_modify]
  rw [if_neg (fun e => h e.symm)]
theorem heap_alloc_new' (w : World) (o : Obj) : (w.alloc o).heap[w.heap.size]? = some o := by
  show (w.heap.push o)[w.heap.size]? = _
  simp
theorem heap_alloc_old' (w : World) (o : Obj) {b : Nat} (h : b < w.heap.size) : (w.alloc o).heap[b]? = w.heap[b]? := by
  simp only [World.alloc,Array.getElem?_push]; rw [if_neg (by omega)]
theorem blk_lt {w : World} {b : Nat} {o : Obj} (h : w.heap[b]? = some o) : b < w.heap.size := (Array.getElem?_eq_some_iff.1 h).1
def ovw (cs : Array Value) (o : Nat) : List Value → Array Value
  | [] => cs
  | v :: r => ovw (cs.setIfInBounds o v) (o + 1) r
theorem ovw_size : ∀ (l : List Value) (cs : Array Value) (o : Nat), (ovw cs o l).size = cs.size
  | [],_,_ => rfl
  | v :: r,cs,o => by simp only [ovw]; rw [ovw_size r]; simp
theorem ovw_out : ∀ (l : List Value) (cs : Array Value) (o j : Nat), j < o ∨ o + l.length ≤ j → (ovw cs o l)[j]? = cs[j]?
  | [],_,_,_,_ => rfl
  | v :: r,cs,o,j,h => by
    simp only [ovw]
    rw [ovw_out r _ _ _ (by simp only [List.length_cons] at h; omega),Array.getElem?_setIfInBounds_ne (by simp only [List.length_cons] at h; omega)]
theorem ovw_in : ∀ (l : List Value) (cs : Array Value) (o i : Nat), i < l.length → o + l.length ≤ cs.size → (ovw cs o l)[o + i]? = l[i]?
  | [],_,_,_,h,_ => by simp at h
  | v :: r,cs,o,0,h,hs => by
    simp only [ovw,Nat.add_zero]
    rw [ovw_out r _ _ _ (by omega)]
    have : o < cs.size := by simp only [List.length_cons] at hs; omega
    simp [this]
  | v :: r,cs,o,i + 1,h,hs => by
    simp only [ovw]
    rw [show o + (i + 1) = (o + 1) + i by omega,ovw_in r _ _ i (by simpa using h) (by simp at hs ⊢; omega)]
    simp
theorem setCells_same : ∀ (l : List Value) (w : World) (b o i : Nat) (cs : Array Value) (t : TypeId) (f : Nat × Nat),w.heap[b]? = some (.cells cs t f) →
    (setCells w ⟨b,o,none⟩ l i).heap[b]? = some (.cells (ovw cs (o + i) l) t f)
  | [],_,_,_,_,_,_,_,h => h
  | v :: r,w,b,o,i,cs,t,f,h => by
    simp only [setCells,ovw,add_mk]
    exact setCells_same r _ b o (i + 1) _ t f (heap_set_same h _ v)
theorem setCells_other : ∀ (l : List Value) (w : World) (a : Addr) (i b : Nat), b ≠ a.block → (setCells w a l i).heap[b]? = w.heap[b]?
  | [],_,_,_,_,_ => rfl
  | v :: r,w,a,i,b,h => by
    simp only [setCells]
    have e : (a.add i).block = a.block := by unfold Addr.add; split <;> rfl
    rw [setCells_other r _ a (i + 1) b h,heap_set_other (by rw [e]; exact h)]
theorem setCells_size : ∀ (l : List Value) (w : World) (a : Addr) (i : Nat), (setCells w a l i).heap.size = w.heap.size
  | [],_,_,_ => rfl
  | v :: r,w,a,i => by simp only [setCells]; rw [setCells_size r]; simp
structure Alike (w w' : World) : Prop where
  os : w'.os = w.os
  tape : w'.tape = w.tape
  output : w'.output = w.output
  size : w.heap.size ≤ w'.heap.size
theorem Alike.refl (w : World) : Alike w w := ⟨rfl,rfl,rfl,Nat.le_refl _⟩
theorem Alike.trans {a b c : World} (h : Alike a b) (k : Alike b c) : Alike a c := ⟨k.os.trans h.os,k.tape.trans h.tape,k.output.trans h.output,Nat.le_trans h.size k.size⟩
theorem Alike.drew (w : World) : Alike w w.drew := ⟨rfl,rfl,rfl,Nat.le_refl _⟩
theorem Alike.alloc (w : World) (o : Obj) : Alike w (w.alloc o) := ⟨rfl,rfl,rfl,by simp⟩
theorem Alike.setCell (w : World) (a : Addr) (v : Value) : Alike w (w.setCell a v) := ⟨rfl,rfl,rfl,by simp⟩
theorem Alike.setCells : ∀ (l : List Value) (w : World) (a : Addr) (i : Nat), Alike w (setCells w a l i)
  | [],w,_,_ => .refl w
  | v :: r,w,a,i => (Alike.setCell w _ v).trans (Alike.setCells r _ a (i + 1))
structure Upd (F : Nat → Prop) (w w' : World) : Prop where
  alike : Alike w w'
  same : ∀ b,b < w.heap.size → ¬ F b → w'.heap[b]? = w.heap[b]?
theorem Upd.refl (F : Nat → Prop) (w : World) : Upd F w w := ⟨.refl w,fun _ _ _ => rfl⟩
theorem Upd.mono {F G : Nat → Prop} {w w' : World} (h : Upd F w w') (hs : ∀ b,b < w.heap.size → F b → G b) : Upd G w w' := ⟨h.alike,fun b hb hg => h.same b hb fun hf => hg (hs b hb hf)⟩
theorem Upd.trans {F G : Nat → Prop} {a b c : World} (h : Upd F a b) (k : Upd G b c) (hg : ∀ i,i < a.heap.size → G i → F i) : Upd F a c :=
  ⟨h.alike.trans k.alike,fun i hi hf => (k.same i (Nat.lt_of_lt_of_le hi h.alike.size) fun hg' => hf (hg i hi hg')).trans (h.same i hi hf)⟩
theorem Upd.drew (F : Nat → Prop) (w : World) : Upd F w w.drew := ⟨.drew w,fun _ _ _ => rfl⟩
theorem Upd.alloc (F : Nat → Prop) (w : World) (o : Obj) : Upd F w (w.alloc o) := ⟨.alloc w o,fun _ hb _ => heap_alloc_old' w o hb⟩
theorem Upd.setCell {F : Nat → Prop} {a : Addr} (w : World) (h : F a.block) (v : Value) : Upd F w (w.setCell a v) := ⟨.setCell w a v,fun _ _ hf => heap_set_other (fun e => hf (by rw [e]; exact h)) v⟩
theorem Upd.setCells {F : Nat → Prop} {a : Addr} (w : World) (h : F a.block) (l : List Value) (i : Nat) : Upd F w (setCells w a l i) :=
  ⟨.setCells l w a i,fun _ _ hf => setCells_other l w a i _ (fun e => hf (by rw [e]; exact h))⟩
def none_ : Nat → Prop := fun _ => False
def Ext (w w' : World) : Prop := Upd none_ w w'
theorem Ext.refl (w : World) : Ext w w := Upd.refl _ w
theorem Ext.trans {a b c : World} (h : Ext a b) (k : Ext b c) : Ext a c := Upd.trans h k fun _ _ h => h
theorem Ext.heap {w w' : World} (h : Ext w w') {b : Nat} (hb : b < w.heap.size) : w'.heap[b]? = w.heap[b]? := h.same b hb id
theorem Ext.upd {F : Nat → Prop} {w w' : World} (h : Ext w w') : Upd F w w' := h.mono fun _ _ h => h.elim
theorem Ext.blk {w w' : World} (h : Ext w w') {b : Nat} {o : Obj} (hb : w.heap[b]? = some o) : w'.heap[b]? = some o := (h.heap (blk_lt hb)).trans hb
theorem Ext.drew (w : World) : Ext w w.drew := Upd.drew _ w
theorem Ext.alloc (w : World) (o : Obj) : Ext w (w.alloc o) := Upd.alloc _ w o
def HB (w : World) (b : Nat) (cs : Array Value) (t : TypeId) : Prop := ∃ f : Nat × Nat,(f.2 ≤ f.1 ∨ cs.size ≤ f.1) ∧ w.heap[b]? = some (.cells cs t f)
theorem HB.of {w : World} {b : Nat} {cs : Array Value} {t : TypeId} (h : w.heap[b]? = some (.cells cs t (0,0))) : HB w b cs t := ⟨(0,0),.inl (Nat.le_refl _),h⟩
theorem HB.lt {w : World} {b : Nat} {cs : Array Value} {t : TypeId} (h : HB w b cs t) : b < w.heap.size := let ⟨_,_,h⟩ := h; blk_lt h
theorem HB.cell {w : World} {b : Nat} {cs : Array Value} {t : TypeId} (h : HB w b cs t) (o : Nat) : w.cell? ⟨b,o,none⟩ = cs[o]? := let ⟨_,_,h⟩ := h; cell_blk h o
theorem HB.can {w : World} {b : Nat} {cs : Array Value} {t : TypeId} (h : HB w b cs t) {o : Nat} (ho : o < cs.size) : canStore w ⟨b,o,none⟩ := by
  obtain ⟨f,hf,h⟩ := h
  refine ⟨⟨cs[o],by rw [cell_blk h]; simp [ho]⟩,?_⟩
  simp [World.frozen?,h]; omega
theorem HB.set {w : World} {b : Nat} {cs : Array Value} {t : TypeId} (h : HB w b cs t) (o : Nat) (v : Value) : HB (w.setCell ⟨b,o,none⟩ v) b (cs.setIfInBounds o v) t := by
  obtain ⟨f,hf,h⟩ := h
  exact ⟨f,by simpa using hf,heap_set_same h o v⟩
theorem HB.sets {w : World} {b : Nat} {cs : Array Value} {t : TypeId} (h : HB w b cs t) (l : List Value) (o i : Nat) : HB (setCells w ⟨b,o,none⟩ l i) b (ovw cs (o + i) l) t := by
  obtain ⟨f,hf,h⟩ := h
  exact ⟨f,by rw [ovw_size]; exact hf,setCells_same l w b o i cs t f h⟩
theorem HB.frame {w w' : World} {b : Nat} {cs : Array Value} {t : TypeId} (h : HB w b cs t) (e : w'.heap[b]? = w.heap[b]?) : HB w' b cs t := let ⟨f,hf,h⟩ := h; ⟨f,hf,e.trans h⟩
theorem drew_h (w : World) : w.drew.heap = w.heap := by cases w; rfl
theorem drew_size (w : World) : w.drew.heap.size = w.heap.size := by rw [drew_h]
theorem Upd.put {F : Nat → Prop} {a b : World} (h : Upd F a b) {x : Addr} {v : Value} (hx : F x.block) : Upd F a (b.setCell x v) := h.trans (Upd.setCell b hx v) fun _ _ h => h
theorem Upd.put2 {F : Nat → Prop} {a b : World} (h : Upd F a b) {x : Addr} {v : Value} (hx : x.block < a.heap.size → F x.block) : Upd F a (b.setCell x v) :=
  Upd.trans h (Upd.setCell (F := fun i => i = x.block) b rfl v) fun i hi e => by subst e; exact hx hi
theorem Upd.drewR {F : Nat → Prop} {a b : World} (h : Upd F a b) : Upd F a b.drew := h.trans (Upd.drew F b) fun _ _ h => h
def SlAt (w : World) (es : Nat) (v : Value) (cells : List Value) (bo : Option Nat) : Prop :=
  (bo = none ∧ v = .slice none 0 0 ∧ cells = []) ∨
  ∃ b o n c cs t,bo = some b ∧ v = .slice (some ⟨b,o,none⟩) n c ∧ n ≤ c ∧ cells.length = n * es ∧ HB w b cs t ∧ o + c * es ≤ cs.size ∧ ∀ i,i < cells.length → cs[o + i]? = cells[i]?
theorem SlAt.nil (w : World) (es : Nat) : SlAt w es (.slice none 0 0) [] none := .inl ⟨rfl,rfl,rfl⟩
theorem SlAt.lt {w : World} {es : Nat} {v : Value} {cells : List Value} {b : Nat} (h : SlAt w es v cells (some b)) : b < w.heap.size := by
  rcases h with ⟨h,_⟩ | ⟨b,o,n,c,cs,t,hb,_,_,_,hh,_⟩
  · cases h
  · cases hb; exact hh.lt
theorem SlAt.frame {w w' : World} {es : Nat} {v : Value} {cells : List Value} {bo : Option Nat} (h : SlAt w es v cells bo) (hb : ∀ b,bo = some b → w'.heap[b]? = w.heap[b]?) : SlAt w' es v cells bo := by
  rcases h with h | ⟨b,o,n,c,cs,t,h1,h2,h3,h4,h5,h6⟩
  · exact .inl h
  · exact .inr ⟨b,o,n,c,cs,t,h1,h2,h3,h4,h5.frame (hb b h1),h6⟩
theorem SlAt.ext {w w' : World} {es : Nat} {v : Value} {cells : List Value} {bo : Option Nat} (h : SlAt w es v cells bo) (he : Ext w w') : SlAt w' es v cells bo :=
  h.frame fun b hb => he.heap (by subst hb; exact h.lt)
theorem SlAt.upd {F : Nat → Prop} {w w' : World} {es : Nat} {v : Value} {cells : List Value} {bo : Option Nat} (h : SlAt w es v cells bo) (he : Upd F w w') (hF : ∀ b,bo = some b → ¬ F b) : SlAt w' es v cells bo :=
  h.frame fun b hb => he.same b (by subst hb; exact h.lt) (hF b hb)
theorem SlAt.len {w : World} {es : Nat} {v : Value} {cells : List Value} {bo : Option Nat} (h : SlAt w es v cells bo) : ∃ a n c,v = .slice a n c ∧ n ≤ c ∧ cells.length = n * es := by
  rcases h with ⟨_,rfl,rfl⟩ | ⟨b,o,n,c,cs,t,_,rfl,h3,h4,_⟩
  · exact ⟨none,0,0,rfl,Nat.le_refl _,by simp⟩
  · exact ⟨_,n,c,rfl,h3,h4⟩
/- APPEND -/
theorem growBy_le (need : Nat) : ∀ (r c : Nat), c ≤ need → Builtin.growBy need r c ≤ 2 * need + 1000
  | 0,c,h => by simp only [Builtin.growBy]; omega
  | r + 1,c,h => by
    simp only [Builtin.growBy]
    split
    · omega
    · by_cases h' : c + (c + 768) / 4 ≤ need
      · exact growBy_le need r _ h'
      · cases r with
        | zero => simp only [Builtin.growBy]; omega
        | succ r => simp only [Builtin.growBy]; rw [if_pos (by omega)]; omega
theorem nextcap_le {need old : Nat} (h : old < need) : Builtin.nextslicecap need old ≤ 2 * need + 1000 := by
  unfold Builtin.nextslicecap
  split
  · omega
  · split
    · omega
    · exact growBy_le need 4 old (by omega)
structure STy (P : Program) (t e es : Nat) : Prop where
  und : P.underlying t = some (.slice e)
  size : ∀ w,(sizeOf e).run P w = .ok es w
  bytes : ∀ w,∃ i,(typeInfo e).run P w = .ok i w ∧ 0 < i.bytes ∧ i.bytes ≤ 1024
  zero : ∀ w,∃ z,(zeroValue e).run P w = .ok z w ∧ z.cells.size = es
def RdAt (w : World) (es : Nat) (v : Value) (cells : List Value) : Prop :=
  ∃ a n c,v = .slice a n c ∧ n ≤ c ∧ cells.length = n * es ∧ ∀ i u,cells[i]? = some u → ∃ b o,a = some ⟨b,o,none⟩ ∧ w.cell? ⟨b,o + i,none⟩ = some u
theorem cell_ext {w w' : World} (hx : Ext w w') {b o : Nat} {v : Value} (h : w.cell? ⟨b,o,none⟩ = some v) : w'.cell? ⟨b,o,none⟩ = some v := by
  have hl : b < w.heap.size := by
    by_cases hl : b < w.heap.size
    · exact hl
    · unfold World.cell? at h
      rw [Array.getElem?_eq_none (by simpa using hl)] at h; simp at h
  unfold World.cell? at h ⊢
  simp only at h ⊢
  rw [hx.heap hl]; exact h
theorem RdAt.ext {w w' : World} {es : Nat} {v : Value} {cells : List Value} (h : RdAt w es v cells) (hx : Ext w w') : RdAt w' es v cells := by
  obtain ⟨a,n,c,h1,h2,h3,h4⟩ := h
  refine ⟨a,n,c,h1,h2,h3,fun i u hu => ?_⟩
  obtain ⟨b,o,h5,h6⟩ := h4 i u hu
  exact ⟨b,o,h5,cell_ext hx h6⟩
theorem SlAt.rd {w : World} {es : Nat} {v : Value} {cells : List Value} {bo : Option Nat} (h : SlAt w es v cells bo) : RdAt w es v cells := by
  rcases h with ⟨_,h2,h3⟩ | ⟨b,o,n,c,cs,t,h1,h2,h3,h4,h5,h6,h7⟩
  · subst h3; exact ⟨none,0,0,h2,Nat.le_refl _,by simp,fun i u hu => by simp at hu⟩
  · refine ⟨_, n, c, h2, h3, h4, fun i u hu => ⟨b, o, rfl, ?_⟩⟩
    rw [h5.cell,h7 i (List.getElem?_eq_some_iff.1 hu).1]; exact hu
theorem firstCells_rd {P : Program} {w : World} {es n c : Nat} {a : Option Addr} {cells : List Value} (h : RdAt w es (.slice a n c) cells) (hn : cells.length = n * es) :
    (Builtin.firstCells es n (.slice a n c)).run P w = .ok cells.toArray w := by
  obtain ⟨a',n',c',e,_,_,h4⟩ := h
  cases e
  cases a with
  | none =>
    have : cells = [] := by
      cases cells with
      | nil => rfl
      | cons x r => obtain ⟨b,o,e,_⟩ := h4 0 x rfl; cases e
    subst this
    simp [Builtin.firstCells]
  | some a =>
    have hc : cellsAt w a cells := by
      intro i v hv
      obtain ⟨b,o,e,h5⟩ := h4 i v hv
      cases e
      rw [add_mk]; exact h5
    have hr := run_loadCells (P := P) hc
    rw [hn] at hr
    simpa [Builtin.firstCells] using hr
theorem firstCells_run {P : Program} {w : World} {es n : Nat} {v : Value} {cells : List Value} {bo : Option Nat} (h : SlAt w es v cells bo) (hn : cells.length = n * es) :
    (Builtin.firstCells es n v).run P w = .ok cells.toArray w := by
  rcases h with ⟨_,rfl,rfl⟩ | ⟨b,o,m,c,cs,t,_,rfl,h3,h4,h5,h6,h7⟩
  · simp [Builtin.firstCells]
  · have : cellsAt w ⟨b,o,none⟩ cells := by
      intro i v hv
      rw [add_mk,h5.cell,h7 i (List.getElem?_eq_some_iff.1 hv).1]; exact hv
    have hr := run_loadCells (P := P) this
    rw [hn] at hr
    simpa [Builtin.firstCells] using hr
theorem zeroCells_size (z : Array Value) (n : Nat) : (Builtin.zeroCells z n).size = n * z.size := by simp [Builtin.zeroCells]
set_option maxHeartbeats 1000000 in
theorem app_spec_rd {P : Program} {t e es t2 e2 ty : Nat} (hT : STy P t e es) (hT2 : P.underlying t2 = some (.slice e2)) (hes : 0 < es) {w : World} {s x : Value} {c1 c2 : List Value} {b1 : Option Nat}
    (h1 : SlAt w es s c1 b1) (h2 : RdAt w es x c2) (ho : c2.all oneCell = true) (hl : c1.length + c2.length ≤ 4294967296) {K : Value → World → Prop}
    (hfit : ∀ v w',SlAt w' es v (c1 ++ c2) b1 → Upd (fun b => b1 = some b) w w' → w'.heap.size = w.heap.size → (c2 = [] → v = s ∧ w' = w) →
      (∃ a n c m,s = .slice a n c ∧ v = .slice a (n + m) c ∧ n + m ≤ c ∧ c2.length = m * es) → K v w')
    (hgrow : ∀ v w',SlAt w' es v (c1 ++ c2) (some w.heap.size) → Ext w w' → c2 ≠ [] → (∃ n c,v = .slice (some ⟨w.heap.size,0,none⟩) n c ∧ c1.length + c2.length = n * es) → w.heap.size < w'.heap.size → (∀ a n c m,s = .slice a n c → c2.length = m * es → c < n + m) → K v w') : RunV P (Builtin.append_ #[t,t2] ty #[s,x]) w K := by
  obtain ⟨a1,n1,k1,rfl,hk1,hc1⟩ := h1.len
  have h2' := h2
  obtain ⟨a2,n2,k2,rfl,hk2,hc2,_⟩ := h2'
  have hf1 := firstCells_run (P := P) h1 hc1
  have hf2 := firstCells_rd (P := P) h2 hc2
  by_cases hfits : n1 + n2 ≤ k1
  · have key : ∃ w',(Builtin.append_ #[t,t2] ty #[.slice a1 n1 k1,.slice a2 n2 k2]).run P w = .ok (.slice a1 (n1 + n2) k1) w' ∧ SlAt w' es (.slice a1 (n1 + n2) k1) (c1 ++ c2) b1 ∧ Upd (fun b => b1 = some b) w w' ∧
        w'.heap.size = w.heap.size ∧ (c2 = [] → w' = w) := by
      rcases h1 with ⟨rfl,hv,rfl⟩ | ⟨b,o,m,c,cs,tt,rfl,hv,h3,h4,h5,h6,h7⟩
      · cases hv
        have hn2 : n2 = 0 := by omega
        subst hn2
        have hc2' : c2 = [] := List.length_eq_zero_iff.1 (by omega)
        subst hc2'
        refine ⟨w,?_,.inl ⟨rfl,rfl,rfl⟩,.refl _ _,rfl,fun _ => rfl⟩
        simp [Builtin.append_,run_underlying hT.und,run_underlying hT2,hT.size,Builtin.lenOf,hf2]
      · cases hv
        have hin : n1 * es + n2 * es ≤ k1 * es := by rw [← Nat.add_mul]; exact Nat.mul_le_mul_right _ hfits
        have hst := run_storeCells (P := P) (a := ⟨b,o + n1 * es,none⟩) c2 0 w ho (fun j _ hj => by rw [add_mk]; exact h5.can (by omega))
        refine ⟨setCells w ⟨b,o + n1 * es,none⟩ c2 0,?_,.inr ⟨b,o,n1 + n2,k1,ovw cs (o + n1 * es) c2,tt,rfl,rfl,hfits,by rw [List.length_append,hc1,hc2,Nat.add_mul],?_,by rw [ovw_size]; exact h6,?_⟩,
          Upd.setCells (F := fun i => some b = some i) w rfl c2 0,setCells_size _ _ _ _,fun h => by subst h; rfl⟩
        · simp [Builtin.append_,run_underlying hT.und,run_underlying hT2,hT.size,Builtin.lenOf,hf2,hfits,add_mk,hst]
        · exact h5.sets c2 (o + n1 * es) 0
        · intro i hi
          rw [List.length_append] at hi
          by_cases hlt : i < c1.length
          · rw [ovw_out _ _ _ _ (by omega),h7 i hlt,List.getElem?_append_left hlt]
          · rw [List.getElem?_append_right (by omega)]
            have := ovw_in c2 cs (o + n1 * es) (i - c1.length) (by omega) (by omega)
            rw [show o + n1 * es + (i - c1.length) = o + i by omega] at this
            exact this
    obtain ⟨w',hr,hS,hU,hz,hw⟩ := key
    refine .of hr (hfit _ _ hS hU hz (fun h => ⟨?_,hw h⟩) ⟨a1,n1,k1,n2,rfl,rfl,hfits,hc2⟩)
    have : n2 * es = 0 := by rw [← hc2,h]; rfl
    have hn2 : n2 = 0 := by
      rcases Nat.mul_eq_zero.1 this with h | h
      · exact h
      · omega
    rw [hn2]; rfl
  · have hn12 : n1 + n2 ≤ 4294967296 := by
      have a1 : n1 ≤ n1 * es := Nat.le_mul_of_pos_right _ hes
      have a2 : n2 ≤ n2 * es := Nat.le_mul_of_pos_right _ hes
      omega
    have hcap := nextcap_le (need := n1 + n2) (old := k1) (by omega)
    obtain ⟨i,hi,hi1,hi2⟩ := hT.bytes w
    obtain ⟨i',hi',_,_⟩ := hT.bytes w.drew
    have hii : i' = i := by
      have e1 : (typeInfo e).run P w.drew = (match (typeInfo e).run P w with | .ok x _ => .ok x w.drew | .halt h _ => .halt h w.drew) := by
        simp only [typeInfo,program,Sem.run_bind,Sem.run,Result.andThen_ok]
        cases P.info? e <;> simp [stuck,Sem.run]
      rw [hi] at e1
      rw [hi'] at e1
      cases e1; rfl
    subst hii
    obtain ⟨z,hz,hzs⟩ := hT.zero w.drew
    have hbytes : ¬ (Builtin.nextslicecap (n1 + n2) k1 * i'.bytes > 2 ^ 48) := by
      have : Builtin.nextslicecap (n1 + n2) k1 * i'.bytes ≤ (2 * (n1 + n2) + 1000) * 1024 := Nat.mul_le_mul hcap hi2
      omega
    have h1' : SlAt w.drew es (.slice a1 n1 k1) c1 b1 := h1.ext (Ext.drew w)
    have h2' : RdAt w.drew es (.slice a2 n2 k2) c2 := h2.ext (Ext.drew w)
    have hf1' := firstCells_run (P := P) h1' hc1
    have hf2' := firstCells_rd (P := P) h2' hc2
    have hroom : ∀ (n : Nat) (w : World),(askRoom n).run P w = .ok () w := by
      intro n w; unfold askRoom; split <;> simp [mark,Sem.run]
    let nc := (Question.appendCap (n1 + n2) k1 e).cut (w.tape w.drawn (.appendCap (n1 + n2) k1 e))
    have hnc : n1 + n2 ≤ nc := by simp only [nc,Question.cut]; omega
    have hch : (choose (.appendCap (n1 + n2) k1 e)).run P w = .ok nc w.drew := by
      rfl
    have hr : (Builtin.append_ #[t, t2] ty #[.slice a1 n1 k1, .slice a2 n2 k2]).run P w =
        .ok (.slice (some ⟨w.heap.size,0,none⟩) (n1 + n2) nc) (w.drew.alloc (.cells (c1.toArray ++ c2.toArray ++ Builtin.zeroCells z.cells (nc - (n1 + n2))) e)) := by
      have hb0 : ¬ (i'.bytes = 0) := by omega
      simp only [Builtin.append_,List.getElem?_toArray,List.getElem?_cons_zero,List.getElem?_cons_succ,Sem.run_bind,Sem.run_pure,Result.andThen_ok,run_underlying hT.und,run_underlying hT2,hT.size,Builtin.lenOf,
        Bool.false_eq_true,if_false,hfits,hi,hb0,false_or,and_false,hbytes,hch,hroom,hi',hf1',Bool.not_false,if_true,hf2',hz,newRow,newObj]
      simp [Sem.run,World.alloc_eq]
      rfl
    refine .of hr (hgrow _ _ ?_ ((Ext.drew w).trans (Ext.alloc _ _)) ?_ ⟨_,_,rfl,by rw [hc1,hc2,Nat.add_mul]⟩ (by simp) fun a n c m e hm => by
      cases e
      have : n2 = m := Nat.eq_of_mul_eq_mul_right hes (hc2.symm.trans hm)
      omega)
    · refine .inr ⟨w.heap.size, 0, n1 + n2, nc, _, e, rfl, rfl, hnc, by rw [List.length_append, hc1, hc2, Nat.add_mul], .of (heap_alloc_new' w.drew _), ?_, ?_⟩
      · simp only [Array.size_append, List.size_toArray, zeroCells_size, hzs, hc1, hc2]
        rw [← Nat.add_mul,← Nat.add_mul]
        rw [show n1 + n2 + (nc - (n1 + n2)) = nc by omega]
        omega
      · intro i hi
        rw [Nat.zero_add,Array.getElem?_append_left (by simpa using hi)]
        simp
    · intro h
      subst h
      simp only [List.length_nil] at hc2
      rcases Nat.mul_eq_zero.1 hc2.symm with h | h <;> omega
theorem app_spec {P : Program} {t e es t2 e2 ty : Nat} (hT : STy P t e es) (hT2 : P.underlying t2 = some (.slice e2)) (hes : 0 < es) {w : World} {s x : Value} {c1 c2 : List Value} {b1 b2 : Option Nat}
    (h1 : SlAt w es s c1 b1) (h2 : SlAt w es x c2 b2) (ho : c2.all oneCell = true) (hl : c1.length + c2.length ≤ 4294967296) {K : Value → World → Prop}
    (hfit : ∀ v w',SlAt w' es v (c1 ++ c2) b1 → Upd (fun b => b1 = some b) w w' → w'.heap.size = w.heap.size → (c2 = [] → v = s ∧ w' = w) →
      (∃ a n c m,s = .slice a n c ∧ v = .slice a (n + m) c ∧ n + m ≤ c ∧ c2.length = m * es) → K v w')
    (hgrow : ∀ v w',SlAt w' es v (c1 ++ c2) (some w.heap.size) → Ext w w' → c2 ≠ [] → (∃ n c,v = .slice (some ⟨w.heap.size,0,none⟩) n c ∧ c1.length + c2.length = n * es) → w.heap.size < w'.heap.size → K v w') : RunV P (Builtin.append_ #[t,t2] ty #[s,x]) w K := app_spec_rd hT hT2 hes h1 h2.rd ho hl hfit fun v w' g1 g2 g3 g4 g5 _ => hgrow v w' g1 g2 g3 g4 g5
/- ELEMENTS -/
theorem SlAt.inv {w : World} {es b o n c : Nat} {cells : List Value} {bo : Option Nat} (h : SlAt w es (.slice (some ⟨b,o,none⟩) n c) cells bo) :
    bo = some b ∧ n ≤ c ∧ cells.length = n * es ∧ ∃ cs t,HB w b cs t ∧ o + c * es ≤ cs.size ∧ ∀ i,i < cells.length → cs[o + i]? = cells[i]? := by
  rcases h with ⟨_,h,_⟩ | ⟨b',o',n',c',cs,t,rfl,hv,h3,h4,h5,h6,h7⟩
  · cases h
  · cases hv; exact ⟨rfl,h3,h4,cs,t,h5,h6,h7⟩
theorem SlAt.get {w : World} {es b o n c : Nat} {cells : List Value} {bo : Option Nat} (h : SlAt w es (.slice (some ⟨b,o,none⟩) n c) cells bo) {i : Nat} {v : Value} (hi : cells[i]? = some v) :
    w.cell? ⟨b,o + i,none⟩ = some v := by
  obtain ⟨_,_,_,cs,t,h5,_,h7⟩ := h.inv
  rw [h5.cell,h7 i (List.getElem?_eq_some_iff.1 hi).1]; exact hi
theorem SlAt.can {w : World} {es b o n c : Nat} {cells : List Value} {bo : Option Nat} (h : SlAt w es (.slice (some ⟨b,o,none⟩) n c) cells bo) {i : Nat} (hi : i < cells.length) :
    canStore w ⟨b,o + i,none⟩ := by
  obtain ⟨_,h3,h4,cs,t,h5,h6,h7⟩ := h.inv
  refine h5.can ?_
  have : n * es ≤ c * es := Nat.mul_le_mul_right _ h3
  omega
theorem SlAt.set {w : World} {es b o n c : Nat} {cells : List Value} {bo : Option Nat} (h : SlAt w es (.slice (some ⟨b,o,none⟩) n c) cells bo) {i : Nat} (hi : i < cells.length) (v : Value) :
    SlAt (w.setCell ⟨b,o + i,none⟩ v) es (.slice (some ⟨b,o,none⟩) n c) (cells.set i v) bo := by
  obtain ⟨h1,h3,h4,cs,t,h5,h6,h7⟩ := h.inv
  refine .inr ⟨b,o,n,c,_,t,h1,rfl,h3,by simpa using h4,h5.set _ v,by simpa using h6,fun j hj => ?_⟩
  rw [List.length_set] at hj
  have hsz : o + i < cs.size := by
    have : n * es ≤ c * es := Nat.mul_le_mul_right _ h3
    omega
  by_cases e : i = j
  · subst e; simp [hsz,hi]
  · rw [Array.getElem?_setIfInBounds_ne (by omega),List.getElem?_set_ne e]; exact h7 j hj
theorem SlAt.some_of {w : World} {es : Nat} {v : Value} {l : List Value} {bo : Option Nat} (h : SlAt w es v l bo) (hl : l ≠ []) : ∃ b o n c,v = .slice (some ⟨b,o,none⟩) n c ∧ bo = some b := by
  rcases h with ⟨_,_,h⟩ | ⟨b,o,n,c,cs,t,h1,h2,_⟩
  · exact absurd h hl
  · exact ⟨b,o,n,c,h2,h1⟩
theorem SlAt.part {w : World} {es b o n c : Nat} {cells : List Value} {bo : Option Nat} (h : SlAt w es (.slice (some ⟨b,o,none⟩) n c) cells bo) {l k m : Nat} (h1 : l ≤ k) (h2 : k ≤ n) (h3 : k ≤ m) (h4 : m ≤ c) :
    SlAt w es (.slice (some ⟨b,o + l * es,none⟩) (k - l) (m - l)) ((cells.drop (l * es)).take ((k - l) * es)) bo := by
  obtain ⟨g1,g3,g4,cs,t,g5,g6,g7⟩ := h.inv
  have e1 : l * es ≤ k * es := Nat.mul_le_mul_right _ h1
  have e2 : k * es ≤ n * es := Nat.mul_le_mul_right _ h2
  have e3 : k * es ≤ m * es := Nat.mul_le_mul_right _ h3
  have e4 : m * es ≤ c * es := Nat.mul_le_mul_right _ h4
  have e5 : (k - l) * es = k * es - l * es := Nat.sub_mul _ _ _
  have e6 : (m - l) * es = m * es - l * es := Nat.sub_mul _ _ _
  refine .inr ⟨b,o + l * es,k - l,m - l,cs,t,g1,rfl,by omega,?_,g5,by omega,fun i hi => ?_⟩
  · simp only [List.length_take,List.length_drop]; omega
  · simp only [List.length_take, List.length_drop] at hi
    rw [List.getElem?_take,if_pos (by omega),List.getElem?_drop,show o + l * es + i = o + (l * es + i) by omega]
    exact g7 _ (by omega)
theorem app_to_rd {P : Program} {t e es t2 e2 ty : Nat} (hT : STy P t e es) (hT2 : P.underlying t2 = some (.slice e2)) (hes : 0 < es) {w : World} {s x : Value} {c1 c2 : List Value} {b1 : Option Nat}
    (h1 : SlAt w es s c1 b1) (h2 : RdAt w es x c2) (ho : c2.all oneCell = true) (hl : c1.length + c2.length ≤ 4294967296) {K : Value → World → Prop}
    (h : ∀ v w' bo,SlAt w' es v (c1 ++ c2) bo → Upd (fun b => b1 = some b) w w' → (∀ b,bo = some b → b1 = some b ∨ w.heap.size ≤ b) → K v w') : RunV P (Builtin.append_ #[t,t2] ty #[s,x]) w K := by
  refine app_spec_rd hT hT2 hes h1 h2 ho hl ?_ ?_
  · intro v w' g1 g2 _ _ _
    exact h v w' b1 g1 g2 fun b hb => .inl hb
  · intro v w' g1 g2 _ _ _ _
    exact h v w' _ g1 g2.upd fun b hb => by cases hb; exact .inr (Nat.le_refl _)
theorem app_in {P : Program} {t e es t2 e2 ty : Nat} (hT : STy P t e es) (hT2 : P.underlying t2 = some (.slice e2)) (hes : 0 < es) {w : World} {a : Option Addr} {n1 k1 m : Nat} {x : Value} {c1 c2 : List Value} {b1 : Option Nat}
    (h1 : SlAt w es (.slice a n1 k1) c1 b1) (h2 : RdAt w es x c2) (ho : c2.all oneCell = true) (hl : c1.length + c2.length ≤ 4294967296) (hm : c2.length = m * es) (hf : n1 + m ≤ k1) {K : Value → World → Prop}
    (h : ∀ w',SlAt w' es (.slice a (n1 + m) k1) (c1 ++ c2) b1 → Upd (fun b => b1 = some b) w w' → K (.slice a (n1 + m) k1) w') : RunV P (Builtin.append_ #[t,t2] ty #[.slice a n1 k1,x]) w K := by
  refine app_spec_rd hT hT2 hes h1 h2 ho hl ?_ ?_
  · intro v w' g1 g2 _ _ ⟨a', n, c, m', e1, e2, _, e4⟩
    cases e1
    have : m' = m := Nat.eq_of_mul_eq_mul_right hes (e4.symm.trans hm)
    subst this
    subst e2
    exact h w' g1 g2
  · intro v w' _ _ _ _ _ g
    have := g _ _ _ _ rfl hm
    omega
theorem app_to {P : Program} {t e es t2 e2 ty : Nat} (hT : STy P t e es) (hT2 : P.underlying t2 = some (.slice e2)) (hes : 0 < es) {w : World} {s x : Value} {c1 c2 : List Value} {b1 b2 : Option Nat}
    (h1 : SlAt w es s c1 b1) (h2 : SlAt w es x c2 b2) (ho : c2.all oneCell = true) (hl : c1.length + c2.length ≤ 4294967296) {K : Value → World → Prop}
    (h : ∀ v w' bo,SlAt w' es v (c1 ++ c2) bo → Upd (fun b => b1 = some b) w w' → (∀ b,bo = some b → b1 = some b ∨ w.heap.size ≤ b) → K v w') : RunV P (Builtin.append_ #[t,t2] ty #[s,x]) w K := app_to_rd hT hT2 hes h1 h2.rd ho hl h
/- memory as blocks: equations for a walk that writes and reads blocks of its own -/
def cellO (o : Option Obj) (k : Nat) : Option Value := match o with
  | some (.cells cs _ _) => cs[k]?
  | _ => none
def frozO (o : Option Obj) (k : Nat) : Bool := match o with
  | some (.cells _ _ f) => decide (f.1 ≤ k ∧ k < f.2)
  | _ => false
def canO (o : Option Obj) (k : Nat) : Prop := (∃ u,cellO o k = some u) ∧ frozO o k = false
def setO (o : Option Obj) (k : Nat) (v : Value) : Option Obj := match o with
  | some (.cells cs t f) => some (.cells (cs.setIfInBounds k v) t f)
  | o => o
theorem cell_h (w : World) (b o : Nat) : w.cell? ⟨b,o,none⟩ = cellO (w.heap[b]?) o := by
  unfold World.cell? cellO
  cases hb : w.heap[b]? with
  | none => simp [hb]
  | some x => cases x <;> simp [hb]
theorem froz_h (w : World) (b o : Nat) : w.frozen? ⟨b,o,none⟩ = frozO (w.heap[b]?) o := by
  unfold World.frozen? frozO
  cases hb : w.heap[b]? with
  | none => simp [hb]
  | some x => cases x <;> simp [hb]
theorem can_h (w : World) (b o : Nat) : canStore w ⟨b,o,none⟩ = canO (w.heap[b]?) o := by
  unfold canStore canO; rw [cell_h,froz_h]
theorem cellO_cells (cs : Array Value) (t : TypeId) (f : Nat × Nat) (k : Nat) : cellO (some (.cells cs t f)) k = cs[k]? := by simp only [cellO]
theorem canO_cells (cs : Array Value) (t : TypeId) (k : Nat) : canO (some (.cells cs t (0,0))) k = (k < cs.size) := by
  refine propext ⟨fun h => ?_,fun h => ⟨⟨cs[k],?_⟩,?_⟩⟩
  · obtain ⟨⟨u, hu⟩, _⟩ := h
    exact (Array.getElem?_eq_some_iff.1 hu).1
  · simp [cellO,h]
  · simp [frozO]
theorem setO_cells (cs : Array Value) (t : TypeId) (f : Nat × Nat) (k : Nat) (v : Value) : setO (some (.cells cs t f)) k v = some (.cells (cs.setIfInBounds k v) t f) := by simp only [setO]
theorem heap_set_h (w : World) (a b o : Nat) (v : Value) : (w.setCell ⟨a,o,none⟩ v).heap[b]? = if b = a then setO (w.heap[b]?) o v else w.heap[b]? := by
  by_cases h : b = a
  · subst h
    rw [if_pos rfl]
    cases hb : w.heap[b]? with
    | none => simp [World.setCell,Array.getElem?_modify,hb,setO]
    | some x => cases x <;> simp [World.setCell,Array.getElem?_modify,hb,setO]
  · rw [if_neg h,heap_set_other (by simpa using h)]
theorem heap_alloc_h (w : World) (b : Nat) (o : Obj) : (w.alloc o).heap[b]? = if b = w.heap.size then some o else w.heap[b]? := by
  by_cases h : b = w.heap.size
  · rw [h,if_pos rfl,heap_alloc_new']
  · rw [if_neg h]
    simp only [World.alloc,Array.getElem?_push,if_neg h]
theorem size_set_h (w : World) (a : Addr) (v : Value) : (w.setCell a v).heap.size = w.heap.size := by simp
theorem size_alloc_h (w : World) (o : Obj) : (w.alloc o).heap.size = w.heap.size + 1 := by simp
theorem vcells_agg (cs : Array Value) : (Value.agg cs).cells = cs := rfl
theorem succ_ne (n : Nat) : (n + 1 = n) = False := by simp
theorem ne_succ (n : Nat) : (n = n + 1) = False := by simp
theorem RunV_zero {P : Program} {t : TypeId} {z : Value} (h : ∀ w,(zeroValue t).run P w = .ok z w) (w : World) (K : Value → World → Prop) : RunV P (zeroValue t) w K = K z w := by
  refine propext ⟨fun g => ?_,fun g => .of (h w) g⟩
  obtain ⟨v,w',h1,h2⟩ := g.spec
  rw [h w] at h1
  cases h1; exact h2
theorem bs_one {P : Program} {t e es : Nat} (hT : STy P t e es) (h1es : 0 < es) (hes : es ≤ 4096) {w : World} {v : Value} (hv : v.cells.size = es) {K : Value → World → Prop}
    (h : K (.slice (some ⟨w.heap.size,0,none⟩) 1 1) (w.alloc (.cells v.cells e))) : RunV P (Instr.buildSlice t 1 [(0,v)].toArray) w K := by
  obtain ⟨z,hz,hzs⟩ := hT.zero w
  refine .of (w' := w.alloc (.cells v.cells e)) ?_ h
  have hlim : ¬ (1 * es > 2 ^ 24) := by omega
  have h0 : ¬ es = 0 := by omega
  have hf : Instr.fill (fun i => some (i * es,es)) ((Array.range (1 * es)).map (z.cells[· % z.cells.size]!)) [(0,v)] = some v.cells := by
    have hlen : ∀ (l : List Value) (A : Array Value) (k : Nat),k + l.length ≤ A.size → ∀ j,((l.zipIdx k).foldl (fun cs (c,j) => cs.setIfInBounds (0 * es + j) c) A)[j]? = if k ≤ j ∧ j < k + l.length then l[j - k]? else A[j]? := by
      intro l
      induction l with
      | nil => intro A k hk j; simp; omega
      | cons x r ih =>
        intro A k hk j
        simp only [List.zipIdx_cons,List.foldl_cons]
        rw [ih _ (k + 1) (by simp at hk ⊢; omega) j]
        simp only [List.length_cons] at hk ⊢
        by_cases hj : j = k
        · subst hj
          rw [if_neg (by omega),if_pos (by omega)]
          have hj : j < A.size := by omega
          simp [hj]
        · by_cases hin : k + 1 ≤ j ∧ j < k + 1 + r.length
          · rw [if_pos hin,if_pos (by omega),show j - k = (j - (k + 1)) + 1 by omega]; simp
          · rw [if_neg hin,if_neg (by omega),Array.getElem?_setIfInBounds_ne (by omega)]
    have hA : ((Array.range (1 * es)).map (z.cells[· % z.cells.size]!)).size = es := by simp
    simp only [Instr.fill,hv]
    rw [if_neg (by simp)]
    congr 1
    apply Array.ext_getElem?
    intro j
    have := hlen v.cells.toList ((Array.range (1 * es)).map (z.cells[· % z.cells.size]!)) 0 (by rw [hA]; simp [hv]) j
    rw [← Array.foldl_toList,Array.toList_zipIdx]
    rw [this]
    by_cases hj : j < es
    · rw [if_pos (by simp [hv]; omega)]; simp
    · rw [if_neg (by simp [hv]; omega),Array.getElem?_eq_none (by rw [hA]; omega),Array.getElem?_eq_none (by omega)]
  have hne : ¬ (1 * es = 0) := by omega
  simp only [Instr.buildSlice,Sem.run_bind,run_underlying hT.und,hT.size,Result.andThen_ok,hlim,if_false,hne,hz,Sem.run_pure,hf,newRow,newObj]
  simp [Sem.run]
theorem bs_zero {P : Program} {t e es : Nat} (hT : STy P t e es) {w : World} {K : Value → World → Prop}
    (h : K (.slice (some ⟨w.heap.size,0,none⟩) 0 0) (w.alloc (.cells #[] e))) : RunV P (Instr.buildSlice t 0 [].toArray) w K := by
  refine .of (w' := w.alloc (.cells #[] e)) ?_ h
  have e0 : Array.range 0 = #[] := rfl
  simp [Instr.buildSlice,run_underlying hT.und,hT.size,Instr.fill,newRow,newObj,Sem.run,e0]
theorem SlAt.new (w : World) (es : Nat) (cs : Array Value) (e n : Nat) (h : cs.size = n * es) : SlAt (w.alloc (.cells cs e)) es (.slice (some ⟨w.heap.size,0,none⟩) n n) cs.toList (some w.heap.size) :=
  .inr ⟨w.heap.size,0,n,n,cs,e,rfl,rfl,Nat.le_refl _,by simpa using h,.of (heap_alloc_new' w _),by omega,fun i _ => by simp⟩
end Go.Vk
end
section
namespace Go.Proofs.YtgnnlaeikcnhcaaGreatDoor
open Go Go.Vk
attribute [push_cast] Wo_nil Wo_plain Wo_on Wo_off Wo_skip guardV_t guardV_f guardV_tf guardV_ft guardV_u gtmp Option.bind_some Option.bind_none vcOp on_some evO_tmp evO_const evO_global evO_func find_hit find_miss put_some put_none only_true vcNil loadD onCells allStore vcBin vcInt arith vcStr isPtr isSlice isBool vcUn vcConv vcField vcIndex vcIdx vcLoad vcLen vcBuiltin vcCall vcPas Bool.not_true Bool.not_false cond_true cond_false Bool.cond_false_right Bool.cond_true_left Bool.cond_true_right Bool.cond_false_left Bool.not_not Bool.and_true Bool.true_and Bool.and_false Bool.false_and Bool.or_false Bool.false_or Bool.or_true Bool.true_or  and_assoc add_mk Nat.zero_add Nat.add_zero Int.toNat_natCast undef onL onO onP pickV withSz oneCell bnd vcBounds vcSlice List.size_toArray List.length_cons List.length_nil List.all_cons List.all_nil pureSem Option.some.injEq Value.pointer.injEq Value.int.injEq Value.bool.injEq Value.slice.injEq Value.string.injEq Value.agg.injEq Value.tuple.injEq Value.func.injEq exists_eq_left' and_true true_and Bool.not_eq_true Option.isNone_some Option.isNone_none Bool.false_eq_true false_and and_false false_implies true_implies implies_true decide_true decide_false forall_const List.getElem?_toArray List.getElem?_cons_succ List.getElem?_cons_zero ne_eq not_false_eq_true exists_and_left List.nil_append List.append_nil exists_const and_self Option.isSome_none Option.isSome_some Nat.mul_one Nat.one_mul Nat.zero_mul vcStore argR Go.Vk.Sub resL resV Func.results List.toList_toArray if_true if_false
attribute [push_cast] Tryz.underlying0 Tryz.sizeOf0 Tryz.underlying1 Tryz.sizeOf1 Tryz.underlying2 Tryz.sizeOf2 Tryz.underlying3 Tryz.sizeOf3 Tryz.underlying4 Tryz.sizeOf4 Tryz.underlying5 Tryz.sizeOf5 Tryz.underlying6 Tryz.sizeOf6 Tryz.underlying7 Tryz.sizeOf7 Tryz.underlying8 Tryz.sizeOf8 Tryz.underlying9 Tryz.sizeOf9 Tryz.underlying10 Tryz.sizeOf10 Tryz.underlying11 Tryz.sizeOf11 Tryz.underlying12 Tryz.sizeOf12 Tryz.underlying13 Tryz.sizeOf13 Tryz.underlying14 Tryz.sizeOf14 Tryz.underlying15 Tryz.sizeOf15 Tryz.underlying16 Tryz.sizeOf16 Tryz.underlying17 Tryz.sizeOf17 Tryz.underlying18 Tryz.sizeOf18 Tryz.underlying19 Tryz.sizeOf19 Tryz.underlying20 Tryz.sizeOf20 Tryz.underlying21 Tryz.sizeOf21 Tryz.underlying22 Tryz.sizeOf22 Tryz.underlying23 Tryz.sizeOf23 Tryz.underlying24 Tryz.sizeOf24 Tryz.underlying25 Tryz.sizeOf25 Tryz.underlying26 Tryz.sizeOf26 Tryz.underlying27 Tryz.sizeOf27 Tryz.underlying28 Tryz.sizeOf28 Tryz.underlying29 Tryz.sizeOf29 Tryz.underlying30 Tryz.sizeOf30 Tryz.underlying31 Tryz.sizeOf31 Tryz.underlying32 Tryz.sizeOf32 Tryz.underlying33 Tryz.sizeOf33 Tryz.underlying34 Tryz.sizeOf34 Tryz.underlying35 Tryz.sizeOf35 Tryz.underlying36 Tryz.sizeOf36 Tryz.underlying37 Tryz.sizeOf37 Tryz.underlying38 Tryz.sizeOf38 Tryz.underlying39 Tryz.sizeOf39 Tryz.underlying40 Tryz.sizeOf40 Tryz.underlying41 Tryz.sizeOf41 Tryz.underlying42 Tryz.sizeOf42 Tryz.underlying43 Tryz.sizeOf43 Tryz.underlying44 Tryz.sizeOf44 Tryz.underlying45 Tryz.sizeOf45 Tryz.underlying46 Tryz.sizeOf46 Tryz.underlying47 Tryz.sizeOf47 Tryz.underlying48 Tryz.sizeOf48 Tryz.underlying49 Tryz.sizeOf49 Tryz.underlying50 Tryz.sizeOf50 Tryz.underlying51 Tryz.sizeOf51 Tryz.underlying52 Tryz.sizeOf52 Tryz.underlying53 Tryz.sizeOf53 Tryz.underlying54 Tryz.sizeOf54 Tryz.underlying55 Tryz.sizeOf55 Tryz.underlying56 Tryz.sizeOf56 Tryz.underlying57 Tryz.sizeOf57 Tryz.underlying58 Tryz.sizeOf58 Tryz.underlying59 Tryz.sizeOf59 Tryz.underlying60 Tryz.sizeOf60 Tryz.underlying61 Tryz.sizeOf61 Tryz.underlying62 Tryz.sizeOf62 Tryz.underlying63 Tryz.sizeOf63 Tryz.underlying64 Tryz.sizeOf64 Tryz.underlying65 Tryz.sizeOf65 Tryz.underlying66 Tryz.sizeOf66 Tryz.underlying67 Tryz.sizeOf67 Tryz.underlying68 Tryz.sizeOf68 Tryz.underlying69 Tryz.sizeOf69 Tryz.underlying70 Tryz.sizeOf70 Tryz.underlying71 Tryz.sizeOf71 Tryz.underlying72 Tryz.sizeOf72 Tryz.underlying73 Tryz.sizeOf73 Tryz.underlying74 Tryz.sizeOf74 Tryz.underlying75 Tryz.sizeOf75 Tryz.underlying76 Tryz.sizeOf76 Tryz.underlying77 Tryz.sizeOf77 Tryz.underlying78 Tryz.sizeOf78 Tryz.underlying79 Tryz.sizeOf79 Tryz.underlying80 Tryz.sizeOf80 Tryz.underlying81 Tryz.sizeOf81 Tryz.underlying82 Tryz.sizeOf82 Tryz.underlying83 Tryz.sizeOf83 Tryz.underlying84 Tryz.sizeOf84 Tryz.underlying85 Tryz.sizeOf85 Tryz.underlying86 Tryz.sizeOf86 Tryz.underlying87 Tryz.sizeOf87 Tryz.underlying88 Tryz.sizeOf88 Tryz.underlying89 Tryz.sizeOf89 Tryz.underlying90 Tryz.sizeOf90 Tryz.underlying91 Tryz.sizeOf91 Tryz.underlying92 Tryz.sizeOf92 Tryz.underlying93 Tryz.sizeOf93 Tryz.underlying94 Tryz.sizeOf94 Tryz.underlying95 Tryz.sizeOf95 Tryz.underlying96 Tryz.sizeOf96 Tryz.underlying97 Tryz.sizeOf97 Tryz.underlying98 Tryz.sizeOf98 Tryz.underlying99 Tryz.sizeOf99 Tryz.underlying100 Tryz.sizeOf100 Tryz.underlying101 Tryz.sizeOf101 Tryz.underlying102 Tryz.sizeOf102 Tryz.underlying103 Tryz.sizeOf103 Tryz.underlying104 Tryz.sizeOf104 Tryz.underlying105 Tryz.sizeOf105 Tryz.underlying106 Tryz.sizeOf106 Tryz.underlying107 Tryz.sizeOf107 Tryz.underlying108 Tryz.sizeOf108 Tryz.underlying109 Tryz.sizeOf109 Tryz.underlying110 Tryz.sizeOf110 Tryz.underlying111 Tryz.sizeOf111 Tryz.underlying112 Tryz.sizeOf112 Tryz.underlying113 Tryz.sizeOf113 Tryz.underlying114 Tryz.sizeOf114 Tryz.underlying115 Tryz.sizeOf115 Tryz.underlying116 Tryz.sizeOf116 Tryz.underlying117 Tryz.sizeOf117 Tryz.underlying118 Tryz.sizeOf118 Tryz.underlying119 Tryz.sizeOf119 Tryz.underlying120 Tryz.sizeOf120 Tryz.underlying121 Tryz.sizeOf121 Tryz.underlying122 Tryz.sizeOf122 Tryz.underlying123 Tryz.sizeOf123 Tryz.underlying124 Tryz.sizeOf124 Tryz.underlying125 Tryz.sizeOf125 Tryz.underlying126 Tryz.sizeOf126 Tryz.underlying127 Tryz.sizeOf127 Tryz.underlying128 Tryz.sizeOf128 Tryz.underlying129 Tryz.sizeOf129 Tryz.underlying130 Tryz.sizeOf130 Tryz.underlying131 Tryz.sizeOf131 Tryz.underlying132 Tryz.sizeOf132 Tryz.underlying133 Tryz.sizeOf133 Tryz.underlying134 Tryz.sizeOf134 Tryz.underlying135 Tryz.sizeOf135 Tryz.underlying136 Tryz.sizeOf136 Tryz.underlying137 Tryz.sizeOf137 Tryz.underlying138 Tryz.sizeOf138 Tryz.underlying139 Tryz.sizeOf139 Tryz.underlying140 Tryz.sizeOf140 Tryz.underlying141 Tryz.sizeOf141 Tryz.underlying142 Tryz.sizeOf142 Tryz.underlying143 Tryz.sizeOf143 Tryz.underlying144 Tryz.sizeOf144 Tryz.underlying145 Tryz.sizeOf145 Tryz.underlying146 Tryz.sizeOf146 Tryz.underlying147 Tryz.sizeOf147 Tryz.underlying148 Tryz.sizeOf148 Tryz.underlying149 Tryz.sizeOf149 Tryz.underlying150 Tryz.sizeOf150 Tryz.underlying151 Tryz.sizeOf151 Tryz.underlying152 Tryz.sizeOf152 Tryz.underlying153 Tryz.sizeOf153 Tryz.underlying154 Tryz.sizeOf154 Tryz.underlying155 Tryz.sizeOf155 Tryz.underlying156 Tryz.sizeOf156 Tryz.underlying157 Tryz.sizeOf157 Tryz.underlying158 Tryz.sizeOf158 Tryz.underlying159 Tryz.sizeOf159 Tryz.underlying160 Tryz.sizeOf160 Tryz.underlying161 Tryz.sizeOf161 Tryz.underlying162 Tryz.sizeOf162 Tryz.underlying163 Tryz.sizeOf163 Tryz.underlying164 Tryz.sizeOf164 Tryz.underlying165 Tryz.sizeOf165 Tryz.underlying166 Tryz.sizeOf166 Tryz.underlying167 Tryz.sizeOf167 Tryz.underlying168 Tryz.sizeOf168 Tryz.underlying169 Tryz.sizeOf169 Tryz.underlying170 Tryz.sizeOf170 Tryz.underlying171 Tryz.sizeOf171 Tryz.underlying172 Tryz.sizeOf172 Tryz.underlying173 Tryz.sizeOf173 Tryz.underlying174 Tryz.sizeOf174 Tryz.underlying175 Tryz.sizeOf175 Tryz.underlying176 Tryz.sizeOf176 Tryz.underlying177 Tryz.sizeOf177 Tryz.underlying178 Tryz.sizeOf178 Tryz.underlying179 Tryz.sizeOf179 Tryz.underlying180 Tryz.sizeOf180 Tryz.underlying181 Tryz.sizeOf181 Tryz.underlying182 Tryz.sizeOf182 Tryz.underlying183 Tryz.sizeOf183 Tryz.underlying184 Tryz.sizeOf184 Tryz.underlying185 Tryz.sizeOf185 Tryz.underlying186 Tryz.sizeOf186 Tryz.underlying187 Tryz.sizeOf187 Tryz.underlying188 Tryz.sizeOf188 Tryz.underlying189 Tryz.sizeOf189 Tryz.underlying190 Tryz.sizeOf190 Tryz.underlying191 Tryz.sizeOf191 Tryz.underlying192 Tryz.sizeOf192 Tryz.underlying193 Tryz.sizeOf193 Tryz.underlying194 Tryz.sizeOf194 Tryz.underlying195 Tryz.sizeOf195 Tryz.underlying196 Tryz.sizeOf196 Tryz.underlying197 Tryz.sizeOf197 Tryz.underlying198 Tryz.sizeOf198 Tryz.underlying199 Tryz.sizeOf199 Tryz.underlying200 Tryz.sizeOf200 Tryz.underlying201 Tryz.sizeOf201 Tryz.underlying202 Tryz.sizeOf202 Tryz.underlying203 Tryz.sizeOf203 Tryz.underlying204 Tryz.sizeOf204 Tryz.underlying205 Tryz.sizeOf205 Tryz.underlying206 Tryz.sizeOf206 Tryz.underlying207 Tryz.sizeOf207 Tryz.underlying208 Tryz.sizeOf208 Tryz.underlying209 Tryz.sizeOf209 Tryz.underlying210 Tryz.sizeOf210 Tryz.underlying211 Tryz.sizeOf211 Tryz.underlying212 Tryz.sizeOf212 Tryz.underlying213 Tryz.sizeOf213 Tryz.underlying214 Tryz.sizeOf214 Tryz.underlying215 Tryz.sizeOf215 Tryz.underlying216 Tryz.sizeOf216 Tryz.underlying217 Tryz.sizeOf217 Tryz.underlying218 Tryz.sizeOf218 Tryz.underlying219 Tryz.sizeOf219 Tryz.underlying220 Tryz.sizeOf220 Tryz.underlying221 Tryz.sizeOf221 Tryz.underlying222 Tryz.sizeOf222 Tryz.underlying223 Tryz.sizeOf223 Tryz.underlying224 Tryz.sizeOf224 Tryz.underlying225 Tryz.sizeOf225 Tryz.underlying226 Tryz.sizeOf226 Tryz.underlying227 Tryz.sizeOf227 Tryz.underlying228 Tryz.sizeOf228 Tryz.underlying229 Tryz.sizeOf229 Tryz.underlying230 Tryz.sizeOf230 Tryz.underlying231 Tryz.sizeOf231 Tryz.underlying232 Tryz.sizeOf232 Tryz.underlying233 Tryz.sizeOf233 Tryz.underlying234 Tryz.sizeOf234 Tryz.underlying235 Tryz.sizeOf235 Tryz.underlying236 Tryz.sizeOf236 Tryz.underlying237 Tryz.sizeOf237 Tryz.underlying238 Tryz.sizeOf238 Tryz.underlying239 Tryz.sizeOf239 Tryz.underlying240 Tryz.sizeOf240 Tryz.underlying241 Tryz.sizeOf241 Tryz.underlying242 Tryz.sizeOf242 Tryz.underlying243 Tryz.sizeOf243 Tryz.underlying244 Tryz.sizeOf244 Tryz.underlying245 Tryz.sizeOf245 Tryz.underlying246 Tryz.sizeOf246 Tryz.underlying247 Tryz.sizeOf247 Tryz.underlying248 Tryz.sizeOf248 Tryz.underlying249 Tryz.sizeOf249 Tryz.underlying250 Tryz.sizeOf250
attribute [push_cast] Tryz.results0 Tryz.results1 Tryz.results2 Tryz.results3 Tryz.results4 Tryz.results5 Tryz.results6 Tryz.results7 Tryz.results8 Tryz.results9 Tryz.results10 Tryz.results11 Tryz.results12 Tryz.results13 Tryz.results14 Tryz.results15 Tryz.results16 Tryz.results17 Tryz.results18 Tryz.results19 Tryz.results20 Tryz.results21 Tryz.results22 Tryz.results23 Tryz.results24 Tryz.results25 Tryz.results26 Tryz.results27 Tryz.results28 Tryz.results29 Tryz.results30 Tryz.results31 Tryz.results32 Tryz.results33 Tryz.results34 Tryz.results35 Tryz.results36 Tryz.results37 Tryz.results38 Tryz.results39 Tryz.results40 Tryz.results41 Tryz.results42 Tryz.results43 Tryz.results44 Tryz.results45 Tryz.results46 Tryz.results47 Tryz.results48 Tryz.results49 Tryz.results50 Tryz.results51 Tryz.results52 Tryz.results53 Tryz.results54 Tryz.results55 Tryz.results56 Tryz.results57 Tryz.results58 Tryz.results59 Tryz.results60 Tryz.results61 Tryz.results62 Tryz.results63 Tryz.results64 Tryz.results65 Tryz.results66 Tryz.results67 Tryz.results68 Tryz.results69 Tryz.results70 Tryz.results71 Tryz.results72 Tryz.results73 Tryz.results74 Tryz.results75 Tryz.results76 Tryz.results77 Tryz.results78 Tryz.results79 Tryz.results80 Tryz.results81 Tryz.results82 Tryz.results83 Tryz.results84 Tryz.results85 Tryz.results86 Tryz.results87 Tryz.results88 Tryz.results89 Tryz.results90 Tryz.results91 Tryz.results92 Tryz.results93 Tryz.results94 Tryz.results95 Tryz.results96 Tryz.results97 Tryz.results98 Tryz.results99 Tryz.results100 Tryz.results101 Tryz.results102 Tryz.results103 Tryz.results104 Tryz.results105 Tryz.results106 Tryz.results107 Tryz.results108 Tryz.results109 Tryz.results110 Tryz.results111 Tryz.results112 Tryz.results113 Tryz.results114 Tryz.results115 Tryz.results116 Tryz.results117 Tryz.results118 Tryz.results119 Tryz.results120 Tryz.results121 Tryz.results122 Tryz.results123 Tryz.results124 Tryz.results125 Tryz.results126 Tryz.results127 Tryz.results128 Tryz.results129 Tryz.results130 Tryz.results131 Tryz.results132 Tryz.results133 Tryz.results134 Tryz.results135 Tryz.results136 Tryz.results137 Tryz.results138 Tryz.results139 Tryz.results140 Tryz.results141 Tryz.results142 Tryz.results143 Tryz.results144 Tryz.results145 Tryz.results146 Tryz.results147 Tryz.results148 Tryz.results149 Tryz.results150 Tryz.results151 Tryz.results152 Tryz.results153 Tryz.results154 Tryz.results155 Tryz.results156 Tryz.results157 Tryz.results158 Tryz.results159 Tryz.results160 Tryz.results161 Tryz.results162 Tryz.results163 Tryz.results164 Tryz.results165 Tryz.results166 Tryz.results167 Tryz.results168 Tryz.results169 Tryz.results170 Tryz.results171 Tryz.results172 Tryz.results173 Tryz.results174 Tryz.results175 Tryz.results176 Tryz.results177 Tryz.results178 Tryz.results179 Tryz.results180 Tryz.results181 Tryz.results182 Tryz.results183 Tryz.results184 Tryz.results185 Tryz.results186 Tryz.results187 Tryz.results188 Tryz.results189 Tryz.results190 Tryz.results191 Tryz.results192 Tryz.results193 Tryz.results194 Tryz.results195 Tryz.results196 Tryz.results197 Tryz.results198 Tryz.results199 Tryz.results200 Tryz.results201 Tryz.results202 Tryz.results203 Tryz.results204 Tryz.results205 Tryz.results206 Tryz.results207 Tryz.results208 Tryz.results209 Tryz.results210 Tryz.results211 Tryz.results212 Tryz.results213 Tryz.results214 Tryz.results215 Tryz.results216 Tryz.results217 Tryz.results218 Tryz.results219 Tryz.results220 Tryz.results221 Tryz.results222 Tryz.results223 Tryz.results224 Tryz.results225 Tryz.results226 Tryz.results227 Tryz.results228 Tryz.results229 Tryz.results230 Tryz.results231 Tryz.results232 Tryz.results233 Tryz.results234 Tryz.results235 Tryz.results236 Tryz.results237 Tryz.results238 Tryz.results239 Tryz.results240 Tryz.results241 Tryz.results242 Tryz.results243 Tryz.results244 Tryz.results245 Tryz.results246 Tryz.results247 Tryz.results248 Tryz.results249 Tryz.results250 Tryz.results251 Tryz.results252 Tryz.results253 Tryz.results254 Tryz.results255 Tryz.results256 Tryz.results257 Tryz.results258 Tryz.results259 Tryz.results260 Tryz.results261 Tryz.results262 Tryz.results263 Tryz.results264 Tryz.results265 Tryz.results266 Tryz.results267 Tryz.results268 Tryz.results269 Tryz.results270 Tryz.results271 Tryz.results272 Tryz.results273 Tryz.results274 Tryz.results275 Tryz.results276 Tryz.results277 Tryz.results278 Tryz.results279 Tryz.results280 Tryz.results281 Tryz.results282 Tryz.results283 Tryz.results284 Tryz.results285 Tryz.results286 Tryz.results287 Tryz.results288 Tryz.results289 Tryz.results290 Tryz.results291 Tryz.results292 Tryz.results293 Tryz.results294 Tryz.results295 Tryz.results296 Tryz.results297 Tryz.results298 Tryz.results299 Tryz.results300
end Go.Proofs.YtgnnlaeikcnhcaaGreatDoor
end
section
namespace Go.Vk
open Go
structure Nd where
  kind : Int
  name : ByteArray
  text : ByteArray
  space : Int
  attrs : List (ByteArray × ByteArray)
  dup : Bool
  parent : Int
  content : Int
  kids : List Int
  frm : Int
  to : Int
def attrCells (l : List (ByteArray × ByteArray)) : List Value := l.flatMap fun a => [.string a.1,.string a.2]
def intCells (l : List Int) : List Value := l.map (Value.int .i64)
theorem attrCells_length (l : List (ByteArray × ByteArray)) : (attrCells l).length = l.length * 2 := by
  induction l with
  | nil => rfl
  | cons a r ih => simp only [attrCells,List.flatMap_cons] at ih ⊢; rw [List.length_append,ih]; simp; omega
theorem intCells_length (l : List Int) : (intCells l).length = l.length := by simp [intCells]
theorem attrCells_one (l : List (ByteArray × ByteArray)) : (attrCells l).all oneCell = true := by
  induction l with
  | nil => rfl
  | cons a r ih => simp only [attrCells,List.flatMap_cons] at ih ⊢; rw [List.all_append,ih]; simp [oneCell]
theorem intCells_one (l : List Int) : (intCells l).all oneCell = true := by simp [intCells,oneCell]
theorem attrCells_append (a b : List (ByteArray × ByteArray)) : attrCells (a ++ b) = attrCells a ++ attrCells b := by simp [attrCells]
theorem intCells_append (a b : List Int) : intCells (a ++ b) = intCells a ++ intCells b := by simp [intCells]
structure Laid where
  nd : Nd
  av : Value
  kv : Value
  ab : Option Nat
  kb : Option Nat
def Laid.cells (m : Laid) : List Value := [.int .i64 m.nd.kind,.string m.nd.name,.string m.nd.text,.int .i64 m.nd.space,m.av,.bool m.nd.dup,.int .i64 m.nd.parent,.int .i64 m.nd.content,m.kv,.int .i64 m.nd.frm,.int .i64 m.nd.to]
theorem Laid.cells_length (m : Laid) : m.cells.length = 11 := rfl
def Laid.blks (m : Laid) : List Nat := m.ab.toList ++ m.kb.toList
structure Laid.ok (w : World) (m : Laid) : Prop where
  attrs : SlAt w 2 m.av (attrCells m.nd.attrs) m.ab
  kids : SlAt w 1 m.kv (intCells m.nd.kids) m.kb
theorem Laid.ok.lt {w : World} {m : Laid} (h : m.ok w) {b : Nat} (hb : b ∈ m.blks) : b < w.heap.size := by
  simp only [Laid.blks,List.mem_append,Option.mem_toList] at hb
  rcases hb with hb | hb
  · have := h.attrs; rw [hb] at this; exact this.lt
  · have := h.kids; rw [hb] at this; exact this.lt
theorem Laid.ok.upd {G : Nat → Prop} {w w' : World} {m : Laid} (h : m.ok w) (hu : Upd G w w') (hG : ∀ b,b ∈ m.blks → ¬ G b) : m.ok w' :=
  ⟨h.attrs.upd hu fun b hb => hG b (by simp [Laid.blks,hb]),h.kids.upd hu fun b hb => hG b (by simp [Laid.blks,hb])⟩
def flat (M : List Laid) : List Value := M.flatMap Laid.cells
theorem flat_length (M : List Laid) : (flat M).length = M.length * 11 := by
  induction M with
  | nil => rfl
  | cons m r ih => simp only [flat,List.flatMap_cons,List.length_append,List.length_cons] at ih ⊢; rw [ih,m.cells_length]; omega
theorem flat_get : ∀ (M : List Laid) (i j : Nat) (m : Laid), M[i]? = some m → j < 11 → (flat M)[i * 11 + j]? = m.cells[j]?
  | [],_,_,_,h,_ => by simp at h
  | x :: r,0,j,m,h,hj => by
    simp at h; subst h
    simp only [flat,List.flatMap_cons]
    rw [List.getElem?_append_left (by rw [x.cells_length]; omega)]; simp
  | x :: r,i + 1,j,m,h,hj => by
    simp only [flat,List.flatMap_cons]
    rw [List.getElem?_append_right (by rw [x.cells_length]; omega),x.cells_length,show (i + 1) * 11 + j - 11 = i * 11 + j by omega]
    exact flat_get r i j m (by simpa using h) hj
theorem flat_set : ∀ (M : List Laid) (i j : Nat) (m m' : Laid) (v : Value), M[i]? = some m → j < 11 → m'.cells = m.cells.set j v → (flat M).set (i * 11 + j) v = flat (M.set i m')
  | [],_,_,_,_,_,h,_,_ => by simp at h
  | x :: r,0,j,m,m',v,h,hj,hc => by
    simp at h; subst h
    simp only [flat,List.flatMap_cons,List.set_cons_zero]
    rw [List.set_append_left _ _ (by rw [x.cells_length]; omega),hc]; simp
  | x :: r,i + 1,j,m,m',v,h,hj,hc => by
    simp only [flat,List.flatMap_cons,List.set_cons_succ]
    rw [List.set_append_right _ _ (by rw [x.cells_length]; omega),x.cells_length,show (i + 1) * 11 + j - 11 = i * 11 + j by omega]
    have := flat_set r i j m m' v (by simpa using h) hj hc
    simp only [flat] at this
    rw [this]
def blocks (pa bn : Nat) (M : List Laid) : List Nat := pa :: bn :: M.flatMap Laid.blks
structure ArM (w : World) (pa bn cap : Nat) (M : List Laid) : Prop where
  hdr : ∃ t,w.heap[pa]? = some (.cells #[.slice (some ⟨bn,0,none⟩) M.length cap] t (0,0))
  body : SlAt w 11 (.slice (some ⟨bn,0,none⟩) M.length cap) (flat M) (some bn)
  sub : ∀ m ∈ M,m.ok w
  own : (blocks pa bn M).Nodup
def Ar (w : World) (pa : Nat) (L : List Nd) (F : Nat → Prop) : Prop := ∃ bn cap M,ArM w pa bn cap M ∧ M.map Laid.nd = L ∧ ∀ b ∈ blocks pa bn M,F b
section
variable {w w1 w' : World} {pa bn cap i : Nat} {M : List Laid} {m : Laid}
theorem ArM.lt (h : ArM w pa bn cap M) {b : Nat} (hb : b ∈ blocks pa bn M) : b < w.heap.size := by
  simp only [blocks,List.mem_cons,List.mem_flatMap] at hb
  rcases hb with rfl | rfl | ⟨m,hm,hb⟩
  · obtain ⟨t,ht⟩ := h.hdr; exact blk_lt ht
  · exact h.body.lt
  · exact (h.sub m hm).lt hb
theorem ArM.head (h : ArM w pa bn cap M) : w.cell? ⟨pa,0,none⟩ = some (.slice (some ⟨bn,0,none⟩) M.length cap) := by
  obtain ⟨t,ht⟩ := h.hdr
  rw [cell_blk ht]; rfl
theorem ArM.cell (h : ArM w pa bn cap M) (hi : M[i]? = some m) {j : Nat} (hj : j < 11) : w.cell? ⟨bn,i * 11 + j,none⟩ = m.cells[j]? := by
  have hf := flat_get M i j m hi hj
  have hj' : j < m.cells.length := by rw [m.cells_length]; exact hj
  have := h.body.get (i := i * 11 + j) (v := m.cells[j]) (by rw [hf]; simp)
  rw [List.getElem?_eq_getElem hj']
  simpa using this
theorem ArM.can (h : ArM w pa bn cap M) (hi : i < M.length) {j : Nat} (hj : j < 11) : canStore w ⟨bn,i * 11 + j,none⟩ := by
  have := h.body.can (i := i * 11 + j) (by rw [flat_length]; omega)
  simpa using this
theorem ArM.frame {G : Nat → Prop} (h : ArM w pa bn cap M) (hu : Upd G w w') (hG : ∀ b ∈ blocks pa bn M,¬ G b) : ArM w' pa bn cap M := by
  refine ⟨?_,h.body.upd hu fun b hb => ?_,fun m hm => (h.sub m hm).upd hu fun b hb => hG b ?_,h.own⟩
  · obtain ⟨t, ht⟩ := h.hdr
    exact ⟨t,(hu.same pa (blk_lt ht) (hG pa (by simp [blocks]))).trans ht⟩
  · cases hb; exact hG bn (by simp [blocks])
  · simp only [blocks,List.mem_cons,List.mem_flatMap]; exact .inr (.inr ⟨m,hm,hb⟩)
theorem Ar.frame {F G : Nat → Prop} {L : List Nd} (h : Ar w pa L F) (hu : Upd G w w') (hG : ∀ b,F b → ¬ G b) : Ar w' pa L F := by
  obtain ⟨bn,cap,M,h1,h2,h3⟩ := h
  exact ⟨bn,cap,M,h1.frame hu fun b hb => hG b (h3 b hb),h2,h3⟩
theorem Ar.ext {F : Nat → Prop} {L : List Nd} (h : Ar w pa L F) (hu : Ext w w') : Ar w' pa L F := h.frame hu fun _ _ h => h.elim
theorem Ar.mono {F G : Nat → Prop} {L : List Nd} (h : Ar w pa L F) (hG : ∀ b,b < w.heap.size → F b → G b) : Ar w pa L G := by
  obtain ⟨bn,cap,M,h1,h2,h3⟩ := h
  exact ⟨bn,cap,M,h1,h2,fun b hb => hG b (h1.lt hb) (h3 b hb)⟩
theorem nodup_repl {a b x y : List Nat} (h : (a ++ x ++ b).Nodup) (hy : y.Nodup) (hn : ∀ i ∈ y,i ∈ x ∨ (i ∉ a ∧ i ∉ b)) : (a ++ y ++ b).Nodup := by
  rw [List.nodup_append] at h ⊢
  obtain ⟨h1,h2,h3⟩ := h
  rw [List.nodup_append] at h1 ⊢
  obtain ⟨g1,g2,g3⟩ := h1
  refine ⟨⟨g1,hy,fun i hi j hj e => ?_⟩,h2,fun i hi j hj e => ?_⟩
  · subst e
    rcases hn i hj with h | h
    · exact g3 i hi i h rfl
    · exact h.1 hi
  · subst e
    rcases List.mem_append.1 hi with hi | hi
    · exact h3 i (by simp [hi]) i hj rfl
    · rcases hn i hi with h | h
      · exact h3 i (by simp [h]) i hj rfl
      · exact h.2 hj
theorem split_at {α : Type} : ∀ (l : List α) (i : Nat) (x : α), l[i]? = some x → ∃ a b, l = a ++ x :: b ∧ a.length = i
  | [],_,_,h => by simp at h
  | y :: r,0,x,h => by simp at h; subst h; exact ⟨[],r,rfl,rfl⟩
  | y :: r,i + 1,x,h => by
    obtain ⟨a,b,h1,h2⟩ := split_at r i x (by simpa using h)
    exact ⟨y :: a,b,by rw [h1]; rfl,by simp [h2]⟩
theorem set_split {α : Type} (a b : List α) (x y : α) : (a ++ x :: b).set a.length y = a ++ y :: b := by
  rw [List.set_append_right _ _ (Nat.le_refl _)]; simp
theorem ArM.repl {G : Nat → Prop} (h : ArM w pa bn cap M) (hi : M[i]? = some m) (m' : Laid) (j : Nat) (v : Value) (hc : m'.cells = m.cells.set j v) (hj : j < 11)
    (hu : Upd G w w1) (hG : ∀ b,b < w.heap.size → G b → b ∈ m.blks) (hok : m'.ok w1) (hb : ∀ b ∈ m'.blks,b ∈ m.blks ∨ w.heap.size ≤ b) (hnd : m'.blks.Nodup) :
    ArM (w1.setCell ⟨bn,i * 11 + j,none⟩ v) pa bn cap (M.set i m') := by
  obtain ⟨A,B,rfl,rfl⟩ := split_at M i m hi
  have hlt : ∀ b ∈ blocks pa bn (A ++ m :: B),b < w.heap.size := fun b hb => h.lt hb
  have own := h.own
  have memA : ∀ x ∈ A,∀ b ∈ x.blks,b ∈ blocks pa bn (A ++ m :: B) := fun x hx b hb => by simp only [blocks,List.mem_cons,List.mem_flatMap]; exact .inr (.inr ⟨x,by simp [hx],hb⟩)
  have memB : ∀ x ∈ B,∀ b ∈ x.blks,b ∈ blocks pa bn (A ++ m :: B) := fun x hx b hb => by simp only [blocks,List.mem_cons,List.mem_flatMap]; exact .inr (.inr ⟨x,by simp [hx],hb⟩)
  have hshape : blocks pa bn (A ++ m :: B) = (pa :: bn :: A.flatMap Laid.blks) ++ m.blks ++ B.flatMap Laid.blks := by simp [blocks]
  have apart : ∀ b,(b ∈ pa :: bn :: A.flatMap Laid.blks ∨ b ∈ B.flatMap Laid.blks) → b ∉ m.blks := by
    intro b hb hm
    rw [hshape,List.nodup_append] at own
    obtain ⟨o1,_,o3⟩ := own
    rw [List.nodup_append] at o1
    rcases hb with hb | hb
    · exact o1.2.2 b hb b hm rfl
    · exact o3 b (by simp [hm]) b hb rfl
  have hGn : ∀ b ∈ blocks pa bn (A ++ m :: B),b ∉ m.blks → ¬ G b := fun b hb hn hg => hn (hG b (hlt b hb) hg)
  have hbn : bn ∉ m.blks := apart bn (.inl (by simp))
  have hpa : pa ∉ m.blks := apart pa (.inl (by simp))
  have hne : pa ≠ bn := by
    intro e
    have := own
    rw [e] at this
    simp [blocks] at this
  have body1 : SlAt w1 11 (.slice (some ⟨bn,0,none⟩) (A ++ m :: B).length cap) (flat (A ++ m :: B)) (some bn) := h.body.upd hu fun b hb => by
    cases hb; exact hGn bn (by simp [blocks]) hbn
  have body2 := body1.set (i := A.length * 11 + j) (by rw [flat_length,List.length_append,List.length_cons]; omega) v
  rw [flat_set _ _ _ m m' v hi hj hc] at body2
  rw [Nat.zero_add] at body2
  rw [set_split] at body2 ⊢
  refine ⟨?_,by simpa using body2,?_,?_⟩
  · obtain ⟨t, ht⟩ := h.hdr
    refine ⟨t,?_⟩
    rw [heap_set_other (by simpa using hne),hu.same pa (blk_lt ht) (hGn pa (by simp [blocks]) hpa)]
    simpa using ht
  · have keep : ∀ x : Laid,x.ok w1 → (∀ b ∈ x.blks,b ≠ bn) → x.ok (w1.setCell ⟨bn,A.length * 11 + j,none⟩ v) := fun x hx hn =>
      hx.upd (Upd.setCell (F := fun b => b = bn) w1 rfl v) fun b hb => hn b hb
    intro x hx
    rcases List.mem_append.1 hx with hx | hx
    · refine keep x ((h.sub x (by simp [hx])).upd hu fun b hb => hGn b (memA x hx b hb) (apart b (.inl (by simp only [List.mem_cons, List.mem_flatMap]; exact .inr (.inr ⟨x, hx, hb⟩))))) fun b hb e => ?_
      subst e
      rw [hshape] at own
      simp only [List.cons_append,List.nodup_cons] at own
      exact own.2.1 (by simp only [List.mem_append,List.mem_flatMap]; exact .inl (.inl ⟨x,hx,hb⟩))
    · rcases List.mem_cons.1 hx with rfl | hx
      · refine keep _ hok fun b hb' e => ?_
        subst e
        rcases hb b hb' with h1 | h1
        · exact hbn h1
        · have := hlt b (by simp [blocks]); omega
      · refine keep x ((h.sub x (by simp [hx])).upd hu fun b hb => hGn b (memB x hx b hb) (apart b (.inr (by simp only [List.mem_flatMap]; exact ⟨x, hx, hb⟩)))) fun b hb e => ?_
        subst e
        rw [hshape] at own
        simp only [List.cons_append,List.nodup_cons] at own
        exact own.2.1 (by simp only [List.mem_append,List.mem_flatMap]; exact .inr ⟨x,hx,hb⟩)
  · have : blocks pa bn (A ++ m' :: B) = (pa :: bn :: A.flatMap Laid.blks) ++ m'.blks ++ B.flatMap Laid.blks := by simp [blocks]
    rw [this]
    rw [hshape] at own
    refine nodup_repl own hnd fun b hb' => ?_
    rcases hb b hb' with h1 | h1
    · exact .inl h1
    · refine .inr ⟨fun hm => ?_, fun hm => ?_⟩
      · have := hlt b (by rw [hshape]; simp only [List.mem_append]; exact .inl (.inl hm)); omega
      · have := hlt b (by rw [hshape]; simp only [List.mem_append]; exact .inr hm); omega
theorem ArM.push {w2 : World} (h : ArM w pa bn cap M) (hx : Ext w w1) (m' : Laid) (hok : m'.ok w1) (hb : ∀ b ∈ m'.blks, w.heap.size ≤ b) (hnd : m'.blks.Nodup) {bn' cap' : Nat}
    (hs : SlAt w2 11 (.slice (some ⟨bn',0,none⟩) (M.length + 1) cap') (flat M ++ m'.cells) (some bn')) (hu : Upd (fun b => b = bn) w1 w2) (hbn : bn' = bn ∨ w1.heap.size ≤ bn') :
    ArM (w2.setCell ⟨pa,0,none⟩ (.slice (some ⟨bn',0,none⟩) (M.length + 1) cap')) pa bn' cap' (M ++ [m']) := by
  have hlt : ∀ b ∈ blocks pa bn M,b < w.heap.size := fun b hb => h.lt hb
  have h1 := h.frame hx fun _ _ h => h.elim
  have own := h.own
  have hsz := hx.alike.size
  have hpn : pa ≠ bn := by
    intro e
    have := own
    rw [e] at this
    simp [blocks] at this
  have hpa : pa ≠ bn' := by
    rcases hbn with rfl | h'
    · exact hpn
    · have := hlt pa (by simp [blocks]); omega
  obtain ⟨t,ht⟩ := h1.hdr
  have ht2 := (hu.same pa (blk_lt ht) (by simpa using hpn)).trans ht
  have mem : ∀ x ∈ M,∀ b ∈ x.blks,b ∈ blocks pa bn M := fun x hx b hb => by simp only [blocks,List.mem_cons,List.mem_flatMap]; exact .inr (.inr ⟨x,hx,hb⟩)
  have hnb : ∀ x ∈ M,∀ b ∈ x.blks,b ≠ bn ∧ b ≠ pa := fun x hx b hb => by
    simp only [blocks,List.nodup_cons,List.mem_cons,List.mem_flatMap,not_or] at own
    exact ⟨fun e => own.2.1 ⟨x,hx,e ▸ hb⟩,fun e => own.1.2 ⟨x,hx,e ▸ hb⟩⟩
  have hnew : ∀ b ∈ m'.blks,b ≠ bn ∧ b ≠ pa := fun b hb' => by
    have := hb b hb'
    have e1 := hlt bn (by simp [blocks])
    have e2 := hlt pa (by simp [blocks])
    omega
  refine ⟨⟨t,?_⟩,?_,?_,?_⟩
  · rw [heap_set_same ht2]; simp
  · have hup := Upd.setCell (F := fun b => b = pa) (a := (⟨pa, 0, none⟩ : Addr)) w2 rfl (.slice (some ⟨bn', 0, none⟩) (M.length + 1) cap')
    have := hs.upd hup fun b hb e => by cases hb; exact hpa e.symm
    simpa [flat,List.flatMap_append] using this
  · intro x hx'
    have key : x.ok w1 ∧ ∀ b ∈ x.blks,b ≠ bn ∧ b ≠ pa := by
      rcases List.mem_append.1 hx' with hx' | hx'
      · exact ⟨h1.sub x hx',hnb x hx'⟩
      · simp only [List.mem_singleton] at hx'; subst hx'; exact ⟨hok,hnew⟩
    have hup := Upd.setCell (F := fun b => b = pa) (a := (⟨pa,0,none⟩ : Addr)) w2 rfl (.slice (some ⟨bn',0,none⟩) (M.length + 1) cap')
    exact (key.1.upd hu fun b hb e => (key.2 b hb).1 e).upd hup fun b hb e => (key.2 b hb).2 e
  · have e : blocks pa bn' (M ++ [m']) = pa :: bn' :: (M.flatMap Laid.blks ++ m'.blks) := by simp [blocks]
    rw [e]
    simp only [blocks,List.nodup_cons,List.mem_cons,List.mem_append,not_or] at own ⊢
    obtain ⟨⟨o1,o2⟩,o3,o4⟩ := own
    have hlt' : ∀ b ∈ M.flatMap Laid.blks,b < w.heap.size := fun b hb => hlt b (by simp only [blocks,List.mem_cons]; exact .inr (.inr hb))
    refine ⟨⟨hpa,o2,fun hm => (hnew pa hm).2 rfl⟩,⟨fun hm => ?_,fun hm => ?_⟩,?_⟩
    · rcases hbn with rfl | h'
      · exact o3 hm
      · have := hlt' _ hm; omega
    · rcases hbn with rfl | h'
      · exact (hnew _ hm).1 rfl
      · have := hok.lt hm; omega
    · rw [List.nodup_append]
      exact ⟨o4,hnd,fun a ha b hb' e => by have := hlt' a ha; have := hb b hb'; omega⟩
end
end Go.Vk
end
section
namespace Go.Proofs.YtgnnlaeikcnhcaaGreatDoor
open Go.Vk
set_option maxHeartbeats 40000000
theorem mixed : Tryz.prog.follows .mixedOrders = true := by kernel_rfl
theorem len_c {pa : Nat} {L : List Nd} {F : Nat → Prop} {w : World} (h : Ar w pa L F) :
    Gives Tryz.prog 26 #[.pointer (some ⟨pa,0,none⟩)] w fun v w' => v = .int .i64 (L.length : Int) ∧ w' = w := by
  obtain ⟨bn,cap,M,hM,rfl,hF⟩ := h
  have hh := hM.head
  refine Gives.of_W Tryz.call26 Tryz.func26 rfl Tryz.ntmps26 (by simp) ?_; intro Z hZ
  (repeat revert hK K);refine W1 @hh ?_;repeat with_reducible intro K hK
  simp
theorem kid_c (k : Int) {w : World} :
    Gives Tryz.prog 148 #[.int .i64 k] w fun v w' => v = .bool (decide (k = 2 ∨ k = 3 ∨ k = 4 ∨ k = 5)) ∧ w' = w := by
  by_cases h2 : k = 2
  · subst h2
    refine Gives.of_W Tryz.call148 Tryz.func148 rfl Tryz.ntmps148 (by simp) ?_; intro Z hZ
    (repeat revert hK K);refine W0 ?_;repeat with_reducible intro K hK
    simp
  by_cases h3 : k = 3
  · subst h3
    refine Gives.of_W Tryz.call148 Tryz.func148 rfl Tryz.ntmps148 (by simp) ?_; intro Z hZ
    (repeat revert hK K);refine W0 ?_;repeat with_reducible intro K hK
    simp
  by_cases h4 : k = 4
  · subst h4
    refine Gives.of_W Tryz.call148 Tryz.func148 rfl Tryz.ntmps148 (by simp) ?_; intro Z hZ
    (repeat revert hK K);refine W0 ?_;repeat with_reducible intro K hK
    simp
  refine Gives.of_W Tryz.call148 Tryz.func148 rfl Tryz.ntmps148 (by simp) ?_; intro Z hZ
  (repeat revert hK K);refine W3 @h2 @h3 @h4 ?_;repeat with_reducible intro K hK
  simp [h2,h3,h4]
theorem none_c {pa : Nat} {L : List Nd} {F : Nat → Prop} {w : World} (h : Ar w pa L F) (hL : L ≠ []) :
    Gives Tryz.prog 147 #[.pointer (some ⟨pa,0,none⟩)] w fun v w' => v = .bool false ∧ w' = w := by
  obtain ⟨bn,cap,M,hM,rfl,hF⟩ := h
  have hh := hM.head
  have h0 : ¬ (M.length : Int) = 0 := by
    intro e; apply hL; have : M.length = 0 := by omega
    simp [List.length_eq_zero_iff.1 this]
  refine Gives.of_W Tryz.call147 Tryz.func147 rfl Tryz.ntmps147 (by simp) ?_; intro Z hZ
  (repeat first|(with_reducible first|(refine hK _ _ ?_;clear hK K)|refine ‹∀σ w,_→K σ w› _ _ ?_|(refine W_st ?_;constructor;try intro K hK))|((with_reducible first|refine hZ _ _ ?_|refine W_rg ?_|skip);repeat1' simp only[push_cast,seval,-Nat.reduceSubDiff,hh,h0])|((repeat((fail_if_success with_reducible refine hK _ _ ?_);clear hK K));with_reducible refine hK _ _ ?_;clear hK K))
theorem has_c (i : Int) {pa : Nat} {L : List Nd} {F : Nat → Prop} {w : World} (h : Ar w pa L F) :
    Gives Tryz.prog 110 #[.pointer (some ⟨pa,0,none⟩),.int .i64 i] w fun v w' => v = .bool (decide (0 ≤ i ∧ i < L.length)) ∧ w' = w := by
  by_cases h0 : 0 ≤ i
  · refine Gives.of_W Tryz.call110 Tryz.func110 rfl Tryz.ntmps110 (by simp) ?_; intro Z hZ
    (repeat revert hK K);refine W1 @h0 ?_;repeat with_reducible intro K hK
    refine (len_c h).mono ?_
    rintro v w' ⟨rfl,rfl⟩
    (repeat first|(with_reducible first|(refine hK _ _ ?_;clear hK K)|refine ‹∀σ w,_→K σ w› _ _ ?_|(refine W_st ?_;constructor;try intro K hK))|((with_reducible first|refine hZ _ _ ?_|refine W_rg ?_|skip);repeat1' simp only[push_cast,seval,-Nat.reduceSubDiff,h0])|((repeat((fail_if_success with_reducible refine hK _ _ ?_);clear hK K));with_reducible refine hK _ _ ?_;clear hK K))
  · refine Gives.of_W Tryz.call110 Tryz.func110 rfl Tryz.ntmps110 (by simp) ?_; intro Z hZ
    (repeat first|(with_reducible first|(refine hK _ _ ?_;clear hK K)|refine ‹∀σ w,_→K σ w› _ _ ?_|(refine W_st ?_;constructor;try intro K hK))|((with_reducible first|refine hZ _ _ ?_|refine W_rg ?_|skip);repeat1' simp only[push_cast,seval,-Nat.reduceSubDiff,h0])|((repeat((fail_if_success with_reducible refine hK _ _ ?_);clear hK K));with_reducible refine hK _ _ ?_;clear hK K))
end Go.Proofs.YtgnnlaeikcnhcaaGreatDoor
end
section
namespace Go.Vk
def nd? (L : List Nd) (i : Int) : Option Nd := if 0 ≤ i then L[i.toNat]? else none
theorem nd?_nat (L : List Nd) (k : Nat) : nd? L (k : Int) = L[k]? := by simp [nd?]
theorem nd?_some {L : List Nd} {i : Int} {n : Nd} (h : nd? L i = some n) : ∃ k : Nat,i = k ∧ L[k]? = some n ∧ k < L.length := by
  unfold nd? at h
  split at h
  · exact ⟨i.toNat,by omega,h,(List.getElem?_eq_some_iff.1 h).1⟩
  · exact absurd h (by simp)
theorem nd?_isSome (L : List Nd) (i : Int) : (nd? L i).isSome = decide (0 ≤ i ∧ i < L.length) := by
  unfold nd?
  split
  · rename_i h
    by_cases h2 : i < L.length
    · rw [List.getElem?_eq_getElem (by omega)]; simp [h,h2]
    · rw [List.getElem?_eq_none (by omega)]; simp [h2]
  · rename_i h; simp [h]
def kidK (k : Int) : Bool := decide (k = 2 ∨ k = 3 ∨ k = 4 ∨ k = 5)
def holdK (k : Int) : Bool := decide (k = 1 ∨ k = 3 ∨ k = 6)
def holdsN (L : List Nd) (i : Int) : Bool := match nd? L i with | none => false | some n => holdK n.kind
def hangsN (L : List Nd) (i : Int) : Bool := match nd? L i with | none => false | some n => kidK n.kind
def upN (L : List Nd) (i : Int) : Int := match nd? L i with | none => -1 | some n => if n.kind = 6 then i - 1 else n.parent
theorem Ar.at {w : World} {pa : Nat} {L : List Nd} {F : Nat → Prop} (h : Ar w pa L F) {k : Nat} {n : Nd} (hk : L[k]? = some n) :
    ∃ bn cap M m,ArM w pa bn cap M ∧ M.map Laid.nd = L ∧ (∀ b ∈ blocks pa bn M,F b) ∧ M[k]? = some m ∧ m.nd = n ∧ M.length = L.length := by
  obtain ⟨bn,cap,M,hM,rfl,hF⟩ := h
  rw [List.getElem?_map] at hk
  obtain ⟨m,hm,rfl⟩ := Option.map_eq_some_iff.1 hk
  exact ⟨bn,cap,M,m,hM,rfl,hF,hm,rfl,by simp⟩
end Go.Vk
namespace Go.Proofs.YtgnnlaeikcnhcaaGreatDoor
open Go.Vk
set_option maxHeartbeats 40000000
theorem has_n (i : Int) {pa : Nat} {L : List Nd} {F : Nat → Prop} {w : World} (h : Ar w pa L F) :
    Gives Tryz.prog 110 #[.pointer (some ⟨pa,0,none⟩),.int .i64 i] w fun v w' => v = .bool (nd? L i).isSome ∧ w' = w := by
  rw [nd?_isSome]; exact has_c i h
theorem up_c {pa : Nat} {L : List Nd} {F : Nat → Prop} {w : World} (h : Ar w pa L F) (hb : L.length < 1000000) {i : Int} (hi : (nd? L i).isSome) :
    Gives Tryz.prog 213 #[.pointer (some ⟨pa,0,none⟩),.int .i64 i] w fun v w' => v = .int .i64 (upN L i) ∧ w' = w := by
  obtain ⟨n,hn⟩ := Option.isSome_iff_exists.1 hi
  unfold upN; rw [hn]
  obtain ⟨k,rfl,hk,hkl⟩ := nd?_some hn
  obtain ⟨bn,cap,M,m,hM,rfl,hF,hm,rfl,hl⟩ := h.at hk
  have hh := hM.head
  have c0 := hM.cell hm (j := 0) (by decide)
  have c6 := hM.cell hm (j := 6) (by decide)
  simp only [Laid.cells,List.getElem?_cons_zero,List.getElem?_cons_succ,Nat.add_zero] at c0 c6
  have hi1 : (0 : Int) ≤ k := by omega
  have hi2 : (k : Int) < M.length := by omega
  by_cases h6 : m.nd.kind = 6
  · refine Gives.of_W Tryz.call213 Tryz.func213 rfl Tryz.ntmps213 (by simp) ?_; intro Z hZ
    have hr : inI64 ((k : Int) - 1) := by unfold inI64; omega
    (repeat first|(with_reducible first|(refine hK _ _ ?_;clear hK K)|refine ‹∀σ w,_→K σ w› _ _ ?_|(refine W_st ?_;constructor;try intro K hK))|((with_reducible first|refine hZ _ _ ?_|refine W_rg ?_|skip);repeat1' simp only[push_cast,seval,-Nat.reduceSubDiff,hh,hi1,hi2,c0,h6,hr])|((repeat((fail_if_success with_reducible refine hK _ _ ?_);clear hK K));with_reducible refine hK _ _ ?_;clear hK K))
  · refine Gives.of_W Tryz.call213 Tryz.func213 rfl Tryz.ntmps213 (by simp) ?_; intro Z hZ
    (repeat first|(with_reducible first|(refine hK _ _ ?_;clear hK K)|refine ‹∀σ w,_→K σ w› _ _ ?_|(refine W_st ?_;constructor;try intro K hK))|((with_reducible first|refine hZ _ _ ?_|refine W_rg ?_|skip);repeat1' simp only[push_cast,seval,-Nat.reduceSubDiff,hh,hi1,hi2,c0,c6,h6])|((repeat((fail_if_success with_reducible refine hK _ _ ?_);clear hK K));with_reducible refine hK _ _ ?_;clear hK K))
theorem holds_c (i : Int) {pa : Nat} {L : List Nd} {F : Nat → Prop} {w : World} (h : Ar w pa L F) :
    Gives Tryz.prog 156 #[.pointer (some ⟨pa,0,none⟩),.int .i64 i] w fun v w' => v = .bool (holdsN L i) ∧ w' = w := by
  unfold holdsN
  cases hn : nd? L i with
  | none =>
    refine Gives.of_W Tryz.call156 Tryz.func156 rfl Tryz.ntmps156 (by simp) ?_; intro Z hZ
    (repeat revert hK K);refine W0 ?_;repeat with_reducible intro K hK
    refine (has_n i h).mono ?_
    rintro v w' ⟨rfl,rfl⟩
    rw [hn]
    (repeat first|(with_reducible first|(refine hK _ _ ?_;clear hK K)|refine ‹∀σ w,_→K σ w› _ _ ?_|(refine W_st ?_;constructor;try intro K hK))|((with_reducible first|refine hZ _ _ ?_|refine W_rg ?_|skip);repeat1' simp only[push_cast,seval,-Nat.reduceSubDiff])|((repeat((fail_if_success with_reducible refine hK _ _ ?_);clear hK K));with_reducible refine hK _ _ ?_;clear hK K))
  | some n =>
    obtain ⟨k,rfl,hk,hkl⟩ := nd?_some hn
    obtain ⟨bn,cap,M,m,hM,rfl,hF,hm,rfl,hl⟩ := h.at hk
    have hh := hM.head
    have c0 := hM.cell hm (j := 0) (by decide)
    simp only [Laid.cells,List.getElem?_cons_zero,List.getElem?_cons_succ,Nat.add_zero] at c0
    have hi1 : (0 : Int) ≤ k := by omega
    have hi2 : (k : Int) < M.length := by omega
    by_cases h1 : m.nd.kind = 1
    · refine Gives.of_W Tryz.call156 Tryz.func156 rfl Tryz.ntmps156 (by simp) ?_; intro Z hZ
      (repeat revert hK K);refine W0 ?_;repeat with_reducible intro K hK
      refine (has_n k h).mono ?_
      rintro v w' ⟨rfl,rfl⟩
      rw [hn]
      (repeat revert hK K);refine W5 @hh @hi1 @hi2 @c0 @h1 ?_;repeat with_reducible intro K hK
      simp [holdK]
    by_cases h3 : m.nd.kind = 3
    · refine Gives.of_W Tryz.call156 Tryz.func156 rfl Tryz.ntmps156 (by simp) ?_; intro Z hZ
      (repeat revert hK K);refine W0 ?_;repeat with_reducible intro K hK
      refine (has_n k h).mono ?_
      rintro v w' ⟨rfl,rfl⟩
      rw [hn]
      (repeat revert hK K);refine W5 @hh @hi1 @hi2 @c0 @h3 ?_;repeat with_reducible intro K hK
      simp [holdK]
    refine Gives.of_W Tryz.call156 Tryz.func156 rfl Tryz.ntmps156 (by simp) ?_; intro Z hZ
    (repeat revert hK K);refine W0 ?_;repeat with_reducible intro K hK
    refine (has_n k h).mono ?_
    rintro v w' ⟨rfl,rfl⟩
    rw [hn]
    (repeat revert hK K);refine W6 @hh @hi1 @hi2 @c0 @h1 @h3 ?_;repeat with_reducible intro K hK
    simp [holdK,h1,h3]
theorem hangs_c (i : Int) {pa : Nat} {L : List Nd} {F : Nat → Prop} {w : World} (h : Ar w pa L F) :
    Gives Tryz.prog 175 #[.pointer (some ⟨pa,0,none⟩),.int .i64 i] w fun v w' => v = .bool (hangsN L i) ∧ w' = w := by
  unfold hangsN
  cases hn : nd? L i with
  | none =>
    refine Gives.of_W Tryz.call175 Tryz.func175 rfl Tryz.ntmps175 (by simp) ?_; intro Z hZ
    (repeat revert hK K);refine W0 ?_;repeat with_reducible intro K hK
    refine (has_n i h).mono ?_
    rintro v w' ⟨rfl,rfl⟩
    rw [hn]
    (repeat first|(with_reducible first|(refine hK _ _ ?_;clear hK K)|refine ‹∀σ w,_→K σ w› _ _ ?_|(refine W_st ?_;constructor;try intro K hK))|((with_reducible first|refine hZ _ _ ?_|refine W_rg ?_|skip);repeat1' simp only[push_cast,seval,-Nat.reduceSubDiff])|((repeat((fail_if_success with_reducible refine hK _ _ ?_);clear hK K));with_reducible refine hK _ _ ?_;clear hK K))
  | some n =>
    obtain ⟨k,rfl,hk,hkl⟩ := nd?_some hn
    obtain ⟨bn,cap,M,m,hM,rfl,hF,hm,rfl,hl⟩ := h.at hk
    have hh := hM.head
    have c0 := hM.cell hm (j := 0) (by decide)
    simp only [Laid.cells,List.getElem?_cons_zero,List.getElem?_cons_succ,Nat.add_zero] at c0
    have hi1 : (0 : Int) ≤ k := by omega
    have hi2 : (k : Int) < M.length := by omega
    refine Gives.of_W Tryz.call175 Tryz.func175 rfl Tryz.ntmps175 (by simp) ?_; intro Z hZ
    (repeat revert hK K);refine W0 ?_;repeat with_reducible intro K hK
    refine (has_n k h).mono ?_
    rintro v w' ⟨rfl,rfl⟩
    rw [hn]
    (repeat revert hK K);refine W4 @hh @hi1 @hi2 @c0 ?_;repeat with_reducible intro K hK
    refine (kid_c m.nd.kind).mono ?_
    rintro v w' ⟨rfl,rfl⟩
    (repeat revert hK K);refine W4 @hh @hi1 @hi2 @c0 ?_;repeat with_reducible intro K hK
    simp [kidK]
end Go.Proofs.YtgnnlaeikcnhcaaGreatDoor
end
section
namespace Go.Vk
def downN (L : List Nd) : Nat → Int → Bool
  | 0,j => decide (j < 0)
  | k + 1,j => decide (j < 0) || (decide (j < L.length) && downN L k (upN L j))
def aboveF (L : List Nd) (i : Int) : Nat → Int → Bool
  | 0,_ => false
  | k + 1,j => if j < 0 then false else decide (j = i) || aboveF L i k (upN L j)
theorem aboveF_neg (L : List Nd) (i : Int) (k : Nat) {j : Int} (h : j < 0) : aboveF L i k j = false := by
  cases k <;> simp [aboveF,h]
end Go.Vk
namespace Go.Proofs.YtgnnlaeikcnhcaaGreatDoor
open Go.Vk
set_option maxHeartbeats 40000000
theorem above_c {pa : Nat} {L : List Nd} {F : Nat → Prop} {w : World} (h : Ar w pa L F) (hb : L.length < 1000000) (i j : Int) (k : Nat) (hd : downN L k j = true) :
    Gives Tryz.prog 176 #[.pointer (some ⟨pa,0,none⟩),.int .i64 i,.int .i64 j] w fun v w' => v = .bool (aboveF L i k j) ∧ w' = w := by
  refine Gives.of_W Tryz.call176 Tryz.func176 rfl Tryz.ntmps176 (by simp) ?_; intro Z hZ
  (repeat revert hK K);refine W0 ?_;repeat with_reducible intro K hK
  refine W_loop (S := Nat × Int) (fun s => [(0,.pointer (some ⟨pa,0,none⟩)),(1,.int .i64 i),(2,.int .i64 s.2)]) (fun s w' => w' = w ∧ downN L s.1 s.2 = true ∧ aboveF L i s.1 s.2 = aboveF L i k j) Prod.fst (k,j) ?_ ⟨rfl,hd,rfl⟩ ?_
  · (repeat simp only [push_cast,seval,-Nat.reduceSubDiff])
  rintro ⟨m,a⟩ w' ⟨rfl,h1,h2⟩
  by_cases ha : 0 ≤ a
  · cases m with
    | zero => simp [downN] at h1; omega
    | succ m =>
      have ha' : ¬ a < 0 := by omega
      simp only [downN,ha',decide_false,Bool.false_or,Bool.and_eq_true,decide_eq_true_eq] at h1
      simp only [aboveF,ha',if_false] at h2
      by_cases hai : a = i
      · subst hai
        simp at h2
        (repeat revert hK K);refine W1 @ha ?_;repeat with_reducible intro K hK
        exact h2.symm
      · simp [hai] at h2
        (repeat revert hK K);refine W2 @ha @hai ?_;repeat with_reducible intro K hK
        have hs : (nd? L a).isSome = true := by rw [nd?_isSome]; simp [ha,h1.1]
        refine (up_c h hb hs).mono ?_
        rintro v w' ⟨rfl,rfl⟩
        (repeat revert hK K);refine W0 ?_;repeat with_reducible intro K hK
        exact ⟨(m,upN L a),Nat.lt_succ_self m,rfl,h1.2,h2⟩
  · rw [aboveF_neg L i m (by omega)] at h2
    (repeat revert hK K);refine W1 @ha ?_;repeat with_reducible intro K hK
    exact h2
end Go.Proofs.YtgnnlaeikcnhcaaGreatDoor
end
section
namespace Go.Vk
def idxF (x : Int) : List Int → Nat → Int
  | [],_ => -1
  | y :: r,k => if x = y then k else idxF x r (k + 1)
theorem intCells_get {l : List Int} {i : Nat} {x : Int} (h : l[i]? = some x) : (intCells l)[i]? = some (.int .i64 x) := by simp [intCells,h]
theorem SlAt.ints_len {w : World} {v : Value} {l : List Int} {bo : Option Nat} (h : SlAt w 1 v (intCells l) bo) : ∃ a c,v = .slice a l.length c ∧ l.length ≤ c := by
  obtain ⟨a,n,c,rfl,h1,h2⟩ := h.len
  rw [intCells_length,Nat.mul_one] at h2
  exact ⟨a,c,by rw [h2],by omega⟩
theorem SlAt.ints_cell {w : World} {b o n c : Nat} {l : List Int} {bo : Option Nat} (h : SlAt w 1 (.slice (some ⟨b,o,none⟩) n c) (intCells l) bo) {i : Nat} {x : Int} (hi : l[i]? = some x) :
    w.cell? ⟨b,o + i,none⟩ = some (.int .i64 x) := by simpa using h.get (intCells_get hi)
end Go.Vk
namespace Go.Proofs.YtgnnlaeikcnhcaaGreatDoor
open Go.Vk
set_option maxHeartbeats 40000000
theorem index_c {w : World} {v : Value} {l : List Int} {bo : Option Nat} (x : Int) (h : SlAt w 1 v (intCells l) bo) (hb : l.length < 1000000) :
    Gives Tryz.prog 157 #[v,.int .i64 x] w fun u w' => u = .int .i64 (idxF x l 0) ∧ w' = w := by
  obtain ⟨a,c,rfl,hc⟩ := h.ints_len
  refine Gives.of_W Tryz.call157 Tryz.func157 rfl Tryz.ntmps157 (by simp) ?_; intro Z hZ
  (repeat revert hK K);refine W0 ?_;repeat with_reducible intro K hK
  refine W_loop (S := List Int × List Int) (fun s => [(0,.slice a l.length c),(1,.int .i64 x),(7,.int .i64 l.length),(8,.int .i64 (s.1.length : Int))]) (fun s w' => w' = w ∧ l = s.1 ++ s.2 ∧ idxF x l 0 = idxF x s.2 s.1.length) (fun s => s.2.length) ([],l) ?_ ⟨rfl,rfl,rfl⟩ ?_
  · (repeat simp only [push_cast,seval,-Nat.reduceSubDiff])
  rintro ⟨m,a'⟩ w' ⟨rfl,h1,h2⟩
  cases a' with
  | nil =>
    have hn : ¬ (m.length : Int) < l.length := by rw [h1]; simp
    simp only at h1 h2
    (repeat revert hK K);refine W1 @hn ?_;repeat with_reducible intro K hK
    exact h2.symm
  | cons y r =>
    simp only at h1 h2
    have hlen : m.length + (r.length + 1) = l.length := by rw [h1]; simp
    have hn : (m.length : Int) < l.length := by omega
    have hn0 : (0 : Int) ≤ m.length := by omega
    have hy : l[m.length]? = some y := by rw [h1]; simp
    obtain ⟨b,o,n',c',e1,rfl⟩ := h.some_of (by rw [h1]; simp [intCells])
    cases e1
    have hcell := h.ints_cell hy
    have hr : inI64 ((m.length : Int) + 1) := by unfold inI64; omega
    by_cases hxy : x = y
    · (repeat revert hK K);refine W4 @hn @hn0 @hcell @hxy ?_;repeat with_reducible intro K hK
      rw [← hxy,h2]
      simp [idxF,hxy]
    · (repeat revert hK K);refine W5 @hn @hn0 @hcell @hxy @hr ?_;repeat with_reducible intro K hK
      exact ⟨(m ++ [y],r),by simp,by simp,by simp [h1],by rw [h2]; simp [idxF,hxy]⟩
theorem sty28 : STy Tryz.prog 44 3 1 := ⟨Tryz.underlying44,fun w => by simp [Tryz.sizeOf3,Sem.run],fun w => ⟨_,by simp [Tryz.typeInfo3,Sem.run]; rfl,by decide,by decide⟩,fun w => ⟨_,by simp [Tryz.zeroValue3,Sem.run]; rfl,by decide⟩⟩
theorem sty27 : STy Tryz.prog 35 34 2 := ⟨Tryz.underlying35,fun w => by simp [Tryz.sizeOf34,Sem.run],fun w => ⟨_,by simp [Tryz.typeInfo34,Sem.run]; rfl,by decide,by decide⟩,fun w => ⟨_,by simp [Tryz.zeroValue34,Sem.run]; rfl,by decide⟩⟩
theorem sty39 : STy Tryz.prog 83 46 11 := ⟨Tryz.underlying83,fun w => by simp [Tryz.sizeOf46,Sem.run],fun w => ⟨_,by simp [Tryz.typeInfo46,Sem.run]; rfl,by decide,by decide⟩,fun w => ⟨_,by simp [Tryz.zeroValue46,Sem.run]; rfl,by decide⟩⟩
theorem clone_i {w : World} {v : Value} {l : List Int} {bo : Option Nat} (h : SlAt w 1 v (intCells l) bo) (hb : l.length < 1000000) :
    Gives Tryz.prog 112 #[v] w fun u w' => ∃ bo,SlAt w' 1 u (intCells l) bo ∧ Ext w w' ∧ ∀ b,bo = some b → w.heap.size ≤ b := by
  have h' := h
  rcases h with ⟨rfl,rfl,h⟩ | ⟨b,o,n,c,cs,t,h1,rfl,h3,h4,h5,h6,h7⟩
  · rw [h]
    refine Gives.of_W Tryz.call112 Tryz.func112 rfl Tryz.ntmps112 (by simp) ?_; intro Z hZ
    (repeat revert hK K);refine W0 ?_;repeat with_reducible intro K hK
    exact ⟨none,SlAt.nil _ _,Ext.refl _,by simp⟩
  · refine Gives.of_W Tryz.call112 Tryz.func112 rfl Tryz.ntmps112 (by simp) ?_; intro Z hZ
    (repeat revert hK K);refine W0 ?_;repeat with_reducible intro K hK
    refine bs_zero sty28 ?_
    refine app_to sty28 (sty28).und (by decide) (SlAt.new w 1 #[] 3 0 rfl) (h'.ext (Ext.alloc _ _)) (intCells_one l) (by simp [intCells_length]; omega) ?_
    intro v w' bo g1 g2 g3
    have hx : Ext w w' := Upd.trans (Ext.alloc w _) g2 fun i hi e => by cases e; omega
    (repeat revert hK K);refine W0 ?_;repeat with_reducible intro K hK
    refine ⟨bo,by simpa using g1,hx,fun b hb => ?_⟩
    rcases g3 b hb with h | h
    · cases h; omega
    · simp at h; omega
theorem clone_a {w : World} {v : Value} {l : List (ByteArray × ByteArray)} (h : RdAt w 2 v (attrCells l)) (hb : l.length < 1000000) :
    Gives Tryz.prog 111 #[v] w fun u w' => ∃ bo,SlAt w' 2 u (attrCells l) bo ∧ Ext w w' ∧ ∀ b,bo = some b → w.heap.size ≤ b := by
  have h' := h
  obtain ⟨a,n,c,rfl,h3,h4,h5⟩ := h
  cases a with
  | none =>
    have e : attrCells l = [] := by
      cases hl : attrCells l with
      | nil => rfl
      | cons x r => obtain ⟨b,o,e,_⟩ := h5 0 x (by rw [hl]; rfl); cases e
    rw [e]
    refine Gives.of_W Tryz.call111 Tryz.func111 rfl Tryz.ntmps111 (by simp) ?_; intro Z hZ
    (repeat revert hK K);refine W0 ?_;repeat with_reducible intro K hK
    exact ⟨none,SlAt.nil _ _,Ext.refl _,by simp⟩
  | some a =>
    refine Gives.of_W Tryz.call111 Tryz.func111 rfl Tryz.ntmps111 (by simp) ?_; intro Z hZ
    (repeat revert hK K);refine W0 ?_;repeat with_reducible intro K hK
    refine bs_zero sty27 ?_
    refine app_to_rd sty27 (sty27).und (by decide) (SlAt.new w 2 #[] 34 0 rfl) (h'.ext (Ext.alloc _ _)) (attrCells_one l) (by simp [attrCells_length]; omega) ?_
    intro v w' bo g1 g2 g3
    have hx : Ext w w' := Upd.trans (Ext.alloc w _) g2 fun i hi e => by cases e; omega
    (repeat revert hK K);refine W0 ?_;repeat with_reducible intro K hK
    refine ⟨bo,by simpa using g1,hx,fun b hb => ?_⟩
    rcases g3 b hb with h | h
    · cases h; omega
    · simp at h; omega
end Go.Proofs.YtgnnlaeikcnhcaaGreatDoor
end
section
namespace Go.Vk
noncomputable def fsOf (P : Program) (t : TypeId) : Array Field := match P.underlying t with
  | some (.struct fs) => fs
  | _ => #[]
noncomputable def plOf (f : Field) : Sem (Nat × Nat) := do pure (f.offset,← sizeOf f.type)
theorem build_struct {P : Program} {t : TypeId} {z : Value} {fs : Array Field} {pl : Array (Nat × Nat)} (hz : ∀ w, (zeroValue t).run P w = .ok z w) (hu : P.underlying t = some (.struct fs))
    (hp : ∀ w,(fs.mapM plOf).run P w = .ok pl w) {parts : List (Nat × Value)} {cs : Array Value} (hf : Instr.fill (pl[·]?) z.cells parts = some cs)
    {w : World} {K : Value → World → Prop} (h : K (.agg cs) w) : Pure1 P (Instr.build t parts.toArray) w K := by
  refine ⟨_,fun w => ?_,h⟩
  simp only [Instr.build,Sem.run_bind,hz w,Result.andThen,run_underlying hu w]
  have hp' := hp w
  unfold plOf at hp'
  rw [hp']
  simp [Result.andThen,hf,Sem.run]
end Go.Vk
namespace Go.Proofs.YtgnnlaeikcnhcaaGreatDoor
open Go.Vk
set_option maxHeartbeats 40000000
theorem pl30 (w : World) : ((fsOf Tryz.prog 46).mapM plOf).run Tryz.prog w = .ok #[(0,1),(1,1),(2,1),(3,1),(4,1),(5,1),(6,1),(7,1),(8,1),(9,1),(10,1)] w := by
  simp [fsOf,plOf,Tryz.underlying46,Sem.run,Tryz.sizeOf3,Tryz.sizeOf9,Tryz.sizeOf4,Tryz.sizeOf35,Tryz.sizeOf44]
theorem un30 : Tryz.prog.underlying 46 = some (.struct (fsOf Tryz.prog 46)) := by rw [fsOf,Tryz.underlying46]
theorem pl49 (w : World) : ((fsOf Tryz.prog 122).mapM plOf).run Tryz.prog w = .ok #[(0,1)] w := by
  simp [fsOf,plOf,Tryz.underlying122,Sem.run,Tryz.sizeOf83]
theorem un49 : Tryz.prog.underlying 122 = some (.struct (fsOf Tryz.prog 122)) := by rw [fsOf,Tryz.underlying122]
end Go.Proofs.YtgnnlaeikcnhcaaGreatDoor
end
section
namespace Go.Vk
def Laid.val (m : Laid) : Value := .agg m.cells.toArray
theorem Laid.val_eq (m : Laid) : m.val = .agg #[.int .i64 m.nd.kind,.string m.nd.name,.string m.nd.text,.int .i64 m.nd.space,m.av,.bool m.nd.dup,.int .i64 m.nd.parent,.int .i64 m.nd.content,m.kv,.int .i64 m.nd.frm,.int .i64 m.nd.to] := rfl
def zN : Nd := ⟨0,⟨#[]⟩,⟨#[]⟩,0,[],false,0,0,[],0,0⟩
def docN : Nd := { zN with kind := 1,parent := -1,frm := -1,to := -1 }
def bareN (n : Nd) : Nd := { n with parent := -1,content := 0,kids := [] }
end Go.Vk
namespace Go.Proofs.YtgnnlaeikcnhcaaGreatDoor
open Go.Vk
set_option maxHeartbeats 40000000
theorem bare_c {w : World} {m : Laid} (h : RdAt w 2 m.av (attrCells m.nd.attrs)) (hb : m.nd.attrs.length < 1000000) :
    Gives Tryz.prog 145 #[m.val] w fun v w' => ∃ m' : Laid,v = m'.val ∧ m'.nd = bareN m.nd ∧ m'.ok w' ∧ Ext w w' ∧ (∀ b ∈ m'.blks,w.heap.size ≤ b) ∧ m'.blks.Nodup ∧ m'.kb = none := by
  rw [Laid.val_eq]
  refine Gives.of_W Tryz.call145 Tryz.func145 rfl Tryz.ntmps145 (by simp) ?_; intro Z hZ
  (repeat first|(with_reducible first|(refine hK _ _ ?_;clear hK K)|refine ‹∀σ w,_→K σ w› _ _ ?_|(refine W_st ?_;constructor;try intro K hK))|((with_reducible first|refine hZ _ _ ?_|refine W_rg ?_|skip);repeat1' simp only[push_cast,seval,-Nat.reduceSubDiff,cell_h,can_h,cellO_cells,canO_cells,setO_cells,heap_set_h,heap_alloc_h,size_set_h,size_alloc_h,vcells_agg,succ_ne,ne_succ,List.setIfInBounds_toArray,List.set_cons_succ,List.set_cons_zero,setCells,drew_h,RunV_zero Tryz.zeroValue46])|((repeat((fail_if_success with_reducible refine hK _ _ ?_);clear hK K));with_reducible refine hK _ _ ?_;clear hK K))
  refine (clone_a (h.ext ((Ext.alloc _ _).trans (Ext.alloc _ _))) hb).mono ?_
  rintro v w' ⟨bo,g1,g2,g3⟩
  have e1 := g2.heap (b := w.heap.size) (by simp; omega)
  have e2 := g2.heap (b := w.heap.size + 1) (by simp)
  have e3 := g2.alike.size
  (repeat simp only [push_cast,seval,-Nat.reduceSubDiff,cell_h,can_h,cellO_cells,canO_cells,setO_cells,heap_set_h,heap_alloc_h,size_set_h,size_alloc_h,vcells_agg,succ_ne,ne_succ,List.setIfInBounds_toArray,List.set_cons_succ,List.set_cons_zero,setCells,drew_h] at e1)
  (repeat simp only [push_cast,seval,-Nat.reduceSubDiff,cell_h,can_h,cellO_cells,canO_cells,setO_cells,heap_set_h,heap_alloc_h,size_set_h,size_alloc_h,vcells_agg,succ_ne,ne_succ,List.setIfInBounds_toArray,List.set_cons_succ,List.set_cons_zero,setCells,drew_h] at e2)
  (repeat simp only [push_cast,seval,-Nat.reduceSubDiff,cell_h,can_h,cellO_cells,canO_cells,setO_cells,heap_set_h,heap_alloc_h,size_set_h,size_alloc_h,vcells_agg,succ_ne,ne_succ,List.setIfInBounds_toArray,List.set_cons_succ,List.set_cons_zero,setCells,drew_h] at e3)
  obtain ⟨av,an,ac,rfl,_,_⟩ := g1.len
  (repeat first|(with_reducible first|(refine hK _ _ ?_;clear hK K)|refine ‹∀σ w,_→K σ w› _ _ ?_|(refine W_st ?_;constructor;try intro K hK))|((with_reducible first|refine hZ _ _ ?_|refine W_rg ?_|skip);repeat1' simp only[push_cast,seval,-Nat.reduceSubDiff,cell_h,can_h,cellO_cells,canO_cells,setO_cells,heap_set_h,heap_alloc_h,size_set_h,size_alloc_h,vcells_agg,succ_ne,ne_succ,List.setIfInBounds_toArray,List.set_cons_succ,List.set_cons_zero,setCells,drew_h,e1,e2])|((repeat((fail_if_success with_reducible refine hK _ _ ?_);clear hK K));with_reducible refine hK _ _ ?_;clear hK K))
  have key : ∀ wf,Upd (fun b => b = w.heap.size ∨ b = w.heap.size + 1) w' wf → SlAt wf 2 (.slice av an ac) (attrCells m.nd.attrs) bo ∧ Ext w wf := fun wf hu =>
    ⟨g1.upd hu fun b hb e => by have := g3 b hb; simp at this; omega,
      Upd.trans (((Ext.alloc _ _).trans (Ext.alloc _ _)).trans g2) hu fun i hi e => by omega⟩
  have hu : ∀ wf,Upd (fun b => b = w.heap.size ∨ b = w.heap.size + 1) w' wf → (Laid.ok wf ⟨bareN m.nd,.slice av an ac,.slice none 0 0,bo,none⟩ ∧ Ext w wf) := fun wf hu => ⟨⟨(key wf hu).1,SlAt.nil _ _⟩,(key wf hu).2⟩
  refine ⟨⟨bareN m.nd,.slice av an ac,.slice none 0 0,bo,none⟩,rfl,rfl,and_assoc.1 ⟨hu _ ?_,fun b hb => ?_,?_,rfl⟩⟩
  · repeat (with_reducible refine Upd.put ?_ (by first | exact .inl rfl | exact .inr rfl))
    with_reducible exact Upd.refl _ _
  · simp only [Laid.blks, Option.toList_none, List.append_nil, Option.mem_toList] at hb
    have := g3 b hb; simp at this; omega
  · cases bo <;> simp [Laid.blks]
theorem new_c {w : World} :
    Gives Tryz.prog 92 #[] w fun v w' => ∃ pa,v = .pointer (some ⟨pa,0,none⟩) ∧ Ar w' pa [docN] (fun b => w.heap.size ≤ b) ∧ Ext w w' := by
  refine Gives.of_W Tryz.call92 Tryz.func92 rfl Tryz.ntmps92 (by simp) ?_; intro Z hZ
  (repeat revert hK K);refine W0 ?_;repeat with_reducible intro K hK
  refine build_struct Tryz.zeroValue46 un30 pl30 (cs := #[.int .i64 1,.string ⟨#[]⟩,.string ⟨#[]⟩,.int .i64 0,.slice none 0 0,.bool false,.int .i64 0,.int .i64 0,.slice none 0 0,.int .i64 (-1),.int .i64 (-1)]) (by rfl) ?_
  refine (bare_c (m := ⟨{ zN with kind := 1,frm := -1,to := -1 },.slice none 0 0,.slice none 0 0,none,none⟩) (SlAt.nil _ _).rd (by decide)).mono ?_
  rintro v w' ⟨m',rfl,h1,h2,h3,h4,h5,h6⟩
  (repeat revert hK K);refine W0 ?_;repeat with_reducible intro K hK
  refine bs_one sty39 (by decide) (by decide) (v := m'.val) rfl ?_
  (repeat revert hK K);refine W0 ?_;repeat with_reducible intro K hK
  refine build_struct Tryz.zeroValue122 un49 pl49 (cs := #[.slice (some ⟨w'.heap.size,0,none⟩) 1 1]) (by rfl) ?_
  (repeat first|(with_reducible first|(refine hK _ _ ?_;clear hK K)|refine ‹∀σ w,_→K σ w› _ _ ?_|(refine W_st ?_;constructor;try intro K hK))|((with_reducible first|refine hZ _ _ ?_|refine W_rg ?_|skip);repeat1' simp only[push_cast,seval,-Nat.reduceSubDiff,cell_h,can_h,cellO_cells,canO_cells,setO_cells,heap_set_h,heap_alloc_h,size_set_h,size_alloc_h,vcells_agg,succ_ne,ne_succ,List.setIfInBounds_toArray,List.set_cons_succ,List.set_cons_zero,setCells,drew_h])|((repeat((fail_if_success with_reducible refine hK _ _ ?_);clear hK K));with_reducible refine hK _ _ ?_;clear hK K))
  have hsz := h3.alike.size
  have hx : Ext w' ((w'.alloc (.cells m'.val.cells 46)).alloc (.cells #[.slice (some ⟨w'.heap.size,0,none⟩) 1 1] 122)) := (Ext.alloc _ _).trans (Ext.alloc _ _)
  refine ⟨w'.heap.size + 1,rfl,⟨w'.heap.size,1,[m'],⟨⟨122,?_⟩,?_,?_,?_⟩,?_,?_⟩,h3.trans hx⟩
  · rw [heap_alloc_h,if_pos (by simp)]; rfl
  · exact (SlAt.new w' 11 m'.val.cells 46 1 rfl).ext (Ext.alloc _ _)
  · intro m hm
    simp only [List.mem_singleton] at hm
    subst hm
    exact h2.upd hx fun _ _ h => h.elim
  · have hb : ∀ b ∈ m'.blks, b < w'.heap.size := fun b hb => h2.lt hb
    simp only [blocks,List.flatMap_cons,List.flatMap_nil,List.append_nil,List.nodup_cons,List.mem_cons,not_or]
    refine ⟨⟨by omega,fun hm => ?_⟩,fun hm => ?_,h5⟩
    · have := hb _ hm; omega
    · have := hb _ hm; omega
  · simp [h1,docN,bareN,zN]
  · intro b hb
    simp only [blocks,List.flatMap_cons,List.flatMap_nil,List.append_nil,List.mem_cons] at hb
    rcases hb with rfl | rfl | hb
    · omega
    · omega
    · exact h4 b hb
end Go.Proofs.YtgnnlaeikcnhcaaGreatDoor
end
section
namespace Go.Vk
def tmpl : ByteArray := ⟨#[116,101,109,112,108,97,116,101]⟩
def contN : Nd := { zN with kind := 6,parent := -1,frm := -1,to := -1 }
def addN (L : List Nd) (n : Nd) : List Nd × Int :=
  if kidK n.kind = true then
    if n.kind = 3 ∧ n.space = 0 ∧ n.name = tmpl then (L ++ [{ bareN n with content := (L.length : Int) + 1 },contN],L.length)
    else (L ++ [bareN n],L.length)
  else (L,-1)
theorem kept_upd {B G : Nat → Prop} {w w' : World} (h : Upd G w w') (hB : ∀ b,B b → b < w.heap.size ∧ ¬ G b) : kept B w w' := fun b hb => h.same b (hB b hb).1 (hB b hb).2
theorem Laid.ok.one {w : World} {m : Laid} (h : m.ok w) : m.cells.all oneCell = true := by
  obtain ⟨a1,n1,c1,e1,_,_⟩ := h.attrs.len
  obtain ⟨a2,n2,c2,e2,_,_⟩ := h.kids.len
  simp [Laid.cells,e1,e2,oneCell]
theorem ArM.app {P : Program} {t e ty : Nat} (hT : STy P t e 11) {w w1 : World} {pa bn cap : Nat} {M : List Laid} (hM : ArM w pa bn cap M) (hx : Ext w w1) {m' : Laid} (hok : m'.ok w1) {x : Value} {b2 : Option Nat} (h2 : SlAt w1 11 x m'.cells b2)
    (hlen : M.length < 2000000) {K : Value → World → Prop}
    (h : ∀ bn' cap' w3,SlAt w3 11 (.slice (some ⟨bn',0,none⟩) (M.length + 1) cap') (flat M ++ m'.cells) (some bn') → Upd (fun b => b = bn) w1 w3 → (bn' = bn ∨ w1.heap.size ≤ bn') → K (.slice (some ⟨bn',0,none⟩) (M.length + 1) cap') w3) :
    RunV P (Builtin.append_ #[t,t] ty #[.slice (some ⟨bn,0,none⟩) M.length cap,x]) w1 K := by
  refine app_spec hT hT.und (by decide) (hM.body.ext hx) h2 hok.one (by rw [flat_length,m'.cells_length]; omega) ?_ ?_
  · rintro v w' g1 g2 _ _ ⟨a, n, c, k, e1, rfl, _, hk⟩
    cases e1
    rw [m'.cells_length] at hk
    have : k = 1 := by omega
    subst this
    exact h _ _ _ g1 (g2.mono fun b _ hb => by cases hb; rfl) (.inl rfl)
  · rintro v w' g1 g2 _ ⟨n, c, rfl, hn⟩ _
    rw [flat_length,m'.cells_length] at hn
    have : n = M.length + 1 := by omega
    subst this
    exact h _ _ _ g1 g2.upd (.inr (Nat.le_refl _))
end Go.Vk
namespace Go.Proofs.YtgnnlaeikcnhcaaGreatDoor
open Go.Vk
set_option maxHeartbeats 40000000
theorem kid_k (k : Int) {w : World} : Gives Tryz.prog 148 #[.int .i64 k] w fun v w' => v = .bool (kidK k) ∧ w' = w := kid_c k
theorem add_c {pa : Nat} {L : List Nd} {F : Nat → Prop} {w : World} (h : Ar w pa L F) (hL : L ≠ []) (hb : L.length < 1000000) {m : Laid} (hm : RdAt w 2 m.av (attrCells m.nd.attrs)) (hmb : m.nd.attrs.length < 1000000) :
    Gives Tryz.prog 98 #[.pointer (some ⟨pa,0,none⟩),m.val] w fun v w' => v = .int .i64 (addN L m.nd).2 ∧ Ar w' pa (addN L m.nd).1 (fun b => F b ∨ w.heap.size ≤ b) ∧ Upd F w w' := by
  rw [Laid.val_eq]
  have hpa : pa < w.heap.size := by obtain ⟨bn,cap,M,hM,_,_⟩ := h; exact hM.lt (by simp [blocks])
  have hne : ¬ pa = w.heap.size := by omega
  by_cases hk : kidK m.nd.kind = true
  · refine Gives.of_W Tryz.call98 Tryz.func98 rfl Tryz.ntmps98 (by simp) ?_; intro Z hZ
    (repeat first|(with_reducible first|(refine hK _ _ ?_;clear hK K)|refine ‹∀σ w,_→K σ w› _ _ ?_|(refine W_st ?_;constructor;try intro K hK))|((with_reducible first|refine hZ _ _ ?_|refine W_rg ?_|skip);repeat1' simp only[push_cast,seval,-Nat.reduceSubDiff,cell_h,can_h,cellO_cells,canO_cells,setO_cells,heap_set_h,heap_alloc_h,size_set_h,size_alloc_h,vcells_agg,succ_ne,ne_succ,List.setIfInBounds_toArray,List.set_cons_succ,List.set_cons_zero,setCells,drew_h])|((repeat((fail_if_success with_reducible refine hK _ _ ?_);clear hK K));with_reducible refine hK _ _ ?_;clear hK K))
    refine (none_c (h.ext (Ext.alloc _ _)) hL).mono ?_
    rintro v w' ⟨rfl,rfl⟩
    (repeat first|(with_reducible first|(refine hK _ _ ?_;clear hK K)|refine ‹∀σ w,_→K σ w› _ _ ?_|(refine W_st ?_;constructor;try intro K hK))|((with_reducible first|refine hZ _ _ ?_|refine W_rg ?_|skip);repeat1' simp only[push_cast,seval,-Nat.reduceSubDiff,cell_h,can_h,cellO_cells,canO_cells,setO_cells,heap_set_h,heap_alloc_h,size_set_h,size_alloc_h,vcells_agg,succ_ne,ne_succ,List.setIfInBounds_toArray,List.set_cons_succ,List.set_cons_zero,setCells,drew_h])|((repeat((fail_if_success with_reducible refine hK _ _ ?_);clear hK K));with_reducible refine hK _ _ ?_;clear hK K))
    refine (kid_k _).mono ?_
    rintro v w' ⟨rfl,rfl⟩
    have hx := h.ext (Ext.alloc w (.cells #[.int .i64 m.nd.kind,.string m.nd.name,.string m.nd.text,.int .i64 m.nd.space,m.av,.bool m.nd.dup,.int .i64 m.nd.parent,.int .i64 m.nd.content,m.kv,.int .i64 m.nd.frm,.int .i64 m.nd.to] 46))
    obtain ⟨bn,cap,M,hM,hML,hMF⟩ := h
    obtain ⟨t,ht⟩ := hM.hdr
    (repeat first|(with_reducible first|(refine hK _ _ ?_;clear hK K)|refine ‹∀σ w,_→K σ w› _ _ ?_|(refine W_st ?_;constructor;try intro K hK))|((with_reducible first|refine hZ _ _ ?_|refine W_rg ?_|skip);repeat1' simp only[push_cast,seval,-Nat.reduceSubDiff,cell_h,can_h,cellO_cells,canO_cells,setO_cells,heap_set_h,heap_alloc_h,size_set_h,size_alloc_h,vcells_agg,succ_ne,ne_succ,List.setIfInBounds_toArray,List.set_cons_succ,List.set_cons_zero,setCells,drew_h,hk,hne,ht])|((repeat((fail_if_success with_reducible refine hK _ _ ?_);clear hK K));with_reducible refine hK _ _ ?_;clear hK K))
    refine W_draw (.pas 0 (.pas 1 (.pas 2 (.pas 3 (.pas 4 (.pas 5 (.act 6 (.act 7 (.act 8 (.pas 9 (.pas 10 (.last 11)))))))))))) (fun b => b = pa ∨ b = w.heap.size) (by decide) mixed (by kernel_rfl) ?_
    (repeat (first | ((first | refine pas_plain rfl ?_ | refine pas_g rfl rfl ?_ | refine act_plain rfl ?_ | refine act_g rfl rfl ?_ | refine last_plain rfl ?_ | refine tail_plain rfl ?_ | refine tail_g rfl rfl ?_); (repeat simp only [push_cast,seval,-Nat.reduceSubDiff,cell_h,can_h,cellO_cells,canO_cells,setO_cells,heap_set_h,heap_alloc_h,size_set_h,size_alloc_h,vcells_agg,succ_ne,ne_succ,List.setIfInBounds_toArray,List.set_cons_succ,List.set_cons_zero,setCells,drew_h,true_or,or_true,hne,ht])) | (refine tail_fin ?_) | (refine sch_fin ?_)))
    have hx1 : Ext w (w.alloc (.cells #[.int .i64 m.nd.kind,.string m.nd.name,.string m.nd.text,.int .i64 m.nd.space,m.av,.bool m.nd.dup,.int .i64 m.nd.parent,.int .i64 m.nd.content,m.kv,.int .i64 m.nd.frm,.int .i64 m.nd.to] 46)).drew := (Ext.alloc _ _).trans (Ext.drew _)
    refine (bare_c (m := m) (hm.ext hx1) hmb).mono ?_
    rintro v w2 ⟨m',rfl,h1,h2,h3,h4,h5,h6⟩
    refine ⟨kept_upd h3 fun b hb => ⟨by simp only [drew_size,size_alloc_h]; omega,id⟩,?_⟩
    (repeat (first | ((first | refine pas_plain rfl ?_ | refine pas_g rfl rfl ?_ | refine act_plain rfl ?_ | refine act_g rfl rfl ?_ | refine last_plain rfl ?_ | refine tail_plain rfl ?_ | refine tail_g rfl rfl ?_); (repeat simp only [push_cast,seval,-Nat.reduceSubDiff,cell_h,can_h,cellO_cells,canO_cells,setO_cells,heap_set_h,heap_alloc_h,size_set_h,size_alloc_h,vcells_agg,succ_ne,ne_succ,List.setIfInBounds_toArray,List.set_cons_succ,List.set_cons_zero,setCells,drew_h,true_or,or_true,hne,ht])) | (refine tail_fin ?_) | (refine sch_fin ?_)))
    refine bs_one sty39 (by decide) (by decide) (v := m'.val) rfl ?_
    refine ⟨kept_upd (Ext.alloc _ _) fun b hb => ⟨?_,id⟩,?_⟩
    · have := h3.alike.size
      simp only [drew_size,size_alloc_h] at this; omega
    (repeat (first | ((first | refine pas_plain rfl ?_ | refine pas_g rfl rfl ?_ | refine act_plain rfl ?_ | refine act_g rfl rfl ?_ | refine last_plain rfl ?_ | refine tail_plain rfl ?_ | refine tail_g rfl rfl ?_); (repeat simp only [push_cast,seval,-Nat.reduceSubDiff,cell_h,can_h,cellO_cells,canO_cells,setO_cells,heap_set_h,heap_alloc_h,size_set_h,size_alloc_h,vcells_agg,succ_ne,ne_succ,List.setIfInBounds_toArray,List.set_cons_succ,List.set_cons_zero,setCells,drew_h,true_or,or_true,hne,ht])) | (refine tail_fin ?_) | (refine sch_fin ?_)))
    have hx2 : Ext w (w2.alloc (.cells m'.val.cells 46)) := hx1.trans (h3.trans (Ext.alloc _ _))
    have hok2 : m'.ok (w2.alloc (.cells m'.val.cells 46)) := h2.upd (Ext.alloc _ _) fun _ _ h => h.elim
    have hmlen : M.length = L.length := by rw [← hML]; simp
    refine hM.app sty39 hx2 hok2 (SlAt.new w2 11 m'.val.cells 46 1 rfl) (by omega) ?_
    intro bn' cap' w3 g1 g2 g3
    have hne2 : ¬ bn = w.heap.size := by have := hM.lt (b := bn) (by simp [blocks]); omega
    have hnp : ¬ pa = bn := by have := hM.own; simp [blocks] at this; exact this.1.1
    have hsz2 := h3.alike.size
    simp only [drew_size,size_alloc_h] at hsz2
    refine ⟨kept_upd g2 fun b hb => ⟨?_,?_⟩,?_⟩
    · simp only [size_alloc_h]; omega
    · rcases hb with rfl | rfl <;> omega
    (repeat (first | ((first | refine pas_plain rfl ?_ | refine pas_g rfl rfl ?_ | refine act_plain rfl ?_ | refine act_g rfl rfl ?_ | refine last_plain rfl ?_ | refine tail_plain rfl ?_ | refine tail_g rfl rfl ?_); (repeat simp only [push_cast,seval,-Nat.reduceSubDiff,cell_h,can_h,cellO_cells,canO_cells,setO_cells,heap_set_h,heap_alloc_h,size_set_h,size_alloc_h,vcells_agg,succ_ne,ne_succ,List.setIfInBounds_toArray,List.set_cons_succ,List.set_cons_zero,setCells,drew_h,true_or,or_true,hne,ht])) | (refine tail_fin ?_) | (refine sch_fin ?_)))
    have hp3 : w3.heap[pa]? = some (.cells #[.slice (some ⟨bn,0,none⟩) M.length cap] t (0,0)) :=
      (g2.same pa (by simp only [size_alloc_h]; omega) hnp).trans ((hx2.heap hpa).trans ht)
    have hb3 : w3.heap[w.heap.size]? = some (.cells #[.int .i64 m.nd.kind,.string m.nd.name,.string m.nd.text,.int .i64 m.nd.space,m.av,.bool m.nd.dup,.int .i64 m.nd.parent,.int .i64 m.nd.content,m.kv,.int .i64 m.nd.frm,.int .i64 m.nd.to] 46 (0,0)) := by
      refine (g2.same _ (by simp only [size_alloc_h]; omega) (fun e => hne2 e.symm)).trans ?_
      rw [heap_alloc_h,if_neg (by omega),h3.heap (by simp only [drew_size,size_alloc_h]; omega),drew_h,heap_alloc_h,if_pos rfl]
    (repeat simp only [push_cast,seval,-Nat.reduceSubDiff,cell_h,can_h,cellO_cells,canO_cells,setO_cells,heap_set_h,heap_alloc_h,size_set_h,size_alloc_h,vcells_agg,succ_ne,ne_succ,List.setIfInBounds_toArray,List.set_cons_succ,List.set_cons_zero,setCells,drew_h,hp3])
    have hA := hM.push hx2 m' hok2 (fun b hb => by have := h4 b hb; simp only [drew_size,size_alloc_h] at this; omega) h5 g1 g2 g3
    have hu4 : Upd F w (w3.setCell ⟨pa,0,none⟩ (.slice (some ⟨bn',0,none⟩) (M.length + 1) cap')) :=
      (Upd.trans (hx2.upd (F := F)) g2 fun i hi e => by subst e; exact hMF _ (by simp [blocks])).put (hMF _ (by simp [blocks]))
    have hb4 : (w3.setCell ⟨pa,0,none⟩ (.slice (some ⟨bn',0,none⟩) (M.length + 1) cap')).heap[w.heap.size]? = some (.cells #[.int .i64 m.nd.kind,.string m.nd.name,.string m.nd.text,.int .i64 m.nd.space,m.av,.bool m.nd.dup,.int .i64 m.nd.parent,.int .i64 m.nd.content,m.kv,.int .i64 m.nd.frm,.int .i64 m.nd.to] 46 (0,0)) := by
      rw [heap_set_h,if_neg (by omega),hb3]
    have hsz3 := g2.alike.size
    simp only [size_alloc_h] at hsz3
    have hsz4 : w3.heap.size = (w3.setCell ⟨pa,0,none⟩ (.slice (some ⟨bn',0,none⟩) (M.length + 1) cap')).heap.size := by simp
    generalize w3.setCell ⟨pa,0,none⟩ (.slice (some ⟨bn',0,none⟩) (M.length + 1) cap') = w4 at *
    have hlen4 : (M ++ [m']).length = M.length + 1 := by simp
    have hres : addN L m.nd = (L ++ [bareN m.nd],(L.length : Int)) → Ar w4 pa (addN L m.nd).1 (fun b => F b ∨ w.heap.size ≤ b) ∧ Upd F w w4 := fun e => by
      rw [e]
      refine ⟨⟨bn',cap',M ++ [m'],hA,by simp [hML,h1],fun b hb => ?_⟩,hu4⟩
      simp only [blocks,List.flatMap_append,List.flatMap_cons,List.flatMap_nil,List.append_nil,List.mem_cons,List.mem_append] at hb
      rcases hb with rfl | rfl | hb | hb
      · exact .inl (hMF _ (by simp [blocks]))
      · rcases g3 with rfl | g3
        · exact .inl (hMF _ (by simp [blocks]))
        · simp only [size_alloc_h] at g3; exact .inr (by omega)
      · exact .inl (hMF _ (by simp only [blocks,List.mem_cons]; exact .inr (.inr hb)))
      · have := h4 b hb
        simp only [drew_size,size_alloc_h] at this; exact .inr (by omega)
    by_cases c1 : m.nd.kind = 3
    · by_cases c2 : m.nd.space = 0
      · by_cases c3 : m.nd.name = ⟨#[116, 101, 109, 112, 108, 97, 116, 101]⟩
        · have hi1 : (0 : Int) ≤ M.length := by omega
          have hi2 : (M.length : Int) < (M.length : Int) + 1 := by omega
          have hr : inI64 ((M.length : Int) + 1) := by unfold inI64; omega
          obtain ⟨t',ht'⟩ := hA.hdr
          rw [hlen4] at ht'
          have hc7 : canO (w4.heap[bn']?) (M.length * 11 + 7) := by
            rw [← can_h]; exact hA.can (i := M.length) (by simp) (by decide)
          (repeat first|(with_reducible first|(refine hK _ _ ?_;clear hK K)|refine ‹∀σ w,_→K σ w› _ _ ?_|(refine W_st ?_;constructor;try intro K hK))|((with_reducible first|refine hZ _ _ ?_|refine W_rg ?_|skip);repeat1' simp only[push_cast,seval,-Nat.reduceSubDiff,cell_h,can_h,cellO_cells,canO_cells,setO_cells,heap_set_h,heap_alloc_h,size_set_h,size_alloc_h,vcells_agg,succ_ne,ne_succ,List.setIfInBounds_toArray,List.set_cons_succ,List.set_cons_zero,setCells,drew_h,hb4,c1,c2,c3,ht',hi1,hi2,hr,hc7])|((repeat((fail_if_success with_reducible refine hK _ _ ?_);clear hK K));with_reducible refine hK _ _ ?_;clear hK K))
          have hA5 := hA.repl (i := M.length) (m := m') (by simp) { m' with nd := { m'.nd with content := (M.length : Int) + 1 } } 7 (.int .i64 ((M.length : Int) + 1)) rfl (by decide) (Upd.refl none_ w4) (fun _ _ h => h.elim)
            ⟨(hA.sub m' (by simp)).attrs,(hA.sub m' (by simp)).kids⟩ (fun b hb => .inl hb) h5
          rw [set_split] at hA5
          have hFn : bn' < w.heap.size → F bn' := fun hl => by
            rcases g3 with rfl | g3
            · exact hMF _ (by simp [blocks])
            · simp only [size_alloc_h] at g3; omega
          have hu5 := hu4.put2 (x := ⟨bn',M.length * 11 + 7,none⟩) (v := .int .i64 ((M.length : Int) + 1)) hFn
          obtain ⟨M5,hM5,hl5,hn5,hb5⟩ : ∃ M5 : List Laid,M5 = M ++ [{ m' with nd := { m'.nd with content := (M.length : Int) + 1 } }] ∧ M5.length = M.length + 1 ∧ M5.map Laid.nd = L ++ [{ bareN m.nd with content := (L.length : Int) + 1 }] ∧ M5.flatMap Laid.blks = M.flatMap Laid.blks ++ m'.blks :=
            ⟨_,rfl,by simp,by simp [hML,h1,hmlen],by simp [Laid.blks]⟩
          rw [← hM5] at hA5
          have hsz5 : w4.heap.size = (w4.setCell ⟨bn',M.length * 11 + 7,none⟩ (.int .i64 ((M.length : Int) + 1))).heap.size := by simp
          generalize w4.setCell ⟨bn',M.length * 11 + 7,none⟩ (.int .i64 ((M.length : Int) + 1)) = w5 at *
          obtain ⟨t5,ht5⟩ := hA5.hdr
          have hpa5 : pa < w5.heap.size := hA5.lt (by simp [blocks])
          refine W_draw (.pas 0 (.pas 1 (.pas 2 (.pas 3 (.pas 4 (.pas 5 (.act 6 (.act 7 (.act 8 (.pas 9 (.pas 10 (.last 11)))))))))))) (fun b => b = pa) (by decide) mixed (by kernel_rfl) ?_
          rw [hl5] at ht5
          (repeat (first | ((first | refine pas_plain rfl ?_ | refine pas_g rfl rfl ?_ | refine act_plain rfl ?_ | refine act_g rfl rfl ?_ | refine last_plain rfl ?_ | refine tail_plain rfl ?_ | refine tail_g rfl rfl ?_); (repeat simp only [push_cast,seval,-Nat.reduceSubDiff,cell_h,can_h,cellO_cells,canO_cells,setO_cells,heap_set_h,heap_alloc_h,size_set_h,size_alloc_h,vcells_agg,succ_ne,ne_succ,List.setIfInBounds_toArray,List.set_cons_succ,List.set_cons_zero,setCells,drew_h,true_or,or_true,ht5])) | (refine tail_fin ?_) | (refine sch_fin ?_)))
          refine build_struct Tryz.zeroValue46 un30 pl30 (cs := #[.int .i64 6,.string ⟨#[]⟩,.string ⟨#[]⟩,.int .i64 0,.slice none 0 0,.bool false,.int .i64 0,.int .i64 0,.slice none 0 0,.int .i64 (-1),.int .i64 (-1)]) (by rfl) ?_
          (repeat (first | ((first | refine pas_plain rfl ?_ | refine pas_g rfl rfl ?_ | refine act_plain rfl ?_ | refine act_g rfl rfl ?_ | refine last_plain rfl ?_ | refine tail_plain rfl ?_ | refine tail_g rfl rfl ?_); (repeat simp only [push_cast,seval,-Nat.reduceSubDiff,cell_h,can_h,cellO_cells,canO_cells,setO_cells,heap_set_h,heap_alloc_h,size_set_h,size_alloc_h,vcells_agg,succ_ne,ne_succ,List.setIfInBounds_toArray,List.set_cons_succ,List.set_cons_zero,setCells,drew_h,true_or,or_true,ht5])) | (refine tail_fin ?_) | (refine sch_fin ?_)))
          refine (bare_c (m := ⟨{ zN with kind := 6,frm := -1,to := -1 },.slice none 0 0,.slice none 0 0,none,none⟩) (SlAt.nil _ _).rd (by decide)).mono ?_
          rintro v w6 ⟨m6,rfl,k1,k2,k3,k4,k5,k6⟩
          refine ⟨kept_upd k3 fun b hb => ⟨by simp only [drew_size]; omega,id⟩,?_⟩
          (repeat (first | ((first | refine pas_plain rfl ?_ | refine pas_g rfl rfl ?_ | refine act_plain rfl ?_ | refine act_g rfl rfl ?_ | refine last_plain rfl ?_ | refine tail_plain rfl ?_ | refine tail_g rfl rfl ?_); (repeat simp only [push_cast,seval,-Nat.reduceSubDiff,cell_h,can_h,cellO_cells,canO_cells,setO_cells,heap_set_h,heap_alloc_h,size_set_h,size_alloc_h,vcells_agg,succ_ne,ne_succ,List.setIfInBounds_toArray,List.set_cons_succ,List.set_cons_zero,setCells,drew_h,true_or,or_true,ht5])) | (refine tail_fin ?_) | (refine sch_fin ?_)))
          refine bs_one sty39 (by decide) (by decide) (v := m6.val) rfl ?_
          have hsz6 := k3.alike.size
          simp only [drew_size] at hsz6
          refine ⟨kept_upd (Ext.alloc _ _) fun b hb => ⟨by have : b = pa := hb; subst this; omega,id⟩,?_⟩
          (repeat (first | ((first | refine pas_plain rfl ?_ | refine pas_g rfl rfl ?_ | refine act_plain rfl ?_ | refine act_g rfl rfl ?_ | refine last_plain rfl ?_ | refine tail_plain rfl ?_ | refine tail_g rfl rfl ?_); (repeat simp only [push_cast,seval,-Nat.reduceSubDiff,cell_h,can_h,cellO_cells,canO_cells,setO_cells,heap_set_h,heap_alloc_h,size_set_h,size_alloc_h,vcells_agg,succ_ne,ne_succ,List.setIfInBounds_toArray,List.set_cons_succ,List.set_cons_zero,setCells,drew_h,true_or,or_true,ht5])) | (refine tail_fin ?_) | (refine sch_fin ?_)))
          have hx6 : Ext w5 (w6.alloc (.cells m6.val.cells 46)) := (Ext.drew _).trans (k3.trans (Ext.alloc _ _))
          have hok6 : m6.ok (w6.alloc (.cells m6.val.cells 46)) := k2.upd (Ext.alloc _ _) fun _ _ h => h.elim
          rw [← hl5]
          refine hA5.app sty39 hx6 hok6 (SlAt.new w6 11 m6.val.cells 46 1 rfl) (by omega) ?_
          intro bn7 cap7 w7 q1 q2 q3
          have hnp5 : ¬ pa = bn' := by have := hA5.own; simp [blocks] at this; exact this.1.1
          refine ⟨kept_upd q2 fun b hb => ⟨?_,?_⟩,?_⟩
          · simp only [size_alloc_h]; omega
          · omega
          have hp7 : w7.heap[pa]? = some (.cells #[.slice (some ⟨bn',0,none⟩) (M.length + 1) cap'] t5 (0,0)) :=
            (q2.same pa (by simp only [size_alloc_h]; omega) hnp5).trans ((hx6.heap hpa5).trans ht5)
          (repeat (first | ((first | refine pas_plain rfl ?_ | refine pas_g rfl rfl ?_ | refine act_plain rfl ?_ | refine act_g rfl rfl ?_ | refine last_plain rfl ?_ | refine tail_plain rfl ?_ | refine tail_g rfl rfl ?_); (repeat simp only [push_cast,seval,-Nat.reduceSubDiff,cell_h,can_h,cellO_cells,canO_cells,setO_cells,heap_set_h,heap_alloc_h,size_set_h,size_alloc_h,vcells_agg,succ_ne,ne_succ,List.setIfInBounds_toArray,List.set_cons_succ,List.set_cons_zero,setCells,drew_h,true_or,or_true,hp7])) | (refine tail_fin ?_) | (refine sch_fin ?_)))
          have hA8 := hA5.push hx6 m6 hok6 (fun b hb => by have := k4 b hb; simpa only [drew_size] using this) k5 q1 q2 q3
          have hu8 : Upd F w (w7.setCell ⟨pa,0,none⟩ (.slice (some ⟨bn7,0,none⟩) (M5.length + 1) cap7)) :=
            (Upd.trans (Upd.trans hu5 hx6 fun _ _ h => h.elim) q2 fun i hi e => by subst e; exact hFn hi).put (hMF _ (by simp [blocks]))
          generalize w7.setCell ⟨pa,0,none⟩ (.slice (some ⟨bn7,0,none⟩) (M5.length + 1) cap7) = w8 at *
          have e : addN L m.nd = (L ++ [{ bareN m.nd with content := (L.length : Int) + 1 },contN],(L.length : Int)) := by simp [addN,kidK,c1,c2,tmpl,c3]
          (repeat revert hK K);refine W0 ?_;repeat with_reducible intro K hK
          rw [e]
          refine ⟨by rw [hmlen],⟨bn7,cap7,M5 ++ [m6],hA8,by simp [hn5,k1,contN,bareN,zN],fun b hb => ?_⟩,hu8⟩
          simp only [blocks,List.flatMap_append,List.flatMap_cons,List.flatMap_nil,List.append_nil,List.mem_cons,List.mem_append,hb5] at hb
          rcases hb with hb | hb | (hb | hb) | hb
          · rw [hb]; exact .inl (hMF _ (by simp [blocks]))
          · rw [hb]
            rcases q3 with q3 | q3
            · rw [q3]
              rcases Nat.lt_or_ge bn' w.heap.size with hl | hl
              · exact .inl (hFn hl)
              · exact .inr hl
            · simp only [size_alloc_h] at q3; exact .inr (by omega)
          · exact .inl (hMF _ (by simp only [blocks,List.mem_cons]; exact .inr (.inr hb)))
          · have := h4 b hb
            simp only [drew_size,size_alloc_h] at this; exact .inr (by omega)
          · have := k4 b hb
            simp only [drew_size] at this; exact .inr (by omega)
        · have e : addN L m.nd = (L ++ [bareN m.nd], (L.length : Int)) := by simp [addN, kidK, c1, c2, tmpl, c3]
          (repeat first|(with_reducible first|(refine hK _ _ ?_;clear hK K)|refine ‹∀σ w,_→K σ w› _ _ ?_|(refine W_st ?_;constructor;try intro K hK))|((with_reducible first|refine hZ _ _ ?_|refine W_rg ?_|skip);repeat1' simp only[push_cast,seval,-Nat.reduceSubDiff,cell_h,can_h,cellO_cells,canO_cells,setO_cells,heap_set_h,heap_alloc_h,size_set_h,size_alloc_h,vcells_agg,succ_ne,ne_succ,List.setIfInBounds_toArray,List.set_cons_succ,List.set_cons_zero,setCells,drew_h,hb4,c1,c2,c3])|((repeat((fail_if_success with_reducible refine hK _ _ ?_);clear hK K));with_reducible refine hK _ _ ?_;clear hK K))
          exact ⟨by rw [e,hmlen],hres e⟩
      · have e : addN L m.nd = (L ++ [bareN m.nd], (L.length : Int)) := by simp [addN, kidK, c1, c2]
        (repeat first|(with_reducible first|(refine hK _ _ ?_;clear hK K)|refine ‹∀σ w,_→K σ w› _ _ ?_|(refine W_st ?_;constructor;try intro K hK))|((with_reducible first|refine hZ _ _ ?_|refine W_rg ?_|skip);repeat1' simp only[push_cast,seval,-Nat.reduceSubDiff,cell_h,can_h,cellO_cells,canO_cells,setO_cells,heap_set_h,heap_alloc_h,size_set_h,size_alloc_h,vcells_agg,succ_ne,ne_succ,List.setIfInBounds_toArray,List.set_cons_succ,List.set_cons_zero,setCells,drew_h,hb4,c1,c2])|((repeat((fail_if_success with_reducible refine hK _ _ ?_);clear hK K));with_reducible refine hK _ _ ?_;clear hK K))
        exact ⟨by rw [e,hmlen],hres e⟩
    · have e : addN L m.nd = (L ++ [bareN m.nd], (L.length : Int)) := by simp only [addN, hk, c1]; simp
      (repeat first|(with_reducible first|(refine hK _ _ ?_;clear hK K)|refine ‹∀σ w,_→K σ w› _ _ ?_|(refine W_st ?_;constructor;try intro K hK))|((with_reducible first|refine hZ _ _ ?_|refine W_rg ?_|skip);repeat1' simp only[push_cast,seval,-Nat.reduceSubDiff,cell_h,can_h,cellO_cells,canO_cells,setO_cells,heap_set_h,heap_alloc_h,size_set_h,size_alloc_h,vcells_agg,succ_ne,ne_succ,List.setIfInBounds_toArray,List.set_cons_succ,List.set_cons_zero,setCells,drew_h,hb4,c1])|((repeat((fail_if_success with_reducible refine hK _ _ ?_);clear hK K));with_reducible refine hK _ _ ?_;clear hK K))
      exact ⟨by rw [e,hmlen],hres e⟩
  · replace hk : kidK m.nd.kind = false := by simpa using hk
    have e : addN L m.nd = (L,-1) := by simp [addN,hk]
    rw [e]
    refine Gives.of_W Tryz.call98 Tryz.func98 rfl Tryz.ntmps98 (by simp) ?_; intro Z hZ
    (repeat first|(with_reducible first|(refine hK _ _ ?_;clear hK K)|refine ‹∀σ w,_→K σ w› _ _ ?_|(refine W_st ?_;constructor;try intro K hK))|((with_reducible first|refine hZ _ _ ?_|refine W_rg ?_|skip);repeat1' simp only[push_cast,seval,-Nat.reduceSubDiff,cell_h,can_h,cellO_cells,canO_cells,setO_cells,heap_set_h,heap_alloc_h,size_set_h,size_alloc_h,vcells_agg,succ_ne,ne_succ,List.setIfInBounds_toArray,List.set_cons_succ,List.set_cons_zero,setCells,drew_h])|((repeat((fail_if_success with_reducible refine hK _ _ ?_);clear hK K));with_reducible refine hK _ _ ?_;clear hK K))
    refine (none_c (h.ext (Ext.alloc _ _)) hL).mono ?_
    rintro v w' ⟨rfl,rfl⟩
    (repeat first|(with_reducible first|(refine hK _ _ ?_;clear hK K)|refine ‹∀σ w,_→K σ w› _ _ ?_|(refine W_st ?_;constructor;try intro K hK))|((with_reducible first|refine hZ _ _ ?_|refine W_rg ?_|skip);repeat1' simp only[push_cast,seval,-Nat.reduceSubDiff,cell_h,can_h,cellO_cells,canO_cells,setO_cells,heap_set_h,heap_alloc_h,size_set_h,size_alloc_h,vcells_agg,succ_ne,ne_succ,List.setIfInBounds_toArray,List.set_cons_succ,List.set_cons_zero,setCells,drew_h])|((repeat((fail_if_success with_reducible refine hK _ _ ?_);clear hK K));with_reducible refine hK _ _ ?_;clear hK K))
    refine (kid_k _).mono ?_
    rintro v w' ⟨rfl,rfl⟩
    (repeat first|(with_reducible first|(refine hK _ _ ?_;clear hK K)|refine ‹∀σ w,_→K σ w› _ _ ?_|(refine W_st ?_;constructor;try intro K hK))|((with_reducible first|refine hZ _ _ ?_|refine W_rg ?_|skip);repeat1' simp only[push_cast,seval,-Nat.reduceSubDiff,cell_h,can_h,cellO_cells,canO_cells,setO_cells,heap_set_h,heap_alloc_h,size_set_h,size_alloc_h,vcells_agg,succ_ne,ne_succ,List.setIfInBounds_toArray,List.set_cons_succ,List.set_cons_zero,setCells,drew_h,hk])|((repeat((fail_if_success with_reducible refine hK _ _ ?_);clear hK K));with_reducible refine hK _ _ ?_;clear hK K))
    exact ⟨(h.ext (Ext.alloc _ _)).mono fun b _ hb => .inl hb,(Ext.alloc _ _).upd⟩
end Go.Proofs.YtgnnlaeikcnhcaaGreatDoor
end
