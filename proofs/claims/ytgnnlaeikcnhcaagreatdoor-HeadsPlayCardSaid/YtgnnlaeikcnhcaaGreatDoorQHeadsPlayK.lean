/- What the proof leans on,part 11 of 15. -/
import Derived.Test.YtgnnlaeikcnhcaaGreatDoorQHeadsPlayJ
set_option linter.unusedSimpArgs false
set_option linter.unusedVariables false
section
namespace Go.Vk
open Go Go.Proofs.YtgnnlaeikcnhcaaGreatDoor
def dentOf (y : Int) : List Value := [.bool (decide (y = -1)),.int .i64 y]
def dentCells (l : List Int) : List Value := l.flatMap dentOf
theorem dentCells_length (l : List Int) : (dentCells l).length = l.length * 2 := by
  induction l with
  | nil => rfl
  | cons y l ih => simp only [dentCells,List.flatMap_cons,List.length_append,List.length_cons] at ih ⊢; rw [ih]; simp [dentOf]; omega
theorem dentCells_get : ∀ {l : List Int} {i : Nat} {y : Int}, l[i]? = some y → (dentCells l)[i * 2]? = some (.bool (decide (y = -1))) ∧ (dentCells l)[i * 2 + 1]? = some (.int .i64 y)
  | [],_,_,h => by simp at h
  | z :: l,0,y,h => by simp at h; subst h; exact ⟨rfl,rfl⟩
  | z :: l,i + 1,y,h => by
    have := dentCells_get (l := l) (i := i) (y := y) (by simpa using h)
    have e : dentCells (z :: l) = dentOf z ++ dentCells l := by simp [dentCells]
    rw [e,List.getElem?_append_right (by simp [dentOf]; omega),List.getElem?_append_right (by simp [dentOf]; omega)]
    simp only [dentOf,List.length_cons,List.length_nil]
    rw [show (i + 1) * 2 - (0 + 1 + 1) = i * 2 by omega,show (i + 1) * 2 + 1 - (0 + 1 + 1) = i * 2 + 1 by omega]
    exact this
structure DX where
  bn : Nat
  cap : Nat
  M : List Laid
  ov : Value
  ob : Option Nat
  lv : Value
  lb : Option Nat
  mv : Value
  mb : Option Nat
  st : Int
  nm : ByteArray
def DX.pre (pd : Nat) (x : DX) : List Nat := pd :: (x.ob.toList ++ (x.lb.toList ++ x.mb.toList))
def DX.own (pd : Nat) (x : DX) : List Nat := x.pre pd ++ (x.bn :: x.M.flatMap Laid.blks)
def drow (b : BSt) (x : DX) : Array Value := #[.slice (some ⟨x.bn,0,none⟩) x.M.length x.cap,x.ov,x.lv,.int .i64 b.mode,.int .i64 b.back,x.mv,.int .i64 b.head,.int .i64 b.form,.bool b.quirks,.bool b.foster,.bool b.skip,.string b.pending,.bool b.ask.isSome,.int .i64 x.st,.string x.nm,.int .i64 (b.err.getD 0)]
structure DcM (w : World) (pd : Nat) (b : BSt) (x : DX) : Prop where
  head : w.heap[pd]? = some (.cells (drow b x) 103 (0,0))
  body : SlAt w 11 (.slice (some ⟨x.bn,0,none⟩) x.M.length x.cap) (flat x.M) (some x.bn)
  sub : ∀ m ∈ x.M,m.ok w
  nd : x.M.map Laid.nd = b.L
  op : SlAt w 1 x.ov (intCells (nds b.s)) x.ob
  ls : SlAt w 2 x.lv (dentCells b.l) x.lb
  md : SlAt w 1 x.mv (intCells b.modes) x.mb
  ask : ∀ y,b.ask = some y → x.st = y.1 ∧ x.nm = y.2
  own : (x.own pd).Nodup
section
variable {w w1 w2 w' : World} {pd : Nat} {b b' : BSt} {x : DX}
theorem DX.mem {pd : Nat} {x : DX} {q : Nat} : q ∈ x.own pd ↔ q = pd ∨ x.ob = some q ∨ x.lb = some q ∨ x.mb = some q ∨ q = x.bn ∨ ∃ m ∈ x.M,q ∈ m.blks := by
  simp only [DX.own,DX.pre,List.mem_append,List.mem_cons,Option.mem_toList,List.mem_flatMap]
  constructor
  · rintro ((h | h | h | h) | h | h)
    · exact .inl h
    · exact .inr (.inl h)
    · exact .inr (.inr (.inl h))
    · exact .inr (.inr (.inr (.inl h)))
    · exact .inr (.inr (.inr (.inr (.inl h))))
    · exact .inr (.inr (.inr (.inr (.inr h))))
  · rintro (h | h | h | h | h | h)
    · exact .inl (.inl h)
    · exact .inl (.inr (.inl h))
    · exact .inl (.inr (.inr (.inl h)))
    · exact .inl (.inr (.inr (.inr h)))
    · exact .inr (.inl h)
    · exact .inr (.inr h)
theorem DcM.lt (h : DcM w pd b x) {q : Nat} (hq : q ∈ x.own pd) : q < w.heap.size := by
  rcases DX.mem.1 hq with e | e | e | e | e | ⟨m,hm,e⟩
  · subst e; exact blk_lt h.head
  · have := h.op; rw [e] at this; exact this.lt
  · have := h.ls; rw [e] at this; exact this.lt
  · have := h.md; rw [e] at this; exact this.lt
  · subst e; exact h.body.lt
  · exact (h.sub m hm).lt e
theorem DcM.upd {G : Nat → Prop} (h : DcM w pd b x) (hu : Upd G w w') (hG : ∀ q ∈ x.own pd,¬ G q) : DcM w' pd b x :=
  ⟨(hu.same pd (blk_lt h.head) (hG pd (DX.mem.2 (.inl rfl)))).trans h.head,h.body.upd hu fun q hq => hG q (DX.mem.2 (by cases hq; exact .inr (.inr (.inr (.inr (.inl rfl)))))),
    fun m hm => (h.sub m hm).upd hu fun q hq => hG q (DX.mem.2 (.inr (.inr (.inr (.inr (.inr ⟨m,hm,hq⟩)))))),h.nd,
    h.op.upd hu fun q hq => hG q (DX.mem.2 (.inr (.inl hq))),h.ls.upd hu fun q hq => hG q (DX.mem.2 (.inr (.inr (.inl hq)))),h.md.upd hu fun q hq => hG q (DX.mem.2 (.inr (.inr (.inr (.inl hq))))),h.ask,h.own⟩
theorem DcM.ext (h : DcM w pd b x) (hx : Ext w w') : DcM w' pd b x := h.upd hx fun _ _ h => h
theorem DcM.len (h : DcM w pd b x) : x.M.length = b.L.length := by rw [← h.nd,List.length_map]
theorem DX.ne {pd : Nat} {x : DX} (h : (x.own pd).Nodup) : (∀ q,(x.ob = some q ∨ x.lb = some q ∨ x.mb = some q ∨ q = x.bn ∨ ∃ m ∈ x.M,q ∈ m.blks) → q ≠ pd) := by
  intro q hq e
  subst e
  rw [DX.own,DX.pre,List.cons_append,List.nodup_cons] at h
  refine h.1 ?_
  simp only [List.mem_append,List.mem_cons,Option.mem_toList,List.mem_flatMap]
  rcases hq with h | h | h | h | h
  · exact .inl (.inl h)
  · exact .inl (.inr (.inl h))
  · exact .inl (.inr (.inr h))
  · exact .inr (.inl h)
  · exact .inr (.inr h)
theorem DcM.put (h : DcM w pd b x) (b' : BSt) (k : Nat) (v : Value) (st : Int) (nm : ByteArray) (hr : (drow b x).setIfInBounds k v = drow b' { x with st := st, nm := nm }) (hk : k < 16)
    (he : b'.L = b.L ∧ b'.s = b.s ∧ b'.l = b.l ∧ b'.modes = b.modes) (ha : ∀ y,b'.ask = some y → st = y.1 ∧ nm = y.2) :
    canStore w ⟨pd,k,none⟩ ∧ DcM (w.setCell ⟨pd,k,none⟩ v) pd b' { x with st := st,nm := nm } ∧ Upd (fun q => q ∈ x.own pd) w (w.setCell ⟨pd,k,none⟩ v) := by
  obtain ⟨e1,e2,e3,e4⟩ := he
  have up : Upd (fun q => q = pd) w (w.setCell ⟨pd,k,none⟩ v) := Upd.setCell (F := fun q => q = pd) (a := ⟨pd,k,none⟩) w rfl v
  have ne := DX.ne h.own
  refine ⟨by rw [can_h,h.head,canO_cells]; exact hk,⟨?_,h.body.upd up fun q hq e => ne q (.inr (.inr (.inr (.inl (by cases hq; rfl))))) e,fun m hm => (h.sub m hm).upd up fun q hq e => ne q (.inr (.inr (.inr (.inr ⟨m,hm,hq⟩)))) e,by rw [e1]; exact h.nd,
    by rw [e2]; exact h.op.upd up fun q hq e => ne q (.inl hq) e,by rw [e3]; exact h.ls.upd up fun q hq e => ne q (.inr (.inl hq)) e,by rw [e4]; exact h.md.upd up fun q hq e => ne q (.inr (.inr (.inl hq))) e,ha,h.own⟩,up.mono fun q _ e => DX.mem.2 (.inl e)⟩
  rw [heap_set_h,if_pos rfl,h.head,setO_cells,hr]
theorem DcM.fld (h : DcM w pd b x) (hx : Ext w w1) {i : Nat} {m : Laid} (hi : x.M[i]? = some m) (m' : Laid) (j : Nat) (v : Value) (hc : m'.cells = m.cells.set j v) (hj : j < 11)
    (hok : m'.ok w1) (hb : ∀ q ∈ m'.blks,q ∈ m.blks ∨ w.heap.size ≤ q) (hnd : m'.blks.Nodup) :
    canStore w1 ⟨x.bn,i * 11 + j,none⟩ ∧ DcM (w1.setCell ⟨x.bn,i * 11 + j,none⟩ v) pd { b with L := b.L.set i m'.nd } { x with M := x.M.set i m' } ∧ Upd (fun q => q ∈ x.own pd) w (w1.setCell ⟨x.bn,i * 11 + j,none⟩ v) := by
  have h1 := h.ext hx
  have hil : i < x.M.length := (List.getElem?_eq_some_iff.1 hi).1
  have hcan := h1.body.can (i := i * 11 + j) (by rw [flat_length]; omega)
  have up : Upd (fun q => q = x.bn) w1 (w1.setCell ⟨x.bn,i * 11 + j,none⟩ v) := Upd.setCell (F := fun q => q = x.bn) (a := ⟨x.bn,i * 11 + j,none⟩) w1 rfl v
  have body2 := h1.body.set (i := i * 11 + j) (by rw [flat_length]; omega) v
  rw [flat_set _ _ _ m m' v hi hj hc] at body2
  rw [Nat.zero_add] at body2 hcan
  have hlt : ∀ q ∈ x.own pd,q < w.heap.size := fun q hq => h.lt hq
  have own := h.own
  have hbn : x.bn < w.heap.size := h.body.lt
  -- no other block is bn
  have nbn : ∀ q,(q = pd ∨ x.ob = some q ∨ x.lb = some q ∨ x.mb = some q ∨ ∃ m ∈ x.M,q ∈ m.blks) → q ≠ x.bn := by
    intro q hq e
    subst e
    rw [DX.own,List.nodup_append] at own
    obtain ⟨o1,o2,o3⟩ := own
    rw [List.nodup_cons] at o2
    rcases hq with h | h | h | h | h
    · exact o3 pd (by simp [DX.pre]) x.bn (by simp) h.symm
    · exact o3 x.bn (by simp [DX.pre,h]) x.bn (by simp) rfl
    · exact o3 x.bn (by simp [DX.pre,h]) x.bn (by simp) rfl
    · exact o3 x.bn (by simp [DX.pre,h]) x.bn (by simp) rfl
    · exact o2.1 (List.mem_flatMap.2 h)
  have e1 : m'.nd = m'.nd := rfl
  have hlen : (x.M.set i m').length = x.M.length := List.length_set
  refine ⟨hcan,⟨?_,by dsimp only; rw [hlen]; exact body2,?_,?_,h1.op.upd up fun q hq e => nbn q (.inr (.inl hq)) e,h1.ls.upd up fun q hq e => nbn q (.inr (.inr (.inl hq))) e,h1.md.upd up fun q hq e => nbn q (.inr (.inr (.inr (.inl hq)))) e,h.ask,?_⟩,Upd.trans hx.upd up fun q _ e => DX.mem.2 (.inr (.inr (.inr (.inr (.inl e)))))⟩
  · have hne : pd ≠ x.bn := nbn pd (.inl rfl)
    rw [heap_set_h,if_neg hne,h1.head]
    unfold drow
    dsimp only
    rw [hlen]
  · intro y hy
    rcases List.mem_or_eq_of_mem_set hy with hy | rfl
    · exact (h1.sub y hy).upd up fun q hq e => nbn q (.inr (.inr (.inr (.inr ⟨y,hy,hq⟩)))) e
    · refine hok.upd up fun q hq e => ?_
      rcases hb q hq with h2 | h2
      · exact nbn q (.inr (.inr (.inr (.inr ⟨m,List.mem_of_getElem? hi,h2⟩)))) e
      · subst e; omega
  · show (x.M.set i m').map Laid.nd = b.L.set i m'.nd
    rw [List.map_set,h.nd]
  · obtain ⟨A, B, hA, hl⟩ := split_at x.M i m hi
    have e2 : x.M.set i m' = A ++ m' :: B := by rw [hA,← hl,set_split]
    have s1 : x.own pd = (x.pre pd ++ (x.bn :: A.flatMap Laid.blks)) ++ m.blks ++ B.flatMap Laid.blks := by rw [DX.own,hA]; simp
    have s2 : DX.own pd { x with M := x.M.set i m' } = (x.pre pd ++ (x.bn :: A.flatMap Laid.blks)) ++ m'.blks ++ B.flatMap Laid.blks := by
      unfold DX.own; dsimp only; rw [e2]; simp [DX.pre]
    rw [s2]
    refine nodup_repl (s1 ▸ own) hnd fun q hq => ?_
    rcases hb q hq with h2 | h2
    · exact .inl h2
    · refine .inr ⟨fun hm => ?_, fun hm => ?_⟩
      · have := hlt q (by rw [s1]; simp only [List.mem_append]; exact .inl (.inl (by simpa [List.mem_append] using hm))); omega
      · have := hlt q (by rw [s1]; simp only [List.mem_append]; exact .inr hm); omega
theorem DcM.more (h : DcM w pd b x) (hx : Ext w w1) (m' : Laid) (hok : m'.ok w1) (hb : ∀ q ∈ m'.blks, w.heap.size ≤ q) (hnd : m'.blks.Nodup) {bn' cap' : Nat}
    (hs : SlAt w2 11 (.slice (some ⟨bn',0,none⟩) (x.M.length + 1) cap') (flat x.M ++ m'.cells) (some bn')) (hu : Upd (fun q => q = x.bn) w1 w2) (hbn : bn' = x.bn ∨ w1.heap.size ≤ bn') :
    canStore w2 ⟨pd,0,none⟩ ∧ DcM (w2.setCell ⟨pd,0,none⟩ (.slice (some ⟨bn',0,none⟩) (x.M.length + 1) cap')) pd { b with L := b.L ++ [m'.nd] } { x with bn := bn',cap := cap',M := x.M ++ [m'] } ∧
      Upd (fun q => q ∈ x.own pd) w (w2.setCell ⟨pd,0,none⟩ (.slice (some ⟨bn',0,none⟩) (x.M.length + 1) cap')) := by
  have h1 := h.ext hx
  have own := h.own
  have ne := DX.ne own
  have hlt : ∀ q ∈ x.own pd,q < w.heap.size := fun q hq => h.lt hq
  have hsz := hx.alike.size
  have hsz2 := hu.alike.size
  have nbn : ∀ q,(q = pd ∨ x.ob = some q ∨ x.lb = some q ∨ x.mb = some q ∨ ∃ m ∈ x.M,q ∈ m.blks) → q ≠ x.bn := by
    intro q hq e
    subst e
    have own := own
    rw [DX.own,List.nodup_append] at own
    obtain ⟨o1,o2,o3⟩ := own
    rw [List.nodup_cons] at o2
    rcases hq with h | h | h | h | h
    · exact o3 pd (by simp [DX.pre]) x.bn (by simp) h.symm
    · exact o3 x.bn (by simp [DX.pre,h]) x.bn (by simp) rfl
    · exact o3 x.bn (by simp [DX.pre,h]) x.bn (by simp) rfl
    · exact o3 x.bn (by simp [DX.pre,h]) x.bn (by simp) rfl
    · exact o2.1 (List.mem_flatMap.2 h)
  have hpl : pd < w.heap.size := hlt pd (DX.mem.2 (.inl rfl))
  have hpd : pd ≠ bn' := by
    rcases hbn with e | e
    · rw [e]; exact nbn pd (.inl rfl)
    · omega
  have up : Upd (fun q => q = pd) w2 (w2.setCell ⟨pd,0,none⟩ (.slice (some ⟨bn',0,none⟩) (x.M.length + 1) cap')) := Upd.setCell (F := fun q => q = pd) (a := ⟨pd,0,none⟩) w2 rfl _
  have hp2 := (hu.same pd (blk_lt h1.head) (nbn pd (.inl rfl))).trans h1.head
  have key : ∀ {es : Nat} {v : Value} {cs : List Value} {bo : Option Nat},SlAt w1 es v cs bo → (∀ q,bo = some q → q ≠ x.bn ∧ q ≠ pd) → SlAt (w2.setCell ⟨pd,0,none⟩ (.slice (some ⟨bn',0,none⟩) (x.M.length + 1) cap')) es v cs bo :=
    fun hs hq => (hs.upd hu fun q e e2 => (hq q e).1 e2).upd up fun q e e2 => (hq q e).2 e2
  have hlen : (x.M ++ [m']).length = x.M.length + 1 := by simp
  have hnew : ∀ q ∈ m'.blks,q ≠ x.bn ∧ q ≠ pd := fun q hq => by
    have := hb q hq
    have e1 : x.bn < w.heap.size := h.body.lt
    omega
  refine ⟨by rw [can_h,hp2,canO_cells]; exact (show 0 < 16 by decide),⟨?_,?_,?_,?_,key h1.op fun q hq => ⟨nbn q (.inr (.inl hq)),ne q (.inl hq)⟩,key h1.ls fun q hq => ⟨nbn q (.inr (.inr (.inl hq))),ne q (.inr (.inl hq))⟩,key h1.md fun q hq => ⟨nbn q (.inr (.inr (.inr (.inl hq)))),ne q (.inr (.inr (.inl hq)))⟩,h.ask,?_⟩,?_⟩
  · rw [heap_set_h, if_pos rfl, hp2, setO_cells]
    unfold drow
    dsimp only
    rw [hlen]
    rfl
  · have := hs.upd up fun q e e2 => by cases e; exact hpd e2.symm
    dsimp only
    rw [hlen]
    simpa [flat,List.flatMap_append] using this
  · intro y hy
    have k : y.ok w1 ∧ ∀ q ∈ y.blks,q ≠ x.bn ∧ q ≠ pd := by
      rcases List.mem_append.1 hy with hy | hy
      · exact ⟨h1.sub y hy,fun q hq => ⟨nbn q (.inr (.inr (.inr (.inr ⟨y,hy,hq⟩)))),ne q (.inr (.inr (.inr (.inr ⟨y,hy,hq⟩))))⟩⟩
      · simp only [List.mem_singleton] at hy; subst hy; exact ⟨hok,hnew⟩
    exact (k.1.upd hu fun q hq e => (k.2 q hq).1 e).upd up fun q hq e => (k.2 q hq).2 e
  · show (x.M ++ [m']).map Laid.nd = b.L ++ [m'.nd]
    rw [List.map_append,h.nd]; rfl
  · have s2 : DX.own pd { x with bn := bn',cap := cap',M := x.M ++ [m'] } = x.pre pd ++ (bn' :: (x.M.flatMap Laid.blks ++ m'.blks)) := by
      unfold DX.own; simp [DX.pre]
    rw [s2]
    have o := own
    rw [DX.own,List.nodup_append] at o
    obtain ⟨o1,o2,o3⟩ := o
    rw [List.nodup_cons] at o2
    have lM : ∀ q ∈ x.M.flatMap Laid.blks,q < w.heap.size := fun q hq => hlt q (by rw [DX.own]; simp only [List.mem_append,List.mem_cons]; exact .inr (.inr hq))
    have lP : ∀ q ∈ x.pre pd,q < w.heap.size := fun q hq => hlt q (by rw [DX.own]; simp only [List.mem_append]; exact .inl hq)
    rw [List.nodup_append,List.nodup_cons,List.nodup_append]
    refine ⟨o1,⟨fun hm => ?_,o2.2,hnd,fun a ha c hc e => by have := lM a ha; have := hb c hc; omega⟩,fun a ha c hc e => ?_⟩
    · rcases List.mem_append.1 hm with hm | hm
      · rcases hbn with e | e
        · rw [e] at hm; exact o2.1 hm
        · have := lM _ hm; omega
      · rcases hbn with e | e
        · rw [e] at hm; exact (hnew _ hm).1 rfl
        · have := hok.lt hm; omega
    · subst e
      have la := lP a ha
      rcases List.mem_cons.1 hc with hc | hc
      · rcases hbn with e | e
        · exact o3 a ha x.bn (by simp) (by omega)
        · omega
      · rcases List.mem_append.1 hc with hc | hc
        · exact o3 a ha a (by simp only [List.mem_cons]; exact .inr hc) rfl
        · have := hb a hc; omega
  · refine Upd.trans hx.upd (Upd.trans (F := fun q => q = x.bn ∨ q = pd) (hu.mono fun _ _ e => .inl e) up fun _ _ e => .inr e) fun q _ e => ?_
    rcases e with e | e
    · exact DX.mem.2 (.inr (.inr (.inr (.inr (.inl e)))))
    · exact DX.mem.2 (.inl e)
theorem DcM.opn (h : DcM w pd b x) {u : Value} {s' : List OpS} {bo' : Option Nat} (hs : SlAt w2 1 u (intCells (nds s')) bo') (hu : Upd (fun q => x.ob = some q) w w2) (hbo : ∀ q,bo' = some q → x.ob = some q ∨ w.heap.size ≤ q) :
    canStore w2 ⟨pd,1,none⟩ ∧ DcM (w2.setCell ⟨pd,1,none⟩ u) pd { b with s := s' } { x with ov := u,ob := bo' } ∧ Upd (fun q => q ∈ x.own pd) w (w2.setCell ⟨pd,1,none⟩ u) ∧ ∀ q ∈ DX.own pd { x with ov := u,ob := bo' },q ∈ x.own pd ∨ w.heap.size ≤ q := by
  have own := h.own
  have ne := DX.ne own
  have hlt : ∀ q ∈ x.own pd,q < w.heap.size := fun q hq => h.lt hq
  have s1 : x.own pd = [pd] ++ x.ob.toList ++ (x.lb.toList ++ x.mb.toList ++ (x.bn :: x.M.flatMap Laid.blks)) := by simp [DX.own,DX.pre]
  have s2 : DX.own pd { x with ov := u,ob := bo' } = [pd] ++ bo'.toList ++ (x.lb.toList ++ x.mb.toList ++ (x.bn :: x.M.flatMap Laid.blks)) := by simp [DX.own,DX.pre]
  have apart : ∀ q,q ∈ [pd] ++ (x.lb.toList ++ x.mb.toList ++ (x.bn :: x.M.flatMap Laid.blks)) → x.ob ≠ some q := fun q hq e => by
    rw [s1,List.nodup_append] at own
    obtain ⟨o1,_,o3⟩ := own
    rw [List.nodup_append] at o1
    rcases List.mem_append.1 hq with hq | hq
    · exact o1.2.2 q hq q (by simp [e]) rfl
    · exact o3 q (List.mem_append.2 (.inr (by simp [e]))) q hq rfl
  have hpd : x.ob ≠ some pd := apart pd (by simp)
  have hpl : pd < w.heap.size := blk_lt h.head
  have hpd' : bo' ≠ some pd := fun e => by
    rcases hbo pd e with h | h
    · exact hpd h
    · omega
  have up : Upd (fun q => q = pd) w2 (w2.setCell ⟨pd,1,none⟩ u) := Upd.setCell (F := fun q => q = pd) (a := ⟨pd,1,none⟩) w2 rfl u
  have hp2 := (hu.same pd hpl hpd).trans h.head
  have keep : ∀ {es : Nat} {v : Value} {cs : List Value} {bo : Option Nat},SlAt w es v cs bo → (∀ q,bo = some q → x.ob ≠ some q ∧ q ≠ pd) → SlAt (w2.setCell ⟨pd,1,none⟩ u) es v cs bo :=
    fun hs hq => (hs.upd hu fun q e e2 => (hq q e).1 e2).upd up fun q e e2 => (hq q e).2 e2
  refine ⟨by rw [can_h,hp2,canO_cells]; exact (show 1 < 16 by decide),⟨?_,keep h.body fun q hq => ⟨apart q (by cases hq; simp),ne q (.inr (.inr (.inr (.inl (by cases hq; rfl)))))⟩,?_,h.nd,hs.upd up fun q e e2 => hpd' (by rw [e,e2]),keep h.ls fun q hq => ⟨apart q (by have hq : x.lb = some q := hq; simp [hq]),ne q (.inr (.inl hq))⟩,keep h.md fun q hq => ⟨apart q (by have hq : x.mb = some q := hq; simp [hq]),ne q (.inr (.inr (.inl hq)))⟩,h.ask,?_⟩,?_,?_⟩
  · rw [heap_set_h,if_pos rfl,hp2,setO_cells]; rfl
  · intro y hy
    refine ((h.sub y hy).upd hu fun q hq e => apart q ?_ e).upd up fun q hq e => ne q (.inr (.inr (.inr (.inr ⟨y,hy,hq⟩)))) e
    simp only [List.mem_append,List.mem_cons,List.mem_flatMap]
    exact .inr (.inr (.inr ⟨y,hy,hq⟩))
  · rw [s2]
    refine nodup_repl (s1 ▸ own) (by cases bo' <;> simp) fun q hq => ?_
    have hq : bo' = some q := by simpa using hq
    rcases hbo q hq with h2 | h2
    · exact .inl (by simp [h2])
    · refine .inr ⟨fun hm => ?_, fun hm => ?_⟩
      · have := hlt q (by rw [s1]; exact List.mem_append.2 (.inl (List.mem_append.2 (.inl hm)))); omega
      · have := hlt q (by rw [s1]; exact List.mem_append.2 (.inr hm)); omega
  · refine Upd.trans (hu.mono fun q _ e => ?_) up fun q _ e => DX.mem.2 (.inl e)
    exact DX.mem.2 (.inr (.inl e))
  · intro q hq
    rw [s2] at hq
    rcases List.mem_append.1 hq with hq | hq
    · rcases List.mem_append.1 hq with hq | hq
      · exact .inl (by rw [s1]; exact List.mem_append.2 (.inl (List.mem_append.2 (.inl hq))))
      · have hq : bo' = some q := by simpa using hq
        rcases hbo q hq with h2 | h2
        · exact .inl (DX.mem.2 (.inr (.inl h2)))
        · exact .inr h2
    · exact .inl (by rw [s1]; exact List.mem_append.2 (.inr hq))
theorem DcM.lst (h : DcM w pd b x) {u : Value} {s' : List Int} {bo' : Option Nat} (hs : SlAt w2 2 u (dentCells s') bo') (hu : Upd (fun q => x.lb = some q) w w2) (hbo : ∀ q,bo' = some q → x.lb = some q ∨ w.heap.size ≤ q) :
    canStore w2 ⟨pd,2,none⟩ ∧ DcM (w2.setCell ⟨pd,2,none⟩ u) pd { b with l := s' } { x with lv := u,lb := bo' } ∧ Upd (fun q => q ∈ x.own pd) w (w2.setCell ⟨pd,2,none⟩ u) ∧ ∀ q ∈ DX.own pd { x with lv := u,lb := bo' },q ∈ x.own pd ∨ w.heap.size ≤ q := by
  have own := h.own
  have ne := DX.ne own
  have hlt : ∀ q ∈ x.own pd,q < w.heap.size := fun q hq => h.lt hq
  have s1 : x.own pd = (pd :: x.ob.toList) ++ x.lb.toList ++ (x.mb.toList ++ (x.bn :: x.M.flatMap Laid.blks)) := by simp [DX.own,DX.pre]
  have s2 : DX.own pd { x with lv := u,lb := bo' } = (pd :: x.ob.toList) ++ bo'.toList ++ (x.mb.toList ++ (x.bn :: x.M.flatMap Laid.blks)) := by simp [DX.own,DX.pre]
  have apart : ∀ q,q ∈ (pd :: x.ob.toList) ++ (x.mb.toList ++ (x.bn :: x.M.flatMap Laid.blks)) → x.lb ≠ some q := fun q hq e => by
    rw [s1,List.nodup_append] at own
    obtain ⟨o1,_,o3⟩ := own
    rw [List.nodup_append] at o1
    rcases List.mem_append.1 hq with hq | hq
    · exact o1.2.2 q hq q (by simp [e]) rfl
    · exact o3 q (List.mem_append.2 (.inr (by simp [e]))) q hq rfl
  have hpd : x.lb ≠ some pd := apart pd (by simp)
  have hpl : pd < w.heap.size := blk_lt h.head
  have hpd' : bo' ≠ some pd := fun e => by
    rcases hbo pd e with h | h
    · exact hpd h
    · omega
  have up : Upd (fun q => q = pd) w2 (w2.setCell ⟨pd,2,none⟩ u) := Upd.setCell (F := fun q => q = pd) (a := ⟨pd,2,none⟩) w2 rfl u
  have hp2 := (hu.same pd hpl hpd).trans h.head
  have keep : ∀ {es : Nat} {v : Value} {cs : List Value} {bo : Option Nat},SlAt w es v cs bo → (∀ q,bo = some q → x.lb ≠ some q ∧ q ≠ pd) → SlAt (w2.setCell ⟨pd,2,none⟩ u) es v cs bo :=
    fun hs hq => (hs.upd hu fun q e e2 => (hq q e).1 e2).upd up fun q e e2 => (hq q e).2 e2
  refine ⟨by rw [can_h,hp2,canO_cells]; exact (show 2 < 16 by decide),⟨?_,keep h.body fun q hq => ⟨apart q (by cases hq; simp),ne q (.inr (.inr (.inr (.inl (by cases hq; rfl)))))⟩,?_,h.nd,keep h.op fun q hq => ⟨apart q (by have hq : x.ob = some q := hq; simp [hq]),ne q (.inl hq)⟩,hs.upd up fun q e e2 => hpd' (by rw [e,e2]),keep h.md fun q hq => ⟨apart q (by have hq : x.mb = some q := hq; simp [hq]),ne q (.inr (.inr (.inl hq)))⟩,h.ask,?_⟩,?_,?_⟩
  · rw [heap_set_h,if_pos rfl,hp2,setO_cells]; rfl
  · intro y hy
    refine ((h.sub y hy).upd hu fun q hq e => apart q ?_ e).upd up fun q hq e => ne q (.inr (.inr (.inr (.inr ⟨y,hy,hq⟩)))) e
    simp only [List.mem_append,List.mem_cons,List.mem_flatMap]
    exact .inr (.inr (.inr ⟨y,hy,hq⟩))
  · rw [s2]
    refine nodup_repl (s1 ▸ own) (by cases bo' <;> simp) fun q hq => ?_
    have hq : bo' = some q := by simpa using hq
    rcases hbo q hq with h2 | h2
    · exact .inl (by simp [h2])
    · refine .inr ⟨fun hm => ?_, fun hm => ?_⟩
      · have := hlt q (by rw [s1]; exact List.mem_append.2 (.inl (List.mem_append.2 (.inl hm)))); omega
      · have := hlt q (by rw [s1]; exact List.mem_append.2 (.inr hm)); omega
  · refine Upd.trans (hu.mono fun q _ e => ?_) up fun q _ e => DX.mem.2 (.inl e)
    exact DX.mem.2 (.inr (.inr (.inl e)))
  · intro q hq
    rw [s2] at hq
    rcases List.mem_append.1 hq with hq | hq
    · rcases List.mem_append.1 hq with hq | hq
      · exact .inl (by rw [s1]; exact List.mem_append.2 (.inl (List.mem_append.2 (.inl hq))))
      · have hq : bo' = some q := by simpa using hq
        rcases hbo q hq with h2 | h2
        · exact .inl (DX.mem.2 (.inr (.inr (.inl h2))))
        · exact .inr h2
    · exact .inl (by rw [s1]; exact List.mem_append.2 (.inr hq))
theorem DcM.mds (h : DcM w pd b x) {u : Value} {s' : List Int} {bo' : Option Nat} (hs : SlAt w2 1 u (intCells s') bo') (hu : Upd (fun q => x.mb = some q) w w2) (hbo : ∀ q,bo' = some q → x.mb = some q ∨ w.heap.size ≤ q) :
    canStore w2 ⟨pd,5,none⟩ ∧ DcM (w2.setCell ⟨pd,5,none⟩ u) pd { b with modes := s' } { x with mv := u,mb := bo' } ∧ Upd (fun q => q ∈ x.own pd) w (w2.setCell ⟨pd,5,none⟩ u) ∧ ∀ q ∈ DX.own pd { x with mv := u,mb := bo' },q ∈ x.own pd ∨ w.heap.size ≤ q := by
  have own := h.own
  have ne := DX.ne own
  have hlt : ∀ q ∈ x.own pd,q < w.heap.size := fun q hq => h.lt hq
  have s1 : x.own pd = (pd :: (x.ob.toList ++ x.lb.toList)) ++ x.mb.toList ++ (x.bn :: x.M.flatMap Laid.blks) := by simp [DX.own,DX.pre]
  have s2 : DX.own pd { x with mv := u,mb := bo' } = (pd :: (x.ob.toList ++ x.lb.toList)) ++ bo'.toList ++ (x.bn :: x.M.flatMap Laid.blks) := by simp [DX.own,DX.pre]
  have apart : ∀ q,q ∈ (pd :: (x.ob.toList ++ x.lb.toList)) ++ (x.bn :: x.M.flatMap Laid.blks) → x.mb ≠ some q := fun q hq e => by
    rw [s1,List.nodup_append] at own
    obtain ⟨o1,_,o3⟩ := own
    rw [List.nodup_append] at o1
    rcases List.mem_append.1 hq with hq | hq
    · exact o1.2.2 q hq q (by simp [e]) rfl
    · exact o3 q (List.mem_append.2 (.inr (by simp [e]))) q hq rfl
  have hpd : x.mb ≠ some pd := apart pd (by simp)
  have hpl : pd < w.heap.size := blk_lt h.head
  have hpd' : bo' ≠ some pd := fun e => by
    rcases hbo pd e with h | h
    · exact hpd h
    · omega
  have up : Upd (fun q => q = pd) w2 (w2.setCell ⟨pd,5,none⟩ u) := Upd.setCell (F := fun q => q = pd) (a := ⟨pd,5,none⟩) w2 rfl u
  have hp2 := (hu.same pd hpl hpd).trans h.head
  have keep : ∀ {es : Nat} {v : Value} {cs : List Value} {bo : Option Nat},SlAt w es v cs bo → (∀ q,bo = some q → x.mb ≠ some q ∧ q ≠ pd) → SlAt (w2.setCell ⟨pd,5,none⟩ u) es v cs bo :=
    fun hs hq => (hs.upd hu fun q e e2 => (hq q e).1 e2).upd up fun q e e2 => (hq q e).2 e2
  refine ⟨by rw [can_h,hp2,canO_cells]; exact (show 5 < 16 by decide),⟨?_,keep h.body fun q hq => ⟨apart q (by cases hq; simp),ne q (.inr (.inr (.inr (.inl (by cases hq; rfl)))))⟩,?_,h.nd,keep h.op fun q hq => ⟨apart q (by have hq : x.ob = some q := hq; simp [hq]),ne q (.inl hq)⟩,keep h.ls fun q hq => ⟨apart q (by have hq : x.lb = some q := hq; simp [hq]),ne q (.inr (.inl hq))⟩,hs.upd up fun q e e2 => hpd' (by rw [e,e2]),h.ask,?_⟩,?_,?_⟩
  · rw [heap_set_h,if_pos rfl,hp2,setO_cells]; rfl
  · intro y hy
    refine ((h.sub y hy).upd hu fun q hq e => apart q ?_ e).upd up fun q hq e => ne q (.inr (.inr (.inr (.inr ⟨y,hy,hq⟩)))) e
    simp only [List.mem_append,List.mem_cons,List.mem_flatMap]
    exact .inr (.inr ⟨y,hy,hq⟩)
  · rw [s2]
    refine nodup_repl (s1 ▸ own) (by cases bo' <;> simp) fun q hq => ?_
    have hq : bo' = some q := by simpa using hq
    rcases hbo q hq with h2 | h2
    · exact .inl (by simp [h2])
    · refine .inr ⟨fun hm => ?_, fun hm => ?_⟩
      · have := hlt q (by rw [s1]; exact List.mem_append.2 (.inl (List.mem_append.2 (.inl hm)))); omega
      · have := hlt q (by rw [s1]; exact List.mem_append.2 (.inr hm)); omega
  · refine Upd.trans (hu.mono fun q _ e => ?_) up fun q _ e => DX.mem.2 (.inl e)
    exact DX.mem.2 (.inr (.inr (.inr (.inl e))))
  · intro q hq
    rw [s2] at hq
    rcases List.mem_append.1 hq with hq | hq
    · rcases List.mem_append.1 hq with hq | hq
      · exact .inl (by rw [s1]; exact List.mem_append.2 (.inl (List.mem_append.2 (.inl hq))))
      · have hq : bo' = some q := by simpa using hq
        rcases hbo q hq with h2 | h2
        · exact .inl (DX.mem.2 (.inr (.inr (.inr (.inl h2)))))
        · exact .inr h2
    · exact .inl (by rw [s1]; exact List.mem_append.2 (.inr hq))
end
def Dc (w0 : World) (S : Nat → Prop) (w : World) (pd : Nat) (b : BSt) : Prop := Upd S w0 w ∧ ∃ x,DcM w pd b x ∧ ∀ q ∈ x.own pd,S q ∨ w0.heap.size ≤ q
section
variable {w0 w w' : World} {S : Nat → Prop} {pd : Nat} {b b' : BSt} {x x' : DX}
theorem Dc.ext (h : Dc w0 S w pd b) (hx : Ext w w') : Dc w0 S w' pd b := by
  obtain ⟨h1,x,h2,h3⟩ := h
  exact ⟨Upd.trans h1 hx fun _ _ h => h.elim,x,h2.ext hx,h3⟩
theorem Dc.step (hu : Upd S w0 w) (h : DcM w pd b x) (hS : ∀ q ∈ x.own pd,S q ∨ w0.heap.size ≤ q) (hu2 : Upd (fun q => q ∈ x.own pd) w w') (h' : DcM w' pd b' x') (hn : ∀ q ∈ x'.own pd,q ∈ x.own pd ∨ w.heap.size ≤ q) : Dc w0 S w' pd b' := by
  have hs := hu.alike.size
  refine ⟨Upd.trans hu hu2 fun q hq hm => ?_,x',h',fun q hq => ?_⟩
  · rcases hS q hm with h | h
    · exact h
    · omega
  · rcases hn q hq with h | h
    · exact hS q h
    · exact .inr (by omega)
theorem Dc.put (h : Dc w0 S w pd b) (b' : BSt) (k : Nat) (v : Value) (hk : k < 16) (hr : ∀ x : DX, (drow b x).setIfInBounds k v = drow b' x)
    (he : b'.L = b.L ∧ b'.s = b.s ∧ b'.l = b.l ∧ b'.modes = b.modes ∧ b'.ask = b.ask) : canStore w ⟨pd,k,none⟩ ∧ Dc w0 S (w.setCell ⟨pd,k,none⟩ v) pd b' := by
  obtain ⟨h1,x,h2,h3⟩ := h
  obtain ⟨e1,e2,e3,e4,e5⟩ := he
  obtain ⟨g1,g2,g3⟩ := h2.put b' k v x.st x.nm (hr x) hk ⟨e1,e2,e3,e4⟩ (by rw [e5]; exact h2.ask)
  exact ⟨g1,.step h1 h2 h3 g3 g2 fun q hq => .inl hq⟩
end
end Go.Vk
end
section
namespace Go.Vk
open Go Go.Proofs.YtgnnlaeikcnhcaaGreatDoor
theorem dO_lt {w : World} {b o : Nat} {v : Value} (h : cellO (w.heap[b]?) o = some v) : b < w.heap.size := by
  by_cases hb : b < w.heap.size
  · exact hb
  · rw [Array.getElem?_eq_none (by omega)] at h
    cases h
theorem dO_ext {w w' : World} (hx : Ext w w') {b o : Nat} {v : Value} (h : cellO (w.heap[b]?) o = some v) : cellO (w'.heap[b]?) o = some v := by
  rw [← cell_h] at h ⊢
  exact cell_ext hx h
theorem DcM.hd {w : World} {pd : Nat} {b : BSt} {x : DX} (h : DcM w pd b x) : ∃ oa oc la lc ma mc,x.ov = .slice oa b.s.length oc ∧ b.s.length ≤ oc ∧ x.lv = .slice la b.l.length lc ∧ b.l.length ≤ lc ∧ x.mv = .slice ma b.modes.length mc ∧ b.modes.length ≤ mc ∧ b.L.length ≤ x.cap ∧
    w.heap[pd]? = some (.cells #[.slice (some ⟨x.bn,0,none⟩) b.L.length x.cap,.slice oa b.s.length oc,.slice la b.l.length lc,.int .i64 b.mode,.int .i64 b.back,.slice ma b.modes.length mc,.int .i64 b.head,.int .i64 b.form,.bool b.quirks,.bool b.foster,.bool b.skip,.string b.pending,.bool b.ask.isSome,.int .i64 x.st,.string x.nm,.int .i64 (b.err.getD 0)] 103 (0,0)) := by
  obtain ⟨oa,oc,e1,h1⟩ := h.op.ints_len
  obtain ⟨ma,mc,e3,h3⟩ := h.md.ints_len
  obtain ⟨la,ln,lc,e2,h2,h2'⟩ := h.ls.len
  rw [dentCells_length] at h2'
  have e4 : (nds b.s).length = b.s.length := by simp [nds]
  rw [e4] at e1 h1
  have e5 : ln = b.l.length := by omega
  subst e5
  obtain ⟨_,n,c,e,hnc,hn⟩ := h.body.len
  cases e
  refine ⟨oa,oc,la,lc,ma,mc,e1,h1,e2,h2,e3,h3,by rw [← h.len]; exact hnc,?_⟩
  have := h.head
  unfold drow at this
  rw [e1,e2,e3,h.len] at this
  exact this
theorem DcM.node {w : World} {pd : Nat} {b : BSt} {x : DX} (h : DcM w pd b x) {q : Nat} {n : Nd} (hq : b.L[q]? = some n) : ∃ m xa xn xc ya yn yc,x.M[q]? = some m ∧ m.nd = n ∧ m.ok w ∧ m.av = .slice xa xn xc ∧ m.kv = .slice ya yn yc ∧
    cellO (w.heap[x.bn]?) (q * 11) = some (.int .i64 n.kind) ∧ cellO (w.heap[x.bn]?) (q * 11 + 1) = some (.string n.name) ∧ cellO (w.heap[x.bn]?) (q * 11 + 2) = some (.string n.text) ∧ cellO (w.heap[x.bn]?) (q * 11 + 3) = some (.int .i64 n.space) ∧ cellO (w.heap[x.bn]?) (q * 11 + 4) = some (.slice xa xn xc) ∧ cellO (w.heap[x.bn]?) (q * 11 + 5) = some (.bool n.dup) ∧
    cellO (w.heap[x.bn]?) (q * 11 + 6) = some (.int .i64 n.parent) ∧ cellO (w.heap[x.bn]?) (q * 11 + 7) = some (.int .i64 n.content) ∧ cellO (w.heap[x.bn]?) (q * 11 + 8) = some (.slice ya yn yc) ∧ cellO (w.heap[x.bn]?) (q * 11 + 9) = some (.int .i64 n.frm) ∧ cellO (w.heap[x.bn]?) (q * 11 + 10) = some (.int .i64 n.to) := by
  have hq2 := hq
  rw [← h.nd,List.getElem?_map] at hq2
  obtain ⟨m,hm,hmn⟩ := Option.map_eq_some_iff.1 hq2
  subst hmn
  have hok := h.sub m (List.mem_of_getElem? hm)
  have c : ∀ j,j < 11 → cellO (w.heap[x.bn]?) (q * 11 + j) = m.cells[j]? := fun j hj => by
    have hf := flat_get x.M q j m hm hj
    have hj' : j < m.cells.length := by rw [m.cells_length]; exact hj
    have := h.body.get (i := q * 11 + j) (v := m.cells[j]) (by rw [hf]; simp)
    rw [Nat.zero_add] at this
    rw [← cell_h,this,List.getElem?_eq_getElem hj']
  obtain ⟨xa,xn,xc,exa,_⟩ := hok.attrs.len
  obtain ⟨ya,yn,yc,eya,_⟩ := hok.kids.len
  have c4 := c 4 (by decide)
  have c8 := c 8 (by decide)
  simp only [Laid.cells,List.getElem?_cons_zero,List.getElem?_cons_succ] at c4 c8
  rw [exa] at c4
  rw [eya] at c8
  exact ⟨m,xa,xn,xc,ya,yn,yc,hm,rfl,hok,exa,eya,c 0 (by decide),c 1 (by decide),c 2 (by decide),c 3 (by decide),c4,c 5 (by decide),c 6 (by decide),c 7 (by decide),c8,c 9 (by decide),c 10 (by decide)⟩
theorem DcM.open_ {w : World} {pd : Nat} {b : BSt} {x : DX} (h : DcM w pd b x) {k : Nat} {j : Int} (hk : (nds b.s)[k]? = some j) {oa : Option Addr} {on oc : Nat} (e : x.ov = .slice oa on oc) : ∃ q o,oa = some ⟨q,o,none⟩ ∧ x.ob = some q ∧ cellO (w.heap[q]?) (o + k) = some (.int .i64 j) := by
  have hs := h.op
  obtain ⟨q,o,n',c',e2,hb⟩ := hs.some_of (by
    intro e3
    have := intCells_length (nds b.s)
    rw [e3] at this
    have := (List.getElem?_eq_some_iff.1 hk).1
    simp at *; omega)
  rw [e] at e2
  cases e2
  rw [e] at hs
  exact ⟨q,o,rfl,hb,by rw [← cell_h]; exact hs.ints_cell hk⟩
def hN (L : List Nd) (i : Int) (x : ByteArray) : Bool := decide ((gN L i).kind = 3) && (decide ((gN L i).space = 0) && decide ((gN L i).name = x))
theorem hN_no {L : List Nd} {i : Int} (h : ¬ (0 ≤ i ∧ i < L.length)) (x : ByteArray) : hN L i x = false := by
  unfold hN; rw [gN_none h]; rfl
theorem nds_lenD (s : List OpS) : (nds s).length = s.length := by simp [nds]
end Go.Vk
end
section
namespace Go.Vk
open Go Go.Proofs.YtgnnlaeikcnhcaaGreatDoor
theorem nds_get {s : List OpS} {k : Nat} {j : Int} (h : (nds s)[k]? = some j) : (s.getD k zS).node = j ∧ k < s.length := by
  unfold nds at h
  rw [List.getElem?_map] at h
  obtain ⟨o,ho,hj⟩ := Option.map_eq_some_iff.1 h
  exact ⟨by simp [List.getD,ho,hj],(List.getElem?_eq_some_iff.1 ho).1⟩
theorem topS_none {s : List OpS} (h : s.length = 0) : topS s = -1 := by
  rw [List.length_eq_zero_iff.1 h]; rfl
theorem topS_some {s : List OpS} {j : Int} (h : (nds s)[s.length - 1]? = some j) : topS s = j := by
  obtain ⟨e,hl⟩ := nds_get h
  rw [topS_eq,List.getLast?_eq_getElem?]
  have h2 : s[s.length - 1]? = some s[s.length - 1] := List.getElem?_eq_getElem hl
  rw [h2]
  rw [← e]; simp [List.getD,h2]
end Go.Vk
namespace Go.Proofs.YtgnnlaeikcnhcaaGreatDoor
open Go Go.Vk
set_option maxHeartbeats 40000000
section
variable {w0 w : World} {S : Nat → Prop} {pd : Nat} {b : BSt}
theorem dtop_c (h : Dc w0 S w pd b) (hs : b.s.length < 10000) : Gives Tryz.prog 236 #[.pointer (some ⟨pd,0,none⟩)] w fun v w' => v = .int .i64 (topS b.s) ∧ Ext w w' := by
  obtain ⟨_,x,hM,_⟩ := h
  obtain ⟨oa,oc,la,lc,ma,mc,eo,ho,_,_,_,_,_,hh⟩ := hM.hd
  by_cases h0 : b.s.length = 0
  · have d0 : (b.s.length : Int) = 0 := by omega
    rw [topS_none h0]
    refine Gives.of_W Tryz.call236 Tryz.func236 rfl Tryz.ntmps236 (by simp) ?_; intro Z hZ
    (repeat revert hK K);refine Wc2 @hh (eq_true d0) ?_;repeat with_reducible intro K hK
    exact Ext.refl _
  · have d0 : ¬ (b.s.length : Int) = 0 := by omega
    obtain ⟨j,hj⟩ : ∃ j,(nds b.s)[b.s.length - 1]? = some j := ⟨_,List.getElem?_eq_getElem (by rw [nds_lenD]; omega)⟩
    obtain ⟨q,o,rfl,_,c1⟩ := hM.open_ hj eo
    rw [topS_some hj]
    obtain ⟨k,hk⟩ : ∃ k,k = b.s.length - 1 := ⟨_,rfl⟩
    rw [← hk] at c1
    have e1 : (b.s.length : Int) - 1 = (k : Int) := by omega
    have e2 : inI64 (k : Int) := by unfold inI64; omega
    have e3 : (0 : Int) ≤ (k : Int) := by omega
    have e4 : (k : Int) < (b.s.length : Int) := by omega
    have hxd := Ext.drew w
    have hhd := hxd.blk hh
    have c1d := dO_ext hxd c1
    have l1 : pd < w.heap.size := blk_lt hh
    have l2 : q < w.heap.size := dO_lt c1
    generalize b.s.length = n at *
    refine Gives.of_W Tryz.call236 Tryz.func236 rfl Tryz.ntmps236 (by simp) ?_; intro Z hZ
    (repeat revert hK K);refine Wc2 @hh (eq_false d0) ?_;repeat with_reducible intro K hK
    refine W_draw (.pas 0 (.pas 1 (.pas 2 (.pas 3 (.pas 4 (.pas 5 (.pas 6 (.pas 7 (.pas 8 (.pas 9 (.pas 10 (.pas 11 (.pas 12 .fin))))))))))))) (fun q => q < w.heap.size) (by decide) mixed (by kernel_rfl) ?_
    generalize w.drew = wd at *
    refine Dc8 @hhd @c1d @e1 @e2 @e3 @e4 @l1 @l2 ?_
    (repeat revert hK K);refine W0 ?_;repeat with_reducible intro K hK
    exact hxd
theorem dhere_c (h : Dc w0 S w pd b) (hs : b.s.length < 10000) : Gives Tryz.prog 219 #[.pointer (some ⟨pd,0,none⟩)] w fun v w' => v = .int .i64 (targB b) ∧ Ext w w' := by
  refine Gives.of_W Tryz.call219 Tryz.func219 rfl Tryz.ntmps219 (by simp) ?_; intro Z hZ
  (repeat revert hK K);refine W0 ?_;repeat with_reducible intro K hK
  refine (dtop_c h hs).mono ?_
  rintro v w1 ⟨rfl,hx⟩
  (repeat revert hK K);refine W1 @max_int ?_;repeat with_reducible intro K hK
  exact ⟨by unfold targB; rfl,hx⟩
set_option maxRecDepth 20000 in
theorem dhtml_c (h : Dc w0 S w pd b) (hL : b.L.length < 100000) (i : Int) (nm : ByteArray) : Gives Tryz.prog 217 #[.pointer (some ⟨pd,0,none⟩),.int .i64 i,.string nm] w fun v w' => v = .bool (hN b.L i nm) ∧ w' = w := by
  obtain ⟨_,x,hM,_⟩ := h
  obtain ⟨oa,oc,la,lc,ma,mc,eo,ho,_,_,_,_,_,hh⟩ := hM.hd
  by_cases h0 : i < 0
  · have d0 : ¬ (0 : Int) ≤ i := by omega
    rw [hN_no (by omega)]
    refine Gives.of_W Tryz.call217 Tryz.func217 rfl Tryz.ntmps217 (by simp) ?_; intro Z hZ
    (repeat first|(with_reducible first|(refine hK _ _ ?_;clear hK K)|refine ‹∀σ w,_→K σ w› _ _ ?_|(refine W_st ?_;constructor;try intro K hK))|((with_reducible first|refine hZ _ _ ?_|refine W_rg ?_|skip);repeat1' simp only[push_cast,seval,-Nat.reduceSubDiff,eq_false d0])|((repeat((fail_if_success with_reducible refine hK _ _ ?_);clear hK K));with_reducible refine hK _ _ ?_;clear hK K))
  by_cases h1 : i < (b.L.length : Int)
  · obtain ⟨k, rfl⟩ : ∃ k : Nat, i = k := ⟨i.toNat, by omega⟩
    obtain ⟨n,hn⟩ : ∃ n,b.L[k]? = some n := ⟨_,List.getElem?_eq_getElem (by omega)⟩
    obtain ⟨m,xa,xn,xc,ya,yn,yc,_,_,_,_,_,c0,c1,c2,c3,c4,c5,c6,c7,c8,c9,c10⟩ := hM.node hn
    have d0 : (0 : Int) ≤ (k : Int) := by omega
    unfold hN
    rw [gN_nat hn]
    by_cases k3 : n.kind = 3
    · by_cases s0 : n.space = 0
      · refine Gives.of_W Tryz.call217 Tryz.func217 rfl Tryz.ntmps217 (by simp) ?_; intro Z hZ
        (repeat first|(with_reducible first|(refine hK _ _ ?_;clear hK K)|refine ‹∀σ w,_→K σ w› _ _ ?_|(refine W_st ?_;constructor;try intro K hK))|((with_reducible first|refine hZ _ _ ?_|refine W_rg ?_|skip);repeat1' simp only[push_cast,seval,-Nat.reduceSubDiff,d0,cell_h,cellO_cells,hh,h1,c0,c1,c3,eq_true k3,eq_true s0])|((repeat((fail_if_success with_reducible refine hK _ _ ?_);clear hK K));with_reducible refine hK _ _ ?_;clear hK K))
      · refine Gives.of_W Tryz.call217 Tryz.func217 rfl Tryz.ntmps217 (by simp) ?_; intro Z hZ
        (repeat first|(with_reducible first|(refine hK _ _ ?_;clear hK K)|refine ‹∀σ w,_→K σ w› _ _ ?_|(refine W_st ?_;constructor;try intro K hK))|((with_reducible first|refine hZ _ _ ?_|refine W_rg ?_|skip);repeat1' simp only[push_cast,seval,-Nat.reduceSubDiff,d0,cell_h,cellO_cells,hh,h1,c0,c1,c3,eq_true k3,eq_false s0])|((repeat((fail_if_success with_reducible refine hK _ _ ?_);clear hK K));with_reducible refine hK _ _ ?_;clear hK K))
    · refine Gives.of_W Tryz.call217 Tryz.func217 rfl Tryz.ntmps217 (by simp) ?_; intro Z hZ
      (repeat first|(with_reducible first|(refine hK _ _ ?_;clear hK K)|refine ‹∀σ w,_→K σ w› _ _ ?_|(refine W_st ?_;constructor;try intro K hK))|((with_reducible first|refine hZ _ _ ?_|refine W_rg ?_|skip);repeat1' simp only[push_cast,seval,-Nat.reduceSubDiff,d0,cell_h,cellO_cells,hh,h1,c0,c1,c3,eq_false k3])|((repeat((fail_if_success with_reducible refine hK _ _ ?_);clear hK K));with_reducible refine hK _ _ ?_;clear hK K))
  · have d0 : (0 : Int) ≤ i := by omega
    rw [hN_no (by omega)]
    refine Gives.of_W Tryz.call217 Tryz.func217 rfl Tryz.ntmps217 (by simp) ?_; intro Z hZ
    (repeat first|(with_reducible first|(refine hK _ _ ?_;clear hK K)|refine ‹∀σ w,_→K σ w› _ _ ?_|(refine W_st ?_;constructor;try intro K hK))|((with_reducible first|refine hZ _ _ ?_|refine W_rg ?_|skip);repeat1' simp only[push_cast,seval,-Nat.reduceSubDiff,d0,cell_h,cellO_cells,hh,eq_false h1])|((repeat((fail_if_success with_reducible refine hK _ _ ?_);clear hK K));with_reducible refine hK _ _ ?_;clear hK K))
theorem dlast_c (h : Dc w0 S w pd b) (hs : b.s.length < 10000) (hL : b.L.length < 100000) {nm : ByteArray} (hn : ∀ j ∈ nds b.s,hN b.L j nm = false) : Gives Tryz.prog 220 #[.pointer (some ⟨pd,0,none⟩),.string nm] w fun v w' => v = .int .i64 (-1) ∧ w' = w := by
  have hD := h
  obtain ⟨_,x,hM,_⟩ := h
  obtain ⟨oa,oc,la,lc,ma,mc,eo,ho,_,_,_,_,_,hh⟩ := hM.hd
  have s0 : inI64 ((b.s.length : Int) - 1) := by unfold inI64; omega
  refine Gives.of_W Tryz.call220 Tryz.func220 rfl Tryz.ntmps220 (by simp) ?_; intro Z hZ
  (repeat revert hK K);refine Wc2 @hh @s0 ?_;repeat with_reducible intro K hK
  refine W_loop (S := Nat) (fun k => [(0, .pointer (some ⟨pd, 0, none⟩)), (1, .string nm), (5, .int .i64 ((k : Int) - 1))])
    (fun k w1 => k ≤ b.s.length ∧ w1 = w) (fun k => k) b.s.length ?_ ?_ ?_
  · (repeat simp only [push_cast,seval,-Nat.reduceSubDiff])
  · exact ⟨Nat.le_refl _,rfl⟩
  rintro k w1 ⟨hk,hw⟩
  subst w1
  cases k with
  | zero =>
    have b0 : ¬ (0 : Int) ≤ ((0 : Nat) : Int) - 1 := by omega
    (repeat first|(with_reducible first|(refine hK _ _ ?_;clear hK K)|refine ‹∀σ w,_→K σ w› _ _ ?_|(refine W_st ?_;constructor;try intro K hK))|((with_reducible first|refine hZ _ _ ?_|refine W_rg ?_|skip);repeat1' simp only[push_cast,seval,-Nat.reduceSubDiff,b0])|((repeat((fail_if_success with_reducible refine hK _ _ ?_);clear hK K));with_reducible refine hK _ _ ?_;clear hK K))
  | succ k =>
    have ek : ((k + 1 : Nat) : Int) - 1 = (k : Int) := by omega
    rw [ek]
    obtain ⟨j,hj⟩ : ∃ j,(nds b.s)[k]? = some j := ⟨_,List.getElem?_eq_getElem (by rw [nds_lenD]; omega)⟩
    obtain ⟨q,o,rfl,_,c1⟩ := hM.open_ hj eo
    have hnj := hn j (List.mem_of_getElem? hj)
    have b0 : (0 : Int) ≤ (k : Int) := by omega
    have b1 : (k : Int) < (b.s.length : Int) := by omega
    have b2 : inI64 ((k : Int) - 1) := by unfold inI64; omega
    (repeat revert hK K);refine Wc4 @b0 @b1 @hh @c1 ?_;repeat with_reducible intro K hK
    refine (dhtml_c hD hL j nm).mono ?_
    intro v w' ⟨hv,hw⟩
    subst hv; subst w'
    rw [hnj]
    (repeat revert hK K);refine W1 @b2 ?_;repeat with_reducible intro K hK
    refine ⟨k,by omega,?_⟩
    (repeat simp only [push_cast,seval,-Nat.reduceSubDiff])
    omega
theorem dat_c (h : Dc w0 S w pd b) (hs : b.s.length < 10000) (i : Int) : Gives Tryz.prog 229 #[.pointer (some ⟨pd,0,none⟩),.int .i64 i] w fun v w' => v = .int .i64 (indexS b.s i) ∧ w' = w := by
  obtain ⟨_,x,hM,_⟩ := h
  obtain ⟨oa,oc,la,lc,ma,mc,eo,ho,_,_,_,_,_,hh⟩ := hM.hd
  unfold indexS
  refine Gives.of_W Tryz.call229 Tryz.func229 rfl Tryz.ntmps229 (by simp) ?_; intro Z hZ
  (repeat revert hK K);refine W0 ?_;repeat with_reducible intro K hK
  refine W_loop (S := Nat) (fun k => [(0, .pointer (some ⟨pd, 0, none⟩)), (1, .int .i64 i), (5, .int .i64 (lastB (fun k => decide ((b.s.getD k zS).node = i)) k)), (6, .int .i64 (k : Int))])
    (fun k w1 => k ≤ b.s.length ∧ w1 = w) (fun k => b.s.length - k) 0 ?_ ?_ ?_
  · (repeat simp only [push_cast,seval,-Nat.reduceSubDiff,lastB])
  · exact ⟨by omega,rfl⟩
  rintro k w1 ⟨hk,hw⟩
  subst w1
  by_cases hkl : k < b.s.length
  · obtain ⟨j, hj⟩ : ∃ j, (nds b.s)[k]? = some j := ⟨_, List.getElem?_eq_getElem (by rw [nds_lenD]; omega)⟩
    obtain ⟨q,o,rfl,_,c1⟩ := hM.open_ hj eo
    have b0 : (k : Int) < (b.s.length : Int) := by omega
    have b1 : (0 : Int) ≤ (k : Int) := by omega
    have b2 : inI64 ((k : Int) + 1) := by unfold inI64; omega
    have hst : lastB (fun k => decide ((b.s.getD k zS).node = i)) (k + 1) = if j = i then (k : Int) else lastB (fun k => decide ((b.s.getD k zS).node = i)) k := by
      rw [lastB,(nds_get hj).1]; simp
    by_cases hyi : j = i
    · rw [if_pos hyi] at hst
      subst hyi
      (repeat revert hK K);refine Wd6 @hh @b0 @b1 @b2 @c1 @decide_true ?_;repeat with_reducible intro K hK
      refine ⟨k + 1,by omega,?_⟩
      (repeat simp only [push_cast,seval,-Nat.reduceSubDiff,hst])
      omega
    · rw [if_neg hyi] at hst
      (repeat revert hK K);refine Wc7 @hh @b0 @b1 @b2 @c1 (eq_false hyi) @decide_false ?_;repeat with_reducible intro K hK
      refine ⟨k + 1,by omega,?_⟩
      (repeat simp only [push_cast,seval,-Nat.reduceSubDiff,hst])
      omega
  · have hke : k = b.s.length := by omega
    subst hke
    have b0 : ¬ (b.s.length : Int) < (b.s.length : Int) := by omega
    (repeat first|(with_reducible first|(refine hK _ _ ?_;clear hK K)|refine ‹∀σ w,_→K σ w› _ _ ?_|(refine W_st ?_;constructor;try intro K hK))|((with_reducible first|refine hZ _ _ ?_|refine W_rg ?_|skip);repeat1' simp only[push_cast,seval,-Nat.reduceSubDiff,cell_h,cellO_cells,hh,b0])|((repeat((fail_if_success with_reducible refine hK _ _ ?_);clear hK K));with_reducible refine hK _ _ ?_;clear hK K))
theorem dpop_c (h : Dc w0 S w pd b) (hs : b.s.length < 10000) : Gives Tryz.prog 190 #[.pointer (some ⟨pd,0,none⟩)] w fun _ w' => Dc w0 S w' pd (popS b) := by
  have hD := h
  obtain ⟨hu,x,hM,hS⟩ := h
  obtain ⟨oa,oc,la,lc,ma,mc,eo,ho,_,_,_,_,_,hh⟩ := hM.hd
  by_cases h0 : b.s.length = 0
  · have d0 : ¬ (0 : Int) < (b.s.length : Int) := by omega
    have e : popS b = b := by
      have : b.s = [] := List.length_eq_zero_iff.1 h0
      unfold popS; cases b; simp_all
    rw [e]
    refine Gives.of_W Tryz.call190 Tryz.func190 rfl Tryz.ntmps190 (by simp) ?_; intro Z hZ
    (repeat revert hK K);refine Wc2 @hh @d0 ?_;repeat with_reducible intro K hK
    exact hD
  · have d0 : (0 : Int) < (b.s.length : Int) := by omega
    obtain ⟨k,hk⟩ : ∃ k,k = b.s.length - 1 := ⟨_,rfl⟩
    have e1 : (b.s.length : Int) - 1 = (k : Int) := by omega
    have e2 : inI64 (k : Int) := by unfold inI64; omega
    have e3 : (0 : Int) ≤ (k : Int) := by omega
    have e5 : (k : Int) ≤ (oc : Int) := by omega
    have hxd := Ext.drew w
    have hMd := hM.ext hxd
    have hhd := hxd.blk hh
    have hP : SlAt w.drew 1 _ _ x.ob := (eo ▸ hMd.op).preS (hi := k) (by omega)
    rw [Nat.mul_one] at hP
    have eP : (intCells (nds b.s)).take k = intCells (nds b.s.dropLast) := by
      unfold intCells nds
      rw [List.dropLast_eq_take,List.map_take,List.map_take,← hk]
    rw [eP] at hP
    obtain ⟨k1,k2,k3,k4⟩ := hMd.opn (w2 := w.drew) (s' := b.s.dropLast) hP (Upd.refl _ _) fun q hq => .inl hq
    have hfin := Dc.step (Upd.trans hu hxd fun _ _ h => h.elim) hMd hS k3 k2 k4
    refine Gives.of_W Tryz.call190 Tryz.func190 rfl Tryz.ntmps190 (by simp) ?_; intro Z hZ
    (repeat revert hK K);refine Wc2 @hh @d0 ?_;repeat with_reducible intro K hK
    refine W_draw (.pas 0 (.pas 1 (.pas 2 (.pas 3 (.pas 4 (.pas 5 (.pas 6 (.pas 7 (.pas 8 (.pas 9 (.pas 10 (.pas 11 (.pas 12 (.pas 13 (.last 14))))))))))))))) (fun b' => b' = pd) (by decide) mixed (by kernel_rfl) ?_
    generalize w.drew = wd at *
    refine Dd5 @hhd @e1 @e2 @e3 @e5 ?_
    try rw [Int.toNat_natCast]
    refine ⟨k1,?_⟩
    (repeat revert hK K);refine W0 ?_;repeat with_reducible intro K hK
    exact hfin
theorem dabove_c (h : Dc w0 S w pd b) (hL : b.L.length < 100000) {i : Nat} (hi : i < b.L.length) : Gives Tryz.prog 215 #[.pointer (some ⟨pd,0,none⟩),.int .i64 (i : Int)] w fun v w' => v = .int .i64 (upN b.L i) ∧ w' = w := by
  obtain ⟨_,x,hM,_⟩ := h
  obtain ⟨oa,oc,la,lc,ma,mc,eo,ho,_,_,_,_,_,hh⟩ := hM.hd
  obtain ⟨n,hn⟩ : ∃ n,b.L[i]? = some n := ⟨_,List.getElem?_eq_getElem hi⟩
  obtain ⟨m,xa,xn,xc,ya,yn,yc,_,_,_,_,_,c0,c1,c2,c3,c4,c5,c6,c7,c8,c9,c10⟩ := hM.node hn
  have d0 : (0 : Int) ≤ (i : Int) := by omega
  have d1 : (i : Int) < (b.L.length : Int) := by omega
  have d2 : inI64 ((i : Int) - 1) := by unfold inI64; omega
  rw [upN_g,gN_nat hn]
  by_cases k6 : n.kind = 6
  · rw [if_pos k6]
    refine Gives.of_W Tryz.call215 Tryz.func215 rfl Tryz.ntmps215 (by simp) ?_; intro Z hZ
    (repeat first|(with_reducible first|(refine hK _ _ ?_;clear hK K)|refine ‹∀σ w,_→K σ w› _ _ ?_|(refine W_st ?_;constructor;try intro K hK))|((with_reducible first|refine hZ _ _ ?_|refine W_rg ?_|skip);repeat1' simp only[push_cast,seval,-Nat.reduceSubDiff,cell_h,cellO_cells,hh,d0,d1,c0,eq_true k6,d2])|((repeat((fail_if_success with_reducible refine hK _ _ ?_);clear hK K));with_reducible refine hK _ _ ?_;clear hK K))
  · rw [if_neg k6]
    refine Gives.of_W Tryz.call215 Tryz.func215 rfl Tryz.ntmps215 (by simp) ?_; intro Z hZ
    (repeat first|(with_reducible first|(refine hK _ _ ?_;clear hK K)|refine ‹∀σ w,_→K σ w› _ _ ?_|(refine W_st ?_;constructor;try intro K hK))|((with_reducible first|refine hZ _ _ ?_|refine W_rg ?_|skip);repeat1' simp only[push_cast,seval,-Nat.reduceSubDiff,cell_h,cellO_cells,hh,d0,d1,c0,c6,eq_false k6])|((repeat((fail_if_success with_reducible refine hK _ _ ?_);clear hK K));with_reducible refine hK _ _ ?_;clear hK K))
theorem doff_c (h : Dc w0 S w pd b) (hL : b.L.length < 100000) {i : Nat} (hi : i < b.L.length) (hp : (gN b.L i).parent < 0) : Gives Tryz.prog 216 #[.pointer (some ⟨pd,0,none⟩),.int .i64 (i : Int)] w fun _ w' => w' = w := by
  obtain ⟨_,x,hM,_⟩ := h
  obtain ⟨oa,oc,la,lc,ma,mc,eo,ho,_,_,_,_,_,hh⟩ := hM.hd
  obtain ⟨n,hn⟩ : ∃ n,b.L[i]? = some n := ⟨_,List.getElem?_eq_getElem hi⟩
  obtain ⟨m,xa,xn,xc,ya,yn,yc,_,_,_,_,_,c0,c1,c2,c3,c4,c5,c6,c7,c8,c9,c10⟩ := hM.node hn
  have d0 : (0 : Int) ≤ (i : Int) := by omega
  have d1 : (i : Int) < (b.L.length : Int) := by omega
  rw [gN_nat hn] at hp
  refine Gives.of_W Tryz.call216 Tryz.func216 rfl Tryz.ntmps216 (by simp) ?_; intro Z hZ
  (repeat first|(with_reducible first|(refine hK _ _ ?_;clear hK K)|refine ‹∀σ w,_→K σ w› _ _ ?_|(refine W_st ?_;constructor;try intro K hK))|((with_reducible first|refine hZ _ _ ?_|refine W_rg ?_|skip);repeat1' simp only[push_cast,seval,-Nat.reduceSubDiff,cell_h,cellO_cells,hh,d0,d1,c6,hp])|((repeat((fail_if_success with_reducible refine hK _ _ ?_);clear hK K));with_reducible refine hK _ _ ?_;clear hK K))
theorem dplace_c (h : Dc w0 S w pd b) (hL : b.L.length < 100000) (hf : b.foster = false) {i : Int} (hn : hN b.L i tmpl = false) : Gives Tryz.prog 222 #[.pointer (some ⟨pd,0,none⟩),.int .i64 i] w fun v w' => v = .tuple #[.int .i64 i,.int .i64 (-1)] ∧ w' = w := by
  have hD := h
  obtain ⟨_,x,hM,_⟩ := h
  obtain ⟨oa,oc,la,lc,ma,mc,eo,ho,_,_,_,_,_,hh⟩ := hM.hd
  rw [hf] at hh
  unfold tmpl at hn
  refine Gives.of_W Tryz.call222 Tryz.func222 rfl Tryz.ntmps222 (by simp) ?_; intro Z hZ
  (repeat revert hK K);refine Wc1 @hh ?_;repeat with_reducible intro K hK
  refine (dhtml_c hD hL i _).mono ?_
  intro v w' ⟨hv,hw⟩
  subst hv; subst w'
  rw [hn]
  (repeat first|(with_reducible first|(refine hK _ _ ?_;clear hK K)|refine ‹∀σ w,_→K σ w› _ _ ?_|(refine W_st ?_;constructor;try intro K hK))|((with_reducible first|refine hZ _ _ ?_|refine W_rg ?_|skip);repeat1' simp only[push_cast,seval,-Nat.reduceSubDiff])|((repeat((fail_if_success with_reducible refine hK _ _ ?_);clear hK K));with_reducible refine hK _ _ ?_;clear hK K))
end
end Go.Proofs.YtgnnlaeikcnhcaaGreatDoor
end
section
namespace Go.Vk
open Go Go.Proofs.YtgnnlaeikcnhcaaGreatDoor
theorem intCells_takeD (l : List Int) (k : Nat) : (intCells l).take (k * 1) = intCells (l.take k) := by unfold intCells; rw [Nat.mul_one,List.map_take]
theorem intCells_dropD (l : List Int) (k : Nat) : (intCells l).drop (k * 1) = intCells (l.drop k) := by unfold intCells; rw [Nat.mul_one,List.map_drop]
theorem SlAt.cutD {w : World} {es b o n c : Nat} {cells : List Value} {bo : Option Nat} (h : SlAt w es (.slice (some ⟨b,o,none⟩) n c) cells bo) {lo hi : Nat} (h1 : lo ≤ hi) (h2 : hi ≤ n) {a' : Option Addr} (ha : c - lo ≠ 0 → a' = some ⟨b,o + lo * es,none⟩) :
    RdAt w es (.slice a' (hi - lo) (c - lo)) ((cells.drop (lo * es)).take ((hi - lo) * es)) := by
  obtain ⟨_,h3,h4,_⟩ := h.inv
  by_cases hc : c - lo = 0
  · have : hi - lo = 0 := by omega
    rw [this]
    exact ⟨a',0,_,rfl,by omega,by simp,fun i u hu => by simp at hu⟩
  · have := (h.part h1 h2 (m := c) (by omega) (Nat.le_refl _)).rd
    rwa [ha hc]
theorem DcM.app {P : Program} {t e ty : Nat} (hT : STy P t e 11) {w w1 : World} {pd : Nat} {b : BSt} {x : DX} (h : DcM w pd b x) (hx : Ext w w1) {m' : Laid} (hok : m'.ok w1) {y : Value} {b2 : Option Nat} (h2 : SlAt w1 11 y m'.cells b2)
    (hlen : b.L.length < 2000000) {K : Value → World → Prop}
    (hk : ∀ bn' cap' w3,SlAt w3 11 (.slice (some ⟨bn',0,none⟩) (x.M.length + 1) cap') (flat x.M ++ m'.cells) (some bn') → Upd (fun q => q = x.bn) w1 w3 → (bn' = x.bn ∨ w1.heap.size ≤ bn') → K (.slice (some ⟨bn',0,none⟩) (x.M.length + 1) cap') w3) :
    RunV P (Builtin.append_ #[t,t] ty #[.slice (some ⟨x.bn,0,none⟩) x.M.length x.cap,y]) w1 K := by
  have hl := h.len
  refine app_spec hT hT.und (by decide) (h.body.ext hx) h2 hok.one (by rw [flat_length,m'.cells_length]; omega) ?_ ?_
  · rintro v w' g1 g2 _ _ ⟨a, n, c, k, e1, rfl, _, hk2⟩
    cases e1
    rw [m'.cells_length] at hk2
    have : k = 1 := by omega
    subst this
    exact hk _ _ _ g1 (g2.mono fun q _ hb => by cases hb; rfl) (.inl rfl)
  · rintro v w' g1 g2 _ ⟨n, c, rfl, hn⟩ _
    rw [flat_length,m'.cells_length] at hn
    have : n = x.M.length + 1 := by omega
    subst this
    exact hk _ _ _ g1 g2.upd (.inr (Nat.le_refl _))
theorem Dc.moreD {w0 w w1 w2 : World} {S : Nat → Prop} {pd : Nat} {b : BSt} {x : DX} (hu : Upd S w0 w) (hM : DcM w pd b x) (hS : ∀ q ∈ x.own pd, S q ∨ w0.heap.size ≤ q) (hx : Ext w w1) (m' : Laid) (hok : m'.ok w1) (hb : ∀ q ∈ m'.blks, w.heap.size ≤ q) (hnd : m'.blks.Nodup) {bn' cap' : Nat}
    (hs : SlAt w2 11 (.slice (some ⟨bn',0,none⟩) (x.M.length + 1) cap') (flat x.M ++ m'.cells) (some bn')) (hu2 : Upd (fun q => q = x.bn) w1 w2) (hbn : bn' = x.bn ∨ w1.heap.size ≤ bn') :
    canStore w2 ⟨pd,0,none⟩ ∧ Dc w0 S (w2.setCell ⟨pd,0,none⟩ (.slice (some ⟨bn',0,none⟩) (x.M.length + 1) cap')) pd { b with L := b.L ++ [m'.nd] } := by
  obtain ⟨k1,k2,k3⟩ := hM.more hx m' hok hb hnd hs hu2 hbn
  have hsz := hx.alike.size
  refine ⟨k1,Dc.step hu hM hS k3 k2 fun q hq => ?_⟩
  rcases DX.mem.1 hq with e | e | e | e | e | ⟨m,hm,e⟩
  · exact .inl (DX.mem.2 (.inl e))
  · exact .inl (DX.mem.2 (.inr (.inl e)))
  · exact .inl (DX.mem.2 (.inr (.inr (.inl e))))
  · exact .inl (DX.mem.2 (.inr (.inr (.inr (.inl e)))))
  · rcases hbn with e2 | e2
    · exact .inl (DX.mem.2 (.inr (.inr (.inr (.inr (.inl (by rw [e]; exact e2)))))))
    · exact .inr (by have : q = bn' := e; omega)
  · rcases List.mem_append.1 hm with hm | hm
    · exact .inl (DX.mem.2 (.inr (.inr (.inr (.inr (.inr ⟨m,hm,e⟩))))))
    · rw [List.mem_singleton] at hm
      exact .inr (hb q (hm ▸ e))
theorem Dc.fldD {w0 w w1 : World} {S : Nat → Prop} {pd : Nat} {b : BSt} {x : DX} (hu : Upd S w0 w) (hM : DcM w pd b x) (hS : ∀ q ∈ x.own pd, S q ∨ w0.heap.size ≤ q) (hx : Ext w w1) {i : Nat} {m : Laid} (hi : x.M[i]? = some m) (m' : Laid) (j : Nat) (v : Value) (hc : m'.cells = m.cells.set j v) (hj : j < 11)
    (hok : m'.ok w1) (hb : ∀ q ∈ m'.blks,q ∈ m.blks ∨ w.heap.size ≤ q) (hnd : m'.blks.Nodup) :
    canStore w1 ⟨x.bn,i * 11 + j,none⟩ ∧ Dc w0 S (w1.setCell ⟨x.bn,i * 11 + j,none⟩ v) pd { b with L := b.L.set i m'.nd } := by
  obtain ⟨k1,k2,k3⟩ := hM.fld hx hi m' j v hc hj hok hb hnd
  refine ⟨k1,Dc.step hu hM hS k3 k2 fun q hq => ?_⟩
  rcases DX.mem.1 hq with e | e | e | e | e | ⟨y,hy,e⟩
  · exact .inl (DX.mem.2 (.inl e))
  · exact .inl (DX.mem.2 (.inr (.inl e)))
  · exact .inl (DX.mem.2 (.inr (.inr (.inl e))))
  · exact .inl (DX.mem.2 (.inr (.inr (.inr (.inl e)))))
  · exact .inl (DX.mem.2 (.inr (.inr (.inr (.inr (.inl e))))))
  · rcases List.mem_or_eq_of_mem_set hy with hy | hy
    · exact .inl (DX.mem.2 (.inr (.inr (.inr (.inr (.inr ⟨y,hy,e⟩))))))
    · rcases hb q (hy ▸ e) with h2 | h2
      · exact .inl (DX.mem.2 (.inr (.inr (.inr (.inr (.inr ⟨m,List.mem_of_getElem? hi,h2⟩))))))
      · exact .inr h2
theorem DcM.nod {w : World} {pd : Nat} {b : BSt} {x : DX} (h : DcM w pd b x) {i : Nat} {m : Laid} (hi : x.M[i]? = some m) : m.blks.Nodup := by
  have own := h.own
  rw [DX.own,List.nodup_append] at own
  have o := (List.nodup_cons.1 own.2.1).2
  obtain ⟨A,B,hA,_⟩ := split_at x.M i m hi
  rw [hA] at o
  simp only [List.flatMap_append,List.flatMap_cons] at o
  rw [List.nodup_append] at o
  rw [List.nodup_append] at o
  exact o.2.1.1
end Go.Vk
namespace Go.Proofs.YtgnnlaeikcnhcaaGreatDoor
open Go Go.Vk
theorem plDe (w : World) : ((fsOf Tryz.prog 152).mapM plOf).run Tryz.prog w = .ok #[(0,1),(1,1)] w := by
  simp [fsOf,plOf,Tryz.underlying152,Sem.run,Tryz.sizeOf3,Tryz.sizeOf4]
theorem unDe : Tryz.prog.underlying 152 = some (.struct (fsOf Tryz.prog 152)) := by rw [fsOf,Tryz.underlying152]
theorem styDe : STy Tryz.prog 101 152 2 := ⟨Tryz.underlying101,fun w => by simp [Tryz.sizeOf152,Sem.run],fun w => ⟨_,by simp [Tryz.typeInfo152,Sem.run]; rfl,by decide,by decide⟩,fun w => ⟨_,by simp [Tryz.zeroValue152,Sem.run]; rfl,by decide⟩⟩
set_option maxHeartbeats 40000000
section
variable {w0 w : World} {S : Nat → Prop} {pd : Nat} {b : BSt}
theorem dmark_c (h : Dc w0 S w pd b) (hl : b.l.length < 64) : Gives Tryz.prog 225 #[.pointer (some ⟨pd,0,none⟩)] w fun _ w' => Dc w0 S w' pd { b with l := b.l ++ [-1] } := by
  obtain ⟨hu,x,hM,hS⟩ := h
  obtain ⟨oa,oc,la,lc,ma,mc,eo,ho,el,_,_,_,_,hh⟩ := hM.hd
  have d0 : ¬ (64 : Int) ≤ (b.l.length : Int) := by omega
  refine Gives.of_W Tryz.call225 Tryz.func225 rfl Tryz.ntmps225 (by simp) ?_; intro Z hZ
  (repeat revert hK K);refine Wc2 @hh @d0 ?_;repeat with_reducible intro K hK
  refine build_struct Tryz.zeroValue152 unDe plDe (cs := #[.bool true,.int .i64 (-1)]) (by rfl) ?_
  (repeat revert hK K);refine W0 ?_;repeat with_reducible intro K hK
  refine bs_one styDe (by decide) (by decide) (v := .agg #[.bool true,.int .i64 (-1)]) rfl ?_
  have hx1 := Ext.alloc w (.cells (Value.agg #[.bool true,.int .i64 (-1)]).cells 152)
  have hn1 := SlAt.new w 2 (Value.agg #[.bool true,.int .i64 (-1)]).cells 152 1 rfl
  generalize w.alloc (.cells (Value.agg #[.bool true,.int .i64 (-1)]).cells 152) = w1 at *
  (repeat revert hK K);refine W0 ?_;repeat with_reducible intro K hK
  refine app_to_rd styDe styDe.und (by decide) (el ▸ hM.ls.ext hx1) hn1.rd (by rfl) (by rw [dentCells_length]; simp [Value.cells]; omega) ?_
  intro v w2 bo g1 g2 g3
  have hs1 := hx1.alike.size
  have e1 : dentCells b.l ++ (Value.agg #[.bool true,.int .i64 (-1)]).cells.toList = dentCells (b.l ++ [-1]) := by
    unfold dentCells; rw [List.flatMap_append]; rfl
  rw [e1] at g1
  obtain ⟨va,vn,vc,rfl,_,_⟩ := g1.len
  obtain ⟨k1,k2,k3,k4⟩ := hM.lst (w2 := w2) (s' := b.l ++ [-1]) g1 (Upd.trans hx1.upd g2 fun _ _ e => e) fun q hq => by
    rcases g3 q hq with h | h
    · exact .inl h
    · exact .inr (by omega)
  (repeat revert hK K);refine W1 @k1 ?_;repeat with_reducible intro K hK
  exact .step hu hM hS k3 k2 k4
theorem dclose_c (h : Dc w0 S w pd b) (hs : b.s.length < 10000) (i : Int) : Gives Tryz.prog 192 #[.pointer (some ⟨pd,0,none⟩),.int .i64 i] w fun _ w' => Dc w0 S w' pd (if 0 ≤ indexS b.s i then { b with s := b.s.eraseIdx (indexS b.s i).toNat } else b) := by
  have hD := h
  have hix := dat_c h hs i
  have hrng := lastB_rng (fun k => decide ((b.s.getD k zS).node = i)) b.s.length
  obtain ⟨hu,x,hM,hS⟩ := h
  obtain ⟨oa,oc,la,lc,ma,mc,eo,ho,_,_,_,_,_,hh⟩ := hM.hd
  unfold indexS at *
  by_cases hneg : 0 ≤ lastB (fun k => decide ((b.s.getD k zS).node = i)) b.s.length
  · rw [if_pos hneg]
    obtain ⟨k,hk⟩ : ∃ m : Nat,lastB (fun k => decide ((b.s.getD k zS).node = i)) b.s.length = (m : Int) := ⟨(lastB (fun k => decide ((b.s.getD k zS).node = i)) b.s.length).toNat,by omega⟩
    rw [hk] at hrng hix hneg ⊢
    rw [Int.toNat_natCast]
    have hk' : k < b.s.length := by omega
    have hxd := Ext.drew w
    have hMd := hM.ext hxd
    have hhd := hxd.blk hh
    have hsl : SlAt w.drew 1 _ _ x.ob := eo ▸ hMd.op
    have b1 : (k : Int) ≤ (oc : Int) := by omega
    have b2 : inI64 ((k : Int) + 1) := by unfold inI64; omega
    have b3 : (0 : Int) ≤ (k : Int) + 1 := by omega
    have b4 : (k : Int) + 1 ≤ (b.s.length : Int) := by omega
    have hnl := nds_lenD b.s
    obtain ⟨qo,oo,eoa,_⟩ := hM.open_ (k := k) (j := (nds b.s)[k]'(by omega)) (List.getElem?_eq_getElem (by omega)) eo
    subst eoa
    have hse : nds (b.s.eraseIdx k) = (nds b.s).eraseIdx k := by unfold nds; rw [List.eraseIdx_eq_take_drop_succ,List.eraseIdx_eq_take_drop_succ,List.map_append,List.map_take,List.map_drop]
    refine Gives.of_W Tryz.call192 Tryz.func192 rfl Tryz.ntmps192 (by simp) ?_; intro Z hZ
    (repeat revert hK K);refine W0 ?_;repeat with_reducible intro K hK
    refine hix.mono ?_
    intro v w' ⟨hv,hw⟩
    subst hv; subst w'
    (repeat revert hK K);refine W1 @hneg ?_;repeat with_reducible intro K hK
    refine W_draw (.pas 0 (.pas 1 (.pas 2 (.pas 3 (.pas 4 (.pas 5 (.pas 6 (.pas 8 (.pas 9 (.pas 10 (.pas 11 (.pas 12 (.pas 13 (.pas 14 (.act 7 (.act 15 (.pas 16 (.pas 17 (.last 18))))))))))))))))))) (fun b' => b' = pd) (by decide) mixed (by kernel_rfl) ?_
    generalize w.drew = wd at *
    refine Dd6 @hhd @hneg @b1 @b2 @b3 @b4 ?_
    refine app_to_rd sty28 sty28.und (by decide) (SlAt.nil wd 1) (SlAt.cutD hsl (lo := 0) (hi := k) (by omega) (by omega) fun hne => by rw [if_neg (by omega)]; simp [add_mk]) ?_ ?_ ?_
    · rw [Nat.zero_mul,List.drop_zero,Nat.sub_zero,intCells_takeD]; exact intCells_one _
    · simp [intCells_length]; omega
    intro v w2 bo2 g1 g2 g3
    rw [Nat.zero_mul,List.drop_zero,Nat.sub_zero,intCells_takeD,List.nil_append] at g1
    have hx2 : Ext wd w2 := g2.mono fun b _ e => by cases e
    have hprl := blk_lt hhd
    refine ⟨kept_upd hx2 fun b' hb => ⟨by have : b' = pd := hb; omega,id⟩,?_⟩
    have hhr2 := hx2.blk hhd
    refine Dd6 @hhr2 @hneg @b1 @b2 @b3 @b4 ?_
    have e1 : ((k : Int) + 1).toNat = k + 1 := by omega
    rw [e1]
    have et : List.take ((b.s.length - (k + 1)) * 1) (intCells ((nds b.s).drop (k + 1))) = intCells ((nds b.s).drop (k + 1)) := List.take_of_length_le (by rw [intCells_length,List.length_drop,hnl]; omega)
    refine app_to_rd sty28 sty28.und (by decide) g1 (SlAt.cutD (SlAt.ext hsl hx2) (lo := k + 1) (hi := b.s.length) (by omega) (by omega) fun hne => by rw [if_neg (by omega)]; simp [add_mk]) ?_ ?_ ?_
    · rw [intCells_dropD,et]; exact intCells_one _
    · simp [intCells_length]; omega
    intro v' w3 bo3 k1 k2 k3
    rw [intCells_dropD,et,← intCells_append,← List.eraseIdx_eq_take_drop_succ,← hse] at k1
    obtain ⟨va,vn,vc,rfl,_,_⟩ := k1.len
    have hs2 := hxd.alike.size
    have hs3 := hx2.alike.size
    have hxd3 : Ext wd w3 := Upd.trans hx2 k2 fun b hb e => by
      rcases g3 b e with h | h
      · cases h
      · omega
    refine ⟨kept_upd k2 fun b' hb => ⟨by have : b' = pd := hb; omega,fun e => ?_⟩,?_⟩
    · have hb' : b' = pd := hb
      rcases g3 b' e with h | h
      · cases h
      · omega
    obtain ⟨z1,z2,z3,z4⟩ := hMd.opn (w2 := w3) (s' := b.s.eraseIdx k) k1 hxd3.upd fun q hq => by
      rcases k3 q hq with h | h
      · rcases g3 q h with h | h
        · cases h
        · exact .inr (by omega)
      · exact .inr (by omega)
    have hfin := Dc.step (Upd.trans hu hxd fun _ _ h => h.elim) hMd hS z3 z2 z4
    refine De0 ?_
    refine ⟨z1,?_⟩
    (repeat revert hK K);refine W0 ?_;repeat with_reducible intro K hK
    exact hfin
  · rw [if_neg hneg]
    refine Gives.of_W Tryz.call192 Tryz.func192 rfl Tryz.ntmps192 (by simp) ?_; intro Z hZ
    (repeat revert hK K);refine W0 ?_;repeat with_reducible intro K hK
    refine hix.mono ?_
    intro v w' ⟨hv,hw⟩
    subst hv; subst w'
    (repeat revert hK K);refine W1 @hneg ?_;repeat with_reducible intro K hK
    exact hD
end
end Go.Proofs.YtgnnlaeikcnhcaaGreatDoor
end
section
namespace Go.Vk
open Go Go.Proofs.YtgnnlaeikcnhcaaGreatDoor
theorem modify_set {α : Type} {l : List α} {i : Nat} {f : α → α} {n : α} (h : l[i]? = some n) : l.modify i f = l.set i (f n) := by
  apply List.ext_getElem?
  intro k
  rw [List.getElem?_modify,List.getElem?_set]
  by_cases e : i = k
  · subst e
    have hi := (List.getElem?_eq_some_iff.1 h).1
    have e2 : l[i] = n := by
      have := List.getElem?_eq_getElem hi
      rw [h] at this
      exact (Option.some.inj this).symm
    simp [hi,e2]
  · simp [e]
theorem hang_set {L : List Nd} {p i : Nat} {n m : Nd} (hp : L[p]? = some n) (hi : L[i]? = some m) (hpi : p ≠ i) (hpar : m.parent < 0) : hangN L p (-1) i = (L.set p { n with kids := n.kids ++ [(i : Int)] }).set i { m with parent := (p : Int) } := by
  have hf : freeN L i = L := by unfold freeN; rw [hi]; dsimp only; rw [if_pos hpar]
  unfold hangN
  rw [hf,modify_set hp]
  have hi2 : (L.set p (addKid (-1) i n))[i]? = some m := by rw [List.getElem?_set,if_neg hpi]; exact hi
  rw [modify_set hi2]
  rfl
end Go.Vk
namespace Go.Proofs.YtgnnlaeikcnhcaaGreatDoor
open Go Go.Vk
set_option maxHeartbeats 40000000
section
variable {w0 w : World} {S : Nat → Prop} {pd : Nat} {b : BSt}
set_option maxHeartbeats 4000000 in
theorem dlay_c (h : Dc w0 S w pd b) (hL : b.L.length < 100000) {p i k0 : Nat} (hp : p < b.L.length) (hi : i < b.L.length) (hpar : (gN b.L i).parent < 0) (hks : ∀ j ∈ (gN b.L p).kids,0 ≤ j) (hkl : (gN b.L p).kids.length < 1000000) (hdn : dn b.L.length (upN b.L) k0 p = true) (hab : ab (upN b.L) i k0 p = false) :
    Gives Tryz.prog 181 #[.pointer (some ⟨pd,0,none⟩),.int .i64 (p : Int),.int .i64 (-1),.int .i64 (i : Int)] w fun _ w' => Dc w0 S w' pd { b with L := hangN b.L p (-1) i } := by
  have hD := h
  obtain ⟨hu,x,hM,hS⟩ := h
  obtain ⟨oa,oc,la,lc,ma,mc,eo,ho,_,_,_,_,_,hh⟩ := hM.hd
  obtain ⟨n,hn⟩ : ∃ n,b.L[p]? = some n := ⟨_,List.getElem?_eq_getElem hp⟩
  obtain ⟨ni,hni⟩ : ∃ n,b.L[i]? = some n := ⟨_,List.getElem?_eq_getElem hi⟩
  have hpi : p ≠ i := by
    intro e
    subst e
    cases k0 with
    | zero => simp [dn] at hdn; omega
    | succ k => simp [ab] at hab; omega
  rw [gN_nat hn] at hks hkl
  have hpar0 := hpar
  rw [gN_nat hni] at hpar
  refine Gives.of_W Tryz.call181 Tryz.func181 rfl Tryz.ntmps181 (by simp) ?_; intro Z hZ
  (repeat revert hK K);refine W0 ?_;repeat with_reducible intro K hK
  refine W_loop (S := Nat × Int) (fun z => [(0, .pointer (some ⟨pd, 0, none⟩)), (1, .int .i64 (p : Int)), (2, .int .i64 (-1)), (3, .int .i64 (i : Int)), (8, .int .i64 z.2)])
    (fun z w1 => dn b.L.length (upN b.L) z.1 z.2 = true ∧ ab (upN b.L) i z.1 z.2 = false ∧ w1 = w) (fun z => z.1) (k0,(p : Int)) ?_ ?_ ?_
  · (repeat simp only [push_cast,seval,-Nat.reduceSubDiff])
  · exact ⟨hdn,hab,rfl⟩
  rintro ⟨k,j⟩ w1 ⟨hd,ha,hw⟩
  subst w1
  dsimp only at hd ha ⊢
  by_cases hj : 0 ≤ j
  · cases k with
    | zero => simp [dn] at hd; omega
    | succ k =>
      obtain ⟨g1,g2⟩ := dn_step hd hj
      obtain ⟨jn,rfl⟩ : ∃ jn : Nat,j = jn := ⟨j.toNat,by omega⟩
      have ha2 : ¬ (jn : Int) = (i : Int) ∧ ab (upN b.L) i k (upN b.L jn) = false := by
        rw [ab,if_neg (by omega)] at ha
        simpa using ha
      (repeat revert hK K);refine W2 @hj (eq_false ha2.1) ?_;repeat with_reducible intro K hK
      refine (dabove_c hD hL (i := jn) (by omega)).mono ?_
      intro v w' ⟨hv,hw⟩
      subst hv; subst w'
      (repeat revert hK K);refine W0 ?_;repeat with_reducible intro K hK
      refine ⟨(k,upN b.L jn),by show k < k + 1; omega,?_⟩
      (repeat simp only [push_cast,seval,-Nat.reduceSubDiff])
      exact ⟨g2,ha2.2⟩
  clear hd ha
  (repeat revert hK K);refine W1 @hj ?_;repeat with_reducible intro K hK
  refine (doff_c hD hL hi hpar0).mono ?_
  intro v w' hw
  subst w'
  (repeat revert hK K);refine W0 ?_;repeat with_reducible intro K hK
  obtain ⟨m,xa,xn,xc,ya,yn,yc,hm,em,hok,eav,ekv,c0,c1,c2,c3,c4,c5,c6,c7,c8,c9,c10⟩ := hM.node hn
  have hkk := hok.kids
  rw [em] at hkk
  obtain ⟨ya',yc',ek,hyc⟩ := hkk.ints_len
  rw [ekv] at ek
  cases ek
  have p0 : (0 : Int) ≤ (p : Int) := by omega
  have p1 : (p : Int) < (b.L.length : Int) := by omega
  have i0 : (0 : Int) ≤ (i : Int) := by omega
  have i1 : (i : Int) < (b.L.length : Int) := by omega
  refine W_loop (S := Nat × Value) (fun z => [(0, .pointer (some ⟨pd, 0, none⟩)), (1, .int .i64 (p : Int)), (2, .int .i64 (-1)), (3, .int .i64 (i : Int)), (9, z.2), (10, .int .i64 (z.1 : Int))])
    (fun z w1 => z.1 ≤ n.kids.length ∧ ∃ bo,SlAt w1 1 z.2 (intCells (n.kids.take z.1)) bo ∧ (∀ q,bo = some q → w.heap.size ≤ q) ∧ Ext w w1) (fun z => n.kids.length - z.1) (0,.slice none 0 0) ?_ ?_ ?_
  · (repeat simp only [push_cast,seval,-Nat.reduceSubDiff])
  · exact ⟨by omega,none,SlAt.nil _ _,fun q hq => (by cases hq),Ext.refl _⟩
  rintro ⟨k,kv⟩ w1 ⟨hk,bo,hsl,hbo,hx1⟩
  dsimp only at hk hsl ⊢
  have hh1 := hx1.blk hh
  have z8 := dO_ext hx1 c8
  have hs1 := hx1.alike.size
  by_cases hkl2 : k < n.kids.length
  · obtain ⟨y, hy⟩ : ∃ y, n.kids[k]? = some y := ⟨_, List.getElem?_eq_getElem hkl2⟩
    obtain ⟨kb,ko,_,_,e,_⟩ := hkk.some_of (by
      intro e3
      have := intCells_length n.kids
      rw [e3] at this; simp at this; omega)
    rw [ekv] at e
    cases e
    have cy : cellO (w1.heap[kb]?) (ko + k) = some (.int .i64 y) := by
      rw [← cell_h]
      refine cell_ext hx1 ?_
      have h2 := hkk
      rw [ekv] at h2
      exact h2.ints_cell hy
    have hy0 := hks y (List.mem_of_getElem? hy)
    have y1 : ¬ y = -1 := by omega
    have b0 : (k : Int) < (n.kids.length : Int) := by omega
    have b1 : (0 : Int) ≤ (k : Int) := by omega
    have b2 : inI64 ((k : Int) + 1) := by unfold inI64; omega
    (repeat revert hK K);refine Wc8 @hh1 @p0 @p1 @z8 @b0 @b1 @cy (eq_false y1) ?_;repeat with_reducible intro K hK
    refine bs_one sty28 (by decide) (by decide) (v := .int .i64 y) rfl ?_
    have hxa := Ext.alloc w1 (.cells (Value.int .i64 y).cells 3)
    have hna := SlAt.new w1 1 (Value.int .i64 y).cells 3 1 rfl
    generalize w1.alloc (.cells (Value.int .i64 y).cells 3) = w2 at *
    (repeat revert hK K);refine W0 ?_;repeat with_reducible intro K hK
    refine app_to_rd sty28 sty28.und (by decide) (hsl.ext hxa) hna.rd (by rfl) (by rw [intCells_length]; simp [Value.cells]; omega) ?_
    intro v w3 bo3 g1 g2 g3
    have hsa := hxa.alike.size
    have hx3 : Ext w w3 := Upd.trans (hx1.trans hxa) g2 fun q hq e => by have := hbo q e; omega
    have e1 : intCells (n.kids.take k) ++ (Value.int .i64 y).cells.toList = intCells (n.kids.take (k + 1)) := by
      rw [List.take_add_one,hy,intCells_append]; rfl
    rw [e1] at g1
    (repeat revert hK K);refine W1 @b2 ?_;repeat with_reducible intro K hK
    refine ⟨(k + 1,v),by show n.kids.length - (k + 1) < n.kids.length - k; omega,?_⟩
    (repeat simp only [push_cast,seval,-Nat.reduceSubDiff])
    refine ⟨by omega,bo3,g1,fun q hq => ?_,hx3⟩
    rcases g3 q hq with h | h
    · exact hbo q h
    · omega
  have hke : k = n.kids.length := by omega
  subst hke
  rw [List.take_length] at hsl
  have b0 : ¬ (n.kids.length : Int) < (n.kids.length : Int) := by omega
  have n1 : (-1 : Int) < 0 := by decide
  (repeat revert hK K);refine Wc6 @hh1 @p0 @p1 @z8 @b0 @n1 ?_;repeat with_reducible intro K hK
  refine bs_one sty28 (by decide) (by decide) (v := .int .i64 (i : Int)) rfl ?_
  have hxa := Ext.alloc w1 (.cells (Value.int .i64 (i : Int)).cells 3)
  have hna := SlAt.new w1 1 (Value.int .i64 (i : Int)).cells 3 1 rfl
  generalize w1.alloc (.cells (Value.int .i64 (i : Int)).cells 3) = w2 at *
  (repeat revert hK K);refine W0 ?_;repeat with_reducible intro K hK
  refine app_to_rd sty28 sty28.und (by decide) (hsl.ext hxa) hna.rd (by rfl) (by rw [intCells_length]; simp [Value.cells]; omega) ?_
  intro v w3 bo3 g1 g2 g3
  have hsa := hxa.alike.size
  have hx3 : Ext w w3 := Upd.trans (hx1.trans hxa) g2 fun q hq e => by have := hbo q e; omega
  have e1 : intCells n.kids ++ (Value.int .i64 (i : Int)).cells.toList = intCells (n.kids ++ [(i : Int)]) := by
    rw [intCells_append]; rfl
  rw [e1] at g1
  obtain ⟨va,vn,vc,rfl,_,_⟩ := g1.len
  have hbo3 : ∀ q,bo3 = some q → w.heap.size ≤ q := fun q hq => by
    rcases g3 q hq with h | h
    · exact hbo q h
    · omega
  have hh3 := hx3.blk hh
  have hnod := hM.nod hm
  obtain ⟨k1,k2⟩ := Dc.fldD hu hM hS hx3 hm { m with nd := { m.nd with kids := m.nd.kids ++ [(i : Int)] },kv := .slice va vn vc,kb := bo3 } 8 (.slice va vn vc) rfl (by decide) ⟨hok.attrs.ext hx3,by rw [em]; exact g1⟩ (fun q hq => by
    simp only [Laid.blks,List.mem_append,Option.mem_toList] at hq ⊢
    rcases hq with hq | hq
    · exact .inl (.inl hq)
    · exact .inr (hbo3 q hq)) (by
    have ha : ∀ q,m.ab = some q → q < w.heap.size := fun q hq => by have := hok.attrs; rw [hq] at this; exact this.lt
    simp only [Laid.blks]
    cases hab2 : m.ab with
    | none => cases bo3 <;> simp
    | some q =>
      cases hb3 : bo3 with
      | none => simp
      | some q' =>
        have := ha q hab2
        have := hbo3 q' hb3
        simp; omega)
  (repeat revert hK K);refine Wc4 @hh3 @p0 @p1 @k1 ?_;repeat with_reducible intro K hK
  rw [em] at k2
  generalize w3.setCell ⟨x.bn,p * 11 + 8,none⟩ (.slice va vn vc) = w4 at *
  obtain ⟨hu4,x4,hM4,hS4⟩ := k2
  obtain ⟨oa4,oc4,la4,lc4,ma4,mc4,eo4,ho4,_,_,_,_,_,hh4⟩ := hM4.hd
  have hlen : (b.L.set p { n with kids := n.kids ++ [(i : Int)] }).length = b.L.length := List.length_set
  have hni4 : (b.L.set p { n with kids := n.kids ++ [(i : Int)] })[i]? = some ni := by rw [List.getElem?_set,if_neg hpi]; exact hni
  obtain ⟨m4,xa4,xn4,xc4,ya4,yn4,yc4,hm4,em4,hok4,eav4,ekv4,_⟩ := hM4.node hni4
  dsimp only at hh4
  rw [hlen] at hh4
  obtain ⟨z1,z2⟩ := Dc.fldD hu4 hM4 hS4 (Ext.refl _) hm4 { m4 with nd := { m4.nd with parent := (p : Int) } } 6 (.int .i64 (p : Int)) rfl (by decide) ⟨hok4.attrs,hok4.kids⟩ (fun q hq => .inl hq) (by have := hM4.nod hm4; exact this)
  (repeat revert hK K);refine Wc4 @hh4 @i0 @i1 @z1 ?_;repeat with_reducible intro K hK
  rw [em4] at z2
  rw [hang_set hn hni hpi hpar]
  exact z2
end
end Go.Proofs.YtgnnlaeikcnhcaaGreatDoor
end
section
namespace Go.Proofs.YtgnnlaeikcnhcaaGreatDoor
open Go Go.Vk
set_option maxHeartbeats 40000000
section
variable {w0 w : World} {S : Nat → Prop} {pd : Nat} {b : BSt}
set_option maxHeartbeats 4000000 in
theorem dadd_c (h : Dc w0 S w pd b) (hL : b.L.length < 90000) {m : Laid} (hm : RdAt w 2 m.av (attrCells m.nd.attrs)) (hmb : m.nd.attrs.length < 1000000) (hk : kidK m.nd.kind = true) {ya : Option Addr} {yn yc : Nat} (ekv : m.kv = .slice ya yn yc) :
    Gives Tryz.prog 182 #[.pointer (some ⟨pd,0,none⟩),m.val] w fun v w' => v = .int .i64 (addN b.L m.nd).2 ∧ Dc w0 S w' pd { b with L := (addN b.L m.nd).1 } := by
  obtain ⟨xa,xn,xc,eav,_⟩ := id hm
  have hval := Laid.val_eq m
  rw [eav,ekv] at hval
  rw [hval]
  rw [eav] at hm
  have hx := Ext.alloc w (.cells #[.int .i64 m.nd.kind,.string m.nd.name,.string m.nd.text,.int .i64 m.nd.space,.slice xa xn xc,.bool m.nd.dup,.int .i64 m.nd.parent,.int .i64 m.nd.content,.slice ya yn yc,.int .i64 m.nd.frm,.int .i64 m.nd.to] 46)
  have hp : (w.alloc (.cells #[.int .i64 m.nd.kind,.string m.nd.name,.string m.nd.text,.int .i64 m.nd.space,.slice xa xn xc,.bool m.nd.dup,.int .i64 m.nd.parent,.int .i64 m.nd.content,.slice ya yn yc,.int .i64 m.nd.frm,.int .i64 m.nd.to] 46)).heap[w.heap.size]? = some (.cells #[.int .i64 m.nd.kind,.string m.nd.name,.string m.nd.text,.int .i64 m.nd.space,.slice xa xn xc,.bool m.nd.dup,.int .i64 m.nd.parent,.int .i64 m.nd.content,.slice ya yn yc,.int .i64 m.nd.frm,.int .i64 m.nd.to] 46 (0,0)) := by rw [heap_alloc_h,if_pos rfl]
  refine Gives.of_W Tryz.call182 Tryz.func182 rfl Tryz.ntmps182 (by simp) ?_; intro Z hZ
  (repeat revert hK K);refine W1 @vcells_agg ?_;repeat with_reducible intro K hK
  generalize w.alloc (.cells #[.int .i64 m.nd.kind,.string m.nd.name,.string m.nd.text,.int .i64 m.nd.space,.slice xa xn xc,.bool m.nd.dup,.int .i64 m.nd.parent,.int .i64 m.nd.content,.slice ya yn yc,.int .i64 m.nd.frm,.int .i64 m.nd.to] 46) = w1 at *
  obtain ⟨p,hpe⟩ : ∃ p,p = w.heap.size := ⟨_,rfl⟩
  rw [← hpe] at hp ⊢
  have h1 := h.ext hx
  obtain ⟨hu,x,hM,hS⟩ := id h
  have hlow : ∀ q ∈ x.own pd,q < p := fun q hq => by rw [hpe]; exact hM.lt hq
  have hpdp : pd < p := hlow pd (DX.mem.2 (.inl rfl))
  have hne : ¬ pd = p := by omega
  have hM1 := hM.ext hx
  obtain ⟨oa,oc,la,lc,ma,mc,eo,ho,_,_,_,_,_,hh⟩ := hM1.hd
  have hp2 : (((w1.setCell ⟨p,6,none⟩ (.int .i64 (-1))).setCell ⟨p,7,none⟩ (.int .i64 0)).setCell ⟨p,8,none⟩ (.slice none 0 0)).heap[p]? = some (.cells #[.int .i64 m.nd.kind,.string m.nd.name,.string m.nd.text,.int .i64 m.nd.space,.slice xa xn xc,.bool m.nd.dup,.int .i64 (-1),.int .i64 0,.slice none 0 0,.int .i64 m.nd.frm,.int .i64 m.nd.to] 46 (0,0)) := by
    simp only [heap_set_h,if_true,hp,setO_cells]; rfl
  have up2 : Upd (fun q => q = p) w1 (((w1.setCell ⟨p,6,none⟩ (.int .i64 (-1))).setCell ⟨p,7,none⟩ (.int .i64 0)).setCell ⟨p,8,none⟩ (.slice none 0 0)) := ((Upd.setCell (F := fun q => q = p) (a := ⟨p,6,none⟩) w1 rfl _).put (x := ⟨p,7,none⟩) rfl).put (x := ⟨p,8,none⟩) rfl
  have hx2 : Ext w (((w1.setCell ⟨p,6,none⟩ (.int .i64 (-1))).setCell ⟨p,7,none⟩ (.int .i64 0)).setCell ⟨p,8,none⟩ (.slice none 0 0)) := Upd.trans hx up2 fun q hq e => by omega
  (repeat first|(with_reducible first|(refine hK _ _ ?_;clear hK K)|refine ‹∀σ w,_→K σ w› _ _ ?_|(refine W_st ?_;constructor;try intro K hK))|((with_reducible first|refine hZ _ _ ?_|refine W_rg ?_|skip);repeat1' simp only[push_cast,seval,-Nat.reduceSubDiff,cell_h,can_h,cellO_cells,canO_cells,setO_cells,heap_set_h,heap_alloc_h,size_set_h,size_alloc_h,vcells_agg,succ_ne,ne_succ,List.setIfInBounds_toArray,List.set_cons_succ,List.set_cons_zero,setCells,drew_h,hp,hh,hne,eq_self])|((repeat((fail_if_success with_reducible refine hK _ _ ?_);clear hK K));with_reducible refine hK _ _ ?_;clear hK K))
  generalize ((w1.setCell ⟨p,6,none⟩ (.int .i64 (-1))).setCell ⟨p,7,none⟩ (.int .i64 0)).setCell ⟨p,8,none⟩ (.slice none 0 0) = w2 at *
  refine app_to_rd sty27 sty27.und (by decide) (SlAt.nil _ _) (hm.ext hx2) (attrCells_one _) (by rw [attrCells_length]; simp; omega) ?_
  intro v w3 bo g1 g2 g3
  rw [List.nil_append] at g1
  have hx23 : Ext w2 w3 := g2.mono fun q _ e => by cases e
  have hp3 := hx23.blk hp2
  obtain ⟨va,vn,vc,rfl,_,_⟩ := g1.len
  have s2 := hx2.alike.size
  have s3 := hx23.alike.size
  have lp2 := blk_lt hp2
  have hbo : ∀ q,bo = some q → p < q := fun q hq => by
    rcases g3 q hq with h | h
    · cases h
    · omega
  have hp4 : (w3.setCell ⟨p,4,none⟩ (.slice va vn vc)).heap[p]? = some (.cells #[.int .i64 m.nd.kind,.string m.nd.name,.string m.nd.text,.int .i64 m.nd.space,.slice va vn vc,.bool m.nd.dup,.int .i64 (-1),.int .i64 0,.slice none 0 0,.int .i64 m.nd.frm,.int .i64 m.nd.to] 46 (0,0)) := by
    simp only [heap_set_h,if_true,hp3,setO_cells]; rfl
  have up4 : Upd (fun q => q = p) w3 (w3.setCell ⟨p,4,none⟩ (.slice va vn vc)) := Upd.setCell (F := fun q => q = p) (a := ⟨p,4,none⟩) w3 rfl _
  have hx4 : Ext w (w3.setCell ⟨p,4,none⟩ (.slice va vn vc)) := Upd.trans (hx2.trans hx23) up4 fun q hq e => by omega
  have g4 := g1.upd up4 fun q hq e => by have := hbo q hq; omega
  (repeat first|(with_reducible first|(refine hK _ _ ?_;clear hK K)|refine ‹∀σ w,_→K σ w› _ _ ?_|(refine W_st ?_;constructor;try intro K hK))|((with_reducible first|refine hZ _ _ ?_|refine W_rg ?_|skip);repeat1' simp only[push_cast,seval,-Nat.reduceSubDiff,cell_h,can_h,cellO_cells,canO_cells,setO_cells,heap_set_h,heap_alloc_h,size_set_h,size_alloc_h,vcells_agg,succ_ne,ne_succ,List.setIfInBounds_toArray,List.set_cons_succ,List.set_cons_zero,setCells,drew_h,hp3])|((repeat((fail_if_success with_reducible refine hK _ _ ?_);clear hK K));with_reducible refine hK _ _ ?_;clear hK K))
  generalize w3.setCell ⟨p,4,none⟩ (.slice va vn vc) = w4 at *
  have hxd := Ext.drew w4
  have hx5 := hx4.trans hxd
  have hp5 := hxd.blk hp4
  have g5 := g4.ext hxd
  refine W_draw (.pas 0 (.pas 1 (.pas 2 (.pas 3 (.pas 4 (.pas 5 (.act 6 (.act 7 (.pas 8 (.pas 9 (.last 10))))))))))) (fun q => q = pd ∨ q = p) (by decide) mixed (by kernel_rfl) ?_
  generalize w4.drew = w5 at *
  have hM5 := hM.ext hx5
  obtain ⟨oa5,oc5,la5,lc5,ma5,mc5,eo5,ho5,_,_,_,_,_,hh5⟩ := hM5.hd
  have s5 := hx5.alike.size
  have lp5 := blk_lt hp5
  refine Dd5 @true_or @or_true @hh5 @hp5 @vcells_agg ?_
  refine bs_one sty39 (by decide) (by decide) (v := .agg #[.int .i64 m.nd.kind,.string m.nd.name,.string m.nd.text,.int .i64 m.nd.space,.slice va vn vc,.bool m.nd.dup,.int .i64 (-1),.int .i64 0,.slice none 0 0,.int .i64 m.nd.frm,.int .i64 m.nd.to]) rfl ?_
  have hxa := Ext.alloc w5 (.cells (Value.agg #[.int .i64 m.nd.kind,.string m.nd.name,.string m.nd.text,.int .i64 m.nd.space,.slice va vn vc,.bool m.nd.dup,.int .i64 (-1),.int .i64 0,.slice none 0 0,.int .i64 m.nd.frm,.int .i64 m.nd.to]).cells 46)
  have hna := SlAt.new w5 11 (Value.agg #[.int .i64 m.nd.kind,.string m.nd.name,.string m.nd.text,.int .i64 m.nd.space,.slice va vn vc,.bool m.nd.dup,.int .i64 (-1),.int .i64 0,.slice none 0 0,.int .i64 m.nd.frm,.int .i64 m.nd.to]).cells 46 1 rfl
  refine ⟨kept_upd hxa fun q hq => ⟨by rcases hq with hq | hq <;> omega,id⟩,?_⟩
  generalize w5.alloc (.cells (Value.agg #[.int .i64 m.nd.kind,.string m.nd.name,.string m.nd.text,.int .i64 m.nd.space,.slice va vn vc,.bool m.nd.dup,.int .i64 (-1),.int .i64 0,.slice none 0 0,.int .i64 m.nd.frm,.int .i64 m.nd.to]).cells 46) = w6 at *
  have hx6 := hx5.trans hxa
  obtain ⟨m',hm'⟩ : ∃ m' : Laid,m' = ⟨bareN m.nd,.slice va vn vc,.slice none 0 0,bo,none⟩ := ⟨_,rfl⟩
  have hcells : (Value.agg #[.int .i64 m.nd.kind,.string m.nd.name,.string m.nd.text,.int .i64 m.nd.space,.slice va vn vc,.bool m.nd.dup,.int .i64 (-1),.int .i64 0,.slice none 0 0,.int .i64 m.nd.frm,.int .i64 m.nd.to]).cells.toList = m'.cells := by rw [hm']; rfl
  rw [hcells] at hna
  have hok : m'.ok w6 := by rw [hm']; exact ⟨g5.ext hxa,SlAt.nil _ _⟩
  have s6 := hxa.alike.size
  have hbk : ∀ q ∈ m'.blks,w.heap.size ≤ q := fun q hq => by
    rw [hm'] at hq
    simp only [Laid.blks,Option.toList_none,List.append_nil,Option.mem_toList] at hq
    have := hbo q hq; omega
  have hnd' : m'.blks.Nodup := by rw [hm']; cases bo <;> simp [Laid.blks]
  have hnd : m'.nd = bareN m.nd := by rw [hm']
  have hxl := hM.len
  have hd6 := (hM.ext hx6).head
  refine Dd2 @true_or @or_true ?_
  rw [← hxl]
  refine hM.app sty39 hx6 hok hna (by omega) ?_
  intro bn' cap' w7 k1 k2 k3
  have hpn : ¬ p = x.bn := by have := hlow x.bn (DX.mem.2 (.inr (.inr (.inr (.inr (.inl rfl)))))); omega
  have hdn : ¬ pd = x.bn := fun e => DX.ne hM.own x.bn (.inr (.inr (.inr (.inl rfl)))) e.symm
  refine ⟨kept_upd k2 fun q hq => ⟨by rcases hq with hq | hq <;> omega,fun e => by rcases hq with hq | hq <;> omega⟩,?_⟩
  obtain ⟨z1,z2⟩ := Dc.moreD hu hM hS hx6 m' hok hbk hnd' k1 k2 k3
  rw [hnd] at z2
  refine De0 ?_
  refine ⟨z1,?_⟩
  generalize w7.setCell ⟨pd,0,none⟩ (.slice (some ⟨bn',0,none⟩) (x.M.length + 1) cap') = w8 at *
  have hlen8 : (b.L ++ [bareN m.nd]).length = b.L.length + 1 := by simp
  have hhN : hN (b.L ++ [bareN m.nd]) (b.L.length : Int) tmpl = (decide (m.nd.kind = 3) && (decide (m.nd.space = 0) && decide (m.nd.name = tmpl))) := by
    unfold hN
    rw [gN_push,if_pos rfl]
    rfl
  (repeat revert hK K);refine W0 ?_;repeat with_reducible intro K hK
  refine (dhtml_c z2 (by show (b.L ++ [bareN m.nd]).length < _; omega) _ _).mono ?_
  intro v w' ⟨hv,hw⟩
  subst hv; subst w'
  rw [hxl,show hN (b.L ++ [bareN m.nd]) (b.L.length : Int) ⟨#[116,101,109,112,108,97,116,101]⟩ = _ from hhN]
  by_cases ht : m.nd.kind = 3 ∧ m.nd.space = 0 ∧ m.nd.name = tmpl
  · have eA : addN b.L m.nd = (b.L ++ [{ bareN m.nd with content := (b.L.length : Int) + 1 },contN],(b.L.length : Int)) := by
      unfold addN; rw [if_pos hk,if_pos ht]
    rw [decide_eq_true ht.1,decide_eq_true ht.2.1,decide_eq_true ht.2.2,Bool.true_and,Bool.true_and]
    obtain ⟨hu8,x8,hM8,hS8⟩ := z2
    obtain ⟨oa8,oc8,la8,lc8,ma8,mc8,eo8,ho8,_,_,_,_,_,hh8⟩ := hM8.hd
    have hn8 : (b.L ++ [bareN m.nd])[b.L.length]? = some (bareN m.nd) := by simp
    obtain ⟨m8,_,_,_,_,_,_,hm8,em8,hok8,_⟩ := hM8.node hn8
    dsimp only at hh8
    rw [hlen8] at hh8
    have q0 : (0 : Int) ≤ (b.L.length : Int) := by omega
    have q1 : (b.L.length : Int) < ((b.L.length + 1 : Nat) : Int) := by omega
    have q2 : inI64 ((b.L.length : Int) + 1) := by unfold inI64; omega
    obtain ⟨y1,y2⟩ := Dc.fldD hu8 hM8 hS8 (Ext.refl _) hm8 { m8 with nd := { m8.nd with content := (b.L.length : Int) + 1 } } 7 (.int .i64 ((b.L.length : Int) + 1)) rfl (by decide) ⟨hok8.attrs,hok8.kids⟩ (fun q hq => .inl hq) (by have := hM8.nod hm8; exact this)
    rw [em8] at y2
    have eS : (b.L ++ [bareN m.nd]).set b.L.length { bareN m.nd with content := (b.L.length : Int) + 1 } = b.L ++ [{ bareN m.nd with content := (b.L.length : Int) + 1 }] := by
      rw [List.set_append_right _ _ (Nat.le_refl _)]; simp
    dsimp only at y2
    rw [eS] at y2
    generalize hlene : b.L.length = len at *
    push_cast at q1 hh8
    (repeat revert hK K);refine Wc5 @hh8 @q0 @q1 @q2 @y1 ?_;repeat with_reducible intro K hK
    generalize w8.setCell ⟨x8.bn,len * 11 + 7,none⟩ (.int .i64 ((len : Int) + 1)) = w9 at *
    obtain ⟨hu9,x9,hM9,hS9⟩ := y2
    obtain ⟨oa9,oc9,la9,lc9,ma9,mc9,eo9,ho9,_,_,_,_,_,hh9⟩ := hM9.hd
    have hxl9 := hM9.len
    have hlen9 : (b.L ++ [{ bareN m.nd with content := (len : Int) + 1 }]).length = len + 1 := by rw [List.length_append,hlene]; rfl
    dsimp only at hh9 hxl9
    rw [hlen9] at hh9 hxl9
    (repeat revert hK K);refine Wc1 @hh9 ?_;repeat with_reducible intro K hK
    refine build_struct Tryz.zeroValue46 un30 pl30 (cs := #[.int .i64 6,.string ⟨#[]⟩,.string ⟨#[]⟩,.int .i64 0,.slice none 0 0,.bool false,.int .i64 (-1),.int .i64 0,.slice none 0 0,.int .i64 (-1),.int .i64 (-1)]) (by rfl) ?_
    (repeat revert hK K);refine W0 ?_;repeat with_reducible intro K hK
    refine bs_one sty39 (by decide) (by decide) (v := .agg #[.int .i64 6,.string ⟨#[]⟩,.string ⟨#[]⟩,.int .i64 0,.slice none 0 0,.bool false,.int .i64 (-1),.int .i64 0,.slice none 0 0,.int .i64 (-1),.int .i64 (-1)]) rfl ?_
    have hxb := Ext.alloc w9 (.cells (Value.agg #[.int .i64 6,.string ⟨#[]⟩,.string ⟨#[]⟩,.int .i64 0,.slice none 0 0,.bool false,.int .i64 (-1),.int .i64 0,.slice none 0 0,.int .i64 (-1),.int .i64 (-1)]).cells 46)
    have hnb := SlAt.new w9 11 (Value.agg #[.int .i64 6,.string ⟨#[]⟩,.string ⟨#[]⟩,.int .i64 0,.slice none 0 0,.bool false,.int .i64 (-1),.int .i64 0,.slice none 0 0,.int .i64 (-1),.int .i64 (-1)]).cells 46 1 rfl
    generalize w9.alloc (.cells (Value.agg #[.int .i64 6,.string ⟨#[]⟩,.string ⟨#[]⟩,.int .i64 0,.slice none 0 0,.bool false,.int .i64 (-1),.int .i64 0,.slice none 0 0,.int .i64 (-1),.int .i64 (-1)]).cells 46) = w10 at *
    have hcc : (Value.agg #[.int .i64 6,.string ⟨#[]⟩,.string ⟨#[]⟩,.int .i64 0,.slice none 0 0,.bool false,.int .i64 (-1),.int .i64 0,.slice none 0 0,.int .i64 (-1),.int .i64 (-1)]).cells.toList = (⟨contN,.slice none 0 0,.slice none 0 0,none,none⟩ : Laid).cells := rfl
    rw [hcc] at hnb
    have hokc : (⟨contN,.slice none 0 0,.slice none 0 0,none,none⟩ : Laid).ok w10 := ⟨SlAt.nil _ _,SlAt.nil _ _⟩
    (repeat revert hK K);refine W0 ?_;repeat with_reducible intro K hK
    push_cast at hxl9
    rw [← hxl9]
    refine hM9.app sty39 hxb hokc hnb (by show (b.L ++ [_]).length < _; rw [hlen9]; omega) ?_
    intro bn2 cap2 w11 k1 k2 k3
    obtain ⟨z1,z3⟩ := Dc.moreD hu9 hM9 hS9 hxb _ hokc (fun q hq => by simp [Laid.blks] at hq) (by simp [Laid.blks]) k1 k2 k3
    (repeat revert hK K);refine W1 @z1 ?_;repeat with_reducible intro K hK
    rw [eA]
    refine ⟨rfl,?_⟩
    have eL : (b.L ++ [{ bareN m.nd with content := (len : Int) + 1 }]) ++ [contN] = b.L ++ [{ bareN m.nd with content := (len : Int) + 1 },contN] := by rw [List.append_assoc]; rfl
    dsimp only at z3 ⊢
    rw [eL] at z3
    exact z3
  · have eA : addN b.L m.nd = (b.L ++ [bareN m.nd],(b.L.length : Int)) := by
      unfold addN; rw [if_pos hk,if_neg ht]
    have hbf : (decide (m.nd.kind = 3) && (decide (m.nd.space = 0) && decide (m.nd.name = tmpl))) = false := by
      cases hb : (decide (m.nd.kind = 3) && (decide (m.nd.space = 0) && decide (m.nd.name = tmpl))) with
      | false => rfl
      | true =>
        simp only [Bool.and_eq_true,decide_eq_true_eq] at hb
        exact absurd hb ht
    rw [hbf]
    (repeat revert hK K);refine W0 ?_;repeat with_reducible intro K hK
    rw [eA]
    exact ⟨rfl,z2⟩
end
end Go.Proofs.YtgnnlaeikcnhcaaGreatDoor
end
section
namespace Go.Vk
open Go Go.Proofs.YtgnnlaeikcnhcaaGreatDoor
section
variable {L : List Nd} {n : Nd}
theorem addN_old (t : Int) (ht : t < L.length) : gN (addN L n).1 t = gN L t := by
  unfold addN
  split
  · split
    · rw [show L ++ [{ bareN n with content := (L.length : Int) + 1 }, contN] = (L ++ [{ bareN n with content := (L.length : Int) + 1 }]) ++ [contN] by simp]
      rw [gN_push,if_neg (by simp; omega),gN_push,if_neg (by omega)]
    · rw [gN_push,if_neg (by omega)]
  · rfl
theorem addN_new (hk : kidK n.kind = true) : (addN L n).2 = L.length ∧ L.length < (addN L n).1.length ∧ (addN L n).1.length ≤ L.length + 2 ∧
    (gN (addN L n).1 L.length).kind = n.kind ∧ (gN (addN L n).1 L.length).name = n.name ∧ (gN (addN L n).1 L.length).space = n.space ∧ (gN (addN L n).1 L.length).parent = -1 ∧ (gN (addN L n).1 L.length).kids = [] := by
  unfold addN
  rw [if_pos hk]
  split
  · rw [show L ++ [{ bareN n with content := (L.length : Int) + 1 }, contN] = (L ++ [{ bareN n with content := (L.length : Int) + 1 }]) ++ [contN] by simp]
    dsimp only
    rw [gN_push,if_neg (by simp; omega),gN_push,if_pos rfl]
    exact ⟨rfl,by simp,by simp,rfl,rfl,rfl,rfl,rfl⟩
  · dsimp only
    rw [gN_push,if_pos rfl]
    exact ⟨rfl,by simp,by simp,rfl,rfl,rfl,rfl,rfl⟩
theorem aboveF_add (h : Gd L) (n : Nd) : ∀ (k : Nat) (j : Int), j < L.length → aboveF (addN L n).1 L.length k j = false
  | 0,_,_ => rfl
  | k + 1,j,hj => by
    rw [aboveF]
    by_cases h0 : j < 0
    · rw [if_pos h0]
    · rw [if_neg h0]
      have e : ¬ j = (L.length : Int) := by omega
      rw [decide_eq_false e,Bool.false_or]
      apply aboveF_add h n k
      rw [upN_g,addN_old _ hj]
      split
      · omega
      · by_cases hp : 0 ≤ (gN L j).parent
        · exact (h.range hp).2
        · omega
theorem add_app (hG : Gd L) (hk : kidK n.kind = true) {q : Int} (hq : 0 ≤ q ∧ q < L.length) (hh : holdK (gN L q).kind = true) : appendN (addN L n).1 q L.length = (hangN (addN L n).1 q.toNat (-1) L.length,0) := by
  obtain ⟨h1,h2,h3,h4,_⟩ := addN_new (L := L) hk
  unfold appendN
  have c1 : holdsN (addN L n).1 q = true := by rw [holdsN_g,addN_old _ hq.2]; exact hh
  have c2 : hangsN (addN L n).1 L.length = true := by rw [hangsN_g,h4]; exact hk
  have c3 : aboveN (addN L n).1 L.length q = false := aboveF_add hG _ _ _ hq.2
  rw [if_pos ⟨c1,c2,c3⟩,Int.toNat_natCast]
end
def insL (b : BSt) (n : Nd) : BSt := { b with L := hangN (addN b.L n).1 (targB b).toNat (-1) b.L.length,s := b.s ++ [⟨(b.L.length : Int),n.space,n.name⟩] }
theorem Shp.insL {b : BSt} (h : Shp b) (hl : b.s.length < 500) {n : Nd} (hk : n.kind = 3) : insertB b n = (Go.Vk.insL b n,(b.L.length : Int)) := by
  obtain ⟨⟨t0,t1⟩,hh,hp,hp2⟩ := h.targ
  have hkk : kidK n.kind = true := by rw [hk]; rfl
  obtain ⟨h1,h2,h3,h4,h5,h6,h7,h8⟩ := addN_new (L := b.L) hkk
  have happ := add_app h.gd hkk ⟨t0,t1⟩ hh
  have hpl : placeB (addB b n) (targB (addB b n)) = (targB b,-1) := by
    show placeB { b with L := (addN b.L n).1 } (targB b) = _
    refine h.place ?_
    obtain ⟨_,_,t2⟩ := h.t0
    rw [nodeN_gN (by omega),addN_old _ t1]
    rcases t2 with t2 | t2
    · left; rw [t2.1]; decide
    · exact .inr t2.2
  have hhung : hungB b n = { b with L := hangN (addN b.L n).1 (targB b).toNat (-1) b.L.length } := by
    unfold hungB putB
    rw [hpl,if_neg (show ¬ (0 : Int) ≤ -1 by decide),h1]
    dsimp only
    rw [show (addB b n).L = (addN b.L n).1 from rfl,happ]
    rfl
  have hgh := gN_hang (add_gd h.gd n) (i := b.L.length) (p := (targB b).toNat) h2 (by omega) (-1) (b.L.length : Int)
  have hlen : (hangN (addN b.L n).1 (targB b).toNat (-1) b.L.length).length = (addN b.L n).1.length := hangN_len _ _ _ _
  have hnode : nodeN (hangN (addN b.L n).1 (targB b).toNat (-1) b.L.length) b.L.length = gN (hangN (addN b.L n).1 (targB b).toNat (-1) b.L.length) b.L.length := nodeN_gN (by rw [hlen]; omega)
  have k3 : (nodeN (hangN (addN b.L n).1 (targB b).toNat (-1) b.L.length) b.L.length).kind = 3 := by rw [hnode,hgh]; show (gN (addN b.L n).1 b.L.length).kind = 3; rw [h4]; exact hk
  have ks : (nodeN (hangN (addN b.L n).1 (targB b).toNat (-1) b.L.length) b.L.length).space = n.space := by rw [hnode,hgh]; exact h6
  have kn : (nodeN (hangN (addN b.L n).1 (targB b).toNat (-1) b.L.length) b.L.length).name = n.name := by rw [hnode,hgh]; exact h5
  unfold nodeN at k3 ks kn
  unfold insertB
  rw [if_neg (by omega),h1]
  rw [hhung]
  have hpush : pushB { b with L := hangN (addN b.L n).1 (targB b).toNat (-1) b.L.length } b.L.length = (Go.Vk.insL b n,0) := by
    unfold pushB insS Go.Vk.insL opN
    dsimp only
    rw [if_pos k3,if_pos ⟨by omega,Int.le_refl _⟩,if_neg (by omega),Int.toNat_natCast,List.take_length,List.drop_length,ks,kn]
  rw [hpush]
  unfold failB
  rw [if_neg (fun h => h.2 rfl)]
theorem add_way {L : List Nd} (hG : Gd L) {n : Nd} (hk : kidK n.kind = true) {q : Nat} (hq : q < L.length) : ∃ K,dn (addN L n).1.length (upN (addN L n).1) K q = true ∧ ab (upN (addN L n).1) L.length K q = false := by
  obtain ⟨h1,h2,h3,_⟩ := addN_new (L := L) hk
  obtain ⟨K,hK⟩ := (add_gd hG n).way (q : Int) (by omega)
  exact ⟨K,hK,by rw [← aboveF_ab]; exact aboveF_add hG n K q (by omega)⟩
end Go.Vk
end
section
namespace Go.Proofs.YtgnnlaeikcnhcaaGreatDoor
open Go Go.Vk
set_option maxHeartbeats 40000000
theorem tup0 {P : Program} (a b c : Value) (w : World) (K : Value → World → Prop) : Pure1 P (Instr.extract (.tuple #[a,b,c]) 0) w K = K a w := Pure1_eq (fun w => by simp [Instr.extract,Sem.run]) w K
theorem tup1 {P : Program} (a b c : Value) (w : World) (K : Value → World → Prop) : Pure1 P (Instr.extract (.tuple #[a,b,c]) 1) w K = K b w := Pure1_eq (fun w => by simp [Instr.extract,Sem.run]) w K
theorem tup2 {P : Program} (a b c : Value) (w : World) (K : Value → World → Prop) : Pure1 P (Instr.extract (.tuple #[a,b,c]) 2) w K = K c w := Pure1_eq (fun w => by simp [Instr.extract,Sem.run]) w K
theorem GS.ext {w w' : World} (h : GS w) (hx : Ext w w') : GS w' := by
  obtain ⟨bm,h1,h2⟩ := h
  exact ⟨bm,cell_ext hx h1,fun w2 hx2 => h2 w2 (hx.trans hx2)⟩
theorem smT_small {t : HTok} (h : (decide (t.name.size < 4294967281) && (decide (t.text.size < 1000000000) && decide (t.attrs.length < 1000000))) = true) : SmT t := by
  simp only [Bool.and_eq_true,decide_eq_true_eq] at h
  exact ⟨h.1,h.2.1,h.2.2⟩
set_option maxRecDepth 100000 in
theorem bgC_cont : (nodeN bgC.L 3).content = 4 := by kernel_rfl
set_option maxRecDepth 100000 in
theorem begins_c {w : World} (hg : GB w) (hS : GS w) (hM : MaxAt w) : Gives Tryz.prog 56 #[] w fun v w' => v = .bool true ∧ Ext w w' := by
  have ok := bg_ok
  simp only [Prod.mk.injEq] at ok
  obtain ⟨o1,o2,o3,o4,o5,o6,o7,o8,o9⟩ := ok
  refine Gives.of_W Tryz.call56 Tryz.func56 rfl Tryz.ntmps56 (by simp) ?_; intro Z hZ
  (repeat first|(with_reducible first|(refine hK _ _ ?_;clear hK K)|refine ‹∀σ w,_→K σ w› _ _ ?_|(refine W_st ?_;constructor;try intro K hK))|((with_reducible first|refine hZ _ _ ?_|refine W_rg ?_|skip);repeat1' simp only[push_cast,seval,-Nat.reduceSubDiff])|((repeat((fail_if_success with_reducible refine hK _ _ ?_);clear hK K));with_reducible refine hK _ _ ?_;clear hK K))
  refine bnew_c.mono ?_
  rintro v wA0 ⟨pAb,pAs,pAl,pAa,rfl,hA0⟩
  (repeat first|(with_reducible first|(refine hK _ _ ?_;clear hK K)|refine ‹∀σ w,_→K σ w› _ _ ?_|(refine W_st ?_;constructor;try intro K hK))|((with_reducible first|refine hZ _ _ ?_|refine W_rg ?_|skip);repeat1' simp only[push_cast,seval,-Nat.reduceSubDiff])|((repeat((fail_if_success with_reducible refine hK _ _ ?_);clear hK K));with_reducible refine hK _ _ ?_;clear hK K))
  refine build_struct Tryz.zeroValue37 unTo plTo (cs := #[.int .i64 8,.string ⟨#[]⟩,.string ⟨#[]⟩,.slice none 0 0,.bool false,.bool false,.bool false,.int .i64 0,.int .i64 0]) (by rfl) ?_
  (repeat first|(with_reducible first|(refine hK _ _ ?_;clear hK K)|refine ‹∀σ w,_→K σ w› _ _ ?_|(refine W_st ?_;constructor;try intro K hK))|((with_reducible first|refine hZ _ _ ?_|refine W_rg ?_|skip);repeat1' simp only[push_cast,seval,-Nat.reduceSubDiff])|((repeat((fail_if_success with_reducible refine hK _ _ ?_);clear hK K));with_reducible refine hK _ _ ?_;clear hK K))
  refine (does_c hA0 hg hS hM nP (t := tEOF) (av := .slice none 0 0) (SlAt.nil _ _).rd (smT_small (by decide)) (doOkb_ok o1)).mono ?_
  rintro v wA1 ⟨hA1,_⟩
  replace hA1 : BuAt w wA1 noP pAb pAs pAl pAa bgA := hA1
  (repeat first|(with_reducible first|(refine hK _ _ ?_;clear hK K)|refine ‹∀σ w,_→K σ w› _ _ ?_|(refine W_st ?_;constructor;try intro K hK))|((with_reducible first|refine hZ _ _ ?_|refine W_rg ?_|skip);repeat1' simp only[push_cast,seval,-Nat.reduceSubDiff])|((repeat((fail_if_success with_reducible refine hK _ _ ?_);clear hK K));with_reducible refine hK _ _ ?_;clear hK K))
  have xA := hA1.out
  have hgB := hg.ext xA
  have hSB := hS.ext xA
  have hMB := hM.ext xA
  refine bnew_c.mono ?_
  rintro v wB0 ⟨pBb,pBs,pBl,pBa,rfl,hB0⟩
  (repeat first|(with_reducible first|(refine hK _ _ ?_;clear hK K)|refine ‹∀σ w,_→K σ w› _ _ ?_|(refine W_st ?_;constructor;try intro K hK))|((with_reducible first|refine hZ _ _ ?_|refine W_rg ?_|skip);repeat1' simp only[push_cast,seval,-Nat.reduceSubDiff])|((repeat((fail_if_success with_reducible refine hK _ _ ?_);clear hK K));with_reducible refine hK _ _ ?_;clear hK K))
  refine build_struct Tryz.zeroValue37 unTo plTo (cs := #[.int .i64 1,.string ⟨#[104,116,109,108]⟩,.string ⟨#[]⟩,.slice none 0 0,.bool false,.bool false,.bool false,.int .i64 0,.int .i64 0]) (by rfl) ?_
  (repeat first|(with_reducible first|(refine hK _ _ ?_;clear hK K)|refine ‹∀σ w,_→K σ w› _ _ ?_|(refine W_st ?_;constructor;try intro K hK))|((with_reducible first|refine hZ _ _ ?_|refine W_rg ?_|skip);repeat1' simp only[push_cast,seval,-Nat.reduceSubDiff])|((repeat((fail_if_success with_reducible refine hK _ _ ?_);clear hK K));with_reducible refine hK _ _ ?_;clear hK K))
  refine (does_c hB0 hgB hSB hMB nP (t := tDoc) (av := .slice none 0 0) (SlAt.nil _ _).rd (smT_small (by decide)) (doOkb_ok o2)).mono ?_
  rintro v wB1 ⟨hB1,_⟩
  replace hB1 : BuAt wA1 wB1 noP pBb pBs pBl pBa bgB1 := hB1
  (repeat first|(with_reducible first|(refine hK _ _ ?_;clear hK K)|refine ‹∀σ w,_→K σ w› _ _ ?_|(refine W_st ?_;constructor;try intro K hK))|((with_reducible first|refine hZ _ _ ?_|refine W_rg ?_|skip);repeat1' simp only[push_cast,seval,-Nat.reduceSubDiff])|((repeat((fail_if_success with_reducible refine hK _ _ ?_);clear hK K));with_reducible refine hK _ _ ?_;clear hK K))
  refine build_struct Tryz.zeroValue37 unTo plTo (cs := #[.int .i64 4,.string ⟨#[]⟩,.string ⟨#[99]⟩,.slice none 0 0,.bool false,.bool false,.bool false,.int .i64 0,.int .i64 0]) (by rfl) ?_
  (repeat first|(with_reducible first|(refine hK _ _ ?_;clear hK K)|refine ‹∀σ w,_→K σ w› _ _ ?_|(refine W_st ?_;constructor;try intro K hK))|((with_reducible first|refine hZ _ _ ?_|refine W_rg ?_|skip);repeat1' simp only[push_cast,seval,-Nat.reduceSubDiff])|((repeat((fail_if_success with_reducible refine hK _ _ ?_);clear hK K));with_reducible refine hK _ _ ?_;clear hK K))
  refine (does_c hB1 hgB hSB hMB nP (t := tCom) (av := .slice none 0 0) (SlAt.nil _ _).rd (smT_small (by decide)) (doOkb_ok o3)).mono ?_
  rintro v wB2 ⟨hB2,_⟩
  replace hB2 : BuAt wA1 wB2 noP pBb pBs pBl pBa bgB2 := hB2
  (repeat first|(with_reducible first|(refine hK _ _ ?_;clear hK K)|refine ‹∀σ w,_→K σ w› _ _ ?_|(refine W_st ?_;constructor;try intro K hK))|((with_reducible first|refine hZ _ _ ?_|refine W_rg ?_|skip);repeat1' simp only[push_cast,seval,-Nat.reduceSubDiff])|((repeat((fail_if_success with_reducible refine hK _ _ ?_);clear hK K));with_reducible refine hK _ _ ?_;clear hK K))
  refine (start19_c _).mono ?_
  rintro v wB2t ⟨rfl,yB2⟩
  have hB2t := hB2.pass yB2
  (repeat first|(with_reducible first|(refine hK _ _ ?_;clear hK K)|refine ‹∀σ w,_→K σ w› _ _ ?_|(refine W_st ?_;constructor;try intro K hK))|((with_reducible first|refine hZ _ _ ?_|refine W_rg ?_|skip);repeat1' simp only[push_cast,seval,-Nat.reduceSubDiff])|((repeat((fail_if_success with_reducible refine hK _ _ ?_);clear hK K));with_reducible refine hK _ _ ?_;clear hK K))
  refine (does_c hB2t hgB hSB hMB nP (t := tok19 2 sHtml) (av := .slice none 0 0) (SlAt.nil _ _).rd (smT_small (by decide)) (doOkb_ok o4)).mono ?_
  rintro v wB3 ⟨hB3,_⟩
  replace hB3 : BuAt wA1 wB3 noP pBb pBs pBl pBa bgB3 := hB3
  (repeat first|(with_reducible first|(refine hK _ _ ?_;clear hK K)|refine ‹∀σ w,_→K σ w› _ _ ?_|(refine W_st ?_;constructor;try intro K hK))|((with_reducible first|refine hZ _ _ ?_|refine W_rg ?_|skip);repeat1' simp only[push_cast,seval,-Nat.reduceSubDiff])|((repeat((fail_if_success with_reducible refine hK _ _ ?_);clear hK K));with_reducible refine hK _ _ ?_;clear hK K))
  refine (start19_c _).mono ?_
  rintro v wB3t ⟨rfl,yB3⟩
  have hB3t := hB3.pass yB3
  (repeat first|(with_reducible first|(refine hK _ _ ?_;clear hK K)|refine ‹∀σ w,_→K σ w› _ _ ?_|(refine W_st ?_;constructor;try intro K hK))|((with_reducible first|refine hZ _ _ ?_|refine W_rg ?_|skip);repeat1' simp only[push_cast,seval,-Nat.reduceSubDiff])|((repeat((fail_if_success with_reducible refine hK _ _ ?_);clear hK K));with_reducible refine hK _ _ ?_;clear hK K))
  refine (does_c hB3t hgB hSB hMB nP (t := tok19 2 sTitle) (av := .slice none 0 0) (SlAt.nil _ _).rd (smT_small (by decide)) (doOkb_ok o5)).mono ?_
  rintro v wB4 ⟨hB4,_⟩
  replace hB4 : BuAt wA1 wB4 noP pBb pBs pBl pBa bgB := hB4
  (repeat first|(with_reducible first|(refine hK _ _ ?_;clear hK K)|refine ‹∀σ w,_→K σ w› _ _ ?_|(refine W_st ?_;constructor;try intro K hK))|((with_reducible first|refine hZ _ _ ?_|refine W_rg ?_|skip);repeat1' simp only[push_cast,seval,-Nat.reduceSubDiff])|((repeat((fail_if_success with_reducible refine hK _ _ ?_);clear hK K));with_reducible refine hK _ _ ?_;clear hK K))
  refine (bask_c hB4).mono ?_
  rintro v wB5 ⟨rfl,hB5,_⟩
  obtain ⟨bD,hbD⟩ : ∃ c,c = ({ bgB with ask := none } : BSt) := ⟨_,rfl⟩
  replace hB5 : BuAt wA1 wB5 noP pBb pBs pBl pBa bD := hbD ▸ hB5
  rw [show bgB.ask = some (1,sTitle) by kernel_rfl]
  (repeat first|(with_reducible first|(refine hK _ _ ?_;clear hK K)|refine ‹∀σ w,_→K σ w› _ _ ?_|(refine W_st ?_;constructor;try intro K hK))|((with_reducible first|refine hZ _ _ ?_|refine W_rg ?_|skip);repeat1' simp only[push_cast,seval,-Nat.reduceSubDiff,Option.getD_some,Option.isSome_some,tup0,tup1,tup2])|((repeat((fail_if_success with_reducible refine hK _ _ ?_);clear hK K));with_reducible refine hK _ _ ?_;clear hK K))
  have xB := hB5.out
  have hgC := hgB.ext xB
  have hSC := hSB.ext xB
  have hMC := hMB.ext xB
  refine bnew_c.mono ?_
  rintro v wC0 ⟨pCb,pCs,pCl,pCa,rfl,hC0⟩
  (repeat first|(with_reducible first|(refine hK _ _ ?_;clear hK K)|refine ‹∀σ w,_→K σ w› _ _ ?_|(refine W_st ?_;constructor;try intro K hK))|((with_reducible first|refine hZ _ _ ?_|refine W_rg ?_|skip);repeat1' simp only[push_cast,seval,-Nat.reduceSubDiff])|((repeat((fail_if_success with_reducible refine hK _ _ ?_);clear hK K));with_reducible refine hK _ _ ?_;clear hK K))
  refine (start19_c _).mono ?_
  rintro v wC0t ⟨rfl,yC0⟩
  have hC0t := hC0.pass yC0
  (repeat first|(with_reducible first|(refine hK _ _ ?_;clear hK K)|refine ‹∀σ w,_→K σ w› _ _ ?_|(refine W_st ?_;constructor;try intro K hK))|((with_reducible first|refine hZ _ _ ?_|refine W_rg ?_|skip);repeat1' simp only[push_cast,seval,-Nat.reduceSubDiff])|((repeat((fail_if_success with_reducible refine hK _ _ ?_);clear hK K));with_reducible refine hK _ _ ?_;clear hK K))
  refine (does_c hC0t hgC hSC hMC nP (t := tok19 2 sHtml) (av := .slice none 0 0) (SlAt.nil _ _).rd (smT_small (by decide)) (doOkb_ok o6)).mono ?_
  rintro v wC1 ⟨hC1,_⟩
  replace hC1 : BuAt wB5 wC1 noP pCb pCs pCl pCa bgC1 := hC1
  (repeat first|(with_reducible first|(refine hK _ _ ?_;clear hK K)|refine ‹∀σ w,_→K σ w› _ _ ?_|(refine W_st ?_;constructor;try intro K hK))|((with_reducible first|refine hZ _ _ ?_|refine W_rg ?_|skip);repeat1' simp only[push_cast,seval,-Nat.reduceSubDiff])|((repeat((fail_if_success with_reducible refine hK _ _ ?_);clear hK K));with_reducible refine hK _ _ ?_;clear hK K))
  refine (start19_c _).mono ?_
  rintro v wC1t ⟨rfl,yC1⟩
  have hC1t := hC1.pass yC1
  (repeat first|(with_reducible first|(refine hK _ _ ?_;clear hK K)|refine ‹∀σ w,_→K σ w› _ _ ?_|(refine W_st ?_;constructor;try intro K hK))|((with_reducible first|refine hZ _ _ ?_|refine W_rg ?_|skip);repeat1' simp only[push_cast,seval,-Nat.reduceSubDiff])|((repeat((fail_if_success with_reducible refine hK _ _ ?_);clear hK K));with_reducible refine hK _ _ ?_;clear hK K))
  refine (does_c hC1t hgC hSC hMC nP (t := tok19 2 sHead) (av := .slice none 0 0) (SlAt.nil _ _).rd (smT_small (by decide)) (doOkb_ok o7)).mono ?_
  rintro v wC2 ⟨hC2,_⟩
  replace hC2 : BuAt wB5 wC2 noP pCb pCs pCl pCa bgC2 := hC2
  (repeat first|(with_reducible first|(refine hK _ _ ?_;clear hK K)|refine ‹∀σ w,_→K σ w› _ _ ?_|(refine W_st ?_;constructor;try intro K hK))|((with_reducible first|refine hZ _ _ ?_|refine W_rg ?_|skip);repeat1' simp only[push_cast,seval,-Nat.reduceSubDiff])|((repeat((fail_if_success with_reducible refine hK _ _ ?_);clear hK K));with_reducible refine hK _ _ ?_;clear hK K))
  refine (start19_c _).mono ?_
  rintro v wC2t ⟨rfl,yC2⟩
  have hC2t := hC2.pass yC2
  (repeat first|(with_reducible first|(refine hK _ _ ?_;clear hK K)|refine ‹∀σ w,_→K σ w› _ _ ?_|(refine W_st ?_;constructor;try intro K hK))|((with_reducible first|refine hZ _ _ ?_|refine W_rg ?_|skip);repeat1' simp only[push_cast,seval,-Nat.reduceSubDiff])|((repeat((fail_if_success with_reducible refine hK _ _ ?_);clear hK K));with_reducible refine hK _ _ ?_;clear hK K))
  refine (does_c hC2t hgC hSC hMC nP (t := tok19 2 tmpl) (av := .slice none 0 0) (SlAt.nil _ _).rd (smT_small (by decide)) (doOkb_ok o8)).mono ?_
  rintro v wC3 ⟨hC3,_⟩
  replace hC3 : BuAt wB5 wC3 noP pCb pCs pCl pCa bgC3 := hC3
  (repeat first|(with_reducible first|(refine hK _ _ ?_;clear hK K)|refine ‹∀σ w,_→K σ w› _ _ ?_|(refine W_st ?_;constructor;try intro K hK))|((with_reducible first|refine hZ _ _ ?_|refine W_rg ?_|skip);repeat1' simp only[push_cast,seval,-Nat.reduceSubDiff])|((repeat((fail_if_success with_reducible refine hK _ _ ?_);clear hK K));with_reducible refine hK _ _ ?_;clear hK K))
  refine (bmode_c hC3).mono ?_
  intro v w' ⟨hv,hw⟩
  subst hv; subst w'
  (repeat first|(with_reducible first|(refine hK _ _ ?_;clear hK K)|refine ‹∀σ w,_→K σ w› _ _ ?_|(refine W_st ?_;constructor;try intro K hK))|((with_reducible first|refine hZ _ _ ?_|refine W_rg ?_|skip);repeat1' simp only[push_cast,seval,-Nat.reduceSubDiff])|((repeat((fail_if_success with_reducible refine hK _ _ ?_);clear hK K));with_reducible refine hK _ _ ?_;clear hK K))
  refine (end19_c _).mono ?_
  rintro v wC3t ⟨rfl,yC3⟩
  have hC3t := hC3.pass yC3
  (repeat first|(with_reducible first|(refine hK _ _ ?_;clear hK K)|refine ‹∀σ w,_→K σ w› _ _ ?_|(refine W_st ?_;constructor;try intro K hK))|((with_reducible first|refine hZ _ _ ?_|refine W_rg ?_|skip);repeat1' simp only[push_cast,seval,-Nat.reduceSubDiff])|((repeat((fail_if_success with_reducible refine hK _ _ ?_);clear hK K));with_reducible refine hK _ _ ?_;clear hK K))
  refine (head_c hC3t ((hdOb_ok o9).mono (by decide)) hgC hMC nP (t := tok19 3 tmpl) (av := .slice none 0 0) (SlAt.nil _ _).rd (smT_small (by decide))).mono ?_
  rintro v wC4 ⟨rfl,hC4,_⟩
  replace hC4 : BuAt wB5 wC4 noP pCb pCs pCl pCa bgC := hC4
  (repeat first|(with_reducible first|(refine hK _ _ ?_;clear hK K)|refine ‹∀σ w,_→K σ w› _ _ ?_|(refine W_st ?_;constructor;try intro K hK))|((with_reducible first|refine hZ _ _ ?_|refine W_rg ?_|skip);repeat1' simp only[push_cast,seval,-Nat.reduceSubDiff])|((repeat((fail_if_success with_reducible refine hK _ _ ?_);clear hK K));with_reducible refine hK _ _ ?_;clear hK K))
  have hB6 := hB5.pass hC4.out
  have hA6 := hA1.pass (xB.trans hC4.out)
  refine (barena_c hB6).mono ?_
  intro v w' ⟨hv,hw⟩
  subst hv; subst w'
  (repeat first|(with_reducible first|(refine hK _ _ ?_;clear hK K)|refine ‹∀σ w,_→K σ w› _ _ ?_|(refine W_st ?_;constructor;try intro K hK))|((with_reducible first|refine hZ _ _ ?_|refine W_rg ?_|skip);repeat1' simp only[push_cast,seval,-Nat.reduceSubDiff])|((repeat((fail_if_success with_reducible refine hK _ _ ?_);clear hK K));with_reducible refine hK _ _ ?_;clear hK K))
  obtain ⟨PB,hAB,_⟩ := hB6.ar
  obtain ⟨okD,_⟩ := okb_ok (show okb bD = true by rw [hbD]; kernel_rfl)
  refine (tree_a hAB (by have := okD.L; omega) okD.at_).mono ?_
  rintro v w9 ⟨T,bo,hT,hTL,hx9,-,-⟩
  have hA9 := hA6.pass hx9
  have hB9 := hB6.pass hx9
  have hC9 := hC4.pass hx9
  obtain ⟨ta,tc,rfl,htc⟩ := hT.len
  have hTl : T.length = 6 := by
    have := congrArg List.length hTL
    rw [List.length_map] at this
    rw [this,hbD]; exact (show ({ bgB with ask := none } : BSt).L.length = 6 by kernel_rfl)
  (repeat first|(with_reducible first|(refine hK _ _ ?_;clear hK K)|refine ‹∀σ w,_→K σ w› _ _ ?_|(refine W_st ?_;constructor;try intro K hK))|((with_reducible first|refine hZ _ _ ?_|refine W_rg ?_|skip);repeat1' simp only[push_cast,seval,-Nat.reduceSubDiff])|((repeat((fail_if_success with_reducible refine hK _ _ ?_);clear hK K));with_reducible refine hK _ _ ?_;clear hK K))
  (try (with_reducible refine W_id ?_); refine W_reg (by decide) (by rfl) ?_); refine Wo_flat (by simp only [lapp_cons,lapp_nil]; exact rfl) ?_
  (repeat simp only [push_cast,seval,-Nat.reduceSubDiff])
  refine (bquirks_c hA9).mono ?_
  intro v w' ⟨hv,hw⟩
  subst hv; subst w'
  rw [show bgA.quirks = true by kernel_rfl]
  (repeat first|(with_reducible first|(refine hK _ _ ?_;clear hK K)|refine ‹∀σ w,_→K σ w› _ _ ?_|(refine W_st ?_;constructor;try intro K hK))|((with_reducible first|refine hZ _ _ ?_|refine W_rg ?_|skip);repeat1' simp only[push_cast,seval,-Nat.reduceSubDiff])|((repeat((fail_if_success with_reducible refine hK _ _ ?_);clear hK K));with_reducible refine hK _ _ ?_;clear hK K))
  refine (bmode_c hA9).mono ?_
  intro v w' ⟨hv,hw⟩
  subst hv; subst w'
  rw [show bgA.mode = 6 by kernel_rfl]
  (repeat first|(with_reducible first|(refine hK _ _ ?_;clear hK K)|refine ‹∀σ w,_→K σ w› _ _ ?_|(refine W_st ?_;constructor;try intro K hK))|((with_reducible first|refine hZ _ _ ?_|refine W_rg ?_|skip);repeat1' simp only[push_cast,seval,-Nat.reduceSubDiff,eq_self])|((repeat((fail_if_success with_reducible refine hK _ _ ?_);clear hK K));with_reducible refine hK _ _ ?_;clear hK K))
  refine (bstack_c hA9).mono ?_
  intro v w' ⟨hv,hw⟩
  subst hv; subst w'
  (repeat first|(with_reducible first|(refine hK _ _ ?_;clear hK K)|refine ‹∀σ w,_→K σ w› _ _ ?_|(refine W_st ?_;constructor;try intro K hK))|((with_reducible first|refine hZ _ _ ?_|refine W_rg ?_|skip);repeat1' simp only[push_cast,seval,-Nat.reduceSubDiff])|((repeat((fail_if_success with_reducible refine hK _ _ ?_);clear hK K));with_reducible refine hK _ _ ?_;clear hK K))
  refine (bslen_c hA9).mono ?_
  intro v w' ⟨hv,hw⟩
  subst hv; subst w'
  rw [show bgA.s.length = 2 by kernel_rfl]
  have nodK : ∀ (i : Nat) (q : Nd),bD.L[i]? = some q → ∃ m,T[i]? = some m ∧ m.nd = q := fun i q hq => by
    rw [← hTL,List.getElem?_map] at hq
    cases hm : T[i]? with
    | none => rw [hm] at hq; cases hq
    | some m => rw [hm] at hq; exact ⟨m,rfl,Option.some.inj hq⟩
  have k0 : (bD.L[0]?).map Nd.kids = some [1,2,3] := by rw [hbD]; exact (by kernel_rfl : (bgB.L[0]?).map Nd.kids = some [1,2,3])
  have k2 : (bD.L[2]?).map Nd.kind = some 5 := by rw [hbD]; exact (by kernel_rfl : (bgB.L[2]?).map Nd.kind = some 5)
  obtain ⟨q0,e0,k0⟩ := Option.map_eq_some_iff.1 k0
  obtain ⟨q2,e2,k2⟩ := Option.map_eq_some_iff.1 k2
  obtain ⟨m0,hm0,hn0⟩ := nodK 0 _ e0
  obtain ⟨m2,hm2,hn2⟩ := nodK 2 _ e2
  obtain ⟨tb,to_,n',c',e,_⟩ := hT.sl.some_of (by intro e; have := flat_length T; rw [e] at this; simp at this; omega)
  cases e
  rw [hTl]
  have kk0 := (hT.ok m0 (List.mem_of_getElem? hm0)).kids
  have c08 := hT.get hm0 (j := 8) (by decide)
  have c20 := hT.get hm2 (j := 0) (by decide)
  simp only [Laid.cells,List.getElem?_cons_zero,List.getElem?_cons_succ,hn0,hn2,Nat.reduceMul] at c08 c20
  rw [hn0,k0] at kk0
  rw [k2] at c20
  obtain ⟨_,_,ek0,_⟩ := kk0.ints_len
  rw [ek0] at c08 kk0
  obtain ⟨kb0,ko0,_,_,e,_⟩ := kk0.some_of (by simp [intCells])
  cases e
  have d01 := kk0.ints_cell (i := 1) (show ([1,2,3] : List Int)[1]? = some 2 from rfl)
  have e03 : (List.length ([1,2,3] : List Int)) = 3 := rfl
  (repeat first|(with_reducible first|(refine hK _ _ ?_;clear hK K)|refine ‹∀σ w,_→K σ w› _ _ ?_|(refine W_st ?_;constructor;try intro K hK))|((with_reducible first|refine hZ _ _ ?_|refine W_rg ?_|skip);repeat1' simp only[push_cast,seval,-Nat.reduceSubDiff,eq_self])|((repeat((fail_if_success with_reducible refine hK _ _ ?_);clear hK K));with_reducible refine hK _ _ ?_;clear hK K))
  refine (bquirks_c hB9).mono ?_
  intro v w' ⟨hv,hw⟩
  subst hv; subst w'
  rw [show bD.quirks = false by rw [hbD]; exact (by kernel_rfl : bgB.quirks = false)]
  (repeat first|(with_reducible first|(refine hK _ _ ?_;clear hK K)|refine ‹∀σ w,_→K σ w› _ _ ?_|(refine W_st ?_;constructor;try intro K hK))|((with_reducible first|refine hZ _ _ ?_|refine W_rg ?_|skip);repeat1' simp only[push_cast,seval,-Nat.reduceSubDiff,eq_self,c08,d01,c20,e03])|((repeat((fail_if_success with_reducible refine hK _ _ ?_);clear hK K));with_reducible refine hK _ _ ?_;clear hK K))
  refine (bmode_c hB9).mono ?_
  intro v w' ⟨hv,hw⟩
  subst hv; subst w'
  rw [show bD.mode = 7 by rw [hbD]; exact (by kernel_rfl : bgB.mode = 7)]
  have hm15 : bgC3.mode = 15 := by kernel_rfl
  have hti : sTitle = ⟨#[116,105,116,108,101]⟩ := rfl
  (repeat first|(with_reducible first|(refine hK _ _ ?_;clear hK K)|refine ‹∀σ w,_→K σ w› _ _ ?_|(refine W_st ?_;constructor;try intro K hK))|((with_reducible first|refine hZ _ _ ?_|refine W_rg ?_|skip);repeat1' simp only[push_cast,seval,-Nat.reduceSubDiff,eq_self,hm15,hti])|((repeat((fail_if_success with_reducible refine hK _ _ ?_);clear hK K));with_reducible refine hK _ _ ?_;clear hK K))
  refine (bmode_c hC9).mono ?_
  intro v w' ⟨hv,hw⟩
  subst hv; subst w'
  rw [show bgC.mode = 3 by kernel_rfl]
  (repeat first|(with_reducible first|(refine hK _ _ ?_;clear hK K)|refine ‹∀σ w,_→K σ w› _ _ ?_|(refine W_st ?_;constructor;try intro K hK))|((with_reducible first|refine hZ _ _ ?_|refine W_rg ?_|skip);repeat1' simp only[push_cast,seval,-Nat.reduceSubDiff,eq_self])|((repeat((fail_if_success with_reducible refine hK _ _ ?_);clear hK K));with_reducible refine hK _ _ ?_;clear hK K))
  refine (barena_c hC9).mono ?_
  intro v w' ⟨hv,hw⟩
  subst hv; subst w'
  (repeat first|(with_reducible first|(refine hK _ _ ?_;clear hK K)|refine ‹∀σ w,_→K σ w› _ _ ?_|(refine W_st ?_;constructor;try intro K hK))|((with_reducible first|refine hZ _ _ ?_|refine W_rg ?_|skip);repeat1' simp only[push_cast,seval,-Nat.reduceSubDiff])|((repeat((fail_if_success with_reducible refine hK _ _ ?_);clear hK K));with_reducible refine hK _ _ ?_;clear hK K))
  obtain ⟨PC,hAC,_⟩ := hC9.ar
  obtain ⟨okC,_⟩ := okb_ok (show okb bgC = true by kernel_rfl)
  refine (node_a hAC (by have := okC.L; omega) okC.at_ 3).mono ?_
  rintro v w10 ⟨mm,rfl,emm,_,_,hx10,_,_⟩
  have hcc : mm.nd.content = 4 := by
    rw [show mm.nd = nodeN bgC.L 3 from emm]; exact bgC_cont
  (repeat first|(with_reducible first|(refine hK _ _ ?_;clear hK K)|refine ‹∀σ w,_→K σ w› _ _ ?_|(refine W_st ?_;constructor;try intro K hK))|((with_reducible first|refine hZ _ _ ?_|refine W_rg ?_|skip);repeat1' simp only[push_cast,seval,-Nat.reduceSubDiff,fld7,hcc,eq_self])|((repeat((fail_if_success with_reducible refine hK _ _ ?_);clear hK K));with_reducible refine hK _ _ ?_;clear hK K))
  exact hA9.out.trans hx10
end Go.Proofs.YtgnnlaeikcnhcaaGreatDoor
end
