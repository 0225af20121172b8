/- What the proof leans on,part 1 of 15. -/
import Derived.WalkKit
import Derived.KernelRfl
import Derived.OrdersHeld
import Derived.Deep.LoopGhost
import Derived.WalkSpells
import Derived.WalkLawsBesides
import Derived.Test.YtgnnlaeikcnhcaaGreatDoorProg
import Derived.Laws.MakeOwn
import Derived.Lib.Overlaps
import Derived.Laws.Externs
import Derived.Laws.StructEq
import Derived.Shelf.Strings.Search1
import Derived.Shelf.Strings.Search2
import Derived.Shelf.Strings.Search3
import Derived.Shelf.LaysM
import Derived.Shelf.Strings.Shaped
import Derived.RangeFuncNested
import Derived.RangeFuncBound
import Derived.RangeFuncCalls
import Derived.RangeFuncLeaves
import Derived.WideLaws
import Derived.Below
import Derived.ChangeSame
import Derived.ProofKit
import Derived.Test.YtgnnlaeikcnhcaaGreatDoorRows
import Derived.OpenShut
import Derived.Carry
import Derived.Deep.Strs
import Derived.Deep.SlicePairs
import Derived.Laws.IdiomStrings
import Derived.Test.YtgnnlaeikcnhcaaGreatDoorCards
import Derived.Test.YtgnnlaeikcnhcaaGreatDoorTie
import Derived.Lib.LaidTab
import Derived.Laws.IdiomMaps
import Derived.WideKeyElems2
import Derived.StringKeys
import Derived.Maps.Keyed
import Derived.LaidHandle
import Derived.LaidMore
import Derived.WalkArith
import Derived.LaidEql
import Derived.Stop.Asserts
import Derived.RowKitTokens
import Derived.ChangeSlices
import Derived.Deep.DeepWitnessRowRef
set_option linter.unusedSimpArgs false
set_option linter.unusedVariables false
section
namespace Go.Vk
open Go
abbrev Regs := List (Nat × Value)
def find : Regs → Nat → Option Value
  | [],_ => none
  | (i,v) :: r,t => if i = t then some v else find r t
theorem find_hit (t : Nat) (v : Value) (r : Regs) : find ((t,v) :: r) t = some v := by simp [find]
theorem find_miss {i t : Nat} (v : Value) (r : Regs) (h : (i == t) = false) : find ((i,v) :: r) t = find r t := by
  have : ¬ i = t := by simpa using h
  simp [find,this]
def put (σ : Regs) (d : Option Nat) (v : Value) : Regs :=
  match d with
  | some t => (t,v) :: σ
  | none => σ
theorem put_some (σ : Regs) (t : Nat) (v : Value) : put σ (some t) v = (t,v) :: σ := by simp only [put]
theorem put_none (σ : Regs) (v : Value) : put σ none v = σ := by simp only [put]
def only (b : Bool) (k : Prop) : Prop :=
  match b with
  | true => k
  | false => False
theorem only_true (k : Prop) : only true k = k := by simp only [only]
theorem only_spec {b : Bool} {k : Prop} (h : only b k) : b = true ∧ k := by
  cases b with
  | true => exact ⟨rfl,h⟩
  | false => exact h.elim
theorem only_mk {b : Bool} {k : Prop} (h : b = true ∧ k) : only b k := by rw [h.1]; exact h.2
structure Known (n : Nat) (σ : Regs) (a : Act) : Prop where
  defers : a.defers = []
  size : a.tmps.size = n
  reg : ∀ t v,find σ t = some v → a.tmps[t]? = some v
def dOk (n : Nat) (d : Option Nat) : Prop :=
  match d with
  | some t => t < n
  | none => True
theorem Known.put {n : Nat} {σ : Regs} {a : Act} (h : Known n σ a) {d : Option Nat} (hd : dOk n d) (v : Value) : Known n (put σ d v) (a.put d v) := by
  cases d with
  | none => exact h
  | some t =>
    have ht : t < a.tmps.size := by rw [h.size]; exact hd
    refine ⟨h.defers,by simp [Act.put,h.size],fun u x hx => ?_⟩
    simp only [Vk.put,find] at hx
    simp only [Act.put]
    split at hx
    · rename_i e; subst e; cases hx; simp [ht]
    · rename_i e; rw [Array.getElem?_setIfInBounds_ne e]; exact h.reg u x hx
def evO (σ : Regs) : Operand → Option Value
  | .tmp t => find σ t
  | .const v => some v
  | .global g => some (.pointer (some ⟨g,0,none⟩))
  | .func f => some (.func (.func f) #[] #[])
theorem evO_tmp (σ : Regs) (t : Nat) : evO σ (.tmp t) = find σ t := by simp only [evO]
theorem evO_const (σ : Regs) (v : Value) : evO σ (.const v) = some v := by simp only [evO]
theorem evO_global (σ : Regs) (g : Nat) : evO σ (.global g) = some (.pointer (some ⟨g,0,none⟩)) := by simp only [evO]
theorem evO_func (σ : Regs) (f : Nat) : evO σ (.func f) = some (.func (.func f) #[] #[]) := by simp only [evO]
theorem Known.ev {n : Nat} {σ : Regs} {a : Act} (h : Known n σ a) {x : Operand} {v : Value} (hx : evO σ x = some v) : a.eval x = v := by
  cases x with
  | tmp t => have := h.reg t v hx; simp [Act.eval,this]
  | const u => simpa [evO,Act.eval] using hx
  | global g => simpa [evO,Act.eval] using hx
  | func f => simpa [evO,Act.eval] using hx
def on (o : Option Value) (k : Value → Prop) : Prop :=
  match o with
  | some v => k v
  | none => False
theorem on_some (v : Value) (k : Value → Prop) : on (some v) k = k v := by simp only [on]
theorem on_spec {o : Option Value} {k : Value → Prop} (h : on o k) : ∃ v,o = some v ∧ k v := by
  cases o with
  | none => exact h.elim
  | some v => exact ⟨v,rfl,h⟩
def onL (σ : Regs) : List Operand → (List Value → Prop) → Prop
  | [],k => k []
  | x :: r,k => on (evO σ x) fun v => onL σ r fun vs => k (v :: vs)
theorem onL_spec {n : Nat} {σ : Regs} {a : Act} (hk : Known n σ a) : ∀ {l : List Operand} {k : List Value → Prop}, onL σ l k → k (l.map a.eval)
  | [],_,h => h
  | x :: r,k,h => by
    obtain ⟨v,hv,h⟩ := on_spec h
    have := onL_spec hk h
    rw [List.map_cons,hk.ev hv]
    exact this
def RunV {α : Type} (P : Program) (s : Sem α) (w : World) (K : α → World → Prop) : Prop := ∃ v w',s.run P w = .ok v w' ∧ K v w'
theorem RunV.spec {α : Type} {P : Program} {s : Sem α} {w : World} {K : α → World → Prop} (h : RunV P s w K) : ∃ v w',s.run P w = .ok v w' ∧ K v w' := h
theorem RunV.of {α : Type} {P : Program} {s : Sem α} {w w' : World} {v : α} {K : α → World → Prop} (h : s.run P w = .ok v w') (hk : K v w') : RunV P s w K := ⟨v,w',h,hk⟩
def Pure1 (P : Program) (s : Sem Value) (w : World) (K : Value → World → Prop) : Prop := ∃ v,(∀ w',s.run P w' = .ok v w') ∧ K v w
theorem Pure1.run {P : Program} {s : Sem Value} {w : World} {K : Value → World → Prop} (h : Pure1 P s w K) : RunV P s w K :=
  let ⟨_,h1,h2⟩ := h; .of (h1 w) h2
def withSz (P : Program) (t : TypeId) (k : Nat → Prop) : Prop :=
  match (sizeOf t).run P default with
  | .ok n _ => k n
  | .halt _ _ => False
theorem withSz.spec {P : Program} {t : TypeId} {k : Nat → Prop} (h : withSz P t k) : ∃ n,(∀ w,(sizeOf t).run P w = .ok n w) ∧ k n := by
  unfold withSz at h
  simp only [sizeOf,typeInfo,program,Sem.run_bind] at h ⊢
  simp only [Sem.run,Result.andThen_ok] at h ⊢
  cases hi : P.info? t with
  | none => simp [hi,stuck,Sem.run,Result.andThen] at h
  | some i => simp [hi] at h ⊢; exact h
def inI64 (n : Int) : Prop := -9223372036854775808 ≤ n ∧ n ≤ 9223372036854775807
theorem wrap_in {n : Int} (h : inI64 n) : IntKind.i64.wrap n = n := IntWalk.i64_in n h
/- WHAT AN OPERATION DOES -/
def Does (P : Program) (ρ : Operand → Value) (o : Oper) (w : World) (K : Value → World → Prop) : Prop :=
  match (execOp ρ o).run P w with
  | .ok (.value v) w' => K v w'
  | .ok .skip w' => K undef w'
  | .ok (.enter f args) w' => Calls P f args w' fun e w'' => ∃ v,e = .returned v ∧ K v w''
  | _ => False
theorem Does.wp {P : Program} {a : Act} {o : Oper} {w : World} {K : Value → World → Prop} {N : Act → World → Prop} {Q : Exit → Act → World → Prop}
    (h : Does P a.eval o w K) (hn : ∀ v w',K v w' → N (a.put o.dst v) w') : o.wp P a w N Q := by
  unfold Does at h
  unfold Oper.wp
  generalize (execOp a.eval o).run P w = r at h
  cases r with
  | halt x w' => exact h.elim
  | ok n w' =>
    cases n <;> simp only [Oper.upon] at h ⊢
    case value v => exact hn _ _ h
    case skip => exact hn _ _ h
    case enter f args => exact h.mono fun e w'' ⟨v,he,hk⟩ => by subst he; exact hn _ _ hk
theorem Does.of_value {P : Program} {ρ : Operand → Value} {o : Oper} {w : World} {s : Sem Value} {K : Value → World → Prop}
    (he : execOp ρ o = (do pure (.value (← s)))) (h : RunV P s w K) : Does P ρ o w K := by
  obtain ⟨v,w',hr,hk⟩ := h.spec
  unfold Does
  rw [he]
  simp [hr,hk]
theorem Does.of_unit {P : Program} {ρ : Operand → Value} {o : Oper} {w : World} {s : Sem Unit} {K : Value → World → Prop}
    (he : execOp ρ o = (do s; pure .skip)) (h : RunV P s w (fun _ w' => K undef w')) : Does P ρ o w K := by
  obtain ⟨v,w',hr,hk⟩ := h.spec
  unfold Does
  rw [he]
  simp [hr,hk]
theorem Does.of_pure {P : Program} {ρ : Operand → Value} {o : Oper} {w : World} {v : Value} {K : Value → World → Prop}
    (he : execOp ρ o = pure (.value v)) (h : K v w) : Does P ρ o w K := by
  unfold Does
  rw [he]
  exact h
/- LOADS AND STORES -/
def cellsAt (w : World) (a : Addr) (cs : List Value) : Prop := ∀ i v,cs[i]? = some v → w.cell? (a.add i) = some v
def onCells (w : World) (a : Addr) : Nat → Nat → (List Value → Prop) → Prop
  | _,0,k => k []
  | i,n + 1,k => on (w.cell? (a.add i)) fun v => onCells w a (i + 1) n fun vs => k (v :: vs)
theorem onCells_spec {w : World} {a : Addr} : ∀ (n i : Nat) (k : List Value → Prop), onCells w a i n k → ∃ cs, cs.length = n ∧ (∀ j v, cs[j]? = some v → w.cell? (a.add (i + j)) = some v) ∧ k cs
  | 0,i,k,h => ⟨[],rfl,fun j v hv => by simp at hv,h⟩
  | n + 1,i,k,h => by
    obtain ⟨v,hv,h⟩ := on_spec h
    obtain ⟨cs,h1,h2,h3⟩ := onCells_spec n (i + 1) _ h
    refine ⟨v :: cs,by simp [h1],fun j u hu => ?_,h3⟩
    cases j with
    | zero => simp at hu; subst hu; simpa using hv
    | succ j => have := h2 j u (by simpa using hu); rw [show i + (j + 1) = i + 1 + j by omega]; exact this
theorem onCells_of {w : World} {a : Addr} : ∀ (cs : List Value) (i : Nat) (k : List Value → Prop), (∀ j v, cs[j]? = some v → w.cell? (a.add (i + j)) = some v) → k cs → onCells w a i cs.length k
  | [],i,k,_,h => h
  | v :: r,i,k,hc,h => by
    have h0 := hc 0 v (by simp)
    simp only [List.length_cons,onCells]
    rw [show a.add i = a.add (i + 0) by simp,h0]
    exact onCells_of r (i + 1) _ (fun j u hu => by have := hc (j + 1) u (by simpa using hu); rw [show i + 1 + j = i + (j + 1) by omega]; exact this) h
def aggD : TypeDesc → Bool
  | .struct _ | .array _ _ => true
  | _ => false
def arrCells (w : World) (a : Addr) (n : Nat) (k : List Value → Prop) : Prop := onCells w a 0 n k
def loadD (P : Program) (t : TypeId) (d : Option TypeDesc) (a : Addr) (w : World) (K : Value → World → Prop) : Prop :=
  match d with
  | some (.struct _) => withSz P t fun n => onCells w a 0 n fun cs => K (.agg cs.toArray) w
  | some (.array _ _) => withSz P t fun n => arrCells w a n fun cs => K (.agg cs.toArray) w
  | some _ => on (w.cell? a) fun v => K v w
  | none => False
def vcLoad (P : Program) (t : TypeId) (v : Value) (w : World) (K : Value → World → Prop) : Prop :=
  match v with
  | .pointer (some a) => loadD P t (P.underlying t) a w K
  | _ => False
theorem run_isAgg {P : Program} {t : TypeId} {d : TypeDesc} (h : P.underlying t = some d) (w : World) :
    (isAgg t).run P w = .ok (aggD d) w := by
  unfold isAgg
  rw [Sem.run_bind,run_underlying h w]
  cases d <;> simp [aggD]
theorem run_loadCells {P : Program} {w : World} {a : Addr} {cs : List Value} (h : cellsAt w a cs) : (loadCells a cs.length).run P w = .ok cs.toArray w :=
  run_loadCells_list (P := P) w a cs h
theorem run_load_cell {P : Program} {w : World} {a : Addr} {v : Value} (h : w.cell? a = some v) : (load a).run P w = .ok v w := by
  simp [load,Sem.run,h]
theorem loadD_some {P : Program} {t : TypeId} {d : TypeDesc} {a : Addr} {w : World} {K : Value → World → Prop} (h : loadD P t (some d) a w K) :
    (aggD d = true ∧ withSz P t fun n => onCells w a 0 n fun cs => K (.agg cs.toArray) w) ∨ (aggD d = false ∧ on (w.cell? a) fun v => K v w) := by
  cases d <;> first
    | exact .inl ⟨rfl,h⟩
    | exact .inr ⟨rfl,h⟩
theorem loadD_of {P : Program} {t : TypeId} {d : TypeDesc} {a : Addr} {w : World} {K : Value → World → Prop}
    (h : (aggD d = true ∧ withSz P t fun n => onCells w a 0 n fun cs => K (.agg cs.toArray) w) ∨ (aggD d = false ∧ on (w.cell? a) fun v => K v w)) : loadD P t (some d) a w K := by
  cases d <;> rcases h with ⟨h1, h⟩ | ⟨h1, h⟩ <;> first
    | exact h
    | cases h1
theorem vcLoad_spec {P : Program} {t : TypeId} {v : Value} {w : World} {K : Value → World → Prop} (h : vcLoad P t v w K) : RunV P (Instr.loadAt t v) w K := by
  unfold vcLoad at h
  split at h
  · rename_i a
    cases hu : P.underlying t with
    | none => rw [hu] at h; exact h.elim
    | some d =>
      rw [hu] at h
      rcases loadD_some h with ⟨hd,h⟩ | ⟨hd,h⟩
      · obtain ⟨n, hn, h⟩ := withSz.spec h
        obtain ⟨cs,h1,h2,hk⟩ := onCells_spec _ _ _ h
        refine .of (v := .agg cs.toArray) (w' := w) ?_ hk
        subst h1
        have hc : cellsAt w a cs := fun i v hv => by simpa using h2 i v hv
        simp [Instr.loadAt,Instr.sureAddr,loadVar,run_isAgg hu,hd,hn,run_loadCells hc]
      · obtain ⟨u, hc, hk⟩ := on_spec h
        refine .of (v := u) (w' := w) ?_ hk
        simp only [Instr.loadAt,Instr.sureAddr,loadVar,Sem.run_bind,Sem.run_pure,Result.andThen_ok,run_isAgg hu,hd,Bool.false_eq_true,if_false,run_load_cell hc]
  · exact h.elim
theorem vcLoad_at {P : Program} {t : TypeId} {a : Addr} {w : World} {K : Value → World → Prop} (h : vcLoad P t (.pointer (some a)) w K) :
    ∃ u,K u w ∧ ∀ w' : World,w'.heap[a.block]? = w.heap[a.block]? → ∀ K' : Value → World → Prop,K' u w' → vcLoad P t (.pointer (some a)) w' K' := by
  have cell : ∀ w' : World,w'.heap[a.block]? = w.heap[a.block]? → ∀ i,w'.cell? (a.add i) = w.cell? (a.add i) := fun w' hw i =>
    World.cell?_of_block (w := w) (by simp only [Addr.add]; split <;> exact hw)
  have cell0 : ∀ w' : World,w'.heap[a.block]? = w.heap[a.block]? → w'.cell? a = w.cell? a := fun w' hw => World.cell?_of_block (w := w) hw
  simp only [vcLoad] at h ⊢
  generalize P.underlying t = d at h ⊢
  cases d with
  | none => exact h.elim
  | some d =>
    rcases loadD_some h with ⟨hd,h⟩ | ⟨hd,h⟩
    · obtain ⟨n, hn, h⟩ := withSz.spec h
      obtain ⟨cs,h1,h2,hk⟩ := onCells_spec _ _ _ h
      subst h1
      refine ⟨_,hk,fun w' hw K' hk' => loadD_of (.inl ⟨hd,?_⟩)⟩
      unfold withSz
      simp only [hn]
      exact onCells_of cs 0 _ (fun j v hv => (cell w' hw _).trans (h2 j v hv)) hk'
    · obtain ⟨u, hc, hk⟩ := on_spec h
      exact ⟨u,hk,fun w' hw K' hk' => loadD_of (.inr ⟨hd,by rw [cell0 w' hw,hc]; exact hk'⟩)⟩
def oneCell (v : Value) : Bool :=
  match v with
  | .agg _ | .tuple _ => false
  | _ => true
def setCells (w : World) (a : Addr) : List Value → Nat → World
  | [],_ => w
  | v :: r,i => setCells (w.setCell (a.add i) v) a r (i + 1)
def canStore (w : World) (a : Addr) : Prop := (∃ u,w.cell? a = some u) ∧ w.frozen? a = false
def allStore (w : World) (a : Addr) : Nat → Nat → Prop
  | _,0 => True
  | i,n + 1 => canStore w (a.add i) ∧ allStore w a (i + 1) n
theorem allStore_spec {w : World} {a : Addr} : ∀ (n i : Nat), allStore w a i n → ∀ j, i ≤ j → j < i + n → canStore w (a.add j)
  | 0,i,_,j,h1,h2 => by omega
  | n + 1,i,h,j,h1,h2 => by
    by_cases e : j = i
    · subst e; exact h.1
    · exact allStore_spec n (i + 1) h.2 j (by omega) (by omega)
def vcStore (P : Program) (t : TypeId) (av v : Value) (w : World) (K : Value → World → Prop) : Prop :=
  match av with
  | .pointer (some a) => match v with
    | .agg cs => withSz P t fun n => only (decide (cs.size = n) && cs.toList.all oneCell) (allStore w a 0 n ∧ K undef (setCells w a cs.toList 0))
    | .tuple _ => False
    | v => withSz P t fun n => only (decide (n = 1)) (canStore w a ∧ K undef (w.setCell a v))
  | _ => False
theorem run_store_one {P : Program} {w : World} {a : Addr} {v : Value} (h : canStore w a) (ho : oneCell v = true) : (store a v).run P w = .ok () (w.setCell a v) := by
  obtain ⟨⟨u,hu⟩,hf⟩ := h
  cases v <;> simp_all [store,Sem.run,oneCell]
theorem canStore_setCell {w : World} {a b : Addr} {v : Value} (h : canStore w b) : canStore (w.setCell a v) b := by
  obtain ⟨⟨u,hu⟩,hf⟩ := h
  refine ⟨?_,by simpa using hf⟩
  by_cases e : a = b
  · subst e; exact ⟨v,World.cell?_setCell_same _ _ _ hu⟩
  · exact ⟨u,by rw [World.cell?_setCell_other _ _ _ _ e]; exact hu⟩
theorem run_storeCells {P : Program} {a : Addr} : ∀ (l : List Value) (i : Nat) (w : World),l.all oneCell = true → (∀ j,i ≤ j → j < i + l.length → canStore w (a.add j)) →
    (storeCells a l i).run P w = .ok () (setCells w a l i)
  | [],i,w,_,_ => by simp [storeCells,setCells]
  | v :: r,i,w,hl,hc => by
    simp only [List.all_cons,Bool.and_eq_true] at hl
    have h0 := hc i (Nat.le_refl _) (by simp)
    unfold storeCells
    rw [Sem.run_bind,run_store_one h0 hl.1]
    simp only [Result.andThen_ok,setCells]
    exact run_storeCells r (i + 1) _ hl.2 fun j hj hj' => canStore_setCell (hc j (by omega) (by simp only [List.length_cons]; omega))
theorem vcStore_spec {P : Program} {t : TypeId} {av v : Value} {w : World} {K : Value → World → Prop} (h : vcStore P t av v w K) :
    RunV P (Instr.storeAt t av v) w (fun _ w' => K undef w') := by
  unfold vcStore at h
  split at h
  case h_2 => exact h.elim
  rename_i a
  have one : ∀ u,oneCell u = true → (withSz P t fun n => only (decide (n = 1)) (canStore w a ∧ K undef (w.setCell a u))) → RunV P (Instr.storeAt t (.pointer (some a)) u) w (fun _ w' => K undef w') := by
    intro u ho h
    obtain ⟨n,hn,h0⟩ := withSz.spec h
    obtain ⟨h1,hc,hk⟩ := only_spec h0
    have h1 := of_decide_eq_true h1
    subst h1
    have hcs : u.cells = #[u] := by cases u <;> simp_all [Value.cells,oneCell]
    have hs : (storeCells a [u] 0).run P w = .ok () (w.setCell a u) := by
      have := run_storeCells (P := P) (a := a) [u] 0 w (by simp [ho]) (fun j hj hj' => by
        have e : j = 0 := by simp at hj'; omega
        subst e
        simpa [Addr.add] using hc)
      simpa [setCells,Addr.add] using this
    refine .of (v := ()) (w' := w.setCell a u) ?_ hk
    simp [Instr.storeAt,Instr.sureAddr,storeVar,hn,hcs,hs]
  cases v
  case agg cs =>
    obtain ⟨n,hn,h0⟩ := withSz.spec h
    obtain ⟨h1,hc,hk⟩ := only_spec h0
    simp only [Bool.and_eq_true] at h1
    obtain ⟨h1,ho⟩ := h1
    have h1 := of_decide_eq_true h1
    subst h1
    refine .of (v := ()) (w' := setCells w a cs.toList 0) ?_ hk
    have hs := run_storeCells (P := P) (a := a) cs.toList 0 w ho (fun j _ hj => allStore_spec _ _ hc j (by omega) (by simpa using hj))
    simp [Instr.storeAt,Instr.sureAddr,storeVar,hn,Value.cells,hs]
  case tuple => exact h.elim
  all_goals exact one _ rfl h
/- THE OTHER OPERATIONS -/
def vcNil (v : Value) (w : World) (K : Value → World → Prop) : Prop :=
  match v with
  | .pointer (some a) => K (.pointer (some a)) w
  | .func (.func f) x y => K (.func (.func f) x y) w
  | .iface t u => K (.iface t u) w
  | _ => False
def arith (k : IntKind) (n : Int) (w : World) (K : Value → World → Prop) : Prop :=
  match k with
  | .i64 => inI64 n ∧ K (.int .i64 n) w
  | k => K (.int k (k.wrap n)) w
theorem arith_spec {k : IntKind} {n : Int} {w : World} {K : Value → World → Prop} (h : arith k n w K) : K (.int k (k.wrap n)) w := by
  cases k <;> first | exact h | (rw [wrap_in h.1]; exact h.2)
def vcInt (b : BinOp) (k : IntKind) (x y : Int) (w : World) (K : Value → World → Prop) : Prop :=
  match b with
  | .add => arith k (x + y) w K
  | .sub => arith k (x - y) w K
  | .mul => arith k (x * y) w K
  | .quo => y ≠ 0 ∧ arith k (x.tdiv y) w K
  | .rem => y ≠ 0 ∧ K (.int k (x.tmod y)) w
  | .shl => 0 ≤ y ∧ K (.int k (k.wrap (x * 2 ^ min y.toNat k.bits))) w
  | .shr => 0 ≤ y ∧ K (.int k (x.fdiv (2 ^ min y.toNat k.bits))) w
  | .and => K (.int k (bits .and k x y)) w
  | .or => K (.int k (bits .or k x y)) w
  | .xor => K (.int k (bits .xor k x y)) w
  | .andNot => K (.int k (bits .andNot k x y)) w
  | .eql => K (.bool (decide (x = y))) w
  | .neq => K (.bool (decide (x ≠ y))) w
  | .lss => K (.bool (decide (x < y))) w
  | .leq => K (.bool (decide (x ≤ y))) w
  | .gtr => K (.bool (decide (y < x))) w
  | .geq => K (.bool (decide (y ≤ x))) w
def vcStr (b : BinOp) (x y : ByteArray) (w : World) (K : Value → World → Prop) : Prop :=
  match b with
  | .add => x.size + y.size ≤ 9223372036854775807 ∧ K (.string (x ++ y)) w
  | .eql => K (.bool (decide (x = y))) w
  | .neq => K (.bool (decide (x ≠ y))) w
  | _ => False
def isPtr (P : Program) (t : TypeId) : Bool :=
  match P.underlying t with
  | some (.pointer _) => true
  | _ => false
def isSlice (P : Program) (t : TypeId) : Bool :=
  match P.underlying t with
  | some (.slice _) => true
  | _ => false
def isBool (P : Program) (t : TypeId) : Bool :=
  match P.underlying t with
  | some .bool => true
  | _ => false
def vcBin (P : Program) (b : BinOp) (t : TypeId) (x y : Operand) (vx vy : Value) (w : World) (K : Value → World → Prop) : Prop :=
  match vx,vy with
  | .int k m,.int j n =>
    match b with
    | .shl | .shr => vcInt b k m n w K
    | b => only (decide (k = j)) (vcInt b k m n w K)
  | .string m,.string n => vcStr b m n w K
  | .pointer p,.pointer none =>
    match b with
    | .eql => only (isPtr P t) (K (.bool p.isNone) w)
    | .neq => only (isPtr P t) (K (.bool (!p.isNone)) w)
    | _ => False
  | .slice p _ _,.slice none _ _ =>
    match b with
    | .eql => only (isSlice P t) (K (.bool p.isNone) w)
    | .neq => only (isSlice P t) (K (.bool (!p.isNone)) w)
    | _ => False
  | .bool m,.bool n =>
    match b with
    | .eql => only (isBool P t) (K (.bool (m == n)) w)
    | .neq => only (isBool P t) (K (.bool (!(m == n))) w)
    | _ => False
  | vx,vy => Pure1 P (do eqGuard b t x y vx vy; binOp b t vx vy) w K
theorem toList_loop (s : ByteArray) : ∀ (k i : Nat) (r : List UInt8),s.size - i = k → ByteArray.toList.loop s i r = r.reverse ++ s.data.toList.drop i := by
  intro k
  induction k with
  | zero =>
    intro i r hk
    unfold ByteArray.toList.loop
    have hs : s.data.toList.length = s.size := by simp
    rw [if_neg (by omega),List.drop_eq_nil_of_le (by omega)]
    simp
  | succ k ih =>
    intro i r hk
    unfold ByteArray.toList.loop
    have hs : s.data.toList.length = s.size := by simp
    have hi : i < s.size := by omega
    rw [if_pos hi,ih (i + 1) _ (by omega),List.drop_eq_getElem_cons (i := i) (by omega)]
    have hg : s.get! i = s.data.toList[i]'(by omega) := by
      have h' : i < s.data.size := by simpa using hi
      simp only [ByteArray.get!,Array.getElem!_eq_getD,Array.getD_eq_getD_getElem?,Array.getElem?_eq_getElem h',Option.getD_some,Array.getElem_toList]
    rw [hg]
    simp
theorem toList_eq (s : ByteArray) : s.toList = s.data.toList := by
  unfold ByteArray.toList
  rw [toList_loop s _ 0 [] rfl]
  simp
theorem toList_inj {m n : ByteArray} (h : m.toList = n.toList) : m = n := by
  rw [toList_eq,toList_eq] at h
  cases m; cases n
  simp only [Array.toList_inj] at h
  rw [h]
theorem toList_beq (m n : ByteArray) : (m.toList == n.toList) = decide (m = n) := by
  rw [Bool.eq_iff_iff]
  simp only [beq_iff_eq,decide_eq_true_eq]
  constructor
  · intro h
    exact toList_inj h
  · intro h; rw [h]
theorem vcInt_spec {P : Program} {b : BinOp} {t : TypeId} {k : IntKind} {m n : Int} {w : World} {K : Value → World → Prop} (hb : b ≠ .shl) (hb' : b ≠ .shr)
    (h : vcInt b k m n w K) : RunV P (binOp b t (.int k m) (.int k n)) w K := by
  cases b <;> simp only [vcInt] at h <;> try contradiction
  case add => exact .of (by simp [binOp,Op.intArith]) (arith_spec h)
  case sub => exact .of (by simp [binOp,Op.intArith]) (arith_spec h)
  case mul => exact .of (by simp [binOp,Op.intArith]) (arith_spec h)
  case quo => exact .of (by simp [binOp,Op.intDiv,h.1]) (arith_spec h.2)
  case rem => exact .of (by simp [binOp,Op.intDiv,h.1]) h.2
  case and => exact .of (by simp [binOp,Op.intBits,bits]) h
  case or => exact .of (by simp [binOp,Op.intBits,bits]) h
  case xor => exact .of (by simp [binOp,Op.intBits,bits]) h
  case andNot => exact .of (by simp [binOp,Op.intBits,bits]) h
  case eql => exact .of (v := .bool (decide (m = n))) (w' := w) (by simp [binOp,Op.intCmp]; rfl) h
  case neq => exact .of (v := .bool (decide (m ≠ n))) (w' := w) (by simp [binOp,Op.intCmp]; rfl) h
  case lss => exact .of (v := .bool (decide (m < n))) (w' := w) (by simp [binOp,Op.intCmp]) h
  case leq => exact .of (v := .bool (decide (m ≤ n))) (w' := w) (by simp [binOp,Op.intCmp]) h
  case gtr => exact .of (v := .bool (decide (n < m))) (w' := w) (by simp [binOp,Op.intCmp]) h
  case geq => exact .of (v := .bool (decide (n ≤ m))) (w' := w) (by simp [binOp,Op.intCmp]) h
def plainV : Value → Bool
  | .agg _ | .nilIface => false
  | _ => true
theorem guard_pass {P : Program} {b : BinOp} {t : TypeId} {x y : Operand} {vx vy : Value} {w : World} (h : plainV vx = true) :
    (eqGuard b t x y vx vy).run P w = .ok () w := by
  unfold eqGuard
  cases b <;> simp
  all_goals (cases vx <;> cases vy <;> simp_all [plainV])
theorem equal_ptr {P : Program} {t e : TypeId} {p : Option Addr} {w : World} (he : P.underlying t = some (.pointer e)) : (Op.equal t (.pointer p) (.pointer none)).run P w = .ok p.isNone w := by
  have key : ∀ d,(Op.equalIn (d + 1) t (.pointer p) (.pointer none)).run P w = .ok p.isNone w := by
    intro d
    unfold Op.equalIn
    cases p <;> simp only [Sem.run_bind,run_underlying he,Result.andThen_ok,Sem.run_pure,Option.isNone]
  exact key 9999
theorem equal_slice {P : Program} {t e : TypeId} {p : Option Addr} {l c l' c' : Nat} {w : World} (he : P.underlying t = some (.slice e)) : (Op.equal t (.slice p l c) (.slice none l' c')).run P w = .ok p.isNone w := by
  have key : ∀ d,(Op.equalIn (d + 1) t (.slice p l c) (.slice none l' c')).run P w = .ok p.isNone w := by
    intro d
    unfold Op.equalIn
    cases p <;> simp only [Sem.run_bind,run_underlying he,Result.andThen_ok,Sem.run_pure,Option.isNone]
  exact key 9999
theorem equal_bool {P : Program} {t : TypeId} {m n : Bool} {w : World} (he : P.underlying t = some .bool) : (Op.equal t (.bool m) (.bool n)).run P w = .ok (m == n) w := by
  have key : ∀ d,(Op.equalIn (d + 1) t (.bool m) (.bool n)).run P w = .ok (m == n) w := by
    intro d
    unfold Op.equalIn
    simp only [Sem.run_bind,run_underlying he,Result.andThen_ok,Sem.run_pure]
  exact key 9999
theorem vcBin_spec {P : Program} {b : BinOp} {t : TypeId} {x y : Operand} {vx vy : Value} {w : World} {K : Value → World → Prop}
    (h : vcBin P b t x y vx vy w K) : RunV P (do eqGuard b t x y vx vy; binOp b t vx vy) w K := by
  have pass : plainV vx = true → RunV P (binOp b t vx vy) w K → RunV P (do eqGuard b t x y vx vy; binOp b t vx vy) w K := by
    intro hp h
    obtain ⟨v,w',hr,hk⟩ := h.spec
    exact .of (by rw [Sem.run_bind,guard_pass hp]; simpa using hr) hk
  unfold vcBin at h
  split at h
  · rename_i k m j n
    refine pass rfl ?_
    split at h
    · obtain ⟨h0, h⟩ := h
      exact .of (v := .int k (k.wrap (m * 2 ^ min n.toNat k.bits))) (w' := w) (by simp [binOp,Op.shift,Int.not_lt.mpr h0]) h
    · obtain ⟨h0, h⟩ := h
      exact .of (v := .int k (m.fdiv (2 ^ min n.toNat k.bits))) (w' := w) (by simp [binOp,Op.shift,Int.not_lt.mpr h0]) h
    · rename_i h1 h2
      obtain ⟨h0,hv⟩ := only_spec h
      have h0 := of_decide_eq_true h0
      subst h0
      exact vcInt_spec (fun e => h1 e) (fun e => h2 e) hv
  · rename_i m n
    refine pass rfl ?_
    unfold vcStr at h
    split at h
    · refine .of (v := .string (m ++ n)) (w' := w) ?_ h.2
      have : ¬ (((m.size + n.size : Nat) : Int) > IntKind.i64.max) := by
        have := h.1
        simp [IntKind.max,IntKind.bits,IntKind.signed]
        omega
      simp only [binOp,Op.stringOp]
      rw [if_neg this]
      rfl
    · exact .of (v := .bool (decide (m = n))) (w' := w) (by simp only [binOp,Op.stringOp,toList_beq]; rfl) h
    · refine .of (v := .bool (decide (m ≠ n))) (w' := w) ?_ h
      simp only [binOp,Op.stringOp,toList_beq]
      simp
    · exact h.elim
  · rename_i p
    refine pass rfl ?_
    split at h
    · obtain ⟨ht, h⟩ := only_spec h
      unfold isPtr at ht
      split at ht
      · rename_i e he
        refine .of (v := .bool p.isNone) (w' := w) ?_ h
        simp only [binOp,Sem.run_bind,equal_ptr he,Result.andThen_ok,Sem.run_pure]
      · cases ht
    · obtain ⟨ht, h⟩ := only_spec h
      unfold isPtr at ht
      split at ht
      · rename_i e he
        refine .of (v := .bool (!p.isNone)) (w' := w) ?_ h
        simp only [binOp,Sem.run_bind,equal_ptr he,Result.andThen_ok,Sem.run_pure]
      · cases ht
    · exact h.elim
  · rename_i p l c l' c'
    refine pass rfl ?_
    split at h
    · obtain ⟨ht, h⟩ := only_spec h
      unfold isSlice at ht
      split at ht
      · rename_i e he
        refine .of (v := .bool p.isNone) (w' := w) ?_ h
        simp only [binOp,Sem.run_bind,equal_slice he,Result.andThen_ok,Sem.run_pure]
      · cases ht
    · obtain ⟨ht, h⟩ := only_spec h
      unfold isSlice at ht
      split at ht
      · rename_i e he
        refine .of (v := .bool (!p.isNone)) (w' := w) ?_ h
        simp only [binOp,Sem.run_bind,equal_slice he,Result.andThen_ok,Sem.run_pure]
      · cases ht
    · exact h.elim
  · rename_i m n
    refine pass rfl ?_
    split at h
    · obtain ⟨ht, h⟩ := only_spec h
      unfold isBool at ht
      split at ht
      · rename_i he
        refine .of (v := .bool (m == n)) (w' := w) ?_ h
        simp only [binOp,Sem.run_bind,equal_bool he,Result.andThen_ok,Sem.run_pure]
      · cases ht
    · obtain ⟨ht, h⟩ := only_spec h
      unfold isBool at ht
      split at ht
      · rename_i he
        refine .of (v := .bool (!(m == n))) (w' := w) ?_ h
        simp only [binOp,Sem.run_bind,equal_bool he,Result.andThen_ok,Sem.run_pure]
      · cases ht
    · exact h.elim
  · exact h.run
def vcUn (u : UnOp) (v : Value) (w : World) (K : Value → World → Prop) : Prop :=
  match u,v with
  | .not,.bool b => K (.bool (!b)) w
  | .neg,.int k n => arith k (0 - n) w K
  | .xor,.int k n => K (.int k (bits .xor k (if k.signed then -1 else k.max) n)) w
  | _,_ => False
theorem vcUn_spec {P : Program} {u : UnOp} {v : Value} {w : World} {K : Value → World → Prop} (h : vcUn u v w K) : RunV P (Op.unary u v) w K := by
  unfold vcUn at h
  split at h
  · exact .of (by simp [Op.unary]) h
  · exact .of (by simp [Op.unary,Op.intArith]) (arith_spec h)
  · exact .of (by simp [Op.unary,Op.intBits,bits]) h
  · exact h.elim
def vcConv (P : Program) (s d : TypeId) (v : Value) (w : World) (K : Value → World → Prop) : Prop :=
  match P.underlying s,P.underlying d,v with
  | some _,some (.int k),.int _ n => K (.int k (k.wrap n)) w
  | some _,some .string,.string x => K (.string x) w
  | some (.int _),some (.int _),_ => False
  | _,_,v => RunV P (convert s d v) w K
theorem vcConv_spec {P : Program} {s d : TypeId} {v : Value} {w : World} {K : Value → World → Prop} (h : vcConv P s d v w K) : RunV P (convert s d v) w K := by
  unfold vcConv at h
  split at h
  · rename_i x k j n hs hd
    exact .of (by simp [convert,run_underlying hs,run_underlying hd,Conv.intToInt]) h
  · rename_i x y hs hd
    exact .of (by simp [convert,run_underlying hs,run_underlying hd]) h
  · exact h.elim
  · exact h
def vcField (P : Program) (s : TypeId) (v : Value) (f : Nat) (w : World) (K : Value → World → Prop) : Prop :=
  match P.underlying s with
  | some (.struct fs) => match fs[f]? with
    | some fd => withSz P fd.type fun n => only (decide (0 < n)) (match v with
      | .pointer (some a) => K (.pointer (some (a.add fd.offset))) w
      | _ => False)
    | none => False
  | _ => False
theorem vcField_spec {P : Program} {s : TypeId} {v : Value} {f : Nat} {w : World} {K : Value → World → Prop} (h : vcField P s v f w K) : RunV P (Instr.fieldAt s v f) w K := by
  unfold vcField at h
  split at h
  · rename_i fs hs
    split at h
    · rename_i fd hf
      obtain ⟨n,hn,h0'⟩ := withSz.spec h
      obtain ⟨h0',hk⟩ := only_spec h0'
      have h0 : n ≠ 0 := by have := of_decide_eq_true h0'; omega
      split at hk
      case h_2 => exact hk.elim
      refine .of (w' := w) ?_ hk
      simp [Instr.fieldAt,run_underlying hs,hf,Instr.sureAddr,fieldPlace,hn,h0]
    · exact h.elim
  · exact h.elim
def vcIdx (P : Program) (d : Option TypeDesc) (x : Value) (n : Int) (w : World) (K : Value → World → Prop) : Prop :=
  match d,x with
  | some (.slice e),.slice (some a) l _ => withSz P e fun s => 0 ≤ n ∧ n < (l : Int) ∧ K (.pointer (some (a.add (n.toNat * s)))) w
  | some (.slice _),.slice none _ _ => False
  | some (.array l e),.pointer (some a) => withSz P e fun s => 0 ≤ n ∧ n < (l : Int) ∧ K (.pointer (some (a.add (n.toNat * s)))) w
  | _,_ => False
def vcIndex (P : Program) (t : TypeId) (x i : Value) (w : World) (K : Value → World → Prop) : Prop :=
  match i with
  | .int _ n => vcIdx P (P.underlying t) x n w K
  | _ => False
theorem vcIndex_spec {P : Program} {t : TypeId} {x i : Value} {w : World} {K : Value → World → Prop} (h : vcIndex P t x i w K) : RunV P (Instr.indexAt t x i) w K := by
  unfold vcIndex at h
  split at h
  case h_2 => exact h.elim
  unfold vcIdx at h
  split at h
  · rename_i hu
    obtain ⟨s,hs,h0,h1,hk⟩ := withSz.spec h
    refine .of (w' := w) ?_ hk
    simp [Instr.indexAt,asIntOf,run_underlying hu,h0,h1,hs]
  · exact h.elim
  · rename_i hu
    obtain ⟨s,hs,h0,h1,hk⟩ := withSz.spec h
    refine .of (w' := w) ?_ hk
    simp [Instr.indexAt,asIntOf,run_underlying hu,Instr.sureAddr,h0,h1,hs]
  · exact h.elim
/- SLICING -/
def bnd (o : Option Value) (d : Nat) (hi : Nat) (k : Nat → Prop) : Prop :=
  match o with
  | none => k d
  | some v => match v with
    | .int _ n => 0 ≤ n ∧ n ≤ (hi : Int) ∧ k n.toNat
    | _ => False
theorem bnd_spec {P : Program} {v : Value} {hi : Nat} {k : Nat → Prop} {d : Nat} (h : bnd (some v) d hi k) : ∃ n,(∀ w c,(Instr.sliceBound v hi c).run P w = .ok n w) ∧ k n := by
  unfold bnd at h
  dsimp only at h
  split at h
  case h_2 => exact h.elim
  rename_i n
  obtain ⟨h0,h1,hk⟩ := h
  exact ⟨n.toNat,fun w c => by simp [Instr.sliceBound,asIntOf,h0,h1],hk⟩
/- the bounds of x[lo:hi:mx] -/
def vcBounds (len cap : Nat) (lo hi mx : Option Value) (k : Nat → Nat → Nat → Prop) : Prop :=
  match hi,mx with
  | none,some _ => False
  | hi,mx => bnd mx cap cap fun m => bnd hi len (if mx.isSome then m else cap) fun h => bnd lo 0 h fun l => k l h m
theorem vcBounds_spec {P : Program} {b : Bool} {len cap : Nat} {lo hi mx : Option Value} {k : Nat → Nat → Nat → Prop} (h : vcBounds len cap lo hi mx k) :
    ∃ l h m,(∀ w,(Instr.sliceBounds b len cap lo hi mx).run P w = .ok (l,h,m) w) ∧ k l h m := by
  cases mx with
  | none =>
    cases hi with
    | none =>
      cases lo with
      | none => exact ⟨0,len,cap,fun w => by simp [Instr.sliceBounds],h⟩
      | some v =>
        have h : bnd (some v) 0 len fun l => k l len cap := h
        obtain ⟨n,hr,hk⟩ := bnd_spec (P := P) h
        exact ⟨n,len,cap,fun w => by simp [Instr.sliceBounds,hr],hk⟩
    | some u =>
      have h : bnd (some u) len cap fun h => bnd lo 0 h fun l => k l h cap := h
      obtain ⟨n,hr,hk⟩ := bnd_spec (P := P) h
      cases lo with
      | none => exact ⟨0,n,cap,fun w => by simp [Instr.sliceBounds,hr],hk⟩
      | some v =>
        obtain ⟨n',hr',hk'⟩ := bnd_spec (P := P) hk
        exact ⟨n',n,cap,fun w => by simp [Instr.sliceBounds,hr,hr'],hk'⟩
  | some x =>
    cases hi with
    | none => exact h.elim
    | some u =>
      have h : bnd (some x) cap cap fun m => bnd (some u) len m fun h => bnd lo 0 h fun l => k l h m := h
      obtain ⟨m,hm,h⟩ := bnd_spec (P := P) h
      obtain ⟨n,hr,hk⟩ := bnd_spec (P := P) h
      cases lo with
      | none => exact ⟨0,n,m,fun w => by simp [Instr.sliceBounds,hm,hr],hk⟩
      | some v =>
        obtain ⟨n',hr',hk'⟩ := bnd_spec (P := P) hk
        exact ⟨n',n,m,fun w => by simp [Instr.sliceBounds,hm,hr,hr'],hk'⟩
def vcSlice (P : Program) (t : TypeId) (x : Value) (lo hi mx : Option Value) (w : World) (K : Value → World → Prop) : Prop :=
  match P.underlying t,x with
  | some .string,.string s => mx = none ∧ vcBounds s.size s.size lo hi none fun l h _ => K (.string (s.extract l h)) w
  | some (.slice e),.slice b len cap => withSz P e fun z => vcBounds len cap lo hi mx fun l h m => K (.slice (if m = l then b else b.map (·.add (l * z))) (h - l) (m - l)) w
  | some (.array n e),.pointer (some a) => withSz P e fun z => vcBounds n n lo hi mx fun l h m => K (.slice (some (if m = l then a else a.add (l * z))) (h - l) (m - l)) w
  | _,_ => False
theorem vcSlice_spec {P : Program} {t : TypeId} {x : Value} {lo hi mx : Option Value} {w : World} {K : Value → World → Prop} (h : vcSlice P t x lo hi mx w K) :
    RunV P (Instr.sliceAt t x lo hi mx) w K := by
  unfold vcSlice at h
  split at h
  · rename_i s hu
    obtain ⟨rfl,h⟩ := h
    obtain ⟨l,hh,m,hr,hk⟩ := vcBounds_spec (P := P) (b := false) h
    exact .of (w' := w) (by simp [Instr.sliceAt,Instr.slice,run_underlying hu,hr]) hk
  · rename_i e b len cap hu
    obtain ⟨z,hz,h⟩ := withSz.spec h
    obtain ⟨l,hh,m,hr,hk⟩ := vcBounds_spec (P := P) (b := true) h
    exact .of (w' := w) (by simp [Instr.sliceAt,Instr.slice,run_underlying hu,hr,hz]) hk
  · rename_i n e a hu
    obtain ⟨z,hz,h⟩ := withSz.spec h
    obtain ⟨l,hh,m,hr,hk⟩ := vcBounds_spec (P := P) (b := false) h
    exact .of (w' := w) (by simp [Instr.sliceAt,Instr.sureAddr,run_underlying hu,hr,hz]) hk
  · exact h.elim
/- CALLS -/
def Enters (P : Program) (f : FuncId) : Prop := ∀ args w,(callFunc f args).run P w = .ok (.enter f args) w
def Gives (P : Program) (f : FuncId) (args : Array Value) (w : World) (R : Value → World → Prop) : Prop :=
  (Enters P f ∧ Calls P f args w fun e w' => ∃ v,e = .returned v ∧ R v w') ∨ ∃ v w',(callFunc f args).run P w = .ok (.value v) w' ∧ R v w'
theorem Gives.mono {P : Program} {f : FuncId} {args : Array Value} {w : World} {R R' : Value → World → Prop} (h : Gives P f args w R) (hr : ∀ v w',R v w' → R' v w') : Gives P f args w R' :=
  h.elim (fun h => .inl ⟨h.1,h.2.mono fun _ _ ⟨v,he,hk⟩ => ⟨v,he,hr _ _ hk⟩⟩) fun ⟨v,w',h1,h2⟩ => .inr ⟨v,w',h1,hr _ _ h2⟩
theorem Gives.of_ext {P : Program} {f : FuncId} {args : Array Value} {w w' : World} {v : Value} {R : Value → World → Prop} (h : (callFunc f args).run P w = .ok (.value v) w') (hr : R v w') : Gives P f args w R := .inr ⟨v,w',h,hr⟩
theorem Gives.calls {P : Program} {f : FuncId} {args : Array Value} {w : World} {R : Value → World → Prop} (he : Enters P f) (h : Gives P f args w R) : Calls P f args w fun e w' => ∃ v,e = .returned v ∧ R v w' := by
  rcases h with h | ⟨v,w',h1,_⟩
  · exact h.2
  · rw [he args w] at h1; cases h1
def pureSem (b : Builtin) (ats : Array TypeId) (ty : TypeId) (vs : Array Value) : Option (Sem Value) :=
  match b with
  | .append => some (Builtin.append_ ats ty vs)
  | .cap => some (Builtin.cap_ ats ty vs)
  | .clear => some (Builtin.clear_ ats ty vs)
  | .copy => some (Builtin.copy_ ats ty vs)
  | .delete => some (Builtin.delete_ ats ty vs)
  | .len => some (Builtin.len_ ats ty vs)
  | .max => some (Builtin.max_ ats ty vs)
  | .min => some (Builtin.min_ ats ty vs)
  | _ => none
def vcLen (P : Program) (ats : Array TypeId) (ty : TypeId) (vs : List Value) (w : World) (K : Value → World → Prop) : Prop :=
  match ats[0]?,vs with
  | some t,[v] =>
    match P.underlying t with
    | some .string => match v with
      | .string s => K (.int .i64 (s.size : Int)) w
      | _ => False
    | some (.slice _) => match v with
      | .slice _ n _ => K (.int .i64 (n : Int)) w
      | _ => False
    | some (.array n _) => K (.int .i64 (n : Int)) w
    | _ => RunV P (Builtin.len_ ats ty [v].toArray) w K
  | _,_ => False
theorem vcLen_spec {P : Program} {ats : Array TypeId} {ty : TypeId} {vs : List Value} {w : World} {K : Value → World → Prop} (h : vcLen P ats ty vs w K) :
    RunV P (Builtin.len_ ats ty vs.toArray) w K := by
  unfold vcLen at h
  split at h
  · rename_i t v h0
    split at h
    · rename_i hu
      split at h
      · exact .of (by simp [Builtin.len_,h0,run_underlying hu,goInt]) h
      · exact h.elim
    · rename_i hu
      split at h
      · exact .of (by simp [Builtin.len_,h0,run_underlying hu,goInt]) h
      · exact h.elim
    · rename_i n e hu; exact .of (by simp [Builtin.len_,h0,run_underlying hu,goInt]) h
    · exact h
  · exact h.elim
def vcBuiltin (P : Program) (b : Builtin) (ats : Array TypeId) (ty : TypeId) (vs : List Value) (w : World) (K : Value → World → Prop) : Prop :=
  match b with
  | .len => vcLen P ats ty vs w K
  | b => match pureSem b ats ty vs.toArray with
    | some s => RunV P s w K
    | none => False
def vcCall (P : Program) (c : Call) (ty : TypeId) (σ : Regs) (w : World) (K : Value → World → Prop) : Prop :=
  match c.callee with
  | .value x => on (evO σ x) fun fv => onL σ c.args.toList fun vs =>
    match fv with
    | .func (.func f) first captured => Gives P f (first.toList ++ vs ++ captured.toList).toArray w K
    | _ => False
  | .builtin b => onL σ c.args.toList fun vs => vcBuiltin P b c.argTypes ty vs w K
  | .invoke _ _ => False
theorem vcBuiltin_spec {P : Program} {b : Builtin} {ats : Array TypeId} {ty : TypeId} {cs : Array Bool} {vs : List Value} {w : World} {K : Value → World → Prop} (h : vcBuiltin P b ats ty vs w K) :
    ∃ s : Sem Value,builtin b ats ty cs vs.toArray = (do pure (.value (← s))) ∧ RunV P s w K := by
  cases b <;> first
    | exact ⟨_,rfl,vcLen_spec h⟩
    | exact ⟨_,rfl,h⟩
    | exact h.elim
theorem vcCall_spec {P : Program} {n : Nat} {σ : Regs} {a : Act} (hk : Known n σ a) {o : Oper} {c : Call} (ho : o.op = .call c) {w : World} {K : Value → World → Prop}
    (h : vcCall P c o.type σ w K) : Does P a.eval o w K := by
  unfold vcCall at h
  split at h
  · rename_i x hc
    obtain ⟨fv,hv,h0⟩ := on_spec h
    have h1 := onL_spec hk h0
    have hx := hk.ev hv
    clear h h0
    revert h1
    intro h
    split at h
    · rename_i f first captured
      have hr0 : (execOp a.eval o).run P w = (callFunc f (first.toList ++ c.args.toList.map a.eval ++ captured.toList).toArray).run P w := by
        simp only [execOp,ho,resolve,hc,hx,Deferred.ofValue,Sem.run_bind,Sem.run_pure,Result.andThen_ok,invoke]
        have e : (first ++ Array.map a.eval c.args ++ captured) = (first.toList ++ c.args.toList.map a.eval ++ captured.toList).toArray := by
          apply Array.toList_inj.1
          simp
        rw [e]
      rcases h with h | ⟨v,w',h1,h2⟩
      · unfold Does
        rw [hr0,h.1 _ _]
        exact h.2
      · unfold Does
        rw [hr0,h1]
        exact h2
    · exact h.elim
  · rename_i b hc
    have h := onL_spec hk h
    obtain ⟨s,hs,hr⟩ := vcBuiltin_spec (cs := c.args.map fun | .const _ => true | _ => false) h
    obtain ⟨v,w',hrun,hkk⟩ := hr.spec
    have hr' : (execOp a.eval o).run P w = .ok (.value v) w' := by
      simp only [execOp,ho,resolve,hc,Sem.run_bind,Sem.run_pure,Result.andThen_ok,invoke]
      have e : Array.map a.eval c.args = (c.args.toList.map a.eval).toArray := by
        apply Array.toList_inj.1; simp
      rw [e]
      refine (congrArg (fun s => Sem.run P s w) hs).trans ?_
      rw [Sem.run_bind,hrun]
      rfl
    unfold Does
    rw [hr']
    exact hkk
  · exact h.elim
/- ONE OPERATION -/
def pickV (t : Bool) (a b : Value) : Value :=
  match a,b with
  | .bool x,.bool y => .bool (bif t then x else y)
  | a,b => if t then a else b
theorem pickV_eq (t : Bool) (a b : Value) : pickV t a b = if t then a else b := by
  unfold pickV
  split
  · cases t <;> rfl
  · rfl
def onO (σ : Regs) (o : Option Operand) (k : Option Value → Prop) : Prop :=
  match o with
  | none => k none
  | some x => on (evO σ x) fun v => k (some v)
theorem onO_spec {n : Nat} {σ : Regs} {a : Act} (hk : Known n σ a) {o : Option Operand} {k : Option Value → Prop} (h : onO σ o k) : k (o.map a.eval) := by
  cases o with
  | none => exact h
  | some x => obtain ⟨v,hv,h⟩ := on_spec h; simpa [hk.ev hv] using h
def onP (σ : Regs) : List (Nat × Operand) → (List (Nat × Value) → Prop) → Prop
  | [],k => k []
  | (i,x) :: r,k => on (evO σ x) fun v => onP σ r fun vs => k ((i,v) :: vs)
theorem onP_spec {n : Nat} {σ : Regs} {a : Act} (hk : Known n σ a) : ∀ {l : List (Nat × Operand)} {k : List (Nat × Value) → Prop}, onP σ l k → k (l.map fun (i, x) => (i, a.eval x))
  | [],_,h => h
  | (i,x) :: r,k,h => by
    obtain ⟨v,hv,h⟩ := on_spec h
    have := onP_spec hk h
    simp only [List.map_cons,hk.ev hv]
    exact this
def vcOp (P : Program) (op : Op) (ty : TypeId) (σ : Regs) (w : World) (K : Value → World → Prop) : Prop :=
  match op with
  | .move x => on (evO σ x) fun v => K v w
  | .assign x => on (evO σ x) fun v => K v w
  | .pick c a b => on (evO σ c) fun cv => on (evO σ a) fun va => on (evO σ b) fun vb => match cv with
    | .bool t => K (pickV t va vb) w
    | _ => False
  | .alloc e => RunV P (zeroValue e) w fun z w' => K (.pointer (some ⟨w'.heap.size,0,none⟩)) (w'.alloc (.cells z.cells e))
  | .box e x => on (evO σ x) fun v => K (.pointer (some ⟨w.heap.size,0,none⟩)) (w.alloc (.cells v.cells e))
  | .build t ps => onP σ ps.toList fun vs => Pure1 P (Instr.build t vs.toArray) w K
  | .buildSlice t n ps => onP σ ps.toList fun vs => RunV P (Instr.buildSlice t n vs.toArray) w K
  | .load t x => on (evO σ x) fun v => vcLoad P t v w K
  | .store t x y => on (evO σ x) fun av => on (evO σ y) fun v => vcStore P t av v w K
  | .nilCheck x => on (evO σ x) fun v => vcNil v w K
  | .binOp b t x y _ => on (evO σ x) fun vx => on (evO σ y) fun vy => vcBin P b t x y vx vy w K
  | .unOp u _ x => on (evO σ x) fun v => vcUn u v w K
  | .convert s d x => on (evO σ x) fun v => vcConv P s d v w K
  | .makeFunc f x y => onL σ x.toList fun vx => onL σ y.toList fun vy => K (.func f vx.toArray vy.toArray) w
  | .makeInterface t x => on (evO σ x) fun v => Pure1 P (Instr.makeInterface t v) w K
  | .makeSlice t l c => on (evO σ l) fun vl => on (evO σ c) fun vc => RunV P (Instr.makeSlice t vl vc) w K
  | .makeMap t r => onO σ r fun vr => RunV P (Instr.makeMap t vr) w K
  | .lookup t x i ok => on (evO σ x) fun vx => on (evO σ i) fun vi => RunV P (Instr.lookup t vx vi ok) w K
  | .mapUpdate t m k x => on (evO σ m) fun vm => on (evO σ k) fun vk => on (evO σ x) fun vx => RunV P (Instr.mapUpdate t vm vk vx) w fun _ w' => K undef w'
  | .insert t m k x => on (evO σ m) fun vm => on (evO σ k) fun vk => on (evO σ x) fun vx => RunV P (Instr.mapUpdate t vm vk vx) w fun _ w' => K undef w'
  | .slice t x lo hi mx => on (evO σ x) fun v => onO σ lo fun vl => onO σ hi fun vh => onO σ mx fun vm => vcSlice P t v vl vh vm w K
  | .fieldAddr s x f => on (evO σ x) fun v => vcField P s v f w K
  | .field t x f => on (evO σ x) fun v => Pure1 P (Instr.field t v f) w K
  | .indexAddr t x i => on (evO σ x) fun vx => on (evO σ i) fun vi => vcIndex P t vx vi w K
  | .index t x i => on (evO σ x) fun vx => on (evO σ i) fun vi => Pure1 P (Instr.index t vx vi) w K
  | .range t x => on (evO σ x) fun v => RunV P (Instr.range t v) w K
  | .next x s => on (evO σ x) fun v => RunV P (Instr.next v s ty) w K
  | .extract x i => on (evO σ x) fun v => Pure1 P (Instr.extract v i) w K
  | .typeAssert x t u ok => on (evO σ x) fun v => RunV P (Instr.typeAssert v t u ok) w K
  | .call c => vcCall P c ty σ w K
  | _ => False
set_option maxHeartbeats 1000000 in
theorem vcOp_spec {P : Program} {n : Nat} {σ : Regs} {a : Act} (hk : Known n σ a) {o : Oper} {w : World} {K : Value → World → Prop}
    (h : vcOp P o.op o.type σ w K) : Does P a.eval o w K := by
  have hop : ∃ op,o.op = op := ⟨_,rfl⟩
  obtain ⟨op,hop⟩ := hop
  rw [hop] at h
  cases op <;> simp only [vcOp] at h
  case move x => obtain ⟨v,hv,h⟩ := on_spec h; exact .of_pure (by simp only [execOp,hop,hk.ev hv]) h
  case assign x => obtain ⟨v,hv,h⟩ := on_spec h; exact .of_pure (by simp only [execOp,hop,hk.ev hv]) h
  case pick c x y =>
    obtain ⟨vc,hc,h⟩ := on_spec h
    obtain ⟨vx,hx,h⟩ := on_spec h
    obtain ⟨vy,hy,hh⟩ := on_spec h
    have hb : ∃ t,vc = .bool t := by cases vc <;> first | exact ⟨_,rfl⟩ | exact hh.elim
    obtain ⟨t,rfl⟩ := hb
    dsimp only at hh
    rw [pickV_eq] at hh
    refine .of_value (s := pure (if t then vx else vy)) ?_ (.of (w' := w) rfl hh)
    simp only [execOp,hop,hk.ev hc,hk.ev hx,hk.ev hy,asBool]
    cases t <;> rfl
  case alloc e =>
    obtain ⟨z,w',hr,h⟩ := h.spec
    exact .of_value (by simp only [execOp,hop] <;> rfl) (.of (by simp [Instr.alloc,hr,newVar,newRow,newObj,Sem.run]) h)
  case box e x =>
    obtain ⟨v,hv,h⟩ := on_spec h
    exact .of_value (by simp only [execOp,hop,hk.ev hv] <;> rfl) (.of (by simp [Instr.box,newVar,newRow,newObj,Sem.run]) h)
  case build t ps =>
    have h := onP_spec hk h
    refine .of_value (by simp only [execOp,hop] <;> rfl) ?_
    have e : (ps.map fun (i,x) => (i,a.eval x)) = (ps.toList.map fun (i,x) => (i,a.eval x)).toArray := by apply Array.toList_inj.1; simp
    rw [e]; exact h.run
  case buildSlice t m ps =>
    have h := onP_spec hk h
    refine .of_value (by simp only [execOp,hop] <;> rfl) ?_
    have e : (ps.map fun (i,x) => (i,a.eval x)) = (ps.toList.map fun (i,x) => (i,a.eval x)).toArray := by apply Array.toList_inj.1; simp
    rw [e]; exact h
  case load t x => obtain ⟨v,hv,h⟩ := on_spec h; exact .of_value (by simp only [execOp,hop,hk.ev hv] <;> rfl) (vcLoad_spec h)
  case store t x y =>
    obtain ⟨vx,hx,h⟩ := on_spec h
    obtain ⟨vy,hy,h⟩ := on_spec h
    exact .of_unit (by simp only [execOp,hop,hk.ev hx,hk.ev hy] <;> rfl) (vcStore_spec h)
  case nilCheck x =>
    obtain ⟨v,hv,h⟩ := on_spec h
    unfold vcNil at h
    split at h
    · exact .of_pure (by simp only [execOp,hop,hk.ev hv]) h
    · exact .of_pure (by simp only [execOp,hop,hk.ev hv]) h
    · exact .of_pure (by simp only [execOp,hop,hk.ev hv]) h
    · exact h.elim
  case binOp b t x y z =>
    obtain ⟨vx,hx,h⟩ := on_spec h
    obtain ⟨vy,hy,h⟩ := on_spec h
    exact .of_value (by simp only [execOp,hop,hk.ev hx,hk.ev hy] <;> rfl) (vcBin_spec h)
  case unOp u t x => obtain ⟨v,hv,h⟩ := on_spec h; exact .of_value (by simp only [execOp,hop,hk.ev hv] <;> rfl) (vcUn_spec h)
  case convert s d x => obtain ⟨v,hv,h⟩ := on_spec h; exact .of_value (by simp only [execOp,hop,hk.ev hv] <;> rfl) (vcConv_spec h)
  case makeFunc f x y =>
    have h := onL_spec hk h
    have h := onL_spec hk h
    refine .of_value (s := pure (.func f (x.map a.eval) (y.map a.eval))) (by simp only [execOp,hop,Instr.makeFunc] <;> rfl) (.of (w' := w) rfl ?_)
    have e : ∀ z : Array Operand,z.map a.eval = (z.toList.map a.eval).toArray := by intro z; apply Array.toList_inj.1; simp
    rw [e,e]; exact h
  case makeInterface t x => obtain ⟨v,hv,h⟩ := on_spec h; exact .of_value (by simp only [execOp,hop,hk.ev hv] <;> rfl) h.run
  case makeSlice t x y =>
    obtain ⟨vx,hx,h⟩ := on_spec h
    obtain ⟨vy,hy,h⟩ := on_spec h
    exact .of_value (by simp only [execOp,hop,hk.ev hx,hk.ev hy] <;> rfl) h
  case makeMap t r => exact .of_value (by simp only [execOp,hop] <;> rfl) (onO_spec hk h)
  case lookup t x i ok =>
    obtain ⟨vx,hx,h⟩ := on_spec h
    obtain ⟨vy,hy,h⟩ := on_spec h
    exact .of_value (by simp only [execOp,hop,hk.ev hx,hk.ev hy] <;> rfl) h
  case mapUpdate t m x y =>
    obtain ⟨vm,hm,h⟩ := on_spec h
    obtain ⟨vx,hx,h⟩ := on_spec h
    obtain ⟨vy,hy,h⟩ := on_spec h
    exact .of_unit (by simp only [execOp,hop,hk.ev hx,hk.ev hy,hk.ev hm] <;> rfl) h
  case insert t m x y =>
    obtain ⟨vm,hm,h⟩ := on_spec h
    obtain ⟨vx,hx,h⟩ := on_spec h
    obtain ⟨vy,hy,h⟩ := on_spec h
    exact .of_unit (by simp only [execOp,hop,hk.ev hx,hk.ev hy,hk.ev hm] <;> rfl) h
  case slice t x lo hi mx =>
    obtain ⟨v,hv,h⟩ := on_spec h
    have h := onO_spec hk h
    have h := onO_spec hk h
    have h := onO_spec hk h
    exact .of_value (by simp only [execOp,hop,hk.ev hv] <;> rfl) (vcSlice_spec h)
  case fieldAddr s x f => obtain ⟨v,hv,h⟩ := on_spec h; exact .of_value (by simp only [execOp,hop,hk.ev hv] <;> rfl) (vcField_spec h)
  case field t x f => obtain ⟨v,hv,h⟩ := on_spec h; exact .of_value (by simp only [execOp,hop,hk.ev hv] <;> rfl) h.run
  case indexAddr t x y =>
    obtain ⟨vx,hx,h⟩ := on_spec h
    obtain ⟨vy,hy,h⟩ := on_spec h
    exact .of_value (by simp only [execOp,hop,hk.ev hx,hk.ev hy] <;> rfl) (vcIndex_spec h)
  case index t x y =>
    obtain ⟨vx,hx,h⟩ := on_spec h
    obtain ⟨vy,hy,h⟩ := on_spec h
    exact .of_value (by simp only [execOp,hop,hk.ev hx,hk.ev hy] <;> rfl) h.run
  case range t x => obtain ⟨v,hv,h⟩ := on_spec h; exact .of_value (by simp only [execOp,hop,hk.ev hv] <;> rfl) h
  case next x s => obtain ⟨v,hv,h⟩ := on_spec h; exact .of_value (by simp only [execOp,hop,hk.ev hv] <;> rfl) h
  case extract x i => obtain ⟨v,hv,h⟩ := on_spec h; exact .of_value (by simp only [execOp,hop,hk.ev hv] <;> rfl) h.run
  case typeAssert x t u ok => obtain ⟨v,hv,h⟩ := on_spec h; exact .of_value (by simp only [execOp,hop,hk.ev hv] <;> rfl) h
  case call c => exact vcCall_spec hk hop h
/- A LIST OF OPERATIONS -/
structure VOp where
  dst : Option Nat
  op : Op
  ty : TypeId
  grd : Option (Nat × Bool)
def conv (ops : Array Oper) (o : Oper) : VOp :=
  { dst := o.dst,op := o.op,ty := o.type,grd := match o.guard with
      | none => none
      | some (j,want) => match (ops[j]?).bind (·.dst) with
        | some t => some (t,want)
        | none => some (1000000,want) }
def vops (ops : Array Oper) : List VOp := ops.toList.map (conv ops)
def gdv (gv : Value) (b want : Bool) : Prop := gv = .bool b ∨ (gv = undef ∧ b = !want)
def Wk (P : Program) (n : Nat) : List VOp → Regs → World → (Regs → World → Prop) → Prop
  | [],σ,w,K => K σ w
  | o :: r,σ,w,K => dOk n o.dst ∧ match o.grd with
    | none => vcOp P o.op o.ty σ w fun v w' => Wk P n r (put σ o.dst v) w' K
    | some (g,want) => on (find σ g) fun gv => ∃ b,gdv gv b want ∧ (b = want → vcOp P o.op o.ty σ w fun v w' => Wk P n r (put σ o.dst v) w' K) ∧
        (b ≠ want → Wk P n r (put σ o.dst undef) w K)
theorem wanted_none {ops : Array Oper} {o : Oper} {tmps : Array Value} (h : o.guard = none) : Region.wanted o (yielded ops tmps) = true := by
  simp [Region.wanted,h]
theorem wanted_some {ops : Array Oper} {o : Oper} {tmps : Array Value} {j t : Nat} {want b : Bool} (h : o.guard = some (j, want)) (hd : (ops[j]?).bind (·.dst) = some t)
    (ht : tmps[t]? = some (.bool b)) : Region.wanted o (yielded ops tmps) = (b == want) := by
  simp [Region.wanted,h,yielded,hd,ht]
theorem wanted_undef {ops : Array Oper} {o : Oper} {tmps : Array Value} {j t : Nat} {want : Bool} (h : o.guard = some (j, want)) (hd : (ops[j]?).bind (·.dst) = some t)
    (ht : tmps[t]? = some undef) : Region.wanted o (yielded ops tmps) = false := by
  simp [Region.wanted,h,yielded,hd,ht,undef]
theorem conv_guard {ops : Array Oper} {o : Oper} {g : Nat} {want : Bool} (h : (conv ops o).grd = some (g,want)) (hg : g ≠ 1000000) : ∃ j,o.guard = some (j,want) ∧ (ops[j]?).bind (·.dst) = some g := by
  unfold conv at h
  simp only at h
  split at h
  · cases h
  · rename_i j w' hj
    split at h
    · rename_i t ht; cases h; exact ⟨j,hj,ht⟩
    · cases h; exact (hg rfl).elim
theorem conv_none {ops : Array Oper} {o : Oper} (h : (conv ops o).grd = none) : o.guard = none := by
  unfold conv at h
  simp only at h
  split at h
  · assumption
  · split at h <;> cases h
theorem step_of {P : Program} {n : Nat} (hn : n ≤ 1000000) {ops : Array Oper} {o : Oper} {σ : Regs} {w : World} {a : Act} (hk : Known n σ a) {N : Act → World → Prop} {Q : Exit → Act → World → Prop}
    {F : Value → World → Prop} (hd : dOk n o.dst)
    (h : match (conv ops o).grd with
      | none => vcOp P o.op o.type σ w F
      | some (g,want) => on (find σ g) fun gv => ∃ b,gdv gv b want ∧ (b = want → vcOp P o.op o.type σ w F) ∧ (b ≠ want → F undef w))
    (hF : ∀ v w',F v w' → N (a.put o.dst v) w') :
    (if Region.wanted o (yielded ops a.tmps) then o.wp P a w N Q ∨ (o.asks P a w ∧ LetsOut Q) else N (a.put o.dst undef) w) := by
  cases hg : (conv ops o).grd with
  | none =>
    rw [hg] at h
    rw [if_pos (wanted_none (conv_none hg))]
    exact .inl ((vcOp_spec hk h).wp hF)
  | some gw =>
    obtain ⟨g,want⟩ := gw
    rw [hg] at h
    obtain ⟨gv,hgv,b,hgb,h1,h0⟩ := on_spec h
    have ht := hk.reg g _ hgv
    have hlt : g < n := by
      have := (Array.getElem?_eq_some_iff.1 ht).1
      rw [hk.size] at this; exact this
    obtain ⟨j,hj,hjd⟩ := conv_guard hg (by omega)
    rcases hgb with rfl | ⟨rfl,rfl⟩
    case inr =>
      rw [wanted_undef hj hjd ht]
      rw [if_neg (by simp)]
      exact hF _ _ (h0 (by cases want <;> simp))
    rw [wanted_some hj hjd ht]
    by_cases e : b = want
    · rw [if_pos (by simpa using e)]
      exact .inl ((vcOp_spec hk (h1 e)).wp hF)
    · rw [if_neg (by simpa using e)]
      exact hF _ _ (h0 e)
theorem Wk_list {P : Program} {n : Nat} (hn : n ≤ 1000000) {ops : Array Oper} {K : Regs → World → Prop} {Q : Exit → Act → World → Prop} (hQ : ∀ σ w a,Known n σ a → K σ w → Q .normal a w) :
    ∀ (l : List Oper) (σ : Regs) (w : World) (a : Act),Known n σ a → Wk P n (l.map (conv ops)) σ w K → wpList P ops Q l a w
  | [],σ,w,a,hk,h => hQ σ w a hk h
  | o :: r,σ,w,a,hk,h => by
    obtain ⟨hd,h⟩ := h
    unfold wpList
    exact step_of hn hk (F := fun v w' => Wk P n (r.map (conv ops)) (put σ o.dst v) w' K) hd h fun v w' hK => Wk_list hn hQ r _ w' _ (hk.put hd v) hK
section congr
variable {P : Program} {n : Nat}
@[congr] theorem on_congr {o o' : Option Value} {k : Value → Prop} (h : o = o') : on o k = on o' k := by rw [h]
@[congr] theorem onL_congr {σ : Regs} {l l' : List Operand} {k : List Value → Prop} (h : l = l') : onL σ l k = onL σ l' k := by rw [h]
@[congr] theorem onP_congr {σ : Regs} {l l' : List (Nat × Operand)} {k : List (Nat × Value) → Prop} (h : l = l') : onP σ l k = onP σ l' k := by rw [h]
@[congr] theorem onO_congr {σ : Regs} {l l' : Option Operand} {k : Option Value → Prop} (h : l = l') : onO σ l k = onO σ l' k := by rw [h]
@[congr] theorem onCells_congr {w : World} {a a' : Addr} {i : Nat} {k : List Value → Prop} (h : a = a') : onCells w a i n k = onCells w a' i n k := by rw [h]
@[congr] theorem Wk_congr {l : List VOp} {σ σ' : Regs} {w : World} {K : Regs → World → Prop} (h : σ = σ') : Wk P n l σ w K = Wk P n l σ' w K := by rw [h]
@[congr] theorem vcOp_congr {op : Op} {t : TypeId} {σ : Regs} {w : World} {K : Value → World → Prop} : vcOp P op t σ w K = vcOp P op t σ w K := rfl
@[congr] theorem vcLoad_congr {t : TypeId} {v v' : Value} {w : World} {K : Value → World → Prop} (h : v = v') : vcLoad P t v w K = vcLoad P t v' w K := by rw [h]
@[congr] theorem loadD_congr {t : TypeId} {d d' : Option TypeDesc} {a a' : Addr} {w : World} {K : Value → World → Prop} (h : d = d') (h2 : a = a') : loadD P t d a w K = loadD P t d' a' w K := by rw [h,h2]
@[congr] theorem vcStore_congr {t : TypeId} {a a' v v' : Value} {w : World} {K : Value → World → Prop} (h : a = a') (h2 : v = v') : vcStore P t a v w K = vcStore P t a' v' w K := by rw [h,h2]
@[congr] theorem vcNil_congr {v v' : Value} {w : World} {K : Value → World → Prop} (h : v = v') : vcNil v w K = vcNil v' w K := by rw [h]
@[congr] theorem arith_congr {k : IntKind} {m m' : Int} {w : World} {K : Value → World → Prop} (h : m = m') : arith k m w K = arith k m' w K := by rw [h]
@[congr] theorem vcInt_congr {b : BinOp} {k : IntKind} {x x' y y' : Int} {w : World} {K : Value → World → Prop} (h : x = x') (h2 : y = y') : vcInt b k x y w K = vcInt b k x' y' w K := by rw [h,h2]
@[congr] theorem vcStr_congr {b : BinOp} {x x' y y' : ByteArray} {w : World} {K : Value → World → Prop} (h : x = x') (h2 : y = y') : vcStr b x y w K = vcStr b x' y' w K := by rw [h,h2]
@[congr] theorem vcBin_congr {b : BinOp} {t : TypeId} {x y : Operand} {u u' v v' : Value} {w : World} {K : Value → World → Prop} (h : u = u') (h2 : v = v') : vcBin P b t x y u v w K = vcBin P b t x y u' v' w K := by rw [h,h2]
@[congr] theorem vcUn_congr {u : UnOp} {v v' : Value} {w : World} {K : Value → World → Prop} (h : v = v') : vcUn u v w K = vcUn u v' w K := by rw [h]
@[congr] theorem vcConv_congr {s d : TypeId} {v v' : Value} {w : World} {K : Value → World → Prop} (h : v = v') : vcConv P s d v w K = vcConv P s d v' w K := by rw [h]
@[congr] theorem vcField_congr {s : TypeId} {v v' : Value} {f : Nat} {w : World} {K : Value → World → Prop} (h : v = v') : vcField P s v f w K = vcField P s v' f w K := by rw [h]
@[congr] theorem vcIdx_congr {d d' : Option TypeDesc} {x x' : Value} {m m' : Int} {w : World} {K : Value → World → Prop} (h : d = d') (h2 : x = x') (h3 : m = m') : vcIdx P d x m w K = vcIdx P d' x' m' w K := by rw [h,h2,h3]
@[congr] theorem vcIndex_congr {t : TypeId} {x x' i i' : Value} {w : World} {K : Value → World → Prop} (h2 : x = x') (h3 : i = i') : vcIndex P t x i w K = vcIndex P t x' i' w K := by rw [h2,h3]
@[congr] theorem bnd_congr {o o' : Option Value} {d d' hi hi' : Nat} {k : Nat → Prop} (h : o = o') (h2 : d = d') (h3 : hi = hi') : bnd o d hi k = bnd o' d' hi' k := by rw [h,h2,h3]
@[congr] theorem vcSlice_congr {t : TypeId} {x x' : Value} {a a' b b' c c' : Option Value} {w : World} {K : Value → World → Prop} (h : x = x') (h1 : a = a') (h2 : b = b') (h3 : c = c') : vcSlice P t x a b c w K = vcSlice P t x' a' b' c' w K := by rw [h,h1,h2,h3]
@[congr] theorem withSz_congr {t : TypeId} {k : Nat → Prop} : withSz P t k = withSz P t k := rfl
@[congr] theorem RunV_congr {α : Type} {s : Sem α} {w : World} {K : α → World → Prop} : RunV P s w K = RunV P s w K := rfl
@[congr] theorem Pure1_congr {s : Sem Value} {w : World} {K : Value → World → Prop} : Pure1 P s w K = Pure1 P s w K := rfl
@[congr] theorem Gives_congr {f : FuncId} {a a' : Array Value} {w : World} {K : Value → World → Prop} (h : a = a') : Gives P f a w K = Gives P f a' w K := by rw [h]
@[congr] theorem vcCall_congr {c : Call} {t : TypeId} {σ : Regs} {w : World} {K : Value → World → Prop} : vcCall P c t σ w K = vcCall P c t σ w K := rfl
@[congr] theorem vcBuiltin_congr {b : Builtin} {ats : Array TypeId} {t : TypeId} {vs vs' : List Value} {w : World} {K : Value → World → Prop} (h : vs = vs') : vcBuiltin P b ats t vs w K = vcBuiltin P b ats t vs' w K := by rw [h]
@[congr] theorem vcLen_congr {ats : Array TypeId} {t : TypeId} {vs vs' : List Value} {w : World} {K : Value → World → Prop} (h : vs = vs') : vcLen P ats t vs w K = vcLen P ats t vs' w K := by rw [h]
end congr
/- CODE -/
structure Outs where
  ex : Nat → Regs → World → Prop
  rt : Regs → World → Prop
def post (n : Nat) (K : Regs → World → Prop) (X : Outs) : Exit → Act → World → Prop
  | .normal,a,w => ∃ σ,Known n σ a ∧ K σ w
  | .exit id,a,w => ∃ σ,Known n σ a ∧ X.ex id σ w
  | .ret,a,w => ∃ σ,Known n σ a ∧ X.rt σ w
  | _,_,_ => False
def W (P : Program) (n : Nat) (σ : Regs) (w : World) (c : Code) (K : Regs → World → Prop) (X : Outs) : Prop :=
  ∀ a,Known n σ a → c.wp P (post n K X) a w
section
variable {P : Program} {n : Nat} {σ : Regs} {w : World} {K : Regs → World → Prop} {X : Outs}
theorem W_skip (h : K σ w) : W P n σ w .skip K X := fun _ ha => wp_skip ⟨σ,ha,h⟩
theorem W_exit {id : Nat} (h : X.ex id σ w) : W P n σ w (.exit id) K X := fun _ ha => wp_exit ⟨σ,ha,h⟩
theorem W_ret (h : X.rt σ w) : W P n σ w .ret K X := fun _ ha => wp_ret ⟨σ,ha,h⟩
theorem W_seq {x y : Code} (h : W P n σ w x (fun σ' w' => W P n σ' w' y K X) X) : W P n σ w (.seq x y) K X := fun a ha =>
  wp_seq (wp_mono (h a ha) fun e a w q => by
    cases e <;> first
      | exact (let ⟨_,h1,h2⟩ := q; h2 _ h1)
      | exact q)
theorem W_seq_k {x y : Code} (h : ∀ K' : Regs → World → Prop,(∀ σ' w',W P n σ' w' y K X → K' σ' w') → W P n σ w x K' X) : W P n σ w (.seq x y) K X :=
  W_seq (h _ fun _ _ h => h)
theorem W_cond {c : Operand} {x y : Code} (h : on (evO σ c) fun v => match v with
      | .bool b => (b = true → W P n σ w x K X) ∧ (b = false → W P n σ w y K X)
      | _ => False) : W P n σ w (.cond c x y) K X := fun a ha => by
  obtain ⟨v,hv,h⟩ := on_spec h
  split at h
  case h_2 => exact h.elim
  rename_i b
  obtain ⟨h1,h0⟩ := h
  exact wp_cond_split (ha.ev hv) (fun e => h1 e a ha) (fun e => h0 e a ha)
theorem W_block {id : Nat} {c : Code} (h : W P n σ w c K { X with ex := fun i => if i = id then K else X.ex i }) : W P n σ w (.block id c) K X := fun a ha =>
  wp_block (wp_mono (h a ha) fun e a w q => by
    cases e with
    | exit i =>
      obtain ⟨σ',h1,h2⟩ := q
      simp only [Exit.inBlock]
      dsimp only at h2
      split at h2
      · rename_i e; rw [if_pos e]; exact ⟨σ',h1,h2⟩
      · rename_i e; rw [if_neg e]; exact ⟨σ',h1,h2⟩
    | _ => exact q)
theorem W_block_k {id : Nat} {c : Code} (h : ∀ K' : Regs → World → Prop,(∀ σ' w',K σ' w' → K' σ' w') → W P n σ w c K' { X with ex := fun i => if i = id then K' else X.ex i }) : W P n σ w (.block id c) K X :=
  W_block (h _ fun _ _ h => h)
theorem W_region (hn : n ≤ 1000000) {id : Nat} {ops : Array Oper} (h : Wk P n (vops ops) σ w K) : W P n σ w (.region id ops false) K X := fun a ha => by
  refine wp_region ?_
  have e := wpOps_eq_wpList (P := P) (ops := ops) (Q := post n K X) ops.toList 0 (by intro j; simp)
  rw [List.range_eq_range',show ops.size = ops.toList.length by simp,e]
  exact Wk_list hn (fun σ w a hk h => ⟨σ,hk,h⟩) ops.toList σ w a ha h
def WoI (P : Program) (ops : Array Oper) : List Oper → Regs → World → (Regs → World → Prop) → Prop
  | [],σ,w,K => K σ w
  | o :: r,σ,w,K => match (conv ops o).grd with
    | none => vcOp P o.op o.type σ w fun v w' => WoI P ops r (put σ o.dst v) w' K
    | some (g,want) => on (find σ g) fun gv => ∃ b,gdv gv b want ∧ (b = want → vcOp P o.op o.type σ w fun v w' => WoI P ops r (put σ o.dst v) w' K) ∧
        (b ≠ want → WoI P ops r (put σ o.dst undef) w K)
/- sealed: nothing looks into it by itself -/
noncomputable def WoPack : { f : Program → Array Oper → List Oper → Regs → World → (Regs → World → Prop) → Prop // f = WoI } := Classical.choice ⟨⟨WoI,rfl⟩⟩
noncomputable def Wo (P : Program) (ops : Array Oper) (l : List Oper) (σ : Regs) (w : World) (K : Regs → World → Prop) : Prop := WoPack.1 P ops l σ w K
theorem Wo_I (P : Program) (ops : Array Oper) (l : List Oper) (σ : Regs) (w : World) (K : Regs → World → Prop) : Wo P ops l σ w K = WoI P ops l σ w K := by
  unfold Wo; rw [WoPack.2]
def dLt (n : Nat) (o : Oper) : Bool :=
  match o.dst with
  | some t => Nat.blt t n
  | none => true
theorem dLt_spec {n : Nat} {o : Oper} (h : dLt n o = true) : dOk n o.dst := by
  unfold dLt at h
  unfold dOk
  split at h
  · rename_i t ht; rw [ht]; exact Nat.le_of_ble_eq_true h
  · rename_i ht; rw [ht]; exact trivial
theorem Wo_eq {P : Program} {n : Nat} {ops : Array Oper} {K : Regs → World → Prop} : ∀ (l : List Oper) (σ : Regs) (w : World), l.all (dLt n) = true → Wk P n (l.map (conv ops)) σ w K = Wo P ops l σ w K
  | [],_,_,_ => by rw [Wo_I]; rfl
  | o :: r,σ,w,hd => by
    simp only [List.all_cons,Bool.and_eq_true] at hd
    have ih := fun σ w => Wo_eq (P := P) (ops := ops) (K := K) r σ w hd.2
    have h0 : dOk n (conv ops o).dst := dLt_spec hd.1
    simp only [Wo_I] at ih ⊢
    simp only [List.map_cons,Wk,WoI,ih,h0,true_and]
    rfl
def gtmp (ops : Array Oper) (j : Nat) : Option Nat := (ops[j]?).bind (·.dst)
theorem Wo_nil (ops : Array Oper) : Wo P ops [] σ w K = K σ w := by simp only [Wo_I,WoI]
theorem Wo_plain (ops : Array Oper) (d : Option Nat) (op : Op) (t : TypeId) (p : String) (a : Array Edge) (r : List Oper) :
    Wo P ops (⟨d,op,t,p,a,none⟩ :: r) σ w K = (vcOp P op t σ w fun v w' => Wo P ops r (put σ d v) w' K) := by simp only [Wo_I,WoI,conv]
theorem conv_some {ops : Array Oper} {d : Option Nat} {op : Op} {t : TypeId} {p : String} {a : Array Edge} {j g : Nat} {b : Bool} (h : gtmp ops j = some g) :
    conv ops ⟨d,op,t,p,a,some (j,b)⟩ = ⟨d,op,t,some (g,b)⟩ := by
  unfold gtmp at h
  simp [conv,h]
theorem Wo_on (ops : Array Oper) (d : Option Nat) (op : Op) (t : TypeId) (p : String) (a : Array Edge) (j g : Nat) (b : Bool) (r : List Oper) (h : gtmp ops j = some g) (h2 : find σ g = some (.bool b)) :
    Wo P ops (⟨d,op,t,p,a,some (j,b)⟩ :: r) σ w K = (vcOp P op t σ w fun v w' => Wo P ops r (put σ d v) w' K) := by
  simp [Wo_I,WoI,conv_some h,h2,on,gdv,undef]
theorem Wo_off (ops : Array Oper) (d : Option Nat) (op : Op) (t : TypeId) (p : String) (a : Array Edge) (j g : Nat) (b : Bool) (r : List Oper) (h : gtmp ops j = some g) (h2 : find σ g = some (.bool (!b))) :
    Wo P ops (⟨d,op,t,p,a,some (j,b)⟩ :: r) σ w K = Wo P ops r (put σ d undef) w K := by
  cases b <;> simp [Wo_I,WoI,conv_some h,h2,on,gdv,undef]
theorem Wo_skip (ops : Array Oper) (d : Option Nat) (op : Op) (t : TypeId) (p : String) (a : Array Edge) (j g : Nat) (b : Bool) (r : List Oper) (h : gtmp ops j = some g) (h2 : find σ g = some (.tuple #[])) :
    Wo P ops (⟨d,op,t,p,a,some (j,b)⟩ :: r) σ w K = Wo P ops r (put σ d undef) w K := by
  cases b <;> simp [Wo_I,WoI,conv_some h,h2,on,gdv,undef]
theorem W_id {id : Nat} {ops : Array Oper} {b : Bool} (h : W P n σ w (.region id ops b) K X) : W P n σ w (.region id ops b) K X := h
theorem W_reg (hn : n ≤ 1000000) {id : Nat} {l : List Oper} (hd : l.all (dLt n) = true) (h : Wo P l.toArray l σ w K) : W P n σ w (.region id l.toArray false) K X :=
  W_region hn (by simp only [vops]; rw [Wo_eq l σ w hd]; exact h)
@[congr] theorem Wo_congr {ops : Array Oper} {l : List Oper} {σ' : Regs} (h : σ = σ') : Wo P ops l σ w K = Wo P ops l σ' w K := by rw [h]
@[congr] theorem only_congr {b b' : Bool} {k : Prop} (h : b = b') : only b k = only b' k := by rw [h]
@[congr] theorem gtmp_congr {ops : Array Oper} {j : Nat} : gtmp ops j = gtmp ops j := rfl
inductive St (P : Program) (n : Nat) (σ : Regs) (w : World) : Code → (Regs → World → Prop) → Outs → Prop
  | seq {x y : Code} {K : Regs → World → Prop} {X : Outs} (h : ∀ K' : Regs → World → Prop,(∀ σ' w',W P n σ' w' y K X → K' σ' w') → W P n σ w x K' X) : St P n σ w (.seq x y) K X
  | blk {id : Nat} {c : Code} {K : Regs → World → Prop} {X : Outs} (h : ∀ K' : Regs → World → Prop,(∀ σ' w',K σ' w' → K' σ' w') → W P n σ w c K' { X with ex := fun i => if i = id then K' else X.ex i }) : St P n σ w (.block id c) K X
  | skp {K : Regs → World → Prop} {X : Outs} (h : K σ w) : St P n σ w .skip K X
  | ret {K : Regs → World → Prop} {X : Outs} (h : X.rt σ w) : St P n σ w .ret K X
  | ext {id : Nat} {K : Regs → World → Prop} {X : Outs} (h : X.ex id σ w) : St P n σ w (.exit id) K X
  | cnd {c : Operand} {x y : Code} {K : Regs → World → Prop} {X : Outs} (h : on (evO σ c) fun v => match v with
      | .bool b => (b = true → W P n σ w x K X) ∧ (b = false → W P n σ w y K X)
      | _ => False) : St P n σ w (.cond c x y) K X
theorem W_st {c : Code} (h : St P n σ w c K X) : W P n σ w c K X := by
  cases h with
  | seq h => exact W_seq_k h
  | blk h => exact W_block_k h
  | skp h => exact W_skip h
  | ret h => exact W_ret h
  | ext h => exact W_exit h
  | cnd h => exact W_cond h
theorem W_rg {id : Nat} {l : List Oper} (h : Wo P l.toArray l σ w K) (hd : (Nat.ble n 1000000 && l.all (dLt n)) = true := by kernel_rfl) : W P n σ w (.region id l.toArray false) K X :=
  W_reg (Nat.le_of_ble_eq_true (Bool.and_eq_true _ _ ▸ hd).1) (Bool.and_eq_true _ _ ▸ hd).2 h
theorem W0 {p q : Prop} (h : q) (t : q → p := by intro  hq0; (repeat with_reducible intro K hK); (repeat first|(with_reducible first|(refine hK _ _ ?_;clear hK K)|refine ‹∀σ w,_→K σ w› _ _ ?_|(refine W_st ?_;constructor;try intro K hK))|((with_reducible first|refine hZ _ _ ?_|refine W_rg ?_|skip);repeat1' simp only[push_cast,seval,-Nat.reduceSubDiff])|((repeat((fail_if_success with_reducible refine hK _ _ ?_);clear hK K));with_reducible refine hK _ _ ?_;clear hK K)); (repeat revert hK K); exact hq0) : p := t  h
theorem W1 {p q : Prop} {F0 : Prop} (f0 : F0) (h : q) (t : F0 → q → p := by intro f0 hq0; (repeat with_reducible intro K hK); (repeat first|(with_reducible first|(refine hK _ _ ?_;clear hK K)|refine ‹∀σ w,_→K σ w› _ _ ?_|(refine W_st ?_;constructor;try intro K hK))|((with_reducible first|refine hZ _ _ ?_|refine W_rg ?_|skip);repeat1' simp only[push_cast,seval,-Nat.reduceSubDiff,f0])|((repeat((fail_if_success with_reducible refine hK _ _ ?_);clear hK K));with_reducible refine hK _ _ ?_;clear hK K)); (repeat revert hK K); exact hq0) : p := t f0 h
theorem W2 {p q : Prop} {F0 F1 : Prop} (f0 : F0) (f1 : F1) (h : q) (t : F0 → F1 → q → p := by intro f0 f1 hq0; (repeat with_reducible intro K hK); (repeat first|(with_reducible first|(refine hK _ _ ?_;clear hK K)|refine ‹∀σ w,_→K σ w› _ _ ?_|(refine W_st ?_;constructor;try intro K hK))|((with_reducible first|refine hZ _ _ ?_|refine W_rg ?_|skip);repeat1' simp only[push_cast,seval,-Nat.reduceSubDiff,f0,f1])|((repeat((fail_if_success with_reducible refine hK _ _ ?_);clear hK K));with_reducible refine hK _ _ ?_;clear hK K)); (repeat revert hK K); exact hq0) : p := t f0 f1 h
theorem W3 {p q : Prop} {F0 F1 F2 : Prop} (f0 : F0) (f1 : F1) (f2 : F2) (h : q) (t : F0 → F1 → F2 → q → p := by intro f0 f1 f2 hq0; (repeat with_reducible intro K hK); (repeat first|(with_reducible first|(refine hK _ _ ?_;clear hK K)|refine ‹∀σ w,_→K σ w› _ _ ?_|(refine W_st ?_;constructor;try intro K hK))|((with_reducible first|refine hZ _ _ ?_|refine W_rg ?_|skip);repeat1' simp only[push_cast,seval,-Nat.reduceSubDiff,f0,f1,f2])|((repeat((fail_if_success with_reducible refine hK _ _ ?_);clear hK K));with_reducible refine hK _ _ ?_;clear hK K)); (repeat revert hK K); exact hq0) : p := t f0 f1 f2 h
theorem W4 {p q : Prop} {F0 F1 F2 F3 : Prop} (f0 : F0) (f1 : F1) (f2 : F2) (f3 : F3) (h : q) (t : F0 → F1 → F2 → F3 → q → p := by intro f0 f1 f2 f3 hq0; (repeat with_reducible intro K hK); (repeat first|(with_reducible first|(refine hK _ _ ?_;clear hK K)|refine ‹∀σ w,_→K σ w› _ _ ?_|(refine W_st ?_;constructor;try intro K hK))|((with_reducible first|refine hZ _ _ ?_|refine W_rg ?_|skip);repeat1' simp only[push_cast,seval,-Nat.reduceSubDiff,f0,f1,f2,f3])|((repeat((fail_if_success with_reducible refine hK _ _ ?_);clear hK K));with_reducible refine hK _ _ ?_;clear hK K)); (repeat revert hK K); exact hq0) : p := t f0 f1 f2 f3 h
theorem W5 {p q : Prop} {F0 F1 F2 F3 F4 : Prop} (f0 : F0) (f1 : F1) (f2 : F2) (f3 : F3) (f4 : F4) (h : q) (t : F0 → F1 → F2 → F3 → F4 → q → p := by intro f0 f1 f2 f3 f4 hq0; (repeat with_reducible intro K hK); (repeat first|(with_reducible first|(refine hK _ _ ?_;clear hK K)|refine ‹∀σ w,_→K σ w› _ _ ?_|(refine W_st ?_;constructor;try intro K hK))|((with_reducible first|refine hZ _ _ ?_|refine W_rg ?_|skip);repeat1' simp only[push_cast,seval,-Nat.reduceSubDiff,f0,f1,f2,f3,f4])|((repeat((fail_if_success with_reducible refine hK _ _ ?_);clear hK K));with_reducible refine hK _ _ ?_;clear hK K)); (repeat revert hK K); exact hq0) : p := t f0 f1 f2 f3 f4 h
theorem W6 {p q : Prop} {F0 F1 F2 F3 F4 F5 : Prop} (f0 : F0) (f1 : F1) (f2 : F2) (f3 : F3) (f4 : F4) (f5 : F5) (h : q) (t : F0 → F1 → F2 → F3 → F4 → F5 → q → p := by intro f0 f1 f2 f3 f4 f5 hq0; (repeat with_reducible intro K hK); (repeat first|(with_reducible first|(refine hK _ _ ?_;clear hK K)|refine ‹∀σ w,_→K σ w› _ _ ?_|(refine W_st ?_;constructor;try intro K hK))|((with_reducible first|refine hZ _ _ ?_|refine W_rg ?_|skip);repeat1' simp only[push_cast,seval,-Nat.reduceSubDiff,f0,f1,f2,f3,f4,f5])|((repeat((fail_if_success with_reducible refine hK _ _ ?_);clear hK K));with_reducible refine hK _ _ ?_;clear hK K)); (repeat revert hK K); exact hq0) : p := t f0 f1 f2 f3 f4 f5 h
theorem W7 {p q : Prop} {F0 F1 F2 F3 F4 F5 F6 : Prop} (f0 : F0) (f1 : F1) (f2 : F2) (f3 : F3) (f4 : F4) (f5 : F5) (f6 : F6) (h : q) (t : F0 → F1 → F2 → F3 → F4 → F5 → F6 → q → p := by intro f0 f1 f2 f3 f4 f5 f6 hq0; (repeat with_reducible intro K hK); (repeat first|(with_reducible first|(refine hK _ _ ?_;clear hK K)|refine ‹∀σ w,_→K σ w› _ _ ?_|(refine W_st ?_;constructor;try intro K hK))|((with_reducible first|refine hZ _ _ ?_|refine W_rg ?_|skip);repeat1' simp only[push_cast,seval,-Nat.reduceSubDiff,f0,f1,f2,f3,f4,f5,f6])|((repeat((fail_if_success with_reducible refine hK _ _ ?_);clear hK K));with_reducible refine hK _ _ ?_;clear hK K)); (repeat revert hK K); exact hq0) : p := t f0 f1 f2 f3 f4 f5 f6 h
theorem W8 {p q : Prop} {F0 F1 F2 F3 F4 F5 F6 F7 : Prop} (f0 : F0) (f1 : F1) (f2 : F2) (f3 : F3) (f4 : F4) (f5 : F5) (f6 : F6) (f7 : F7) (h : q) (t : F0 → F1 → F2 → F3 → F4 → F5 → F6 → F7 → q → p := by intro f0 f1 f2 f3 f4 f5 f6 f7 hq0; (repeat with_reducible intro K hK); (repeat first|(with_reducible first|(refine hK _ _ ?_;clear hK K)|refine ‹∀σ w,_→K σ w› _ _ ?_|(refine W_st ?_;constructor;try intro K hK))|((with_reducible first|refine hZ _ _ ?_|refine W_rg ?_|skip);repeat1' simp only[push_cast,seval,-Nat.reduceSubDiff,f0,f1,f2,f3,f4,f5,f6,f7])|((repeat((fail_if_success with_reducible refine hK _ _ ?_);clear hK K));with_reducible refine hK _ _ ?_;clear hK K)); (repeat revert hK K); exact hq0) : p := t f0 f1 f2 f3 f4 f5 f6 f7 h
theorem Wc1 {p q : Prop} {F0 : Prop} (f0 : F0) (h : q) (t : F0 → q → p := by intro f0 hq0; (repeat with_reducible intro K hK); (repeat first|(with_reducible first|(refine hK _ _ ?_;clear hK K)|refine ‹∀σ w,_→K σ w› _ _ ?_|(refine W_st ?_;constructor;try intro K hK))|((with_reducible first|refine hZ _ _ ?_|refine W_rg ?_|skip);repeat1' simp only[push_cast,seval,-Nat.reduceSubDiff,cell_h,cellO_cells,f0])|((repeat((fail_if_success with_reducible refine hK _ _ ?_);clear hK K));with_reducible refine hK _ _ ?_;clear hK K)); (repeat revert hK K); exact hq0) : p := t f0 h
theorem Wc2 {p q : Prop} {F0 F1 : Prop} (f0 : F0) (f1 : F1) (h : q) (t : F0 → F1 → q → p := by intro f0 f1 hq0; (repeat with_reducible intro K hK); (repeat first|(with_reducible first|(refine hK _ _ ?_;clear hK K)|refine ‹∀σ w,_→K σ w› _ _ ?_|(refine W_st ?_;constructor;try intro K hK))|((with_reducible first|refine hZ _ _ ?_|refine W_rg ?_|skip);repeat1' simp only[push_cast,seval,-Nat.reduceSubDiff,cell_h,cellO_cells,f0,f1])|((repeat((fail_if_success with_reducible refine hK _ _ ?_);clear hK K));with_reducible refine hK _ _ ?_;clear hK K)); (repeat revert hK K); exact hq0) : p := t f0 f1 h
theorem Wc3 {p q : Prop} {F0 F1 F2 : Prop} (f0 : F0) (f1 : F1) (f2 : F2) (h : q) (t : F0 → F1 → F2 → q → p := by intro f0 f1 f2 hq0; (repeat with_reducible intro K hK); (repeat first|(with_reducible first|(refine hK _ _ ?_;clear hK K)|refine ‹∀σ w,_→K σ w› _ _ ?_|(refine W_st ?_;constructor;try intro K hK))|((with_reducible first|refine hZ _ _ ?_|refine W_rg ?_|skip);repeat1' simp only[push_cast,seval,-Nat.reduceSubDiff,cell_h,cellO_cells,f0,f1,f2])|((repeat((fail_if_success with_reducible refine hK _ _ ?_);clear hK K));with_reducible refine hK _ _ ?_;clear hK K)); (repeat revert hK K); exact hq0) : p := t f0 f1 f2 h
theorem Wc4 {p q : Prop} {F0 F1 F2 F3 : Prop} (f0 : F0) (f1 : F1) (f2 : F2) (f3 : F3) (h : q) (t : F0 → F1 → F2 → F3 → q → p := by intro f0 f1 f2 f3 hq0; (repeat with_reducible intro K hK); (repeat first|(with_reducible first|(refine hK _ _ ?_;clear hK K)|refine ‹∀σ w,_→K σ w› _ _ ?_|(refine W_st ?_;constructor;try intro K hK))|((with_reducible first|refine hZ _ _ ?_|refine W_rg ?_|skip);repeat1' simp only[push_cast,seval,-Nat.reduceSubDiff,cell_h,cellO_cells,f0,f1,f2,f3])|((repeat((fail_if_success with_reducible refine hK _ _ ?_);clear hK K));with_reducible refine hK _ _ ?_;clear hK K)); (repeat revert hK K); exact hq0) : p := t f0 f1 f2 f3 h
theorem Wc5 {p q : Prop} {F0 F1 F2 F3 F4 : Prop} (f0 : F0) (f1 : F1) (f2 : F2) (f3 : F3) (f4 : F4) (h : q) (t : F0 → F1 → F2 → F3 → F4 → q → p := by intro f0 f1 f2 f3 f4 hq0; (repeat with_reducible intro K hK); (repeat first|(with_reducible first|(refine hK _ _ ?_;clear hK K)|refine ‹∀σ w,_→K σ w› _ _ ?_|(refine W_st ?_;constructor;try intro K hK))|((with_reducible first|refine hZ _ _ ?_|refine W_rg ?_|skip);repeat1' simp only[push_cast,seval,-Nat.reduceSubDiff,cell_h,cellO_cells,f0,f1,f2,f3,f4])|((repeat((fail_if_success with_reducible refine hK _ _ ?_);clear hK K));with_reducible refine hK _ _ ?_;clear hK K)); (repeat revert hK K); exact hq0) : p := t f0 f1 f2 f3 f4 h
theorem Wc6 {p q : Prop} {F0 F1 F2 F3 F4 F5 : Prop} (f0 : F0) (f1 : F1) (f2 : F2) (f3 : F3) (f4 : F4) (f5 : F5) (h : q) (t : F0 → F1 → F2 → F3 → F4 → F5 → q → p := by intro f0 f1 f2 f3 f4 f5 hq0; (repeat with_reducible intro K hK); (repeat first|(with_reducible first|(refine hK _ _ ?_;clear hK K)|refine ‹∀σ w,_→K σ w› _ _ ?_|(refine W_st ?_;constructor;try intro K hK))|((with_reducible first|refine hZ _ _ ?_|refine W_rg ?_|skip);repeat1' simp only[push_cast,seval,-Nat.reduceSubDiff,cell_h,cellO_cells,f0,f1,f2,f3,f4,f5])|((repeat((fail_if_success with_reducible refine hK _ _ ?_);clear hK K));with_reducible refine hK _ _ ?_;clear hK K)); (repeat revert hK K); exact hq0) : p := t f0 f1 f2 f3 f4 f5 h
theorem Wc7 {p q : Prop} {F0 F1 F2 F3 F4 F5 F6 : Prop} (f0 : F0) (f1 : F1) (f2 : F2) (f3 : F3) (f4 : F4) (f5 : F5) (f6 : F6) (h : q) (t : F0 → F1 → F2 → F3 → F4 → F5 → F6 → q → p := by intro f0 f1 f2 f3 f4 f5 f6 hq0; (repeat with_reducible intro K hK); (repeat first|(with_reducible first|(refine hK _ _ ?_;clear hK K)|refine ‹∀σ w,_→K σ w› _ _ ?_|(refine W_st ?_;constructor;try intro K hK))|((with_reducible first|refine hZ _ _ ?_|refine W_rg ?_|skip);repeat1' simp only[push_cast,seval,-Nat.reduceSubDiff,cell_h,cellO_cells,f0,f1,f2,f3,f4,f5,f6])|((repeat((fail_if_success with_reducible refine hK _ _ ?_);clear hK K));with_reducible refine hK _ _ ?_;clear hK K)); (repeat revert hK K); exact hq0) : p := t f0 f1 f2 f3 f4 f5 f6 h
theorem Wc8 {p q : Prop} {F0 F1 F2 F3 F4 F5 F6 F7 : Prop} (f0 : F0) (f1 : F1) (f2 : F2) (f3 : F3) (f4 : F4) (f5 : F5) (f6 : F6) (f7 : F7) (h : q) (t : F0 → F1 → F2 → F3 → F4 → F5 → F6 → F7 → q → p := by intro f0 f1 f2 f3 f4 f5 f6 f7 hq0; (repeat with_reducible intro K hK); (repeat first|(with_reducible first|(refine hK _ _ ?_;clear hK K)|refine ‹∀σ w,_→K σ w› _ _ ?_|(refine W_st ?_;constructor;try intro K hK))|((with_reducible first|refine hZ _ _ ?_|refine W_rg ?_|skip);repeat1' simp only[push_cast,seval,-Nat.reduceSubDiff,cell_h,cellO_cells,f0,f1,f2,f3,f4,f5,f6,f7])|((repeat((fail_if_success with_reducible refine hK _ _ ?_);clear hK K));with_reducible refine hK _ _ ?_;clear hK K)); (repeat revert hK K); exact hq0) : p := t f0 f1 f2 f3 f4 f5 f6 f7 h
theorem Wd2 {p q : Prop} {F0 F1 : Prop} (f0 : F0) (f1 : F1) (h : q) (t : F0 → F1 → q → p := by intro f0 f1 hq0; (repeat with_reducible intro K hK); (repeat first|(with_reducible first|(refine hK _ _ ?_;clear hK K)|refine ‹∀σ w,_→K σ w› _ _ ?_|(refine W_st ?_;constructor;try intro K hK))|((with_reducible first|refine hZ _ _ ?_|refine W_rg ?_|skip);repeat1' simp only[push_cast,seval,-Nat.reduceSubDiff,cell_h,cellO_cells,eq_self,f0,f1])|((repeat((fail_if_success with_reducible refine hK _ _ ?_);clear hK K));with_reducible refine hK _ _ ?_;clear hK K)); (repeat revert hK K); exact hq0) : p := t f0 f1 h
theorem Wd4 {p q : Prop} {F0 F1 F2 F3 : Prop} (f0 : F0) (f1 : F1) (f2 : F2) (f3 : F3) (h : q) (t : F0 → F1 → F2 → F3 → q → p := by intro f0 f1 f2 f3 hq0; (repeat with_reducible intro K hK); (repeat first|(with_reducible first|(refine hK _ _ ?_;clear hK K)|refine ‹∀σ w,_→K σ w› _ _ ?_|(refine W_st ?_;constructor;try intro K hK))|((with_reducible first|refine hZ _ _ ?_|refine W_rg ?_|skip);repeat1' simp only[push_cast,seval,-Nat.reduceSubDiff,cell_h,cellO_cells,eq_self,f0,f1,f2,f3])|((repeat((fail_if_success with_reducible refine hK _ _ ?_);clear hK K));with_reducible refine hK _ _ ?_;clear hK K)); (repeat revert hK K); exact hq0) : p := t f0 f1 f2 f3 h
theorem Wd6 {p q : Prop} {F0 F1 F2 F3 F4 F5 : Prop} (f0 : F0) (f1 : F1) (f2 : F2) (f3 : F3) (f4 : F4) (f5 : F5) (h : q) (t : F0 → F1 → F2 → F3 → F4 → F5 → q → p := by intro f0 f1 f2 f3 f4 f5 hq0; (repeat with_reducible intro K hK); (repeat first|(with_reducible first|(refine hK _ _ ?_;clear hK K)|refine ‹∀σ w,_→K σ w› _ _ ?_|(refine W_st ?_;constructor;try intro K hK))|((with_reducible first|refine hZ _ _ ?_|refine W_rg ?_|skip);repeat1' simp only[push_cast,seval,-Nat.reduceSubDiff,cell_h,cellO_cells,eq_self,f0,f1,f2,f3,f4,f5])|((repeat((fail_if_success with_reducible refine hK _ _ ?_);clear hK K));with_reducible refine hK _ _ ?_;clear hK K)); (repeat revert hK K); exact hq0) : p := t f0 f1 f2 f3 f4 f5 h
theorem Wd7 {p q : Prop} {F0 F1 F2 F3 F4 F5 F6 : Prop} (f0 : F0) (f1 : F1) (f2 : F2) (f3 : F3) (f4 : F4) (f5 : F5) (f6 : F6) (h : q) (t : F0 → F1 → F2 → F3 → F4 → F5 → F6 → q → p := by intro f0 f1 f2 f3 f4 f5 f6 hq0; (repeat with_reducible intro K hK); (repeat first|(with_reducible first|(refine hK _ _ ?_;clear hK K)|refine ‹∀σ w,_→K σ w› _ _ ?_|(refine W_st ?_;constructor;try intro K hK))|((with_reducible first|refine hZ _ _ ?_|refine W_rg ?_|skip);repeat1' simp only[push_cast,seval,-Nat.reduceSubDiff,cell_h,cellO_cells,eq_self,f0,f1,f2,f3,f4,f5,f6])|((repeat((fail_if_success with_reducible refine hK _ _ ?_);clear hK K));with_reducible refine hK _ _ ?_;clear hK K)); (repeat revert hK K); exact hq0) : p := t f0 f1 f2 f3 f4 f5 f6 h
def Sub : Regs → Regs → Prop
  | [],_ => True
  | (t,v) :: r,σ => on (find σ t) (fun u => u = v) ∧ Sub r σ
theorem Sub.find : ∀ {τ σ : Regs}, Sub τ σ → ∀ t v, find τ t = some v → find σ t = some v
  | [],_,_,t,v,h => by cases h
  | (i,u) :: r,σ,hs,t,v,h => by
    obtain ⟨h1,h2⟩ := hs
    simp only [Vk.find] at h
    split at h
    · rename_i e; subst e; cases h
      obtain ⟨x,hx,rfl⟩ := on_spec h1
      exact hx
    · exact h2.find t v h
theorem Known.sub {τ : Regs} {a : Act} (h : Known n σ a) (hs : Sub τ σ) : Known n τ a := ⟨h.defers,h.size,fun t v hv => h.reg t v (hs.find t v hv)⟩
theorem W.sub {τ : Regs} {c : Code} (h : W P n τ w c K X) (hs : Sub τ σ) : W P n σ w c K X := fun a ha => h a (ha.sub hs)
theorem W_loop {S : Type} (st : S → Regs) (inv : S → World → Prop) (μ : S → Nat) (s₀ : S) {c : Code} (h₁ : Sub (st s₀) σ) (h₀ : inv s₀ w)
    (round : ∀ s w,inv s w → W P n (st s) w c (fun σ' w' => ∃ s',μ s' < μ s ∧ Sub (st s') σ' ∧ inv s' w') X) : W P n σ w (.loop c) K X := by
  intro a ha
  refine wp_loop_ghost (fun m a w => ∃ s,μ s = m ∧ Known n (st s) a ∧ inv s w) (μ s₀) ⟨s₀,rfl,ha.sub h₁,h₀⟩ ?_
  rintro m a w ⟨s,rfl,hk,hi⟩
  refine wp_mono (round s w hi a hk) fun e a w q => ?_
  cases e <;> first
    | exact (let ⟨_,h1,s',h2,h3,h4⟩ := q; ⟨_,h2,s',rfl,h1.sub h3,h4⟩)
    | exact q
end
/- A FUNCTION -/
def resL (P : Program) (σ : Regs) (w : World) : List ResultVar → (List Value → Prop) → Prop
  | [],k => k []
  | .tmp t :: r,k => on (find σ t) fun v => resL P σ w r fun vs => k (v :: vs)
  | .cell t ty :: r,k => on (find σ t) fun p => vcLoad P ty p w fun v _ => resL P σ w r fun vs => k (v :: vs)
def resV : List Value → Value
  | [v] => v
  | vs => .tuple vs.toArray
def resOne (tmps : Array Value) : ResultVar → Sem Value
  | .tmp t => pure (tmps.getD t undef)
  | .cell a t => do loadVar t (← asAddr (tmps.getD a undef))
theorem resL_spec {P : Program} {n : Nat} {σ : Regs} {w : World} {a : Act} (hk : Known n σ a) : ∀ (l : List ResultVar) (k : List Value → Prop),resL P σ w l k →
    ∃ vs,(l.mapM (resOne a.tmps)).run P w = .ok vs w ∧ k vs
  | [],k,h => ⟨[],rfl,h⟩
  | .tmp t :: r,k,h => by
    obtain ⟨v,hv,h⟩ := on_spec h
    obtain ⟨vs,hr,hkk⟩ := resL_spec hk r _ h
    refine ⟨v :: vs,?_,hkk⟩
    have ht : a.tmps.getD t undef = v := by simp [hk.reg t v hv]
    simp only [List.mapM_cons,resOne,ht,Sem.run_bind,Sem.run_pure,Result.andThen_ok,hr]
  | .cell t ty :: r,k,h => by
    obtain ⟨p,hp,h⟩ := on_spec h
    have hpt : ∃ b,p = .pointer (some b) := by
      unfold vcLoad at h
      split at h
      · exact ⟨_,rfl⟩
      · exact h.elim
    obtain ⟨b,rfl⟩ := hpt
    obtain ⟨v,h,hload⟩ := vcLoad_at h
    have ht : a.tmps.getD t undef = .pointer (some b) := by simp [hk.reg t _ hp]
    obtain ⟨v2,w2,hrun2,he⟩ := (vcLoad_spec (hload w rfl (fun u w' => u = v ∧ w' = w) ⟨rfl,rfl⟩)).spec
    obtain ⟨rfl,rfl⟩ := he
    have hrun' : (loadVar ty b).run P w2 = .ok v2 w2 := by simpa [Instr.loadAt,Instr.sureAddr] using hrun2
    obtain ⟨vs,hr,hkk⟩ := resL_spec hk r _ h
    refine ⟨v2 :: vs,?_,hkk⟩
    simp only [List.mapM_cons,resOne,ht,asAddr,Sem.run_bind,Sem.run_pure,Result.andThen_ok,hrun',hr]
theorem results_run {P : Program} {n : Nat} {σ : Regs} {w : World} {a : Act} (hk : Known n σ a) {fn : Func} {k : Value → Prop} (h : resL P σ w fn.results.toList fun vs => k (resV vs)) :
    ∃ v,(results fn a.tmps).run P w = .ok v w ∧ k v := by
  obtain ⟨vs,hr,hkk⟩ := resL_spec hk _ _ h
  refine ⟨resV vs,?_,hkk⟩
  have e : results fn a.tmps = (do let vs ← fn.results.mapM (resOne a.tmps); pure (if h : vs.size = 1 then vs[0] else .tuple vs)) := by
    unfold results
    exact congrArg (fun f : ResultVar → Sem Value => (do let vs ← fn.results.mapM f; pure (if h : vs.size = 1 then vs[0] else .tuple vs) : Sem Value)) (funext fun x => by cases x <;> rfl)
  rw [e,Array.mapM_eq_mapM_toList,Sem.run_bind]
  have hm : Sem.run P (List.toArray <$> (fn.results.toList.mapM (resOne a.tmps))) w = .ok vs.toArray w := by
    rw [map_eq_pure_bind,Sem.run_bind,hr]
    rfl
  rw [hm]
  simp only [Result.andThen_ok,Sem.run_pure]
  congr 1
  match vs with
  | [] => rfl
  | [v] => rfl
  | v :: u :: r => simp [resV]
def argR : Nat → List Value → Regs
  | _,[] => []
  | i,v :: r => (i,v) :: argR (i + 1) r
theorem argR_find : ∀ (l : List Value) (i t : Nat) (v : Value), find (argR i l) t = some v → i ≤ t ∧ l[t - i]? = some v
  | [],_,_,_,h => by cases h
  | u :: r,i,t,v,h => by
    simp only [argR,find] at h
    split at h
    · rename_i e; subst e; cases h; simp
    · rename_i e
      obtain ⟨h1,h2⟩ := argR_find r (i + 1) t v h
      refine ⟨by omega,?_⟩
      have : t - i = (t - (i + 1)) + 1 := by omega
      rw [this]; simpa using h2
theorem Gives.of_W {P : Program} {f : FuncId} {fn : Func} {c : Code} {args : Array Value} {w : World} {R : Value → World → Prop} {n : Nat} (he : Enters P f) (hf : P.funcs[f]? = some fn) (hb : fn.body = some c)
    (hn : fn.ntmps = n) (ha : args.size ≤ n) (h : ∀ Z : Regs → World → Prop,(∀ σ w',resL P σ w' fn.results.toList (fun vs => R (resV vs) w') → Z σ w') → W P n (argR 0 args.toList) w c Z ⟨fun _ _ _ => False,Z⟩) : Gives P f args w R := by
  refine .inl ⟨he,calls_of_wp hf hb ?_⟩
  let Z : Regs → World → Prop := fun σ w' => resL P σ w' fn.results.toList (fun vs => R (resV vs) w')
  have hk : Known n (argR 0 args.toList) { tmps := args ++ Array.replicate (fn.ntmps - args.size) undef,defers := [] } := by
    refine ⟨rfl,by simp; omega,fun t v hv => ?_⟩
    obtain ⟨_,h2⟩ := argR_find _ _ _ _ hv
    have hlt : t < args.size := by
      have := (List.getElem?_eq_some_iff.1 h2).1
      simpa using this
    rw [Array.getElem?_append_left hlt]
    simpa using h2
  refine wp_mono (h Z (fun _ _ h => h) _ hk) fun e a w' q => ?_
  cases e with
  | normal =>
    obtain ⟨σ,hk,hz⟩ := q
    obtain ⟨v,hr,hR⟩ := results_run (k := fun v => R v w') hk hz
    exact ⟨hk.defers,v,hr,v,rfl,hR⟩
  | ret =>
    obtain ⟨σ,hk,hz⟩ := q
    obtain ⟨v,hr,hR⟩ := results_run (k := fun v => R v w') hk hz
    exact ⟨hk.defers,v,hr,v,rfl,hR⟩
  | exit id => obtain ⟨_,_,h⟩ := q; exact h.elim
  | goto l => exact q.elim
  | panic ch => exact q.elim
  | outgrown => exact q.elim
/- A REGION THAT DRAWS ITS ORDER -/
def isIntT (P : Program) (t : TypeId) : Bool :=
  match P.underlying t with
  | some (.int _) => true
  | _ => false
def lenPure (P : Program) (c : Call) : Bool :=
  match c.callee,c.argTypes[0]?,c.args.size with
  | .builtin .len,some t,1 => match P.underlying t with
    | some .string | some (.slice _) | some (.array _ _) => true
    | _ => false
  | _,_,_ => false
def pureOp (P : Program) : Op → Bool
  | .move _ | .assign _ | .pick .. | .build .. | .nilCheck _ | .binOp .. | .unOp .. | .makeFunc .. | .makeInterface .. | .slice .. | .fieldAddr .. | .field .. | .indexAddr .. | .index .. | .extract .. => true
  | .convert s d _ => isIntT P s && isIntT P d
  | .call c => lenPure P c
  | _ => false
def still (P : Program) (op : Op) (ty : TypeId) (σ : Regs) (v : Value) : Prop := ∀ w',vcOp P op ty σ w' (fun u w'' => u = v ∧ w'' = w')
theorem bnd.and {o : Option Value} {d hi : Nat} {k : Nat → Prop} (h : bnd o d hi k) : ∃ n,k n ∧ ∀ k',k' n → bnd o d hi k' := by
  cases o with
  | none => exact ⟨_,h,fun _ h => h⟩
  | some v =>
    unfold bnd at h ⊢
    dsimp only at h ⊢
    split at h
    · exact ⟨_,h.2.2,fun k' hk => ⟨h.1,h.2.1,hk⟩⟩
    · exact h.elim
theorem withSz.and {P : Program} {t : TypeId} {k : Nat → Prop} (h : withSz P t k) : ∃ n,k n ∧ ∀ k',k' n → withSz P t k' := by
  unfold withSz at h ⊢
  split at h
  · rename_i n w hr; exact ⟨n,h,fun k' hk => hk⟩
  · exact h.elim
theorem vcBounds.and {len cap : Nat} {lo hi mx : Option Value} {k : Nat → Nat → Nat → Prop} (h : vcBounds len cap lo hi mx k) :
    ∃ a b c,k a b c ∧ ∀ k',k' a b c → vcBounds len cap lo hi mx k' := by
  unfold vcBounds at h ⊢
  split at h
  · exact h.elim
  · obtain ⟨m, h1, f1⟩ := bnd.and h
    obtain ⟨x,h2,f2⟩ := bnd.and h1
    obtain ⟨l,h3,f3⟩ := bnd.and h2
    exact ⟨l,x,m,h3,fun k' hk => f1 _ (f2 _ (f3 _ hk))⟩
theorem arith_and {k : IntKind} {n : Int} {w : World} {K : Value → World → Prop} (h : arith k n w K) : ∃ v,K v w ∧ ∀ w',arith k n w' (fun u w'' => u = v ∧ w'' = w') := by
  cases k <;> first
    | exact ⟨_,h,fun _ => ⟨rfl,rfl⟩⟩
    | exact ⟨_,h.2,fun _ => ⟨h.1,rfl,rfl⟩⟩
theorem vcInt_and {b : BinOp} {k : IntKind} {x y : Int} {w : World} {K : Value → World → Prop} (h : vcInt b k x y w K) : ∃ v,K v w ∧ ∀ w',vcInt b k x y w' (fun u w'' => u = v ∧ w'' = w') := by
  cases b
  case add => exact arith_and h
  case sub => exact arith_and h
  case mul => exact arith_and h
  case quo => exact (let ⟨v,h1,h2⟩ := arith_and h.2; ⟨v,h1,fun w' => ⟨h.1,h2 w'⟩⟩)
  case rem => exact ⟨_,h.2,fun _ => ⟨h.1,rfl,rfl⟩⟩
  case shl => exact ⟨_,h.2,fun _ => ⟨h.1,rfl,rfl⟩⟩
  case shr => exact ⟨_,h.2,fun _ => ⟨h.1,rfl,rfl⟩⟩
  all_goals exact ⟨_,h,fun _ => ⟨rfl,rfl⟩⟩
theorem Pure1.and {P : Program} {s : Sem Value} {w : World} {K : Value → World → Prop} (h : Pure1 P s w K) : ∃ v,K v w ∧ ∀ w',Pure1 P s w' (fun u w'' => u = v ∧ w'' = w') :=
  let ⟨v,h1,h2⟩ := h; ⟨v,h2,fun w' => ⟨v,h1,rfl,rfl⟩⟩
theorem vcBin_and {P : Program} {b : BinOp} {t : TypeId} {x y : Operand} {vx vy : Value} {w : World} {K : Value → World → Prop} (h : vcBin P b t x y vx vy w K) :
    ∃ v,K v w ∧ ∀ w',vcBin P b t x y vx vy w' (fun u w'' => u = v ∧ w'' = w') := by
  unfold vcBin at h ⊢
  split at h
  · split at h
    · exact vcInt_and h
    · exact vcInt_and h
    · obtain ⟨h0, h⟩ := only_spec h
      obtain ⟨v,h1,h2⟩ := vcInt_and h; exact ⟨v,h1,fun w' => only_mk ⟨h0,h2 w'⟩⟩
  · unfold vcStr at h ⊢
    split at h
    · exact ⟨_,h.2,fun _ => ⟨h.1,rfl,rfl⟩⟩
    · exact ⟨_,h,fun _ => ⟨rfl,rfl⟩⟩
    · exact ⟨_,h,fun _ => ⟨rfl,rfl⟩⟩
    · exact h.elim
  · split at h
    · exact ⟨_,(only_spec h).2,fun _ => only_mk ⟨(only_spec h).1,rfl,rfl⟩⟩
    · exact ⟨_,(only_spec h).2,fun _ => only_mk ⟨(only_spec h).1,rfl,rfl⟩⟩
    · exact h.elim
  · split at h
    · exact ⟨_,(only_spec h).2,fun _ => only_mk ⟨(only_spec h).1,rfl,rfl⟩⟩
    · exact ⟨_,(only_spec h).2,fun _ => only_mk ⟨(only_spec h).1,rfl,rfl⟩⟩
    · exact h.elim
  · split at h
    · exact ⟨_,(only_spec h).2,fun _ => only_mk ⟨(only_spec h).1,rfl,rfl⟩⟩
    · exact ⟨_,(only_spec h).2,fun _ => only_mk ⟨(only_spec h).1,rfl,rfl⟩⟩
    · exact h.elim
  · exact h.and
theorem onL_and {σ : Regs} : ∀ {l : List Operand} {k : List Value → Prop}, onL σ l k → ∃ vs, k vs ∧ ∀ k', k' vs → onL σ l k'
  | [],_,h => ⟨[],h,fun _ h => h⟩
  | x :: r,k,h => by
    obtain ⟨v,hv,h⟩ := on_spec h
    obtain ⟨vs,h1,h2⟩ := onL_and h
    exact ⟨v :: vs,h1,fun k' hk => by unfold onL; rw [hv]; exact h2 _ hk⟩
theorem onO_and {σ : Regs} {o : Option Operand} {k : Option Value → Prop} (h : onO σ o k) : ∃ v,k v ∧ ∀ k',k' v → onO σ o k' := by
  cases o with
  | none => exact ⟨none,h,fun _ h => h⟩
  | some x => obtain ⟨v,hv,h⟩ := on_spec h; exact ⟨some v,h,fun k' hk => by dsimp only [onO]; rw [hv]; exact hk⟩
theorem onP_and {σ : Regs} : ∀ {l : List (Nat × Operand)} {k : List (Nat × Value) → Prop}, onP σ l k → ∃ vs, k vs ∧ ∀ k', k' vs → onP σ l k'
  | [],_,h => ⟨[],h,fun _ h => h⟩
  | (i,x) :: r,k,h => by
    obtain ⟨v,hv,h⟩ := on_spec h
    obtain ⟨vs,h1,h2⟩ := onP_and h
    exact ⟨(i,v) :: vs,h1,fun k' hk => by unfold onP; rw [hv]; exact h2 _ hk⟩
set_option maxHeartbeats 1000000 in
theorem pure_still {P : Program} {op : Op} {ty : TypeId} {σ : Regs} {w : World} {K : Value → World → Prop} (hp : pureOp P op = true) (h : vcOp P op ty σ w K) :
    ∃ v,K v w ∧ still P op ty σ v := by
  unfold still
  cases op <;> simp only [pureOp,Bool.false_eq_true] at hp <;> dsimp only [vcOp] at h ⊢
  case move x => obtain ⟨v,hv,h⟩ := on_spec h; exact ⟨v,h,fun w' => by rw [hv]; exact ⟨rfl,rfl⟩⟩
  case assign x => obtain ⟨v,hv,h⟩ := on_spec h; exact ⟨v,h,fun w' => by rw [hv]; exact ⟨rfl,rfl⟩⟩
  case pick c x y =>
    obtain ⟨vc,hc,h⟩ := on_spec h
    obtain ⟨vx,hx,h⟩ := on_spec h
    obtain ⟨vy,hy,hh⟩ := on_spec h
    split at hh
    case h_2 => exact hh.elim
    exact ⟨_,hh,fun w' => by rw [hc,hx,hy]; exact ⟨rfl,rfl⟩⟩
  case build t ps =>
    obtain ⟨vs,h1,h2⟩ := onP_and h
    obtain ⟨v,h3,h4⟩ := h1.and
    exact ⟨v,h3,fun w' => h2 _ (h4 w')⟩
  case nilCheck x =>
    obtain ⟨v,hv,h⟩ := on_spec h
    unfold vcNil at h
    split at h
    · exact ⟨_,h,fun w' => by rw [hv]; exact ⟨rfl,rfl⟩⟩
    · exact ⟨_,h,fun w' => by rw [hv]; exact ⟨rfl,rfl⟩⟩
    · exact ⟨_,h,fun w' => by rw [hv]; exact ⟨rfl,rfl⟩⟩
    · exact h.elim
  case binOp b t x y z =>
    obtain ⟨vx,hx,h⟩ := on_spec h
    obtain ⟨vy,hy,h⟩ := on_spec h
    obtain ⟨v,h1,h2⟩ := vcBin_and h
    exact ⟨v,h1,fun w' => by rw [hx,hy]; exact h2 w'⟩
  case unOp u t x =>
    obtain ⟨v,hv,h⟩ := on_spec h
    unfold vcUn at h
    split at h
    · exact ⟨_,h,fun w' => by rw [hv]; exact ⟨rfl,rfl⟩⟩
    · obtain ⟨u,h1,h2⟩ := arith_and h; exact ⟨u,h1,fun w' => by rw [hv]; exact h2 w'⟩
    · exact ⟨_,h,fun w' => by rw [hv]; exact ⟨rfl,rfl⟩⟩
    · exact h.elim
  case convert s d x =>
    obtain ⟨v,hv,h⟩ := on_spec h
    simp only [Bool.and_eq_true,isIntT] at hp
    obtain ⟨hs,hd⟩ := hp
    unfold vcConv at h
    split at hs
    · rename_i k hk
      split at hd
      · rename_i j hj
        rw [hk,hj] at h
        cases v <;> first
          | exact h.elim
          | exact ⟨_,h,fun w' => by rw [hv]; dsimp only [on,vcConv]; rw [hk,hj]; exact ⟨rfl,rfl⟩⟩
      · cases hd
    · cases hs
  case makeFunc f x y =>
    obtain ⟨vx,h1,h2⟩ := onL_and h
    obtain ⟨vy,h3,h4⟩ := onL_and h1
    exact ⟨_,h3,fun w' => h2 _ (h4 _ ⟨rfl,rfl⟩)⟩
  case makeInterface t x =>
    obtain ⟨v,hv,h⟩ := on_spec h
    obtain ⟨u,h3,h4⟩ := h.and
    exact ⟨u,h3,fun w' => by rw [hv]; exact h4 w'⟩
  case slice t x lo hi mx =>
    obtain ⟨v,hv,h⟩ := on_spec h
    obtain ⟨vl,h1,f1⟩ := onO_and h
    obtain ⟨vh,h2,f2⟩ := onO_and h1
    obtain ⟨vm,h3,f3⟩ := onO_and h2
    have key : ∃ u,K u w ∧ ∀ w',vcSlice P t v vl vh vm w' (fun x w'' => x = u ∧ w'' = w') := by
      unfold vcSlice at h3 ⊢
      split at h3
      · obtain ⟨h0, h3⟩ := h3
        obtain ⟨a,b,c,h4,f4⟩ := vcBounds.and h3
        exact ⟨_,h4,fun w' => ⟨h0,f4 _ ⟨rfl,rfl⟩⟩⟩
      · obtain ⟨z, h4, f4⟩ := withSz.and h3
        obtain ⟨a,b,c,h5,f5⟩ := vcBounds.and h4
        exact ⟨_,h5,fun w' => f4 _ (f5 _ ⟨rfl,rfl⟩)⟩
      · obtain ⟨z, h4, f4⟩ := withSz.and h3
        obtain ⟨a,b,c,h5,f5⟩ := vcBounds.and h4
        exact ⟨_,h5,fun w' => f4 _ (f5 _ ⟨rfl,rfl⟩)⟩
      · exact h3.elim
    obtain ⟨u,h4,f4⟩ := key
    exact ⟨u,h4,fun w' => by rw [hv]; exact f1 (fun vl => onO σ hi fun vh => onO σ mx fun vm => vcSlice P t v vl vh vm w' _) (f2 (fun vh => onO σ mx fun vm => vcSlice P t v vl vh vm w' _) (f3 (fun vm => vcSlice P t v vl vh vm w' _) (f4 w')))⟩
  case fieldAddr s x f =>
    obtain ⟨v,hv,h⟩ := on_spec h
    have key : ∃ u,K u w ∧ ∀ w',vcField P s v f w' (fun x w'' => x = u ∧ w'' = w') := by
      unfold vcField at h ⊢
      split at h
      · split at h
        · obtain ⟨n, h01, f1⟩ := withSz.and h
          obtain ⟨h0,h1⟩ := only_spec h01
          split at h1
          case h_2 => exact h1.elim
          exact ⟨_,h1,fun w' => f1 _ (only_mk ⟨h0,rfl,rfl⟩)⟩
        · exact h.elim
      · exact h.elim
    obtain ⟨u,h4,f4⟩ := key
    exact ⟨u,h4,fun w' => by rw [hv]; exact f4 w'⟩
  case field t x f =>
    obtain ⟨v,hv,h⟩ := on_spec h
    obtain ⟨u,h3,h4⟩ := h.and
    exact ⟨u,h3,fun w' => by rw [hv]; exact h4 w'⟩
  case indexAddr t x y =>
    obtain ⟨vx,hx,h⟩ := on_spec h
    obtain ⟨vy,hy,h⟩ := on_spec h
    have key : ∃ u,K u w ∧ ∀ w',vcIndex P t vx vy w' (fun x w'' => x = u ∧ w'' = w') := by
      unfold vcIndex at h ⊢
      split at h
      case h_2 => exact h.elim
      generalize P.underlying t = d at h ⊢
      unfold vcIdx at h ⊢
      split at h
      · obtain ⟨s, ⟨h0, h1, hkk⟩, f1⟩ := withSz.and h
        exact ⟨_,hkk,fun w' => f1 _ ⟨h0,h1,rfl,rfl⟩⟩
      · exact h.elim
      · obtain ⟨s, ⟨h0, h1, hkk⟩, f1⟩ := withSz.and h
        exact ⟨_,hkk,fun w' => f1 _ ⟨h0,h1,rfl,rfl⟩⟩
      · exact h.elim
    obtain ⟨u,h4,f4⟩ := key
    exact ⟨u,h4,fun w' => by rw [hx,hy]; exact f4 w'⟩
  case index t x y =>
    obtain ⟨vx,hx,h⟩ := on_spec h
    obtain ⟨vy,hy,h⟩ := on_spec h
    obtain ⟨u,h3,h4⟩ := h.and
    exact ⟨u,h3,fun w' => by rw [hx,hy]; exact h4 w'⟩
  case extract x i =>
    obtain ⟨v,hv,h⟩ := on_spec h
    obtain ⟨u,h3,h4⟩ := h.and
    exact ⟨u,h3,fun w' => by rw [hv]; exact h4 w'⟩
  case call c =>
    obtain ⟨callee,args,ats⟩ := c
    cases callee with
    | value f => simp [lenPure] at hp
    | invoke r m => simp [lenPure] at hp
    | builtin b =>
      cases b <;> try (simp [lenPure] at hp; done)
      dsimp only [vcCall,vcBuiltin] at h ⊢
      obtain ⟨vs,h1,f1⟩ := onL_and h
      have key : ∃ u,K u w ∧ ∀ w',vcLen P ats ty vs w' (fun x w'' => x = u ∧ w'' = w') := by
        simp only [lenPure] at hp
        split at hp
        · rename_i t hc ht hs
          unfold vcLen at h1 ⊢
          have ht' : ats[0]? = some t := ht
          rw [ht'] at h1 ⊢
          match vs,h1 with
          | [],h1 => exact h1.elim
          | _ :: _ :: _,h1 => exact h1.elim
          | [v],h1 =>
            dsimp only at h1 ⊢
            generalize P.underlying t = d at hp h1 ⊢
            cases d with
            | none => cases hp
            | some d =>
              cases d <;> dsimp only at hp h1 ⊢ <;> try (cases hp; done)
              case string =>
                cases v <;> first
                  | exact h1.elim
                  | exact ⟨_,h1,fun _ => ⟨rfl,rfl⟩⟩
              case slice =>
                cases v <;> first
                  | exact h1.elim
                  | exact ⟨_,h1,fun _ => ⟨rfl,rfl⟩⟩
              case array => exact ⟨_,h1,fun _ => ⟨rfl,rfl⟩⟩
        · cases hp
      obtain ⟨u,h4,f4⟩ := key
      exact ⟨u,h4,fun w' => f1 _ (f4 w')⟩
section
variable {P : Program} {ops : Array Oper} {Q : Exit → Act → World → Prop} {md : Region.Mode} {S : World → Prop} {ex : Nat → Bool}
def wpAnyE (P : Program) (md : Region.Mode) (ops : Array Oper) (Q : Exit → Act → World → Prop) (S : World → Prop) (ex : Nat → Bool) : Nat → Array Bool → Act → World → Prop
  | 0,listed,a,w => Region.ready md ops listed = [] ∧ Q .normal a w
  | fuel + 1,listed,a,w =>
    (Region.ready md ops listed = [] → Q .normal a w) ∧
    ∀ i ∈ Region.ready md ops listed,wpOp P ops Q i (fun a' w' => (ex i = false → S w') ∧ wpAnyE P md ops Q S ex fuel (listed.setIfInBounds i true) a' w') a w
theorem wpAny_of_E : ∀ (fuel : Nat) (listed : Array Bool) (a : Act) (w : World), wpAnyE P md ops Q S ex fuel listed a w → wpAny P md ops Q fuel listed a w
  | 0,_,_,_,h => h
  | fuel + 1,_,_,_,h => ⟨h.1,fun i hi => wpOp_mono (fun a' w' h' => wpAny_of_E fuel _ a' w' h'.2) (h.2 i hi)⟩
def waits (md : Region.Mode) (ops : Array Oper) (j k : Nat) : Bool :=
  match ops[j]? with
  | some oj => oj.after.any fun e => Region.binds md e && e.on == k
  | none => false
theorem waits_spec {j k : Nat} (h : waits md ops j k = true) {oj : Oper} (hj : ops[j]? = some oj) : ∃ e ∈ oj.after,Region.binds md e = true ∧ e.on = k := by
  unfold waits at h
  simp only [hj] at h
  obtain ⟨e,he,hb⟩ := Array.any_eq_true'.1 h
  simp only [Bool.and_eq_true,beq_iff_eq] at hb
  exact ⟨e,he,hb.1,hb.2⟩
def preds (md : Region.Mode) (ops : Array Oper) (j : Nat) : List Nat :=
  match ops[j]? with
  | some oj => (oj.after.toList.filter (Region.binds md)).map (·.on)
  | none => []
def preT (md : Region.Mode) (ops : Array Oper) : Nat → List Nat → List Nat
  | 0,l => l
  | f + 1,l => preT md ops f (l ++ (l.flatMap (preds md ops))).eraseDups
def exB (md : Region.Mode) (ops : Array Oper) (j : Nat) : Bool :=
  (List.range ops.size).all fun k => k == j || (preT md ops 8 (preds md ops j)).contains k || waits md ops k j
def Closed (md : Region.Mode) (ops : Array Oper) (listed : Array Bool) : Prop :=
  ∀ j oj,ops[j]? = some oj → listed.getD j false = true → ∀ e ∈ oj.after,Region.binds md e = true → listed.getD e.on false = true
theorem Closed.set {i : Nat} {listed : Array Bool} (h : Closed md ops listed) (hi : i ∈ Region.ready md ops listed) : Closed md ops (listed.setIfInBounds i true) := by
  obtain ⟨_,oi,hoi,hall⟩ := mem_ready.1 hi
  intro j oj hj hl e he hb
  by_cases hij : i = j
  · subst hij
    have : oj = oi := Option.some.inj (hj.symm.trans hoi)
    subst this
    exact getD_set_true (hall e he hb)
  · rw [getD_set_ne false hij] at hl
    exact getD_set_true (h j oj hj hl e he hb)
theorem preds_spec {j k : Nat} {oj : Oper} (hj : ops[j]? = some oj) (h : k ∈ preds md ops j) : ∃ e ∈ oj.after,Region.binds md e = true ∧ e.on = k := by
  unfold preds at h
  simp only [hj] at h
  obtain ⟨e,he,rfl⟩ := List.mem_map.1 h
  obtain ⟨h1,h2⟩ := List.mem_filter.1 he
  exact ⟨e,by simpa using h1,h2,rfl⟩
theorem preT_spec {listed : Array Bool} (hcl : Closed md ops listed) : ∀ (f : Nat) (l : List Nat), (∀ k ∈ l, listed.getD k false = true) → ∀ k ∈ preT md ops f l, listed.getD k false = true
  | 0,l,h,k,hk => h k hk
  | f + 1,l,h,k,hk => by
    refine preT_spec hcl f _ (fun m hm => ?_) k hk
    rw [List.mem_eraseDups,List.mem_append] at hm
    rcases hm with hm | hm
    · exact h m hm
    · obtain ⟨q, hq, hm⟩ := List.mem_flatMap.1 hm
      have hql := h q hq
      cases ho : ops[q]? with
      | none => simp [preds,ho] at hm
      | some oq =>
        obtain ⟨e,he,hb,rfl⟩ := preds_spec ho hm
        exact hcl q oq ho hql e he hb
theorem exB_spec {j k : Nat} {listed : Array Bool} (hcl : Closed md ops listed) (h : exB md ops j = true) (hne : k ≠ j) (hj : j ∈ Region.ready md ops listed) (hkr : k ∈ Region.ready md ops listed) : False := by
  obtain ⟨hju,oj,hoj,hall⟩ := mem_ready.1 hj
  obtain ⟨hku,ok,hok,hallk⟩ := mem_ready.1 hkr
  have hk := (Array.getElem?_eq_some_iff.1 hok).1
  have un : ∀ m,listed.getD m true = false → listed.getD m false = true → False := fun m h1 h2 => by
    rcases Nat.lt_or_ge m listed.size with h' | h'
    · simp [h'] at h1 h2; rw [h1] at h2; cases h2
    · simp [Array.getElem?_eq_none h'] at h2
  have h1 := List.all_eq_true.1 h k (List.mem_range.2 hk)
  simp only [Bool.or_eq_true,beq_iff_eq,hne,false_or,List.contains_eq_mem,decide_eq_true_eq] at h1
  rcases h1 with h1 | h1
  · exact un k hku (preT_spec hcl 8 _ (fun m hm => by obtain ⟨e,he,hb,rfl⟩ := preds_spec hoj hm; exact hall e he hb) k h1)
  · obtain ⟨e, he, hb, hon⟩ := waits_spec h1 hok
    have := hallk e he hb
    rw [hon] at this
    exact un j hju this
theorem wpAnyE_first {i : Nat} {oi : Oper} {v : Value} (hi : ops[i]? = some oi) (hsel : ∀ (j : Nat) (o : Oper) cs b, ops[j]? = some o → o.op ≠ .select cs b)
    (hQ : ∀ c a w,Q (.panic c) (a.put oi.dst v) w → Q (.panic c) a w) :
    ∀ (fuel : Nat) (listed : Array Bool) (a : Act) (w : World),
      (∀ j oj,ops[j]? = some oj → j ≠ i → listed.getD j true = false → (∀ e ∈ oj.after,Region.binds md e = true → e.on ≠ i) → oi.apart ops oj = true) →
      Closed md ops listed → i ∈ Region.ready md ops listed → YieldsIf P ops S oi v a → S w →
      wpAnyE P md ops Q S (exB md ops) fuel (listed.setIfInBounds i true) (a.put oi.dst v) w → wpAnyE P md ops Q S (exB md ops) (fuel + 1) listed a w := by
  intro fuel
  induction fuel with
  | zero =>
    intro listed a w _ hcl hr hy hS H
    refine ⟨fun h => (by rw [h] at hr; cases hr),fun j hj => ?_⟩
    by_cases hji : j = i
    · subst hji; exact hy.wpOp hi hS ⟨fun _ => hS,H⟩
    · have := ready_mono hj hji
      rw [H.1] at this
      cases this
  | succ fuel ih =>
    intro listed a w hfree hcl hr hy hS H
    refine ⟨fun h => (by rw [h] at hr; cases hr),fun j hj => ?_⟩
    by_cases hji : j = i
    · subst hji; exact hy.wpOp hi hS ⟨fun _ => hS,H⟩
    · have h1 := H.2 j (ready_mono hj hji)
      obtain ⟨hjun,oj,hoj,hall⟩ := mem_ready.1 hj
      have hiun := (mem_ready.1 hr).1
      have hnot : ∀ e ∈ oj.after,Region.binds md e = true → e.on ≠ i := fun e he hb heq => by
        have h1 := hall e he hb
        rw [heq] at h1
        rcases Nat.lt_or_ge i listed.size with h' | h'
        · simp [h'] at hiun h1; rw [hiun] at h1; cases h1
        · simp [Array.getElem?_eq_none h'] at h1
      have hexj : exB md ops j = false := by
        cases hx : exB md ops j with
        | false => rfl
        | true => exact (exB_spec hcl hx (Ne.symm hji) hj hr).elim
      have h2 := wpOp_putIf hoj (hfree j oj hoj hji hjun hnot) (fun cs b => hsel i oi cs b hi) (fun cs b => hsel j oj cs b hoj) hQ hy h1
      have hfree' : ∀ k ok,ops[k]? = some ok → k ≠ i → (listed.setIfInBounds j true).getD k true = false →
          (∀ e ∈ ok.after,Region.binds md e = true → e.on ≠ i) → oi.apart ops ok = true := fun k ok hk hki hun hno => by
        refine hfree k ok hk hki ?_ hno
        by_cases hjk : j = k
        · subst hjk; exact hjun
        · rw [getD_set_ne true hjk] at hun; exact hun
      refine wpOp_mono (fun a' w' h3 => ?_) h2
      have hS' := h3.2.1 hexj
      refine ⟨fun _ => hS',ih (listed.setIfInBounds j true) a' w' hfree' (hcl.set hj) (ready_mono hr (Ne.symm hji)) h3.1 hS' ?_⟩
      rw [Array.setIfInBounds_comm _ _ hji]
      exact h3.2.2
end
inductive Sch where
  | fin
  | pas (i : Nat) (r : Sch)
  | act (i : Nat) (r : Sch)
  | two (i : Nat) (r : Sch) (j : Nat) (s : Sch)
  | last (i : Nat)
  | tail (l : List Nat)
def passive (P : Program) (o : Oper) : Bool :=
  match o.op with
  | .load .. => true
  | op => pureOp P op
def chkT (md : Region.Mode) (ops : Array Oper) : Nat → Array Bool → List Nat → Bool
  | 0,listed,[] => (Region.ready md ops listed).isEmpty
  | f + 1,listed,i :: r => decide (Region.ready md ops listed = [i]) && exB md ops i && chkT md ops f (listed.setIfInBounds i true) r
  | _,_,_ => false
def chk (P : Program) (md : Region.Mode) (ops : Array Oper) : Nat → Array Bool → Sch → Bool
  | 0,listed,.fin => (Region.ready md ops listed).isEmpty
  | f + 1,listed,.pas i r => (Region.ready md ops listed).contains i && Region.free md ops listed i && (ops[i]?).any (passive P) && chk P md ops f (listed.setIfInBounds i true) r
  | f + 1,listed,.act i r => decide (Region.ready md ops listed = [i]) && chk P md ops f (listed.setIfInBounds i true) r
  | f + 1,listed,.two i r j s => decide (Region.ready md ops listed = [i,j]) && chk P md ops f (listed.setIfInBounds i true) r && chk P md ops f (listed.setIfInBounds j true) s
  | 1,listed,.last i => decide (Region.ready md ops listed = [i]) && exB md ops i && (Region.ready md ops (listed.setIfInBounds i true)).isEmpty
  | f,listed,.tail l => chkT md ops f listed l
  | _,_,_ => false
def kept (B : Nat → Prop) (w w' : World) : Prop := ∀ b,B b → w'.heap[b]? = w.heap[b]?
theorem kept.refl (B : Nat → Prop) (w : World) : kept B w w := fun _ _ => rfl
theorem kept.trans {B : Nat → Prop} {a b c : World} (h : kept B a b) (k : kept B b c) : kept B a c := fun i hi => (k i hi).trans (h i hi)
def vcPas (P : Program) (B : Nat → Prop) (op : Op) (ty : TypeId) (σ : Regs) (w : World) (k : Value → Prop) : Prop :=
  match op with
  | .load t x => on (evO σ x) fun v => match v with
    | .pointer (some a) => B a.block ∧ vcLoad P t (.pointer (some a)) w fun u _ => k u
    | _ => False
  | op => vcOp P op ty σ w fun u _ => k u
def guarded (o : VOp) (σ : Regs) (on1 : Prop) (off : Prop) : Prop :=
  match o.grd with
  | none => on1
  | some (g,want) => on (find σ g) fun gv => ∃ b,gdv gv b want ∧ (b = want → on1) ∧ (b ≠ want → off)
def guardV (o : Option Value) (want : Bool) (on1 off : Prop) : Prop := on o fun gv => ∃ b,gdv gv b want ∧ (b = want → on1) ∧ (b ≠ want → off)
theorem guardV_t (x y : Prop) : guardV (some (.bool true)) true x y = x := by simp [guardV,on,gdv,undef]
theorem guardV_f (x y : Prop) : guardV (some (.bool false)) false x y = x := by simp [guardV,on,gdv,undef]
theorem guardV_tf (x y : Prop) : guardV (some (.bool true)) false x y = y := by simp [guardV,on,gdv,undef]
theorem guardV_ft (x y : Prop) : guardV (some (.bool false)) true x y = y := by simp [guardV,on,gdv,undef]
theorem guardV_u (b : Bool) (x y : Prop) : guardV (some (.tuple #[])) b x y = y := by cases b <;> simp [guardV,on,gdv,undef]
theorem guarded_none (d : Option Nat) (op : Op) (t : TypeId) (σ : Regs) (x y : Prop) : guarded ⟨d,op,t,none⟩ σ x y = x := rfl
def vopAt (ops : Array Oper) (i : Nat) : VOp := conv ops (ops.getD i default)
def TailI (P : Program) (ops : Array Oper) (K : Regs → World → Prop) : List Nat → Regs → World → Prop
  | [],σ,w => K σ w
  | i :: r,σ,w => guarded (vopAt ops i) σ (vcOp P (vopAt ops i).op (vopAt ops i).ty σ w fun v w' => TailI P ops K r (put σ (vopAt ops i).dst v) w') (TailI P ops K r (put σ (vopAt ops i).dst undef) w)
def SchI (P : Program) (ops : Array Oper) (B : Nat → Prop) (K : Regs → World → Prop) : Sch → Regs → World → Prop
  | .fin,σ,w => K σ w
  | .pas i r, σ, w => guarded (vopAt ops i) σ (vcPas P B (vopAt ops i).op (vopAt ops i).ty σ w fun v => SchI P ops B K r (put σ (vopAt ops i).dst v) w)
      (SchI P ops B K r (put σ (vopAt ops i).dst undef) w)
  | .act i r, σ, w => guarded (vopAt ops i) σ (vcOp P (vopAt ops i).op (vopAt ops i).ty σ w fun v w' => kept B w w' ∧ SchI P ops B K r (put σ (vopAt ops i).dst v) w')
      (SchI P ops B K r (put σ (vopAt ops i).dst undef) w)
  | .two i r j s,σ,w =>
      (guarded (vopAt ops i) σ (vcOp P (vopAt ops i).op (vopAt ops i).ty σ w fun v w' => kept B w w' ∧ SchI P ops B K r (put σ (vopAt ops i).dst v) w')
      (SchI P ops B K r (put σ (vopAt ops i).dst undef) w)) ∧
      (guarded (vopAt ops j) σ (vcOp P (vopAt ops j).op (vopAt ops j).ty σ w fun v w' => kept B w w' ∧ SchI P ops B K s (put σ (vopAt ops j).dst v) w')
      (SchI P ops B K s (put σ (vopAt ops j).dst undef) w))
  | .last i, σ, w => guarded (vopAt ops i) σ (vcOp P (vopAt ops i).op (vopAt ops i).ty σ w fun v w' => K (put σ (vopAt ops i).dst v) w')
      (K (put σ (vopAt ops i).dst undef) w)
  | .tail l,σ,w => TailI P ops K l σ w
noncomputable def SchPack : { f : Program → Array Oper → (Nat → Prop) → (Regs → World → Prop) → Sch → Regs → World → Prop // f = SchI } := Classical.choice ⟨⟨SchI,rfl⟩⟩
noncomputable def SchW (P : Program) (ops : Array Oper) (B : Nat → Prop) (K : Regs → World → Prop) (s : Sch) (σ : Regs) (w : World) : Prop := SchPack.1 P ops B K s σ w
theorem SchW_I (P : Program) (ops : Array Oper) (B : Nat → Prop) (K : Regs → World → Prop) (s : Sch) (σ : Regs) (w : World) : SchW P ops B K s σ w = SchI P ops B K s σ w := by
  unfold SchW; rw [SchPack.2]
section
variable {P : Program} {l : List Oper} {B : Nat → Prop} {K : Regs → World → Prop} {i : Nat} {r : Sch} {σ : Regs} {w : World} {d : Option Nat} {op : Op} {t : TypeId} {p : String} {a : Array Edge} {j g : Nat} {b : Bool}
theorem vopAt_plain (h : l[i]? = some ⟨d,op,t,p,a,none⟩) : vopAt l.toArray i = ⟨d,op,t,none⟩ := by
  unfold vopAt; simp [h,conv]
theorem vopAt_some (h : l[i]? = some ⟨d,op,t,p,a,some (j,b)⟩) (hg : gtmp l.toArray j = some g) : vopAt l.toArray i = ⟨d,op,t,some (g,b)⟩ := by
  unfold vopAt; simp only [Array.getD_eq_getD_getElem?,List.getElem?_toArray,h,Option.getD_some]; exact conv_some hg
theorem pas_plain (h : l[i]? = some ⟨d,op,t,p,a,none⟩) (hh : vcPas P B op t σ w fun v => SchW P l.toArray B K r (put σ d v) w) : SchW P l.toArray B K (.pas i r) σ w := by
  simp only [SchW_I,SchI,vopAt_plain h,guarded_none]; simpa only [SchW_I] using hh
theorem pas_g (h : l[i]? = some ⟨d,op,t,p,a,some (j,b)⟩) (hg : gtmp l.toArray j = some g) (hh : guardV (find σ g) b (vcPas P B op t σ w fun v => SchW P l.toArray B K r (put σ d v) w) (SchW P l.toArray B K r (put σ d undef) w)) :
    SchW P l.toArray B K (.pas i r) σ w := by
  simp only [SchW_I,SchI,vopAt_some h hg] at hh ⊢; exact hh
theorem act_g (h : l[i]? = some ⟨d,op,t,p,a,some (j,b)⟩) (hg : gtmp l.toArray j = some g) (hh : guardV (find σ g) b (vcOp P op t σ w fun v w' => kept B w w' ∧ SchW P l.toArray B K r (put σ d v) w') (SchW P l.toArray B K r (put σ d undef) w)) :
    SchW P l.toArray B K (.act i r) σ w := by
  simp only [SchW_I,SchI,vopAt_some h hg] at hh ⊢; exact hh
theorem tail_g {r : List Nat} (h : l[i]? = some ⟨d,op,t,p,a,some (j,b)⟩) (hg : gtmp l.toArray j = some g) (hh : guardV (find σ g) b (vcOp P op t σ w fun v w' => SchW P l.toArray B K (.tail r) (put σ d v) w') (SchW P l.toArray B K (.tail r) (put σ d undef) w)) :
    SchW P l.toArray B K (.tail (i :: r)) σ w := by
  simp only [SchW_I,SchI,TailI,vopAt_some h hg] at hh ⊢; exact hh
theorem act_plain (h : l[i]? = some ⟨d,op,t,p,a,none⟩) (hh : vcOp P op t σ w fun v w' => kept B w w' ∧ SchW P l.toArray B K r (put σ d v) w') : SchW P l.toArray B K (.act i r) σ w := by
  simp only [SchW_I,SchI,vopAt_plain h,guarded_none]; simpa only [SchW_I] using hh
theorem tail_plain {r : List Nat} (h : l[i]? = some ⟨d,op,t,p,a,none⟩) (hh : vcOp P op t σ w fun v w' => SchW P l.toArray B K (.tail r) (put σ d v) w') : SchW P l.toArray B K (.tail (i :: r)) σ w := by
  simp only [SchW_I,SchI,TailI,vopAt_plain h,guarded_none] at hh ⊢; exact hh
theorem tail_fin (h : K σ w) : SchW P l.toArray B K (.tail []) σ w := by
  simp only [SchW_I,SchI,TailI]; exact h
theorem sch_fin (h : K σ w) : SchW P l.toArray B K .fin σ w := by
  simp only [SchW_I,SchI]; exact h
theorem last_plain (h : l[i]? = some ⟨d,op,t,p,a,none⟩) (hh : vcOp P op t σ w fun v w' => K (put σ d v) w') : SchW P l.toArray B K (.last i) σ w := by
  simp only [SchW_I,SchI,vopAt_plain h,guarded_none]; simpa only [SchW_I] using hh
theorem two_mk {i' : Nat} {r' : Sch} (h1 : SchW P l.toArray B K (.act i r) σ w) (h2 : SchW P l.toArray B K (.act i' r') σ w) : SchW P l.toArray B K (.two i r i' r') σ w := by
  simp only [SchW_I,SchI] at h1 h2 ⊢; exact ⟨h1,h2⟩
theorem D0 {p q : Prop} (h : q) (t : q → p := by intro  hq0; (repeat (first|((first|refine pas_plain rfl ?_|refine pas_g rfl rfl ?_|refine act_plain rfl ?_|refine act_g rfl rfl ?_|refine last_plain rfl ?_|refine tail_plain rfl ?_|refine tail_g rfl rfl ?_); (repeat simp only [push_cast,seval,-Nat.reduceSubDiff]))|(refine tail_fin ?_)|(refine sch_fin ?_))); exact hq0) : p := t  h
theorem D1 {p q : Prop} {F0 : Prop} (f0 : F0) (h : q) (t : F0 → q → p := by intro f0 hq0; (repeat (first|((first|refine pas_plain rfl ?_|refine pas_g rfl rfl ?_|refine act_plain rfl ?_|refine act_g rfl rfl ?_|refine last_plain rfl ?_|refine tail_plain rfl ?_|refine tail_g rfl rfl ?_); (repeat simp only [push_cast,seval,-Nat.reduceSubDiff,f0]))|(refine tail_fin ?_)|(refine sch_fin ?_))); exact hq0) : p := t f0 h
theorem D2 {p q : Prop} {F0 F1 : Prop} (f0 : F0) (f1 : F1) (h : q) (t : F0 → F1 → q → p := by intro f0 f1 hq0; (repeat (first|((first|refine pas_plain rfl ?_|refine pas_g rfl rfl ?_|refine act_plain rfl ?_|refine act_g rfl rfl ?_|refine last_plain rfl ?_|refine tail_plain rfl ?_|refine tail_g rfl rfl ?_); (repeat simp only [push_cast,seval,-Nat.reduceSubDiff,f0,f1]))|(refine tail_fin ?_)|(refine sch_fin ?_))); exact hq0) : p := t f0 f1 h
theorem D3 {p q : Prop} {F0 F1 F2 : Prop} (f0 : F0) (f1 : F1) (f2 : F2) (h : q) (t : F0 → F1 → F2 → q → p := by intro f0 f1 f2 hq0; (repeat (first|((first|refine pas_plain rfl ?_|refine pas_g rfl rfl ?_|refine act_plain rfl ?_|refine act_g rfl rfl ?_|refine last_plain rfl ?_|refine tail_plain rfl ?_|refine tail_g rfl rfl ?_); (repeat simp only [push_cast,seval,-Nat.reduceSubDiff,f0,f1,f2]))|(refine tail_fin ?_)|(refine sch_fin ?_))); exact hq0) : p := t f0 f1 f2 h
theorem D4 {p q : Prop} {F0 F1 F2 F3 : Prop} (f0 : F0) (f1 : F1) (f2 : F2) (f3 : F3) (h : q) (t : F0 → F1 → F2 → F3 → q → p := by intro f0 f1 f2 f3 hq0; (repeat (first|((first|refine pas_plain rfl ?_|refine pas_g rfl rfl ?_|refine act_plain rfl ?_|refine act_g rfl rfl ?_|refine last_plain rfl ?_|refine tail_plain rfl ?_|refine tail_g rfl rfl ?_); (repeat simp only [push_cast,seval,-Nat.reduceSubDiff,f0,f1,f2,f3]))|(refine tail_fin ?_)|(refine sch_fin ?_))); exact hq0) : p := t f0 f1 f2 f3 h
theorem Dc4 {p q : Prop} {F0 F1 F2 F3 : Prop} (f0 : F0) (f1 : F1) (f2 : F2) (f3 : F3) (h : q) (t : F0 → F1 → F2 → F3 → q → p := by intro f0 f1 f2 f3 hq0; (repeat (first|((first|refine pas_plain rfl ?_|refine pas_g rfl rfl ?_|refine act_plain rfl ?_|refine act_g rfl rfl ?_|refine last_plain rfl ?_|refine tail_plain rfl ?_|refine tail_g rfl rfl ?_); (repeat simp only [push_cast,seval,-Nat.reduceSubDiff,cell_h,cellO_cells,f0,f1,f2,f3]))|(refine tail_fin ?_)|(refine sch_fin ?_))); exact hq0) : p := t f0 f1 f2 f3 h
theorem Dc6 {p q : Prop} {F0 F1 F2 F3 F4 F5 : Prop} (f0 : F0) (f1 : F1) (f2 : F2) (f3 : F3) (f4 : F4) (f5 : F5) (h : q) (t : F0 → F1 → F2 → F3 → F4 → F5 → q → p := by intro f0 f1 f2 f3 f4 f5 hq0; (repeat (first|((first|refine pas_plain rfl ?_|refine pas_g rfl rfl ?_|refine act_plain rfl ?_|refine act_g rfl rfl ?_|refine last_plain rfl ?_|refine tail_plain rfl ?_|refine tail_g rfl rfl ?_); (repeat simp only [push_cast,seval,-Nat.reduceSubDiff,cell_h,cellO_cells,f0,f1,f2,f3,f4,f5]))|(refine tail_fin ?_)|(refine sch_fin ?_))); exact hq0) : p := t f0 f1 f2 f3 f4 f5 h
theorem Dc7 {p q : Prop} {F0 F1 F2 F3 F4 F5 F6 : Prop} (f0 : F0) (f1 : F1) (f2 : F2) (f3 : F3) (f4 : F4) (f5 : F5) (f6 : F6) (h : q) (t : F0 → F1 → F2 → F3 → F4 → F5 → F6 → q → p := by intro f0 f1 f2 f3 f4 f5 f6 hq0; (repeat (first|((first|refine pas_plain rfl ?_|refine pas_g rfl rfl ?_|refine act_plain rfl ?_|refine act_g rfl rfl ?_|refine last_plain rfl ?_|refine tail_plain rfl ?_|refine tail_g rfl rfl ?_); (repeat simp only [push_cast,seval,-Nat.reduceSubDiff,cell_h,cellO_cells,f0,f1,f2,f3,f4,f5,f6]))|(refine tail_fin ?_)|(refine sch_fin ?_))); exact hq0) : p := t f0 f1 f2 f3 f4 f5 f6 h
theorem Dc8 {p q : Prop} {F0 F1 F2 F3 F4 F5 F6 F7 : Prop} (f0 : F0) (f1 : F1) (f2 : F2) (f3 : F3) (f4 : F4) (f5 : F5) (f6 : F6) (f7 : F7) (h : q) (t : F0 → F1 → F2 → F3 → F4 → F5 → F6 → F7 → q → p := by intro f0 f1 f2 f3 f4 f5 f6 f7 hq0; (repeat (first|((first|refine pas_plain rfl ?_|refine pas_g rfl rfl ?_|refine act_plain rfl ?_|refine act_g rfl rfl ?_|refine last_plain rfl ?_|refine tail_plain rfl ?_|refine tail_g rfl rfl ?_); (repeat simp only [push_cast,seval,-Nat.reduceSubDiff,cell_h,cellO_cells,f0,f1,f2,f3,f4,f5,f6,f7]))|(refine tail_fin ?_)|(refine sch_fin ?_))); exact hq0) : p := t f0 f1 f2 f3 f4 f5 f6 f7 h
theorem De0 {p q : Prop} (h : q) (t : q → p := by intro  hq0; (repeat (first|((first|refine pas_plain rfl ?_|refine pas_g rfl rfl ?_|refine act_plain rfl ?_|refine act_g rfl rfl ?_|refine last_plain rfl ?_|refine tail_plain rfl ?_|refine tail_g rfl rfl ?_); (repeat simp only [push_cast,seval,-Nat.reduceSubDiff,eq_self]))|(refine tail_fin ?_)|(refine sch_fin ?_))); exact hq0) : p := t  h
theorem De2 {p q : Prop} {F0 F1 : Prop} (f0 : F0) (f1 : F1) (h : q) (t : F0 → F1 → q → p := by intro f0 f1 hq0; (repeat (first|((first|refine pas_plain rfl ?_|refine pas_g rfl rfl ?_|refine act_plain rfl ?_|refine act_g rfl rfl ?_|refine last_plain rfl ?_|refine tail_plain rfl ?_|refine tail_g rfl rfl ?_); (repeat simp only [push_cast,seval,-Nat.reduceSubDiff,eq_self,f0,f1]))|(refine tail_fin ?_)|(refine sch_fin ?_))); exact hq0) : p := t f0 f1 h
theorem De3 {p q : Prop} {F0 F1 F2 : Prop} (f0 : F0) (f1 : F1) (f2 : F2) (h : q) (t : F0 → F1 → F2 → q → p := by intro f0 f1 f2 hq0; (repeat (first|((first|refine pas_plain rfl ?_|refine pas_g rfl rfl ?_|refine act_plain rfl ?_|refine act_g rfl rfl ?_|refine last_plain rfl ?_|refine tail_plain rfl ?_|refine tail_g rfl rfl ?_); (repeat simp only [push_cast,seval,-Nat.reduceSubDiff,eq_self,f0,f1,f2]))|(refine tail_fin ?_)|(refine sch_fin ?_))); exact hq0) : p := t f0 f1 f2 h
theorem Dd1 {p q : Prop} {F0 : Prop} (f0 : F0) (h : q) (t : F0 → q → p := by intro f0 hq0; (repeat (first|((first|refine pas_plain rfl ?_|refine pas_g rfl rfl ?_|refine act_plain rfl ?_|refine act_g rfl rfl ?_|refine last_plain rfl ?_|refine tail_plain rfl ?_|refine tail_g rfl rfl ?_); (repeat simp only [push_cast,seval,-Nat.reduceSubDiff,cell_h,cellO_cells,eq_self,f0]))|(refine tail_fin ?_)|(refine sch_fin ?_))); exact hq0) : p := t f0 h
theorem Dd2 {p q : Prop} {F0 F1 : Prop} (f0 : F0) (f1 : F1) (h : q) (t : F0 → F1 → q → p := by intro f0 f1 hq0; (repeat (first|((first|refine pas_plain rfl ?_|refine pas_g rfl rfl ?_|refine act_plain rfl ?_|refine act_g rfl rfl ?_|refine last_plain rfl ?_|refine tail_plain rfl ?_|refine tail_g rfl rfl ?_); (repeat simp only [push_cast,seval,-Nat.reduceSubDiff,cell_h,cellO_cells,eq_self,f0,f1]))|(refine tail_fin ?_)|(refine sch_fin ?_))); exact hq0) : p := t f0 f1 h
theorem Dd3 {p q : Prop} {F0 F1 F2 : Prop} (f0 : F0) (f1 : F1) (f2 : F2) (h : q) (t : F0 → F1 → F2 → q → p := by intro f0 f1 f2 hq0; (repeat (first|((first|refine pas_plain rfl ?_|refine pas_g rfl rfl ?_|refine act_plain rfl ?_|refine act_g rfl rfl ?_|refine last_plain rfl ?_|refine tail_plain rfl ?_|refine tail_g rfl rfl ?_); (repeat simp only [push_cast,seval,-Nat.reduceSubDiff,cell_h,cellO_cells,eq_self,f0,f1,f2]))|(refine tail_fin ?_)|(refine sch_fin ?_))); exact hq0) : p := t f0 f1 f2 h
theorem Dd4 {p q : Prop} {F0 F1 F2 F3 : Prop} (f0 : F0) (f1 : F1) (f2 : F2) (f3 : F3) (h : q) (t : F0 → F1 → F2 → F3 → q → p := by intro f0 f1 f2 f3 hq0; (repeat (first|((first|refine pas_plain rfl ?_|refine pas_g rfl rfl ?_|refine act_plain rfl ?_|refine act_g rfl rfl ?_|refine last_plain rfl ?_|refine tail_plain rfl ?_|refine tail_g rfl rfl ?_); (repeat simp only [push_cast,seval,-Nat.reduceSubDiff,cell_h,cellO_cells,eq_self,f0,f1,f2,f3]))|(refine tail_fin ?_)|(refine sch_fin ?_))); exact hq0) : p := t f0 f1 f2 f3 h
theorem Dd5 {p q : Prop} {F0 F1 F2 F3 F4 : Prop} (f0 : F0) (f1 : F1) (f2 : F2) (f3 : F3) (f4 : F4) (h : q) (t : F0 → F1 → F2 → F3 → F4 → q → p := by intro f0 f1 f2 f3 f4 hq0; (repeat (first|((first|refine pas_plain rfl ?_|refine pas_g rfl rfl ?_|refine act_plain rfl ?_|refine act_g rfl rfl ?_|refine last_plain rfl ?_|refine tail_plain rfl ?_|refine tail_g rfl rfl ?_); (repeat simp only [push_cast,seval,-Nat.reduceSubDiff,cell_h,cellO_cells,eq_self,f0,f1,f2,f3,f4]))|(refine tail_fin ?_)|(refine sch_fin ?_))); exact hq0) : p := t f0 f1 f2 f3 f4 h
theorem Dd6 {p q : Prop} {F0 F1 F2 F3 F4 F5 : Prop} (f0 : F0) (f1 : F1) (f2 : F2) (f3 : F3) (f4 : F4) (f5 : F5) (h : q) (t : F0 → F1 → F2 → F3 → F4 → F5 → q → p := by intro f0 f1 f2 f3 f4 f5 hq0; (repeat (first|((first|refine pas_plain rfl ?_|refine pas_g rfl rfl ?_|refine act_plain rfl ?_|refine act_g rfl rfl ?_|refine last_plain rfl ?_|refine tail_plain rfl ?_|refine tail_g rfl rfl ?_); (repeat simp only [push_cast,seval,-Nat.reduceSubDiff,cell_h,cellO_cells,eq_self,f0,f1,f2,f3,f4,f5]))|(refine tail_fin ?_)|(refine sch_fin ?_))); exact hq0) : p := t f0 f1 f2 f3 f4 f5 h
theorem Dd7 {p q : Prop} {F0 F1 F2 F3 F4 F5 F6 : Prop} (f0 : F0) (f1 : F1) (f2 : F2) (f3 : F3) (f4 : F4) (f5 : F5) (f6 : F6) (h : q) (t : F0 → F1 → F2 → F3 → F4 → F5 → F6 → q → p := by intro f0 f1 f2 f3 f4 f5 f6 hq0; (repeat (first|((first|refine pas_plain rfl ?_|refine pas_g rfl rfl ?_|refine act_plain rfl ?_|refine act_g rfl rfl ?_|refine last_plain rfl ?_|refine tail_plain rfl ?_|refine tail_g rfl rfl ?_); (repeat simp only [push_cast,seval,-Nat.reduceSubDiff,cell_h,cellO_cells,eq_self,f0,f1,f2,f3,f4,f5,f6]))|(refine tail_fin ?_)|(refine sch_fin ?_))); exact hq0) : p := t f0 f1 f2 f3 f4 f5 f6 h
end
section congr2
variable {P : Program} {n : Nat} {B : Nat → Prop}
@[congr] theorem vcPas_congr {op : Op} {t : TypeId} {σ : Regs} {w : World} {k : Value → Prop} : vcPas P B op t σ w k = vcPas P B op t σ w k := rfl
@[congr] theorem guardV_congr {o o' : Option Value} {b : Bool} {x y : Prop} (h : o = o') : guardV o b x y = guardV o' b x y := by rw [h]
@[congr] theorem guarded_congr {o o' : VOp} {σ : Regs} {x y : Prop} (h : o = o') : guarded o σ x y = guarded o' σ x y := by rw [h]
@[congr] theorem SchW_congr {ops : Array Oper} {K : Regs → World → Prop} {s : Sch} {σ σ' : Regs} {w : World} (h : σ = σ') : SchW P ops B K s σ w = SchW P ops B K s σ' w := by rw [h]
end congr2
theorem vcPas_spec {P : Program} {B : Nat → Prop} {o : Oper} {σ : Regs} {w : World} {k : Value → Prop} (hp : passive P o = true) (h : vcPas P B o.op o.type σ w k) :
    ∃ v,k v ∧ ∀ w',kept B w w' → vcOp P o.op o.type σ w' (fun u w'' => u = v ∧ w'' = w') := by
  unfold passive at hp
  unfold vcPas at h
  split at h
  · rename_i t x ho
    obtain ⟨v,hv,h⟩ := on_spec h
    split at h
    case h_2 => exact h.elim
    obtain ⟨hB,h⟩ := h
    obtain ⟨u,h1,h2⟩ := vcLoad_at h
    refine ⟨u,h1,fun w' hw => ?_⟩
    rw [ho]
    dsimp only [vcOp]
    rw [hv]
    exact h2 w' (hw _ hB) (fun u' w'' => u' = u ∧ w'' = w') ⟨rfl,rfl⟩
  · rename_i hne
    have hp' : pureOp P o.op = true := by
      split at hp
      · rename_i t x ho; exact (hne t x ho).elim
      · exact hp
    obtain ⟨v,h1,h2⟩ := pure_still hp' h
    exact ⟨v,h1,fun w' _ => h2 w'⟩
theorem val_of {P : Program} {s : Sem Value} {w w' : World} {x : Next} (h : Sem.run P (do pure (Next.value (← s))) w = .ok x w') : ∃ v,x = .value v := by
  rw [Sem.run_bind] at h
  cases hr : s.run P w with
  | ok v w2 => rw [hr] at h; cases h; exact ⟨v,rfl⟩
  | halt x w2 => rw [hr] at h; cases h
theorem passive_val {P : Program} {o : Oper} (hp : passive P o = true) {ρ : Operand → Value} {w w' : World} {x : Next} (h : (execOp ρ o).run P w = .ok x w') : ∃ v,x = .value v := by
  have hop : ∃ op,o.op = op := ⟨_,rfl⟩
  obtain ⟨op,hop⟩ := hop
  unfold passive at hp
  rw [hop] at hp
  have h0 := h
  cases op <;> simp only [pureOp,Bool.false_eq_true] at hp <;> (try simp only [execOp,hop] at h)
  case move => cases h; exact ⟨_,rfl⟩
  case assign => cases h; exact ⟨_,rfl⟩
  case nilCheck y =>
    split at h
    all_goals (try (cases h; exact ⟨_,rfl⟩))
    all_goals (try (simp [runtimePanic,goPanic,program,Sem.run_bind,Sem.run] at h; done))
    split at h
    all_goals (try (cases h; exact ⟨_,rfl⟩))
    all_goals (try (simp [runtimePanic,goPanic,program,Sem.run_bind,Sem.run] at h; done))
    rw [Sem.run_bind] at h
    simp only [program,Sem.run,Result.andThen_ok] at h
    rw [Sem.run_bind] at h
    generalize Sem.run P (nilAhead _ _ _ _) w = r at h
    cases r with
    | halt => cases h
    | ok b w2 =>
      simp only [Result.andThen_ok] at h
      split at h
      · simp [unsupported,Sem.run_bind,Sem.run] at h
      · cases h; exact ⟨_,rfl⟩
  case call c =>
    obtain ⟨callee,args,ats⟩ := c
    cases callee with
    | value f => simp [lenPure] at hp
    | invoke r m => simp [lenPure] at hp
    | builtin b =>
      cases b <;> try (simp [lenPure] at hp; done)
      have e : (execOp ρ o).run P w = Sem.run P (do pure (Next.value (← Builtin.len_ ats o.type (args.map ρ)))) w := by
        simp only [execOp,hop,resolve,Sem.run_bind,Sem.run_pure,Result.andThen_ok,invoke,builtin]
      exact val_of (e.symm.trans h0)
  case pick c y z => exact val_of (s := do pure (if (← asBool (ρ c)) then ρ y else ρ z)) (by simpa using h)
  all_goals exact val_of h
theorem passive_run {P : Program} {n : Nat} {σ : Regs} {a : Act} (hk : Known n σ a) {o : Oper} (hp : passive P o = true) {w : World} {v : Value}
    (h : vcOp P o.op o.type σ w (fun u w' => u = v ∧ w' = w)) : (execOp a.eval o).run P w = .ok (.value v) w := by
  have hd := vcOp_spec hk h
  unfold Does at hd
  split at hd
  · rename_i u w' hr; obtain ⟨rfl,rfl⟩ := hd; exact hr
  · rename_i w' hr; obtain ⟨_,e⟩ := passive_val hp hr; cases e
  · rename_i f args w' hr; obtain ⟨_,e⟩ := passive_val hp hr; cases e
  · exact hd.elim
theorem guarded_cases {n : Nat} (hn : n ≤ 1000000) {ops : Array Oper} {o : Oper} {σ : Regs} {a : Act} (hk : Known n σ a) {x y : Prop} (h : guarded (conv ops o) σ x y) :
    (Region.wanted o (yielded ops a.tmps) = true ∧ x) ∨ (Region.wanted o (yielded ops a.tmps) = false ∧ y) := by
  unfold guarded at h
  cases hg : (conv ops o).grd with
  | none => rw [hg] at h; exact .inl ⟨wanted_none (conv_none hg),h⟩
  | some gw =>
    obtain ⟨g,want⟩ := gw
    rw [hg] at h
    obtain ⟨gv,hgv,b,hgb,h1,h0⟩ := on_spec h
    have ht := hk.reg g _ hgv
    have hlt : g < n := by
      have := (Array.getElem?_eq_some_iff.1 ht).1
      rw [hk.size] at this; exact this
    obtain ⟨j,hj,hjd⟩ := conv_guard hg (by omega)
    rcases hgb with rfl | ⟨rfl,rfl⟩
    case inr =>
      rw [wanted_undef hj hjd ht]
      exact .inr ⟨rfl,h0 (by cases want <;> simp)⟩
    rw [wanted_some hj hjd ht]
    by_cases e : b = want
    · exact .inl ⟨by simpa using e,h1 e⟩
    · exact .inr ⟨by simpa using e,h0 e⟩
theorem getD_some {ops : Array Oper} {i : Nat} {o : Oper} (h : ops[i]? = some o) : vopAt ops i = conv ops o := by
  have : ops.getD i default = o := by simp [h]
  unfold vopAt; rw [this]
section
variable {P : Program} {n : Nat} {ops : Array Oper} {md : Region.Mode} {B : Nat → Prop} {K : Regs → World → Prop} {X : Outs}
theorem act_step (hn : n ≤ 1000000) {i : Nat} {o : Oper} (ho : ops[i]? = some o) {σ : Regs} {w : World} {a : Act} (hk : Known n σ a) {F : Value → World → Prop} {Z : World → Prop} {N : Act → World → Prop} {Q : Exit → Act → World → Prop}
    (hz : Z w → F undef w) (h : guarded (vopAt ops i) σ (vcOp P (vopAt ops i).op (vopAt ops i).ty σ w F) (Z w)) (hN : ∀ v w',F v w' → N (a.put o.dst v) w') : wpOp P ops Q i N a w := by
  unfold wpOp
  simp only [ho]
  rw [getD_some ho] at h
  rcases guarded_cases hn hk h with ⟨hw,h⟩ | ⟨hw,h⟩
  · rw [if_pos hw]; exact .inl ((vcOp_spec hk h).wp hN)
  · rw [if_neg (by simp [hw])]; exact hN _ _ (hz h)
theorem getD_rep (m j : Nat) : (Array.replicate m false).getD j false = false := by
  rcases Nat.lt_or_ge j m with h | h <;> simp [h]
theorem TailI_sound (hn : n ≤ 1000000) (hds : ops.all (dLt n) = true) (S : World → Prop) : ∀ (l : List Nat) (f : Nat) (listed : Array Bool) (σ : Regs) (a : Act) (w : World),
    chkT md ops f listed l = true → Known n σ a → TailI P ops K l σ w → wpAnyE P md ops (post n K X) S (exB md ops) f listed a w
  | [],0,listed,σ,a,w,hc,hk,h => by
    simp only [chkT,List.isEmpty_iff] at hc
    exact ⟨hc,σ,hk,h⟩
  | [],f + 1,_,_,_,_,hc,_,_ => by simp [chkT] at hc
  | i :: r,0,_,_,_,_,hc,_,_ => by simp [chkT] at hc
  | i :: r,f + 1,listed,σ,a,w,hc,hk,h => by
    simp only [chkT,Bool.and_eq_true,decide_eq_true_eq] at hc
    obtain ⟨⟨hr,hx⟩,hc⟩ := hc
    refine ⟨fun h0 => (by rw [hr] at h0; cases h0),fun j hj => ?_⟩
    have hj' := hj
    rw [hr] at hj'
    have e : j = i := by simpa using hj'
    subst e
    obtain ⟨_,o,ho,_⟩ := mem_ready.1 hj
    have hd' : dOk n o.dst := dLt_spec (Array.all_eq_true_iff_forall_mem.1 hds o (Array.mem_of_getElem? ho))
    unfold TailI at h
    refine act_step hn ho hk (Z := fun w => TailI P ops K r (put σ (vopAt ops j).dst undef) w) (F := fun v w' => TailI P ops K r (put σ (vopAt ops j).dst v) w') (fun h => h) h ?_
    intro v w' hF
    rw [getD_some ho] at hF
    exact ⟨fun h0 => (by rw [hx] at h0; cases h0),TailI_sound hn hds S r f _ _ _ w' hc (hk.put hd' v) hF⟩
theorem SchI_sound (hn : n ≤ 1000000) (hsel : Region.noSelect ops = true) (hds : ops.all (dLt n) = true) (w₀ : World) : ∀ (sch : Sch) (f : Nat) (listed : Array Bool) (σ : Regs) (a : Act) (w : World),
    chk P md ops f listed sch = true → Closed md ops listed → Known n σ a → kept B w₀ w → SchI P ops B K sch σ w → wpAnyE P md ops (post n K X) (kept B w₀) (exB md ops) f listed a w
  | .fin,0,listed,σ,a,w,hc,hcl,hk,hS,h => by
    simp only [chk,List.isEmpty_iff] at hc
    exact ⟨hc,σ,hk,h⟩
  | .fin,f + 1,_,_,_,_,hc,_,_,_,_ => by simp [chk] at hc
  | .pas i r,0,_,_,_,_,hc,_,_,_,_ => by simp [chk] at hc
  | .pas i r,f + 1,listed,σ,a,w,hc,hcl,hk,hS,h => by
    simp only [chk,Bool.and_eq_true] at hc
    obtain ⟨⟨⟨hr,hf⟩,hp⟩,hc⟩ := hc
    have hr' : i ∈ Region.ready md ops listed := by simpa using hr
    obtain ⟨_,o,ho,_⟩ := mem_ready.1 hr'
    have hp' : passive P o = true := by simpa [ho] using hp
    have hd : dOk n o.dst := dLt_spec (Array.all_eq_true_iff_forall_mem.1 hds o (Array.mem_of_getElem? ho))
    unfold SchI at h
    rw [getD_some ho] at h
    have key : ∃ v,YieldsIf P ops (kept B w₀) o v a ∧ SchI P ops B K r (put σ o.dst v) w := by
      rcases guarded_cases hn hk h with ⟨hw,h⟩ | ⟨hw,h⟩
      · obtain ⟨v, h1, h2⟩ := vcPas_spec hp' (σ := σ) h
        refine ⟨v,.inl ⟨hw,fun w' hw' => ?_⟩,h1⟩
        exact passive_run hk hp' (h2 w' (fun b hb => (hw' b hb).trans (hS b hb).symm))
      · exact ⟨undef,.inr ⟨hw,rfl⟩,h⟩
    obtain ⟨v,hy,h⟩ := key
    refine wpAnyE_first ho (Region.noSelect_spec hsel) (fun _ _ _ h => h) f listed a w (Region.free_spec ho hf) hcl hr' hy hS ?_
    exact SchI_sound hn hsel hds w₀ r f _ _ _ w hc (hcl.set hr') (hk.put hd v) hS h
  | .act i r,0,_,_,_,_,hc,_,_,_,_ => by simp [chk] at hc
  | .act i r,f + 1,listed,σ,a,w,hc,hcl,hk,hS,h => by
    simp only [chk,Bool.and_eq_true,decide_eq_true_eq] at hc
    obtain ⟨hr,hc⟩ := hc
    refine ⟨fun h0 => (by rw [hr] at h0; cases h0),fun j hj => ?_⟩
    have hj' := hj
    rw [hr] at hj'
    have e : j = i := by simpa using hj'
    subst e
    obtain ⟨_,o,ho,_⟩ := mem_ready.1 hj
    have hd' : dOk n o.dst := dLt_spec (Array.all_eq_true_iff_forall_mem.1 hds o (Array.mem_of_getElem? ho))
    unfold SchI at h
    refine act_step hn ho hk (Z := fun w => SchI P ops B K r (put σ (vopAt ops j).dst undef) w) (F := fun v w' => kept B w w' ∧ SchI P ops B K r (put σ (vopAt ops j).dst v) w') (fun h => ⟨kept.refl _ _,h⟩) h ?_
    intro v w' hF
    have hS' := hS.trans hF.1
    rw [getD_some ho] at hF
    exact ⟨fun _ => hS',SchI_sound hn hsel hds w₀ r f _ _ _ w' hc (hcl.set hj) (hk.put hd' v) hS' hF.2⟩
  | .two i r j s,0,_,_,_,_,hc,_,_,_,_ => by simp [chk] at hc
  | .two i r j s,f + 1,listed,σ,a,w,hc,hcl,hk,hS,h => by
    simp only [chk,Bool.and_eq_true,decide_eq_true_eq] at hc
    obtain ⟨⟨hr,hc⟩,hc2⟩ := hc
    refine ⟨fun h0 => (by rw [hr] at h0; cases h0),fun k hj => ?_⟩
    have hj' := hj
    rw [hr] at hj'
    obtain ⟨_,o,ho,_⟩ := mem_ready.1 hj
    have e : k = i ∨ k = j := by simpa using hj'
    rcases e with rfl | rfl
    · have h := h.1
      have hd' : dOk n o.dst := dLt_spec (Array.all_eq_true_iff_forall_mem.1 hds o (Array.mem_of_getElem? ho))
      refine act_step hn ho hk (Z := fun w => SchI P ops B K r (put σ (vopAt ops k).dst undef) w) (F := fun v w' => kept B w w' ∧ SchI P ops B K r (put σ (vopAt ops k).dst v) w') (fun h => ⟨kept.refl _ _,h⟩) h ?_
      intro v w' hF
      have hS' := hS.trans hF.1
      rw [getD_some ho] at hF
      exact ⟨fun _ => hS',SchI_sound hn hsel hds w₀ r f _ _ _ w' hc (hcl.set hj) (hk.put hd' v) hS' hF.2⟩
    · have h := h.2
      have hd' : dOk n o.dst := dLt_spec (Array.all_eq_true_iff_forall_mem.1 hds o (Array.mem_of_getElem? ho))
      refine act_step hn ho hk (Z := fun w => SchI P ops B K s (put σ (vopAt ops k).dst undef) w) (F := fun v w' => kept B w w' ∧ SchI P ops B K s (put σ (vopAt ops k).dst v) w') (fun h => ⟨kept.refl _ _,h⟩) h ?_
      intro v w' hF
      have hS' := hS.trans hF.1
      rw [getD_some ho] at hF
      exact ⟨fun _ => hS',SchI_sound hn hsel hds w₀ s f _ _ _ w' hc2 (hcl.set hj) (hk.put hd' v) hS' hF.2⟩
  | .last i,0,_,_,_,_,hc,_,_,_,_ => by simp [chk] at hc
  | .last i,1,listed,σ,a,w,hc,hcl,hk,hS,h => by
    simp only [chk,Bool.and_eq_true,decide_eq_true_eq,List.isEmpty_iff] at hc
    obtain ⟨⟨hr,hx⟩,hc⟩ := hc
    refine ⟨fun h0 => (by rw [hr] at h0; cases h0),fun j hj => ?_⟩
    have hj' := hj
    rw [hr] at hj'
    have e : j = i := by simpa using hj'
    subst e
    obtain ⟨_,o,ho,_⟩ := mem_ready.1 hj
    have hd' : dOk n o.dst := dLt_spec (Array.all_eq_true_iff_forall_mem.1 hds o (Array.mem_of_getElem? ho))
    unfold SchI at h
    refine act_step hn ho hk (Z := fun w => K (put σ (vopAt ops j).dst undef) w) (F := fun v w' => K (put σ (vopAt ops j).dst v) w') (fun h => h) h ?_
    intro v w' hF
    rw [getD_some ho] at hF
    refine ⟨fun h0 => ?_,hc,_,hk.put hd' v,hF⟩
    rw [hx] at h0
    cases h0
  | .last i,f + 2,_,_,_,_,hc,_,_,_,_ => by simp [chk] at hc
  | .tail l,0,listed,σ,a,w,hc,_,hk,_,h => TailI_sound hn hds _ l 0 listed σ a w hc hk h
  | .tail l,f + 1,listed,σ,a,w,hc,_,hk,_,h => TailI_sound hn hds _ l (f + 1) listed σ a w hc hk h
theorem W_draw (sch : Sch) (B : Nat → Prop) {l : List Oper} (hn : n ≤ 1000000) (hm : P.follows .mixedOrders = true)
    (hc : (Region.noSelect l.toArray && l.toArray.all (dLt n) && chk P .any l.toArray l.toArray.size (Array.replicate l.toArray.size false) sch) = true)
    {id : Nat} {σ : Regs} {w : World} (h : SchW P l.toArray B K sch σ w.drew) : W P n σ w (.region id l.toArray true) K X := fun a ha => by
  simp only [Bool.and_eq_true] at hc
  refine wp_region_any hm (wpAny_of_E (S := kept B w.drew) (ex := exB .any l.toArray) _ _ _ _ ?_)
  rw [SchW_I] at h
  exact SchI_sound hn hc.1.1 hc.1.2 w.drew sch _ _ σ a _ hc.2 (fun j oj _ hl => by rw [getD_rep] at hl; cases hl) ha (kept.refl _ _) h
end
end Go.Vk
end
