/- What the proof leans on, part 11 of 11. -/
import Derived.Test.YtgnnlaeikcnhcaaGreatDoorQHeadsBodyJ
section
set_option linter.unusedSimpArgs false
set_option linter.unusedVariables false
namespace Go.Proofs.YtgnnlaeikcnhcaaGreatDoor
open Go Go.Vk Go.RowKit Go.Extern.Stop Go.Stop Go.Extern
def hv (t : Nat) : Value := .pointer (some ⟨5, t, none⟩)
theorem er_valueOfP (t : Addr) (w : World) : (ReflectliteValue.unpack (.iface 129 (.pointer (some t)))).run Tryz.prog w
    = .ok (.agg #[.pointer (some ⟨5, 129, none⟩), .pointer (some ⟨w.heap.size, 0, none⟩), .int .u64 150]) (w.alloc (.cells #[.pointer (some t)] 129)) := by kernel_rfl
theorem er_typeP (a : Addr) (w : World) : (ReflectliteValue.methodAny (ReflectliteValue.valueError "reflectlite.Value.Type" 0) (fun t _ _ _ => ReflectliteType.toType t) #[.agg #[.pointer (some ⟨5, 129, none⟩), .pointer (some a), .int .u64 150]]).run Tryz.prog w
    = .ok (.iface 192 (.agg #[.pointer (some ⟨5, 129, none⟩)])) w := by kernel_rfl
theorem er_mKind (h : Value) (w : World) : (Go.method 351 192 (.agg #[h]) "Kind").run Tryz.prog w = .ok (269, h) w := by kernel_rfl
theorem er_mElem (h : Value) (w : World) : (Go.method 351 192 (.agg #[h]) "Elem").run Tryz.prog w = .ok (279, .agg #[h]) w := by kernel_rfl
theorem er_mImpl (h : Value) (w : World) : (Go.method 351 192 (.agg #[h]) "Implements").run Tryz.prog w = .ok (280, .agg #[h]) w := by kernel_rfl
theorem er_mAss (h : Value) (w : World) : (Go.method 351 192 (.agg #[h]) "AssignableTo").run Tryz.prog w = .ok (277, .agg #[h]) w := by kernel_rfl
theorem er_kindP (w : World) : ((ReflectliteType.abiMethod fun t => (fun a : Nat => Value.int IntKind.u8 (a : Int)) <$> Rtype.kind t) #[.pointer (some ⟨5, 129, none⟩)]).run Tryz.prog w = .ok (.int .u8 22) w := by kernel_rfl
theorem er_kindE (w : World) : ((ReflectliteType.abiMethod fun t => (fun a : Nat => Value.int IntKind.u8 (a : Int)) <$> Rtype.kind t) #[.pointer (some ⟨5, 28, none⟩)]).run Tryz.prog w = .ok (.int .u8 2) w := by kernel_rfl
theorem er_rlm (z : Sem Value) (f : TypeId → Addr → Nat → Nat → Sem Value) (v : Value) :
    ReflectliteValue.method z f #[v] = (do match ← ReflectliteValue.parts v with | none => z | some (t, a, fl) => f t a fl (fl % 32)) := rfl
theorem er_partsP (a : Addr) (w : World) : (ReflectliteValue.parts (.agg #[.pointer (some ⟨5, 129, none⟩), .pointer (some a), .int .u64 150])).run Tryz.prog w = .ok (some (129, a, 150)) w := by kernel_rfl
theorem er_isNilP (a p : Addr) (W : World) (ha : W.cell? a = some (.pointer (some p))) :
    (ReflectliteValue.method (ReflectliteValue.valueError "reflectlite.Value.IsNil" 0) ReflectliteValue.isNil #[.agg #[.pointer (some ⟨5, 129, none⟩), .pointer (some a), .int .u64 150]]).run Tryz.prog W = .ok (.bool false) W := by
  rw [er_rlm]
  simp only [Sem.run_bind, er_partsP, Result.andThen]
  simp [ReflectliteValue.isNil, loadVar, isAgg, underlying, Tryz.underlying129, ha, Result.andThen]
theorem er_elemP (w : World) : (ReflectliteType.method ReflectliteType.elem #[.agg #[.pointer (some ⟨5, 129, none⟩)]]).run Tryz.prog w = .ok (.iface 192 (.agg #[.pointer (some ⟨5, 28, none⟩)])) w := by kernel_rfl
theorem er_implE (w : World) : (ReflectliteType.relation "Implements" ReflectliteType.implements_ #[.agg #[.pointer (some ⟨5, 28, none⟩)], .iface 192 (.agg #[.pointer (some ⟨5, 65, none⟩)])]).run Tryz.prog w = .ok (.bool true) w := by kernel_rfl
theorem er_typeOfE (v : Value) (w : World) : (ReflectliteType.typeOf #[.iface 28 v]).run Tryz.prog w = .ok (.iface 192 (.agg #[.pointer (some ⟨5, 28, none⟩)])) w := by kernel_rfl
theorem er_assE (w : World) : (ReflectliteType.relation "AssignableTo" ReflectliteType.assignableTo #[.agg #[.pointer (some ⟨5, 28, none⟩)], .iface 192 (.agg #[.pointer (some ⟨5, 28, none⟩)])]).run Tryz.prog w = .ok (.bool true) w := by kernel_rfl
theorem er_valueOfE (e : Int) (w : World) : (ReflectliteValue.unpack (.iface 28 (.int .i64 e))).run Tryz.prog w
    = .ok (.agg #[.pointer (some ⟨5, 28, none⟩), .pointer (some ⟨w.heap.size, 0, none⟩), .int .u64 130]) (w.alloc (.cells #[.int .i64 e] 28)) := by kernel_rfl
theorem er_elemOf (w : World) : (Rtype.elem? 129).run Tryz.prog w = .ok (some 28) w := by kernel_rfl
theorem er_mkE (p : Addr) (w : World) : (ReflectliteValue.mk 28 p ReflectliteValue.flagAddr).run Tryz.prog w = .ok (.agg #[.pointer (some ⟨5, 28, none⟩), .pointer (some p), .int .u64 386]) w := by kernel_rfl
theorem er_elemV (a p : Addr) (W : World) (ha : W.cell? a = some (.pointer (some p))) :
    (ReflectliteValue.method (ReflectliteValue.valueError "reflectlite.Value.Elem" 0) ReflectliteValue.elem #[.agg #[.pointer (some ⟨5, 129, none⟩), .pointer (some a), .int .u64 150]]).run Tryz.prog W
      = .ok (.agg #[.pointer (some ⟨5, 28, none⟩), .pointer (some p), .int .u64 386]) W := by
  rw [er_rlm]
  simp only [Sem.run_bind, er_partsP, Result.andThen]
  simp [ReflectliteValue.elem, loadVar, isAgg, underlying, Tryz.underlying129, ha, Result.andThen, er_elemOf, er_mkE]
theorem er_rls (v x : Value) : ReflectliteValue.set #[v, x] = (do
    let (some (dst, a, fl), some (src, b, _)) := (← ReflectliteValue.parts v, ← ReflectliteValue.parts x)
      | unsupported (.noEntry "extern/(internal/reflectlite.Value).Set.zeroValue")
    if fl / ReflectliteValue.flagAddr % 2 == 0 then unsupported (.noEntry "extern/(internal/reflectlite.Value).Set.unaddressable")
    let val ← loadVar src b
    if ← Rtype.directlyAssignable dst src then storeVar dst a val
    else if ← Rtype.implements dst src then
      if (← Rtype.kind src) == 20 then
        match val with
        | .nilIface => unsupported (.noEntry "extern/reflectlite: a nil value of one interface type handed on as a value of another")
        | _ => storeVar dst a val
      else storeVar dst a (.iface src val)
    else panicString ("reflectlite.Set: value of type " ++ (← Rtype.spelt src) ++ " is not assignable to type " ++ (← Rtype.spelt dst))
    pure (.tuple #[])) := rfl
theorem er_partsA (a : Addr) (w : World) : (ReflectliteValue.parts (.agg #[.pointer (some ⟨5, 28, none⟩), .pointer (some a), .int .u64 386])).run Tryz.prog w = .ok (some (28, a, 386)) w := by kernel_rfl
theorem er_partsE (a : Addr) (w : World) : (ReflectliteValue.parts (.agg #[.pointer (some ⟨5, 28, none⟩), .pointer (some a), .int .u64 130])).run Tryz.prog w = .ok (some (28, a, 130)) w := by kernel_rfl
theorem er_direct (w : World) : (Rtype.directlyAssignable 28 28).run Tryz.prog w = .ok true w := by kernel_rfl
theorem er_set (ta b : Addr) (e : Int) (old : Value) (W : World) (hb : W.cell? b = some (.int .i64 e)) (ht : W.cell? ta = some old) (hf : W.frozen? ta = false) :
    (ReflectliteValue.set #[.agg #[.pointer (some ⟨5, 28, none⟩), .pointer (some ta), .int .u64 386], .agg #[.pointer (some ⟨5, 28, none⟩), .pointer (some b), .int .u64 130]]).run Tryz.prog W
      = .ok (.tuple #[]) (W.setCell ta (.int .i64 e)) := by
  rw [er_rls]
  simp only [Sem.run_bind, er_partsA, er_partsE, Result.andThen]
  simp [ReflectliteValue.flagAddr, loadVar, isAgg, underlying, Tryz.underlying28, hb, Result.andThen, er_direct, storeVar, Value.cells, storeCells, Addr.add]
  rw [run_store Tryz.prog W ta _ _ (by rfl)]
  simp [ht, hf]
def asW1 (w : World) (t : Addr) : World := (w.alloc (.cells #[.pointer (some t)] 129)).alloc (.cells #[.pointer (some ⟨5, 129, none⟩), .pointer (some ⟨w.heap.size, 0, none⟩), .int .u64 150] 159)
def asW2 (w : World) (t : Addr) : World := (asW1 w t).alloc (.cells #[.pointer (some ⟨5, 129, none⟩), .pointer (some ⟨w.heap.size, 0, none⟩), .int .u64 150] 159)
def asW3 (w : World) (t : Addr) (e : Int) : World := (asW2 w t).alloc (.cells #[.int .i64 e] 28)
set_option maxHeartbeats 4000000 in
theorem as_hit (e : Int) (t : Addr) (old : Value) (w : World) (hg : w.cell? ⟨1, 0, none⟩ = some (.iface 192 (.agg #[.pointer (some ⟨5, 65, none⟩)]))) (ht0 : w.cell? t = some old) (hf0 : w.frozen? t = false) :
    Calls Tryz.prog 113 #[.iface 28 (.int .i64 e), .iface 129 (.pointer (some t))] w fun ev w' => ev = .returned (.bool true) ∧ w' = (asW3 w t e).setCell t (.int .i64 e) := by
  have hValueOf := @run_callFunc_extern Tryz.prog 152 _ (fun args => ReflectliteValue.unpack (args.getD 0 (.tuple #[]))) Tryz.func152 (by kernel_rfl) (by kernel_rfl) (by kernel_rfl) (by kernel_rfl)
  have hType := @run_callFunc_extern Tryz.prog 153 _ (ReflectliteValue.methodAny (ReflectliteValue.valueError "reflectlite.Value.Type" 0) (fun t _ _ _ => ReflectliteType.toType t)) Tryz.func153 (by kernel_rfl) (by kernel_rfl) (by kernel_rfl) (by kernel_rfl)
  have hIsNil := @run_callFunc_extern Tryz.prog 154 _ (ReflectliteValue.method (ReflectliteValue.valueError "reflectlite.Value.IsNil" 0) ReflectliteValue.isNil) Tryz.func154 (by kernel_rfl) (by kernel_rfl) (by kernel_rfl) (by kernel_rfl)
  have hKind := @run_callFunc_extern Tryz.prog 269 _ (ReflectliteType.abiMethod fun t => do pure (.int .u8 (← Rtype.kind t))) Tryz.func269 (by kernel_rfl) (by kernel_rfl) (by kernel_rfl) (by kernel_rfl)
  have htElem := @run_callFunc_extern Tryz.prog 279 _ (ReflectliteType.method ReflectliteType.elem) Tryz.func279 (by kernel_rfl) (by kernel_rfl) (by kernel_rfl) (by kernel_rfl)
  have hImpl := @run_callFunc_extern Tryz.prog 280 _ (ReflectliteType.relation "Implements" ReflectliteType.implements_) Tryz.func280 (by kernel_rfl) (by kernel_rfl) (by kernel_rfl) (by kernel_rfl)
  have hTypeOf := @run_callFunc_extern Tryz.prog 200 _ ReflectliteType.typeOf Tryz.func200 (by kernel_rfl) (by kernel_rfl) (by kernel_rfl) (by kernel_rfl)
  have hAss := @run_callFunc_extern Tryz.prog 277 _ (ReflectliteType.relation "AssignableTo" ReflectliteType.assignableTo) Tryz.func277 (by kernel_rfl) (by kernel_rfl) (by kernel_rfl) (by kernel_rfl)
  have hvElem := @run_callFunc_extern Tryz.prog 201 _ (ReflectliteValue.method (ReflectliteValue.valueError "reflectlite.Value.Elem" 0) ReflectliteValue.elem) Tryz.func201 (by kernel_rfl) (by kernel_rfl) (by kernel_rfl) (by kernel_rfl)
  have hSet := @run_callFunc_extern Tryz.prog 202 _ ReflectliteValue.set Tryz.func202 (by kernel_rfl) (by kernel_rfl) (by kernel_rfl) (by kernel_rfl)
  have k_er_typeOfE := er_typeOfE
  have k_er_mAss := er_mAss
  have k_er_assE := er_assE
  have k_er_valueOfE := er_valueOfE
  have k_er_valueOfP := er_valueOfP
  have k_er_typeP := er_typeP
  have k_er_mKind := er_mKind
  have k_er_mElem := er_mElem
  have k_er_mImpl := er_mImpl
  have k_er_kindP := er_kindP
  have k_er_kindE := er_kindE
  have k_er_elemP := er_elemP
  have k_er_implE := er_implE
  have n8 := er_isNilP ⟨w.heap.size, 0, none⟩ t (asW1 w t) (by unfold asW1; simp)
  have hlt : 1 < w.heap.size := by
    rcases Nat.lt_or_ge 1 w.heap.size with h | h
    · exact h
    · simp [World.cell?, Array.getElem?_eq_none h] at hg
  have hg2 : (asW1 w t).cell? ⟨1, 0, none⟩ = some (.iface 192 (.agg #[.pointer (some ⟨5, 65, none⟩)])) := by
    unfold asW1
    rw [World.cell?_alloc_lt _ _ ⟨1, 0, none⟩ (by simp; omega), World.cell?_alloc_lt _ _ ⟨1, 0, none⟩ hlt]; exact hg
  have htl : t.block < w.heap.size := by
    rcases Nat.lt_or_ge t.block w.heap.size with h | h
    · exact h
    · simp [World.cell?, Array.getElem?_eq_none h] at ht0
  have el := er_elemV ⟨w.heap.size, 0, none⟩ t (asW2 w t) (by unfold asW2 asW1; rw [World.cell?_alloc_lt _ _ ⟨w.heap.size, 0, none⟩ (by simp; omega)]; simp)
  have st := er_set t ⟨w.heap.size + 1 + 1 + 1, 0, none⟩ e old (asW3 w t e)
    (by unfold asW3 asW2 asW1; rw [World.cell?_alloc_at _ _ _ _ (by simp)]; rfl)
    (by unfold asW3 asW2 asW1; rw [World.cell?_alloc_lt _ _ t (by simp; omega), World.cell?_alloc_lt _ _ t (by simp; omega), World.cell?_alloc_lt _ _ t (by simp; omega), World.cell?_alloc_lt _ _ t htl]; exact ht0)
    (by unfold asW3 asW2 asW1; rw [World.frozen?_alloc_old _ _ t (by simp; omega), World.frozen?_alloc_old _ _ t (by simp; omega), World.frozen?_alloc_old _ _ t (by simp; omega), World.frozen?_alloc_old _ _ t (Nat.ne_of_lt htl)]; exact hf0)
  unfold asW3 asW2 asW1 at *
  go_enter Tryz.func113, Tryz.ntmps113
  go_wp2
  refine wp_loop_rounds 1 ?_
  rw [rounds_succ]
  go_wp2
  go_ret
  exact ⟨rfl, rfl⟩
end Go.Proofs.YtgnnlaeikcnhcaaGreatDoor
end
section
set_option linter.unusedSimpArgs false
set_option linter.unusedVariables false
namespace Go.Proofs.YtgnnlaeikcnhcaaGreatDoor
open Go Go.Vk Go.RowKit
/-- the error's type, as it lies -/
def ET (w : World) : Prop := w.cell? ⟨1, 0, none⟩ = some (.iface 192 (.agg #[.pointer (some ⟨5, 65, none⟩)]))
theorem ET.ext {w w' : World} (h : ET w) (hx : Ext w w') : ET w' := cell_ext hx h
theorem et_g : Tryz.prog.globalNamed "errors.errorType" = some 1 := by kernel_rfl
theorem et_rt : (Tryz.prog.cutTypes.find? (·.1 == "internal/reflectlite.rtype")).map (·.2) = some 192 := by kernel_rfl
theorem et_size : Tryz.prog.types.size = 251 := by kernel_rfl
theorem et_row : ((List.range 251).filter fun t => Tryz.prog.rowNamed t [101, 114, 114, 111, 114]) = [65] := by kernel_rfl
theorem et_of {W : World} (h : handlesMet Tryz.prog [("errors.errorType", Rows.laid_errors_errorType)] W) : ET W := by
  obtain ⟨name, u, ty, e1, e2, e3, e4, e5⟩ := h _ (List.mem_singleton.2 rfl)
  have en : name = [101, 114, 114, 111, 114] := (Option.some.inj e1).symm
  subst en
  obtain rfl := Option.some.inj (et_rt.symm.trans e2)
  have hm : ty ∈ (List.range 251).filter fun t => Tryz.prog.rowNamed t [101, 114, 114, 111, 114] := List.mem_filter.2 ⟨List.mem_range.2 (by rw [← et_size]; exact e3), e4⟩
  rw [et_row] at hm
  obtain rfl := List.mem_singleton.1 hm
  have hh : typeHandle Tryz.prog 65 = .pointer (some ⟨5, 65, none⟩) := by kernel_rfl
  rw [hh] at e5
  unfold ET
  simpa using World.var?_cell et_g e5 0
theorem as_hit_c {w : World} (he : ET w) (e : Int) {p : Nat} (hp : w.heap[p]? = some (.cells #[.int .i64 0] 28 (0, 0))) :
    Gives Tryz.prog 113 #[.iface 28 (.int .i64 e), .iface 129 (.pointer (some ⟨p, 0, none⟩))] w fun v w' => v = .bool true ∧ Upd (fun q => q = p) w w' ∧ w'.heap[p]? = some (.cells #[.int .i64 e] 28 (0, 0)) := by
  have ht0 : w.cell? ⟨p, 0, none⟩ = some (.int .i64 0) := by rw [cell_h, hp, cellO_cells]; rfl
  have hf0 : w.frozen? ⟨p, 0, none⟩ = false := by simp [World.frozen?, hp]
  refine .inl ⟨Tryz.call113, (as_hit e ⟨p, 0, none⟩ _ w he ht0 hf0).mono fun v w' ⟨h1, h2⟩ => ⟨_, h1, rfl, ?_⟩⟩
  have hx : Ext w (asW3 w ⟨p, 0, none⟩ e) := by
    unfold asW3 asW2 asW1
    exact ((((Ext.alloc _ _).trans (Ext.alloc _ _)).trans (Ext.alloc _ _)).trans (Ext.alloc _ _))
  have up : Upd (fun q => q = p) (asW3 w ⟨p, 0, none⟩ e) ((asW3 w ⟨p, 0, none⟩ e).setCell ⟨p, 0, none⟩ (.int .i64 e)) := Upd.setCell (F := fun q => q = p) (a := ⟨p, 0, none⟩) _ rfl _
  subst h2
  refine ⟨Upd.trans hx.upd up fun _ _ h => h, ?_⟩
  rw [heap_set_h, if_pos rfl, hx.blk hp]; rfl
set_option maxHeartbeats 40000000
section
variable {w0 w : World} {Q : Nat → Prop} {pb ps pl pa : Nat} {b : BSt}
theorem berr_c (h : BuAt w0 w Q pb ps pl pa b) (hg : ET w0) : Gives Tryz.prog 31 #[.pointer (some ⟨pb, 0, none⟩)] w fun v w' => v = .int .i64 (b.err.getD 0) ∧ Ext w w' := by
  cases he : b.err with
  | none => exact berr0_c h he
  | some e =>
    obtain ⟨ma, mn, mc, av, _, _, hh⟩ := h.hd
    rw [he] at hh
    have hx := Ext.alloc w (.cells #[.int .i64 0] 28)
    have hh2 := hx.blk hh
    have hz : (w.alloc (.cells #[.int .i64 0] 28)).heap[w.heap.size]? = some (.cells #[.int .i64 0] 28 (0, 0)) := by rw [heap_alloc_h, if_pos rfl]
    refine Gives.of_W Tryz.call31 Tryz.func31 rfl Tryz.ntmps31 (by simp) ?_; intro Z hZ
    (repeat first|(with_reducible first|(refine hK _ _ ?_;clear hK K)|refine ‹∀σ w,_→K σ w› _ _ ?_|(refine W_st ?_;constructor;try intro K hK))|((with_reducible first|refine hZ _ _ ?_|refine W_rg ?_|skip);repeat1' simp only[push_cast,seval,-Nat.reduceSubDiff])|((repeat((fail_if_success with_reducible refine hK _ _ ?_);clear hK K));with_reducible refine hK _ _ ?_;clear hK K))
    refine (bnone_c h).mono ?_
    intro v w' ⟨hv, hw⟩
    subst hv; subst w'
    (repeat first|(with_reducible first|(refine hK _ _ ?_;clear hK K)|refine ‹∀σ w,_→K σ w› _ _ ?_|(refine W_st ?_;constructor;try intro K hK))|((with_reducible first|refine hZ _ _ ?_|refine W_rg ?_|skip);repeat1' simp only[push_cast,seval,-Nat.reduceSubDiff,RunV_zero Tryz.zeroValue28,vcells_int])|((repeat((fail_if_success with_reducible refine hK _ _ ?_);clear hK K));with_reducible refine hK _ _ ?_;clear hK K))
    generalize w.alloc (.cells #[.int .i64 0] 28) = w2 at *
    (repeat first|(with_reducible first|(refine hK _ _ ?_;clear hK K)|refine ‹∀σ w,_→K σ w› _ _ ?_|(refine W_st ?_;constructor;try intro K hK))|((with_reducible first|refine hZ _ _ ?_|refine W_rg ?_|skip);repeat1' simp only[push_cast,seval,-Nat.reduceSubDiff,cell_h,cellO_cells,hh2,errV,mkPtr])|((repeat((fail_if_success with_reducible refine hK _ _ ?_);clear hK K));with_reducible refine hK _ _ ?_;clear hK K))
    refine (as_hit_c ((hg.ext h.out).ext hx) e hz).mono ?_
    rintro v w3 ⟨rfl, hu, h3⟩
    (repeat first|(with_reducible first|(refine hK _ _ ?_;clear hK K)|refine ‹∀σ w,_→K σ w› _ _ ?_|(refine W_st ?_;constructor;try intro K hK))|((with_reducible first|refine hZ _ _ ?_|refine W_rg ?_|skip);repeat1' simp only[push_cast,seval,-Nat.reduceSubDiff,cell_h,cellO_cells,h3])|((repeat((fail_if_success with_reducible refine hK _ _ ?_);clear hK K));with_reducible refine hK _ _ ?_;clear hK K))
    exact ⟨rfl, Upd.trans hx hu fun q hq e => by omega⟩
end
end Go.Proofs.YtgnnlaeikcnhcaaGreatDoor
end
section
set_option linter.unusedSimpArgs false
set_option linter.unusedVariables false
namespace Go.Vk
open Go
theorem tkO_ext {w w' : World} (hx : Ext w w') {b o : Nat} {v : Value} (h : cellO (w.heap[b]?) o = some v) : cellO (w'.heap[b]?) o = some v := by
  rw [← cell_h] at h ⊢
  exact cell_ext hx h
end Go.Vk
namespace Go.Proofs.YtgnnlaeikcnhcaaGreatDoor
open Go Go.Vk
set_option maxHeartbeats 40000000
set_option maxHeartbeats 4000000 in
set_option maxRecDepth 20000 in
theorem headsBody_c {w0 : World} (hg0 : GB w0) (hS0 : GS w0) (hM0 : MaxAt w0) (hE0 : ET w0) {v0 : Value} {l : List HTok} (hT0 : ToksAt w0 v0 l) :
    Gives Tryz.prog 14 #[v0] w0 fun v w' => v = .bool true ∧ Ext w0 w' := by
  obtain ⟨va, vc, rfl, hvc, _⟩ := id hT0
  refine Gives.of_W Tryz.call14 Tryz.func14 rfl Tryz.ntmps14 (by simp) ?_; intro Z hZ
  (repeat first|(with_reducible first|(refine hK _ _ ?_;clear hK K)|refine ‹∀σ w,_→K σ w› _ _ ?_|(refine W_st ?_;constructor;try intro K hK))|((with_reducible first|refine hZ _ _ ?_|refine W_rg ?_|skip);repeat1' simp only[push_cast,seval,-Nat.reduceSubDiff])|((repeat((fail_if_success with_reducible refine hK _ _ ?_);clear hK K));with_reducible refine hK _ _ ?_;clear hK K))
  refine (great19_c hT0 60 (by decide)).mono ?_
  rintro v w1 ⟨⟨g, rfl, hgr⟩, hx1⟩
  have hg := hg0.ext hx1
  have hS := hS0.ext hx1
  have hM := hM0.ext hx1
  have hE : ET w1 := cell_ext hx1 hE0
  have hT := hT0.ext hx1
  cases g with
  | true =>
    (repeat first|(with_reducible first|(refine hK _ _ ?_;clear hK K)|refine ‹∀σ w,_→K σ w› _ _ ?_|(refine W_st ?_;constructor;try intro K hK))|((with_reducible first|refine hZ _ _ ?_|refine W_rg ?_|skip);repeat1' simp only[push_cast,seval,-Nat.reduceSubDiff])|((repeat((fail_if_success with_reducible refine hK _ _ ?_);clear hK K));with_reducible refine hK _ _ ?_;clear hK K))
    refine (begins_c hg hS hM).mono ?_
    rintro v w' ⟨rfl, hy⟩
    (repeat first|(with_reducible first|(refine hK _ _ ?_;clear hK K)|refine ‹∀σ w,_→K σ w› _ _ ?_|(refine W_st ?_;constructor;try intro K hK))|((with_reducible first|refine hZ _ _ ?_|refine W_rg ?_|skip);repeat1' simp only[push_cast,seval,-Nat.reduceSubDiff])|((repeat((fail_if_success with_reducible refine hK _ _ ?_);clear hK K));with_reducible refine hK _ _ ?_;clear hK K))
    exact hx1.trans hy
  | false =>
  obtain ⟨hl60, htk⟩ := hgr rfl
  have hln : l.length ≤ 60 := by omega
  (repeat first|(with_reducible first|(refine hK _ _ ?_;clear hK K)|refine ‹∀σ w,_→K σ w› _ _ ?_|(refine W_st ?_;constructor;try intro K hK))|((with_reducible first|refine hZ _ _ ?_|refine W_rg ?_|skip);repeat1' simp only[push_cast,seval,-Nat.reduceSubDiff])|((repeat((fail_if_success with_reducible refine hK _ _ ?_);clear hK K));with_reducible refine hK _ _ ?_;clear hK K))
  refine bnew_c.mono ?_
  rintro v w2 ⟨pb, ps, pl, pa, rfl, hB2⟩
  (repeat first|(with_reducible first|(refine hK _ _ ?_;clear hK K)|refine ‹∀σ w,_→K σ w› _ _ ?_|(refine W_st ?_;constructor;try intro K hK))|((with_reducible first|refine hZ _ _ ?_|refine W_rg ?_|skip);repeat1' simp only[push_cast,seval,-Nat.reduceSubDiff])|((repeat((fail_if_success with_reducible refine hK _ _ ?_);clear hK K));with_reducible refine hK _ _ ?_;clear hK K))
  refine W_loop (S := Nat) (fun k => [(0, .slice va l.length vc), (3, .pointer (some ⟨pb, 0, none⟩)), (4, .int .i64 (k : Int))])
    (fun k w4 => k ≤ l.length ∧ BuAt w1 w4 noP pb ps pl pa (bodyB (l.take k))) (fun k => l.length - k) 0 ?_ ?_ ?_
  · (repeat simp only [push_cast, seval, -Nat.reduceSubDiff])
  · exact ⟨by omega, hB2⟩
  rintro k w4 ⟨hk, h4⟩
  by_cases hkl : k < l.length
  · obtain ⟨x, hx⟩ : ∃ x, l[k]? = some x := ⟨_, List.getElem?_eq_getElem hkl⟩
    have ht3 := htk x (List.mem_of_getElem? hx)
    have hH := body_all l htk k hk
    have hsn : bodyB (l.take (k + 1)) = bodyStep (bodyB (l.take k)) x := by rw [List.take_add_one, hx, Option.toList_some, bodyB_snoc]
    obtain ⟨b, o, xa, xn, xc, rfl, hat, c0, c1, c2, c3, c4, c5, c6, c7, c8⟩ := hT.get hx
    have hrow : x.row (.slice xa xn xc) = #[.int .i64 x.kind, .string x.name, .string x.text, .slice xa xn xc, .bool x.dup, .bool x.self, .bool x.quirks, .int .i64 x.frm, .int .i64 x.to] := rfl
    have z0 := tkO_ext h4.out c0
    have z1 := tkO_ext h4.out c1
    have z2 := tkO_ext h4.out c2
    have z3 := tkO_ext h4.out c3
    have z4 := tkO_ext h4.out c4
    have z5 := tkO_ext h4.out c5
    have z6 := tkO_ext h4.out c6
    have z7 := tkO_ext h4.out c7
    have z8 := tkO_ext h4.out c8
    have b0 : (k : Int) < (l.length : Int) := by omega
    have b1 : (0 : Int) ≤ (k : Int) := by omega
    have b2 : inI64 ((k : Int) + 1) := by unfold inI64; omega
    generalize bodyB (l.take k) = c at *
    by_cases k8 : x.kind = 8
    · rw [bodyStep, if_neg (fun h => h.1 k8)] at hsn
      (repeat first|(with_reducible first|(refine hK _ _ ?_;clear hK K)|refine ‹∀σ w,_→K σ w› _ _ ?_|(refine W_st ?_;constructor;try intro K hK))|((with_reducible first|refine hZ _ _ ?_|refine W_rg ?_|skip);repeat1' simp only[push_cast,seval,-Nat.reduceSubDiff,b0,b1,cell_h,z0,eq_true k8,not_true_eq_false,b2])|((repeat((fail_if_success with_reducible refine hK _ _ ?_);clear hK K));with_reducible refine hK _ _ ?_;clear hK K))
      refine ⟨k + 1, by omega, ?_⟩
      (repeat simp only [push_cast, seval, -Nat.reduceSubDiff])
      exact ⟨by omega, by rw [hsn]; exact h4⟩
    (repeat first|(with_reducible first|(refine hK _ _ ?_;clear hK K)|refine ‹∀σ w,_→K σ w› _ _ ?_|(refine W_st ?_;constructor;try intro K hK))|((with_reducible first|refine hZ _ _ ?_|refine W_rg ?_|skip);repeat1' simp only[push_cast,seval,-Nat.reduceSubDiff,b0,b1,cell_h,z0,eq_false k8,not_false_eq_true])|((repeat((fail_if_success with_reducible refine hK _ _ ?_);clear hK K));with_reducible refine hK _ _ ?_;clear hK K))
    refine (bmode_c h4).mono ?_
    intro v w' ⟨hv', hw'⟩
    subst hv'; subst w'
    (repeat first|(with_reducible first|(refine hK _ _ ?_;clear hK K)|refine ‹∀σ w,_→K σ w› _ _ ?_|(refine W_st ?_;constructor;try intro K hK))|((with_reducible first|refine hZ _ _ ?_|refine W_rg ?_|skip);repeat1' simp only[push_cast,seval,-Nat.reduceSubDiff])|((repeat((fail_if_success with_reducible refine hK _ _ ?_);clear hK K));with_reducible refine hK _ _ ?_;clear hK K))
    refine (own19_c c.mode).mono ?_
    intro v w' ⟨hv', hw'⟩
    subst hv'; subst w'
    cases ho : ownM c.mode with
    | false =>
      rw [bodyStep, if_neg (fun h => by rw [ho] at h; cases h.2)] at hsn
      (repeat first|(with_reducible first|(refine hK _ _ ?_;clear hK K)|refine ‹∀σ w,_→K σ w› _ _ ?_|(refine W_st ?_;constructor;try intro K hK))|((with_reducible first|refine hZ _ _ ?_|refine W_rg ?_|skip);repeat1' simp only[push_cast,seval,-Nat.reduceSubDiff,b2])|((repeat((fail_if_success with_reducible refine hK _ _ ?_);clear hK K));with_reducible refine hK _ _ ?_;clear hK K))
      refine ⟨k + 1, by omega, ?_⟩
      (repeat simp only [push_cast, seval, -Nat.reduceSubDiff])
      exact ⟨by omega, by rw [hsn]; exact h4⟩
    | true =>
      rw [bodyStep, if_pos ⟨k8, ho⟩] at hsn
      (repeat first|(with_reducible first|(refine hK _ _ ?_;clear hK K)|refine ‹∀σ w,_→K σ w› _ _ ?_|(refine W_st ?_;constructor;try intro K hK))|((with_reducible first|refine hZ _ _ ?_|refine W_rg ?_|skip);repeat1' simp only[push_cast,seval,-Nat.reduceSubDiff,b0,b1,cell_h,z0,z1,z2,z3,z4,z5,z6,z7,z8])|((repeat((fail_if_success with_reducible refine hK _ _ ?_);clear hK K));with_reducible refine hK _ _ ?_;clear hK K))
      rw [← hrow]
      refine (does_c h4 hg hS hM nP hat ht3.sm (hH.ok ht3 (by omega))).mono ?_
      rintro v w5 ⟨h5, _⟩
      (repeat first|(with_reducible first|(refine hK _ _ ?_;clear hK K)|refine ‹∀σ w,_→K σ w› _ _ ?_|(refine W_st ?_;constructor;try intro K hK))|((with_reducible first|refine hZ _ _ ?_|refine W_rg ?_|skip);repeat1' simp only[push_cast,seval,-Nat.reduceSubDiff,b2])|((repeat((fail_if_success with_reducible refine hK _ _ ?_);clear hK K));with_reducible refine hK _ _ ?_;clear hK K))
      refine ⟨k + 1, by omega, ?_⟩
      (repeat simp only [push_cast, seval, -Nat.reduceSubDiff])
      exact ⟨by omega, by rw [hsn]; exact h5⟩
  have hke : k = l.length := by omega
  have hH := body_all l htk l.length (Nat.le_refl _)
  subst hke
  rw [List.take_length] at h4 hH
  generalize bodyB l = c at *
  have b0 : ¬ (l.length : Int) < (l.length : Int) := by omega
  have h160 : 160 * l.length ≤ 9600 := by omega
  have okc := (hH.sz.hdo (m := 6) (by omega)).ok
  (repeat first|(with_reducible first|(refine hK _ _ ?_;clear hK K)|refine ‹∀σ w,_→K σ w› _ _ ?_|(refine W_st ?_;constructor;try intro K hK))|((with_reducible first|refine hZ _ _ ?_|refine W_rg ?_|skip);repeat1' simp only[push_cast,seval,-Nat.reduceSubDiff,b0])|((repeat((fail_if_success with_reducible refine hK _ _ ?_);clear hK K));with_reducible refine hK _ _ ?_;clear hK K))
  refine (bmode_c h4).mono ?_
  intro v w' ⟨hv', hw'⟩
  subst hv'; subst w'
  by_cases m15 : c.mode = 15
  · rw [m15]
    (repeat first|(with_reducible first|(refine hK _ _ ?_;clear hK K)|refine ‹∀σ w,_→K σ w› _ _ ?_|(refine W_st ?_;constructor;try intro K hK))|((with_reducible first|refine hZ _ _ ?_|refine W_rg ?_|skip);repeat1' simp only[push_cast,seval,-Nat.reduceSubDiff,eq_self])|((repeat((fail_if_success with_reducible refine hK _ _ ?_);clear hK K));with_reducible refine hK _ _ ?_;clear hK K))
    refine (begins_c (hg.ext h4.out) (hS.ext h4.out) (hM.ext h4.out)).mono ?_
    rintro v w' ⟨rfl, hy⟩
    (repeat first|(with_reducible first|(refine hK _ _ ?_;clear hK K)|refine ‹∀σ w,_→K σ w› _ _ ?_|(refine W_st ?_;constructor;try intro K hK))|((with_reducible first|refine hZ _ _ ?_|refine W_rg ?_|skip);repeat1' simp only[push_cast,seval,-Nat.reduceSubDiff])|((repeat((fail_if_success with_reducible refine hK _ _ ?_);clear hK K));with_reducible refine hK _ _ ?_;clear hK K))
    exact (hx1.trans h4.out).trans hy
  (repeat first|(with_reducible first|(refine hK _ _ ?_;clear hK K)|refine ‹∀σ w,_→K σ w› _ _ ?_|(refine W_st ?_;constructor;try intro K hK))|((with_reducible first|refine hZ _ _ ?_|refine W_rg ?_|skip);repeat1' simp only[push_cast,seval,-Nat.reduceSubDiff,m15])|((repeat((fail_if_success with_reducible refine hK _ _ ?_);clear hK K));with_reducible refine hK _ _ ?_;clear hK K))
  refine (berr_c h4 hE).mono ?_
  rintro v w5 ⟨rfl, hx5⟩
  have h5 := h4.pass hx5
  by_cases he : c.err.getD 0 = 0
  case neg =>
    (repeat first|(with_reducible first|(refine hK _ _ ?_;clear hK K)|refine ‹∀σ w,_→K σ w› _ _ ?_|(refine W_st ?_;constructor;try intro K hK))|((with_reducible first|refine hZ _ _ ?_|refine W_rg ?_|skip);repeat1' simp only[push_cast,seval,-Nat.reduceSubDiff,he,not_false_eq_true])|((repeat((fail_if_success with_reducible refine hK _ _ ?_);clear hK K));with_reducible refine hK _ _ ?_;clear hK K))
    refine (begins_c (hg.ext h5.out) (hS.ext h5.out) (hM.ext h5.out)).mono ?_
    rintro v w' ⟨rfl, hy⟩
    (repeat first|(with_reducible first|(refine hK _ _ ?_;clear hK K)|refine ‹∀σ w,_→K σ w› _ _ ?_|(refine W_st ?_;constructor;try intro K hK))|((with_reducible first|refine hZ _ _ ?_|refine W_rg ?_|skip);repeat1' simp only[push_cast,seval,-Nat.reduceSubDiff])|((repeat((fail_if_success with_reducible refine hK _ _ ?_);clear hK K));with_reducible refine hK _ _ ?_;clear hK K))
    exact (hx1.trans h5.out).trans hy
  rw [he]
  obtain ⟨q1, q2, q3⟩ := hH.eof m15 (by omega)
  (repeat first|(with_reducible first|(refine hK _ _ ?_;clear hK K)|refine ‹∀σ w,_→K σ w› _ _ ?_|(refine W_st ?_;constructor;try intro K hK))|((with_reducible first|refine hZ _ _ ?_|refine W_rg ?_|skip);repeat1' simp only[push_cast,seval,-Nat.reduceSubDiff,eq_self,not_true_eq_false])|((repeat((fail_if_success with_reducible refine hK _ _ ?_);clear hK K));with_reducible refine hK _ _ ?_;clear hK K))
  refine build_struct Tryz.zeroValue37 unTo plTo (cs := #[.int .i64 8, .string ⟨#[]⟩, .string ⟨#[]⟩, .slice none 0 0, .bool false, .bool false, .bool false, .int .i64 0, .int .i64 0]) (by rfl) ?_
  (repeat first|(with_reducible first|(refine hK _ _ ?_;clear hK K)|refine ‹∀σ w,_→K σ w› _ _ ?_|(refine W_st ?_;constructor;try intro K hK))|((with_reducible first|refine hZ _ _ ?_|refine W_rg ?_|skip);repeat1' simp only[push_cast,seval,-Nat.reduceSubDiff])|((repeat((fail_if_success with_reducible refine hK _ _ ?_);clear hK K));with_reducible refine hK _ _ ?_;clear hK K))
  refine (does_c h5 hg hS hM nP (t := tEOF) (av := .slice none 0 0) (SlAt.nil _ _).rd (smT_small (by decide)) q1).mono ?_
  rintro v w6 ⟨h6, _⟩
  generalize doesB 20 c tEOF = d at *
  have okd := (q3.sz.hdo (m := 6) (by omega)).ok
  obtain ⟨hshp, hmd, ⟨r, oo, t1, t2, t3, t4, t5, t6⟩, hisb⟩ := q2
  (repeat first|(with_reducible first|(refine hK _ _ ?_;clear hK K)|refine ‹∀σ w,_→K σ w› _ _ ?_|(refine W_st ?_;constructor;try intro K hK))|((with_reducible first|refine hZ _ _ ?_|refine W_rg ?_|skip);repeat1' simp only[push_cast,seval,-Nat.reduceSubDiff])|((repeat((fail_if_success with_reducible refine hK _ _ ?_);clear hK K));with_reducible refine hK _ _ ?_;clear hK K))
  refine (barena_c h6).mono ?_
  intro v w' ⟨hv', hw'⟩
  subst hv'; subst w'
  (repeat first|(with_reducible first|(refine hK _ _ ?_;clear hK K)|refine ‹∀σ w,_→K σ w› _ _ ?_|(refine W_st ?_;constructor;try intro K hK))|((with_reducible first|refine hZ _ _ ?_|refine W_rg ?_|skip);repeat1' simp only[push_cast,seval,-Nat.reduceSubDiff])|((repeat((fail_if_success with_reducible refine hK _ _ ?_);clear hK K));with_reducible refine hK _ _ ?_;clear hK K))
  obtain ⟨P6, hA6, _⟩ := h6.ar
  refine (tree_a hA6 (by have := okd.L; omega) okd.at_).mono ?_
  rintro v w7 ⟨T, bo, hTr, hTL, hx7, -, -⟩
  have h7 := h6.pass hx7
  obtain ⟨ta, tc, rfl, htc⟩ := hTr.len
  have hTl : T.length = d.L.length := by rw [← hTL, List.length_map]
  have hpos : 0 < T.length := by have := t3.2; omega
  have n0 : ¬ (T.length : Int) = 0 := by omega
  obtain ⟨tb, to_, n', c', e, _⟩ := hTr.sl.some_of (by intro e; have := flat_length T; rw [e] at this; simp at this; omega)
  cases e
  -- a node of the tree
  have nodK : ∀ j : Int, 0 ≤ j → j < (d.L.length : Int) → ∃ m, T[j.toNat]? = some m ∧ m.nd = gN d.L j := fun j h0 h1 => by
    have hj : j.toNat < T.length := by omega
    refine ⟨_, List.getElem?_eq_getElem hj, ?_⟩
    have e2 : d.L[j.toNat]? = some T[j.toNat].nd := by rw [← hTL, List.getElem?_map, List.getElem?_eq_getElem hj]; rfl
    have := gN_nat e2
    rw [← this]; congr 1; omega
  obtain ⟨Ks, hKs⟩ : ∃ Ks, Ks = (gN d.L 0).kids := ⟨_, rfl⟩
  obtain ⟨pE, hpE⟩ : ∃ p : Int → Bool, p = fun j => decide ((gN d.L j).kind = 3) := ⟨_, rfl⟩
  have hKr : Ks.filter pE = [r] := by rw [hKs, hpE]; exact t1
  have hKb : ∀ j ∈ Ks, 0 ≤ j ∧ j < (d.L.length : Int) := fun j hj => by
    rw [hKs] at hj
    have := (hshp.gd.kid 0 j).1 hj
    exact (hshp.gd.range (j := j) (by omega)).1
  have hKsl : Ks.length < 100000 := by
    have h1 := hshp.gd.few 0
    rw [← hKs] at h1
    have h2 := okd.L
    omega
  obtain ⟨m0, hm0, en0⟩ := nodK 0 (by omega) (by omega)
  replace hm0 : T[0]? = some m0 := hm0
  have kk0 := (hTr.ok m0 (List.mem_of_getElem? hm0)).kids
  have c08 := hTr.get hm0 (j := 8) (by decide)
  simp only [Laid.cells, List.getElem?_cons_zero, List.getElem?_cons_succ, Nat.zero_mul, Nat.add_zero] at c08
  rw [en0, ← hKs] at kk0
  obtain ⟨ka, kc, ek0, hkc⟩ := kk0.ints_len
  rw [ek0] at c08 kk0
  (repeat first|(with_reducible first|(refine hK _ _ ?_;clear hK K)|refine ‹∀σ w,_→K σ w› _ _ ?_|(refine W_st ?_;constructor;try intro K hK))|((with_reducible first|refine hZ _ _ ?_|refine W_rg ?_|skip);repeat1' simp only[push_cast,seval,-Nat.reduceSubDiff,n0])|((repeat((fail_if_success with_reducible refine hK _ _ ?_);clear hK K));with_reducible refine hK _ _ ?_;clear hK K))
  refine W_loop (S := Nat × Int) (fun z => [(3, .pointer (some ⟨pb, 0, none⟩)), (5, .slice (some ⟨tb, to_, none⟩) T.length tc), (6, .int .i64 z.2), (7, .int .i64 (z.1 : Int))])
    (fun z w8 => z.1 ≤ Ks.length ∧ w8 = w7 ∧ ((z.2 = -1 ∧ (Ks.take z.1).filter pE = []) ∨ (z.2 = r ∧ (Ks.take z.1).filter pE = [r]))) (fun z => Ks.length - z.1) (0, -1) ?_ ?_ ?_
  · (repeat simp only [push_cast, seval, -Nat.reduceSubDiff])
  · exact ⟨by omega, rfl, .inl ⟨rfl, rfl⟩⟩
  rintro ⟨k, z⟩ w8 ⟨hk, hw8, hz⟩
  subst w8
  dsimp only at hk hz ⊢
  have p0 : (0 : Int) < (T.length : Int) := by omega
  by_cases hkl : k < Ks.length
  · obtain ⟨j, hj⟩ : ∃ j, Ks[k]? = some j := ⟨_, List.getElem?_eq_getElem hkl⟩
    obtain ⟨j0, j1⟩ := hKb j (List.mem_of_getElem? hj)
    obtain ⟨mj, hmj, enj⟩ := nodK j j0 j1
    obtain ⟨jn, rfl⟩ : ∃ jn : Nat, j = jn := ⟨j.toNat, by omega⟩
    rw [Int.toNat_natCast] at hmj
    obtain ⟨kb, ko, _, _, e, _⟩ := kk0.some_of (by intro e; have := intCells_length Ks; rw [e] at this; simp at this; omega)
    cases e
    have ck := kk0.ints_cell (i := k) hj
    have cj := hTr.get hmj (j := 0) (by decide)
    simp only [Laid.cells, List.getElem?_cons_zero, Nat.add_zero, enj] at cj
    have b0 : (k : Int) < (Ks.length : Int) := by omega
    have b1 : (0 : Int) ≤ (k : Int) := by omega
    have b2 : inI64 ((k : Int) + 1) := by unfold inI64; omega
    have b3 : (0 : Int) ≤ (jn : Int) := by omega
    have b4 : (jn : Int) < (T.length : Int) := by omega
    by_cases k3 : (gN d.L jn).kind = 3
    · obtain ⟨f1, f2⟩ := filt_one hKr hj (by rw [hpE]; exact decide_eq_true k3)
      have hz1 : z = -1 := by
        rcases hz with ⟨h, _⟩ | ⟨_, h⟩
        · exact h
        · rw [f1] at h; cases h
      have n1 : ¬ (0 : Int) ≤ -1 := by decide
      subst hz1
      (repeat first|(with_reducible first|(refine hK _ _ ?_;clear hK K)|refine ‹∀σ w,_→K σ w› _ _ ?_|(refine W_st ?_;constructor;try intro K hK))|((with_reducible first|refine hZ _ _ ?_|refine W_rg ?_|skip);repeat1' simp only[push_cast,seval,-Nat.reduceSubDiff,p0,c08,b0,b1,ck,b3,b4,cj,eq_true k3,n1,b2])|((repeat((fail_if_success with_reducible refine hK _ _ ?_);clear hK K));with_reducible refine hK _ _ ?_;clear hK K))
      refine ⟨(k + 1, (jn : Int)), by show Ks.length - (k + 1) < Ks.length - k; omega, ?_⟩
      (repeat simp only [push_cast, seval, -Nat.reduceSubDiff])
      refine ⟨by omega, .inr ⟨f2, ?_⟩⟩
      rw [filt_snoc hj, f1, if_pos (by rw [hpE]; exact decide_eq_true k3), f2]; rfl
    · have hf : (Ks.take (k + 1)).filter pE = (Ks.take k).filter pE := by
        rw [filt_snoc hj, if_neg (by rw [hpE]; exact fun h => k3 (of_decide_eq_true h)), List.append_nil]
      (repeat first|(with_reducible first|(refine hK _ _ ?_;clear hK K)|refine ‹∀σ w,_→K σ w› _ _ ?_|(refine W_st ?_;constructor;try intro K hK))|((with_reducible first|refine hZ _ _ ?_|refine W_rg ?_|skip);repeat1' simp only[push_cast,seval,-Nat.reduceSubDiff,p0,c08,b0,b1,ck,b3,b4,cj,eq_false k3,b2])|((repeat((fail_if_success with_reducible refine hK _ _ ?_);clear hK K));with_reducible refine hK _ _ ?_;clear hK K))
      refine ⟨(k + 1, z), by show Ks.length - (k + 1) < Ks.length - k; omega, ?_⟩
      (repeat simp only [push_cast, seval, -Nat.reduceSubDiff])
      exact ⟨by omega, by rw [hf]; exact hz⟩
  have hke : k = Ks.length := by omega
  subst hke
  rw [List.take_length, hKr] at hz
  have hzr : z = r := by
    rcases hz with ⟨_, h⟩ | ⟨h, _⟩
    · cases h
    · exact h
  subst hzr
  obtain ⟨rn, rfl⟩ : ∃ rn : Nat, z = rn := ⟨z.toNat, by omega⟩
  obtain ⟨mr, hmr, enr⟩ := nodK (rn : Int) (by omega) t3.2
  rw [Int.toNat_natCast] at hmr
  have cr1 := hTr.get hmr (j := 1) (by decide)
  simp only [Laid.cells, List.getElem?_cons_zero, List.getElem?_cons_succ, enr, t2] at cr1
  replace cr1 : w7.cell? ⟨tb, to_ + rn * 11 + 1, none⟩ = some (.string ⟨#[104, 116, 109, 108]⟩) := cr1
  have b0' : ¬ (Ks.length : Int) < (Ks.length : Int) := by omega
  have r0 : ¬ (rn : Int) < 0 := by omega
  have r1 : (0 : Int) ≤ (rn : Int) := by omega
  have r2 : (rn : Int) < (T.length : Int) := by omega
  (repeat first|(with_reducible first|(refine hK _ _ ?_;clear hK K)|refine ‹∀σ w,_→K σ w› _ _ ?_|(refine W_st ?_;constructor;try intro K hK))|((with_reducible first|refine hZ _ _ ?_|refine W_rg ?_|skip);repeat1' simp only[push_cast,seval,-Nat.reduceSubDiff,p0,c08,b0',r0,r1,r2,cr1,eq_self,not_true_eq_false])|((repeat((fail_if_success with_reducible refine hK _ _ ?_);clear hK K));with_reducible refine hK _ _ ?_;clear hK K))
  obtain ⟨Kr, hKr2⟩ : ∃ K, K = (gN d.L (rn : Int)).kids := ⟨_, rfl⟩
  have hR2 : Kr.filter pE = [d.head, oo] := by rw [hKr2, hpE]; exact t4
  have hRb : ∀ j ∈ Kr, 0 ≤ j ∧ j < (d.L.length : Int) := fun j hj => by
    rw [hKr2] at hj
    have := (hshp.gd.kid (rn : Int) j).1 hj
    exact (hshp.gd.range (j := j) (by omega)).1
  have hKrl : Kr.length < 100000 := by
    have h1 := hshp.gd.few (rn : Int)
    rw [← hKr2] at h1
    have h2 := okd.L
    omega
  have kkr := (hTr.ok mr (List.mem_of_getElem? hmr)).kids
  have cr8 := hTr.get hmr (j := 8) (by decide)
  simp only [Laid.cells, List.getElem?_cons_zero, List.getElem?_cons_succ] at cr8
  rw [enr, ← hKr2] at kkr
  obtain ⟨ra, rc, ekr, hrc⟩ := kkr.ints_len
  rw [ekr] at cr8 kkr
  refine W_loop (S := Nat × Value) (fun z => [(3, .pointer (some ⟨pb, 0, none⟩)), (5, .slice (some ⟨tb, to_, none⟩) T.length tc), (6, .int .i64 (rn : Int)), (8, z.2), (9, .int .i64 (z.1 : Int))])
    (fun z w8 => z.1 ≤ Kr.length ∧ Ext w7 w8 ∧ ∃ bo, SlAt w8 1 z.2 (strCells (((Kr.take z.1).filter pE).map fun j => (gN d.L j).name)) bo ∧ ∀ q, bo = some q → w7.heap.size ≤ q) (fun z => Kr.length - z.1) (0, .slice none 0 0) ?_ ?_ ?_
  · (repeat simp only [push_cast, seval, -Nat.reduceSubDiff])
  · exact ⟨by omega, Ext.refl _, none, SlAt.nil _ _, fun q hq => by cases hq⟩
  rintro ⟨k, nv⟩ w8 ⟨hk, hx8, bo8, hsl, hbo⟩
  dsimp only at hk hsl ⊢
  have hTr8 := hTr.ext hx8
  have cr8' := cell_ext hx8 cr8
  by_cases hkl : k < Kr.length
  · obtain ⟨j, hj⟩ : ∃ j, Kr[k]? = some j := ⟨_, List.getElem?_eq_getElem hkl⟩
    obtain ⟨j0, j1⟩ := hRb j (List.mem_of_getElem? hj)
    obtain ⟨mj, hmj, enj⟩ := nodK j j0 j1
    obtain ⟨jn, rfl⟩ : ∃ jn : Nat, j = jn := ⟨j.toNat, by omega⟩
    rw [Int.toNat_natCast] at hmj
    obtain ⟨kb, ko, _, _, e, _⟩ := kkr.some_of (by intro e; have := intCells_length Kr; rw [e] at this; simp at this; omega)
    cases e
    have ck := cell_ext hx8 (kkr.ints_cell (i := k) hj)
    obtain ⟨q0, q1, q2, q3, q4, q5, q6, q7, q8, q9, q10⟩ := nds_all hTr8 hmj
    have b0 : (k : Int) < (Kr.length : Int) := by omega
    have b1 : (0 : Int) ≤ (k : Int) := by omega
    have b2 : inI64 ((k : Int) + 1) := by unfold inI64; omega
    have b3 : (0 : Int) ≤ (jn : Int) := by omega
    have b4 : (jn : Int) < (T.length : Int) := by omega
    have hokj := hTr8.ok mj (List.mem_of_getElem? hmj)
    obtain ⟨xa, xn, xc, exa, _, _⟩ := hokj.attrs.len
    obtain ⟨ya, yn, yc, eya, _, _⟩ := hokj.kids.len
    rw [exa] at q4
    rw [eya] at q8
    have hname : mj.nd.name = (gN d.L (jn : Int)).name := by rw [enj]
    have hkind : mj.nd.kind = (gN d.L (jn : Int)).kind := by rw [enj]
    obtain ⟨nd, hnd⟩ : ∃ nd, nd = mj.nd := ⟨_, rfl⟩
    rw [← hnd] at q0 q1 q2 q3 q5 q6 q7 q9 q10 hname hkind
    (repeat first|(with_reducible first|(refine hK _ _ ?_;clear hK K)|refine ‹∀σ w,_→K σ w› _ _ ?_|(refine W_st ?_;constructor;try intro K hK))|((with_reducible first|refine hZ _ _ ?_|refine W_rg ?_|skip);repeat1' simp only[push_cast,seval,-Nat.reduceSubDiff,p0,cr8',r1,r2,b0,b1,ck,b3,b4,q0,q1,q2,q3,q4,q5,q6,q7,q8,q9,q10,RunV_zero Tryz.zeroValue46,vcells_agg])|((repeat((fail_if_success with_reducible refine hK _ _ ?_);clear hK K));with_reducible refine hK _ _ ?_;clear hK K))
    simp only [can_h, heap_alloc_h, if_true, canO_cells, List.size_toArray, List.length_cons, List.length_nil, Nat.zero_add, Nat.reduceAdd, Nat.reduceLT, true_and]
    obtain ⟨hx9, hp9⟩ := newL w8 #[.int .i64 0, .string ⟨#[]⟩, .string ⟨#[]⟩, .int .i64 0, .slice none 0 0, .bool false, .int .i64 0, .int .i64 0, .slice none 0 0, .int .i64 0, .int .i64 0] [.int .i64 nd.kind, .string nd.name, .string nd.text, .int .i64 nd.space, .slice xa xn xc, .bool nd.dup, .int .i64 nd.parent, .int .i64 nd.content, .slice ya yn yc, .int .i64 nd.frm, .int .i64 nd.to] 46 rfl
    generalize setCells (w8.alloc (.cells #[.int .i64 0, .string ⟨#[]⟩, .string ⟨#[]⟩, .int .i64 0, .slice none 0 0, .bool false, .int .i64 0, .int .i64 0, .slice none 0 0, .int .i64 0, .int .i64 0] 46)) ⟨w8.heap.size, 0, none⟩ [.int .i64 nd.kind, .string nd.name, .string nd.text, .int .i64 nd.space, .slice xa xn xc, .bool nd.dup, .int .i64 nd.parent, .int .i64 nd.content, .slice ya yn yc, .int .i64 nd.frm, .int .i64 nd.to] 0 = w9 at *
    obtain ⟨pn, hpn⟩ : ∃ p, p = w8.heap.size := ⟨_, rfl⟩
    rw [← hpn] at hp9 ⊢
    by_cases k3 : (gN d.L (jn : Int)).kind = 3
    · (repeat first|(with_reducible first|(refine hK _ _ ?_;clear hK K)|refine ‹∀σ w,_→K σ w› _ _ ?_|(refine W_st ?_;constructor;try intro K hK))|((with_reducible first|refine hZ _ _ ?_|refine W_rg ?_|skip);repeat1' simp only[push_cast,seval,-Nat.reduceSubDiff,cell_h,cellO_cells,hp9,hkind,eq_true k3])|((repeat((fail_if_success with_reducible refine hK _ _ ?_);clear hK K));with_reducible refine hK _ _ ?_;clear hK K))
      refine bs_one styS (by decide) (by decide) (v := .string nd.name) rfl ?_
      have hxa := Ext.alloc w9 (.cells (Value.string nd.name).cells 9)
      have hna := SlAt.new w9 1 (Value.string nd.name).cells 9 1 rfl
      generalize w9.alloc (.cells (Value.string nd.name).cells 9) = w10 at *
      (repeat first|(with_reducible first|(refine hK _ _ ?_;clear hK K)|refine ‹∀σ w,_→K σ w› _ _ ?_|(refine W_st ?_;constructor;try intro K hK))|((with_reducible first|refine hZ _ _ ?_|refine W_rg ?_|skip);repeat1' simp only[push_cast,seval,-Nat.reduceSubDiff])|((repeat((fail_if_success with_reducible refine hK _ _ ?_);clear hK K));with_reducible refine hK _ _ ?_;clear hK K))
      refine app_to_rd styS styS.und (by decide) ((hsl.ext hx9).ext hxa) hna.rd (by rfl) (by
        have h1 : ((Kr.take k).filter pE).length ≤ Kr.length := Nat.le_trans (List.length_filter_le _ _) (by rw [List.length_take]; omega)
        simp [strCells, Value.cells]; omega) ?_
      intro v w11 bo3 g1 g2 g3
      have hs9 := hx9.alike.size
      have hsa := hxa.alike.size
      have hs8 := hx8.alike.size
      have hx11 : Ext w7 w11 := Upd.trans ((hx8.trans hx9).trans hxa) g2 fun q hq e => by have := hbo q e; omega
      have e1 : strCells (((Kr.take k).filter pE).map fun j => (gN d.L j).name) ++ (Value.string nd.name).cells.toList = strCells (((Kr.take (k + 1)).filter pE).map fun j => (gN d.L j).name) := by
        rw [filt_snoc hj, if_pos (by rw [hpE]; exact decide_eq_true k3), List.map_append, List.map_cons, List.map_nil, ← hname]
        simp [strCells, Value.cells]
      rw [e1] at g1
      (repeat first|(with_reducible first|(refine hK _ _ ?_;clear hK K)|refine ‹∀σ w,_→K σ w› _ _ ?_|(refine W_st ?_;constructor;try intro K hK))|((with_reducible first|refine hZ _ _ ?_|refine W_rg ?_|skip);repeat1' simp only[push_cast,seval,-Nat.reduceSubDiff,b2])|((repeat((fail_if_success with_reducible refine hK _ _ ?_);clear hK K));with_reducible refine hK _ _ ?_;clear hK K))
      refine ⟨(k + 1, v), by show Kr.length - (k + 1) < Kr.length - k; omega, ?_⟩
      (repeat simp only [push_cast, seval, -Nat.reduceSubDiff])
      refine ⟨by omega, hx11, bo3, g1, fun q hq => ?_⟩
      rcases g3 q hq with h | h
      · exact hbo q h
      · omega
    · have hf : (Kr.take (k + 1)).filter pE = (Kr.take k).filter pE := by
        rw [filt_snoc hj, if_neg (by rw [hpE]; exact fun h => k3 (of_decide_eq_true h)), List.append_nil]
      (repeat first|(with_reducible first|(refine hK _ _ ?_;clear hK K)|refine ‹∀σ w,_→K σ w› _ _ ?_|(refine W_st ?_;constructor;try intro K hK))|((with_reducible first|refine hZ _ _ ?_|refine W_rg ?_|skip);repeat1' simp only[push_cast,seval,-Nat.reduceSubDiff,cell_h,cellO_cells,hp9,hkind,eq_false k3,b2])|((repeat((fail_if_success with_reducible refine hK _ _ ?_);clear hK K));with_reducible refine hK _ _ ?_;clear hK K))
      refine ⟨(k + 1, nv), by show Kr.length - (k + 1) < Kr.length - k; omega, ?_⟩
      (repeat simp only [push_cast, seval, -Nat.reduceSubDiff])
      exact ⟨by omega, hx8.trans hx9, bo8, by rw [hf]; exact hsl.ext hx9, hbo⟩
  have hke : k = Kr.length := by omega
  subst hke
  rw [List.take_length, hR2, List.map_cons, List.map_cons, List.map_nil, t5, t6] at hsl
  have b0'' : ¬ (Kr.length : Int) < (Kr.length : Int) := by omega
  obtain ⟨nb, no, nn, nc, env, _⟩ := hsl.some_of (by simp [strCells])
  subst env
  have n2 : nn = 2 := by
    obtain ⟨_, _, _, e, _, hl⟩ := hsl.len
    cases e
    simp [strCells] at hl
    omega
  subst n2
  have nc0 : w8.cell? ⟨nb, no, none⟩ = some (.string ⟨#[104, 101, 97, 100]⟩) := hsl.get (i := 0) (v := .string sHead) rfl
  have nc1 : w8.cell? ⟨nb, no + 1, none⟩ = some (.string ⟨#[98, 111, 100, 121]⟩) := hsl.get (i := 1) (v := .string sBody_) rfl
  have h8 := h7.pass hx8
  (repeat first|(with_reducible first|(refine hK _ _ ?_;clear hK K)|refine ‹∀σ w,_→K σ w› _ _ ?_|(refine W_st ?_;constructor;try intro K hK))|((with_reducible first|refine hZ _ _ ?_|refine W_rg ?_|skip);repeat1' simp only[push_cast,seval,-Nat.reduceSubDiff,p0,cr8',r1,r2,b0'',nc0,nc1])|((repeat((fail_if_success with_reducible refine hK _ _ ?_);clear hK K));with_reducible refine hK _ _ ?_;clear hK K))
  refine (bmode_c h8).mono ?_
  intro v w' ⟨hv', hw'⟩
  subst hv'; subst w'
  rw [hmd]
  (repeat first|(with_reducible first|(refine hK _ _ ?_;clear hK K)|refine ‹∀σ w,_→K σ w› _ _ ?_|(refine W_st ?_;constructor;try intro K hK))|((with_reducible first|refine hZ _ _ ?_|refine W_rg ?_|skip);repeat1' simp only[push_cast,seval,-Nat.reduceSubDiff,eq_self])|((repeat((fail_if_success with_reducible refine hK _ _ ?_);clear hK K));with_reducible refine hK _ _ ?_;clear hK K))
  refine bsl (l := [⟨#[98, 111, 100, 121]⟩]) rfl (by decide) (by decide) (by kernel_rfl) ?_
  rintro v w9 hx9 hn9 ⟨b9, rfl⟩
  have h9 := h8.pass hx9
  (repeat first|(with_reducible first|(refine hK _ _ ?_;clear hK K)|refine ‹∀σ w,_→K σ w› _ _ ?_|(refine W_st ?_;constructor;try intro K hK))|((with_reducible first|refine hZ _ _ ?_|refine W_rg ?_|skip);repeat1' simp only[push_cast,seval,-Nat.reduceSubDiff])|((repeat((fail_if_success with_reducible refine hK _ _ ?_);clear hK K));with_reducible refine hK _ _ ?_;clear hK K))
  refine (bis_c h9 okd hn9 (show (1 : Nat) < 1000000000 by decide)).mono ?_
  rintro v w10 ⟨rfl, hx10⟩
  have h10 := h9.pass hx10
  rw [show isB d [⟨#[98, 111, 100, 121]⟩] = true from hisb]
  (repeat first|(with_reducible first|(refine hK _ _ ?_;clear hK K)|refine ‹∀σ w,_→K σ w› _ _ ?_|(refine W_st ?_;constructor;try intro K hK))|((with_reducible first|refine hZ _ _ ?_|refine W_rg ?_|skip);repeat1' simp only[push_cast,seval,-Nat.reduceSubDiff])|((repeat((fail_if_success with_reducible refine hK _ _ ?_);clear hK K));with_reducible refine hK _ _ ?_;clear hK K))
  refine (begins_c (hg.ext h10.out) (hS.ext h10.out) (hM.ext h10.out)).mono ?_
  rintro v w' ⟨rfl, hy⟩
  (repeat first|(with_reducible first|(refine hK _ _ ?_;clear hK K)|refine ‹∀σ w,_→K σ w› _ _ ?_|(refine W_st ?_;constructor;try intro K hK))|((with_reducible first|refine hZ _ _ ?_|refine W_rg ?_|skip);repeat1' simp only[push_cast,seval,-Nat.reduceSubDiff])|((repeat((fail_if_success with_reducible refine hK _ _ ?_);clear hK K));with_reducible refine hK _ _ ?_;clear hK K))
  exact (hx1.trans h10.out).trans hy
end Go.Proofs.YtgnnlaeikcnhcaaGreatDoor
end
section
set_option linter.unusedSimpArgs false
set_option linter.unusedVariables false
namespace Go.Vk
theorem and_split {a b : Bool} (ha : a = true) (hb : b = true) : (a && b) = true := by rw [ha, hb]; rfl
end Go.Vk
namespace Go.Proofs.YtgnnlaeikcnhcaaGreatDoor
open Go Go.Vk
theorem et_of2 {W : World} {r : List (String × DataW Unit)} (h : laidMetH Tryz.prog (("errors.errorType", Rows.laid_errors_errorType) :: r) W) : ET W := by
  have h' : laidMet Tryz.prog ((("errors.errorType", Rows.laid_errors_errorType) :: r).filter fun x => x.2.handleName?.isNone) W ∧ handlesMet Tryz.prog ((("errors.errorType", Rows.laid_errors_errorType) :: r).filter fun x => x.2.handleName?.isSome) W := h
  refine et_of fun x hx => h'.2 x ?_
  rw [List.mem_singleton] at hx
  subst hx
  exact List.mem_filter.2 ⟨List.mem_cons_self, rfl⟩
end Go.Proofs.YtgnnlaeikcnhcaaGreatDoor
end
section
set_option linter.unusedSimpArgs false
set_option linter.unusedVariables false
namespace Go.Proofs.YtgnnlaeikcnhcaaGreatDoor
open Go Go.Vk
theorem laid_tail {W : World} (h : laidMetH Tryz.prog [("errors.errorType", Rows.laid_errors_errorType), ("lazaret/builder.by", Rows.laid_lazaret_builder_by), ("lazaret/heads.steps", Rows.laid_lazaret_heads_steps)] W) : laidMetH Tryz.prog [("lazaret/builder.by", Rows.laid_lazaret_builder_by), ("lazaret/heads.steps", Rows.laid_lazaret_heads_steps)] W := by
  have h' : laidMet Tryz.prog ([("lazaret/builder.by", Rows.laid_lazaret_builder_by), ("lazaret/heads.steps", Rows.laid_lazaret_heads_steps)].filter fun x => x.2.handleName?.isNone) W ∧ handlesMet Tryz.prog (("errors.errorType", Rows.laid_errors_errorType) :: [("lazaret/builder.by", Rows.laid_lazaret_builder_by), ("lazaret/heads.steps", Rows.laid_lazaret_heads_steps)].filter fun x => x.2.handleName?.isSome) W := h
  have k : laidMet Tryz.prog ([("lazaret/builder.by", Rows.laid_lazaret_builder_by), ("lazaret/heads.steps", Rows.laid_lazaret_heads_steps)].filter fun x => x.2.handleName?.isNone) W ∧ handlesMet Tryz.prog ([("lazaret/builder.by", Rows.laid_lazaret_builder_by), ("lazaret/heads.steps", Rows.laid_lazaret_heads_steps)].filter fun x => x.2.handleName?.isSome) W := ⟨h'.1, fun x hx => h'.2 x (List.mem_cons_of_mem _ hx)⟩
  exact k
theorem heads_of3 {W : World} (h : laidMetH Tryz.prog [("errors.errorType", Rows.laid_errors_errorType), ("lazaret/builder.by", Rows.laid_lazaret_builder_by), ("lazaret/heads.steps", Rows.laid_lazaret_heads_steps)] W) (hs : W.ShapedOpen Tryz.prog) : (GB W ∧ GS W ∧ MaxAt W) ∧ ET W := ⟨heads_of (laid_tail h) hs, et_of2 h⟩
end Go.Proofs.YtgnnlaeikcnhcaaGreatDoor
end
