/- What the proof leans on, part 7 of 7. -/
import Derived.Test.YtkafpameheohdaaDoorQStackNoneF
section
set_option linter.unusedSimpArgs false
set_option linter.unusedVariables false
namespace Go.Vk
open Go
theorem cells_of_strs {H : Type} {enc : TypeId × Value → H} {P : Program} {w : World} {base : Nat} {sp : Nat → Bool} {held : Bool} {fuel : Nat} {t e : TypeId} {n : Nat} {cs : List Value} {zs : List ByteArray} {p : List MemPlace}
    (ht : P.underlying t = some (.array n e)) (he : P.underlying e = some .string) (hce : P.cellsOf e = 1) (hct : P.cellsOf t = n)
    (h : DataW.trod enc P w base sp held fuel t cs = some (.agg (zs.map fun z => .lit (.string z.data.toList)), p)) : cs = zs.map Value.string := by
  cases fuel with
  | zero => simp [DataW.trod] at h
  | succ fuel =>
    simp only [DataW.trod, ht, hce, hct, Nat.mul_one] at h
    split at h
    · rename_i hl
      obtain ⟨xs, hm, hx⟩ := Option.map_eq_some_iff.1 h
      have hxs : xs.map (·.1) = zs.map fun z => (DataW.lit (.string z.data.toList) : DataW H) := by
        have := congrArg Prod.fst hx
        simpa using this
      have hxl : xs.length = n := by simpa using Lib.mapM_length hm
      have hzl : zs.length = n := by
        have := congrArg List.length hxs
        simp at this
        omega
      apply List.ext_getElem?
      intro i
      by_cases hi : i < n
      · obtain ⟨b, hb, hf⟩ := Lib.mapM_at hm i i (by simp [hi])
        obtain ⟨z, hc, rfl, _⟩ := DataW.trod_string he hf
        have h1 : cs[i]? = some (.string z) := by
          have := congrArg (·[0]?) hc
          simpa [List.getElem?_take, List.getElem?_drop] using this
        have h2 : (xs.map (·.1))[i]? = some (DataW.lit (.string z.data.toList) : DataW H) := by simp [hb]
        rw [hxs] at h2
        simp only [List.getElem?_map, Option.map_eq_some_iff, DataW.lit.injEq, Lit.string.injEq] at h2
        obtain ⟨z', hz', e'⟩ := h2
        have ez : z' = z := by
          cases z; cases z'
          simp only at e'
          congr 1
          exact Array.toList_inj.1 e'
        simp [h1, hz', ez]
      · rw [List.getElem?_eq_none (by omega), List.getElem?_eq_none (by simp; omega)]
    · cases h
end Go.Vk
namespace Go.Proofs.YtkafpameheohdaaDoor
open Go Go.Vk
theorem gSc : Tryd.prog.globalNamed "lazaret/kinds.scopes" = some 0 := by kernel_rfl
theorem gScT : (Tryd.prog.globals[0]?).map (·.type) = some 76 := by kernel_rfl
theorem cellsSc : Tryd.prog.cellsOf 76 = 4 := by kernel_rfl
theorem cellsSt : Tryd.prog.cellsOf 9 = 1 := by kernel_rfl
theorem gl_of {W : World} (h : laidMetH Tryd.prog [("lazaret/kinds.scopes", Rows.laid_lazaret_kinds_scopes)] W) (hs : W.ShapedOpen Tryd.prog) : GL W := by
  refine ⟨maxAt_of hs, ?_⟩
  have h' : laidMet Tryd.prog [("lazaret/kinds.scopes", Rows.laid_lazaret_kinds_scopes)] W := h
  obtain ⟨ps, ⟨g', t', cs, fuel, p, q, hg', ht', hvar, hd, _, _⟩, _⟩ := h'
  obtain rfl := Option.some.inj (gSc.symm.trans hg')
  obtain rfl := Option.some.inj (gScT.symm.trans ht')
  have e := cells_of_strs (zs := [norB, lisB, butB, tabB]) Tryd.underlying76 Tryd.underlying9 cellsSt cellsSc hd
  unfold World.var? at hvar
  rw [gSc] at hvar
  simp only [Option.bind_some] at hvar
  split at hvar
  · rename_i cs' t f hh
    cases hvar
    have e2 : cs = #[.string norB, .string lisB, .string butB, .string tabB] := Array.toList_inj.1 e
    exact ⟨t, f, by rw [hh, e2]⟩
  · cases hvar
end Go.Proofs.YtkafpameheohdaaDoor
end
