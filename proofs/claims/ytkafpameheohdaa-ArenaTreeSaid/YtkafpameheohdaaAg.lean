/- An act as an argument: what its reading tells. -/
import Derived.Test.YtkafpameheohdaaPw
import Derived.Test.YtkafpameheohdaaAn
import Derived.Test.YtkafpameheohdaaGr
import Derived.Deep.SlicePairs
set_option linter.unusedSimpArgs false
set_option linter.unusedVariables false
namespace Go.Vk
open Go Go.RowKit Go.WideShapes Go.ChangeShapes
theorem attrCells_at {l : List (ByteArray × ByteArray)} {q : Nat} (hq : q < l.length * 2) : ∃ x, l[q / 2]? = some x ∧ (attrCells l)[q]? = some (.string (if q % 2 = 0 then x.1 else x.2)) := by
  have h : q / 2 < l.length := by omega
  refine ⟨l[q / 2], List.getElem?_eq_getElem h, ?_⟩
  obtain ⟨g1, g2⟩ := attrCells_get0 (List.getElem?_eq_getElem h)
  by_cases e : q % 2 = 0
  · have e0 : q = q / 2 * 2 := by omega
    rw [if_pos e]
    rw [← e0] at g1; exact g1
  · have e0 : q = q / 2 * 2 + 1 := by omega
    rw [if_neg e]
    rw [← e0] at g2; exact g2
theorem wf_u8' {n : Int} (h : (Lit.int .u8 n).wf = true) : 0 ≤ n ∧ n ≤ 255 := by
  simp only [Lit.wf, Bool.and_eq_true, decide_eq_true_eq] at h
  have e1 : IntKind.u8.min = 0 := rfl
  have e2 : IntKind.u8.max = 255 := by decide
  rw [e1, e2] at h; omega
end Go.Vk
namespace Go.Proofs.Ytkafpameheohdaa
open Go Go.Vk Go.RowKit Go.WideShapes Go.ChangeShapes
theorem cells3 : Try.prog.cellsOf 3 = 1 := by kernel_rfl
theorem cells4 : Try.prog.cellsOf 4 = 1 := by kernel_rfl
theorem cells5 : Try.prog.cellsOf 5 = 1 := by kernel_rfl
theorem cells9' : Try.prog.cellsOf 9 = 1 := by kernel_rfl
theorem cells27 : Try.prog.cellsOf 27 = 1 := by kernel_rfl
theorem cells28 : Try.prog.cellsOf 28 = 1 := by kernel_rfl
theorem cells30 : Try.prog.cellsOf 30 = 11 := by kernel_rfl
theorem cells43 : Try.prog.cellsOf 43 = 14 := by kernel_rfl
theorem cells94 : Try.prog.cellsOf 94 = 2 := by kernel_rfl
section
variable {H : Type} {enc : TypeId × Value → H} {W : World} {base : Nat} {sp : Nat → Bool} {hd : Bool}
theorem rd_attrs {fuel : Nat} {v : Value} {x : DataW H × List MemPlace} (h : DataW.trod enc Try.prog W base sp hd fuel 27 [v] = some x) : ∃ l : List (ByteArray × ByteArray), RdAt W 2 v (attrCells l) := by
  rcases Deep.open_slice_pairs Try.underlying27 Try.underlying94 cells94 rfl rfl cells9' cells9' h with ⟨h1, _⟩ | ⟨a, len, cap, m, n, V0, V1, D0, D1, P0, P1, h1, h2, h3, h4, h5, h6, h7⟩
  · cases h1
    exact ⟨[], none, 0, 0, rfl, Nat.le_refl _, rfl, fun i u hu => by simp [attrCells] at hu⟩
  · simp only [List.cons.injEq, and_true] at h1
    subst h1
    have hlm : len ≤ m := by rw [h5]; split <;> omega
    have each : ∀ i, i < m → ∃ q : ByteArray × ByteArray, V0 i = .string q.1 ∧ V1 i = .string q.2 := fun i hi => by
      obtain ⟨_, _, t0, t1⟩ := h7 i hi
      obtain ⟨s0, e0, _⟩ := DataW.trod_string Try.underlying9 t0
      obtain ⟨s1, e1, _⟩ := DataW.trod_string Try.underlying9 t1
      simp only [List.cons.injEq, and_true] at e0 e1
      exact ⟨(s0, s1), e0, e1⟩
    obtain ⟨q, hq⟩ := Deep.choose_lt each
    refine ⟨(List.range len).map q, rd_of h3 (by rw [attrCells_length]; simp) fun i hi => ?_⟩
    rw [attrCells_length, List.length_map, List.length_range] at hi
    obtain ⟨x, hx1, hx2⟩ := attrCells_at (l := (List.range len).map q) (q := i) (by simpa using hi)
    have hi2 : i / 2 < len := by omega
    have ex : x = q (i / 2) := by
      rw [List.getElem?_map, List.getElem?_range hi2] at hx1
      exact (Option.some.inj hx1).symm
    rw [hx2, ex]
    obtain ⟨g0, g1, _, _⟩ := h7 (i / 2) (by omega)
    obtain ⟨k0, k1⟩ := hq (i / 2) (by omega)
    by_cases e : i % 2 = 0
    · rw [if_pos e, ← k0, ← g0]; congr 2; omega
    · rw [if_neg e, ← k1, ← g1]; congr 2; omega
theorem slice_form {t e fuel : Nat} {v : Value} {x : DataW H × List MemPlace} (ht : Try.prog.underlying t = some (.slice e)) (h : DataW.trod enc Try.prog W base sp hd fuel t [v] = some x) : ∃ ka kn kc, v = .slice ka kn kc := by
  rcases DataW.trod_slice ht h with ⟨h1, _⟩ | ⟨a, len, cap, _, _, _, _, h1, _⟩
  · cases h1; exact ⟨_, _, _, rfl⟩
  · simp only [List.cons.injEq, and_true] at h1; exact ⟨_, _, _, h1⟩
theorem list11 {cs : List Value} (h : cs.length = 11) : ∃ c0 c1 c2 c3 c4 c5 c6 c7 c8 c9 c10, cs = [c0, c1, c2, c3, c4, c5, c6, c7, c8, c9, c10] := by
  match cs, h with
  | [c0, c1, c2, c3, c4, c5, c6, c7, c8, c9, c10], _ => exact ⟨_, _, _, _, _, _, _, _, _, _, _, rfl⟩
theorem list14 {cs : List Value} (h : cs.length = 14) : ∃ c0 c1 c2 c3 c4 c5 c6 c7 c8 c9 c10 c11 c12 c13, cs = [c0, c1, c2, c3, c4, c5, c6, c7, c8, c9, c10, c11, c12, c13] := by
  match cs, h with
  | [c0, c1, c2, c3, c4, c5, c6, c7, c8, c9, c10, c11, c12, c13], _ => exact ⟨_, _, _, _, _, _, _, _, _, _, _, _, _, _, rfl⟩
set_option maxRecDepth 100000 in
theorem node_of {fuel : Nat} {cs : List Value} {x : DataW H × List MemPlace} (h : DataW.trod enc Try.prog W base sp hd fuel 30 cs = some x) :
    ∃ m : Laid, cs = m.cells ∧ RdAt W 2 m.av (attrCells m.nd.attrs) ∧ ∃ ka kn kc, m.kv = .slice ka kn kc := by
  obtain ⟨xs, n, _, _, hl, hxl, hf⟩ := DataW.trod_struct Try.underlying30 h
  rw [cells30] at hl
  obtain ⟨c0, c1, c2, c3, c4, c5, c6, c7, c8, c9, c10, rfl⟩ := list11 hl
  have hx : ∀ i, i < 11 → ∃ y, xs[i]? = some y := fun i hi => ⟨_, List.getElem?_eq_getElem (show i < xs.length by rw [hxl]; exact hi)⟩
  obtain ⟨y0, hy0⟩ := hx 0 (by decide)
  have g0 : DataW.trod enc Try.prog W base sp hd n 3 (([c0, c1, c2, c3, c4, c5, c6, c7, c8, c9, c10].drop 0).take (Try.prog.cellsOf 3)) = xs[0]? := hf 0 _ rfl
  rw [hy0] at g0
  simp only [cells3, List.drop_succ_cons, List.drop_zero, List.take_succ_cons, List.take_zero] at g0
  obtain ⟨y1, hy1⟩ := hx 1 (by decide)
  have g1 : DataW.trod enc Try.prog W base sp hd n 9 (([c0, c1, c2, c3, c4, c5, c6, c7, c8, c9, c10].drop 1).take (Try.prog.cellsOf 9)) = xs[1]? := hf 1 _ rfl
  rw [hy1] at g1
  simp only [cells9', List.drop_succ_cons, List.drop_zero, List.take_succ_cons, List.take_zero] at g1
  obtain ⟨y2, hy2⟩ := hx 2 (by decide)
  have g2 : DataW.trod enc Try.prog W base sp hd n 9 (([c0, c1, c2, c3, c4, c5, c6, c7, c8, c9, c10].drop 2).take (Try.prog.cellsOf 9)) = xs[2]? := hf 2 _ rfl
  rw [hy2] at g2
  simp only [cells9', List.drop_succ_cons, List.drop_zero, List.take_succ_cons, List.take_zero] at g2
  obtain ⟨y3, hy3⟩ := hx 3 (by decide)
  have g3 : DataW.trod enc Try.prog W base sp hd n 3 (([c0, c1, c2, c3, c4, c5, c6, c7, c8, c9, c10].drop 3).take (Try.prog.cellsOf 3)) = xs[3]? := hf 3 _ rfl
  rw [hy3] at g3
  simp only [cells3, List.drop_succ_cons, List.drop_zero, List.take_succ_cons, List.take_zero] at g3
  obtain ⟨y4, hy4⟩ := hx 4 (by decide)
  have g4 : DataW.trod enc Try.prog W base sp hd n 27 (([c0, c1, c2, c3, c4, c5, c6, c7, c8, c9, c10].drop 4).take (Try.prog.cellsOf 27)) = xs[4]? := hf 4 _ rfl
  rw [hy4] at g4
  simp only [cells27, List.drop_succ_cons, List.drop_zero, List.take_succ_cons, List.take_zero] at g4
  obtain ⟨y5, hy5⟩ := hx 5 (by decide)
  have g5 : DataW.trod enc Try.prog W base sp hd n 4 (([c0, c1, c2, c3, c4, c5, c6, c7, c8, c9, c10].drop 5).take (Try.prog.cellsOf 4)) = xs[5]? := hf 5 _ rfl
  rw [hy5] at g5
  simp only [cells4, List.drop_succ_cons, List.drop_zero, List.take_succ_cons, List.take_zero] at g5
  obtain ⟨y6, hy6⟩ := hx 6 (by decide)
  have g6 : DataW.trod enc Try.prog W base sp hd n 3 (([c0, c1, c2, c3, c4, c5, c6, c7, c8, c9, c10].drop 6).take (Try.prog.cellsOf 3)) = xs[6]? := hf 6 _ rfl
  rw [hy6] at g6
  simp only [cells3, List.drop_succ_cons, List.drop_zero, List.take_succ_cons, List.take_zero] at g6
  obtain ⟨y7, hy7⟩ := hx 7 (by decide)
  have g7 : DataW.trod enc Try.prog W base sp hd n 3 (([c0, c1, c2, c3, c4, c5, c6, c7, c8, c9, c10].drop 7).take (Try.prog.cellsOf 3)) = xs[7]? := hf 7 _ rfl
  rw [hy7] at g7
  simp only [cells3, List.drop_succ_cons, List.drop_zero, List.take_succ_cons, List.take_zero] at g7
  obtain ⟨y8, hy8⟩ := hx 8 (by decide)
  have g8 : DataW.trod enc Try.prog W base sp hd n 28 (([c0, c1, c2, c3, c4, c5, c6, c7, c8, c9, c10].drop 8).take (Try.prog.cellsOf 28)) = xs[8]? := hf 8 _ rfl
  rw [hy8] at g8
  simp only [cells28, List.drop_succ_cons, List.drop_zero, List.take_succ_cons, List.take_zero] at g8
  obtain ⟨y9, hy9⟩ := hx 9 (by decide)
  have g9 : DataW.trod enc Try.prog W base sp hd n 3 (([c0, c1, c2, c3, c4, c5, c6, c7, c8, c9, c10].drop 9).take (Try.prog.cellsOf 3)) = xs[9]? := hf 9 _ rfl
  rw [hy9] at g9
  simp only [cells3, List.drop_succ_cons, List.drop_zero, List.take_succ_cons, List.take_zero] at g9
  obtain ⟨y10, hy10⟩ := hx 10 (by decide)
  have g10 : DataW.trod enc Try.prog W base sp hd n 3 (([c0, c1, c2, c3, c4, c5, c6, c7, c8, c9, c10].drop 10).take (Try.prog.cellsOf 3)) = xs[10]? := hf 10 _ rfl
  rw [hy10] at g10
  simp only [cells3, List.drop_succ_cons, List.drop_zero, List.take_succ_cons, List.take_zero] at g10
  obtain ⟨k0, e0, _, _⟩ := DataW.trod_int Try.underlying3 g0
  simp only [List.cons.injEq, and_true] at e0
  subst e0
  obtain ⟨s1, e1, _, _⟩ := DataW.trod_string Try.underlying9 g1
  simp only [List.cons.injEq, and_true] at e1
  subst e1
  obtain ⟨s2, e2, _, _⟩ := DataW.trod_string Try.underlying9 g2
  simp only [List.cons.injEq, and_true] at e2
  subst e2
  obtain ⟨k3, e3, _, _⟩ := DataW.trod_int Try.underlying3 g3
  simp only [List.cons.injEq, and_true] at e3
  subst e3
  obtain ⟨b5, e5, _⟩ := DataW.trod_bool Try.underlying4 g5
  simp only [List.cons.injEq, and_true] at e5
  subst e5
  obtain ⟨k6, e6, _, _⟩ := DataW.trod_int Try.underlying3 g6
  simp only [List.cons.injEq, and_true] at e6
  subst e6
  obtain ⟨k7, e7, _, _⟩ := DataW.trod_int Try.underlying3 g7
  simp only [List.cons.injEq, and_true] at e7
  subst e7
  obtain ⟨k9, e9, _, _⟩ := DataW.trod_int Try.underlying3 g9
  simp only [List.cons.injEq, and_true] at e9
  subst e9
  obtain ⟨k10, e10, _, _⟩ := DataW.trod_int Try.underlying3 g10
  simp only [List.cons.injEq, and_true] at e10
  subst e10
  obtain ⟨ats, has⟩ := rd_attrs g4
  obtain ⟨ka, kn, kc, hkv⟩ := slice_form Try.underlying28 g8
  refine ⟨⟨⟨k0, s1, s2, k3, ats, b5, k6, k7, [], k9, k10⟩, c4, c8, none, none⟩, rfl, has, ka, kn, kc, hkv⟩
set_option maxRecDepth 100000 in
theorem act_of {fuel : Nat} {cs : List Value} {x : DataW H × List MemPlace} (h : DataW.trod enc Try.prog W base sp hd fuel 43 cs = some x) :
    ∃ y : ActD, cs = y.cells ∧ 0 ≤ y.kd ∧ RdAt W 2 y.m.av (attrCells y.m.nd.attrs) ∧ ∃ ka kn kc, y.m.kv = .slice ka kn kc := by
  obtain ⟨xs, n, _, _, hl, hxl, hf⟩ := DataW.trod_struct Try.underlying43 h
  rw [cells43] at hl
  obtain ⟨c0, c1, c2, c3, c4, c5, c6, c7, c8, c9, c10, c11, c12, c13, rfl⟩ := list14 hl
  have hx : ∀ i, i < 4 → ∃ y, xs[i]? = some y := fun i hi => ⟨_, List.getElem?_eq_getElem (show i < xs.length by rw [hxl]; exact hi)⟩
  obtain ⟨y0, hy0⟩ := hx 0 (by decide)
  have g0 : DataW.trod enc Try.prog W base sp hd n 5 (([c0, c1, c2, c3, c4, c5, c6, c7, c8, c9, c10, c11, c12, c13].drop 0).take (Try.prog.cellsOf 5)) = xs[0]? := hf 0 _ rfl
  rw [hy0] at g0
  simp only [cells5, List.drop_succ_cons, List.drop_zero, List.take_succ_cons, List.take_zero] at g0
  obtain ⟨y1, hy1⟩ := hx 1 (by decide)
  have g1 : DataW.trod enc Try.prog W base sp hd n 3 (([c0, c1, c2, c3, c4, c5, c6, c7, c8, c9, c10, c11, c12, c13].drop 1).take (Try.prog.cellsOf 3)) = xs[1]? := hf 1 _ rfl
  rw [hy1] at g1
  simp only [cells3, List.drop_succ_cons, List.drop_zero, List.take_succ_cons, List.take_zero] at g1
  obtain ⟨y2, hy2⟩ := hx 2 (by decide)
  have g2 : DataW.trod enc Try.prog W base sp hd n 3 (([c0, c1, c2, c3, c4, c5, c6, c7, c8, c9, c10, c11, c12, c13].drop 2).take (Try.prog.cellsOf 3)) = xs[2]? := hf 2 _ rfl
  rw [hy2] at g2
  simp only [cells3, List.drop_succ_cons, List.drop_zero, List.take_succ_cons, List.take_zero] at g2
  obtain ⟨y3, hy3⟩ := hx 3 (by decide)
  have g3 : DataW.trod enc Try.prog W base sp hd n 30 (([c0, c1, c2, c3, c4, c5, c6, c7, c8, c9, c10, c11, c12, c13].drop 3).take (Try.prog.cellsOf 30)) = xs[3]? := hf 3 _ rfl
  rw [hy3] at g3
  simp only [cells30, List.drop_succ_cons, List.drop_zero, List.take_succ_cons, List.take_zero] at g3
  obtain ⟨k0, e0, _, w0⟩ := DataW.trod_int Try.underlying5 g0
  simp only [List.cons.injEq, and_true] at e0
  subst e0
  obtain ⟨k1, e1, _, w1⟩ := DataW.trod_int Try.underlying3 g1
  simp only [List.cons.injEq, and_true] at e1
  subst e1
  obtain ⟨k2, e2, _, w2⟩ := DataW.trod_int Try.underlying3 g2
  simp only [List.cons.injEq, and_true] at e2
  subst e2
  obtain ⟨m, hm, hat, hkv⟩ := node_of g3
  have hk := Go.Vk.wf_u8' w0
  refine ⟨⟨k0, k1, k2, m⟩, ?_, hk.1, hat, hkv⟩
  have e : [c3, c4, c5, c6, c7, c8, c9, c10, c11, c12, c13] = m.cells := hm
  show [Value.int .u8 k0, .int .i64 k1, .int .i64 k2, c3, c4, c5, c6, c7, c8, c9, c10, c11, c12, c13] = [Value.int .u8 k0, .int .i64 k1, .int .i64 k2] ++ m.cells
  rw [← e]; rfl
theorem spot_none {w : World} {a : Addr} {v : Value} (h : w.cell? a = some v) : ∃ b o, a = ⟨b, o, none⟩ := by
  obtain ⟨b, o, s⟩ := a
  cases s with
  | none => exact ⟨b, o, rfl⟩
  | some x =>
    exfalso
    unfold World.cell? at h
    simp only at h
    cases hb : w.heap[b]? with
    | none => rw [hb] at h; cases h
    | some o => rw [hb] at h; cases o <;> simp at h
theorem rd_acts {fuel : Nat} {v : Value} {x : DataW H × List MemPlace} (h : DataW.trod enc Try.prog W base sp hd fuel 45 [v] = some x) : ∃ l : List ActD, ActsAt W v l ∧ l.length ≤ 9223372036854775807 ∧ ∀ y ∈ l, 0 ≤ y.kd := by
  rcases Deep.open_slice Try.underlying45 h with ⟨h1, _⟩ | ⟨a, len, cap, m, n, D, Pl, h1, h2, h3, h4, h5, h6, h7⟩
  · cases h1
    exact ⟨[], ⟨none, 0, rfl, Nat.le_refl _, fun k x hk => by simp at hk⟩, by decide, by simp⟩
  · simp only [List.cons.injEq, and_true] at h1
    subst h1
    have hlm : len ≤ m := by rw [h5]; split <;> omega
    have hcap : cap ≤ 9223372036854775807 := by unfold maxLen at h4; omega
    haveI : Inhabited ActD := ⟨⟨0, 0, 0, ⟨zN, .slice none 0 0, .slice none 0 0, none, none⟩⟩⟩
    have each : ∀ i, i < m → ∃ y : ActD, (∀ j, j < 14 → W.cell? ((a.add (i * 14)).add j) = y.cells[j]?) ∧ 0 ≤ y.kd ∧ RdAt W 2 y.m.av (attrCells y.m.nd.attrs) ∧ ∃ ka kn kc, y.m.kv = .slice ka kn kc := fun i hi => by
      obtain ⟨cs, g1, g2⟩ := h7 i hi
      rw [cells43] at g1
      obtain ⟨_, hlen, hcell⟩ := World.cells?_some g1
      obtain ⟨y, hy, hk, hat, hkv⟩ := act_of g2
      refine ⟨y, fun j hj => ?_, hk, hat, hkv⟩
      rw [← hy]
      exact hcell j hj
    obtain ⟨f, hf⟩ := Deep.choose_lt each
    refine ⟨(List.range len).map f, ⟨some a, cap, by simp, by simpa using h3, fun k x hk => ?_⟩, by simp; omega, fun y hy => ?_⟩
    · have hkl : k < len := by
        have := (List.getElem?_eq_some_iff.1 hk).1
        simpa using this
      have hx : x = f k := by
        rw [List.getElem?_map, List.getElem?_range hkl] at hk
        exact (Option.some.inj hk).symm
      subst hx
      obtain ⟨g1, g2, g3, g4⟩ := hf k (by omega)
      obtain ⟨z1, _⟩ := hf 0 (by omega)
      obtain ⟨u, hu⟩ := (f 0).cells_get (j := 0) (by decide)
      have h00 := (z1 0 (by decide)).trans hu
      rw [Nat.zero_mul] at h00
      have e0 : (a.add 0).add 0 = a := rfl
      rw [e0] at h00
      obtain ⟨b, o, rfl⟩ := spot_none h00
      refine ⟨b, o, rfl, fun j hj => ?_, g3, g4⟩
      rw [← g1 j hj, add_mk, add_mk]
    · simp only [List.mem_map, List.mem_range] at hy
      obtain ⟨k, hk, rfl⟩ := hy
      exact (hf k (by omega)).2.1
end
end Go.Proofs.Ytkafpameheohdaa
