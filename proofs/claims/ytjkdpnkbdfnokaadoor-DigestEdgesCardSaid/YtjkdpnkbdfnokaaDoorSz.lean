/- append of zeros that make makes. No program in sight. -/
import Derived.Test.YtjkdpnkbdfnokaaDoorSb
namespace Go.Vk
open Go
set_option linter.unusedSimpArgs false
set_option linter.unusedVariables false
theorem zeroCells_one (z : Value) (n : Nat) (h : z.cells = #[z]) : Builtin.zeroCells z.cells n = (List.replicate n z).toArray := by
  have := madeCells_one z n h
  rw [h] at this ⊢
  simpa [Builtin.zeroCells, madeCells] using this
theorem fill8 (a b c d e f g h : Value) (ha : oneCell a) (hb : oneCell b) (hc : oneCell c) (hd : oneCell d) (he : oneCell e) (hf : oneCell f) (hg : oneCell g) (hh : oneCell h) (z : Value) :
    Instr.fill (fun i => some (i * 1, 1)) #[z, z, z, z, z, z, z, z] [(0, a), (1, b), (2, c), (3, d), (4, e), (5, f), (6, g), (7, h)] = some #[a, b, c, d, e, f, g, h] := by
  have one : ∀ v : Value, oneCell v → v.cells = #[v] := fun v hv => by cases v <;> simp_all [oneCell, Value.cells]
  simp [Instr.fill, one a ha, one b hb, one c hc, one d hd, one e he, one f hf, one g hg, one h hh]
set_option maxHeartbeats 1000000 in
theorem app_zeros {P : Program} {t e t3 ty : Nat} {k0 : IntKind} (hT : STy P t e 1) (h3 : P.underlying t3 = some (.int k0)) {z : Value} (hz : ∀ w, (zeroValue e).run P w = .ok z w) (hz1 : z.cells = #[z]) (ho : oneCell z = true)
    {w : World} {s : Value} {c1 : List Value} {b1 : Option Nat} (h1 : SlAt w 1 s c1 b1) {n : Nat} {m : Int} (hm : m = n) (hl : c1.length + n ≤ 1000000) {K : Value → World → Prop}
    (h : ∀ v w' bo, SlAt w' 1 v (c1 ++ List.replicate n z) bo → Upd (fun b => b1 = some b) w w' → (∀ b, bo = some b → b1 = some b ∨ w.heap.size ≤ b) → K v w') :
    RunV P (Builtin.append_ #[t, t3] ty #[s, .int .i64 m]) w K := by
  subst hm
  obtain ⟨a1, n1, k1, rfl, hk1, hc1⟩ := h1.len
  have hc1' : c1.length = n1 := by omega
  have hf1 := firstCells_run (P := P) h1 hc1
  rw [Nat.mul_one] at hc1
  have hw : IntKind.i64.wrap (n : Int) = n := wrap_in (by unfold inI64; omega)
  have hneg : ¬ (n : Int) < 0 := by omega
  obtain ⟨i, hi, hi1, hi2⟩ := hT.bytes w
  have hbig : ¬ ((n : Int) * (i.bytes : Int) > 2 ^ 48) := by
    have : n * i.bytes ≤ 1000000 * 1024 := Nat.mul_le_mul (by omega) hi2
    rw [← Int.natCast_mul]; omega
  have happ : ∀ w : World, (if n * 1 = 0 then (pure #[] : Sem (Array Value)) else do pure (Builtin.zeroCells (← zeroValue e).cells n)).run P w = .ok (List.replicate n z).toArray w := by
    intro w
    by_cases h0 : n = 0
    · subst h0; simp [Sem.run]
    · rw [if_neg (by omega)]
      simp [hz w, zeroCells_one z n hz1]
  by_cases hfits : n1 + n ≤ k1
  · have key : ∃ w', (Builtin.append_ #[t, t3] ty #[.slice a1 n1 k1, .int .i64 (n : Int)]).run P w = .ok (.slice a1 (n1 + n) k1) w' ∧ SlAt w' 1 (.slice a1 (n1 + n) k1) (c1 ++ List.replicate n z) b1 ∧ Upd (fun b => b1 = some b) w w' := by
      rcases h1 with ⟨rfl, hv, rfl⟩ | ⟨b, o, m, c, cs, tt, rfl, hv, g3, g4, g5, g6, g7⟩
      · cases hv
        have hn2 : n = 0 := by omega
        subst hn2
        refine ⟨w, ?_, .inl ⟨rfl, rfl, rfl⟩, .refl _ _⟩
        have hh := happ w
        simp only [Builtin.append_, List.getElem?_toArray, List.getElem?_cons_zero, List.getElem?_cons_succ, Sem.run_bind, Sem.run_pure, Result.andThen_ok, run_underlying hT.und, run_underlying h3, hT.size, asInt, asIntOf,
          hi, hw, hneg, hbig, if_false, if_true, hfits, Bool.not_true, hh, Bool.false_eq_true, Int.toNat_natCast]
      · cases hv
        have hst := run_storeCells (P := P) (a := ⟨b, o + n1 * 1, none⟩) (List.replicate n z) 0 w (by simp [ho]) (fun j _ hj => by rw [add_mk]; exact g5.can (by simp at hj; omega))
        refine ⟨setCells w ⟨b, o + n1 * 1, none⟩ (List.replicate n z) 0, ?_, .inr ⟨b, o, n1 + n, k1, ovw cs (o + n1 * 1) (List.replicate n z), tt, rfl, rfl, hfits, by simp [hc1], g5.sets _ (o + n1 * 1) 0, by rw [ovw_size]; exact g6, ?_⟩,
          Upd.setCells (F := fun i => some b = some i) (a := ⟨b, o + n1 * 1, none⟩) w rfl _ 0⟩
        · have hh := happ w
          simp only [Builtin.append_, List.getElem?_toArray, List.getElem?_cons_zero, List.getElem?_cons_succ, Sem.run_bind, Sem.run_pure, Result.andThen_ok, run_underlying hT.und, run_underlying h3, hT.size, asInt, asIntOf,
            hi, hw, hneg, hbig, if_false, if_true, hfits, Bool.not_true, hh, Bool.false_eq_true, Int.toNat_natCast, add_mk, hst]
        · intro i hi
          rw [List.length_append] at hi
          by_cases hlt : i < c1.length
          · rw [ovw_out _ _ _ _ (by omega), g7 i hlt, List.getElem?_append_left hlt]
          · rw [List.getElem?_append_right (by omega)]
            have := ovw_in (List.replicate n z) cs (o + n1 * 1) (i - c1.length) (by omega) (by simp; omega)
            rw [show o + n1 * 1 + (i - c1.length) = o + i by omega] at this
            exact this
    obtain ⟨w', hr, hS, hU⟩ := key
    exact .of hr (h _ _ _ hS hU fun b hb => .inl hb)
  · have hcap := nextcap_le (need := n1 + n) (old := k1) (by omega)
    obtain ⟨i', hi', _, _⟩ := hT.bytes w.drew
    have hii : i' = i := by
      have e1 : (typeInfo e).run P w.drew = (match (typeInfo e).run P w with | .ok x _ => .ok x w.drew | .halt h _ => .halt h w.drew) := by
        simp only [typeInfo, program, Sem.run_bind, Sem.run, Result.andThen_ok]
        cases P.info? e <;> simp [stuck, Sem.run]
      rw [hi] at e1
      rw [hi'] at e1
      cases e1; rfl
    subst hii
    have hbytes : ¬ (Builtin.nextslicecap (n1 + n) k1 * i'.bytes > 2 ^ 48) := by
      have : Builtin.nextslicecap (n1 + n) k1 * i'.bytes ≤ (2 * (n1 + n) + 1000) * 1024 := Nat.mul_le_mul hcap hi2
      omega
    have hmax : ¬ (((n1 + n : Nat) : Int) > IntKind.i64.max) := by
      simp [IntKind.max, IntKind.bits, IntKind.signed]; omega
    have h1' : SlAt w.drew 1 (.slice a1 n1 k1) c1 b1 := h1.ext (Ext.drew w)
    have hf1' := firstCells_run (P := P) (n := n1) h1' (by omega)
    have hroom : ∀ (n : Nat) (w : World), (askRoom n).run P w = .ok () w := by
      intro n w; unfold askRoom; split <;> simp [mark, Sem.run]
    let nc := (Question.appendCap (n1 + n) k1 e).cut (w.tape w.drawn (.appendCap (n1 + n) k1 e))
    have hnc : n1 + n ≤ nc := by simp only [nc, Question.cut]; omega
    have hch : (choose (.appendCap (n1 + n) k1 e)).run P w = .ok nc w.drew := rfl
    have hh := happ w.drew
    have hr : (Builtin.append_ #[t, t3] ty #[.slice a1 n1 k1, .int .i64 (n : Int)]).run P w =
        .ok (.slice (some ⟨w.heap.size, 0, none⟩) (n1 + n) nc) (w.drew.alloc (.cells (c1.toArray ++ (List.replicate n z).toArray ++ Builtin.zeroCells z.cells (nc - (n1 + n))) e)) := by
      simp only [Builtin.append_, List.getElem?_toArray, List.getElem?_cons_zero, List.getElem?_cons_succ, Sem.run_bind, Sem.run_pure, Result.andThen_ok, run_underlying hT.und, run_underlying h3, hT.size, asInt, asIntOf,
        hi, hw, hneg, hbig, if_false, if_true, hfits, hmax, false_and, hbytes, hch, hroom, hi', hf1', Bool.not_true, hh, hz, newRow, newObj, Bool.false_eq_true, Int.toNat_natCast]
      simp [Sem.run, World.alloc_eq]
      rfl
    refine .of hr (h _ _ _ ?_ ((Ext.drew w).trans (Ext.alloc _ _)).upd fun b hb => .inr (Nat.le_of_eq (Option.some.inj hb)))
    refine .inr ⟨w.heap.size, 0, n1 + n, nc, _, e, rfl, rfl, hnc, by simp [hc1], .of (heap_alloc_new' w.drew _), ?_, ?_⟩
    · simp only [Array.size_append, List.size_toArray, zeroCells_size, hz1, hc1, List.length_replicate]
      simp; omega
    · intro j hj
      rw [Nat.zero_add, Array.getElem?_append_left (by simpa using hj), List.append_toArray]
      exact List.getElem?_toArray
end Go.Vk
