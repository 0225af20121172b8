/- More of the builtins: zeros behind a slice, copy, clear; and whether two slices overlap. -/
import Derived.Test.YtkafpameheohdaaMk
import Derived.Lib.Overlaps
import Derived.Laws.Externs
set_option linter.unusedSimpArgs false
set_option linter.unusedVariables false
namespace Go.Vk
open Go
theorem zeroCells_one (z : Value) (n : Nat) (h : z.cells = #[z]) : Builtin.zeroCells z.cells n = (List.replicate n z).toArray := by
  have := madeCells_one z n h
  rw [h] at this ⊢
  simpa [Builtin.zeroCells, madeCells] using this
set_option maxHeartbeats 1000000 in
theorem app_zeros {P : Program} {t e t3 ty : Nat} {k0 : IntKind} (hT : STy P t e 1) (h3 : P.underlying t3 = some (.int k0)) {z : Value} (hz : ∀ w, (zeroValue e).run P w = .ok z w) (hz1 : z.cells = #[z]) (ho : oneCell z = true)
    {w : World} {s : Value} {c1 : List Value} {b1 : Option Nat} (h1 : SlAt w 1 s c1 b1) {n : Nat} {m : Int} (hm : m = n) (hl : c1.length + n ≤ 1000000) {K : Value → World → Prop}
    (h : ∀ v w' bo, SlAt w' 1 v (c1 ++ List.replicate n z) bo → Upd (fun b => b1 = some b) w w' → (∀ b, bo = some b → b1 = some b ∨ w.heap.size ≤ b) → (∀ a n1 c, s = .slice a n1 c → c < n1 + n → Ext w w' ∧ (∀ b, bo = some b → w.heap.size ≤ b) ∧ ∃ b o c', v = .slice (some ⟨b, o, none⟩) (n1 + n) c') → K v w') :
    RunV P (Builtin.append_ #[t, t3] ty #[s, .int .i64 m]) w K := by
  subst hm
  obtain ⟨a1, n1, k1, rfl, hk1, hc1⟩ := h1.len
  have hc1' : c1.length = n1 := by omega
  have hf1 := firstCells_run (P := P) h1 hc1
  rw [Nat.mul_one] at hc1
  have hw : IntKind.i64.wrap (n : Int) = n := wrap_in (by unfold inI64; omega)
  have hneg : ¬ (n : Int) < 0 := by omega
  obtain ⟨i, hi, hi1, hi2⟩ := hT.bytes w
  have hbig : ¬ ((n : Int) * (i.bytes : Int) > 2 ^ 48) := by
    have : n * i.bytes ≤ 1000000 * 1024 := Nat.mul_le_mul (by omega) hi2
    rw [← Int.natCast_mul]; omega
  have happ : ∀ w : World, (if n * 1 = 0 then (pure #[] : Sem (Array Value)) else do pure (Builtin.zeroCells (← zeroValue e).cells n)).run P w = .ok (List.replicate n z).toArray w := by
    intro w
    by_cases h0 : n = 0
    · subst h0; simp [Sem.run]
    · rw [if_neg (by omega)]
      simp [hz w, zeroCells_one z n hz1]
  by_cases hfits : n1 + n ≤ k1
  · have key : ∃ w', (Builtin.append_ #[t, t3] ty #[.slice a1 n1 k1, .int .i64 (n : Int)]).run P w = .ok (.slice a1 (n1 + n) k1) w' ∧ SlAt w' 1 (.slice a1 (n1 + n) k1) (c1 ++ List.replicate n z) b1 ∧ Upd (fun b => b1 = some b) w w' := by
      rcases h1 with ⟨rfl, hv, rfl⟩ | ⟨b, o, m, c, cs, tt, rfl, hv, g3, g4, g5, g6, g7⟩
      · cases hv
        have hn2 : n = 0 := by omega
        subst hn2
        refine ⟨w, ?_, .inl ⟨rfl, rfl, rfl⟩, .refl _ _⟩
        have hh := happ w
        simp only [Builtin.append_, List.getElem?_toArray, List.getElem?_cons_zero, List.getElem?_cons_succ, Sem.run_bind, Sem.run_pure, Result.andThen_ok, run_underlying hT.und, run_underlying h3, hT.size, asInt, asIntOf,
          hi, hw, hneg, hbig, if_false, if_true, hfits, Bool.not_true, hh, Bool.false_eq_true, Int.toNat_natCast]
      · cases hv
        have hst := run_storeCells (P := P) (a := ⟨b, o + n1 * 1, none⟩) (List.replicate n z) 0 w (by simp [ho]) (fun j _ hj => by rw [add_mk]; exact g5.can (by simp at hj; omega))
        refine ⟨setCells w ⟨b, o + n1 * 1, none⟩ (List.replicate n z) 0, ?_, .inr ⟨b, o, n1 + n, k1, ovw cs (o + n1 * 1) (List.replicate n z), tt, rfl, rfl, hfits, by simp [hc1], g5.sets _ (o + n1 * 1) 0, by rw [ovw_size]; exact g6, ?_⟩,
          Upd.setCells (F := fun i => some b = some i) (a := ⟨b, o + n1 * 1, none⟩) w rfl _ 0⟩
        · have hh := happ w
          simp only [Builtin.append_, List.getElem?_toArray, List.getElem?_cons_zero, List.getElem?_cons_succ, Sem.run_bind, Sem.run_pure, Result.andThen_ok, run_underlying hT.und, run_underlying h3, hT.size, asInt, asIntOf,
            hi, hw, hneg, hbig, if_false, if_true, hfits, Bool.not_true, hh, Bool.false_eq_true, Int.toNat_natCast, add_mk, hst]
        · intro i hi
          rw [List.length_append] at hi
          by_cases hlt : i < c1.length
          · rw [ovw_out _ _ _ _ (by omega), g7 i hlt, List.getElem?_append_left hlt]
          · rw [List.getElem?_append_right (by omega)]
            have := ovw_in (List.replicate n z) cs (o + n1 * 1) (i - c1.length) (by omega) (by simp; omega)
            rw [show o + n1 * 1 + (i - c1.length) = o + i by omega] at this
            exact this
    obtain ⟨w', hr, hS, hU⟩ := key
    exact .of hr (h _ _ _ hS hU (fun b hb => .inl hb) fun a n1 c e hlt => by cases e; omega)
  · have hcap := nextcap_le (need := n1 + n) (old := k1) (by omega)
    obtain ⟨i', hi', _, _⟩ := hT.bytes w.drew
    have hii : i' = i := by
      have e1 : (typeInfo e).run P w.drew = (match (typeInfo e).run P w with | .ok x _ => .ok x w.drew | .halt h _ => .halt h w.drew) := by
        simp only [typeInfo, program, Sem.run_bind, Sem.run, Result.andThen_ok]
        cases P.info? e <;> simp [stuck, Sem.run]
      rw [hi] at e1
      rw [hi'] at e1
      cases e1; rfl
    subst hii
    have hbytes : ¬ (Builtin.nextslicecap (n1 + n) k1 * i'.bytes > 2 ^ 48) := by
      have : Builtin.nextslicecap (n1 + n) k1 * i'.bytes ≤ (2 * (n1 + n) + 1000) * 1024 := Nat.mul_le_mul hcap hi2
      omega
    have hmax : ¬ (((n1 + n : Nat) : Int) > IntKind.i64.max) := by
      simp [IntKind.max, IntKind.bits, IntKind.signed]; omega
    have h1' : SlAt w.drew 1 (.slice a1 n1 k1) c1 b1 := h1.ext (Ext.drew w)
    have hf1' := firstCells_run (P := P) (n := n1) h1' (by omega)
    have hroom : ∀ (n : Nat) (w : World), (askRoom n).run P w = .ok () w := by
      intro n w; unfold askRoom; split <;> simp [mark, Sem.run]
    let nc := (Question.appendCap (n1 + n) k1 e).cut (w.tape w.drawn (.appendCap (n1 + n) k1 e))
    have hnc : n1 + n ≤ nc := by simp only [nc, Question.cut]; omega
    have hch : (choose (.appendCap (n1 + n) k1 e)).run P w = .ok nc w.drew := rfl
    have hh := happ w.drew
    have hr : (Builtin.append_ #[t, t3] ty #[.slice a1 n1 k1, .int .i64 (n : Int)]).run P w =
        .ok (.slice (some ⟨w.heap.size, 0, none⟩) (n1 + n) nc) (w.drew.alloc (.cells (c1.toArray ++ (List.replicate n z).toArray ++ Builtin.zeroCells z.cells (nc - (n1 + n))) e)) := by
      simp only [Builtin.append_, List.getElem?_toArray, List.getElem?_cons_zero, List.getElem?_cons_succ, Sem.run_bind, Sem.run_pure, Result.andThen_ok, run_underlying hT.und, run_underlying h3, hT.size, asInt, asIntOf,
        hi, hw, hneg, hbig, if_false, if_true, hfits, hmax, false_and, hbytes, hch, hroom, hi', hf1', Bool.not_true, hh, hz, newRow, newObj, Bool.false_eq_true, Int.toNat_natCast]
      simp [Sem.run, World.alloc_eq]
      rfl
    refine .of hr (h _ _ _ ?_ ((Ext.drew w).trans (Ext.alloc _ _)).upd (fun b hb => .inr (Nat.le_of_eq (Option.some.inj hb))) fun a n1 c e _ => ⟨(Ext.drew w).trans (Ext.alloc _ _), fun b hb => Nat.le_of_eq (Option.some.inj hb), by cases e; exact ⟨_, _, _, rfl⟩⟩)
    refine .inr ⟨w.heap.size, 0, n1 + n, nc, _, e, rfl, rfl, hnc, by simp [hc1], .of (heap_alloc_new' w.drew _), ?_, ?_⟩
    · simp only [Array.size_append, List.size_toArray, zeroCells_size, hz1, hc1, List.length_replicate]
      simp; omega
    · intro j hj
      rw [Nat.zero_add, Array.getElem?_append_left (by simpa using hj), List.append_toArray]
      exact List.getElem?_toArray
theorem firstCells_take {P : Program} {w : World} {n m c n' c' : Nat} {a : Option Addr} {cells : List Value} (h : RdAt w 1 (.slice a n c) cells) (hm : m ≤ cells.length) :
    (Builtin.firstCells 1 m (.slice a n' c')).run P w = .ok (cells.take m).toArray w := by
  obtain ⟨a', n0, c0, e, _, _, h4⟩ := h
  cases e
  cases a with
  | none =>
    have : cells = [] := by
      cases cells with
      | nil => rfl
      | cons x r => obtain ⟨b, o, e, _⟩ := h4 0 x rfl; cases e
    subst this
    simp [Builtin.firstCells]
  | some a =>
    have hc : cellsAt w a (cells.take m) := by
      intro i v hv
      have hi : cells[i]? = some v := by
        rw [List.getElem?_take] at hv
        split at hv
        · exact hv
        · cases hv
      obtain ⟨b, o, e, h5⟩ := h4 i v hi
      cases e
      rw [add_mk]; exact h5
    have hr := run_loadCells (P := P) hc
    rw [List.length_take, Nat.min_eq_left hm] at hr
    simpa [Builtin.firstCells] using hr
/-- copy, whatever is longer, wherever both lie -/
theorem copy_part {P : Program} {t e ty t2 : Nat} (hT : P.underlying t = some (.slice e)) (hs : ∀ w, (sizeOf e).run P w = .ok 1 w) {w : World} {b o n c : Nat} {x : Value} {c2 : List Value} {k : Nat}
    (h2 : RdAt w 1 x c2) (ho : c2.all oneCell = true) (hk : k = min c2.length n) (hc : ∀ j, j < k → canStore w ⟨b, o + j, none⟩) {K : Value → World → Prop}
    (h : K (.int .i64 (k : Int)) (setCells w ⟨b, o, none⟩ (c2.take k) 0)) : RunV P (Builtin.copy_ #[t, t2] ty #[.slice (some ⟨b, o, none⟩) n c, x]) w K := by
  have h2' := h2
  obtain ⟨a2, n2, k2, rfl, hk2, hc2, _⟩ := h2'
  rw [Nat.mul_one] at hc2
  have hf2 := firstCells_take (P := P) (m := k) (n' := n2) (c' := k2) h2 (by omega)
  have hst := run_storeCells (P := P) (a := ⟨b, o, none⟩) (c2.take k) 0 w (by rw [List.all_eq_true] at ho ⊢; exact fun x hx => ho x (List.mem_of_mem_take hx)) (fun j _ hj => by rw [add_mk]; exact hc j (by rw [List.length_take] at hj; omega))
  refine .of (w' := setCells w ⟨b, o, none⟩ (c2.take k) 0) ?_ h
  have hm : Nat.min n2 n = k := by rw [hk, hc2]
  simp [Builtin.copy_, run_underlying hT, hs, Builtin.lenOf, hm, hf2, hst, goInt]
theorem clear_part {P : Program} {t e ty : Nat} (hT : P.underlying t = some (.slice e)) {z : Value} (hz : ∀ w, (zeroValue e).run P w = .ok z w) (hz1 : z.cells = #[z]) (ho : oneCell z = true) {w : World} {b o n c : Nat}
    (hc : ∀ j, j < n → canStore w ⟨b, o + j, none⟩) {K : Value → World → Prop} (h : K (.tuple #[]) (setCells w ⟨b, o, none⟩ (List.replicate n z) 0)) : RunV P (Builtin.clear_ #[t] ty #[.slice (some ⟨b, o, none⟩) n c]) w K := by
  refine .of (w' := setCells w ⟨b, o, none⟩ (List.replicate n z) 0) ?_ h
  cases n with
  | zero => simp [Builtin.clear_, run_underlying hT, setCells]
  | succ n =>
    have hst := run_storeCells (P := P) (a := ⟨b, o, none⟩) (List.replicate (n + 1) z) 0 w (by simp [ho]) (fun j _ hj => by rw [add_mk]; exact hc j (by simpa using hj))
    simp [Builtin.clear_, run_underlying hT, hz, zeroCells_one z (n + 1) hz1, hst]
theorem cap_part {P : Program} {t e ty : Nat} (hT : P.underlying t = some (.slice e)) {w : World} {a : Option Addr} {n c : Nat} {K : Value → World → Prop} (h : K (.int .i64 (c : Int)) w) : RunV P (Builtin.cap_ #[t] ty #[.slice a n c]) w K := by
  refine .of (w' := w) ?_ h
  simp [Builtin.cap_, run_underlying hT, goInt]
end Go.Vk
namespace Go.Proofs.Ytkafpameheohdaa
open Go Go.Vk
theorem overlaps_c {w : World} {va vb : Value} {a b : Addr} {la ca lb cb : Nat} (ea : va = .slice (some a) la ca) (eb : vb = .slice (some b) lb cb) (hne : a.block ≠ b.block) {tA tB : TypeId} {kA kB : Nat}
    (hsa : w.shape? a.block = some (tA, kA)) (hsb : w.shape? b.block = some (tB, kB)) (hkB : kB ≠ 0) (hfa : w.frozen? a = false) (hfe : w.frozen? { block := a.block, off := kA } = false) :
    Gives Try.prog 94 #[va, vb] w fun v w' => v = .bool false ∧ w' = w := by
  subst ea; subst eb
  refine Gives.of_ext (v := .bool false) (w' := w) ?_ ⟨rfl, rfl⟩
  rw [run_callFunc_extern Try.func94 (by kernel_rfl) (by kernel_rfl) (by kernel_rfl) (e := Extern.SlicesOverlaps.overlaps #[28, 28] #[4]) (by kernel_rfl),
    Lib.run_overlaps_apart w 28 4 3 Try.underlying28 1 (fun w => by simp [Try.sizeOf3, Sem.run]) a b la ca lb cb hne tA tB kA kB hsa hsb hkB hfa hfe]
  rfl
end Go.Proofs.Ytkafpameheohdaa
