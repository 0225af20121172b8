/- Fields of a node as a value. -/
import Derived.Test.YtkafpameheohdaaGv0
set_option linter.unusedSimpArgs false
set_option linter.unusedVariables false
namespace Go.Vk
open Go
theorem Pure1_eq {P : Program} {s : Sem Value} {v : Value} (h : ∀ w, s.run P w = .ok v w) (w : World) (K : Value → World → Prop) : Pure1 P s w K = K v w := by
  refine propext ⟨fun ⟨u, h1, h2⟩ => ?_, fun hk => ⟨v, h, hk⟩⟩
  have := h1 w
  rw [h w] at this
  cases this; exact h2
end Go.Vk
namespace Go.Proofs.Ytkafpameheohdaa
open Go.Vk
theorem fld0 (m : Laid) (w : World) (K : Value → World → Prop) : Pure1 Try.prog (Instr.field 30 m.val 0) w K = K (.int .i64 m.nd.kind) w :=
  Pure1_eq (fun w => by rw [Laid.val_eq]; simp [Instr.field, run_underlying Try.underlying30, asAgg, part, Try.sizeOf3, Sem.run]) w K
theorem fld2 (m : Laid) (w : World) (K : Value → World → Prop) : Pure1 Try.prog (Instr.field 30 m.val 2) w K = K (.string m.nd.text) w :=
  Pure1_eq (fun w => by rw [Laid.val_eq]; simp [Instr.field, run_underlying Try.underlying30, asAgg, part, Try.sizeOf9, Sem.run]) w K
theorem fld7 (m : Laid) (w : World) (K : Value → World → Prop) : Pure1 Try.prog (Instr.field 30 m.val 7) w K = K (.int .i64 m.nd.content) w :=
  Pure1_eq (fun w => by rw [Laid.val_eq]; simp [Instr.field, run_underlying Try.underlying30, asAgg, part, Try.sizeOf3, Sem.run]) w K
theorem fld8 (m : Laid) (w : World) (K : Value → World → Prop) : Pure1 Try.prog (Instr.field 30 m.val 8) w K = K m.kv w :=
  Pure1_eq (fun w => by rw [Laid.val_eq]; simp [Instr.field, run_underlying Try.underlying30, asAgg, part, Try.sizeOf28, Sem.run]) w K
theorem bs3 {w : World} (x y z : Int) {K : Value → World → Prop} (h : K (.slice (some ⟨w.heap.size, 0, none⟩) 3 3) (w.alloc (.cells #[.int .i64 x, .int .i64 y, .int .i64 z] 3))) :
    RunV Try.prog (Instr.buildSlice 28 3 [(0, Value.int .i64 x), (1, .int .i64 y), (2, .int .i64 z)].toArray) w K := by
  refine .of (w' := w.alloc (.cells #[.int .i64 x, .int .i64 y, .int .i64 z] 3)) ?_ h
  have hz : ∀ w, (zeroValue 3).run Try.prog w = .ok (.int .i64 0) w := fun w => by simp [Try.zeroValue3, Sem.run]
  have hs : ∀ w, (sizeOf 3).run Try.prog w = .ok 1 w := fun w => by simp [Try.sizeOf3, Sem.run]
  have hf : Instr.fill (fun i => some (i * 1, 1)) ((Array.range (3 * 1)).map ((Value.int .i64 0).cells[· % (Value.int .i64 0).cells.size]!)) [(0, Value.int .i64 x), (1, .int .i64 y), (2, .int .i64 z)] = some #[.int .i64 x, .int .i64 y, .int .i64 z] := by
    have e0 : (Array.range (3 * 1)).map ((Value.int .i64 0).cells[· % (Value.int .i64 0).cells.size]!) = #[.int .i64 0, .int .i64 0, .int .i64 0] := by
      have e1 : Array.range (3 * 1) = #[0, 1, 2] := by decide
      rw [e1]; simp [Value.cells]
    rw [e0]; rfl
  have hlim : ¬ (3 * 1 > 2 ^ 24) := by decide
  have hne : ¬ (3 * 1 = 0) := by decide
  simp only [Instr.buildSlice, Sem.run_bind, run_underlying Try.underlying28, hs, Result.andThen_ok, hlim, if_false, hne, hz, Sem.run_pure, hf, newRow, newObj]
  simp [Sem.run]
end Go.Proofs.Ytkafpameheohdaa
