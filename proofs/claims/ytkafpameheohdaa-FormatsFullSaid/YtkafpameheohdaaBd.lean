/- Structs that are built of some of their fields. -/
import Derived.Test.YtkafpameheohdaaHd
import Derived.Test.YtkafpameheohdaaSl
set_option linter.unusedSimpArgs false
set_option linter.unusedVariables false
namespace Go.Vk
noncomputable def fsOf (P : Program) (t : TypeId) : Array Field := match P.underlying t with
  | some (.struct fs) => fs
  | _ => #[]
noncomputable def plOf (f : Field) : Sem (Nat × Nat) := do pure (f.offset, ← sizeOf f.type)
theorem build_struct {P : Program} {t : TypeId} {z : Value} {fs : Array Field} {pl : Array (Nat × Nat)} (hz : ∀ w, (zeroValue t).run P w = .ok z w) (hu : P.underlying t = some (.struct fs))
    (hp : ∀ w, (fs.mapM plOf).run P w = .ok pl w) {parts : List (Nat × Value)} {cs : Array Value} (hf : Instr.fill (pl[·]?) z.cells parts = some cs)
    {w : World} {K : Value → World → Prop} (h : K (.agg cs) w) : Pure1 P (Instr.build t parts.toArray) w K := by
  refine ⟨_, fun w => ?_, h⟩
  simp only [Instr.build, Sem.run_bind, hz w, Result.andThen, run_underlying hu w]
  have hp' := hp w
  unfold plOf at hp'
  rw [hp']
  simp [Result.andThen, hf, Sem.run]
end Go.Vk
namespace Go.Proofs.Ytkafpameheohdaa
open Go.Vk
set_option maxHeartbeats 40000000
theorem pl30 (w : World) : ((fsOf Try.prog 30).mapM plOf).run Try.prog w = .ok #[(0,1),(1,1),(2,1),(3,1),(4,1),(5,1),(6,1),(7,1),(8,1),(9,1),(10,1)] w := by
  simp [fsOf, plOf, Try.underlying30, Sem.run, Try.sizeOf3, Try.sizeOf9, Try.sizeOf4, Try.sizeOf27, Try.sizeOf28]
theorem un30 : Try.prog.underlying 30 = some (.struct (fsOf Try.prog 30)) := by rw [fsOf, Try.underlying30]
theorem pl49 (w : World) : ((fsOf Try.prog 49).mapM plOf).run Try.prog w = .ok #[(0,1)] w := by
  simp [fsOf, plOf, Try.underlying49, Sem.run, Try.sizeOf39]
theorem un49 : Try.prog.underlying 49 = some (.struct (fsOf Try.prog 49)) := by rw [fsOf, Try.underlying49]
end Go.Proofs.Ytkafpameheohdaa
