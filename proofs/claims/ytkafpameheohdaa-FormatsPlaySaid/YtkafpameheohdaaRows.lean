/-
  No cell of these rows narrows 'for every input' (looked for: loops, veiled, ifaces, maps, wideKeys, modest, calm, conditions, laid).
  DERIVED. THE GIVEN ROWS OF THIS SEAT. 9 by the template 'for every input the law returns true; each argument reads behind the call as it read before'; 0 by the template 'total and deterministic' (their statements: YtkafpameheohdaaTotals.lean).
  GIVEN WITH THE SEED: the statements are not yours to turn. If you find one false, say at which input.
  Laid BY PROGRAM, IN A SANDBOX (cutbox-rows.mjs): the forced cells as the released guide's own fill.sh prints them over the translation 7992196bb738c295… (all of the seat's roots in one cut). By AI agents, Wed Nov 11 2026. No macro, syntax, notation, axiom, sorry.
-/
import Derived.Test.YtkafpameheohdaaChecked
import GoSem.Claim
import GoSem.ClaimJoined
import GoSem.ClaimMapViews
import Derived.JoinedTies
import Derived.KernelRfl
namespace Go.Proofs.Ytkafpameheohdaa
/- THE CELL 'sum', in the pinned program and in every row, IS THE sha256 OF THE DUMP (.gsa) THAT YtkafpameheohdaaProg.lean LOADS. Nothing in Lean hashes anything: it is a label: what it is worth is what the hold of that sum in a sandbox is worth. -/
noncomputable def Try.pinned : Pinned := { name := "ytkafpameheohdaa", sum := "7992196bb738c295ca32c6ddddebedf7b8de4f62f7d1bd9fbdcda94fc86c693a", checked := Try.checked }
namespace Rows
def none {H : Type} : Left H := { results := [], args := [] }

/-- 'lazaretlaw14.ArenaText': WHATEVER THE INPUT: true; the input reads as it did. -/
def arenaTextSpec : ChangeSpec := { name := "arenaText", fn := fun _ => fun
  | [d] => { results := [.lit (.bool true)], args := [d] }
  | _ => none }
def arenaTextRow : OpenClaim := { program := "ytkafpameheohdaa", sum := "7992196bb738c295ca32c6ddddebedf7b8de4f62f7d1bd9fbdcda94fc86c693a", func := "lazaret/lazaretlaw14.ArenaText", spec := "arenaText", apart := false }
def ArenaTextSaid : Prop := arenaTextRow.holds Try.pinned (OpenSpec.ofChange arenaTextSpec)

/-- ITS FALSE NEIGHBOUR: 'it returns false'. Refute it at one input. -/
def arenaTextWrong : ChangeSpec := { name := "arenaText", fn := fun _ => fun
  | [d] => { results := [.lit (.bool false)], args := [d] }
  | _ => none }
def ArenaTextWrongFalsely : Prop := arenaTextRow.holds Try.pinned (OpenSpec.ofChange arenaTextWrong)

/-- 'lazaretlaw14.ArenaMove': WHATEVER THE INPUT: true; the input reads as it did. -/
def arenaMoveSpec : ChangeSpec := { name := "arenaMove", fn := fun _ => fun
  | [d1, d2] => { results := [.lit (.bool true)], args := [d1, d2] }
  | _ => none }
def arenaMoveRow : OpenClaim := { program := "ytkafpameheohdaa", sum := "7992196bb738c295ca32c6ddddebedf7b8de4f62f7d1bd9fbdcda94fc86c693a", func := "lazaret/lazaretlaw14.ArenaMove", spec := "arenaMove", apart := false }
def ArenaMoveSaid : Prop := arenaMoveRow.holds Try.pinned (OpenSpec.ofChange arenaMoveSpec)

/-- ITS FALSE NEIGHBOUR: 'it returns false'. Refute it at one input. -/
def arenaMoveWrong : ChangeSpec := { name := "arenaMove", fn := fun _ => fun
  | [d1, d2] => { results := [.lit (.bool false)], args := [d1, d2] }
  | _ => none }
def ArenaMoveWrongFalsely : Prop := arenaMoveRow.holds Try.pinned (OpenSpec.ofChange arenaMoveWrong)

/-- 'lazaretlaw14.ArenaNone': WHATEVER THE INPUT: true; the input reads as it did. -/
def arenaNoneSpec : ChangeSpec := { name := "arenaNone", fn := fun _ => fun
  | [d] => { results := [.lit (.bool true)], args := [d] }
  | _ => none }
def arenaNoneRow : OpenClaim := { program := "ytkafpameheohdaa", sum := "7992196bb738c295ca32c6ddddebedf7b8de4f62f7d1bd9fbdcda94fc86c693a", func := "lazaret/lazaretlaw14.ArenaNone", spec := "arenaNone", unfollowed := true, recurses := true, apart := false }
def ArenaNoneSaid : Prop := arenaNoneRow.holds Try.pinned (OpenSpec.ofChange arenaNoneSpec)

/-- ITS FALSE NEIGHBOUR: 'it returns false'. Refute it at one input. -/
def arenaNoneWrong : ChangeSpec := { name := "arenaNone", fn := fun _ => fun
  | [d] => { results := [.lit (.bool false)], args := [d] }
  | _ => none }
def ArenaNoneWrongFalsely : Prop := arenaNoneRow.holds Try.pinned (OpenSpec.ofChange arenaNoneWrong)

/-- 'lazaretlaw14.ArenaTree': WHATEVER THE INPUT: true; the input reads as it did. -/
def arenaTreeSpec : ChangeSpec := { name := "arenaTree", fn := fun _ => fun
  | [d] => { results := [.lit (.bool true)], args := [d] }
  | _ => none }
def arenaTreeRow : OpenClaim := { program := "ytkafpameheohdaa", sum := "7992196bb738c295ca32c6ddddebedf7b8de4f62f7d1bd9fbdcda94fc86c693a", func := "lazaret/lazaretlaw14.ArenaTree", spec := "arenaTree", unfollowed := true, recurses := true, apart := false }
def ArenaTreeSaid : Prop := arenaTreeRow.holds Try.pinned (OpenSpec.ofChange arenaTreeSpec)

/-- ITS FALSE NEIGHBOUR: 'it returns false'. Refute it at one input. -/
def arenaTreeWrong : ChangeSpec := { name := "arenaTree", fn := fun _ => fun
  | [d] => { results := [.lit (.bool false)], args := [d] }
  | _ => none }
def ArenaTreeWrongFalsely : Prop := arenaTreeRow.holds Try.pinned (OpenSpec.ofChange arenaTreeWrong)

/-- 'lazaretlaw16.FormatsThree': WHATEVER THE INPUT: true; the input reads as it did. -/
def formatsThreeSpec : ChangeSpec := { name := "formatsThree", fn := fun _ => fun
  | [d1, d2] => { results := [.lit (.bool true)], args := [d1, d2] }
  | _ => none }
def formatsThreeRow : OpenClaim := { program := "ytkafpameheohdaa", sum := "7992196bb738c295ca32c6ddddebedf7b8de4f62f7d1bd9fbdcda94fc86c693a", func := "lazaret/lazaretlaw16.FormatsThree", spec := "formatsThree", inPlace := ["slices.overlaps[int]"], unfollowed := true, recurses := true, apart := false }
def FormatsThreeSaid : Prop := formatsThreeRow.holds Try.pinned (OpenSpec.ofChange formatsThreeSpec)

/-- ITS FALSE NEIGHBOUR: 'it returns false'. Refute it at one input. -/
def formatsThreeWrong : ChangeSpec := { name := "formatsThree", fn := fun _ => fun
  | [d1, d2] => { results := [.lit (.bool false)], args := [d1, d2] }
  | _ => none }
def FormatsThreeWrongFalsely : Prop := formatsThreeRow.holds Try.pinned (OpenSpec.ofChange formatsThreeWrong)

/-- 'lazaretlaw16.FormatsMark': WHATEVER THE INPUT: true; the input reads as it did. -/
def formatsMarkSpec : ChangeSpec := { name := "formatsMark", fn := fun _ => fun
  | [d1, d2, d3] => { results := [.lit (.bool true)], args := [d1, d2, d3] }
  | _ => none }
def formatsMarkRow : OpenClaim := { program := "ytkafpameheohdaa", sum := "7992196bb738c295ca32c6ddddebedf7b8de4f62f7d1bd9fbdcda94fc86c693a", func := "lazaret/lazaretlaw16.FormatsMark", spec := "formatsMark", inPlace := ["slices.overlaps[int]"], unfollowed := true, recurses := true, apart := false }
def FormatsMarkSaid : Prop := formatsMarkRow.holds Try.pinned (OpenSpec.ofChange formatsMarkSpec)

/-- ITS FALSE NEIGHBOUR: 'it returns false'. Refute it at one input. -/
def formatsMarkWrong : ChangeSpec := { name := "formatsMark", fn := fun _ => fun
  | [d1, d2, d3] => { results := [.lit (.bool false)], args := [d1, d2, d3] }
  | _ => none }
def FormatsMarkWrongFalsely : Prop := formatsMarkRow.holds Try.pinned (OpenSpec.ofChange formatsMarkWrong)

/-- 'lazaretlaw16.FormatsPlay': WHATEVER THE INPUT: true; the input reads as it did. -/
def formatsPlaySpec : ChangeSpec := { name := "formatsPlay", fn := fun _ => fun
  | [d1, d2] => { results := [.lit (.bool true)], args := [d1, d2] }
  | _ => none }
def formatsPlayRow : OpenClaim := { program := "ytkafpameheohdaa", sum := "7992196bb738c295ca32c6ddddebedf7b8de4f62f7d1bd9fbdcda94fc86c693a", func := "lazaret/lazaretlaw16.FormatsPlay", spec := "formatsPlay", inPlace := ["slices.overlaps[int]"], unfollowed := true, recurses := true, apart := false }
def FormatsPlaySaid : Prop := formatsPlayRow.holds Try.pinned (OpenSpec.ofChange formatsPlaySpec)

/-- ITS FALSE NEIGHBOUR: 'it returns false'. Refute it at one input. -/
def formatsPlayWrong : ChangeSpec := { name := "formatsPlay", fn := fun _ => fun
  | [d1, d2] => { results := [.lit (.bool false)], args := [d1, d2] }
  | _ => none }
def FormatsPlayWrongFalsely : Prop := formatsPlayRow.holds Try.pinned (OpenSpec.ofChange formatsPlayWrong)

/-- 'lazaretlaw16.FormatsNone': WHATEVER THE INPUT: true; the input reads as it did. -/
def formatsNoneSpec : ChangeSpec := { name := "formatsNone", fn := fun _ => fun
  | [d] => { results := [.lit (.bool true)], args := [d] }
  | _ => none }
def formatsNoneRow : OpenClaim := { program := "ytkafpameheohdaa", sum := "7992196bb738c295ca32c6ddddebedf7b8de4f62f7d1bd9fbdcda94fc86c693a", func := "lazaret/lazaretlaw16.FormatsNone", spec := "formatsNone", inPlace := ["slices.overlaps[int]"], unfollowed := true, recurses := true, apart := false }
def FormatsNoneSaid : Prop := formatsNoneRow.holds Try.pinned (OpenSpec.ofChange formatsNoneSpec)

/-- ITS FALSE NEIGHBOUR: 'it returns false'. Refute it at one input. -/
def formatsNoneWrong : ChangeSpec := { name := "formatsNone", fn := fun _ => fun
  | [d] => { results := [.lit (.bool false)], args := [d] }
  | _ => none }
def FormatsNoneWrongFalsely : Prop := formatsNoneRow.holds Try.pinned (OpenSpec.ofChange formatsNoneWrong)

/-- 'lazaretlaw16.FormatsFull': WHATEVER THE INPUT: true; the input reads as it did. -/
def formatsFullSpec : ChangeSpec := { name := "formatsFull", fn := fun _ => fun
  | [d] => { results := [.lit (.bool true)], args := [d] }
  | _ => none }
def formatsFullRow : OpenClaim := { program := "ytkafpameheohdaa", sum := "7992196bb738c295ca32c6ddddebedf7b8de4f62f7d1bd9fbdcda94fc86c693a", func := "lazaret/lazaretlaw16.FormatsFull", spec := "formatsFull", inPlace := ["slices.overlaps[int]"], unfollowed := true, recurses := true, apart := false }
def FormatsFullSaid : Prop := formatsFullRow.holds Try.pinned (OpenSpec.ofChange formatsFullSpec)

/-- ITS FALSE NEIGHBOUR: 'it returns false'. Refute it at one input. -/
def formatsFullWrong : ChangeSpec := { name := "formatsFull", fn := fun _ => fun
  | [d] => { results := [.lit (.bool false)], args := [d] }
  | _ => none }
def FormatsFullWrongFalsely : Prop := formatsFullRow.holds Try.pinned (OpenSpec.ofChange formatsFullWrong)

/- THE SECOND FORM. 'bulk': how many values and letters a reading holds, each counted each time it is reached (what is shared counts as often as it is met; a slice's spare places count too). A statement '..UptoSaid' is the law's where the arguments, and the package variables that the reading takes, are together of bulk at most 1048576: NARROWER than '..Said'. Prove '..Said' where nothing that the law and all that it calls make is longer than what came in: it says more and counts as full. Else prove '..UptoSaid'. A law counts once. -/
mutual
def uptoBulk {H : Type} : DataW H → Nat
  | .lit (.string bytes) => bytes.length + 1
  | .lit _ => 1
  | .nil => 1
  | .ptr d => uptoBulk d + 1
  | .slice elems spare => uptoBulkAll elems + uptoBulkAll spare + 1
  | .agg parts => uptoBulkAll parts + 1
  | .iface _ d => uptoBulk d + 1
  | .map entries => uptoBulkEntries entries + 1
  | .held _ => 1
def uptoBulkAll {H : Type} : List (DataW H) → Nat
  | [] => 0
  | d :: r => uptoBulk d + uptoBulkAll r
def uptoBulkEntries {H : Type} : List (Lit × DataW H) → Nat
  | [] => 0
  | x :: r => uptoBulkEntry x + uptoBulkEntries r
def uptoBulkEntry {H : Type} : Lit × DataW H → Nat
  | (.string bytes, d) => bytes.length + uptoBulk d + 1
  | (_, d) => uptoBulk d + 1
 end
def uptoSmall : (H : Type) → List (DataW H) → Bool := fun _ ds => decide (uptoBulkAll ds ≤ 1048576)
def OpenSpec.upto (s : _root_.Go.ChangeSpec) : _root_.Go.OpenSpec := { _root_.Go.OpenSpec.ofChange s with cond := some uptoSmall }

/-- 'lazaretlaw14.ArenaText', WHERE WHAT IT READS IS OF BULK AT MOST 1048576: true; the input reads as it did. -/
def arenaTextUptoRow : OpenClaim := { program := "ytkafpameheohdaa", sum := "7992196bb738c295ca32c6ddddebedf7b8de4f62f7d1bd9fbdcda94fc86c693a", func := "lazaret/lazaretlaw14.ArenaText", spec := "arenaText", apart := false, narrowed := true }
def ArenaTextUptoSaid : Prop := arenaTextUptoRow.holds Try.pinned (OpenSpec.upto arenaTextSpec)

/-- 'lazaretlaw14.ArenaMove', WHERE WHAT IT READS IS OF BULK AT MOST 1048576: true; the input reads as it did. -/
def arenaMoveUptoRow : OpenClaim := { program := "ytkafpameheohdaa", sum := "7992196bb738c295ca32c6ddddebedf7b8de4f62f7d1bd9fbdcda94fc86c693a", func := "lazaret/lazaretlaw14.ArenaMove", spec := "arenaMove", apart := false, narrowed := true }
def ArenaMoveUptoSaid : Prop := arenaMoveUptoRow.holds Try.pinned (OpenSpec.upto arenaMoveSpec)

/-- 'lazaretlaw14.ArenaNone', WHERE WHAT IT READS IS OF BULK AT MOST 1048576: true; the input reads as it did. -/
def arenaNoneUptoRow : OpenClaim := { program := "ytkafpameheohdaa", sum := "7992196bb738c295ca32c6ddddebedf7b8de4f62f7d1bd9fbdcda94fc86c693a", func := "lazaret/lazaretlaw14.ArenaNone", spec := "arenaNone", unfollowed := true, recurses := true, apart := false, narrowed := true }
def ArenaNoneUptoSaid : Prop := arenaNoneUptoRow.holds Try.pinned (OpenSpec.upto arenaNoneSpec)

/-- 'lazaretlaw14.ArenaTree', WHERE WHAT IT READS IS OF BULK AT MOST 1048576: true; the input reads as it did. -/
def arenaTreeUptoRow : OpenClaim := { program := "ytkafpameheohdaa", sum := "7992196bb738c295ca32c6ddddebedf7b8de4f62f7d1bd9fbdcda94fc86c693a", func := "lazaret/lazaretlaw14.ArenaTree", spec := "arenaTree", unfollowed := true, recurses := true, apart := false, narrowed := true }
def ArenaTreeUptoSaid : Prop := arenaTreeUptoRow.holds Try.pinned (OpenSpec.upto arenaTreeSpec)

/-- 'lazaretlaw16.FormatsThree', WHERE WHAT IT READS IS OF BULK AT MOST 1048576: true; the input reads as it did. -/
def formatsThreeUptoRow : OpenClaim := { program := "ytkafpameheohdaa", sum := "7992196bb738c295ca32c6ddddebedf7b8de4f62f7d1bd9fbdcda94fc86c693a", func := "lazaret/lazaretlaw16.FormatsThree", spec := "formatsThree", inPlace := ["slices.overlaps[int]"], unfollowed := true, recurses := true, apart := false, narrowed := true }
def FormatsThreeUptoSaid : Prop := formatsThreeUptoRow.holds Try.pinned (OpenSpec.upto formatsThreeSpec)

/-- 'lazaretlaw16.FormatsMark', WHERE WHAT IT READS IS OF BULK AT MOST 1048576: true; the input reads as it did. -/
def formatsMarkUptoRow : OpenClaim := { program := "ytkafpameheohdaa", sum := "7992196bb738c295ca32c6ddddebedf7b8de4f62f7d1bd9fbdcda94fc86c693a", func := "lazaret/lazaretlaw16.FormatsMark", spec := "formatsMark", inPlace := ["slices.overlaps[int]"], unfollowed := true, recurses := true, apart := false, narrowed := true }
def FormatsMarkUptoSaid : Prop := formatsMarkUptoRow.holds Try.pinned (OpenSpec.upto formatsMarkSpec)

/-- 'lazaretlaw16.FormatsPlay', WHERE WHAT IT READS IS OF BULK AT MOST 1048576: true; the input reads as it did. -/
def formatsPlayUptoRow : OpenClaim := { program := "ytkafpameheohdaa", sum := "7992196bb738c295ca32c6ddddebedf7b8de4f62f7d1bd9fbdcda94fc86c693a", func := "lazaret/lazaretlaw16.FormatsPlay", spec := "formatsPlay", inPlace := ["slices.overlaps[int]"], unfollowed := true, recurses := true, apart := false, narrowed := true }
def FormatsPlayUptoSaid : Prop := formatsPlayUptoRow.holds Try.pinned (OpenSpec.upto formatsPlaySpec)

/-- 'lazaretlaw16.FormatsNone', WHERE WHAT IT READS IS OF BULK AT MOST 1048576: true; the input reads as it did. -/
def formatsNoneUptoRow : OpenClaim := { program := "ytkafpameheohdaa", sum := "7992196bb738c295ca32c6ddddebedf7b8de4f62f7d1bd9fbdcda94fc86c693a", func := "lazaret/lazaretlaw16.FormatsNone", spec := "formatsNone", inPlace := ["slices.overlaps[int]"], unfollowed := true, recurses := true, apart := false, narrowed := true }
def FormatsNoneUptoSaid : Prop := formatsNoneUptoRow.holds Try.pinned (OpenSpec.upto formatsNoneSpec)

/-- 'lazaretlaw16.FormatsFull', WHERE WHAT IT READS IS OF BULK AT MOST 1048576: true; the input reads as it did. -/
def formatsFullUptoRow : OpenClaim := { program := "ytkafpameheohdaa", sum := "7992196bb738c295ca32c6ddddebedf7b8de4f62f7d1bd9fbdcda94fc86c693a", func := "lazaret/lazaretlaw16.FormatsFull", spec := "formatsFull", inPlace := ["slices.overlaps[int]"], unfollowed := true, recurses := true, apart := false, narrowed := true }
def FormatsFullUptoSaid : Prop := formatsFullUptoRow.holds Try.pinned (OpenSpec.upto formatsFullSpec)

end Rows
end Go.Proofs.Ytkafpameheohdaa
