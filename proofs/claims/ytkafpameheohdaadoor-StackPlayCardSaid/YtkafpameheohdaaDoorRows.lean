/-
  NARROWER THAN 'FOR EVERY INPUT', by the rows' own cells (each row's printed sentence says how): StackBack: laid · StackScopes: laid · StackDeep: laid · StackPlay: laid · StackNone: laid.
  DERIVED. THE GIVEN ROWS OF THIS SEAT. 5 by the template 'for every input the law returns true; each argument reads behind the call as it read before'; 0 by the template 'total and deterministic' (their statements: YtkafpameheohdaaDoorTotals.lean).
  GIVEN WITH THE SEED: the statements are not yours to turn. If you find one false, say at which input.
  Laid BY PROGRAM, IN A SANDBOX (cutbox-rows.mjs): the forced cells as the released guide's own fill.sh prints them over the translation 15e4f677b04b2364… (all of the seat's roots in one cut). By AI agents, Wed Nov 11 2026. No macro, syntax, notation, axiom, sorry.
-/
import Derived.Test.YtkafpameheohdaaDoorChecked
import GoSem.Claim
import GoSem.ClaimJoined
import GoSem.ClaimMapViews
import Derived.JoinedTies
import Derived.KernelRfl
namespace Go.Proofs.YtkafpameheohdaaDoor
/- THE CELL 'sum', in the pinned program and in every row, IS THE sha256 OF THE DUMP (.gsa) THAT YtkafpameheohdaaDoorProg.lean LOADS. Nothing in Lean hashes anything: it is a label: what it is worth is what the hold of that sum in a sandbox is worth. -/
noncomputable def Tryd.pinned : Pinned := { name := "ytkafpameheohdaadoor", sum := "15e4f677b04b2364dd37e25d2284494c5bf5e54533392dc9214ce5cf525b68e0", checked := Tryd.checked }
namespace Rows
def none {H : Type} : Left H := { results := [], args := [] }

/- WHAT THE LISTED PACKAGE-LEVEL VARIABLES READ AS WHEN THE CALL BEGINS. Each datum BY PROGRAM (the guide's laid-datum.mjs) off the statement by which the dump's own 'gosem.cut.vars' lays the variable. In a bare row this is a premise. The card (YtkafpameheohdaaDoorCards.lean) ties it to the program's text. -/
def laid_lazaret_kinds_scopes {H : Type} : DataW H := .agg [.lit (.string [32, 97, 112, 112, 108, 101, 116, 32, 99, 97, 112, 116, 105, 111, 110, 32, 104, 116, 109, 108, 32, 109, 97, 114, 113, 117, 101, 101, 32, 111, 98, 106, 101, 99, 116, 32, 116, 97, 98, 108, 101, 32, 116, 100, 32, 116, 101, 109, 112, 108, 97, 116, 101, 32, 116, 104, 32]), .lit (.string [32, 97, 112, 112, 108, 101, 116, 32, 99, 97, 112, 116, 105, 111, 110, 32, 104, 116, 109, 108, 32, 109, 97, 114, 113, 117, 101, 101, 32, 111, 98, 106, 101, 99, 116, 32, 116, 97, 98, 108, 101, 32, 116, 100, 32, 116, 101, 109, 112, 108, 97, 116, 101, 32, 116, 104, 32, 111, 108, 32, 117, 108, 32]), .lit (.string [32, 97, 112, 112, 108, 101, 116, 32, 99, 97, 112, 116, 105, 111, 110, 32, 104, 116, 109, 108, 32, 109, 97, 114, 113, 117, 101, 101, 32, 111, 98, 106, 101, 99, 116, 32, 116, 97, 98, 108, 101, 32, 116, 100, 32, 116, 101, 109, 112, 108, 97, 116, 101, 32, 116, 104, 32, 98, 117, 116, 116, 111, 110, 32]), .lit (.string [32, 104, 116, 109, 108, 32, 116, 97, 98, 108, 101, 32, 116, 101, 109, 112, 108, 97, 116, 101, 32])]

/-- 'lazaretlaw15.StackBack': WHATEVER THE INPUT: true; the input reads as it did. -/
def stackBackSpec : ChangeSpec := { name := "stackBack", fn := fun _ => fun
  | [d1, d2] => { results := [.lit (.bool true)], args := [d1, d2] }
  | _ => none }
def stackBackRow : OpenClaim := { program := "ytkafpameheohdaadoor", sum := "15e4f677b04b2364dd37e25d2284494c5bf5e54533392dc9214ce5cf525b68e0", func := "lazaret/lazaretlaw15.StackBack", spec := "stackBack", inPlace := ["slices.overlaps[lazaret/stack.open]", "internal/bytealg.IndexByteString", "internal/bytealg.IndexString"], unfollowed := true, recurses := true, named := ["lazaret/kinds.scopes", "internal/bytealg.MaxLen"], apart := false, laid := [("lazaret/kinds.scopes", laid_lazaret_kinds_scopes)] }
def StackBackSaid : Prop := stackBackRow.holds Tryd.pinned (OpenSpec.ofChange stackBackSpec)

/-- ITS FALSE NEIGHBOUR: 'it returns false'. Refute it at one input. -/
def stackBackWrong : ChangeSpec := { name := "stackBack", fn := fun _ => fun
  | [d1, d2] => { results := [.lit (.bool false)], args := [d1, d2] }
  | _ => none }
def StackBackWrongFalsely : Prop := stackBackRow.holds Tryd.pinned (OpenSpec.ofChange stackBackWrong)

/-- 'lazaretlaw15.StackScopes': WHATEVER THE INPUT: true; the input reads as it did. -/
def stackScopesSpec : ChangeSpec := { name := "stackScopes", fn := fun _ => fun
  | [d1, d2] => { results := [.lit (.bool true)], args := [d1, d2] }
  | _ => none }
def stackScopesRow : OpenClaim := { program := "ytkafpameheohdaadoor", sum := "15e4f677b04b2364dd37e25d2284494c5bf5e54533392dc9214ce5cf525b68e0", func := "lazaret/lazaretlaw15.StackScopes", spec := "stackScopes", inPlace := ["slices.overlaps[lazaret/stack.open]", "internal/bytealg.IndexByteString", "internal/bytealg.IndexString"], unfollowed := true, recurses := true, named := ["lazaret/kinds.scopes", "internal/bytealg.MaxLen"], apart := false, laid := [("lazaret/kinds.scopes", laid_lazaret_kinds_scopes)] }
def StackScopesSaid : Prop := stackScopesRow.holds Tryd.pinned (OpenSpec.ofChange stackScopesSpec)

/-- ITS FALSE NEIGHBOUR: 'it returns false'. Refute it at one input. -/
def stackScopesWrong : ChangeSpec := { name := "stackScopes", fn := fun _ => fun
  | [d1, d2] => { results := [.lit (.bool false)], args := [d1, d2] }
  | _ => none }
def StackScopesWrongFalsely : Prop := stackScopesRow.holds Tryd.pinned (OpenSpec.ofChange stackScopesWrong)

/-- 'lazaretlaw15.StackDeep': WHATEVER THE INPUT: true; the input reads as it did. -/
def stackDeepSpec : ChangeSpec := { name := "stackDeep", fn := fun _ => fun
  | [d1, d2] => { results := [.lit (.bool true)], args := [d1, d2] }
  | _ => none }
def stackDeepRow : OpenClaim := { program := "ytkafpameheohdaadoor", sum := "15e4f677b04b2364dd37e25d2284494c5bf5e54533392dc9214ce5cf525b68e0", func := "lazaret/lazaretlaw15.StackDeep", spec := "stackDeep", inPlace := ["slices.overlaps[lazaret/stack.open]", "internal/bytealg.IndexByteString", "internal/bytealg.IndexString"], unfollowed := true, recurses := true, named := ["lazaret/kinds.scopes", "internal/bytealg.MaxLen"], apart := false, laid := [("lazaret/kinds.scopes", laid_lazaret_kinds_scopes)] }
def StackDeepSaid : Prop := stackDeepRow.holds Tryd.pinned (OpenSpec.ofChange stackDeepSpec)

/-- ITS FALSE NEIGHBOUR: 'it returns false'. Refute it at one input. -/
def stackDeepWrong : ChangeSpec := { name := "stackDeep", fn := fun _ => fun
  | [d1, d2] => { results := [.lit (.bool false)], args := [d1, d2] }
  | _ => none }
def StackDeepWrongFalsely : Prop := stackDeepRow.holds Tryd.pinned (OpenSpec.ofChange stackDeepWrong)

/-- 'lazaretlaw15.StackPlay': WHATEVER THE INPUT: true; the input reads as it did. -/
def stackPlaySpec : ChangeSpec := { name := "stackPlay", fn := fun _ => fun
  | [d1, d2] => { results := [.lit (.bool true)], args := [d1, d2] }
  | _ => none }
def stackPlayRow : OpenClaim := { program := "ytkafpameheohdaadoor", sum := "15e4f677b04b2364dd37e25d2284494c5bf5e54533392dc9214ce5cf525b68e0", func := "lazaret/lazaretlaw15.StackPlay", spec := "stackPlay", inPlace := ["slices.overlaps[lazaret/stack.open]", "internal/bytealg.IndexByteString", "internal/bytealg.IndexString"], unfollowed := true, recurses := true, named := ["lazaret/kinds.scopes", "internal/bytealg.MaxLen"], apart := false, laid := [("lazaret/kinds.scopes", laid_lazaret_kinds_scopes)] }
def StackPlaySaid : Prop := stackPlayRow.holds Tryd.pinned (OpenSpec.ofChange stackPlaySpec)

/-- ITS FALSE NEIGHBOUR: 'it returns false'. Refute it at one input. -/
def stackPlayWrong : ChangeSpec := { name := "stackPlay", fn := fun _ => fun
  | [d1, d2] => { results := [.lit (.bool false)], args := [d1, d2] }
  | _ => none }
def StackPlayWrongFalsely : Prop := stackPlayRow.holds Tryd.pinned (OpenSpec.ofChange stackPlayWrong)

/-- 'lazaretlaw15.StackNone': WHATEVER THE INPUT: true; the input reads as it did. -/
def stackNoneSpec : ChangeSpec := { name := "stackNone", fn := fun _ => fun
  | [d] => { results := [.lit (.bool true)], args := [d] }
  | _ => none }
def stackNoneRow : OpenClaim := { program := "ytkafpameheohdaadoor", sum := "15e4f677b04b2364dd37e25d2284494c5bf5e54533392dc9214ce5cf525b68e0", func := "lazaret/lazaretlaw15.StackNone", spec := "stackNone", inPlace := ["slices.overlaps[lazaret/stack.open]", "internal/bytealg.IndexByteString", "internal/bytealg.IndexString"], unfollowed := true, recurses := true, named := ["internal/bytealg.MaxLen", "lazaret/kinds.scopes"], apart := false, laid := [("lazaret/kinds.scopes", laid_lazaret_kinds_scopes)] }
def StackNoneSaid : Prop := stackNoneRow.holds Tryd.pinned (OpenSpec.ofChange stackNoneSpec)

/-- ITS FALSE NEIGHBOUR: 'it returns false'. Refute it at one input. -/
def stackNoneWrong : ChangeSpec := { name := "stackNone", fn := fun _ => fun
  | [d] => { results := [.lit (.bool false)], args := [d] }
  | _ => none }
def StackNoneWrongFalsely : Prop := stackNoneRow.holds Tryd.pinned (OpenSpec.ofChange stackNoneWrong)

/- THE SECOND FORM. 'bulk': how many values and letters a reading holds, each counted each time it is reached (what is shared counts as often as it is met; a slice's spare places count too). A statement '..UptoSaid' is the law's where the arguments, and the package variables that the reading takes, are together of bulk at most 1048576: NARROWER than '..Said'. Prove '..Said' where nothing that the law and all that it calls make is longer than what came in: it says more and counts as full. Else prove '..UptoSaid'. A law counts once. -/
mutual
def uptoBulk {H : Type} : DataW H → Nat
  | .lit (.string bytes) => bytes.length + 1
  | .lit _ => 1
  | .nil => 1
  | .ptr d => uptoBulk d + 1
  | .slice elems spare => uptoBulkAll elems + uptoBulkAll spare + 1
  | .agg parts => uptoBulkAll parts + 1
  | .iface _ d => uptoBulk d + 1
  | .map entries => uptoBulkEntries entries + 1
  | .held _ => 1
def uptoBulkAll {H : Type} : List (DataW H) → Nat
  | [] => 0
  | d :: r => uptoBulk d + uptoBulkAll r
def uptoBulkEntries {H : Type} : List (Lit × DataW H) → Nat
  | [] => 0
  | x :: r => uptoBulkEntry x + uptoBulkEntries r
def uptoBulkEntry {H : Type} : Lit × DataW H → Nat
  | (.string bytes, d) => bytes.length + uptoBulk d + 1
  | (_, d) => uptoBulk d + 1
 end
def uptoSmall : (H : Type) → List (DataW H) → Bool := fun _ ds => decide (uptoBulkAll ds ≤ 1048576)
def OpenSpec.upto (s : _root_.Go.ChangeSpec) : _root_.Go.OpenSpec := { _root_.Go.OpenSpec.ofChange s with cond := some uptoSmall }

/-- 'lazaretlaw15.StackBack', WHERE WHAT IT READS IS OF BULK AT MOST 1048576: true; the input reads as it did. -/
def stackBackUptoRow : OpenClaim := { program := "ytkafpameheohdaadoor", sum := "15e4f677b04b2364dd37e25d2284494c5bf5e54533392dc9214ce5cf525b68e0", func := "lazaret/lazaretlaw15.StackBack", spec := "stackBack", inPlace := ["slices.overlaps[lazaret/stack.open]", "internal/bytealg.IndexByteString", "internal/bytealg.IndexString"], unfollowed := true, recurses := true, named := ["lazaret/kinds.scopes", "internal/bytealg.MaxLen"], apart := false, laid := [("lazaret/kinds.scopes", laid_lazaret_kinds_scopes)], narrowed := true }
def StackBackUptoSaid : Prop := stackBackUptoRow.holds Tryd.pinned (OpenSpec.upto stackBackSpec)

/-- 'lazaretlaw15.StackScopes', WHERE WHAT IT READS IS OF BULK AT MOST 1048576: true; the input reads as it did. -/
def stackScopesUptoRow : OpenClaim := { program := "ytkafpameheohdaadoor", sum := "15e4f677b04b2364dd37e25d2284494c5bf5e54533392dc9214ce5cf525b68e0", func := "lazaret/lazaretlaw15.StackScopes", spec := "stackScopes", inPlace := ["slices.overlaps[lazaret/stack.open]", "internal/bytealg.IndexByteString", "internal/bytealg.IndexString"], unfollowed := true, recurses := true, named := ["lazaret/kinds.scopes", "internal/bytealg.MaxLen"], apart := false, laid := [("lazaret/kinds.scopes", laid_lazaret_kinds_scopes)], narrowed := true }
def StackScopesUptoSaid : Prop := stackScopesUptoRow.holds Tryd.pinned (OpenSpec.upto stackScopesSpec)

/-- 'lazaretlaw15.StackDeep', WHERE WHAT IT READS IS OF BULK AT MOST 1048576: true; the input reads as it did. -/
def stackDeepUptoRow : OpenClaim := { program := "ytkafpameheohdaadoor", sum := "15e4f677b04b2364dd37e25d2284494c5bf5e54533392dc9214ce5cf525b68e0", func := "lazaret/lazaretlaw15.StackDeep", spec := "stackDeep", inPlace := ["slices.overlaps[lazaret/stack.open]", "internal/bytealg.IndexByteString", "internal/bytealg.IndexString"], unfollowed := true, recurses := true, named := ["lazaret/kinds.scopes", "internal/bytealg.MaxLen"], apart := false, laid := [("lazaret/kinds.scopes", laid_lazaret_kinds_scopes)], narrowed := true }
def StackDeepUptoSaid : Prop := stackDeepUptoRow.holds Tryd.pinned (OpenSpec.upto stackDeepSpec)

/-- 'lazaretlaw15.StackPlay', WHERE WHAT IT READS IS OF BULK AT MOST 1048576: true; the input reads as it did. -/
def stackPlayUptoRow : OpenClaim := { program := "ytkafpameheohdaadoor", sum := "15e4f677b04b2364dd37e25d2284494c5bf5e54533392dc9214ce5cf525b68e0", func := "lazaret/lazaretlaw15.StackPlay", spec := "stackPlay", inPlace := ["slices.overlaps[lazaret/stack.open]", "internal/bytealg.IndexByteString", "internal/bytealg.IndexString"], unfollowed := true, recurses := true, named := ["lazaret/kinds.scopes", "internal/bytealg.MaxLen"], apart := false, laid := [("lazaret/kinds.scopes", laid_lazaret_kinds_scopes)], narrowed := true }
def StackPlayUptoSaid : Prop := stackPlayUptoRow.holds Tryd.pinned (OpenSpec.upto stackPlaySpec)

/-- 'lazaretlaw15.StackNone', WHERE WHAT IT READS IS OF BULK AT MOST 1048576: true; the input reads as it did. -/
def stackNoneUptoRow : OpenClaim := { program := "ytkafpameheohdaadoor", sum := "15e4f677b04b2364dd37e25d2284494c5bf5e54533392dc9214ce5cf525b68e0", func := "lazaret/lazaretlaw15.StackNone", spec := "stackNone", inPlace := ["slices.overlaps[lazaret/stack.open]", "internal/bytealg.IndexByteString", "internal/bytealg.IndexString"], unfollowed := true, recurses := true, named := ["internal/bytealg.MaxLen", "lazaret/kinds.scopes"], apart := false, laid := [("lazaret/kinds.scopes", laid_lazaret_kinds_scopes)], narrowed := true }
def StackNoneUptoSaid : Prop := stackNoneUptoRow.holds Tryd.pinned (OpenSpec.upto stackNoneSpec)

end Rows
end Go.Proofs.YtkafpameheohdaaDoor
