/-
  NARROWER THAN 'FOR EVERY INPUT', by the rows' own cells (each row's printed sentence says how): BuilderRebuild: laid · BuilderDeep: laid · BuilderText: laid · BuilderReset: laid · AdoptPlain: laid · AdoptNone: laid · HeadsSpaces: laid · HeadsNone: laid · HeadsRaw: laid · AdoptTexts: laid · BuilderNone: laid · HeadsBody: laid · HeadsPlay: laid.
  DERIVED. THE GIVEN ROWS OF THIS SEAT. 13 by the template 'for every input the law returns true; each argument reads behind the call as it read before'; 0 by the template 'total and deterministic' (their statements: YtgnnlaeikcnhcaaGreatDoorTotals.lean).
  GIVEN WITH THE SEED: the statements are not yours to turn. If you find one false, say at which input.
  Laid BY PROGRAM, IN A SANDBOX (cutbox-rows.mjs): the forced cells as the released guide's own fill.sh prints them over the translation 99c718a74f476280… (all of the seat's roots in one cut). By AI agents, Wed Nov 11 2026. No macro, syntax, notation, axiom, sorry.
-/
import Derived.Test.YtgnnlaeikcnhcaaGreatDoorChecked
import GoSem.Claim
import GoSem.ClaimJoined
import GoSem.ClaimMapViews
import Derived.JoinedTies
import Derived.KernelRfl
namespace Go.Proofs.YtgnnlaeikcnhcaaGreatDoor
/- THE CELL 'sum', in the pinned program and in every row, IS THE sha256 OF THE DUMP (.gsa) THAT YtgnnlaeikcnhcaaGreatDoorProg.lean LOADS. Nothing in Lean hashes anything: it is a label: what it is worth is what the hold of that sum in a sandbox is worth. -/
noncomputable def Tryz.pinned : Pinned := { name := "ytgnnlaeikcnhcaagreatdoor", sum := "99c718a74f476280b3d943b6c7d392046d020b5ee8d68ca7b94143c30d8da498", checked := Tryz.checked }
namespace Rows
def none {H : Type} : Left H := { results := [], args := [] }

/- WHAT THE LISTED PACKAGE-LEVEL VARIABLES READ AS WHEN THE CALL BEGINS. Each datum BY PROGRAM (the guide's laid-datum.mjs) off the statement by which the dump's own 'gosem.cut.vars' lays the variable. In a bare row this is a premise. The card (YtgnnlaeikcnhcaaGreatDoorCards.lean) ties it to the program's text. -/
def laid_errors_errorType {H : Type} : DataW H := .iface "internal/reflectlite.rtype" (.agg [.ptr (.lit (.string [101, 114, 114, 111, 114]))])
def laid_lazaret_builder_by {H : Type} : DataW H := .map [(.string [98, 111, 100, 121], .lit (.int .i64 6)), (.string [99, 97, 112, 116, 105, 111, 110], .lit (.int .i64 10)), (.string [99, 111, 108, 103, 114, 111, 117, 112], .lit (.int .i64 11)), (.string [104, 101, 97, 100], .lit (.int .i64 3)), (.string [116, 97, 98, 108, 101], .lit (.int .i64 8)), (.string [116, 98, 111, 100, 121], .lit (.int .i64 12)), (.string [116, 100], .lit (.int .i64 14)), (.string [116, 102, 111, 111, 116], .lit (.int .i64 12)), (.string [116, 104], .lit (.int .i64 14)), (.string [116, 104, 101, 97, 100], .lit (.int .i64 12)), (.string [116, 114], .lit (.int .i64 13))]
def laid_lazaret_kinds_scopes {H : Type} : DataW H := .agg [.lit (.string [32, 97, 112, 112, 108, 101, 116, 32, 99, 97, 112, 116, 105, 111, 110, 32, 104, 116, 109, 108, 32, 109, 97, 114, 113, 117, 101, 101, 32, 111, 98, 106, 101, 99, 116, 32, 116, 97, 98, 108, 101, 32, 116, 100, 32, 116, 101, 109, 112, 108, 97, 116, 101, 32, 116, 104, 32]), .lit (.string [32, 97, 112, 112, 108, 101, 116, 32, 99, 97, 112, 116, 105, 111, 110, 32, 104, 116, 109, 108, 32, 109, 97, 114, 113, 117, 101, 101, 32, 111, 98, 106, 101, 99, 116, 32, 116, 97, 98, 108, 101, 32, 116, 100, 32, 116, 101, 109, 112, 108, 97, 116, 101, 32, 116, 104, 32, 111, 108, 32, 117, 108, 32]), .lit (.string [32, 97, 112, 112, 108, 101, 116, 32, 99, 97, 112, 116, 105, 111, 110, 32, 104, 116, 109, 108, 32, 109, 97, 114, 113, 117, 101, 101, 32, 111, 98, 106, 101, 99, 116, 32, 116, 97, 98, 108, 101, 32, 116, 100, 32, 116, 101, 109, 112, 108, 97, 116, 101, 32, 116, 104, 32, 98, 117, 116, 116, 111, 110, 32]), .lit (.string [32, 104, 116, 109, 108, 32, 116, 97, 98, 108, 101, 32, 116, 101, 109, 112, 108, 97, 116, 101, 32])]
def laid_lazaret_heads_steps {H : Type} : DataW H := .iface "func table" (.map [(.int .i64 0, .iface "func" (.lit (.string [108, 97, 122, 97, 114, 101, 116, 47, 104, 101, 97, 100, 115, 46, 105, 110, 105, 116, 105, 97, 108]))), (.int .i64 1, .iface "func" (.lit (.string [108, 97, 122, 97, 114, 101, 116, 47, 104, 101, 97, 100, 115, 46, 98, 101, 102, 111, 114, 101, 72, 84, 77, 76]))), (.int .i64 2, .iface "func" (.lit (.string [108, 97, 122, 97, 114, 101, 116, 47, 104, 101, 97, 100, 115, 46, 98, 101, 102, 111, 114, 101, 72, 101, 97, 100]))), (.int .i64 3, .iface "func" (.lit (.string [108, 97, 122, 97, 114, 101, 116, 47, 104, 101, 97, 100, 115, 46, 72, 101, 97, 100]))), (.int .i64 4, .iface "func" (.lit (.string [108, 97, 122, 97, 114, 101, 116, 47, 104, 101, 97, 100, 115, 46, 110, 111, 115, 99, 114, 105, 112, 116]))), (.int .i64 5, .iface "func" (.lit (.string [108, 97, 122, 97, 114, 101, 116, 47, 104, 101, 97, 100, 115, 46, 97, 102, 116, 101, 114, 72, 101, 97, 100]))), (.int .i64 7, .iface "func" (.lit (.string [108, 97, 122, 97, 114, 101, 116, 47, 104, 101, 97, 100, 115, 46, 116, 101, 120, 116])))])

/-- 'lazaretlaw17.BuilderRebuild': WHATEVER THE INPUT: true; the input reads as it did. -/
def builderRebuildSpec : ChangeSpec := { name := "builderRebuild", fn := fun _ => fun
  | [d1, d2, d3] => { results := [.lit (.bool true)], args := [d1, d2, d3] }
  | _ => none }
def builderRebuildRow : OpenClaim := { program := "ytgnnlaeikcnhcaagreatdoor", sum := "99c718a74f476280b3d943b6c7d392046d020b5ee8d68ca7b94143c30d8da498", func := "lazaret/lazaretlaw17.BuilderRebuild", spec := "builderRebuild", inPlace := ["slices.overlaps[lazaret/stack.open]", "slices.overlaps[int]", "internal/reflectlite.ValueOf", "(internal/reflectlite.Value).Type", "(internal/reflectlite.Value).IsNil", "internal/reflectlite.TypeOf", "(internal/reflectlite.Value).Elem", "(internal/reflectlite.Value).Set"], unfollowed := true, recurses := true, named := ["lazaret/builder.by", "errors.errorType"], apart := false, laid := [("errors.errorType", laid_errors_errorType), ("lazaret/builder.by", laid_lazaret_builder_by)] }
def BuilderRebuildSaid : Prop := builderRebuildRow.holds Tryz.pinned (OpenSpec.ofChange builderRebuildSpec)

/-- ITS FALSE NEIGHBOUR: 'it returns false'. Refute it at one input. -/
def builderRebuildWrong : ChangeSpec := { name := "builderRebuild", fn := fun _ => fun
  | [d1, d2, d3] => { results := [.lit (.bool false)], args := [d1, d2, d3] }
  | _ => none }
def BuilderRebuildWrongFalsely : Prop := builderRebuildRow.holds Tryz.pinned (OpenSpec.ofChange builderRebuildWrong)

/-- 'lazaretlaw17.BuilderDeep': WHATEVER THE INPUT: true; the input reads as it did. -/
def builderDeepSpec : ChangeSpec := { name := "builderDeep", fn := fun _ => fun
  | [d1, d2] => { results := [.lit (.bool true)], args := [d1, d2] }
  | _ => none }
def builderDeepRow : OpenClaim := { program := "ytgnnlaeikcnhcaagreatdoor", sum := "99c718a74f476280b3d943b6c7d392046d020b5ee8d68ca7b94143c30d8da498", func := "lazaret/lazaretlaw17.BuilderDeep", spec := "builderDeep", inPlace := ["slices.overlaps[lazaret/stack.open]", "slices.overlaps[int]", "internal/reflectlite.ValueOf", "(internal/reflectlite.Value).Type", "(internal/reflectlite.Value).IsNil", "internal/reflectlite.TypeOf", "(internal/reflectlite.Value).Elem", "(internal/reflectlite.Value).Set"], unfollowed := true, recurses := true, named := ["lazaret/builder.by", "errors.errorType"], apart := false, laid := [("errors.errorType", laid_errors_errorType), ("lazaret/builder.by", laid_lazaret_builder_by)] }
def BuilderDeepSaid : Prop := builderDeepRow.holds Tryz.pinned (OpenSpec.ofChange builderDeepSpec)

/-- ITS FALSE NEIGHBOUR: 'it returns false'. Refute it at one input. -/
def builderDeepWrong : ChangeSpec := { name := "builderDeep", fn := fun _ => fun
  | [d1, d2] => { results := [.lit (.bool false)], args := [d1, d2] }
  | _ => none }
def BuilderDeepWrongFalsely : Prop := builderDeepRow.holds Tryz.pinned (OpenSpec.ofChange builderDeepWrong)

/-- 'lazaretlaw17.BuilderText': WHATEVER THE INPUT: true; the input reads as it did. -/
def builderTextSpec : ChangeSpec := { name := "builderText", fn := fun _ => fun
  | [d1, d2] => { results := [.lit (.bool true)], args := [d1, d2] }
  | _ => none }
def builderTextRow : OpenClaim := { program := "ytgnnlaeikcnhcaagreatdoor", sum := "99c718a74f476280b3d943b6c7d392046d020b5ee8d68ca7b94143c30d8da498", func := "lazaret/lazaretlaw17.BuilderText", spec := "builderText", inPlace := ["slices.overlaps[lazaret/stack.open]", "slices.overlaps[int]", "internal/reflectlite.ValueOf", "(internal/reflectlite.Value).Type", "(internal/reflectlite.Value).IsNil", "internal/reflectlite.TypeOf", "(internal/reflectlite.Value).Elem", "(internal/reflectlite.Value).Set"], unfollowed := true, recurses := true, named := ["lazaret/builder.by", "errors.errorType"], apart := false, laid := [("errors.errorType", laid_errors_errorType), ("lazaret/builder.by", laid_lazaret_builder_by)] }
def BuilderTextSaid : Prop := builderTextRow.holds Tryz.pinned (OpenSpec.ofChange builderTextSpec)

/-- ITS FALSE NEIGHBOUR: 'it returns false'. Refute it at one input. -/
def builderTextWrong : ChangeSpec := { name := "builderText", fn := fun _ => fun
  | [d1, d2] => { results := [.lit (.bool false)], args := [d1, d2] }
  | _ => none }
def BuilderTextWrongFalsely : Prop := builderTextRow.holds Tryz.pinned (OpenSpec.ofChange builderTextWrong)

/-- 'lazaretlaw17.BuilderReset': WHATEVER THE INPUT: true; the input reads as it did. -/
def builderResetSpec : ChangeSpec := { name := "builderReset", fn := fun _ => fun
  | [d] => { results := [.lit (.bool true)], args := [d] }
  | _ => none }
def builderResetRow : OpenClaim := { program := "ytgnnlaeikcnhcaagreatdoor", sum := "99c718a74f476280b3d943b6c7d392046d020b5ee8d68ca7b94143c30d8da498", func := "lazaret/lazaretlaw17.BuilderReset", spec := "builderReset", inPlace := ["slices.overlaps[lazaret/stack.open]", "slices.overlaps[int]", "internal/reflectlite.ValueOf", "(internal/reflectlite.Value).Type", "(internal/reflectlite.Value).IsNil", "internal/reflectlite.TypeOf", "(internal/reflectlite.Value).Elem", "(internal/reflectlite.Value).Set", "internal/bytealg.IndexByteString", "internal/bytealg.IndexString"], unfollowed := true, recurses := true, named := ["lazaret/builder.by", "errors.errorType", "lazaret/kinds.scopes", "internal/bytealg.MaxLen"], apart := false, laid := [("errors.errorType", laid_errors_errorType), ("lazaret/kinds.scopes", laid_lazaret_kinds_scopes), ("lazaret/builder.by", laid_lazaret_builder_by)] }
def BuilderResetSaid : Prop := builderResetRow.holds Tryz.pinned (OpenSpec.ofChange builderResetSpec)

/-- ITS FALSE NEIGHBOUR: 'it returns false'. Refute it at one input. -/
def builderResetWrong : ChangeSpec := { name := "builderReset", fn := fun _ => fun
  | [d] => { results := [.lit (.bool false)], args := [d] }
  | _ => none }
def BuilderResetWrongFalsely : Prop := builderResetRow.holds Tryz.pinned (OpenSpec.ofChange builderResetWrong)

/-- 'lazaretlaw18.AdoptPlain': WHATEVER THE INPUT: true; the input reads as it did. -/
def adoptPlainSpec : ChangeSpec := { name := "adoptPlain", fn := fun _ => fun
  | [d1, d2] => { results := [.lit (.bool true)], args := [d1, d2] }
  | _ => none }
def adoptPlainRow : OpenClaim := { program := "ytgnnlaeikcnhcaagreatdoor", sum := "99c718a74f476280b3d943b6c7d392046d020b5ee8d68ca7b94143c30d8da498", func := "lazaret/lazaretlaw18.AdoptPlain", spec := "adoptPlain", inPlace := ["slices.overlaps[lazaret/stack.open]", "slices.overlaps[int]", "internal/bytealg.IndexByteString", "internal/bytealg.IndexString"], unfollowed := true, recurses := true, named := ["lazaret/kinds.scopes", "internal/bytealg.MaxLen"], apart := false, laid := [("lazaret/kinds.scopes", laid_lazaret_kinds_scopes)] }
def AdoptPlainSaid : Prop := adoptPlainRow.holds Tryz.pinned (OpenSpec.ofChange adoptPlainSpec)

/-- ITS FALSE NEIGHBOUR: 'it returns false'. Refute it at one input. -/
def adoptPlainWrong : ChangeSpec := { name := "adoptPlain", fn := fun _ => fun
  | [d1, d2] => { results := [.lit (.bool false)], args := [d1, d2] }
  | _ => none }
def AdoptPlainWrongFalsely : Prop := adoptPlainRow.holds Tryz.pinned (OpenSpec.ofChange adoptPlainWrong)

/-- 'lazaretlaw18.AdoptNone': WHATEVER THE INPUT: true; the input reads as it did. -/
def adoptNoneSpec : ChangeSpec := { name := "adoptNone", fn := fun _ => fun
  | [d] => { results := [.lit (.bool true)], args := [d] }
  | _ => none }
def adoptNoneRow : OpenClaim := { program := "ytgnnlaeikcnhcaagreatdoor", sum := "99c718a74f476280b3d943b6c7d392046d020b5ee8d68ca7b94143c30d8da498", func := "lazaret/lazaretlaw18.AdoptNone", spec := "adoptNone", inPlace := ["slices.overlaps[lazaret/stack.open]", "slices.overlaps[int]", "internal/bytealg.IndexByteString", "internal/bytealg.IndexString"], unfollowed := true, recurses := true, named := ["lazaret/kinds.scopes", "internal/bytealg.MaxLen"], apart := false, laid := [("lazaret/kinds.scopes", laid_lazaret_kinds_scopes)] }
def AdoptNoneSaid : Prop := adoptNoneRow.holds Tryz.pinned (OpenSpec.ofChange adoptNoneSpec)

/-- ITS FALSE NEIGHBOUR: 'it returns false'. Refute it at one input. -/
def adoptNoneWrong : ChangeSpec := { name := "adoptNone", fn := fun _ => fun
  | [d] => { results := [.lit (.bool false)], args := [d] }
  | _ => none }
def AdoptNoneWrongFalsely : Prop := adoptNoneRow.holds Tryz.pinned (OpenSpec.ofChange adoptNoneWrong)

/-- 'lazaretlaw19.HeadsSpaces': WHATEVER THE INPUT: true; the input reads as it did. -/
def headsSpacesSpec : ChangeSpec := { name := "headsSpaces", fn := fun _ => fun
  | [d] => { results := [.lit (.bool true)], args := [d] }
  | _ => none }
def headsSpacesRow : OpenClaim := { program := "ytgnnlaeikcnhcaagreatdoor", sum := "99c718a74f476280b3d943b6c7d392046d020b5ee8d68ca7b94143c30d8da498", func := "lazaret/lazaretlaw19.HeadsSpaces", spec := "headsSpaces", inPlace := ["slices.overlaps[lazaret/stack.open]", "slices.overlaps[int]", "internal/bytealg.IndexByteString", "internal/bytealg.IndexString"], unfollowed := true, recurses := true, named := ["lazaret/heads.steps", "internal/bytealg.MaxLen", "lazaret/builder.by"], apart := false, laid := [("lazaret/builder.by", laid_lazaret_builder_by), ("lazaret/heads.steps", laid_lazaret_heads_steps)] }
def HeadsSpacesSaid : Prop := headsSpacesRow.holds Tryz.pinned (OpenSpec.ofChange headsSpacesSpec)

/-- ITS FALSE NEIGHBOUR: 'it returns false'. Refute it at one input. -/
def headsSpacesWrong : ChangeSpec := { name := "headsSpaces", fn := fun _ => fun
  | [d] => { results := [.lit (.bool false)], args := [d] }
  | _ => none }
def HeadsSpacesWrongFalsely : Prop := headsSpacesRow.holds Tryz.pinned (OpenSpec.ofChange headsSpacesWrong)

/-- 'lazaretlaw19.HeadsNone': WHATEVER THE INPUT: true; the input reads as it did. -/
def headsNoneSpec : ChangeSpec := { name := "headsNone", fn := fun _ => fun
  | [d] => { results := [.lit (.bool true)], args := [d] }
  | _ => none }
def headsNoneRow : OpenClaim := { program := "ytgnnlaeikcnhcaagreatdoor", sum := "99c718a74f476280b3d943b6c7d392046d020b5ee8d68ca7b94143c30d8da498", func := "lazaret/lazaretlaw19.HeadsNone", spec := "headsNone", inPlace := ["slices.overlaps[lazaret/stack.open]", "slices.overlaps[int]", "internal/bytealg.IndexByteString", "internal/bytealg.IndexString"], unfollowed := true, recurses := true, named := ["lazaret/heads.steps", "internal/bytealg.MaxLen", "lazaret/builder.by"], apart := false, laid := [("lazaret/builder.by", laid_lazaret_builder_by), ("lazaret/heads.steps", laid_lazaret_heads_steps)] }
def HeadsNoneSaid : Prop := headsNoneRow.holds Tryz.pinned (OpenSpec.ofChange headsNoneSpec)

/-- ITS FALSE NEIGHBOUR: 'it returns false'. Refute it at one input. -/
def headsNoneWrong : ChangeSpec := { name := "headsNone", fn := fun _ => fun
  | [d] => { results := [.lit (.bool false)], args := [d] }
  | _ => none }
def HeadsNoneWrongFalsely : Prop := headsNoneRow.holds Tryz.pinned (OpenSpec.ofChange headsNoneWrong)

/-- 'lazaretlaw19.HeadsRaw': WHATEVER THE INPUT: true; the input reads as it did. -/
def headsRawSpec : ChangeSpec := { name := "headsRaw", fn := fun _ => fun
  | [d1, d2] => { results := [.lit (.bool true)], args := [d1, d2] }
  | _ => none }
def headsRawRow : OpenClaim := { program := "ytgnnlaeikcnhcaagreatdoor", sum := "99c718a74f476280b3d943b6c7d392046d020b5ee8d68ca7b94143c30d8da498", func := "lazaret/lazaretlaw19.HeadsRaw", spec := "headsRaw", inPlace := ["slices.overlaps[lazaret/stack.open]", "slices.overlaps[int]", "internal/bytealg.IndexByteString", "internal/bytealg.IndexString"], unfollowed := true, recurses := true, named := ["lazaret/heads.steps", "internal/bytealg.MaxLen", "lazaret/builder.by"], apart := false, laid := [("lazaret/builder.by", laid_lazaret_builder_by), ("lazaret/heads.steps", laid_lazaret_heads_steps)] }
def HeadsRawSaid : Prop := headsRawRow.holds Tryz.pinned (OpenSpec.ofChange headsRawSpec)

/-- ITS FALSE NEIGHBOUR: 'it returns false'. Refute it at one input. -/
def headsRawWrong : ChangeSpec := { name := "headsRaw", fn := fun _ => fun
  | [d1, d2] => { results := [.lit (.bool false)], args := [d1, d2] }
  | _ => none }
def HeadsRawWrongFalsely : Prop := headsRawRow.holds Tryz.pinned (OpenSpec.ofChange headsRawWrong)

/-- 'lazaretlaw18.AdoptTexts': WHATEVER THE INPUT: true; the input reads as it did. -/
def adoptTextsSpec : ChangeSpec := { name := "adoptTexts", fn := fun _ => fun
  | [d1, d2] => { results := [.lit (.bool true)], args := [d1, d2] }
  | _ => none }
def adoptTextsRow : OpenClaim := { program := "ytgnnlaeikcnhcaagreatdoor", sum := "99c718a74f476280b3d943b6c7d392046d020b5ee8d68ca7b94143c30d8da498", func := "lazaret/lazaretlaw18.AdoptTexts", spec := "adoptTexts", inPlace := ["slices.overlaps[lazaret/stack.open]", "slices.overlaps[int]", "internal/bytealg.IndexByteString", "internal/bytealg.IndexString", "internal/reflectlite.ValueOf", "(internal/reflectlite.Value).Type", "(internal/reflectlite.Value).IsNil", "internal/reflectlite.TypeOf", "(internal/reflectlite.Value).Elem", "(internal/reflectlite.Value).Set"], unfollowed := true, recurses := true, named := ["lazaret/kinds.scopes", "internal/bytealg.MaxLen", "errors.errorType"], apart := false, laid := [("errors.errorType", laid_errors_errorType), ("lazaret/kinds.scopes", laid_lazaret_kinds_scopes)] }
def AdoptTextsSaid : Prop := adoptTextsRow.holds Tryz.pinned (OpenSpec.ofChange adoptTextsSpec)

/-- ITS FALSE NEIGHBOUR: 'it returns false'. Refute it at one input. -/
def adoptTextsWrong : ChangeSpec := { name := "adoptTexts", fn := fun _ => fun
  | [d1, d2] => { results := [.lit (.bool false)], args := [d1, d2] }
  | _ => none }
def AdoptTextsWrongFalsely : Prop := adoptTextsRow.holds Tryz.pinned (OpenSpec.ofChange adoptTextsWrong)

/-- 'lazaretlaw17.BuilderNone': WHATEVER THE INPUT: true; the input reads as it did. -/
def builderNoneSpec : ChangeSpec := { name := "builderNone", fn := fun _ => fun
  | [d1, d2] => { results := [.lit (.bool true)], args := [d1, d2] }
  | _ => none }
def builderNoneRow : OpenClaim := { program := "ytgnnlaeikcnhcaagreatdoor", sum := "99c718a74f476280b3d943b6c7d392046d020b5ee8d68ca7b94143c30d8da498", func := "lazaret/lazaretlaw17.BuilderNone", spec := "builderNone", inPlace := ["slices.overlaps[lazaret/stack.open]", "slices.overlaps[int]", "internal/reflectlite.ValueOf", "(internal/reflectlite.Value).Type", "(internal/reflectlite.Value).IsNil", "internal/reflectlite.TypeOf", "(internal/reflectlite.Value).Elem", "(internal/reflectlite.Value).Set", "internal/bytealg.IndexByteString", "internal/bytealg.IndexString"], unfollowed := true, recurses := true, named := ["lazaret/builder.by", "errors.errorType", "lazaret/kinds.scopes", "internal/bytealg.MaxLen"], apart := false, laid := [("errors.errorType", laid_errors_errorType), ("lazaret/kinds.scopes", laid_lazaret_kinds_scopes), ("lazaret/builder.by", laid_lazaret_builder_by)] }
def BuilderNoneSaid : Prop := builderNoneRow.holds Tryz.pinned (OpenSpec.ofChange builderNoneSpec)

/-- ITS FALSE NEIGHBOUR: 'it returns false'. Refute it at one input. -/
def builderNoneWrong : ChangeSpec := { name := "builderNone", fn := fun _ => fun
  | [d1, d2] => { results := [.lit (.bool false)], args := [d1, d2] }
  | _ => none }
def BuilderNoneWrongFalsely : Prop := builderNoneRow.holds Tryz.pinned (OpenSpec.ofChange builderNoneWrong)

/-- 'lazaretlaw19.HeadsBody': WHATEVER THE INPUT: true; the input reads as it did. -/
def headsBodySpec : ChangeSpec := { name := "headsBody", fn := fun _ => fun
  | [d] => { results := [.lit (.bool true)], args := [d] }
  | _ => none }
def headsBodyRow : OpenClaim := { program := "ytgnnlaeikcnhcaagreatdoor", sum := "99c718a74f476280b3d943b6c7d392046d020b5ee8d68ca7b94143c30d8da498", func := "lazaret/lazaretlaw19.HeadsBody", spec := "headsBody", inPlace := ["slices.overlaps[lazaret/stack.open]", "slices.overlaps[int]", "internal/bytealg.IndexByteString", "internal/bytealg.IndexString", "internal/reflectlite.ValueOf", "(internal/reflectlite.Value).Type", "(internal/reflectlite.Value).IsNil", "internal/reflectlite.TypeOf", "(internal/reflectlite.Value).Elem", "(internal/reflectlite.Value).Set"], unfollowed := true, recurses := true, named := ["lazaret/heads.steps", "internal/bytealg.MaxLen", "lazaret/builder.by", "errors.errorType"], apart := false, laid := [("errors.errorType", laid_errors_errorType), ("lazaret/builder.by", laid_lazaret_builder_by), ("lazaret/heads.steps", laid_lazaret_heads_steps)] }
def HeadsBodySaid : Prop := headsBodyRow.holds Tryz.pinned (OpenSpec.ofChange headsBodySpec)

/-- ITS FALSE NEIGHBOUR: 'it returns false'. Refute it at one input. -/
def headsBodyWrong : ChangeSpec := { name := "headsBody", fn := fun _ => fun
  | [d] => { results := [.lit (.bool false)], args := [d] }
  | _ => none }
def HeadsBodyWrongFalsely : Prop := headsBodyRow.holds Tryz.pinned (OpenSpec.ofChange headsBodyWrong)

/-- 'lazaretlaw19.HeadsPlay': WHATEVER THE INPUT: true; the input reads as it did. -/
def headsPlaySpec : ChangeSpec := { name := "headsPlay", fn := fun _ => fun
  | [d] => { results := [.lit (.bool true)], args := [d] }
  | _ => none }
def headsPlayRow : OpenClaim := { program := "ytgnnlaeikcnhcaagreatdoor", sum := "99c718a74f476280b3d943b6c7d392046d020b5ee8d68ca7b94143c30d8da498", func := "lazaret/lazaretlaw19.HeadsPlay", spec := "headsPlay", inPlace := ["slices.overlaps[lazaret/stack.open]", "slices.overlaps[int]", "internal/bytealg.IndexByteString", "internal/bytealg.IndexString", "internal/reflectlite.ValueOf", "(internal/reflectlite.Value).Type", "(internal/reflectlite.Value).IsNil", "internal/reflectlite.TypeOf", "(internal/reflectlite.Value).Elem", "(internal/reflectlite.Value).Set"], unfollowed := true, recurses := true, named := ["lazaret/heads.steps", "internal/bytealg.MaxLen", "lazaret/builder.by", "errors.errorType"], apart := false, laid := [("errors.errorType", laid_errors_errorType), ("lazaret/builder.by", laid_lazaret_builder_by), ("lazaret/heads.steps", laid_lazaret_heads_steps)] }
def HeadsPlaySaid : Prop := headsPlayRow.holds Tryz.pinned (OpenSpec.ofChange headsPlaySpec)

/-- ITS FALSE NEIGHBOUR: 'it returns false'. Refute it at one input. -/
def headsPlayWrong : ChangeSpec := { name := "headsPlay", fn := fun _ => fun
  | [d] => { results := [.lit (.bool false)], args := [d] }
  | _ => none }
def HeadsPlayWrongFalsely : Prop := headsPlayRow.holds Tryz.pinned (OpenSpec.ofChange headsPlayWrong)

/- THE SECOND FORM. 'bulk': how many values and letters a reading holds, each counted each time it is reached (what is shared counts as often as it is met; a slice's spare places count too). A statement '..UptoSaid' is the law's where the arguments, and the package variables that the reading takes, are together of bulk at most 1048576: NARROWER than '..Said'. Prove '..Said' where nothing that the law and all that it calls make is longer than what came in: it says more and counts as full. Else prove '..UptoSaid'. A law counts once. -/
mutual
def uptoBulk {H : Type} : DataW H → Nat
  | .lit (.string bytes) => bytes.length + 1
  | .lit _ => 1
  | .nil => 1
  | .ptr d => uptoBulk d + 1
  | .slice elems spare => uptoBulkAll elems + uptoBulkAll spare + 1
  | .agg parts => uptoBulkAll parts + 1
  | .iface _ d => uptoBulk d + 1
  | .map entries => uptoBulkEntries entries + 1
  | .held _ => 1
def uptoBulkAll {H : Type} : List (DataW H) → Nat
  | [] => 0
  | d :: r => uptoBulk d + uptoBulkAll r
def uptoBulkEntries {H : Type} : List (Lit × DataW H) → Nat
  | [] => 0
  | x :: r => uptoBulkEntry x + uptoBulkEntries r
def uptoBulkEntry {H : Type} : Lit × DataW H → Nat
  | (.string bytes, d) => bytes.length + uptoBulk d + 1
  | (_, d) => uptoBulk d + 1
 end
def uptoSmall : (H : Type) → List (DataW H) → Bool := fun _ ds => decide (uptoBulkAll ds ≤ 1048576)
def OpenSpec.upto (s : _root_.Go.ChangeSpec) : _root_.Go.OpenSpec := { _root_.Go.OpenSpec.ofChange s with cond := some uptoSmall }

/-- 'lazaretlaw17.BuilderRebuild', WHERE WHAT IT READS IS OF BULK AT MOST 1048576: true; the input reads as it did. -/
def builderRebuildUptoRow : OpenClaim := { program := "ytgnnlaeikcnhcaagreatdoor", sum := "99c718a74f476280b3d943b6c7d392046d020b5ee8d68ca7b94143c30d8da498", func := "lazaret/lazaretlaw17.BuilderRebuild", spec := "builderRebuild", inPlace := ["slices.overlaps[lazaret/stack.open]", "slices.overlaps[int]", "internal/reflectlite.ValueOf", "(internal/reflectlite.Value).Type", "(internal/reflectlite.Value).IsNil", "internal/reflectlite.TypeOf", "(internal/reflectlite.Value).Elem", "(internal/reflectlite.Value).Set"], unfollowed := true, recurses := true, named := ["lazaret/builder.by", "errors.errorType"], apart := false, laid := [("errors.errorType", laid_errors_errorType), ("lazaret/builder.by", laid_lazaret_builder_by)], narrowed := true }
def BuilderRebuildUptoSaid : Prop := builderRebuildUptoRow.holds Tryz.pinned (OpenSpec.upto builderRebuildSpec)

/-- 'lazaretlaw17.BuilderDeep', WHERE WHAT IT READS IS OF BULK AT MOST 1048576: true; the input reads as it did. -/
def builderDeepUptoRow : OpenClaim := { program := "ytgnnlaeikcnhcaagreatdoor", sum := "99c718a74f476280b3d943b6c7d392046d020b5ee8d68ca7b94143c30d8da498", func := "lazaret/lazaretlaw17.BuilderDeep", spec := "builderDeep", inPlace := ["slices.overlaps[lazaret/stack.open]", "slices.overlaps[int]", "internal/reflectlite.ValueOf", "(internal/reflectlite.Value).Type", "(internal/reflectlite.Value).IsNil", "internal/reflectlite.TypeOf", "(internal/reflectlite.Value).Elem", "(internal/reflectlite.Value).Set"], unfollowed := true, recurses := true, named := ["lazaret/builder.by", "errors.errorType"], apart := false, laid := [("errors.errorType", laid_errors_errorType), ("lazaret/builder.by", laid_lazaret_builder_by)], narrowed := true }
def BuilderDeepUptoSaid : Prop := builderDeepUptoRow.holds Tryz.pinned (OpenSpec.upto builderDeepSpec)

/-- 'lazaretlaw17.BuilderText', WHERE WHAT IT READS IS OF BULK AT MOST 1048576: true; the input reads as it did. -/
def builderTextUptoRow : OpenClaim := { program := "ytgnnlaeikcnhcaagreatdoor", sum := "99c718a74f476280b3d943b6c7d392046d020b5ee8d68ca7b94143c30d8da498", func := "lazaret/lazaretlaw17.BuilderText", spec := "builderText", inPlace := ["slices.overlaps[lazaret/stack.open]", "slices.overlaps[int]", "internal/reflectlite.ValueOf", "(internal/reflectlite.Value).Type", "(internal/reflectlite.Value).IsNil", "internal/reflectlite.TypeOf", "(internal/reflectlite.Value).Elem", "(internal/reflectlite.Value).Set"], unfollowed := true, recurses := true, named := ["lazaret/builder.by", "errors.errorType"], apart := false, laid := [("errors.errorType", laid_errors_errorType), ("lazaret/builder.by", laid_lazaret_builder_by)], narrowed := true }
def BuilderTextUptoSaid : Prop := builderTextUptoRow.holds Tryz.pinned (OpenSpec.upto builderTextSpec)

/-- 'lazaretlaw17.BuilderReset', WHERE WHAT IT READS IS OF BULK AT MOST 1048576: true; the input reads as it did. -/
def builderResetUptoRow : OpenClaim := { program := "ytgnnlaeikcnhcaagreatdoor", sum := "99c718a74f476280b3d943b6c7d392046d020b5ee8d68ca7b94143c30d8da498", func := "lazaret/lazaretlaw17.BuilderReset", spec := "builderReset", inPlace := ["slices.overlaps[lazaret/stack.open]", "slices.overlaps[int]", "internal/reflectlite.ValueOf", "(internal/reflectlite.Value).Type", "(internal/reflectlite.Value).IsNil", "internal/reflectlite.TypeOf", "(internal/reflectlite.Value).Elem", "(internal/reflectlite.Value).Set", "internal/bytealg.IndexByteString", "internal/bytealg.IndexString"], unfollowed := true, recurses := true, named := ["lazaret/builder.by", "errors.errorType", "lazaret/kinds.scopes", "internal/bytealg.MaxLen"], apart := false, laid := [("errors.errorType", laid_errors_errorType), ("lazaret/kinds.scopes", laid_lazaret_kinds_scopes), ("lazaret/builder.by", laid_lazaret_builder_by)], narrowed := true }
def BuilderResetUptoSaid : Prop := builderResetUptoRow.holds Tryz.pinned (OpenSpec.upto builderResetSpec)

/-- 'lazaretlaw18.AdoptPlain', WHERE WHAT IT READS IS OF BULK AT MOST 1048576: true; the input reads as it did. -/
def adoptPlainUptoRow : OpenClaim := { program := "ytgnnlaeikcnhcaagreatdoor", sum := "99c718a74f476280b3d943b6c7d392046d020b5ee8d68ca7b94143c30d8da498", func := "lazaret/lazaretlaw18.AdoptPlain", spec := "adoptPlain", inPlace := ["slices.overlaps[lazaret/stack.open]", "slices.overlaps[int]", "internal/bytealg.IndexByteString", "internal/bytealg.IndexString"], unfollowed := true, recurses := true, named := ["lazaret/kinds.scopes", "internal/bytealg.MaxLen"], apart := false, laid := [("lazaret/kinds.scopes", laid_lazaret_kinds_scopes)], narrowed := true }
def AdoptPlainUptoSaid : Prop := adoptPlainUptoRow.holds Tryz.pinned (OpenSpec.upto adoptPlainSpec)

/-- 'lazaretlaw18.AdoptNone', WHERE WHAT IT READS IS OF BULK AT MOST 1048576: true; the input reads as it did. -/
def adoptNoneUptoRow : OpenClaim := { program := "ytgnnlaeikcnhcaagreatdoor", sum := "99c718a74f476280b3d943b6c7d392046d020b5ee8d68ca7b94143c30d8da498", func := "lazaret/lazaretlaw18.AdoptNone", spec := "adoptNone", inPlace := ["slices.overlaps[lazaret/stack.open]", "slices.overlaps[int]", "internal/bytealg.IndexByteString", "internal/bytealg.IndexString"], unfollowed := true, recurses := true, named := ["lazaret/kinds.scopes", "internal/bytealg.MaxLen"], apart := false, laid := [("lazaret/kinds.scopes", laid_lazaret_kinds_scopes)], narrowed := true }
def AdoptNoneUptoSaid : Prop := adoptNoneUptoRow.holds Tryz.pinned (OpenSpec.upto adoptNoneSpec)

/-- 'lazaretlaw19.HeadsSpaces', WHERE WHAT IT READS IS OF BULK AT MOST 1048576: true; the input reads as it did. -/
def headsSpacesUptoRow : OpenClaim := { program := "ytgnnlaeikcnhcaagreatdoor", sum := "99c718a74f476280b3d943b6c7d392046d020b5ee8d68ca7b94143c30d8da498", func := "lazaret/lazaretlaw19.HeadsSpaces", spec := "headsSpaces", inPlace := ["slices.overlaps[lazaret/stack.open]", "slices.overlaps[int]", "internal/bytealg.IndexByteString", "internal/bytealg.IndexString"], unfollowed := true, recurses := true, named := ["lazaret/heads.steps", "internal/bytealg.MaxLen", "lazaret/builder.by"], apart := false, laid := [("lazaret/builder.by", laid_lazaret_builder_by), ("lazaret/heads.steps", laid_lazaret_heads_steps)], narrowed := true }
def HeadsSpacesUptoSaid : Prop := headsSpacesUptoRow.holds Tryz.pinned (OpenSpec.upto headsSpacesSpec)

/-- 'lazaretlaw19.HeadsNone', WHERE WHAT IT READS IS OF BULK AT MOST 1048576: true; the input reads as it did. -/
def headsNoneUptoRow : OpenClaim := { program := "ytgnnlaeikcnhcaagreatdoor", sum := "99c718a74f476280b3d943b6c7d392046d020b5ee8d68ca7b94143c30d8da498", func := "lazaret/lazaretlaw19.HeadsNone", spec := "headsNone", inPlace := ["slices.overlaps[lazaret/stack.open]", "slices.overlaps[int]", "internal/bytealg.IndexByteString", "internal/bytealg.IndexString"], unfollowed := true, recurses := true, named := ["lazaret/heads.steps", "internal/bytealg.MaxLen", "lazaret/builder.by"], apart := false, laid := [("lazaret/builder.by", laid_lazaret_builder_by), ("lazaret/heads.steps", laid_lazaret_heads_steps)], narrowed := true }
def HeadsNoneUptoSaid : Prop := headsNoneUptoRow.holds Tryz.pinned (OpenSpec.upto headsNoneSpec)

/-- 'lazaretlaw19.HeadsRaw', WHERE WHAT IT READS IS OF BULK AT MOST 1048576: true; the input reads as it did. -/
def headsRawUptoRow : OpenClaim := { program := "ytgnnlaeikcnhcaagreatdoor", sum := "99c718a74f476280b3d943b6c7d392046d020b5ee8d68ca7b94143c30d8da498", func := "lazaret/lazaretlaw19.HeadsRaw", spec := "headsRaw", inPlace := ["slices.overlaps[lazaret/stack.open]", "slices.overlaps[int]", "internal/bytealg.IndexByteString", "internal/bytealg.IndexString"], unfollowed := true, recurses := true, named := ["lazaret/heads.steps", "internal/bytealg.MaxLen", "lazaret/builder.by"], apart := false, laid := [("lazaret/builder.by", laid_lazaret_builder_by), ("lazaret/heads.steps", laid_lazaret_heads_steps)], narrowed := true }
def HeadsRawUptoSaid : Prop := headsRawUptoRow.holds Tryz.pinned (OpenSpec.upto headsRawSpec)

/-- 'lazaretlaw18.AdoptTexts', WHERE WHAT IT READS IS OF BULK AT MOST 1048576: true; the input reads as it did. -/
def adoptTextsUptoRow : OpenClaim := { program := "ytgnnlaeikcnhcaagreatdoor", sum := "99c718a74f476280b3d943b6c7d392046d020b5ee8d68ca7b94143c30d8da498", func := "lazaret/lazaretlaw18.AdoptTexts", spec := "adoptTexts", inPlace := ["slices.overlaps[lazaret/stack.open]", "slices.overlaps[int]", "internal/bytealg.IndexByteString", "internal/bytealg.IndexString", "internal/reflectlite.ValueOf", "(internal/reflectlite.Value).Type", "(internal/reflectlite.Value).IsNil", "internal/reflectlite.TypeOf", "(internal/reflectlite.Value).Elem", "(internal/reflectlite.Value).Set"], unfollowed := true, recurses := true, named := ["lazaret/kinds.scopes", "internal/bytealg.MaxLen", "errors.errorType"], apart := false, laid := [("errors.errorType", laid_errors_errorType), ("lazaret/kinds.scopes", laid_lazaret_kinds_scopes)], narrowed := true }
def AdoptTextsUptoSaid : Prop := adoptTextsUptoRow.holds Tryz.pinned (OpenSpec.upto adoptTextsSpec)

/-- 'lazaretlaw17.BuilderNone', WHERE WHAT IT READS IS OF BULK AT MOST 1048576: true; the input reads as it did. -/
def builderNoneUptoRow : OpenClaim := { program := "ytgnnlaeikcnhcaagreatdoor", sum := "99c718a74f476280b3d943b6c7d392046d020b5ee8d68ca7b94143c30d8da498", func := "lazaret/lazaretlaw17.BuilderNone", spec := "builderNone", inPlace := ["slices.overlaps[lazaret/stack.open]", "slices.overlaps[int]", "internal/reflectlite.ValueOf", "(internal/reflectlite.Value).Type", "(internal/reflectlite.Value).IsNil", "internal/reflectlite.TypeOf", "(internal/reflectlite.Value).Elem", "(internal/reflectlite.Value).Set", "internal/bytealg.IndexByteString", "internal/bytealg.IndexString"], unfollowed := true, recurses := true, named := ["lazaret/builder.by", "errors.errorType", "lazaret/kinds.scopes", "internal/bytealg.MaxLen"], apart := false, laid := [("errors.errorType", laid_errors_errorType), ("lazaret/kinds.scopes", laid_lazaret_kinds_scopes), ("lazaret/builder.by", laid_lazaret_builder_by)], narrowed := true }
def BuilderNoneUptoSaid : Prop := builderNoneUptoRow.holds Tryz.pinned (OpenSpec.upto builderNoneSpec)

/-- 'lazaretlaw19.HeadsBody', WHERE WHAT IT READS IS OF BULK AT MOST 1048576: true; the input reads as it did. -/
def headsBodyUptoRow : OpenClaim := { program := "ytgnnlaeikcnhcaagreatdoor", sum := "99c718a74f476280b3d943b6c7d392046d020b5ee8d68ca7b94143c30d8da498", func := "lazaret/lazaretlaw19.HeadsBody", spec := "headsBody", inPlace := ["slices.overlaps[lazaret/stack.open]", "slices.overlaps[int]", "internal/bytealg.IndexByteString", "internal/bytealg.IndexString", "internal/reflectlite.ValueOf", "(internal/reflectlite.Value).Type", "(internal/reflectlite.Value).IsNil", "internal/reflectlite.TypeOf", "(internal/reflectlite.Value).Elem", "(internal/reflectlite.Value).Set"], unfollowed := true, recurses := true, named := ["lazaret/heads.steps", "internal/bytealg.MaxLen", "lazaret/builder.by", "errors.errorType"], apart := false, laid := [("errors.errorType", laid_errors_errorType), ("lazaret/builder.by", laid_lazaret_builder_by), ("lazaret/heads.steps", laid_lazaret_heads_steps)], narrowed := true }
def HeadsBodyUptoSaid : Prop := headsBodyUptoRow.holds Tryz.pinned (OpenSpec.upto headsBodySpec)

/-- 'lazaretlaw19.HeadsPlay', WHERE WHAT IT READS IS OF BULK AT MOST 1048576: true; the input reads as it did. -/
def headsPlayUptoRow : OpenClaim := { program := "ytgnnlaeikcnhcaagreatdoor", sum := "99c718a74f476280b3d943b6c7d392046d020b5ee8d68ca7b94143c30d8da498", func := "lazaret/lazaretlaw19.HeadsPlay", spec := "headsPlay", inPlace := ["slices.overlaps[lazaret/stack.open]", "slices.overlaps[int]", "internal/bytealg.IndexByteString", "internal/bytealg.IndexString", "internal/reflectlite.ValueOf", "(internal/reflectlite.Value).Type", "(internal/reflectlite.Value).IsNil", "internal/reflectlite.TypeOf", "(internal/reflectlite.Value).Elem", "(internal/reflectlite.Value).Set"], unfollowed := true, recurses := true, named := ["lazaret/heads.steps", "internal/bytealg.MaxLen", "lazaret/builder.by", "errors.errorType"], apart := false, laid := [("errors.errorType", laid_errors_errorType), ("lazaret/builder.by", laid_lazaret_builder_by), ("lazaret/heads.steps", laid_lazaret_heads_steps)], narrowed := true }
def HeadsPlayUptoSaid : Prop := headsPlayUptoRow.holds Tryz.pinned (OpenSpec.upto headsPlaySpec)

end Rows
end Go.Proofs.YtgnnlaeikcnhcaaGreatDoor
