/-
  DERIVED. GIVEN WITH THE SEED: THE PROGRAM's TIES (one call each: nine closed facts by the kernel) AND EACH ROW's TIE, after the 31st guide's Derived/Test/Toyas{Tie, Card}.lean. No idea stands in it: it is a product of the set-up. Laid BY PROGRAM, IN A SANDBOX (cutbox-door.mjs). By AI agents, Wed Nov 11 2026. No macro, syntax, notation, axiom, sorry.
-/
import Derived.Test.YtgnnlaeikcnhcaaGreatDoorRows
import Derived.LaidByTextLater
import Derived.SevenTiedAt
import Derived.LaidSub
import Derived.LaidOnce
namespace Go.Proofs.YtgnnlaeikcnhcaaGreatDoor
open Go
set_option maxRecDepth 100000
theorem seatTie1 : Tryz.prog.laidByTextLater [("errors.errorType", Rows.laid_errors_errorType), ("lazaret/kinds.scopes", Rows.laid_lazaret_kinds_scopes), ("lazaret/builder.by", Rows.laid_lazaret_builder_by), ("lazaret/heads.steps", Rows.laid_lazaret_heads_steps)] [.handle, .data, .mapped, .funcs] true :=
  Program.laidByTextLater_by_one 121 8 5 (by kernel_rfl) (by kernel_rfl) (by kernel_rfl) (by kernel_rfl) (by kernel_rfl) (by kernel_rfl) (fun _ _ => by kernel_rfl)
theorem noOwnUnsafe : Tryz.pinned.checked.prog.headLifts.contains "ownunsafe" = false := by kernel_rfl
theorem tie : Tryz.prog.laidByTextLater [("errors.errorType", Rows.laid_errors_errorType), ("lazaret/builder.by", Rows.laid_lazaret_builder_by)] [.handle, .mapped] true :=
  Program.laidByTextLater.sub seatTie1 ["errors.errorType", "lazaret/builder.by"] (by kernel_rfl) (by kernel_rfl)
theorem builderRebuild_row_tie : Rows.builderRebuildRow.laidByTextAt .later Tryz.pinned [.handle, .mapped] true :=
  OpenClaim.laidByTextAt_later rfl rfl tie noOwnUnsafe
theorem builderDeep_row_tie : Rows.builderDeepRow.laidByTextAt .later Tryz.pinned [.handle, .mapped] true :=
  OpenClaim.laidByTextAt_later rfl rfl tie noOwnUnsafe
theorem builderText_row_tie : Rows.builderTextRow.laidByTextAt .later Tryz.pinned [.handle, .mapped] true :=
  OpenClaim.laidByTextAt_later rfl rfl tie noOwnUnsafe
theorem tie2 : Tryz.prog.laidByTextLater [("errors.errorType", Rows.laid_errors_errorType), ("lazaret/kinds.scopes", Rows.laid_lazaret_kinds_scopes), ("lazaret/builder.by", Rows.laid_lazaret_builder_by)] [.handle, .data, .mapped] true :=
  Program.laidByTextLater.sub seatTie1 ["errors.errorType", "lazaret/kinds.scopes", "lazaret/builder.by"] (by kernel_rfl) (by kernel_rfl)
theorem builderReset_row_tie : Rows.builderResetRow.laidByTextAt .later Tryz.pinned [.handle, .data, .mapped] true :=
  OpenClaim.laidByTextAt_later rfl rfl tie2 noOwnUnsafe
theorem builderNone_row_tie : Rows.builderNoneRow.laidByTextAt .later Tryz.pinned [.handle, .data, .mapped] true :=
  OpenClaim.laidByTextAt_later rfl rfl tie2 noOwnUnsafe
theorem tie3 : Tryz.prog.laidByTextLater [("lazaret/kinds.scopes", Rows.laid_lazaret_kinds_scopes)] [.data] true :=
  Program.laidByTextLater.sub seatTie1 ["lazaret/kinds.scopes"] (by kernel_rfl) (by kernel_rfl)
theorem adoptPlain_row_tie : Rows.adoptPlainRow.laidByTextAt .later Tryz.pinned [.data] true :=
  OpenClaim.laidByTextAt_later rfl rfl tie3 noOwnUnsafe
theorem adoptNone_row_tie : Rows.adoptNoneRow.laidByTextAt .later Tryz.pinned [.data] true :=
  OpenClaim.laidByTextAt_later rfl rfl tie3 noOwnUnsafe
theorem tie4 : Tryz.prog.laidByTextLater [("lazaret/builder.by", Rows.laid_lazaret_builder_by), ("lazaret/heads.steps", Rows.laid_lazaret_heads_steps)] [.mapped, .funcs] true :=
  Program.laidByTextLater.sub seatTie1 ["lazaret/builder.by", "lazaret/heads.steps"] (by kernel_rfl) (by kernel_rfl)
theorem headsSpaces_row_tie : Rows.headsSpacesRow.laidByTextAt .later Tryz.pinned [.mapped, .funcs] true :=
  OpenClaim.laidByTextAt_later rfl rfl tie4 noOwnUnsafe
theorem headsNone_row_tie : Rows.headsNoneRow.laidByTextAt .later Tryz.pinned [.mapped, .funcs] true :=
  OpenClaim.laidByTextAt_later rfl rfl tie4 noOwnUnsafe
theorem headsRaw_row_tie : Rows.headsRawRow.laidByTextAt .later Tryz.pinned [.mapped, .funcs] true :=
  OpenClaim.laidByTextAt_later rfl rfl tie4 noOwnUnsafe
theorem tie5 : Tryz.prog.laidByTextLater [("errors.errorType", Rows.laid_errors_errorType), ("lazaret/kinds.scopes", Rows.laid_lazaret_kinds_scopes)] [.handle, .data] true :=
  Program.laidByTextLater.sub seatTie1 ["errors.errorType", "lazaret/kinds.scopes"] (by kernel_rfl) (by kernel_rfl)
theorem adoptTexts_row_tie : Rows.adoptTextsRow.laidByTextAt .later Tryz.pinned [.handle, .data] true :=
  OpenClaim.laidByTextAt_later rfl rfl tie5 noOwnUnsafe
theorem tie6 : Tryz.prog.laidByTextLater [("errors.errorType", Rows.laid_errors_errorType), ("lazaret/builder.by", Rows.laid_lazaret_builder_by), ("lazaret/heads.steps", Rows.laid_lazaret_heads_steps)] [.handle, .mapped, .funcs] true :=
  Program.laidByTextLater.sub seatTie1 ["errors.errorType", "lazaret/builder.by", "lazaret/heads.steps"] (by kernel_rfl) (by kernel_rfl)
theorem headsBody_row_tie : Rows.headsBodyRow.laidByTextAt .later Tryz.pinned [.handle, .mapped, .funcs] true :=
  OpenClaim.laidByTextAt_later rfl rfl tie6 noOwnUnsafe
theorem headsPlay_row_tie : Rows.headsPlayRow.laidByTextAt .later Tryz.pinned [.handle, .mapped, .funcs] true :=
  OpenClaim.laidByTextAt_later rfl rfl tie6 noOwnUnsafe
theorem builderRebuildUpto_row_tie : Rows.builderRebuildUptoRow.laidByTextAt .later Tryz.pinned [.handle, .mapped] true :=
  OpenClaim.laidByTextAt_later rfl rfl tie noOwnUnsafe
theorem builderDeepUpto_row_tie : Rows.builderDeepUptoRow.laidByTextAt .later Tryz.pinned [.handle, .mapped] true :=
  OpenClaim.laidByTextAt_later rfl rfl tie noOwnUnsafe
theorem builderTextUpto_row_tie : Rows.builderTextUptoRow.laidByTextAt .later Tryz.pinned [.handle, .mapped] true :=
  OpenClaim.laidByTextAt_later rfl rfl tie noOwnUnsafe
theorem builderResetUpto_row_tie : Rows.builderResetUptoRow.laidByTextAt .later Tryz.pinned [.handle, .data, .mapped] true :=
  OpenClaim.laidByTextAt_later rfl rfl tie2 noOwnUnsafe
theorem adoptPlainUpto_row_tie : Rows.adoptPlainUptoRow.laidByTextAt .later Tryz.pinned [.data] true :=
  OpenClaim.laidByTextAt_later rfl rfl tie3 noOwnUnsafe
theorem adoptNoneUpto_row_tie : Rows.adoptNoneUptoRow.laidByTextAt .later Tryz.pinned [.data] true :=
  OpenClaim.laidByTextAt_later rfl rfl tie3 noOwnUnsafe
theorem headsSpacesUpto_row_tie : Rows.headsSpacesUptoRow.laidByTextAt .later Tryz.pinned [.mapped, .funcs] true :=
  OpenClaim.laidByTextAt_later rfl rfl tie4 noOwnUnsafe
theorem headsNoneUpto_row_tie : Rows.headsNoneUptoRow.laidByTextAt .later Tryz.pinned [.mapped, .funcs] true :=
  OpenClaim.laidByTextAt_later rfl rfl tie4 noOwnUnsafe
theorem headsRawUpto_row_tie : Rows.headsRawUptoRow.laidByTextAt .later Tryz.pinned [.mapped, .funcs] true :=
  OpenClaim.laidByTextAt_later rfl rfl tie4 noOwnUnsafe
theorem adoptTextsUpto_row_tie : Rows.adoptTextsUptoRow.laidByTextAt .later Tryz.pinned [.handle, .data] true :=
  OpenClaim.laidByTextAt_later rfl rfl tie5 noOwnUnsafe
theorem builderNoneUpto_row_tie : Rows.builderNoneUptoRow.laidByTextAt .later Tryz.pinned [.handle, .data, .mapped] true :=
  OpenClaim.laidByTextAt_later rfl rfl tie2 noOwnUnsafe
theorem headsBodyUpto_row_tie : Rows.headsBodyUptoRow.laidByTextAt .later Tryz.pinned [.handle, .mapped, .funcs] true :=
  OpenClaim.laidByTextAt_later rfl rfl tie6 noOwnUnsafe
theorem headsPlayUpto_row_tie : Rows.headsPlayUptoRow.laidByTextAt .later Tryz.pinned [.handle, .mapped, .funcs] true :=
  OpenClaim.laidByTextAt_later rfl rfl tie6 noOwnUnsafe
end Go.Proofs.YtgnnlaeikcnhcaaGreatDoor
