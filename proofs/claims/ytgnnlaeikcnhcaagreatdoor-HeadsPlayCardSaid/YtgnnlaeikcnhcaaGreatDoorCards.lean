/-
  DERIVED. GIVEN WITH THE SEED: THE CARDS: each row of YtgnnlaeikcnhcaaGreatDoorRows.lean that lists a variable, with what it lists TIED to the program's text (the seventh form; the later family's looks); each row that meets fmt, with fmt's text TOLD by the authors' own Lean function (tested against real Go, not proved from fmt's source: count such statements apart). THE CARD IS WHAT COUNTS. Prove the row's statement (the work); the ties are given (YtgnnlaeikcnhcaaGreatDoorTie.lean); close each card by the builder's one call (the guide's Derived/Test/ToyasCard.lean, 'card_holds'). Laid BY PROGRAM, IN A SANDBOX (cutbox-door.mjs). By AI agents, Wed Nov 11 2026. No macro, syntax, notation, axiom, sorry.
-/
import Derived.Test.YtgnnlaeikcnhcaaGreatDoorRows
import GoSem.ClaimSeven
namespace Go.Proofs.YtgnnlaeikcnhcaaGreatDoor
namespace Rows

/-- THE TIED CARD OF 'lazaretlaw17.BuilderRebuild'. -/
def builderRebuildCard : Claim7 := { stood := { row := builderRebuildRow, standIns := [], harness := (true, "89cbf335df858a21743de5301dae742b20e43a4f0c896c03cac07af81f21aee1"), looks := true }, kinds := [], alts := [], laidByText := true, laidKinds := [.handle, .mapped], laidTests := true, laidLooks := .later }
def BuilderRebuildCardSaid : Prop := Claim7.holds Tryz.pinned (.plain (OpenSpec.ofChange builderRebuildSpec)) builderRebuildCard

/-- THE TIED CARD OF 'lazaretlaw17.BuilderDeep'. -/
def builderDeepCard : Claim7 := { stood := { row := builderDeepRow, standIns := [], harness := (true, "89cbf335df858a21743de5301dae742b20e43a4f0c896c03cac07af81f21aee1"), looks := true }, kinds := [], alts := [], laidByText := true, laidKinds := [.handle, .mapped], laidTests := true, laidLooks := .later }
def BuilderDeepCardSaid : Prop := Claim7.holds Tryz.pinned (.plain (OpenSpec.ofChange builderDeepSpec)) builderDeepCard

/-- THE TIED CARD OF 'lazaretlaw17.BuilderText'. -/
def builderTextCard : Claim7 := { stood := { row := builderTextRow, standIns := [], harness := (true, "89cbf335df858a21743de5301dae742b20e43a4f0c896c03cac07af81f21aee1"), looks := true }, kinds := [], alts := [], laidByText := true, laidKinds := [.handle, .mapped], laidTests := true, laidLooks := .later }
def BuilderTextCardSaid : Prop := Claim7.holds Tryz.pinned (.plain (OpenSpec.ofChange builderTextSpec)) builderTextCard

/-- THE TIED CARD OF 'lazaretlaw17.BuilderReset'. -/
def builderResetCard : Claim7 := { stood := { row := builderResetRow, standIns := [], harness := (true, "89cbf335df858a21743de5301dae742b20e43a4f0c896c03cac07af81f21aee1"), looks := true }, kinds := [], alts := [], laidByText := true, laidKinds := [.handle, .data, .mapped], laidTests := true, laidLooks := .later }
def BuilderResetCardSaid : Prop := Claim7.holds Tryz.pinned (.plain (OpenSpec.ofChange builderResetSpec)) builderResetCard

/-- THE TIED CARD OF 'lazaretlaw18.AdoptPlain'. -/
def adoptPlainCard : Claim7 := { stood := { row := adoptPlainRow, standIns := [], harness := (true, "89cbf335df858a21743de5301dae742b20e43a4f0c896c03cac07af81f21aee1"), looks := true }, kinds := [], alts := [], laidByText := true, laidKinds := [.data], laidTests := true, laidLooks := .later }
def AdoptPlainCardSaid : Prop := Claim7.holds Tryz.pinned (.plain (OpenSpec.ofChange adoptPlainSpec)) adoptPlainCard

/-- THE TIED CARD OF 'lazaretlaw18.AdoptNone'. -/
def adoptNoneCard : Claim7 := { stood := { row := adoptNoneRow, standIns := [], harness := (true, "89cbf335df858a21743de5301dae742b20e43a4f0c896c03cac07af81f21aee1"), looks := true }, kinds := [], alts := [], laidByText := true, laidKinds := [.data], laidTests := true, laidLooks := .later }
def AdoptNoneCardSaid : Prop := Claim7.holds Tryz.pinned (.plain (OpenSpec.ofChange adoptNoneSpec)) adoptNoneCard

/-- THE TIED CARD OF 'lazaretlaw19.HeadsSpaces'. -/
def headsSpacesCard : Claim7 := { stood := { row := headsSpacesRow, standIns := [], harness := (true, "89cbf335df858a21743de5301dae742b20e43a4f0c896c03cac07af81f21aee1"), looks := true }, kinds := [], alts := [], laidByText := true, laidKinds := [.mapped, .funcs], laidTests := true, laidLooks := .later }
def HeadsSpacesCardSaid : Prop := Claim7.holds Tryz.pinned (.plain (OpenSpec.ofChange headsSpacesSpec)) headsSpacesCard

/-- THE TIED CARD OF 'lazaretlaw19.HeadsNone'. -/
def headsNoneCard : Claim7 := { stood := { row := headsNoneRow, standIns := [], harness := (true, "89cbf335df858a21743de5301dae742b20e43a4f0c896c03cac07af81f21aee1"), looks := true }, kinds := [], alts := [], laidByText := true, laidKinds := [.mapped, .funcs], laidTests := true, laidLooks := .later }
def HeadsNoneCardSaid : Prop := Claim7.holds Tryz.pinned (.plain (OpenSpec.ofChange headsNoneSpec)) headsNoneCard

/-- THE TIED CARD OF 'lazaretlaw19.HeadsRaw'. -/
def headsRawCard : Claim7 := { stood := { row := headsRawRow, standIns := [], harness := (true, "89cbf335df858a21743de5301dae742b20e43a4f0c896c03cac07af81f21aee1"), looks := true }, kinds := [], alts := [], laidByText := true, laidKinds := [.mapped, .funcs], laidTests := true, laidLooks := .later }
def HeadsRawCardSaid : Prop := Claim7.holds Tryz.pinned (.plain (OpenSpec.ofChange headsRawSpec)) headsRawCard

/-- THE TIED CARD OF 'lazaretlaw18.AdoptTexts'. -/
def adoptTextsCard : Claim7 := { stood := { row := adoptTextsRow, standIns := [], harness := (true, "89cbf335df858a21743de5301dae742b20e43a4f0c896c03cac07af81f21aee1"), looks := true }, kinds := [], alts := [], laidByText := true, laidKinds := [.handle, .data], laidTests := true, laidLooks := .later }
def AdoptTextsCardSaid : Prop := Claim7.holds Tryz.pinned (.plain (OpenSpec.ofChange adoptTextsSpec)) adoptTextsCard

/-- THE TIED CARD OF 'lazaretlaw17.BuilderNone'. -/
def builderNoneCard : Claim7 := { stood := { row := builderNoneRow, standIns := [], harness := (true, "89cbf335df858a21743de5301dae742b20e43a4f0c896c03cac07af81f21aee1"), looks := true }, kinds := [], alts := [], laidByText := true, laidKinds := [.handle, .data, .mapped], laidTests := true, laidLooks := .later }
def BuilderNoneCardSaid : Prop := Claim7.holds Tryz.pinned (.plain (OpenSpec.ofChange builderNoneSpec)) builderNoneCard

/-- THE TIED CARD OF 'lazaretlaw19.HeadsBody'. -/
def headsBodyCard : Claim7 := { stood := { row := headsBodyRow, standIns := [], harness := (true, "89cbf335df858a21743de5301dae742b20e43a4f0c896c03cac07af81f21aee1"), looks := true }, kinds := [], alts := [], laidByText := true, laidKinds := [.handle, .mapped, .funcs], laidTests := true, laidLooks := .later }
def HeadsBodyCardSaid : Prop := Claim7.holds Tryz.pinned (.plain (OpenSpec.ofChange headsBodySpec)) headsBodyCard

/-- THE TIED CARD OF 'lazaretlaw19.HeadsPlay'. -/
def headsPlayCard : Claim7 := { stood := { row := headsPlayRow, standIns := [], harness := (true, "89cbf335df858a21743de5301dae742b20e43a4f0c896c03cac07af81f21aee1"), looks := true }, kinds := [], alts := [], laidByText := true, laidKinds := [.handle, .mapped, .funcs], laidTests := true, laidLooks := .later }
def HeadsPlayCardSaid : Prop := Claim7.holds Tryz.pinned (.plain (OpenSpec.ofChange headsPlaySpec)) headsPlayCard

/-- THE SECOND FORM's CARD OF 'lazaretlaw17.BuilderRebuild'. -/
def builderRebuildUptoCard : Claim7 := { stood := { row := builderRebuildUptoRow, standIns := [], harness := (true, "89cbf335df858a21743de5301dae742b20e43a4f0c896c03cac07af81f21aee1"), looks := true }, kinds := [], alts := [], laidByText := true, laidKinds := [.handle, .mapped], laidTests := true, laidLooks := .later }
def BuilderRebuildUptoCardSaid : Prop := Claim7.holds Tryz.pinned (.plain (OpenSpec.upto builderRebuildSpec)) builderRebuildUptoCard

/-- THE SECOND FORM's CARD OF 'lazaretlaw17.BuilderDeep'. -/
def builderDeepUptoCard : Claim7 := { stood := { row := builderDeepUptoRow, standIns := [], harness := (true, "89cbf335df858a21743de5301dae742b20e43a4f0c896c03cac07af81f21aee1"), looks := true }, kinds := [], alts := [], laidByText := true, laidKinds := [.handle, .mapped], laidTests := true, laidLooks := .later }
def BuilderDeepUptoCardSaid : Prop := Claim7.holds Tryz.pinned (.plain (OpenSpec.upto builderDeepSpec)) builderDeepUptoCard

/-- THE SECOND FORM's CARD OF 'lazaretlaw17.BuilderText'. -/
def builderTextUptoCard : Claim7 := { stood := { row := builderTextUptoRow, standIns := [], harness := (true, "89cbf335df858a21743de5301dae742b20e43a4f0c896c03cac07af81f21aee1"), looks := true }, kinds := [], alts := [], laidByText := true, laidKinds := [.handle, .mapped], laidTests := true, laidLooks := .later }
def BuilderTextUptoCardSaid : Prop := Claim7.holds Tryz.pinned (.plain (OpenSpec.upto builderTextSpec)) builderTextUptoCard

/-- THE SECOND FORM's CARD OF 'lazaretlaw17.BuilderReset'. -/
def builderResetUptoCard : Claim7 := { stood := { row := builderResetUptoRow, standIns := [], harness := (true, "89cbf335df858a21743de5301dae742b20e43a4f0c896c03cac07af81f21aee1"), looks := true }, kinds := [], alts := [], laidByText := true, laidKinds := [.handle, .data, .mapped], laidTests := true, laidLooks := .later }
def BuilderResetUptoCardSaid : Prop := Claim7.holds Tryz.pinned (.plain (OpenSpec.upto builderResetSpec)) builderResetUptoCard

/-- THE SECOND FORM's CARD OF 'lazaretlaw18.AdoptPlain'. -/
def adoptPlainUptoCard : Claim7 := { stood := { row := adoptPlainUptoRow, standIns := [], harness := (true, "89cbf335df858a21743de5301dae742b20e43a4f0c896c03cac07af81f21aee1"), looks := true }, kinds := [], alts := [], laidByText := true, laidKinds := [.data], laidTests := true, laidLooks := .later }
def AdoptPlainUptoCardSaid : Prop := Claim7.holds Tryz.pinned (.plain (OpenSpec.upto adoptPlainSpec)) adoptPlainUptoCard

/-- THE SECOND FORM's CARD OF 'lazaretlaw18.AdoptNone'. -/
def adoptNoneUptoCard : Claim7 := { stood := { row := adoptNoneUptoRow, standIns := [], harness := (true, "89cbf335df858a21743de5301dae742b20e43a4f0c896c03cac07af81f21aee1"), looks := true }, kinds := [], alts := [], laidByText := true, laidKinds := [.data], laidTests := true, laidLooks := .later }
def AdoptNoneUptoCardSaid : Prop := Claim7.holds Tryz.pinned (.plain (OpenSpec.upto adoptNoneSpec)) adoptNoneUptoCard

/-- THE SECOND FORM's CARD OF 'lazaretlaw19.HeadsSpaces'. -/
def headsSpacesUptoCard : Claim7 := { stood := { row := headsSpacesUptoRow, standIns := [], harness := (true, "89cbf335df858a21743de5301dae742b20e43a4f0c896c03cac07af81f21aee1"), looks := true }, kinds := [], alts := [], laidByText := true, laidKinds := [.mapped, .funcs], laidTests := true, laidLooks := .later }
def HeadsSpacesUptoCardSaid : Prop := Claim7.holds Tryz.pinned (.plain (OpenSpec.upto headsSpacesSpec)) headsSpacesUptoCard

/-- THE SECOND FORM's CARD OF 'lazaretlaw19.HeadsNone'. -/
def headsNoneUptoCard : Claim7 := { stood := { row := headsNoneUptoRow, standIns := [], harness := (true, "89cbf335df858a21743de5301dae742b20e43a4f0c896c03cac07af81f21aee1"), looks := true }, kinds := [], alts := [], laidByText := true, laidKinds := [.mapped, .funcs], laidTests := true, laidLooks := .later }
def HeadsNoneUptoCardSaid : Prop := Claim7.holds Tryz.pinned (.plain (OpenSpec.upto headsNoneSpec)) headsNoneUptoCard

/-- THE SECOND FORM's CARD OF 'lazaretlaw19.HeadsRaw'. -/
def headsRawUptoCard : Claim7 := { stood := { row := headsRawUptoRow, standIns := [], harness := (true, "89cbf335df858a21743de5301dae742b20e43a4f0c896c03cac07af81f21aee1"), looks := true }, kinds := [], alts := [], laidByText := true, laidKinds := [.mapped, .funcs], laidTests := true, laidLooks := .later }
def HeadsRawUptoCardSaid : Prop := Claim7.holds Tryz.pinned (.plain (OpenSpec.upto headsRawSpec)) headsRawUptoCard

/-- THE SECOND FORM's CARD OF 'lazaretlaw18.AdoptTexts'. -/
def adoptTextsUptoCard : Claim7 := { stood := { row := adoptTextsUptoRow, standIns := [], harness := (true, "89cbf335df858a21743de5301dae742b20e43a4f0c896c03cac07af81f21aee1"), looks := true }, kinds := [], alts := [], laidByText := true, laidKinds := [.handle, .data], laidTests := true, laidLooks := .later }
def AdoptTextsUptoCardSaid : Prop := Claim7.holds Tryz.pinned (.plain (OpenSpec.upto adoptTextsSpec)) adoptTextsUptoCard

/-- THE SECOND FORM's CARD OF 'lazaretlaw17.BuilderNone'. -/
def builderNoneUptoCard : Claim7 := { stood := { row := builderNoneUptoRow, standIns := [], harness := (true, "89cbf335df858a21743de5301dae742b20e43a4f0c896c03cac07af81f21aee1"), looks := true }, kinds := [], alts := [], laidByText := true, laidKinds := [.handle, .data, .mapped], laidTests := true, laidLooks := .later }
def BuilderNoneUptoCardSaid : Prop := Claim7.holds Tryz.pinned (.plain (OpenSpec.upto builderNoneSpec)) builderNoneUptoCard

/-- THE SECOND FORM's CARD OF 'lazaretlaw19.HeadsBody'. -/
def headsBodyUptoCard : Claim7 := { stood := { row := headsBodyUptoRow, standIns := [], harness := (true, "89cbf335df858a21743de5301dae742b20e43a4f0c896c03cac07af81f21aee1"), looks := true }, kinds := [], alts := [], laidByText := true, laidKinds := [.handle, .mapped, .funcs], laidTests := true, laidLooks := .later }
def HeadsBodyUptoCardSaid : Prop := Claim7.holds Tryz.pinned (.plain (OpenSpec.upto headsBodySpec)) headsBodyUptoCard

/-- THE SECOND FORM's CARD OF 'lazaretlaw19.HeadsPlay'. -/
def headsPlayUptoCard : Claim7 := { stood := { row := headsPlayUptoRow, standIns := [], harness := (true, "89cbf335df858a21743de5301dae742b20e43a4f0c896c03cac07af81f21aee1"), looks := true }, kinds := [], alts := [], laidByText := true, laidKinds := [.handle, .mapped, .funcs], laidTests := true, laidLooks := .later }
def HeadsPlayUptoCardSaid : Prop := Claim7.holds Tryz.pinned (.plain (OpenSpec.upto headsPlaySpec)) headsPlayUptoCard
end Rows
end Go.Proofs.YtgnnlaeikcnhcaaGreatDoor
