/-
  DERIVED. GIVEN WITH THE SEED: THE CARDS: each row of YtjkdpnkbdfnokaaDoorRows.lean that lists a variable, with what it lists TIED to the program's text (the seventh form; the later family's looks); each row that meets fmt, with fmt's text TOLD by the authors' own Lean function (tested against real Go, not proved from fmt's source: count such statements apart). THE CARD IS WHAT COUNTS. Prove the row's statement (the work); the ties are given (YtjkdpnkbdfnokaaDoorTie.lean); close each card by the builder's one call (the guide's Derived/Test/ToyasCard.lean, 'card_holds'). Laid BY PROGRAM, IN A SANDBOX (cutbox-door.mjs). By AI agents, Wed Nov 11 2026. No macro, syntax, notation, axiom, sorry.
-/
import Derived.Test.YtjkdpnkbdfnokaaDoorRows
import GoSem.ClaimSeven
namespace Go.Proofs.YtjkdpnkbdfnokaaDoor
namespace Rows

/-- THE TIED CARD OF 'lazaretlaw04.DigestSum'. -/
def digestSumCard : Claim7 := { stood := { row := digestSumRow, standIns := [], harness := (true, "039ad049f95adff57b039876f6775bd70dbb1fb397884a0510aa7402da9fbcd1"), looks := false }, kinds := [], alts := [], laidByText := true, laidKinds := [.data], laidTests := true, laidLooks := .later }
def DigestSumCardSaid : Prop := Claim7.holds Tryd.pinned (.plain (OpenSpec.ofChange digestSumSpec)) digestSumCard

/-- THE TIED CARD OF 'lazaretlaw04.DigestEdges'. -/
def digestEdgesCard : Claim7 := { stood := { row := digestEdgesRow, standIns := [], harness := (true, "039ad049f95adff57b039876f6775bd70dbb1fb397884a0510aa7402da9fbcd1"), looks := false }, kinds := [], alts := [], laidByText := true, laidKinds := [.data], laidTests := true, laidLooks := .later }
def DigestEdgesCardSaid : Prop := Claim7.holds Tryd.pinned (.plain (OpenSpec.ofChange digestEdgesSpec)) digestEdgesCard

/-- THE TIED CARD OF 'lazaretlaw04.DigestLength'. -/
def digestLengthCard : Claim7 := { stood := { row := digestLengthRow, standIns := [], harness := (true, "039ad049f95adff57b039876f6775bd70dbb1fb397884a0510aa7402da9fbcd1"), looks := false }, kinds := [], alts := [], laidByText := true, laidKinds := [.data], laidTests := true, laidLooks := .later }
def DigestLengthCardSaid : Prop := Claim7.holds Tryd.pinned (.plain (OpenSpec.ofChange digestLengthSpec)) digestLengthCard

/-- THE TIED CARD OF 'lazaretlaw05.LongsSum'. -/
def longsSumCard : Claim7 := { stood := { row := longsSumRow, standIns := [], harness := (true, "039ad049f95adff57b039876f6775bd70dbb1fb397884a0510aa7402da9fbcd1"), looks := false }, kinds := [], alts := [], laidByText := true, laidKinds := [.data], laidTests := true, laidLooks := .later }
def LongsSumCardSaid : Prop := Claim7.holds Tryd.pinned (.plain (OpenSpec.ofChange longsSumSpec)) longsSumCard

/-- THE TIED CARD OF 'lazaretlaw05.LongsEdges'. -/
def longsEdgesCard : Claim7 := { stood := { row := longsEdgesRow, standIns := [], harness := (true, "039ad049f95adff57b039876f6775bd70dbb1fb397884a0510aa7402da9fbcd1"), looks := false }, kinds := [], alts := [], laidByText := true, laidKinds := [.data], laidTests := true, laidLooks := .later }
def LongsEdgesCardSaid : Prop := Claim7.holds Tryd.pinned (.plain (OpenSpec.ofChange longsEdgesSpec)) longsEdgesCard

/-- THE TIED CARD OF 'lazaretlaw05.LongsLength'. -/
def longsLengthCard : Claim7 := { stood := { row := longsLengthRow, standIns := [], harness := (true, "039ad049f95adff57b039876f6775bd70dbb1fb397884a0510aa7402da9fbcd1"), looks := false }, kinds := [], alts := [], laidByText := true, laidKinds := [.data], laidTests := true, laidLooks := .later }
def LongsLengthCardSaid : Prop := Claim7.holds Tryd.pinned (.plain (OpenSpec.ofChange longsLengthSpec)) longsLengthCard

/-- THE SECOND FORM's CARD OF 'lazaretlaw04.DigestSum'. -/
def digestSumUptoCard : Claim7 := { stood := { row := digestSumUptoRow, standIns := [], harness := (true, "039ad049f95adff57b039876f6775bd70dbb1fb397884a0510aa7402da9fbcd1"), looks := false }, kinds := [], alts := [], laidByText := true, laidKinds := [.data], laidTests := true, laidLooks := .later }
def DigestSumUptoCardSaid : Prop := Claim7.holds Tryd.pinned (.plain (OpenSpec.upto digestSumSpec)) digestSumUptoCard

/-- THE SECOND FORM's CARD OF 'lazaretlaw04.DigestEdges'. -/
def digestEdgesUptoCard : Claim7 := { stood := { row := digestEdgesUptoRow, standIns := [], harness := (true, "039ad049f95adff57b039876f6775bd70dbb1fb397884a0510aa7402da9fbcd1"), looks := false }, kinds := [], alts := [], laidByText := true, laidKinds := [.data], laidTests := true, laidLooks := .later }
def DigestEdgesUptoCardSaid : Prop := Claim7.holds Tryd.pinned (.plain (OpenSpec.upto digestEdgesSpec)) digestEdgesUptoCard

/-- THE SECOND FORM's CARD OF 'lazaretlaw04.DigestLength'. -/
def digestLengthUptoCard : Claim7 := { stood := { row := digestLengthUptoRow, standIns := [], harness := (true, "039ad049f95adff57b039876f6775bd70dbb1fb397884a0510aa7402da9fbcd1"), looks := false }, kinds := [], alts := [], laidByText := true, laidKinds := [.data], laidTests := true, laidLooks := .later }
def DigestLengthUptoCardSaid : Prop := Claim7.holds Tryd.pinned (.plain (OpenSpec.upto digestLengthSpec)) digestLengthUptoCard

/-- THE SECOND FORM's CARD OF 'lazaretlaw05.LongsSum'. -/
def longsSumUptoCard : Claim7 := { stood := { row := longsSumUptoRow, standIns := [], harness := (true, "039ad049f95adff57b039876f6775bd70dbb1fb397884a0510aa7402da9fbcd1"), looks := false }, kinds := [], alts := [], laidByText := true, laidKinds := [.data], laidTests := true, laidLooks := .later }
def LongsSumUptoCardSaid : Prop := Claim7.holds Tryd.pinned (.plain (OpenSpec.upto longsSumSpec)) longsSumUptoCard

/-- THE SECOND FORM's CARD OF 'lazaretlaw05.LongsEdges'. -/
def longsEdgesUptoCard : Claim7 := { stood := { row := longsEdgesUptoRow, standIns := [], harness := (true, "039ad049f95adff57b039876f6775bd70dbb1fb397884a0510aa7402da9fbcd1"), looks := false }, kinds := [], alts := [], laidByText := true, laidKinds := [.data], laidTests := true, laidLooks := .later }
def LongsEdgesUptoCardSaid : Prop := Claim7.holds Tryd.pinned (.plain (OpenSpec.upto longsEdgesSpec)) longsEdgesUptoCard

/-- THE SECOND FORM's CARD OF 'lazaretlaw05.LongsLength'. -/
def longsLengthUptoCard : Claim7 := { stood := { row := longsLengthUptoRow, standIns := [], harness := (true, "039ad049f95adff57b039876f6775bd70dbb1fb397884a0510aa7402da9fbcd1"), looks := false }, kinds := [], alts := [], laidByText := true, laidKinds := [.data], laidTests := true, laidLooks := .later }
def LongsLengthUptoCardSaid : Prop := Claim7.holds Tryd.pinned (.plain (OpenSpec.upto longsLengthSpec)) longsLengthUptoCard
end Rows
end Go.Proofs.YtjkdpnkbdfnokaaDoor
