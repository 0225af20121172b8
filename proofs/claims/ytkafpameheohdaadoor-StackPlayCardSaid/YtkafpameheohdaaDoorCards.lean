/-
  DERIVED. GIVEN WITH THE SEED: THE CARDS: each row of YtkafpameheohdaaDoorRows.lean that lists a variable, with what it lists TIED to the program's text (the seventh form; the later family's looks); each row that meets fmt, with fmt's text TOLD by the authors' own Lean function (tested against real Go, not proved from fmt's source: count such statements apart). THE CARD IS WHAT COUNTS. Prove the row's statement (the work); the ties are given (YtkafpameheohdaaDoorTie.lean); close each card by the builder's one call (the guide's Derived/Test/ToyasCard.lean, 'card_holds'). Laid BY PROGRAM, IN A SANDBOX (cutbox-door.mjs). By AI agents, Wed Nov 11 2026. No macro, syntax, notation, axiom, sorry.
-/
import Derived.Test.YtkafpameheohdaaDoorRows
import GoSem.ClaimSeven
namespace Go.Proofs.YtkafpameheohdaaDoor
namespace Rows

/-- THE TIED CARD OF 'lazaretlaw15.StackBack'. -/
def stackBackCard : Claim7 := { stood := { row := stackBackRow, standIns := [], harness := (true, "29c1fd8ffca129e67d5d8fec45c876a30f9dd4af159c6d335dfb1fff8213a950"), looks := false }, kinds := [], alts := [], laidByText := true, laidKinds := [.data], laidTests := true, laidLooks := .later }
def StackBackCardSaid : Prop := Claim7.holds Tryd.pinned (.plain (OpenSpec.ofChange stackBackSpec)) stackBackCard

/-- THE TIED CARD OF 'lazaretlaw15.StackScopes'. -/
def stackScopesCard : Claim7 := { stood := { row := stackScopesRow, standIns := [], harness := (true, "29c1fd8ffca129e67d5d8fec45c876a30f9dd4af159c6d335dfb1fff8213a950"), looks := false }, kinds := [], alts := [], laidByText := true, laidKinds := [.data], laidTests := true, laidLooks := .later }
def StackScopesCardSaid : Prop := Claim7.holds Tryd.pinned (.plain (OpenSpec.ofChange stackScopesSpec)) stackScopesCard

/-- THE TIED CARD OF 'lazaretlaw15.StackDeep'. -/
def stackDeepCard : Claim7 := { stood := { row := stackDeepRow, standIns := [], harness := (true, "29c1fd8ffca129e67d5d8fec45c876a30f9dd4af159c6d335dfb1fff8213a950"), looks := false }, kinds := [], alts := [], laidByText := true, laidKinds := [.data], laidTests := true, laidLooks := .later }
def StackDeepCardSaid : Prop := Claim7.holds Tryd.pinned (.plain (OpenSpec.ofChange stackDeepSpec)) stackDeepCard

/-- THE TIED CARD OF 'lazaretlaw15.StackPlay'. -/
def stackPlayCard : Claim7 := { stood := { row := stackPlayRow, standIns := [], harness := (true, "29c1fd8ffca129e67d5d8fec45c876a30f9dd4af159c6d335dfb1fff8213a950"), looks := false }, kinds := [], alts := [], laidByText := true, laidKinds := [.data], laidTests := true, laidLooks := .later }
def StackPlayCardSaid : Prop := Claim7.holds Tryd.pinned (.plain (OpenSpec.ofChange stackPlaySpec)) stackPlayCard

/-- THE TIED CARD OF 'lazaretlaw15.StackNone'. -/
def stackNoneCard : Claim7 := { stood := { row := stackNoneRow, standIns := [], harness := (true, "29c1fd8ffca129e67d5d8fec45c876a30f9dd4af159c6d335dfb1fff8213a950"), looks := false }, kinds := [], alts := [], laidByText := true, laidKinds := [.data], laidTests := true, laidLooks := .later }
def StackNoneCardSaid : Prop := Claim7.holds Tryd.pinned (.plain (OpenSpec.ofChange stackNoneSpec)) stackNoneCard

/-- THE SECOND FORM's CARD OF 'lazaretlaw15.StackBack'. -/
def stackBackUptoCard : Claim7 := { stood := { row := stackBackUptoRow, standIns := [], harness := (true, "29c1fd8ffca129e67d5d8fec45c876a30f9dd4af159c6d335dfb1fff8213a950"), looks := false }, kinds := [], alts := [], laidByText := true, laidKinds := [.data], laidTests := true, laidLooks := .later }
def StackBackUptoCardSaid : Prop := Claim7.holds Tryd.pinned (.plain (OpenSpec.upto stackBackSpec)) stackBackUptoCard

/-- THE SECOND FORM's CARD OF 'lazaretlaw15.StackScopes'. -/
def stackScopesUptoCard : Claim7 := { stood := { row := stackScopesUptoRow, standIns := [], harness := (true, "29c1fd8ffca129e67d5d8fec45c876a30f9dd4af159c6d335dfb1fff8213a950"), looks := false }, kinds := [], alts := [], laidByText := true, laidKinds := [.data], laidTests := true, laidLooks := .later }
def StackScopesUptoCardSaid : Prop := Claim7.holds Tryd.pinned (.plain (OpenSpec.upto stackScopesSpec)) stackScopesUptoCard

/-- THE SECOND FORM's CARD OF 'lazaretlaw15.StackDeep'. -/
def stackDeepUptoCard : Claim7 := { stood := { row := stackDeepUptoRow, standIns := [], harness := (true, "29c1fd8ffca129e67d5d8fec45c876a30f9dd4af159c6d335dfb1fff8213a950"), looks := false }, kinds := [], alts := [], laidByText := true, laidKinds := [.data], laidTests := true, laidLooks := .later }
def StackDeepUptoCardSaid : Prop := Claim7.holds Tryd.pinned (.plain (OpenSpec.upto stackDeepSpec)) stackDeepUptoCard

/-- THE SECOND FORM's CARD OF 'lazaretlaw15.StackPlay'. -/
def stackPlayUptoCard : Claim7 := { stood := { row := stackPlayUptoRow, standIns := [], harness := (true, "29c1fd8ffca129e67d5d8fec45c876a30f9dd4af159c6d335dfb1fff8213a950"), looks := false }, kinds := [], alts := [], laidByText := true, laidKinds := [.data], laidTests := true, laidLooks := .later }
def StackPlayUptoCardSaid : Prop := Claim7.holds Tryd.pinned (.plain (OpenSpec.upto stackPlaySpec)) stackPlayUptoCard

/-- THE SECOND FORM's CARD OF 'lazaretlaw15.StackNone'. -/
def stackNoneUptoCard : Claim7 := { stood := { row := stackNoneUptoRow, standIns := [], harness := (true, "29c1fd8ffca129e67d5d8fec45c876a30f9dd4af159c6d335dfb1fff8213a950"), looks := false }, kinds := [], alts := [], laidByText := true, laidKinds := [.data], laidTests := true, laidLooks := .later }
def StackNoneUptoCardSaid : Prop := Claim7.holds Tryd.pinned (.plain (OpenSpec.upto stackNoneSpec)) stackNoneUptoCard
end Rows
end Go.Proofs.YtkafpameheohdaaDoor
