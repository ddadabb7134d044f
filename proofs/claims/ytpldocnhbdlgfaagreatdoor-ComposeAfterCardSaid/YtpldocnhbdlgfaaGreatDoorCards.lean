/-
  DERIVED. GIVEN WITH THE SEED: THE CARDS: each row of YtpldocnhbdlgfaaGreatDoorRows.lean that lists a variable, with what it lists TIED to the program's text (the seventh form; the later family's looks); each row that meets fmt, with fmt's text TOLD by the authors' own Lean function (tested against real Go, not proved from fmt's source: count such statements apart). THE CARD IS WHAT COUNTS. Prove the row's statement (the work); the ties are given (YtpldocnhbdlgfaaGreatDoorTie.lean); close each card by the builder's one call (the guide's Derived/Test/ToyasCard.lean, 'card_holds'). Laid BY PROGRAM, IN A SANDBOX (cutbox-door.mjs). By AI agents, Wed Nov 11 2026. No macro, syntax, notation, axiom, sorry.
-/
import Derived.Test.YtpldocnhbdlgfaaGreatDoorRows
import GoSem.ClaimSeven
namespace Go.Proofs.YtpldocnhbdlgfaaGreatDoor
namespace Rows

/-- THE TIED CARD OF 'abugidalaw11.ComposeExamples'. -/
def composeExamplesCard : Claim7 := { stood := { row := composeExamplesRow, standIns := [], harness := (true, "64da1114d7bf72e91c5e7207715983beeb51c391ff9686065e46913c008af7b2"), looks := true }, kinds := [], alts := [], laidByText := true, laidKinds := [.data, .data, .data], laidTests := true, laidLooks := .later }
def ComposeExamplesCardSaid : Prop := Claim7.holds Tryz.pinned (.plain (OpenSpec.ofChange composeExamplesSpec)) composeExamplesCard

/-- THE TIED CARD OF 'abugidalaw11.ComposeValues'. -/
def composeValuesCard : Claim7 := { stood := { row := composeValuesRow, standIns := [], harness := (true, "64da1114d7bf72e91c5e7207715983beeb51c391ff9686065e46913c008af7b2"), looks := true }, kinds := [], alts := [], laidByText := true, laidKinds := [.data, .data, .data], laidTests := true, laidLooks := .later }
def ComposeValuesCardSaid : Prop := Claim7.holds Tryz.pinned (.plain (OpenSpec.ofChange composeValuesSpec)) composeValuesCard

/-- THE TIED CARD OF 'abugidalaw11.ComposeIntersects'. -/
def composeIntersectsCard : Claim7 := { stood := { row := composeIntersectsRow, standIns := [], harness := (true, "64da1114d7bf72e91c5e7207715983beeb51c391ff9686065e46913c008af7b2"), looks := true }, kinds := [], alts := [], laidByText := true, laidKinds := [.data, .data, .data], laidTests := true, laidLooks := .later }
def ComposeIntersectsCardSaid : Prop := Claim7.holds Tryz.pinned (.plain (OpenSpec.ofChange composeIntersectsSpec)) composeIntersectsCard

/-- THE TIED CARD OF 'abugidalaw11.ComposeThree'. -/
def composeThreeCard : Claim7 := { stood := { row := composeThreeRow, standIns := [], harness := (true, "64da1114d7bf72e91c5e7207715983beeb51c391ff9686065e46913c008af7b2"), looks := true }, kinds := [], alts := [], laidByText := true, laidKinds := [.data, .data, .data], laidTests := true, laidLooks := .later }
def ComposeThreeCardSaid : Prop := Claim7.holds Tryz.pinned (.plain (OpenSpec.ofChange composeThreeSpec)) composeThreeCard

/-- THE TIED CARD OF 'abugidalaw11.ComposeAfter'. -/
def composeAfterCard : Claim7 := { stood := { row := composeAfterRow, standIns := [], harness := (true, "64da1114d7bf72e91c5e7207715983beeb51c391ff9686065e46913c008af7b2"), looks := true }, kinds := [], alts := [], laidByText := true, laidKinds := [.data, .data, .data], laidTests := true, laidLooks := .later }
def ComposeAfterCardSaid : Prop := Claim7.holds Tryz.pinned (.plain (OpenSpec.ofChange composeAfterSpec)) composeAfterCard

/-- THE TIED CARD OF 'abugidalaw11.ComposeInverts'. -/
def composeInvertsCard : Claim7 := { stood := { row := composeInvertsRow, standIns := [], harness := (true, "64da1114d7bf72e91c5e7207715983beeb51c391ff9686065e46913c008af7b2"), looks := true }, kinds := [], alts := [], laidByText := true, laidKinds := [.data, .data, .data], laidTests := true, laidLooks := .later }
def ComposeInvertsCardSaid : Prop := Claim7.holds Tryz.pinned (.plain (OpenSpec.ofChange composeInvertsSpec)) composeInvertsCard

/-- THE TIED CARD OF 'abugidalaw11.ComposeBetween'. -/
def composeBetweenCard : Claim7 := { stood := { row := composeBetweenRow, standIns := [], harness := (true, "64da1114d7bf72e91c5e7207715983beeb51c391ff9686065e46913c008af7b2"), looks := true }, kinds := [], alts := [], laidByText := true, laidKinds := [.data, .data, .data], laidTests := true, laidLooks := .later }
def ComposeBetweenCardSaid : Prop := Claim7.holds Tryz.pinned (.plain (OpenSpec.ofChange composeBetweenSpec)) composeBetweenCard

/-- THE TIED CARD OF 'abugidalaw10.SidesCross'. -/
def sidesCrossCard : Claim7 := { stood := { row := sidesCrossRow, standIns := [], harness := (true, "64da1114d7bf72e91c5e7207715983beeb51c391ff9686065e46913c008af7b2"), looks := true }, kinds := [], alts := [], laidByText := true, laidKinds := [.data, .data, .data], laidTests := true, laidLooks := .later }
def SidesCrossCardSaid : Prop := Claim7.holds Tryz.pinned (.plain (OpenSpec.ofChange sidesCrossSpec)) sidesCrossCard

/-- THE SECOND FORM's CARD OF 'abugidalaw11.ComposeExamples'. -/
def composeExamplesUptoCard : Claim7 := { stood := { row := composeExamplesUptoRow, standIns := [], harness := (true, "64da1114d7bf72e91c5e7207715983beeb51c391ff9686065e46913c008af7b2"), looks := true }, kinds := [], alts := [], laidByText := true, laidKinds := [.data, .data, .data], laidTests := true, laidLooks := .later }
def ComposeExamplesUptoCardSaid : Prop := Claim7.holds Tryz.pinned (.plain (OpenSpec.upto composeExamplesSpec)) composeExamplesUptoCard

/-- THE SECOND FORM's CARD OF 'abugidalaw11.ComposeValues'. -/
def composeValuesUptoCard : Claim7 := { stood := { row := composeValuesUptoRow, standIns := [], harness := (true, "64da1114d7bf72e91c5e7207715983beeb51c391ff9686065e46913c008af7b2"), looks := true }, kinds := [], alts := [], laidByText := true, laidKinds := [.data, .data, .data], laidTests := true, laidLooks := .later }
def ComposeValuesUptoCardSaid : Prop := Claim7.holds Tryz.pinned (.plain (OpenSpec.upto composeValuesSpec)) composeValuesUptoCard

/-- THE SECOND FORM's CARD OF 'abugidalaw11.ComposeIntersects'. -/
def composeIntersectsUptoCard : Claim7 := { stood := { row := composeIntersectsUptoRow, standIns := [], harness := (true, "64da1114d7bf72e91c5e7207715983beeb51c391ff9686065e46913c008af7b2"), looks := true }, kinds := [], alts := [], laidByText := true, laidKinds := [.data, .data, .data], laidTests := true, laidLooks := .later }
def ComposeIntersectsUptoCardSaid : Prop := Claim7.holds Tryz.pinned (.plain (OpenSpec.upto composeIntersectsSpec)) composeIntersectsUptoCard

/-- THE SECOND FORM's CARD OF 'abugidalaw11.ComposeThree'. -/
def composeThreeUptoCard : Claim7 := { stood := { row := composeThreeUptoRow, standIns := [], harness := (true, "64da1114d7bf72e91c5e7207715983beeb51c391ff9686065e46913c008af7b2"), looks := true }, kinds := [], alts := [], laidByText := true, laidKinds := [.data, .data, .data], laidTests := true, laidLooks := .later }
def ComposeThreeUptoCardSaid : Prop := Claim7.holds Tryz.pinned (.plain (OpenSpec.upto composeThreeSpec)) composeThreeUptoCard

/-- THE SECOND FORM's CARD OF 'abugidalaw11.ComposeAfter'. -/
def composeAfterUptoCard : Claim7 := { stood := { row := composeAfterUptoRow, standIns := [], harness := (true, "64da1114d7bf72e91c5e7207715983beeb51c391ff9686065e46913c008af7b2"), looks := true }, kinds := [], alts := [], laidByText := true, laidKinds := [.data, .data, .data], laidTests := true, laidLooks := .later }
def ComposeAfterUptoCardSaid : Prop := Claim7.holds Tryz.pinned (.plain (OpenSpec.upto composeAfterSpec)) composeAfterUptoCard

/-- THE SECOND FORM's CARD OF 'abugidalaw11.ComposeInverts'. -/
def composeInvertsUptoCard : Claim7 := { stood := { row := composeInvertsUptoRow, standIns := [], harness := (true, "64da1114d7bf72e91c5e7207715983beeb51c391ff9686065e46913c008af7b2"), looks := true }, kinds := [], alts := [], laidByText := true, laidKinds := [.data, .data, .data], laidTests := true, laidLooks := .later }
def ComposeInvertsUptoCardSaid : Prop := Claim7.holds Tryz.pinned (.plain (OpenSpec.upto composeInvertsSpec)) composeInvertsUptoCard

/-- THE SECOND FORM's CARD OF 'abugidalaw11.ComposeBetween'. -/
def composeBetweenUptoCard : Claim7 := { stood := { row := composeBetweenUptoRow, standIns := [], harness := (true, "64da1114d7bf72e91c5e7207715983beeb51c391ff9686065e46913c008af7b2"), looks := true }, kinds := [], alts := [], laidByText := true, laidKinds := [.data, .data, .data], laidTests := true, laidLooks := .later }
def ComposeBetweenUptoCardSaid : Prop := Claim7.holds Tryz.pinned (.plain (OpenSpec.upto composeBetweenSpec)) composeBetweenUptoCard

/-- THE SECOND FORM's CARD OF 'abugidalaw10.SidesCross'. -/
def sidesCrossUptoCard : Claim7 := { stood := { row := sidesCrossUptoRow, standIns := [], harness := (true, "64da1114d7bf72e91c5e7207715983beeb51c391ff9686065e46913c008af7b2"), looks := true }, kinds := [], alts := [], laidByText := true, laidKinds := [.data, .data, .data], laidTests := true, laidLooks := .later }
def SidesCrossUptoCardSaid : Prop := Claim7.holds Tryz.pinned (.plain (OpenSpec.upto sidesCrossSpec)) sidesCrossUptoCard
end Rows
end Go.Proofs.YtpldocnhbdlgfaaGreatDoor
