/-
  DERIVED. GIVEN WITH THE SEED: THE CARDS: each row of YtlmfppjphblemaaGreatDoorRows.lean that lists a variable, with what it lists TIED to the program's text (the seventh form; the later family's looks); each row that meets fmt, with fmt's text TOLD by the authors' own Lean function (tested against real Go, not proved from fmt's source: count such statements apart). THE CARD IS WHAT COUNTS. Prove the row's statement (the work); the ties are given (YtlmfppjphblemaaGreatDoorTie.lean); close each card by the builder's one call (the guide's Derived/Test/ToyasCard.lean, 'card_holds'). Laid BY PROGRAM, IN A SANDBOX (cutbox-door.mjs). By AI agents, Wed Nov 11 2026. No macro, syntax, notation, axiom, sorry.
-/
import Derived.Test.YtlmfppjphblemaaGreatDoorRows
import GoSem.ClaimSeven
namespace Go.Proofs.YtlmfppjphblemaaGreatDoor
namespace Rows

/-- THE TIED CARD OF 'abugidalaw07.ClosureStar'. -/
def closureStarCard : Claim7 := { stood := { row := closureStarRow, standIns := [], harness := (true, "6cb0078905163a0c14536631b2810a442bb44c9426b8e0721523b69dbba336ae"), looks := true }, kinds := [], alts := [], laidByText := true, laidKinds := [.data, .data, .data], laidTests := true, laidLooks := .later }
def ClosureStarCardSaid : Prop := Claim7.holds Tryz.pinned (.plain (OpenSpec.ofChange closureStarSpec)) closureStarCard

/-- THE TIED CARD OF 'abugidalaw07.ClosureSums'. -/
def closureSumsCard : Claim7 := { stood := { row := closureSumsRow, standIns := [], harness := (true, "6cb0078905163a0c14536631b2810a442bb44c9426b8e0721523b69dbba336ae"), looks := true }, kinds := [], alts := [], laidByText := true, laidKinds := [.data, .data, .data], laidTests := true, laidLooks := .later }
def ClosureSumsCardSaid : Prop := Claim7.holds Tryz.pinned (.plain (OpenSpec.ofChange closureSumsSpec)) closureSumsCard

/-- THE TIED CARD OF 'abugidalaw07.ClosureFixed'. -/
def closureFixedCard : Claim7 := { stood := { row := closureFixedRow, standIns := [], harness := (true, "6cb0078905163a0c14536631b2810a442bb44c9426b8e0721523b69dbba336ae"), looks := true }, kinds := [], alts := [], laidByText := true, laidKinds := [.data, .data, .data], laidTests := true, laidLooks := .later }
def ClosureFixedCardSaid : Prop := Claim7.holds Tryz.pinned (.plain (OpenSpec.ofChange closureFixedSpec)) closureFixedCard

/-- THE TIED CARD OF 'abugidalaw07.ClosureMoved'. -/
def closureMovedCard : Claim7 := { stood := { row := closureMovedRow, standIns := [], harness := (true, "6cb0078905163a0c14536631b2810a442bb44c9426b8e0721523b69dbba336ae"), looks := true }, kinds := [], alts := [], laidByText := true, laidKinds := [.data, .data, .data], laidTests := true, laidLooks := .later }
def ClosureMovedCardSaid : Prop := Claim7.holds Tryz.pinned (.plain (OpenSpec.ofChange closureMovedSpec)) closureMovedCard

/-- THE TIED CARD OF 'abugidalaw07.ClosureFinite'. -/
def closureFiniteCard : Claim7 := { stood := { row := closureFiniteRow, standIns := [], harness := (true, "6cb0078905163a0c14536631b2810a442bb44c9426b8e0721523b69dbba336ae"), looks := true }, kinds := [], alts := [], laidByText := true, laidKinds := [.data, .data, .data], laidTests := true, laidLooks := .later }
def ClosureFiniteCardSaid : Prop := Claim7.holds Tryz.pinned (.plain (OpenSpec.ofChange closureFiniteSpec)) closureFiniteCard

/-- THE TIED CARD OF 'abugidalaw07.ClosureTotals'. -/
def closureTotalsCard : Claim7 := { stood := { row := closureTotalsRow, standIns := [], harness := (true, "6cb0078905163a0c14536631b2810a442bb44c9426b8e0721523b69dbba336ae"), looks := true }, kinds := [], alts := [], laidByText := true, laidKinds := [.data, .data, .data], laidTests := true, laidLooks := .later }
def ClosureTotalsCardSaid : Prop := Claim7.holds Tryz.pinned (.plain (OpenSpec.ofChange closureTotalsSpec)) closureTotalsCard

/-- THE TIED CARD OF 'abugidalaw07.ClosureKnown'. -/
def closureKnownCard : Claim7 := { stood := { row := closureKnownRow, standIns := [], harness := (true, "6cb0078905163a0c14536631b2810a442bb44c9426b8e0721523b69dbba336ae"), looks := true }, kinds := [], alts := [], laidByText := true, laidKinds := [.data, .data, .data], laidTests := true, laidLooks := .later }
def ClosureKnownCardSaid : Prop := Claim7.holds Tryz.pinned (.plain (OpenSpec.ofChange closureKnownSpec)) closureKnownCard

/-- THE TIED CARD OF 'abugidalaw07.ClosureWalks'. -/
def closureWalksCard : Claim7 := { stood := { row := closureWalksRow, standIns := [], harness := (true, "6cb0078905163a0c14536631b2810a442bb44c9426b8e0721523b69dbba336ae"), looks := true }, kinds := [], alts := [], laidByText := true, laidKinds := [.data, .data, .data], laidTests := true, laidLooks := .later }
def ClosureWalksCardSaid : Prop := Claim7.holds Tryz.pinned (.plain (OpenSpec.ofChange closureWalksSpec)) closureWalksCard

/-- THE SECOND FORM's CARD OF 'abugidalaw07.ClosureStar'. -/
def closureStarUptoCard : Claim7 := { stood := { row := closureStarUptoRow, standIns := [], harness := (true, "6cb0078905163a0c14536631b2810a442bb44c9426b8e0721523b69dbba336ae"), looks := true }, kinds := [], alts := [], laidByText := true, laidKinds := [.data, .data, .data], laidTests := true, laidLooks := .later }
def ClosureStarUptoCardSaid : Prop := Claim7.holds Tryz.pinned (.plain (OpenSpec.upto closureStarSpec)) closureStarUptoCard

/-- THE SECOND FORM's CARD OF 'abugidalaw07.ClosureSums'. -/
def closureSumsUptoCard : Claim7 := { stood := { row := closureSumsUptoRow, standIns := [], harness := (true, "6cb0078905163a0c14536631b2810a442bb44c9426b8e0721523b69dbba336ae"), looks := true }, kinds := [], alts := [], laidByText := true, laidKinds := [.data, .data, .data], laidTests := true, laidLooks := .later }
def ClosureSumsUptoCardSaid : Prop := Claim7.holds Tryz.pinned (.plain (OpenSpec.upto closureSumsSpec)) closureSumsUptoCard

/-- THE SECOND FORM's CARD OF 'abugidalaw07.ClosureFixed'. -/
def closureFixedUptoCard : Claim7 := { stood := { row := closureFixedUptoRow, standIns := [], harness := (true, "6cb0078905163a0c14536631b2810a442bb44c9426b8e0721523b69dbba336ae"), looks := true }, kinds := [], alts := [], laidByText := true, laidKinds := [.data, .data, .data], laidTests := true, laidLooks := .later }
def ClosureFixedUptoCardSaid : Prop := Claim7.holds Tryz.pinned (.plain (OpenSpec.upto closureFixedSpec)) closureFixedUptoCard

/-- THE SECOND FORM's CARD OF 'abugidalaw07.ClosureMoved'. -/
def closureMovedUptoCard : Claim7 := { stood := { row := closureMovedUptoRow, standIns := [], harness := (true, "6cb0078905163a0c14536631b2810a442bb44c9426b8e0721523b69dbba336ae"), looks := true }, kinds := [], alts := [], laidByText := true, laidKinds := [.data, .data, .data], laidTests := true, laidLooks := .later }
def ClosureMovedUptoCardSaid : Prop := Claim7.holds Tryz.pinned (.plain (OpenSpec.upto closureMovedSpec)) closureMovedUptoCard

/-- THE SECOND FORM's CARD OF 'abugidalaw07.ClosureFinite'. -/
def closureFiniteUptoCard : Claim7 := { stood := { row := closureFiniteUptoRow, standIns := [], harness := (true, "6cb0078905163a0c14536631b2810a442bb44c9426b8e0721523b69dbba336ae"), looks := true }, kinds := [], alts := [], laidByText := true, laidKinds := [.data, .data, .data], laidTests := true, laidLooks := .later }
def ClosureFiniteUptoCardSaid : Prop := Claim7.holds Tryz.pinned (.plain (OpenSpec.upto closureFiniteSpec)) closureFiniteUptoCard

/-- THE SECOND FORM's CARD OF 'abugidalaw07.ClosureTotals'. -/
def closureTotalsUptoCard : Claim7 := { stood := { row := closureTotalsUptoRow, standIns := [], harness := (true, "6cb0078905163a0c14536631b2810a442bb44c9426b8e0721523b69dbba336ae"), looks := true }, kinds := [], alts := [], laidByText := true, laidKinds := [.data, .data, .data], laidTests := true, laidLooks := .later }
def ClosureTotalsUptoCardSaid : Prop := Claim7.holds Tryz.pinned (.plain (OpenSpec.upto closureTotalsSpec)) closureTotalsUptoCard

/-- THE SECOND FORM's CARD OF 'abugidalaw07.ClosureKnown'. -/
def closureKnownUptoCard : Claim7 := { stood := { row := closureKnownUptoRow, standIns := [], harness := (true, "6cb0078905163a0c14536631b2810a442bb44c9426b8e0721523b69dbba336ae"), looks := true }, kinds := [], alts := [], laidByText := true, laidKinds := [.data, .data, .data], laidTests := true, laidLooks := .later }
def ClosureKnownUptoCardSaid : Prop := Claim7.holds Tryz.pinned (.plain (OpenSpec.upto closureKnownSpec)) closureKnownUptoCard

/-- THE SECOND FORM's CARD OF 'abugidalaw07.ClosureWalks'. -/
def closureWalksUptoCard : Claim7 := { stood := { row := closureWalksUptoRow, standIns := [], harness := (true, "6cb0078905163a0c14536631b2810a442bb44c9426b8e0721523b69dbba336ae"), looks := true }, kinds := [], alts := [], laidByText := true, laidKinds := [.data, .data, .data], laidTests := true, laidLooks := .later }
def ClosureWalksUptoCardSaid : Prop := Claim7.holds Tryz.pinned (.plain (OpenSpec.upto closureWalksSpec)) closureWalksUptoCard
end Rows
end Go.Proofs.YtlmfppjphblemaaGreatDoor
