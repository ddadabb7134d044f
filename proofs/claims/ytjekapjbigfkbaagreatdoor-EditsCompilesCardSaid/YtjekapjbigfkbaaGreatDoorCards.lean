/-
  DERIVED. GIVEN WITH THE SEED: THE CARDS: each row of YtjekapjbigfkbaaGreatDoorRows.lean that lists a variable, with what it lists TIED to the program's text (the seventh form; the later family's looks); each row that meets fmt, with fmt's text TOLD by the authors' own Lean function (tested against real Go, not proved from fmt's source: count such statements apart). THE CARD IS WHAT COUNTS. Prove the row's statement (the work); the ties are given (YtjekapjbigfkbaaGreatDoorTie.lean); close each card by the builder's one call (the guide's Derived/Test/ToyasCard.lean, 'card_holds'). Laid BY PROGRAM, IN A SANDBOX (cutbox-door.mjs). By AI agents, Wed Nov 11 2026. No macro, syntax, notation, axiom, sorry.
-/
import Derived.Test.YtjekapjbigfkbaaGreatDoorRows
import GoSem.ClaimSeven
namespace Go.Proofs.YtjekapjbigfkbaaGreatDoor
namespace Rows

/-- THE TIED CARD OF 'abugidalaw37.EditsValid'. -/
def editsValidCard : Claim7 := { stood := { row := editsValidRow, standIns := [], harness := (true, "23cda81cfea0ab8e1aff033b2d5cc60f705c4935301d281bb406588fb2e08aa7"), looks := true }, kinds := [], alts := [], laidByText := true, laidKinds := [.data, .data, .data], laidTests := true, laidLooks := .later }
def EditsValidCardSaid : Prop := Claim7.holds Tryz.pinned (.plain (OpenSpec.ofChange editsValidSpec)) editsValidCard

/-- THE TIED CARD OF 'abugidalaw37.EditsCost'. -/
def editsCostCard : Claim7 := { stood := { row := editsCostRow, standIns := [], harness := (true, "23cda81cfea0ab8e1aff033b2d5cc60f705c4935301d281bb406588fb2e08aa7"), looks := true }, kinds := [], alts := [], laidByText := true, laidKinds := [.data, .data, .data], laidTests := true, laidLooks := .later }
def EditsCostCardSaid : Prop := Claim7.holds Tryz.pinned (.plain (OpenSpec.ofChange editsCostSpec)) editsCostCard

/-- THE TIED CARD OF 'abugidalaw37.EditsCompiles'. -/
def editsCompilesCard : Claim7 := { stood := { row := editsCompilesRow, standIns := [], harness := (true, "23cda81cfea0ab8e1aff033b2d5cc60f705c4935301d281bb406588fb2e08aa7"), looks := true }, kinds := [], alts := [], laidByText := true, laidKinds := [.data, .data, .data], laidTests := true, laidLooks := .later }
def EditsCompilesCardSaid : Prop := Claim7.holds Tryz.pinned (.plain (OpenSpec.ofChange editsCompilesSpec)) editsCompilesCard

/-- THE TIED CARD OF 'abugidalaw37.EditsSimple'. -/
def editsSimpleCard : Claim7 := { stood := { row := editsSimpleRow, standIns := [], harness := (true, "23cda81cfea0ab8e1aff033b2d5cc60f705c4935301d281bb406588fb2e08aa7"), looks := true }, kinds := [], alts := [], laidByText := true, laidKinds := [.data, .data, .data], laidTests := true, laidLooks := .later }
def EditsSimpleCardSaid : Prop := Claim7.holds Tryz.pinned (.plain (OpenSpec.ofChange editsSimpleSpec)) editsSimpleCard

/-- THE TIED CARD OF 'abugidalaw37.EditsBack'. -/
def editsBackCard : Claim7 := { stood := { row := editsBackRow, standIns := [], harness := (true, "23cda81cfea0ab8e1aff033b2d5cc60f705c4935301d281bb406588fb2e08aa7"), looks := true }, kinds := [], alts := [], laidByText := true, laidKinds := [.data, .data, .data], laidTests := true, laidLooks := .later }
def EditsBackCardSaid : Prop := Claim7.holds Tryz.pinned (.plain (OpenSpec.ofChange editsBackSpec)) editsBackCard

/-- THE TIED CARD OF 'abugidalaw37.EditsKnown'. -/
def editsKnownCard : Claim7 := { stood := { row := editsKnownRow, standIns := [], harness := (true, "23cda81cfea0ab8e1aff033b2d5cc60f705c4935301d281bb406588fb2e08aa7"), looks := true }, kinds := [], alts := [], laidByText := true, laidKinds := [.data, .data, .data], laidTests := true, laidLooks := .later }
def EditsKnownCardSaid : Prop := Claim7.holds Tryz.pinned (.plain (OpenSpec.ofChange editsKnownSpec)) editsKnownCard

/-- THE TIED CARD OF 'abugidalaw37.EditsApplied'. -/
def editsAppliedCard : Claim7 := { stood := { row := editsAppliedRow, standIns := [], harness := (true, "23cda81cfea0ab8e1aff033b2d5cc60f705c4935301d281bb406588fb2e08aa7"), looks := true }, kinds := [], alts := [], laidByText := true, laidKinds := [.data, .data, .data], laidTests := true, laidLooks := .later }
def EditsAppliedCardSaid : Prop := Claim7.holds Tryz.pinned (.plain (OpenSpec.ofChange editsAppliedSpec)) editsAppliedCard

/-- THE TIED CARD OF 'abugidalaw37.EditsMost'. -/
def editsMostCard : Claim7 := { stood := { row := editsMostRow, standIns := [], harness := (true, "23cda81cfea0ab8e1aff033b2d5cc60f705c4935301d281bb406588fb2e08aa7"), looks := true }, kinds := [], alts := [], laidByText := true, laidKinds := [.data, .data, .data], laidTests := true, laidLooks := .later }
def EditsMostCardSaid : Prop := Claim7.holds Tryz.pinned (.plain (OpenSpec.ofChange editsMostSpec)) editsMostCard

/-- THE TIED CARD OF 'abugidalaw37.EditsParts'. -/
def editsPartsCard : Claim7 := { stood := { row := editsPartsRow, standIns := [], harness := (true, "23cda81cfea0ab8e1aff033b2d5cc60f705c4935301d281bb406588fb2e08aa7"), looks := true }, kinds := [], alts := [], laidByText := true, laidKinds := [.data, .data, .data], laidTests := true, laidLooks := .later }
def EditsPartsCardSaid : Prop := Claim7.holds Tryz.pinned (.plain (OpenSpec.ofChange editsPartsSpec)) editsPartsCard

/-- THE SECOND FORM's CARD OF 'abugidalaw37.EditsValid'. -/
def editsValidUptoCard : Claim7 := { stood := { row := editsValidUptoRow, standIns := [], harness := (true, "23cda81cfea0ab8e1aff033b2d5cc60f705c4935301d281bb406588fb2e08aa7"), looks := true }, kinds := [], alts := [], laidByText := true, laidKinds := [.data, .data, .data], laidTests := true, laidLooks := .later }
def EditsValidUptoCardSaid : Prop := Claim7.holds Tryz.pinned (.plain (OpenSpec.upto editsValidSpec)) editsValidUptoCard

/-- THE SECOND FORM's CARD OF 'abugidalaw37.EditsCost'. -/
def editsCostUptoCard : Claim7 := { stood := { row := editsCostUptoRow, standIns := [], harness := (true, "23cda81cfea0ab8e1aff033b2d5cc60f705c4935301d281bb406588fb2e08aa7"), looks := true }, kinds := [], alts := [], laidByText := true, laidKinds := [.data, .data, .data], laidTests := true, laidLooks := .later }
def EditsCostUptoCardSaid : Prop := Claim7.holds Tryz.pinned (.plain (OpenSpec.upto editsCostSpec)) editsCostUptoCard

/-- THE SECOND FORM's CARD OF 'abugidalaw37.EditsCompiles'. -/
def editsCompilesUptoCard : Claim7 := { stood := { row := editsCompilesUptoRow, standIns := [], harness := (true, "23cda81cfea0ab8e1aff033b2d5cc60f705c4935301d281bb406588fb2e08aa7"), looks := true }, kinds := [], alts := [], laidByText := true, laidKinds := [.data, .data, .data], laidTests := true, laidLooks := .later }
def EditsCompilesUptoCardSaid : Prop := Claim7.holds Tryz.pinned (.plain (OpenSpec.upto editsCompilesSpec)) editsCompilesUptoCard

/-- THE SECOND FORM's CARD OF 'abugidalaw37.EditsSimple'. -/
def editsSimpleUptoCard : Claim7 := { stood := { row := editsSimpleUptoRow, standIns := [], harness := (true, "23cda81cfea0ab8e1aff033b2d5cc60f705c4935301d281bb406588fb2e08aa7"), looks := true }, kinds := [], alts := [], laidByText := true, laidKinds := [.data, .data, .data], laidTests := true, laidLooks := .later }
def EditsSimpleUptoCardSaid : Prop := Claim7.holds Tryz.pinned (.plain (OpenSpec.upto editsSimpleSpec)) editsSimpleUptoCard

/-- THE SECOND FORM's CARD OF 'abugidalaw37.EditsBack'. -/
def editsBackUptoCard : Claim7 := { stood := { row := editsBackUptoRow, standIns := [], harness := (true, "23cda81cfea0ab8e1aff033b2d5cc60f705c4935301d281bb406588fb2e08aa7"), looks := true }, kinds := [], alts := [], laidByText := true, laidKinds := [.data, .data, .data], laidTests := true, laidLooks := .later }
def EditsBackUptoCardSaid : Prop := Claim7.holds Tryz.pinned (.plain (OpenSpec.upto editsBackSpec)) editsBackUptoCard

/-- THE SECOND FORM's CARD OF 'abugidalaw37.EditsKnown'. -/
def editsKnownUptoCard : Claim7 := { stood := { row := editsKnownUptoRow, standIns := [], harness := (true, "23cda81cfea0ab8e1aff033b2d5cc60f705c4935301d281bb406588fb2e08aa7"), looks := true }, kinds := [], alts := [], laidByText := true, laidKinds := [.data, .data, .data], laidTests := true, laidLooks := .later }
def EditsKnownUptoCardSaid : Prop := Claim7.holds Tryz.pinned (.plain (OpenSpec.upto editsKnownSpec)) editsKnownUptoCard

/-- THE SECOND FORM's CARD OF 'abugidalaw37.EditsApplied'. -/
def editsAppliedUptoCard : Claim7 := { stood := { row := editsAppliedUptoRow, standIns := [], harness := (true, "23cda81cfea0ab8e1aff033b2d5cc60f705c4935301d281bb406588fb2e08aa7"), looks := true }, kinds := [], alts := [], laidByText := true, laidKinds := [.data, .data, .data], laidTests := true, laidLooks := .later }
def EditsAppliedUptoCardSaid : Prop := Claim7.holds Tryz.pinned (.plain (OpenSpec.upto editsAppliedSpec)) editsAppliedUptoCard

/-- THE SECOND FORM's CARD OF 'abugidalaw37.EditsMost'. -/
def editsMostUptoCard : Claim7 := { stood := { row := editsMostUptoRow, standIns := [], harness := (true, "23cda81cfea0ab8e1aff033b2d5cc60f705c4935301d281bb406588fb2e08aa7"), looks := true }, kinds := [], alts := [], laidByText := true, laidKinds := [.data, .data, .data], laidTests := true, laidLooks := .later }
def EditsMostUptoCardSaid : Prop := Claim7.holds Tryz.pinned (.plain (OpenSpec.upto editsMostSpec)) editsMostUptoCard

/-- THE SECOND FORM's CARD OF 'abugidalaw37.EditsParts'. -/
def editsPartsUptoCard : Claim7 := { stood := { row := editsPartsUptoRow, standIns := [], harness := (true, "23cda81cfea0ab8e1aff033b2d5cc60f705c4935301d281bb406588fb2e08aa7"), looks := true }, kinds := [], alts := [], laidByText := true, laidKinds := [.data, .data, .data], laidTests := true, laidLooks := .later }
def EditsPartsUptoCardSaid : Prop := Claim7.holds Tryz.pinned (.plain (OpenSpec.upto editsPartsSpec)) editsPartsUptoCard
end Rows
end Go.Proofs.YtjekapjbigfkbaaGreatDoor
