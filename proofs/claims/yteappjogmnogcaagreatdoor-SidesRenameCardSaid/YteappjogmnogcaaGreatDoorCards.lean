/-
  DERIVED. GIVEN WITH THE SEED: THE CARDS: each row of YteappjogmnogcaaGreatDoorRows.lean that lists a variable, with what it lists TIED to the program's text (the seventh form; the later family's looks); each row that meets fmt, with fmt's text TOLD by the authors' own Lean function (tested against real Go, not proved from fmt's source: count such statements apart). THE CARD IS WHAT COUNTS. Prove the row's statement (the work); the ties are given (YteappjogmnogcaaGreatDoorTie.lean); close each card by the builder's one call (the guide's Derived/Test/ToyasCard.lean, 'card_holds'). Laid BY PROGRAM, IN A SANDBOX (cutbox-door.mjs). By AI agents, Wed Nov 11 2026. No macro, syntax, notation, axiom, sorry.
-/
import Derived.Test.YteappjogmnogcaaGreatDoorRows
import GoSem.ClaimSeven
namespace Go.Proofs.YteappjogmnogcaaGreatDoor
namespace Rows

/-- THE TIED CARD OF 'abugidalaw10.SidesInvert'. -/
def sidesInvertCard : Claim7 := { stood := { row := sidesInvertRow, standIns := [], harness := (true, "2d17250d89af4dcbd98a6b46f5972dc0239a3b58efaa1d71211c93a0113d73a5"), looks := true }, kinds := [], alts := [], laidByText := true, laidKinds := [.data, .data, .data], laidTests := true, laidLooks := .later }
def SidesInvertCardSaid : Prop := Claim7.holds Tryz.pinned (.plain (OpenSpec.ofChange sidesInvertSpec)) sidesInvertCard

/-- THE TIED CARD OF 'abugidalaw10.SidesInput'. -/
def sidesInputCard : Claim7 := { stood := { row := sidesInputRow, standIns := [], harness := (true, "2d17250d89af4dcbd98a6b46f5972dc0239a3b58efaa1d71211c93a0113d73a5"), looks := true }, kinds := [], alts := [], laidByText := true, laidKinds := [.data, .data, .data], laidTests := true, laidLooks := .later }
def SidesInputCardSaid : Prop := Claim7.holds Tryz.pinned (.plain (OpenSpec.ofChange sidesInputSpec)) sidesInputCard

/-- THE TIED CARD OF 'abugidalaw10.SidesReverse'. -/
def sidesReverseCard : Claim7 := { stood := { row := sidesReverseRow, standIns := [], harness := (true, "2d17250d89af4dcbd98a6b46f5972dc0239a3b58efaa1d71211c93a0113d73a5"), looks := true }, kinds := [], alts := [], laidByText := true, laidKinds := [.data, .data, .data], laidTests := true, laidLooks := .later }
def SidesReverseCardSaid : Prop := Claim7.holds Tryz.pinned (.plain (OpenSpec.ofChange sidesReverseSpec)) sidesReverseCard

/-- THE TIED CARD OF 'abugidalaw10.SidesCross'. -/
def sidesCrossCard : Claim7 := { stood := { row := sidesCrossRow, standIns := [], harness := (true, "2d17250d89af4dcbd98a6b46f5972dc0239a3b58efaa1d71211c93a0113d73a5"), looks := true }, kinds := [], alts := [], laidByText := true, laidKinds := [.data, .data, .data], laidTests := true, laidLooks := .later }
def SidesCrossCardSaid : Prop := Claim7.holds Tryz.pinned (.plain (OpenSpec.ofChange sidesCrossSpec)) sidesCrossCard

/-- THE TIED CARD OF 'abugidalaw10.SidesRename'. -/
def sidesRenameCard : Claim7 := { stood := { row := sidesRenameRow, standIns := [], harness := (true, "2d17250d89af4dcbd98a6b46f5972dc0239a3b58efaa1d71211c93a0113d73a5"), looks := true }, kinds := [], alts := [], laidByText := true, laidKinds := [.data, .data, .data], laidTests := true, laidLooks := .later }
def SidesRenameCardSaid : Prop := Claim7.holds Tryz.pinned (.plain (OpenSpec.ofChange sidesRenameSpec)) sidesRenameCard

/-- THE TIED CARD OF 'abugidalaw10.SidesTwice'. -/
def sidesTwiceCard : Claim7 := { stood := { row := sidesTwiceRow, standIns := [], harness := (true, "2d17250d89af4dcbd98a6b46f5972dc0239a3b58efaa1d71211c93a0113d73a5"), looks := true }, kinds := [], alts := [], laidByText := true, laidKinds := [.data, .data, .data], laidTests := true, laidLooks := .later }
def SidesTwiceCardSaid : Prop := Claim7.holds Tryz.pinned (.plain (OpenSpec.ofChange sidesTwiceSpec)) sidesTwiceCard

/-- THE TIED CARD OF 'abugidalaw10.SidesBack'. -/
def sidesBackCard : Claim7 := { stood := { row := sidesBackRow, standIns := [], harness := (true, "2d17250d89af4dcbd98a6b46f5972dc0239a3b58efaa1d71211c93a0113d73a5"), looks := true }, kinds := [], alts := [], laidByText := true, laidKinds := [.data, .data, .data], laidTests := true, laidLooks := .later }
def SidesBackCardSaid : Prop := Claim7.holds Tryz.pinned (.plain (OpenSpec.ofChange sidesBackSpec)) sidesBackCard

/-- THE TIED CARD OF 'abugidalaw10.SidesKnown'. -/
def sidesKnownCard : Claim7 := { stood := { row := sidesKnownRow, standIns := [], harness := (true, "2d17250d89af4dcbd98a6b46f5972dc0239a3b58efaa1d71211c93a0113d73a5"), looks := true }, kinds := [], alts := [], laidByText := true, laidKinds := [.data, .data, .data], laidTests := true, laidLooks := .later }
def SidesKnownCardSaid : Prop := Claim7.holds Tryz.pinned (.plain (OpenSpec.ofChange sidesKnownSpec)) sidesKnownCard

/-- THE TIED CARD OF 'abugidalaw10.SidesOutput'. -/
def sidesOutputCard : Claim7 := { stood := { row := sidesOutputRow, standIns := [], harness := (true, "2d17250d89af4dcbd98a6b46f5972dc0239a3b58efaa1d71211c93a0113d73a5"), looks := true }, kinds := [], alts := [], laidByText := true, laidKinds := [.data, .data, .data], laidTests := true, laidLooks := .later }
def SidesOutputCardSaid : Prop := Claim7.holds Tryz.pinned (.plain (OpenSpec.ofChange sidesOutputSpec)) sidesOutputCard

/-- THE TIED CARD OF 'abugidalaw10.SidesProduct'. -/
def sidesProductCard : Claim7 := { stood := { row := sidesProductRow, standIns := [], harness := (true, "2d17250d89af4dcbd98a6b46f5972dc0239a3b58efaa1d71211c93a0113d73a5"), looks := true }, kinds := [], alts := [], laidByText := true, laidKinds := [.data, .data, .data], laidTests := true, laidLooks := .later }
def SidesProductCardSaid : Prop := Claim7.holds Tryz.pinned (.plain (OpenSpec.ofChange sidesProductSpec)) sidesProductCard

/-- THE SECOND FORM's CARD OF 'abugidalaw10.SidesInvert'. -/
def sidesInvertUptoCard : Claim7 := { stood := { row := sidesInvertUptoRow, standIns := [], harness := (true, "2d17250d89af4dcbd98a6b46f5972dc0239a3b58efaa1d71211c93a0113d73a5"), looks := true }, kinds := [], alts := [], laidByText := true, laidKinds := [.data, .data, .data], laidTests := true, laidLooks := .later }
def SidesInvertUptoCardSaid : Prop := Claim7.holds Tryz.pinned (.plain (OpenSpec.upto sidesInvertSpec)) sidesInvertUptoCard

/-- THE SECOND FORM's CARD OF 'abugidalaw10.SidesInput'. -/
def sidesInputUptoCard : Claim7 := { stood := { row := sidesInputUptoRow, standIns := [], harness := (true, "2d17250d89af4dcbd98a6b46f5972dc0239a3b58efaa1d71211c93a0113d73a5"), looks := true }, kinds := [], alts := [], laidByText := true, laidKinds := [.data, .data, .data], laidTests := true, laidLooks := .later }
def SidesInputUptoCardSaid : Prop := Claim7.holds Tryz.pinned (.plain (OpenSpec.upto sidesInputSpec)) sidesInputUptoCard

/-- THE SECOND FORM's CARD OF 'abugidalaw10.SidesReverse'. -/
def sidesReverseUptoCard : Claim7 := { stood := { row := sidesReverseUptoRow, standIns := [], harness := (true, "2d17250d89af4dcbd98a6b46f5972dc0239a3b58efaa1d71211c93a0113d73a5"), looks := true }, kinds := [], alts := [], laidByText := true, laidKinds := [.data, .data, .data], laidTests := true, laidLooks := .later }
def SidesReverseUptoCardSaid : Prop := Claim7.holds Tryz.pinned (.plain (OpenSpec.upto sidesReverseSpec)) sidesReverseUptoCard

/-- THE SECOND FORM's CARD OF 'abugidalaw10.SidesCross'. -/
def sidesCrossUptoCard : Claim7 := { stood := { row := sidesCrossUptoRow, standIns := [], harness := (true, "2d17250d89af4dcbd98a6b46f5972dc0239a3b58efaa1d71211c93a0113d73a5"), looks := true }, kinds := [], alts := [], laidByText := true, laidKinds := [.data, .data, .data], laidTests := true, laidLooks := .later }
def SidesCrossUptoCardSaid : Prop := Claim7.holds Tryz.pinned (.plain (OpenSpec.upto sidesCrossSpec)) sidesCrossUptoCard

/-- THE SECOND FORM's CARD OF 'abugidalaw10.SidesRename'. -/
def sidesRenameUptoCard : Claim7 := { stood := { row := sidesRenameUptoRow, standIns := [], harness := (true, "2d17250d89af4dcbd98a6b46f5972dc0239a3b58efaa1d71211c93a0113d73a5"), looks := true }, kinds := [], alts := [], laidByText := true, laidKinds := [.data, .data, .data], laidTests := true, laidLooks := .later }
def SidesRenameUptoCardSaid : Prop := Claim7.holds Tryz.pinned (.plain (OpenSpec.upto sidesRenameSpec)) sidesRenameUptoCard

/-- THE SECOND FORM's CARD OF 'abugidalaw10.SidesTwice'. -/
def sidesTwiceUptoCard : Claim7 := { stood := { row := sidesTwiceUptoRow, standIns := [], harness := (true, "2d17250d89af4dcbd98a6b46f5972dc0239a3b58efaa1d71211c93a0113d73a5"), looks := true }, kinds := [], alts := [], laidByText := true, laidKinds := [.data, .data, .data], laidTests := true, laidLooks := .later }
def SidesTwiceUptoCardSaid : Prop := Claim7.holds Tryz.pinned (.plain (OpenSpec.upto sidesTwiceSpec)) sidesTwiceUptoCard

/-- THE SECOND FORM's CARD OF 'abugidalaw10.SidesBack'. -/
def sidesBackUptoCard : Claim7 := { stood := { row := sidesBackUptoRow, standIns := [], harness := (true, "2d17250d89af4dcbd98a6b46f5972dc0239a3b58efaa1d71211c93a0113d73a5"), looks := true }, kinds := [], alts := [], laidByText := true, laidKinds := [.data, .data, .data], laidTests := true, laidLooks := .later }
def SidesBackUptoCardSaid : Prop := Claim7.holds Tryz.pinned (.plain (OpenSpec.upto sidesBackSpec)) sidesBackUptoCard

/-- THE SECOND FORM's CARD OF 'abugidalaw10.SidesKnown'. -/
def sidesKnownUptoCard : Claim7 := { stood := { row := sidesKnownUptoRow, standIns := [], harness := (true, "2d17250d89af4dcbd98a6b46f5972dc0239a3b58efaa1d71211c93a0113d73a5"), looks := true }, kinds := [], alts := [], laidByText := true, laidKinds := [.data, .data, .data], laidTests := true, laidLooks := .later }
def SidesKnownUptoCardSaid : Prop := Claim7.holds Tryz.pinned (.plain (OpenSpec.upto sidesKnownSpec)) sidesKnownUptoCard

/-- THE SECOND FORM's CARD OF 'abugidalaw10.SidesOutput'. -/
def sidesOutputUptoCard : Claim7 := { stood := { row := sidesOutputUptoRow, standIns := [], harness := (true, "2d17250d89af4dcbd98a6b46f5972dc0239a3b58efaa1d71211c93a0113d73a5"), looks := true }, kinds := [], alts := [], laidByText := true, laidKinds := [.data, .data, .data], laidTests := true, laidLooks := .later }
def SidesOutputUptoCardSaid : Prop := Claim7.holds Tryz.pinned (.plain (OpenSpec.upto sidesOutputSpec)) sidesOutputUptoCard

/-- THE SECOND FORM's CARD OF 'abugidalaw10.SidesProduct'. -/
def sidesProductUptoCard : Claim7 := { stood := { row := sidesProductUptoRow, standIns := [], harness := (true, "2d17250d89af4dcbd98a6b46f5972dc0239a3b58efaa1d71211c93a0113d73a5"), looks := true }, kinds := [], alts := [], laidByText := true, laidKinds := [.data, .data, .data], laidTests := true, laidLooks := .later }
def SidesProductUptoCardSaid : Prop := Claim7.holds Tryz.pinned (.plain (OpenSpec.upto sidesProductSpec)) sidesProductUptoCard
end Rows
end Go.Proofs.YteappjogmnogcaaGreatDoor
