/-
  DERIVED. GIVEN WITH THE SEED: THE CARDS: each row of YtndfbnffielfaaaDoorRows.lean that lists a variable, with what it lists TIED to the program's text (the seventh form; the later family's looks); each row that meets fmt, with fmt's text TOLD by the authors' own Lean function (tested against real Go, not proved from fmt's source: count such statements apart). THE CARD IS WHAT COUNTS. Prove the row's statement (the work); the ties are given (YtndfbnffielfaaaDoorTie.lean); close each card by the builder's one call (the guide's Derived/Test/ToyasCard.lean, 'card_holds'). Laid BY PROGRAM, IN A SANDBOX (cutbox-door.mjs). By AI agents, Wed Nov 11 2026. No macro, syntax, notation, axiom, sorry.
-/
import Derived.Test.YtndfbnffielfaaaDoorRows
import GoSem.ClaimSeven
namespace Go.Proofs.YtndfbnffielfaaaDoor
namespace Rows

/-- THE TIED CARD OF 'abugidalaw02.NatAdds'. -/
def natAddsCard : Claim7 := { stood := { row := natAddsRow, standIns := [], harness := (true, "904bbecbacc66a3c0c2818185d9c1d48ab3476062e4b3bf631ad550864a5fd1b"), looks := false }, kinds := [], alts := [], laidByText := true, laidKinds := [.data, .data, .data], laidTests := true, laidLooks := .later }
def NatAddsCardSaid : Prop := Claim7.holds Tryd.pinned (.plain (OpenSpec.ofChange natAddsSpec)) natAddsCard

/-- THE TIED CARD OF 'abugidalaw02.NatMuls'. -/
def natMulsCard : Claim7 := { stood := { row := natMulsRow, standIns := [], harness := (true, "904bbecbacc66a3c0c2818185d9c1d48ab3476062e4b3bf631ad550864a5fd1b"), looks := false }, kinds := [], alts := [], laidByText := true, laidKinds := [.data, .data, .data], laidTests := true, laidLooks := .later }
def NatMulsCardSaid : Prop := Claim7.holds Tryd.pinned (.plain (OpenSpec.ofChange natMulsSpec)) natMulsCard

/-- THE TIED CARD OF 'abugidalaw02.NatDivs'. -/
def natDivsCard : Claim7 := { stood := { row := natDivsRow, standIns := [], harness := (true, "904bbecbacc66a3c0c2818185d9c1d48ab3476062e4b3bf631ad550864a5fd1b"), looks := false }, kinds := [], alts := [], laidByText := true, laidKinds := [.data, .data, .data], laidTests := true, laidLooks := .later }
def NatDivsCardSaid : Prop := Claim7.holds Tryd.pinned (.plain (OpenSpec.ofChange natDivsSpec)) natDivsCard

/-- THE TIED CARD OF 'abugidalaw02.NatBack'. -/
def natBackCard : Claim7 := { stood := { row := natBackRow, standIns := [], harness := (true, "904bbecbacc66a3c0c2818185d9c1d48ab3476062e4b3bf631ad550864a5fd1b"), looks := false }, kinds := [], alts := [], laidByText := true, laidKinds := [.data, .data, .data], laidTests := true, laidLooks := .later }
def NatBackCardSaid : Prop := Claim7.holds Tryd.pinned (.plain (OpenSpec.ofChange natBackSpec)) natBackCard

/-- THE TIED CARD OF 'abugidalaw02.NatLaws'. -/
def natLawsCard : Claim7 := { stood := { row := natLawsRow, standIns := [], harness := (true, "904bbecbacc66a3c0c2818185d9c1d48ab3476062e4b3bf631ad550864a5fd1b"), looks := false }, kinds := [], alts := [], laidByText := true, laidKinds := [.data, .data, .data], laidTests := true, laidLooks := .later }
def NatLawsCardSaid : Prop := Claim7.holds Tryd.pinned (.plain (OpenSpec.ofChange natLawsSpec)) natLawsCard

/-- THE TIED CARD OF 'abugidalaw02.NatDivisors'. -/
def natDivisorsCard : Claim7 := { stood := { row := natDivisorsRow, standIns := [], harness := (true, "904bbecbacc66a3c0c2818185d9c1d48ab3476062e4b3bf631ad550864a5fd1b"), looks := false }, kinds := [], alts := [], laidByText := true, laidKinds := [.data, .data, .data], laidTests := true, laidLooks := .later }
def NatDivisorsCardSaid : Prop := Claim7.holds Tryd.pinned (.plain (OpenSpec.ofChange natDivisorsSpec)) natDivisorsCard

/-- THE TIED CARD OF 'abugidalaw02.NatLimits'. -/
def natLimitsCard : Claim7 := { stood := { row := natLimitsRow, standIns := [], harness := (true, "904bbecbacc66a3c0c2818185d9c1d48ab3476062e4b3bf631ad550864a5fd1b"), looks := false }, kinds := [], alts := [], laidByText := true, laidKinds := [.data, .data, .data], laidTests := true, laidLooks := .later }
def NatLimitsCardSaid : Prop := Claim7.holds Tryd.pinned (.plain (OpenSpec.ofChange natLimitsSpec)) natLimitsCard

/-- THE TIED CARD OF 'abugidalaw02.NatValid'. -/
def natValidCard : Claim7 := { stood := { row := natValidRow, standIns := [], harness := (true, "904bbecbacc66a3c0c2818185d9c1d48ab3476062e4b3bf631ad550864a5fd1b"), looks := false }, kinds := [], alts := [], laidByText := true, laidKinds := [.data, .data, .data], laidTests := true, laidLooks := .later }
def NatValidCardSaid : Prop := Claim7.holds Tryd.pinned (.plain (OpenSpec.ofChange natValidSpec)) natValidCard

/-- THE TIED CARD OF 'abugidalaw02.NatNative'. -/
def natNativeCard : Claim7 := { stood := { row := natNativeRow, standIns := [], harness := (true, "904bbecbacc66a3c0c2818185d9c1d48ab3476062e4b3bf631ad550864a5fd1b"), looks := false }, kinds := [], alts := [], laidByText := true, laidKinds := [.data, .data, .data], laidTests := true, laidLooks := .later }
def NatNativeCardSaid : Prop := Claim7.holds Tryd.pinned (.plain (OpenSpec.ofChange natNativeSpec)) natNativeCard

/-- THE SECOND FORM's CARD OF 'abugidalaw02.NatAdds'. -/
def natAddsUptoCard : Claim7 := { stood := { row := natAddsUptoRow, standIns := [], harness := (true, "904bbecbacc66a3c0c2818185d9c1d48ab3476062e4b3bf631ad550864a5fd1b"), looks := false }, kinds := [], alts := [], laidByText := true, laidKinds := [.data, .data, .data], laidTests := true, laidLooks := .later }
def NatAddsUptoCardSaid : Prop := Claim7.holds Tryd.pinned (.plain (OpenSpec.upto natAddsSpec)) natAddsUptoCard

/-- THE SECOND FORM's CARD OF 'abugidalaw02.NatMuls'. -/
def natMulsUptoCard : Claim7 := { stood := { row := natMulsUptoRow, standIns := [], harness := (true, "904bbecbacc66a3c0c2818185d9c1d48ab3476062e4b3bf631ad550864a5fd1b"), looks := false }, kinds := [], alts := [], laidByText := true, laidKinds := [.data, .data, .data], laidTests := true, laidLooks := .later }
def NatMulsUptoCardSaid : Prop := Claim7.holds Tryd.pinned (.plain (OpenSpec.upto natMulsSpec)) natMulsUptoCard

/-- THE SECOND FORM's CARD OF 'abugidalaw02.NatDivs'. -/
def natDivsUptoCard : Claim7 := { stood := { row := natDivsUptoRow, standIns := [], harness := (true, "904bbecbacc66a3c0c2818185d9c1d48ab3476062e4b3bf631ad550864a5fd1b"), looks := false }, kinds := [], alts := [], laidByText := true, laidKinds := [.data, .data, .data], laidTests := true, laidLooks := .later }
def NatDivsUptoCardSaid : Prop := Claim7.holds Tryd.pinned (.plain (OpenSpec.upto natDivsSpec)) natDivsUptoCard

/-- THE SECOND FORM's CARD OF 'abugidalaw02.NatBack'. -/
def natBackUptoCard : Claim7 := { stood := { row := natBackUptoRow, standIns := [], harness := (true, "904bbecbacc66a3c0c2818185d9c1d48ab3476062e4b3bf631ad550864a5fd1b"), looks := false }, kinds := [], alts := [], laidByText := true, laidKinds := [.data, .data, .data], laidTests := true, laidLooks := .later }
def NatBackUptoCardSaid : Prop := Claim7.holds Tryd.pinned (.plain (OpenSpec.upto natBackSpec)) natBackUptoCard

/-- THE SECOND FORM's CARD OF 'abugidalaw02.NatLaws'. -/
def natLawsUptoCard : Claim7 := { stood := { row := natLawsUptoRow, standIns := [], harness := (true, "904bbecbacc66a3c0c2818185d9c1d48ab3476062e4b3bf631ad550864a5fd1b"), looks := false }, kinds := [], alts := [], laidByText := true, laidKinds := [.data, .data, .data], laidTests := true, laidLooks := .later }
def NatLawsUptoCardSaid : Prop := Claim7.holds Tryd.pinned (.plain (OpenSpec.upto natLawsSpec)) natLawsUptoCard

/-- THE SECOND FORM's CARD OF 'abugidalaw02.NatDivisors'. -/
def natDivisorsUptoCard : Claim7 := { stood := { row := natDivisorsUptoRow, standIns := [], harness := (true, "904bbecbacc66a3c0c2818185d9c1d48ab3476062e4b3bf631ad550864a5fd1b"), looks := false }, kinds := [], alts := [], laidByText := true, laidKinds := [.data, .data, .data], laidTests := true, laidLooks := .later }
def NatDivisorsUptoCardSaid : Prop := Claim7.holds Tryd.pinned (.plain (OpenSpec.upto natDivisorsSpec)) natDivisorsUptoCard

/-- THE SECOND FORM's CARD OF 'abugidalaw02.NatLimits'. -/
def natLimitsUptoCard : Claim7 := { stood := { row := natLimitsUptoRow, standIns := [], harness := (true, "904bbecbacc66a3c0c2818185d9c1d48ab3476062e4b3bf631ad550864a5fd1b"), looks := false }, kinds := [], alts := [], laidByText := true, laidKinds := [.data, .data, .data], laidTests := true, laidLooks := .later }
def NatLimitsUptoCardSaid : Prop := Claim7.holds Tryd.pinned (.plain (OpenSpec.upto natLimitsSpec)) natLimitsUptoCard

/-- THE SECOND FORM's CARD OF 'abugidalaw02.NatValid'. -/
def natValidUptoCard : Claim7 := { stood := { row := natValidUptoRow, standIns := [], harness := (true, "904bbecbacc66a3c0c2818185d9c1d48ab3476062e4b3bf631ad550864a5fd1b"), looks := false }, kinds := [], alts := [], laidByText := true, laidKinds := [.data, .data, .data], laidTests := true, laidLooks := .later }
def NatValidUptoCardSaid : Prop := Claim7.holds Tryd.pinned (.plain (OpenSpec.upto natValidSpec)) natValidUptoCard

/-- THE SECOND FORM's CARD OF 'abugidalaw02.NatNative'. -/
def natNativeUptoCard : Claim7 := { stood := { row := natNativeUptoRow, standIns := [], harness := (true, "904bbecbacc66a3c0c2818185d9c1d48ab3476062e4b3bf631ad550864a5fd1b"), looks := false }, kinds := [], alts := [], laidByText := true, laidKinds := [.data, .data, .data], laidTests := true, laidLooks := .later }
def NatNativeUptoCardSaid : Prop := Claim7.holds Tryd.pinned (.plain (OpenSpec.upto natNativeSpec)) natNativeUptoCard
end Rows
end Go.Proofs.YtndfbnffielfaaaDoor
