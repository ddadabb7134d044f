/-
  DERIVED. GIVEN WITH THE SEED: THE CARDS: each row of YtlcbdaconghcmaaGreatDoorRows.lean that lists a variable, with what it lists TIED to the program's text (the seventh form; the later family's looks); each row that meets fmt, with fmt's text TOLD by the authors' own Lean function (tested against real Go, not proved from fmt's source: count such statements apart). THE CARD IS WHAT COUNTS. Prove the row's statement (the work); the ties are given (YtlcbdaconghcmaaGreatDoorTie.lean); close each card by the builder's one call (the guide's Derived/Test/ToyasCard.lean, 'card_holds'). Laid BY PROGRAM, IN A SANDBOX (cutbox-door.mjs). By AI agents, Wed Nov 11 2026. No macro, syntax, notation, axiom, sorry.
-/
import Derived.Test.YtlcbdaconghcmaaGreatDoorRows
import GoSem.ClaimSeven
namespace Go.Proofs.YtlcbdaconghcmaaGreatDoor
namespace Rows

/-- THE TIED CARD OF 'abugidalaw04.SemiComputes'. -/
def semiComputesCard : Claim7 := { stood := { row := semiComputesRow, standIns := [], harness := (true, "09b516a80d125d11e0211c62c5c79772da8f36a0d824a81ac348ffe3b66c6d5c"), looks := true }, kinds := [], alts := [], laidByText := true, laidKinds := [.data, .data, .data], laidTests := true, laidLooks := .later }
def SemiComputesCardSaid : Prop := Claim7.holds Tryz.pinned (.plain (OpenSpec.ofChange semiComputesSpec)) semiComputesCard

/-- THE TIED CARD OF 'abugidalaw04.SemiDivides'. -/
def semiDividesCard : Claim7 := { stood := { row := semiDividesRow, standIns := [], harness := (true, "09b516a80d125d11e0211c62c5c79772da8f36a0d824a81ac348ffe3b66c6d5c"), looks := true }, kinds := [], alts := [], laidByText := true, laidKinds := [.data, .data, .data], laidTests := true, laidLooks := .later }
def SemiDividesCardSaid : Prop := Claim7.holds Tryz.pinned (.plain (OpenSpec.ofChange semiDividesSpec)) semiDividesCard

/-- THE TIED CARD OF 'abugidalaw04.SemiExamples'. -/
def semiExamplesCard : Claim7 := { stood := { row := semiExamplesRow, standIns := [], harness := (true, "09b516a80d125d11e0211c62c5c79772da8f36a0d824a81ac348ffe3b66c6d5c"), looks := true }, kinds := [], alts := [], laidByText := true, laidKinds := [.data, .data, .data], laidTests := true, laidLooks := .later }
def SemiExamplesCardSaid : Prop := Claim7.holds Tryz.pinned (.plain (OpenSpec.ofChange semiExamplesSpec)) semiExamplesCard

/-- THE TIED CARD OF 'abugidalaw04.SemiValues'. -/
def semiValuesCard : Claim7 := { stood := { row := semiValuesRow, standIns := [], harness := (true, "09b516a80d125d11e0211c62c5c79772da8f36a0d824a81ac348ffe3b66c6d5c"), looks := true }, kinds := [], alts := [], laidByText := true, laidKinds := [.data, .data, .data], laidTests := true, laidLooks := .later }
def SemiValuesCardSaid : Prop := Claim7.holds Tryz.pinned (.plain (OpenSpec.ofChange semiValuesSpec)) semiValuesCard

/-- THE TIED CARD OF 'abugidalaw04.SemiLaws'. -/
def semiLawsCard : Claim7 := { stood := { row := semiLawsRow, standIns := [], harness := (true, "09b516a80d125d11e0211c62c5c79772da8f36a0d824a81ac348ffe3b66c6d5c"), looks := true }, kinds := [], alts := [], laidByText := true, laidKinds := [.data, .data, .data], laidTests := true, laidLooks := .later }
def SemiLawsCardSaid : Prop := Claim7.holds Tryz.pinned (.plain (OpenSpec.ofChange semiLawsSpec)) semiLawsCard

/-- THE TIED CARD OF 'abugidalaw04.SemiStars'. -/
def semiStarsCard : Claim7 := { stood := { row := semiStarsRow, standIns := [], harness := (true, "09b516a80d125d11e0211c62c5c79772da8f36a0d824a81ac348ffe3b66c6d5c"), looks := true }, kinds := [], alts := [], laidByText := true, laidKinds := [.data, .data, .data], laidTests := true, laidLooks := .later }
def SemiStarsCardSaid : Prop := Claim7.holds Tryz.pinned (.plain (OpenSpec.ofChange semiStarsSpec)) semiStarsCard

/-- THE TIED CARD OF 'abugidalaw04.SemiOrder'. -/
def semiOrderCard : Claim7 := { stood := { row := semiOrderRow, standIns := [], harness := (true, "09b516a80d125d11e0211c62c5c79772da8f36a0d824a81ac348ffe3b66c6d5c"), looks := true }, kinds := [], alts := [], laidByText := true, laidKinds := [.data, .data, .data], laidTests := true, laidLooks := .later }
def SemiOrderCardSaid : Prop := Claim7.holds Tryz.pinned (.plain (OpenSpec.ofChange semiOrderSpec)) semiOrderCard

/-- THE SECOND FORM's CARD OF 'abugidalaw04.SemiComputes'. -/
def semiComputesUptoCard : Claim7 := { stood := { row := semiComputesUptoRow, standIns := [], harness := (true, "09b516a80d125d11e0211c62c5c79772da8f36a0d824a81ac348ffe3b66c6d5c"), looks := true }, kinds := [], alts := [], laidByText := true, laidKinds := [.data, .data, .data], laidTests := true, laidLooks := .later }
def SemiComputesUptoCardSaid : Prop := Claim7.holds Tryz.pinned (.plain (OpenSpec.upto semiComputesSpec)) semiComputesUptoCard

/-- THE SECOND FORM's CARD OF 'abugidalaw04.SemiDivides'. -/
def semiDividesUptoCard : Claim7 := { stood := { row := semiDividesUptoRow, standIns := [], harness := (true, "09b516a80d125d11e0211c62c5c79772da8f36a0d824a81ac348ffe3b66c6d5c"), looks := true }, kinds := [], alts := [], laidByText := true, laidKinds := [.data, .data, .data], laidTests := true, laidLooks := .later }
def SemiDividesUptoCardSaid : Prop := Claim7.holds Tryz.pinned (.plain (OpenSpec.upto semiDividesSpec)) semiDividesUptoCard

/-- THE SECOND FORM's CARD OF 'abugidalaw04.SemiExamples'. -/
def semiExamplesUptoCard : Claim7 := { stood := { row := semiExamplesUptoRow, standIns := [], harness := (true, "09b516a80d125d11e0211c62c5c79772da8f36a0d824a81ac348ffe3b66c6d5c"), looks := true }, kinds := [], alts := [], laidByText := true, laidKinds := [.data, .data, .data], laidTests := true, laidLooks := .later }
def SemiExamplesUptoCardSaid : Prop := Claim7.holds Tryz.pinned (.plain (OpenSpec.upto semiExamplesSpec)) semiExamplesUptoCard

/-- THE SECOND FORM's CARD OF 'abugidalaw04.SemiValues'. -/
def semiValuesUptoCard : Claim7 := { stood := { row := semiValuesUptoRow, standIns := [], harness := (true, "09b516a80d125d11e0211c62c5c79772da8f36a0d824a81ac348ffe3b66c6d5c"), looks := true }, kinds := [], alts := [], laidByText := true, laidKinds := [.data, .data, .data], laidTests := true, laidLooks := .later }
def SemiValuesUptoCardSaid : Prop := Claim7.holds Tryz.pinned (.plain (OpenSpec.upto semiValuesSpec)) semiValuesUptoCard

/-- THE SECOND FORM's CARD OF 'abugidalaw04.SemiLaws'. -/
def semiLawsUptoCard : Claim7 := { stood := { row := semiLawsUptoRow, standIns := [], harness := (true, "09b516a80d125d11e0211c62c5c79772da8f36a0d824a81ac348ffe3b66c6d5c"), looks := true }, kinds := [], alts := [], laidByText := true, laidKinds := [.data, .data, .data], laidTests := true, laidLooks := .later }
def SemiLawsUptoCardSaid : Prop := Claim7.holds Tryz.pinned (.plain (OpenSpec.upto semiLawsSpec)) semiLawsUptoCard

/-- THE SECOND FORM's CARD OF 'abugidalaw04.SemiStars'. -/
def semiStarsUptoCard : Claim7 := { stood := { row := semiStarsUptoRow, standIns := [], harness := (true, "09b516a80d125d11e0211c62c5c79772da8f36a0d824a81ac348ffe3b66c6d5c"), looks := true }, kinds := [], alts := [], laidByText := true, laidKinds := [.data, .data, .data], laidTests := true, laidLooks := .later }
def SemiStarsUptoCardSaid : Prop := Claim7.holds Tryz.pinned (.plain (OpenSpec.upto semiStarsSpec)) semiStarsUptoCard

/-- THE SECOND FORM's CARD OF 'abugidalaw04.SemiOrder'. -/
def semiOrderUptoCard : Claim7 := { stood := { row := semiOrderUptoRow, standIns := [], harness := (true, "09b516a80d125d11e0211c62c5c79772da8f36a0d824a81ac348ffe3b66c6d5c"), looks := true }, kinds := [], alts := [], laidByText := true, laidKinds := [.data, .data, .data], laidTests := true, laidLooks := .later }
def SemiOrderUptoCardSaid : Prop := Claim7.holds Tryz.pinned (.plain (OpenSpec.upto semiOrderSpec)) semiOrderUptoCard
end Rows
end Go.Proofs.YtlcbdaconghcmaaGreatDoor
