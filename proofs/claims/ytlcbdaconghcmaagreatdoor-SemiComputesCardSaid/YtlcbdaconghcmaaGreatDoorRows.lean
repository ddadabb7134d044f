/-
  NARROWER THAN 'FOR EVERY INPUT', by the rows' own cells (each row's printed sentence says how): SemiComputes: laid · SemiDivides: laid · SemiExamples: laid · SemiValues: laid · SemiLaws: laid · SemiStars: laid · SemiOrder: laid.
  DERIVED. THE GIVEN ROWS OF THIS SEAT. 7 by the template 'for every input the law returns true; each argument reads behind the call as it read before'; 0 by the template 'total and deterministic' (their statements: YtlcbdaconghcmaaGreatDoorTotals.lean).
  GIVEN WITH THE SEED: the statements are not yours to turn. If you find one false, say at which input.
  Laid BY PROGRAM, IN A SANDBOX (cutbox-rows.mjs): the forced cells as the released guide's own fill.sh prints them over the translation 98c4d0f5f67460f2… (all of the seat's roots in one cut). By AI agents, Wed Nov 11 2026. No macro, syntax, notation, axiom, sorry.
-/
import Derived.Test.YtlcbdaconghcmaaGreatDoorChecked
import GoSem.Claim
import GoSem.ClaimJoined
import GoSem.ClaimMapViews
import Derived.JoinedTies
import Derived.KernelRfl
namespace Go.Proofs.YtlcbdaconghcmaaGreatDoor
/- THE CELL 'sum', in the pinned program and in every row, IS THE sha256 OF THE DUMP (.gsa) THAT YtlcbdaconghcmaaGreatDoorProg.lean LOADS. Nothing in Lean hashes anything: it is a label: what it is worth is what the hold of that sum in a sandbox is worth. -/
noncomputable def Tryz.pinned : Pinned := { name := "ytlcbdaconghcmaagreatdoor", sum := "98c4d0f5f67460f23dc7cd495ac9b37122ca837daca3c9dbef63b3852a1f67c0", checked := Tryz.checked }
namespace Rows
def none {H : Type} : Left H := { results := [], args := [] }

/- WHAT THE LISTED PACKAGE-LEVEL VARIABLES READ AS WHEN THE CALL BEGINS. Each datum BY PROGRAM (the guide's laid-datum.mjs) off the statement by which the dump's own 'gosem.cut.vars' lays the variable. In a bare row this is a premise. The card (YtlcbdaconghcmaaGreatDoorCards.lean) ties it to the program's text. -/
def laid_math_bits_deBruijn32tab {H : Type} : DataW H := .agg [.lit (.int .u8 0), .lit (.int .u8 1), .lit (.int .u8 28), .lit (.int .u8 2), .lit (.int .u8 29), .lit (.int .u8 14), .lit (.int .u8 24), .lit (.int .u8 3), .lit (.int .u8 30), .lit (.int .u8 22), .lit (.int .u8 20), .lit (.int .u8 15), .lit (.int .u8 25), .lit (.int .u8 17), .lit (.int .u8 4), .lit (.int .u8 8), .lit (.int .u8 31), .lit (.int .u8 27), .lit (.int .u8 13), .lit (.int .u8 23), .lit (.int .u8 21), .lit (.int .u8 19), .lit (.int .u8 16), .lit (.int .u8 7), .lit (.int .u8 26), .lit (.int .u8 12), .lit (.int .u8 18), .lit (.int .u8 6), .lit (.int .u8 11), .lit (.int .u8 5), .lit (.int .u8 10), .lit (.int .u8 9)]
def laid_math_bits_deBruijn64tab {H : Type} : DataW H := .agg [.lit (.int .u8 0), .lit (.int .u8 1), .lit (.int .u8 56), .lit (.int .u8 2), .lit (.int .u8 57), .lit (.int .u8 49), .lit (.int .u8 28), .lit (.int .u8 3), .lit (.int .u8 61), .lit (.int .u8 58), .lit (.int .u8 42), .lit (.int .u8 50), .lit (.int .u8 38), .lit (.int .u8 29), .lit (.int .u8 17), .lit (.int .u8 4), .lit (.int .u8 62), .lit (.int .u8 47), .lit (.int .u8 59), .lit (.int .u8 36), .lit (.int .u8 45), .lit (.int .u8 43), .lit (.int .u8 51), .lit (.int .u8 22), .lit (.int .u8 53), .lit (.int .u8 39), .lit (.int .u8 33), .lit (.int .u8 30), .lit (.int .u8 24), .lit (.int .u8 18), .lit (.int .u8 12), .lit (.int .u8 5), .lit (.int .u8 63), .lit (.int .u8 55), .lit (.int .u8 48), .lit (.int .u8 27), .lit (.int .u8 60), .lit (.int .u8 41), .lit (.int .u8 37), .lit (.int .u8 16), .lit (.int .u8 46), .lit (.int .u8 35), .lit (.int .u8 44), .lit (.int .u8 21), .lit (.int .u8 52), .lit (.int .u8 32), .lit (.int .u8 23), .lit (.int .u8 11), .lit (.int .u8 54), .lit (.int .u8 26), .lit (.int .u8 40), .lit (.int .u8 15), .lit (.int .u8 34), .lit (.int .u8 20), .lit (.int .u8 31), .lit (.int .u8 10), .lit (.int .u8 25), .lit (.int .u8 14), .lit (.int .u8 19), .lit (.int .u8 9), .lit (.int .u8 13), .lit (.int .u8 8), .lit (.int .u8 7), .lit (.int .u8 6)]
def laid_internal_strconv_uint64pow10 {H : Type} : DataW H := .agg [.lit (.int .u64 1), .lit (.int .u64 10), .lit (.int .u64 100), .lit (.int .u64 1000), .lit (.int .u64 10000), .lit (.int .u64 100000), .lit (.int .u64 1000000), .lit (.int .u64 10000000), .lit (.int .u64 100000000), .lit (.int .u64 1000000000), .lit (.int .u64 10000000000), .lit (.int .u64 100000000000), .lit (.int .u64 1000000000000), .lit (.int .u64 10000000000000), .lit (.int .u64 100000000000000), .lit (.int .u64 1000000000000000), .lit (.int .u64 10000000000000000), .lit (.int .u64 100000000000000000), .lit (.int .u64 1000000000000000000), .lit (.int .u64 10000000000000000000)]

/-- 'abugidalaw04.SemiComputes': WHATEVER THE INPUT: true; the input reads as it did. -/
def semiComputesSpec : ChangeSpec := { name := "semiComputes", fn := fun _ => fun
  | [d1, d2, d3] => { results := [.lit (.bool true)], args := [d1, d2, d3] }
  | _ => none }
def semiComputesRow : OpenClaim := { program := "ytlcbdaconghcmaagreatdoor", sum := "98c4d0f5f67460f23dc7cd495ac9b37122ca837daca3c9dbef63b3852a1f67c0", func := "abugida/abugidalaw04.SemiComputes", spec := "semiComputes", inPlace := ["internal/bytealg.IndexByteString", "internal/bytealg.IndexString", "internal/abi.NoEscape", "internal/bytealg.MakeNoZero"], unfollowed := true, recurses := true, named := ["internal/bytealg.MaxLen", "internal/strconv.uint64pow10", "math/bits.deBruijn32tab", "math/bits.deBruijn64tab"], apart := false, laid := [("math/bits.deBruijn32tab", laid_math_bits_deBruijn32tab), ("math/bits.deBruijn64tab", laid_math_bits_deBruijn64tab), ("internal/strconv.uint64pow10", laid_internal_strconv_uint64pow10)] }
def SemiComputesSaid : Prop := semiComputesRow.holds Tryz.pinned (OpenSpec.ofChange semiComputesSpec)

/-- ITS FALSE NEIGHBOUR: 'it returns false'. Refute it at one input. -/
def semiComputesWrong : ChangeSpec := { name := "semiComputes", fn := fun _ => fun
  | [d1, d2, d3] => { results := [.lit (.bool false)], args := [d1, d2, d3] }
  | _ => none }
def SemiComputesWrongFalsely : Prop := semiComputesRow.holds Tryz.pinned (OpenSpec.ofChange semiComputesWrong)

/-- 'abugidalaw04.SemiDivides': WHATEVER THE INPUT: true; the input reads as it did. -/
def semiDividesSpec : ChangeSpec := { name := "semiDivides", fn := fun _ => fun
  | [d1, d2, d3] => { results := [.lit (.bool true)], args := [d1, d2, d3] }
  | _ => none }
def semiDividesRow : OpenClaim := { program := "ytlcbdaconghcmaagreatdoor", sum := "98c4d0f5f67460f23dc7cd495ac9b37122ca837daca3c9dbef63b3852a1f67c0", func := "abugida/abugidalaw04.SemiDivides", spec := "semiDivides", inPlace := ["internal/bytealg.IndexByteString", "internal/bytealg.IndexString", "internal/abi.NoEscape", "internal/bytealg.MakeNoZero"], unfollowed := true, recurses := true, named := ["internal/bytealg.MaxLen", "internal/strconv.uint64pow10", "math/bits.deBruijn32tab", "math/bits.deBruijn64tab"], apart := false, laid := [("math/bits.deBruijn32tab", laid_math_bits_deBruijn32tab), ("math/bits.deBruijn64tab", laid_math_bits_deBruijn64tab), ("internal/strconv.uint64pow10", laid_internal_strconv_uint64pow10)] }
def SemiDividesSaid : Prop := semiDividesRow.holds Tryz.pinned (OpenSpec.ofChange semiDividesSpec)

/-- ITS FALSE NEIGHBOUR: 'it returns false'. Refute it at one input. -/
def semiDividesWrong : ChangeSpec := { name := "semiDivides", fn := fun _ => fun
  | [d1, d2, d3] => { results := [.lit (.bool false)], args := [d1, d2, d3] }
  | _ => none }
def SemiDividesWrongFalsely : Prop := semiDividesRow.holds Tryz.pinned (OpenSpec.ofChange semiDividesWrong)

/-- 'abugidalaw04.SemiExamples': WHATEVER THE INPUT: true; the input reads as it did. -/
def semiExamplesSpec : ChangeSpec := { name := "semiExamples", fn := fun _ => fun
  | [] => { results := [.lit (.bool true)], args := [] }
  | _ => none }
def semiExamplesRow : OpenClaim := { program := "ytlcbdaconghcmaagreatdoor", sum := "98c4d0f5f67460f23dc7cd495ac9b37122ca837daca3c9dbef63b3852a1f67c0", func := "abugida/abugidalaw04.SemiExamples", spec := "semiExamples", inPlace := ["internal/bytealg.IndexByteString", "internal/bytealg.IndexString", "internal/abi.NoEscape", "internal/bytealg.MakeNoZero"], unfollowed := true, recurses := true, named := ["internal/bytealg.MaxLen", "internal/strconv.uint64pow10", "math/bits.deBruijn32tab", "math/bits.deBruijn64tab"], apart := false, laid := [("math/bits.deBruijn32tab", laid_math_bits_deBruijn32tab), ("math/bits.deBruijn64tab", laid_math_bits_deBruijn64tab), ("internal/strconv.uint64pow10", laid_internal_strconv_uint64pow10)] }
def SemiExamplesSaid : Prop := semiExamplesRow.holds Tryz.pinned (OpenSpec.ofChange semiExamplesSpec)

/-- ITS FALSE NEIGHBOUR: 'it returns false'. Refute it at one input. -/
def semiExamplesWrong : ChangeSpec := { name := "semiExamples", fn := fun _ => fun
  | [] => { results := [.lit (.bool false)], args := [] }
  | _ => none }
def SemiExamplesWrongFalsely : Prop := semiExamplesRow.holds Tryz.pinned (OpenSpec.ofChange semiExamplesWrong)

/-- 'abugidalaw04.SemiValues': WHATEVER THE INPUT: true; the input reads as it did. -/
def semiValuesSpec : ChangeSpec := { name := "semiValues", fn := fun _ => fun
  | [d1, d2] => { results := [.lit (.bool true)], args := [d1, d2] }
  | _ => none }
def semiValuesRow : OpenClaim := { program := "ytlcbdaconghcmaagreatdoor", sum := "98c4d0f5f67460f23dc7cd495ac9b37122ca837daca3c9dbef63b3852a1f67c0", func := "abugida/abugidalaw04.SemiValues", spec := "semiValues", inPlace := ["internal/bytealg.IndexByteString", "internal/bytealg.IndexString", "internal/abi.NoEscape", "internal/bytealg.MakeNoZero"], unfollowed := true, recurses := true, named := ["internal/bytealg.MaxLen", "internal/strconv.uint64pow10", "math/bits.deBruijn32tab", "math/bits.deBruijn64tab"], apart := false, laid := [("math/bits.deBruijn32tab", laid_math_bits_deBruijn32tab), ("math/bits.deBruijn64tab", laid_math_bits_deBruijn64tab), ("internal/strconv.uint64pow10", laid_internal_strconv_uint64pow10)] }
def SemiValuesSaid : Prop := semiValuesRow.holds Tryz.pinned (OpenSpec.ofChange semiValuesSpec)

/-- ITS FALSE NEIGHBOUR: 'it returns false'. Refute it at one input. -/
def semiValuesWrong : ChangeSpec := { name := "semiValues", fn := fun _ => fun
  | [d1, d2] => { results := [.lit (.bool false)], args := [d1, d2] }
  | _ => none }
def SemiValuesWrongFalsely : Prop := semiValuesRow.holds Tryz.pinned (OpenSpec.ofChange semiValuesWrong)

/-- 'abugidalaw04.SemiLaws': WHATEVER THE INPUT: true; the input reads as it did. -/
def semiLawsSpec : ChangeSpec := { name := "semiLaws", fn := fun _ => fun
  | [d1, d2] => { results := [.lit (.bool true)], args := [d1, d2] }
  | _ => none }
def semiLawsRow : OpenClaim := { program := "ytlcbdaconghcmaagreatdoor", sum := "98c4d0f5f67460f23dc7cd495ac9b37122ca837daca3c9dbef63b3852a1f67c0", func := "abugida/abugidalaw04.SemiLaws", spec := "semiLaws", inPlace := ["internal/bytealg.IndexByteString", "internal/bytealg.IndexString", "internal/abi.NoEscape", "internal/bytealg.MakeNoZero"], unfollowed := true, recurses := true, named := ["internal/bytealg.MaxLen", "internal/strconv.uint64pow10", "math/bits.deBruijn32tab", "math/bits.deBruijn64tab"], apart := false, laid := [("math/bits.deBruijn32tab", laid_math_bits_deBruijn32tab), ("math/bits.deBruijn64tab", laid_math_bits_deBruijn64tab), ("internal/strconv.uint64pow10", laid_internal_strconv_uint64pow10)] }
def SemiLawsSaid : Prop := semiLawsRow.holds Tryz.pinned (OpenSpec.ofChange semiLawsSpec)

/-- ITS FALSE NEIGHBOUR: 'it returns false'. Refute it at one input. -/
def semiLawsWrong : ChangeSpec := { name := "semiLaws", fn := fun _ => fun
  | [d1, d2] => { results := [.lit (.bool false)], args := [d1, d2] }
  | _ => none }
def SemiLawsWrongFalsely : Prop := semiLawsRow.holds Tryz.pinned (OpenSpec.ofChange semiLawsWrong)

/-- 'abugidalaw04.SemiStars': WHATEVER THE INPUT: true; the input reads as it did. -/
def semiStarsSpec : ChangeSpec := { name := "semiStars", fn := fun _ => fun
  | [d1, d2] => { results := [.lit (.bool true)], args := [d1, d2] }
  | _ => none }
def semiStarsRow : OpenClaim := { program := "ytlcbdaconghcmaagreatdoor", sum := "98c4d0f5f67460f23dc7cd495ac9b37122ca837daca3c9dbef63b3852a1f67c0", func := "abugida/abugidalaw04.SemiStars", spec := "semiStars", inPlace := ["internal/bytealg.IndexByteString", "internal/bytealg.IndexString", "internal/abi.NoEscape", "internal/bytealg.MakeNoZero"], unfollowed := true, recurses := true, named := ["internal/bytealg.MaxLen", "internal/strconv.uint64pow10", "math/bits.deBruijn32tab", "math/bits.deBruijn64tab"], apart := false, laid := [("math/bits.deBruijn32tab", laid_math_bits_deBruijn32tab), ("math/bits.deBruijn64tab", laid_math_bits_deBruijn64tab), ("internal/strconv.uint64pow10", laid_internal_strconv_uint64pow10)] }
def SemiStarsSaid : Prop := semiStarsRow.holds Tryz.pinned (OpenSpec.ofChange semiStarsSpec)

/-- ITS FALSE NEIGHBOUR: 'it returns false'. Refute it at one input. -/
def semiStarsWrong : ChangeSpec := { name := "semiStars", fn := fun _ => fun
  | [d1, d2] => { results := [.lit (.bool false)], args := [d1, d2] }
  | _ => none }
def SemiStarsWrongFalsely : Prop := semiStarsRow.holds Tryz.pinned (OpenSpec.ofChange semiStarsWrong)

/-- 'abugidalaw04.SemiOrder': WHATEVER THE INPUT: true; the input reads as it did. -/
def semiOrderSpec : ChangeSpec := { name := "semiOrder", fn := fun _ => fun
  | [d1, d2] => { results := [.lit (.bool true)], args := [d1, d2] }
  | _ => none }
def semiOrderRow : OpenClaim := { program := "ytlcbdaconghcmaagreatdoor", sum := "98c4d0f5f67460f23dc7cd495ac9b37122ca837daca3c9dbef63b3852a1f67c0", func := "abugida/abugidalaw04.SemiOrder", spec := "semiOrder", inPlace := ["internal/bytealg.IndexByteString", "internal/bytealg.IndexString", "internal/abi.NoEscape", "internal/bytealg.MakeNoZero"], unfollowed := true, recurses := true, named := ["internal/bytealg.MaxLen", "internal/strconv.uint64pow10", "math/bits.deBruijn32tab", "math/bits.deBruijn64tab"], apart := false, laid := [("math/bits.deBruijn32tab", laid_math_bits_deBruijn32tab), ("math/bits.deBruijn64tab", laid_math_bits_deBruijn64tab), ("internal/strconv.uint64pow10", laid_internal_strconv_uint64pow10)] }
def SemiOrderSaid : Prop := semiOrderRow.holds Tryz.pinned (OpenSpec.ofChange semiOrderSpec)

/-- ITS FALSE NEIGHBOUR: 'it returns false'. Refute it at one input. -/
def semiOrderWrong : ChangeSpec := { name := "semiOrder", fn := fun _ => fun
  | [d1, d2] => { results := [.lit (.bool false)], args := [d1, d2] }
  | _ => none }
def SemiOrderWrongFalsely : Prop := semiOrderRow.holds Tryz.pinned (OpenSpec.ofChange semiOrderWrong)

/- THE SECOND FORM. 'bulk': how many values and letters a reading holds, each counted each time it is reached (what is shared counts as often as it is met; a slice's spare places count too). A statement '..UptoSaid' is the law's where the arguments, and the package variables that the reading takes, are together of bulk at most 1048576: NARROWER than '..Said'. Prove '..Said' where nothing that the law and all that it calls make is longer than what came in: it says more and counts as full. Else prove '..UptoSaid'. A law counts once. -/
mutual
def uptoBulk {H : Type} : DataW H → Nat
  | .lit (.string bytes) => bytes.length + 1
  | .lit _ => 1
  | .nil => 1
  | .ptr d => uptoBulk d + 1
  | .slice elems spare => uptoBulkAll elems + uptoBulkAll spare + 1
  | .agg parts => uptoBulkAll parts + 1
  | .iface _ d => uptoBulk d + 1
  | .map entries => uptoBulkEntries entries + 1
  | .held _ => 1
def uptoBulkAll {H : Type} : List (DataW H) → Nat
  | [] => 0
  | d :: r => uptoBulk d + uptoBulkAll r
def uptoBulkEntries {H : Type} : List (Lit × DataW H) → Nat
  | [] => 0
  | x :: r => uptoBulkEntry x + uptoBulkEntries r
def uptoBulkEntry {H : Type} : Lit × DataW H → Nat
  | (.string bytes, d) => bytes.length + uptoBulk d + 1
  | (_, d) => uptoBulk d + 1
 end
def uptoSmall : (H : Type) → List (DataW H) → Bool := fun _ ds => decide (uptoBulkAll ds ≤ 1048576)
def OpenSpec.upto (s : _root_.Go.ChangeSpec) : _root_.Go.OpenSpec := { _root_.Go.OpenSpec.ofChange s with cond := some uptoSmall }

/-- 'abugidalaw04.SemiComputes', WHERE WHAT IT READS IS OF BULK AT MOST 1048576: true; the input reads as it did. -/
def semiComputesUptoRow : OpenClaim := { program := "ytlcbdaconghcmaagreatdoor", sum := "98c4d0f5f67460f23dc7cd495ac9b37122ca837daca3c9dbef63b3852a1f67c0", func := "abugida/abugidalaw04.SemiComputes", spec := "semiComputes", inPlace := ["internal/bytealg.IndexByteString", "internal/bytealg.IndexString", "internal/abi.NoEscape", "internal/bytealg.MakeNoZero"], unfollowed := true, recurses := true, named := ["internal/bytealg.MaxLen", "internal/strconv.uint64pow10", "math/bits.deBruijn32tab", "math/bits.deBruijn64tab"], apart := false, laid := [("math/bits.deBruijn32tab", laid_math_bits_deBruijn32tab), ("math/bits.deBruijn64tab", laid_math_bits_deBruijn64tab), ("internal/strconv.uint64pow10", laid_internal_strconv_uint64pow10)], narrowed := true }
def SemiComputesUptoSaid : Prop := semiComputesUptoRow.holds Tryz.pinned (OpenSpec.upto semiComputesSpec)

/-- 'abugidalaw04.SemiDivides', WHERE WHAT IT READS IS OF BULK AT MOST 1048576: true; the input reads as it did. -/
def semiDividesUptoRow : OpenClaim := { program := "ytlcbdaconghcmaagreatdoor", sum := "98c4d0f5f67460f23dc7cd495ac9b37122ca837daca3c9dbef63b3852a1f67c0", func := "abugida/abugidalaw04.SemiDivides", spec := "semiDivides", inPlace := ["internal/bytealg.IndexByteString", "internal/bytealg.IndexString", "internal/abi.NoEscape", "internal/bytealg.MakeNoZero"], unfollowed := true, recurses := true, named := ["internal/bytealg.MaxLen", "internal/strconv.uint64pow10", "math/bits.deBruijn32tab", "math/bits.deBruijn64tab"], apart := false, laid := [("math/bits.deBruijn32tab", laid_math_bits_deBruijn32tab), ("math/bits.deBruijn64tab", laid_math_bits_deBruijn64tab), ("internal/strconv.uint64pow10", laid_internal_strconv_uint64pow10)], narrowed := true }
def SemiDividesUptoSaid : Prop := semiDividesUptoRow.holds Tryz.pinned (OpenSpec.upto semiDividesSpec)

/-- 'abugidalaw04.SemiExamples', WHERE WHAT IT READS IS OF BULK AT MOST 1048576: true; the input reads as it did. -/
def semiExamplesUptoRow : OpenClaim := { program := "ytlcbdaconghcmaagreatdoor", sum := "98c4d0f5f67460f23dc7cd495ac9b37122ca837daca3c9dbef63b3852a1f67c0", func := "abugida/abugidalaw04.SemiExamples", spec := "semiExamples", inPlace := ["internal/bytealg.IndexByteString", "internal/bytealg.IndexString", "internal/abi.NoEscape", "internal/bytealg.MakeNoZero"], unfollowed := true, recurses := true, named := ["internal/bytealg.MaxLen", "internal/strconv.uint64pow10", "math/bits.deBruijn32tab", "math/bits.deBruijn64tab"], apart := false, laid := [("math/bits.deBruijn32tab", laid_math_bits_deBruijn32tab), ("math/bits.deBruijn64tab", laid_math_bits_deBruijn64tab), ("internal/strconv.uint64pow10", laid_internal_strconv_uint64pow10)], narrowed := true }
def SemiExamplesUptoSaid : Prop := semiExamplesUptoRow.holds Tryz.pinned (OpenSpec.upto semiExamplesSpec)

/-- 'abugidalaw04.SemiValues', WHERE WHAT IT READS IS OF BULK AT MOST 1048576: true; the input reads as it did. -/
def semiValuesUptoRow : OpenClaim := { program := "ytlcbdaconghcmaagreatdoor", sum := "98c4d0f5f67460f23dc7cd495ac9b37122ca837daca3c9dbef63b3852a1f67c0", func := "abugida/abugidalaw04.SemiValues", spec := "semiValues", inPlace := ["internal/bytealg.IndexByteString", "internal/bytealg.IndexString", "internal/abi.NoEscape", "internal/bytealg.MakeNoZero"], unfollowed := true, recurses := true, named := ["internal/bytealg.MaxLen", "internal/strconv.uint64pow10", "math/bits.deBruijn32tab", "math/bits.deBruijn64tab"], apart := false, laid := [("math/bits.deBruijn32tab", laid_math_bits_deBruijn32tab), ("math/bits.deBruijn64tab", laid_math_bits_deBruijn64tab), ("internal/strconv.uint64pow10", laid_internal_strconv_uint64pow10)], narrowed := true }
def SemiValuesUptoSaid : Prop := semiValuesUptoRow.holds Tryz.pinned (OpenSpec.upto semiValuesSpec)

/-- 'abugidalaw04.SemiLaws', WHERE WHAT IT READS IS OF BULK AT MOST 1048576: true; the input reads as it did. -/
def semiLawsUptoRow : OpenClaim := { program := "ytlcbdaconghcmaagreatdoor", sum := "98c4d0f5f67460f23dc7cd495ac9b37122ca837daca3c9dbef63b3852a1f67c0", func := "abugida/abugidalaw04.SemiLaws", spec := "semiLaws", inPlace := ["internal/bytealg.IndexByteString", "internal/bytealg.IndexString", "internal/abi.NoEscape", "internal/bytealg.MakeNoZero"], unfollowed := true, recurses := true, named := ["internal/bytealg.MaxLen", "internal/strconv.uint64pow10", "math/bits.deBruijn32tab", "math/bits.deBruijn64tab"], apart := false, laid := [("math/bits.deBruijn32tab", laid_math_bits_deBruijn32tab), ("math/bits.deBruijn64tab", laid_math_bits_deBruijn64tab), ("internal/strconv.uint64pow10", laid_internal_strconv_uint64pow10)], narrowed := true }
def SemiLawsUptoSaid : Prop := semiLawsUptoRow.holds Tryz.pinned (OpenSpec.upto semiLawsSpec)

/-- 'abugidalaw04.SemiStars', WHERE WHAT IT READS IS OF BULK AT MOST 1048576: true; the input reads as it did. -/
def semiStarsUptoRow : OpenClaim := { program := "ytlcbdaconghcmaagreatdoor", sum := "98c4d0f5f67460f23dc7cd495ac9b37122ca837daca3c9dbef63b3852a1f67c0", func := "abugida/abugidalaw04.SemiStars", spec := "semiStars", inPlace := ["internal/bytealg.IndexByteString", "internal/bytealg.IndexString", "internal/abi.NoEscape", "internal/bytealg.MakeNoZero"], unfollowed := true, recurses := true, named := ["internal/bytealg.MaxLen", "internal/strconv.uint64pow10", "math/bits.deBruijn32tab", "math/bits.deBruijn64tab"], apart := false, laid := [("math/bits.deBruijn32tab", laid_math_bits_deBruijn32tab), ("math/bits.deBruijn64tab", laid_math_bits_deBruijn64tab), ("internal/strconv.uint64pow10", laid_internal_strconv_uint64pow10)], narrowed := true }
def SemiStarsUptoSaid : Prop := semiStarsUptoRow.holds Tryz.pinned (OpenSpec.upto semiStarsSpec)

/-- 'abugidalaw04.SemiOrder', WHERE WHAT IT READS IS OF BULK AT MOST 1048576: true; the input reads as it did. -/
def semiOrderUptoRow : OpenClaim := { program := "ytlcbdaconghcmaagreatdoor", sum := "98c4d0f5f67460f23dc7cd495ac9b37122ca837daca3c9dbef63b3852a1f67c0", func := "abugida/abugidalaw04.SemiOrder", spec := "semiOrder", inPlace := ["internal/bytealg.IndexByteString", "internal/bytealg.IndexString", "internal/abi.NoEscape", "internal/bytealg.MakeNoZero"], unfollowed := true, recurses := true, named := ["internal/bytealg.MaxLen", "internal/strconv.uint64pow10", "math/bits.deBruijn32tab", "math/bits.deBruijn64tab"], apart := false, laid := [("math/bits.deBruijn32tab", laid_math_bits_deBruijn32tab), ("math/bits.deBruijn64tab", laid_math_bits_deBruijn64tab), ("internal/strconv.uint64pow10", laid_internal_strconv_uint64pow10)], narrowed := true }
def SemiOrderUptoSaid : Prop := semiOrderUptoRow.holds Tryz.pinned (OpenSpec.upto semiOrderSpec)

end Rows
end Go.Proofs.YtlcbdaconghcmaaGreatDoor
