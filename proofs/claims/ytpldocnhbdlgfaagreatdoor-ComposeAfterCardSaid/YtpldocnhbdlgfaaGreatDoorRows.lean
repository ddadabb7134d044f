/-
  NARROWER THAN 'FOR EVERY INPUT', by the rows' own cells (each row's printed sentence says how): ComposeExamples: laid · ComposeValues: laid · ComposeIntersects: laid · ComposeThree: laid · ComposeAfter: laid · ComposeInverts: laid · ComposeBetween: laid · SidesCross: laid.
  DERIVED. THE GIVEN ROWS OF THIS SEAT. 8 by the template 'for every input the law returns true; each argument reads behind the call as it read before'; 0 by the template 'total and deterministic' (their statements: YtpldocnhbdlgfaaGreatDoorTotals.lean).
  GIVEN WITH THE SEED: the statements are not yours to turn. If you find one false, say at which input.
  Laid BY PROGRAM, IN A SANDBOX (cutbox-rows.mjs): the forced cells as the released guide's own fill.sh prints them over the translation c4f0e062996af082… (all of the seat's roots in one cut). By AI agents, Wed Nov 11 2026. No macro, syntax, notation, axiom, sorry.
-/
import Derived.Test.YtpldocnhbdlgfaaGreatDoorChecked
import GoSem.Claim
import GoSem.ClaimJoined
import GoSem.ClaimMapViews
import Derived.JoinedTies
import Derived.KernelRfl
namespace Go.Proofs.YtpldocnhbdlgfaaGreatDoor
/- THE CELL 'sum', in the pinned program and in every row, IS THE sha256 OF THE DUMP (.gsa) THAT YtpldocnhbdlgfaaGreatDoorProg.lean LOADS. Nothing in Lean hashes anything: it is a label: what it is worth is what the hold of that sum in a sandbox is worth. -/
noncomputable def Tryz.pinned : Pinned := { name := "ytpldocnhbdlgfaagreatdoor", sum := "c4f0e062996af08229bea0acd3ba9910cba057c6f803d7b75860d9a7d1b256bb", checked := Tryz.checked }
namespace Rows
def none {H : Type} : Left H := { results := [], args := [] }

/- WHAT THE LISTED PACKAGE-LEVEL VARIABLES READ AS WHEN THE CALL BEGINS. Each datum BY PROGRAM (the guide's laid-datum.mjs) off the statement by which the dump's own 'gosem.cut.vars' lays the variable. In a bare row this is a premise. The card (YtpldocnhbdlgfaaGreatDoorCards.lean) ties it to the program's text. -/
def laid_math_bits_deBruijn32tab {H : Type} : DataW H := .agg [.lit (.int .u8 0), .lit (.int .u8 1), .lit (.int .u8 28), .lit (.int .u8 2), .lit (.int .u8 29), .lit (.int .u8 14), .lit (.int .u8 24), .lit (.int .u8 3), .lit (.int .u8 30), .lit (.int .u8 22), .lit (.int .u8 20), .lit (.int .u8 15), .lit (.int .u8 25), .lit (.int .u8 17), .lit (.int .u8 4), .lit (.int .u8 8), .lit (.int .u8 31), .lit (.int .u8 27), .lit (.int .u8 13), .lit (.int .u8 23), .lit (.int .u8 21), .lit (.int .u8 19), .lit (.int .u8 16), .lit (.int .u8 7), .lit (.int .u8 26), .lit (.int .u8 12), .lit (.int .u8 18), .lit (.int .u8 6), .lit (.int .u8 11), .lit (.int .u8 5), .lit (.int .u8 10), .lit (.int .u8 9)]
def laid_math_bits_deBruijn64tab {H : Type} : DataW H := .agg [.lit (.int .u8 0), .lit (.int .u8 1), .lit (.int .u8 56), .lit (.int .u8 2), .lit (.int .u8 57), .lit (.int .u8 49), .lit (.int .u8 28), .lit (.int .u8 3), .lit (.int .u8 61), .lit (.int .u8 58), .lit (.int .u8 42), .lit (.int .u8 50), .lit (.int .u8 38), .lit (.int .u8 29), .lit (.int .u8 17), .lit (.int .u8 4), .lit (.int .u8 62), .lit (.int .u8 47), .lit (.int .u8 59), .lit (.int .u8 36), .lit (.int .u8 45), .lit (.int .u8 43), .lit (.int .u8 51), .lit (.int .u8 22), .lit (.int .u8 53), .lit (.int .u8 39), .lit (.int .u8 33), .lit (.int .u8 30), .lit (.int .u8 24), .lit (.int .u8 18), .lit (.int .u8 12), .lit (.int .u8 5), .lit (.int .u8 63), .lit (.int .u8 55), .lit (.int .u8 48), .lit (.int .u8 27), .lit (.int .u8 60), .lit (.int .u8 41), .lit (.int .u8 37), .lit (.int .u8 16), .lit (.int .u8 46), .lit (.int .u8 35), .lit (.int .u8 44), .lit (.int .u8 21), .lit (.int .u8 52), .lit (.int .u8 32), .lit (.int .u8 23), .lit (.int .u8 11), .lit (.int .u8 54), .lit (.int .u8 26), .lit (.int .u8 40), .lit (.int .u8 15), .lit (.int .u8 34), .lit (.int .u8 20), .lit (.int .u8 31), .lit (.int .u8 10), .lit (.int .u8 25), .lit (.int .u8 14), .lit (.int .u8 19), .lit (.int .u8 9), .lit (.int .u8 13), .lit (.int .u8 8), .lit (.int .u8 7), .lit (.int .u8 6)]
def laid_internal_strconv_uint64pow10 {H : Type} : DataW H := .agg [.lit (.int .u64 1), .lit (.int .u64 10), .lit (.int .u64 100), .lit (.int .u64 1000), .lit (.int .u64 10000), .lit (.int .u64 100000), .lit (.int .u64 1000000), .lit (.int .u64 10000000), .lit (.int .u64 100000000), .lit (.int .u64 1000000000), .lit (.int .u64 10000000000), .lit (.int .u64 100000000000), .lit (.int .u64 1000000000000), .lit (.int .u64 10000000000000), .lit (.int .u64 100000000000000), .lit (.int .u64 1000000000000000), .lit (.int .u64 10000000000000000), .lit (.int .u64 100000000000000000), .lit (.int .u64 1000000000000000000), .lit (.int .u64 10000000000000000000)]

/-- 'abugidalaw11.ComposeExamples': WHATEVER THE INPUT: true; the input reads as it did. -/
def composeExamplesSpec : ChangeSpec := { name := "composeExamples", fn := fun _ => fun
  | [] => { results := [.lit (.bool true)], args := [] }
  | _ => none }
def composeExamplesRow : OpenClaim := { program := "ytpldocnhbdlgfaagreatdoor", sum := "c4f0e062996af08229bea0acd3ba9910cba057c6f803d7b75860d9a7d1b256bb", func := "abugida/abugidalaw11.ComposeExamples", spec := "composeExamples", inPlace := ["internal/bytealg.IndexByteString", "internal/bytealg.IndexString", "internal/abi.NoEscape", "internal/bytealg.MakeNoZero"], unfollowed := true, recurses := true, named := ["internal/bytealg.MaxLen", "internal/strconv.uint64pow10", "math/bits.deBruijn32tab", "math/bits.deBruijn64tab"], plainKeys := false, apart := false, laid := [("math/bits.deBruijn32tab", laid_math_bits_deBruijn32tab), ("math/bits.deBruijn64tab", laid_math_bits_deBruijn64tab), ("internal/strconv.uint64pow10", laid_internal_strconv_uint64pow10)] }
def ComposeExamplesSaid : Prop := composeExamplesRow.holds Tryz.pinned (OpenSpec.ofChange composeExamplesSpec)

/-- ITS FALSE NEIGHBOUR: 'it returns false'. Refute it at one input. -/
def composeExamplesWrong : ChangeSpec := { name := "composeExamples", fn := fun _ => fun
  | [] => { results := [.lit (.bool false)], args := [] }
  | _ => none }
def ComposeExamplesWrongFalsely : Prop := composeExamplesRow.holds Tryz.pinned (OpenSpec.ofChange composeExamplesWrong)

/-- 'abugidalaw11.ComposeValues': WHATEVER THE INPUT: true; the input reads as it did. -/
def composeValuesSpec : ChangeSpec := { name := "composeValues", fn := fun _ => fun
  | [d1, d2, d3] => { results := [.lit (.bool true)], args := [d1, d2, d3] }
  | _ => none }
def composeValuesRow : OpenClaim := { program := "ytpldocnhbdlgfaagreatdoor", sum := "c4f0e062996af08229bea0acd3ba9910cba057c6f803d7b75860d9a7d1b256bb", func := "abugida/abugidalaw11.ComposeValues", spec := "composeValues", inPlace := ["internal/bytealg.IndexByteString", "internal/bytealg.IndexString", "internal/abi.NoEscape", "internal/bytealg.MakeNoZero"], unfollowed := true, recurses := true, named := ["internal/bytealg.MaxLen", "internal/strconv.uint64pow10", "math/bits.deBruijn32tab", "math/bits.deBruijn64tab"], plainKeys := false, apart := false, laid := [("math/bits.deBruijn32tab", laid_math_bits_deBruijn32tab), ("math/bits.deBruijn64tab", laid_math_bits_deBruijn64tab), ("internal/strconv.uint64pow10", laid_internal_strconv_uint64pow10)] }
def ComposeValuesSaid : Prop := composeValuesRow.holds Tryz.pinned (OpenSpec.ofChange composeValuesSpec)

/-- ITS FALSE NEIGHBOUR: 'it returns false'. Refute it at one input. -/
def composeValuesWrong : ChangeSpec := { name := "composeValues", fn := fun _ => fun
  | [d1, d2, d3] => { results := [.lit (.bool false)], args := [d1, d2, d3] }
  | _ => none }
def ComposeValuesWrongFalsely : Prop := composeValuesRow.holds Tryz.pinned (OpenSpec.ofChange composeValuesWrong)

/-- 'abugidalaw11.ComposeIntersects': WHATEVER THE INPUT: true; the input reads as it did. -/
def composeIntersectsSpec : ChangeSpec := { name := "composeIntersects", fn := fun _ => fun
  | [d1, d2, d3] => { results := [.lit (.bool true)], args := [d1, d2, d3] }
  | _ => none }
def composeIntersectsRow : OpenClaim := { program := "ytpldocnhbdlgfaagreatdoor", sum := "c4f0e062996af08229bea0acd3ba9910cba057c6f803d7b75860d9a7d1b256bb", func := "abugida/abugidalaw11.ComposeIntersects", spec := "composeIntersects", inPlace := ["internal/bytealg.IndexByteString", "internal/bytealg.IndexString", "internal/abi.NoEscape", "internal/bytealg.MakeNoZero"], unfollowed := true, recurses := true, named := ["internal/bytealg.MaxLen", "internal/strconv.uint64pow10", "math/bits.deBruijn32tab", "math/bits.deBruijn64tab"], plainKeys := false, apart := false, laid := [("math/bits.deBruijn32tab", laid_math_bits_deBruijn32tab), ("math/bits.deBruijn64tab", laid_math_bits_deBruijn64tab), ("internal/strconv.uint64pow10", laid_internal_strconv_uint64pow10)] }
def ComposeIntersectsSaid : Prop := composeIntersectsRow.holds Tryz.pinned (OpenSpec.ofChange composeIntersectsSpec)

/-- ITS FALSE NEIGHBOUR: 'it returns false'. Refute it at one input. -/
def composeIntersectsWrong : ChangeSpec := { name := "composeIntersects", fn := fun _ => fun
  | [d1, d2, d3] => { results := [.lit (.bool false)], args := [d1, d2, d3] }
  | _ => none }
def ComposeIntersectsWrongFalsely : Prop := composeIntersectsRow.holds Tryz.pinned (OpenSpec.ofChange composeIntersectsWrong)

/-- 'abugidalaw11.ComposeThree': WHATEVER THE INPUT: true; the input reads as it did. -/
def composeThreeSpec : ChangeSpec := { name := "composeThree", fn := fun _ => fun
  | [d1, d2, d3] => { results := [.lit (.bool true)], args := [d1, d2, d3] }
  | _ => none }
def composeThreeRow : OpenClaim := { program := "ytpldocnhbdlgfaagreatdoor", sum := "c4f0e062996af08229bea0acd3ba9910cba057c6f803d7b75860d9a7d1b256bb", func := "abugida/abugidalaw11.ComposeThree", spec := "composeThree", inPlace := ["internal/bytealg.IndexByteString", "internal/bytealg.IndexString", "internal/abi.NoEscape", "internal/bytealg.MakeNoZero"], unfollowed := true, recurses := true, named := ["internal/bytealg.MaxLen", "internal/strconv.uint64pow10", "math/bits.deBruijn32tab", "math/bits.deBruijn64tab"], plainKeys := false, apart := false, laid := [("math/bits.deBruijn32tab", laid_math_bits_deBruijn32tab), ("math/bits.deBruijn64tab", laid_math_bits_deBruijn64tab), ("internal/strconv.uint64pow10", laid_internal_strconv_uint64pow10)] }
def ComposeThreeSaid : Prop := composeThreeRow.holds Tryz.pinned (OpenSpec.ofChange composeThreeSpec)

/-- ITS FALSE NEIGHBOUR: 'it returns false'. Refute it at one input. -/
def composeThreeWrong : ChangeSpec := { name := "composeThree", fn := fun _ => fun
  | [d1, d2, d3] => { results := [.lit (.bool false)], args := [d1, d2, d3] }
  | _ => none }
def ComposeThreeWrongFalsely : Prop := composeThreeRow.holds Tryz.pinned (OpenSpec.ofChange composeThreeWrong)

/-- 'abugidalaw11.ComposeAfter': WHATEVER THE INPUT: true; the input reads as it did. -/
def composeAfterSpec : ChangeSpec := { name := "composeAfter", fn := fun _ => fun
  | [d1, d2] => { results := [.lit (.bool true)], args := [d1, d2] }
  | _ => none }
def composeAfterRow : OpenClaim := { program := "ytpldocnhbdlgfaagreatdoor", sum := "c4f0e062996af08229bea0acd3ba9910cba057c6f803d7b75860d9a7d1b256bb", func := "abugida/abugidalaw11.ComposeAfter", spec := "composeAfter", inPlace := ["internal/bytealg.IndexByteString", "internal/bytealg.IndexString", "internal/abi.NoEscape", "internal/bytealg.MakeNoZero"], unfollowed := true, recurses := true, named := ["internal/bytealg.MaxLen", "internal/strconv.uint64pow10", "math/bits.deBruijn32tab", "math/bits.deBruijn64tab"], plainKeys := false, apart := false, laid := [("math/bits.deBruijn32tab", laid_math_bits_deBruijn32tab), ("math/bits.deBruijn64tab", laid_math_bits_deBruijn64tab), ("internal/strconv.uint64pow10", laid_internal_strconv_uint64pow10)] }
def ComposeAfterSaid : Prop := composeAfterRow.holds Tryz.pinned (OpenSpec.ofChange composeAfterSpec)

/-- ITS FALSE NEIGHBOUR: 'it returns false'. Refute it at one input. -/
def composeAfterWrong : ChangeSpec := { name := "composeAfter", fn := fun _ => fun
  | [d1, d2] => { results := [.lit (.bool false)], args := [d1, d2] }
  | _ => none }
def ComposeAfterWrongFalsely : Prop := composeAfterRow.holds Tryz.pinned (OpenSpec.ofChange composeAfterWrong)

/-- 'abugidalaw11.ComposeInverts': WHATEVER THE INPUT: true; the input reads as it did. -/
def composeInvertsSpec : ChangeSpec := { name := "composeInverts", fn := fun _ => fun
  | [d1, d2, d3] => { results := [.lit (.bool true)], args := [d1, d2, d3] }
  | _ => none }
def composeInvertsRow : OpenClaim := { program := "ytpldocnhbdlgfaagreatdoor", sum := "c4f0e062996af08229bea0acd3ba9910cba057c6f803d7b75860d9a7d1b256bb", func := "abugida/abugidalaw11.ComposeInverts", spec := "composeInverts", inPlace := ["internal/bytealg.IndexByteString", "internal/bytealg.IndexString", "internal/abi.NoEscape", "internal/bytealg.MakeNoZero"], unfollowed := true, recurses := true, named := ["internal/bytealg.MaxLen", "internal/strconv.uint64pow10", "math/bits.deBruijn32tab", "math/bits.deBruijn64tab"], plainKeys := false, apart := false, laid := [("math/bits.deBruijn32tab", laid_math_bits_deBruijn32tab), ("math/bits.deBruijn64tab", laid_math_bits_deBruijn64tab), ("internal/strconv.uint64pow10", laid_internal_strconv_uint64pow10)] }
def ComposeInvertsSaid : Prop := composeInvertsRow.holds Tryz.pinned (OpenSpec.ofChange composeInvertsSpec)

/-- ITS FALSE NEIGHBOUR: 'it returns false'. Refute it at one input. -/
def composeInvertsWrong : ChangeSpec := { name := "composeInverts", fn := fun _ => fun
  | [d1, d2, d3] => { results := [.lit (.bool false)], args := [d1, d2, d3] }
  | _ => none }
def ComposeInvertsWrongFalsely : Prop := composeInvertsRow.holds Tryz.pinned (OpenSpec.ofChange composeInvertsWrong)

/-- 'abugidalaw11.ComposeBetween': WHATEVER THE INPUT: true; the input reads as it did. -/
def composeBetweenSpec : ChangeSpec := { name := "composeBetween", fn := fun _ => fun
  | [d1, d2, d3] => { results := [.lit (.bool true)], args := [d1, d2, d3] }
  | _ => none }
def composeBetweenRow : OpenClaim := { program := "ytpldocnhbdlgfaagreatdoor", sum := "c4f0e062996af08229bea0acd3ba9910cba057c6f803d7b75860d9a7d1b256bb", func := "abugida/abugidalaw11.ComposeBetween", spec := "composeBetween", inPlace := ["internal/bytealg.IndexByteString", "internal/bytealg.IndexString", "internal/abi.NoEscape", "internal/bytealg.MakeNoZero"], unfollowed := true, recurses := true, named := ["internal/bytealg.MaxLen", "internal/strconv.uint64pow10", "math/bits.deBruijn32tab", "math/bits.deBruijn64tab"], plainKeys := false, apart := false, laid := [("math/bits.deBruijn32tab", laid_math_bits_deBruijn32tab), ("math/bits.deBruijn64tab", laid_math_bits_deBruijn64tab), ("internal/strconv.uint64pow10", laid_internal_strconv_uint64pow10)] }
def ComposeBetweenSaid : Prop := composeBetweenRow.holds Tryz.pinned (OpenSpec.ofChange composeBetweenSpec)

/-- ITS FALSE NEIGHBOUR: 'it returns false'. Refute it at one input. -/
def composeBetweenWrong : ChangeSpec := { name := "composeBetween", fn := fun _ => fun
  | [d1, d2, d3] => { results := [.lit (.bool false)], args := [d1, d2, d3] }
  | _ => none }
def ComposeBetweenWrongFalsely : Prop := composeBetweenRow.holds Tryz.pinned (OpenSpec.ofChange composeBetweenWrong)

/-- 'abugidalaw10.SidesCross': WHATEVER THE INPUT: true; the input reads as it did. -/
def sidesCrossSpec : ChangeSpec := { name := "sidesCross", fn := fun _ => fun
  | [d1, d2, d3, d4] => { results := [.lit (.bool true)], args := [d1, d2, d3, d4] }
  | _ => none }
def sidesCrossRow : OpenClaim := { program := "ytpldocnhbdlgfaagreatdoor", sum := "c4f0e062996af08229bea0acd3ba9910cba057c6f803d7b75860d9a7d1b256bb", func := "abugida/abugidalaw10.SidesCross", spec := "sidesCross", inPlace := ["internal/bytealg.IndexByteString", "internal/bytealg.IndexString", "internal/abi.NoEscape", "internal/bytealg.MakeNoZero"], unfollowed := true, recurses := true, named := ["internal/bytealg.MaxLen", "internal/strconv.uint64pow10", "math/bits.deBruijn32tab", "math/bits.deBruijn64tab"], plainKeys := false, apart := false, laid := [("math/bits.deBruijn32tab", laid_math_bits_deBruijn32tab), ("math/bits.deBruijn64tab", laid_math_bits_deBruijn64tab), ("internal/strconv.uint64pow10", laid_internal_strconv_uint64pow10)] }
def SidesCrossSaid : Prop := sidesCrossRow.holds Tryz.pinned (OpenSpec.ofChange sidesCrossSpec)

/-- ITS FALSE NEIGHBOUR: 'it returns false'. Refute it at one input. -/
def sidesCrossWrong : ChangeSpec := { name := "sidesCross", fn := fun _ => fun
  | [d1, d2, d3, d4] => { results := [.lit (.bool false)], args := [d1, d2, d3, d4] }
  | _ => none }
def SidesCrossWrongFalsely : Prop := sidesCrossRow.holds Tryz.pinned (OpenSpec.ofChange sidesCrossWrong)

/- THE SECOND FORM. 'bulk': how many values and letters a reading holds, each counted each time it is reached (what is shared counts as often as it is met; a slice's spare places count too). A statement '..UptoSaid' is the law's where the arguments, and the package variables that the reading takes, are together of bulk at most 1048576: NARROWER than '..Said'. Prove '..Said' where nothing that the law and all that it calls make is longer than what came in: it says more and counts as full. Else prove '..UptoSaid'. A law counts once. -/
mutual
def uptoBulk {H : Type} : DataW H → Nat
  | .lit (.string bytes) => bytes.length + 1
  | .lit _ => 1
  | .nil => 1
  | .ptr d => uptoBulk d + 1
  | .slice elems spare => uptoBulkAll elems + uptoBulkAll spare + 1
  | .agg parts => uptoBulkAll parts + 1
  | .iface _ d => uptoBulk d + 1
  | .map entries => uptoBulkEntries entries + 1
  | .held _ => 1
def uptoBulkAll {H : Type} : List (DataW H) → Nat
  | [] => 0
  | d :: r => uptoBulk d + uptoBulkAll r
def uptoBulkEntries {H : Type} : List (Lit × DataW H) → Nat
  | [] => 0
  | x :: r => uptoBulkEntry x + uptoBulkEntries r
def uptoBulkEntry {H : Type} : Lit × DataW H → Nat
  | (.string bytes, d) => bytes.length + uptoBulk d + 1
  | (_, d) => uptoBulk d + 1
 end
def uptoSmall : (H : Type) → List (DataW H) → Bool := fun _ ds => decide (uptoBulkAll ds ≤ 1048576)
def OpenSpec.upto (s : _root_.Go.ChangeSpec) : _root_.Go.OpenSpec := { _root_.Go.OpenSpec.ofChange s with cond := some uptoSmall }

/-- 'abugidalaw11.ComposeExamples', WHERE WHAT IT READS IS OF BULK AT MOST 1048576: true; the input reads as it did. -/
def composeExamplesUptoRow : OpenClaim := { program := "ytpldocnhbdlgfaagreatdoor", sum := "c4f0e062996af08229bea0acd3ba9910cba057c6f803d7b75860d9a7d1b256bb", func := "abugida/abugidalaw11.ComposeExamples", spec := "composeExamples", inPlace := ["internal/bytealg.IndexByteString", "internal/bytealg.IndexString", "internal/abi.NoEscape", "internal/bytealg.MakeNoZero"], unfollowed := true, recurses := true, named := ["internal/bytealg.MaxLen", "internal/strconv.uint64pow10", "math/bits.deBruijn32tab", "math/bits.deBruijn64tab"], plainKeys := false, apart := false, laid := [("math/bits.deBruijn32tab", laid_math_bits_deBruijn32tab), ("math/bits.deBruijn64tab", laid_math_bits_deBruijn64tab), ("internal/strconv.uint64pow10", laid_internal_strconv_uint64pow10)], narrowed := true }
def ComposeExamplesUptoSaid : Prop := composeExamplesUptoRow.holds Tryz.pinned (OpenSpec.upto composeExamplesSpec)

/-- 'abugidalaw11.ComposeValues', WHERE WHAT IT READS IS OF BULK AT MOST 1048576: true; the input reads as it did. -/
def composeValuesUptoRow : OpenClaim := { program := "ytpldocnhbdlgfaagreatdoor", sum := "c4f0e062996af08229bea0acd3ba9910cba057c6f803d7b75860d9a7d1b256bb", func := "abugida/abugidalaw11.ComposeValues", spec := "composeValues", inPlace := ["internal/bytealg.IndexByteString", "internal/bytealg.IndexString", "internal/abi.NoEscape", "internal/bytealg.MakeNoZero"], unfollowed := true, recurses := true, named := ["internal/bytealg.MaxLen", "internal/strconv.uint64pow10", "math/bits.deBruijn32tab", "math/bits.deBruijn64tab"], plainKeys := false, apart := false, laid := [("math/bits.deBruijn32tab", laid_math_bits_deBruijn32tab), ("math/bits.deBruijn64tab", laid_math_bits_deBruijn64tab), ("internal/strconv.uint64pow10", laid_internal_strconv_uint64pow10)], narrowed := true }
def ComposeValuesUptoSaid : Prop := composeValuesUptoRow.holds Tryz.pinned (OpenSpec.upto composeValuesSpec)

/-- 'abugidalaw11.ComposeIntersects', WHERE WHAT IT READS IS OF BULK AT MOST 1048576: true; the input reads as it did. -/
def composeIntersectsUptoRow : OpenClaim := { program := "ytpldocnhbdlgfaagreatdoor", sum := "c4f0e062996af08229bea0acd3ba9910cba057c6f803d7b75860d9a7d1b256bb", func := "abugida/abugidalaw11.ComposeIntersects", spec := "composeIntersects", inPlace := ["internal/bytealg.IndexByteString", "internal/bytealg.IndexString", "internal/abi.NoEscape", "internal/bytealg.MakeNoZero"], unfollowed := true, recurses := true, named := ["internal/bytealg.MaxLen", "internal/strconv.uint64pow10", "math/bits.deBruijn32tab", "math/bits.deBruijn64tab"], plainKeys := false, apart := false, laid := [("math/bits.deBruijn32tab", laid_math_bits_deBruijn32tab), ("math/bits.deBruijn64tab", laid_math_bits_deBruijn64tab), ("internal/strconv.uint64pow10", laid_internal_strconv_uint64pow10)], narrowed := true }
def ComposeIntersectsUptoSaid : Prop := composeIntersectsUptoRow.holds Tryz.pinned (OpenSpec.upto composeIntersectsSpec)

/-- 'abugidalaw11.ComposeThree', WHERE WHAT IT READS IS OF BULK AT MOST 1048576: true; the input reads as it did. -/
def composeThreeUptoRow : OpenClaim := { program := "ytpldocnhbdlgfaagreatdoor", sum := "c4f0e062996af08229bea0acd3ba9910cba057c6f803d7b75860d9a7d1b256bb", func := "abugida/abugidalaw11.ComposeThree", spec := "composeThree", inPlace := ["internal/bytealg.IndexByteString", "internal/bytealg.IndexString", "internal/abi.NoEscape", "internal/bytealg.MakeNoZero"], unfollowed := true, recurses := true, named := ["internal/bytealg.MaxLen", "internal/strconv.uint64pow10", "math/bits.deBruijn32tab", "math/bits.deBruijn64tab"], plainKeys := false, apart := false, laid := [("math/bits.deBruijn32tab", laid_math_bits_deBruijn32tab), ("math/bits.deBruijn64tab", laid_math_bits_deBruijn64tab), ("internal/strconv.uint64pow10", laid_internal_strconv_uint64pow10)], narrowed := true }
def ComposeThreeUptoSaid : Prop := composeThreeUptoRow.holds Tryz.pinned (OpenSpec.upto composeThreeSpec)

/-- 'abugidalaw11.ComposeAfter', WHERE WHAT IT READS IS OF BULK AT MOST 1048576: true; the input reads as it did. -/
def composeAfterUptoRow : OpenClaim := { program := "ytpldocnhbdlgfaagreatdoor", sum := "c4f0e062996af08229bea0acd3ba9910cba057c6f803d7b75860d9a7d1b256bb", func := "abugida/abugidalaw11.ComposeAfter", spec := "composeAfter", inPlace := ["internal/bytealg.IndexByteString", "internal/bytealg.IndexString", "internal/abi.NoEscape", "internal/bytealg.MakeNoZero"], unfollowed := true, recurses := true, named := ["internal/bytealg.MaxLen", "internal/strconv.uint64pow10", "math/bits.deBruijn32tab", "math/bits.deBruijn64tab"], plainKeys := false, apart := false, laid := [("math/bits.deBruijn32tab", laid_math_bits_deBruijn32tab), ("math/bits.deBruijn64tab", laid_math_bits_deBruijn64tab), ("internal/strconv.uint64pow10", laid_internal_strconv_uint64pow10)], narrowed := true }
def ComposeAfterUptoSaid : Prop := composeAfterUptoRow.holds Tryz.pinned (OpenSpec.upto composeAfterSpec)

/-- 'abugidalaw11.ComposeInverts', WHERE WHAT IT READS IS OF BULK AT MOST 1048576: true; the input reads as it did. -/
def composeInvertsUptoRow : OpenClaim := { program := "ytpldocnhbdlgfaagreatdoor", sum := "c4f0e062996af08229bea0acd3ba9910cba057c6f803d7b75860d9a7d1b256bb", func := "abugida/abugidalaw11.ComposeInverts", spec := "composeInverts", inPlace := ["internal/bytealg.IndexByteString", "internal/bytealg.IndexString", "internal/abi.NoEscape", "internal/bytealg.MakeNoZero"], unfollowed := true, recurses := true, named := ["internal/bytealg.MaxLen", "internal/strconv.uint64pow10", "math/bits.deBruijn32tab", "math/bits.deBruijn64tab"], plainKeys := false, apart := false, laid := [("math/bits.deBruijn32tab", laid_math_bits_deBruijn32tab), ("math/bits.deBruijn64tab", laid_math_bits_deBruijn64tab), ("internal/strconv.uint64pow10", laid_internal_strconv_uint64pow10)], narrowed := true }
def ComposeInvertsUptoSaid : Prop := composeInvertsUptoRow.holds Tryz.pinned (OpenSpec.upto composeInvertsSpec)

/-- 'abugidalaw11.ComposeBetween', WHERE WHAT IT READS IS OF BULK AT MOST 1048576: true; the input reads as it did. -/
def composeBetweenUptoRow : OpenClaim := { program := "ytpldocnhbdlgfaagreatdoor", sum := "c4f0e062996af08229bea0acd3ba9910cba057c6f803d7b75860d9a7d1b256bb", func := "abugida/abugidalaw11.ComposeBetween", spec := "composeBetween", inPlace := ["internal/bytealg.IndexByteString", "internal/bytealg.IndexString", "internal/abi.NoEscape", "internal/bytealg.MakeNoZero"], unfollowed := true, recurses := true, named := ["internal/bytealg.MaxLen", "internal/strconv.uint64pow10", "math/bits.deBruijn32tab", "math/bits.deBruijn64tab"], plainKeys := false, apart := false, laid := [("math/bits.deBruijn32tab", laid_math_bits_deBruijn32tab), ("math/bits.deBruijn64tab", laid_math_bits_deBruijn64tab), ("internal/strconv.uint64pow10", laid_internal_strconv_uint64pow10)], narrowed := true }
def ComposeBetweenUptoSaid : Prop := composeBetweenUptoRow.holds Tryz.pinned (OpenSpec.upto composeBetweenSpec)

/-- 'abugidalaw10.SidesCross', WHERE WHAT IT READS IS OF BULK AT MOST 1048576: true; the input reads as it did. -/
def sidesCrossUptoRow : OpenClaim := { program := "ytpldocnhbdlgfaagreatdoor", sum := "c4f0e062996af08229bea0acd3ba9910cba057c6f803d7b75860d9a7d1b256bb", func := "abugida/abugidalaw10.SidesCross", spec := "sidesCross", inPlace := ["internal/bytealg.IndexByteString", "internal/bytealg.IndexString", "internal/abi.NoEscape", "internal/bytealg.MakeNoZero"], unfollowed := true, recurses := true, named := ["internal/bytealg.MaxLen", "internal/strconv.uint64pow10", "math/bits.deBruijn32tab", "math/bits.deBruijn64tab"], plainKeys := false, apart := false, laid := [("math/bits.deBruijn32tab", laid_math_bits_deBruijn32tab), ("math/bits.deBruijn64tab", laid_math_bits_deBruijn64tab), ("internal/strconv.uint64pow10", laid_internal_strconv_uint64pow10)], narrowed := true }
def SidesCrossUptoSaid : Prop := sidesCrossUptoRow.holds Tryz.pinned (OpenSpec.upto sidesCrossSpec)

end Rows
end Go.Proofs.YtpldocnhbdlgfaaGreatDoor
