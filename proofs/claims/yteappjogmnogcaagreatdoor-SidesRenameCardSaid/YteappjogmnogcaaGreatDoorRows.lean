/-
  NARROWER THAN 'FOR EVERY INPUT', by the rows' own cells (each row's printed sentence says how): SidesInvert: laid · SidesInput: laid · SidesReverse: laid · SidesCross: laid · SidesRename: laid · SidesTwice: laid · SidesBack: laid · SidesKnown: laid · SidesOutput: laid · SidesProduct: laid.
  DERIVED. THE GIVEN ROWS OF THIS SEAT. 10 by the template 'for every input the law returns true; each argument reads behind the call as it read before'; 0 by the template 'total and deterministic' (their statements: YteappjogmnogcaaGreatDoorTotals.lean).
  GIVEN WITH THE SEED: the statements are not yours to turn. If you find one false, say at which input.
  Laid BY PROGRAM, IN A SANDBOX (cutbox-rows.mjs): the forced cells as the released guide's own fill.sh prints them over the translation f91ebefb6db9f354… (all of the seat's roots in one cut). By AI agents, Wed Nov 11 2026. No macro, syntax, notation, axiom, sorry.
-/
import Derived.Test.YteappjogmnogcaaGreatDoorChecked
import GoSem.Claim
import GoSem.ClaimJoined
import GoSem.ClaimMapViews
import Derived.JoinedTies
import Derived.KernelRfl
namespace Go.Proofs.YteappjogmnogcaaGreatDoor
/- THE CELL 'sum', in the pinned program and in every row, IS THE sha256 OF THE DUMP (.gsa) THAT YteappjogmnogcaaGreatDoorProg.lean LOADS. Nothing in Lean hashes anything: it is a label: what it is worth is what the hold of that sum in a sandbox is worth. -/
noncomputable def Tryz.pinned : Pinned := { name := "yteappjogmnogcaagreatdoor", sum := "f91ebefb6db9f354d7386ae390454d4da202743384a9a365497d9ec1ead9257d", checked := Tryz.checked }
namespace Rows
def none {H : Type} : Left H := { results := [], args := [] }

/- WHAT THE LISTED PACKAGE-LEVEL VARIABLES READ AS WHEN THE CALL BEGINS. Each datum BY PROGRAM (the guide's laid-datum.mjs) off the statement by which the dump's own 'gosem.cut.vars' lays the variable. In a bare row this is a premise. The card (YteappjogmnogcaaGreatDoorCards.lean) ties it to the program's text. -/
def laid_math_bits_deBruijn32tab {H : Type} : DataW H := .agg [.lit (.int .u8 0), .lit (.int .u8 1), .lit (.int .u8 28), .lit (.int .u8 2), .lit (.int .u8 29), .lit (.int .u8 14), .lit (.int .u8 24), .lit (.int .u8 3), .lit (.int .u8 30), .lit (.int .u8 22), .lit (.int .u8 20), .lit (.int .u8 15), .lit (.int .u8 25), .lit (.int .u8 17), .lit (.int .u8 4), .lit (.int .u8 8), .lit (.int .u8 31), .lit (.int .u8 27), .lit (.int .u8 13), .lit (.int .u8 23), .lit (.int .u8 21), .lit (.int .u8 19), .lit (.int .u8 16), .lit (.int .u8 7), .lit (.int .u8 26), .lit (.int .u8 12), .lit (.int .u8 18), .lit (.int .u8 6), .lit (.int .u8 11), .lit (.int .u8 5), .lit (.int .u8 10), .lit (.int .u8 9)]
def laid_math_bits_deBruijn64tab {H : Type} : DataW H := .agg [.lit (.int .u8 0), .lit (.int .u8 1), .lit (.int .u8 56), .lit (.int .u8 2), .lit (.int .u8 57), .lit (.int .u8 49), .lit (.int .u8 28), .lit (.int .u8 3), .lit (.int .u8 61), .lit (.int .u8 58), .lit (.int .u8 42), .lit (.int .u8 50), .lit (.int .u8 38), .lit (.int .u8 29), .lit (.int .u8 17), .lit (.int .u8 4), .lit (.int .u8 62), .lit (.int .u8 47), .lit (.int .u8 59), .lit (.int .u8 36), .lit (.int .u8 45), .lit (.int .u8 43), .lit (.int .u8 51), .lit (.int .u8 22), .lit (.int .u8 53), .lit (.int .u8 39), .lit (.int .u8 33), .lit (.int .u8 30), .lit (.int .u8 24), .lit (.int .u8 18), .lit (.int .u8 12), .lit (.int .u8 5), .lit (.int .u8 63), .lit (.int .u8 55), .lit (.int .u8 48), .lit (.int .u8 27), .lit (.int .u8 60), .lit (.int .u8 41), .lit (.int .u8 37), .lit (.int .u8 16), .lit (.int .u8 46), .lit (.int .u8 35), .lit (.int .u8 44), .lit (.int .u8 21), .lit (.int .u8 52), .lit (.int .u8 32), .lit (.int .u8 23), .lit (.int .u8 11), .lit (.int .u8 54), .lit (.int .u8 26), .lit (.int .u8 40), .lit (.int .u8 15), .lit (.int .u8 34), .lit (.int .u8 20), .lit (.int .u8 31), .lit (.int .u8 10), .lit (.int .u8 25), .lit (.int .u8 14), .lit (.int .u8 19), .lit (.int .u8 9), .lit (.int .u8 13), .lit (.int .u8 8), .lit (.int .u8 7), .lit (.int .u8 6)]
def laid_internal_strconv_uint64pow10 {H : Type} : DataW H := .agg [.lit (.int .u64 1), .lit (.int .u64 10), .lit (.int .u64 100), .lit (.int .u64 1000), .lit (.int .u64 10000), .lit (.int .u64 100000), .lit (.int .u64 1000000), .lit (.int .u64 10000000), .lit (.int .u64 100000000), .lit (.int .u64 1000000000), .lit (.int .u64 10000000000), .lit (.int .u64 100000000000), .lit (.int .u64 1000000000000), .lit (.int .u64 10000000000000), .lit (.int .u64 100000000000000), .lit (.int .u64 1000000000000000), .lit (.int .u64 10000000000000000), .lit (.int .u64 100000000000000000), .lit (.int .u64 1000000000000000000), .lit (.int .u64 10000000000000000000)]

/-- 'abugidalaw10.SidesInvert': WHATEVER THE INPUT: true; the input reads as it did. -/
def sidesInvertSpec : ChangeSpec := { name := "sidesInvert", fn := fun _ => fun
  | [d1, d2, d3] => { results := [.lit (.bool true)], args := [d1, d2, d3] }
  | _ => none }
def sidesInvertRow : OpenClaim := { program := "yteappjogmnogcaagreatdoor", sum := "f91ebefb6db9f354d7386ae390454d4da202743384a9a365497d9ec1ead9257d", func := "abugida/abugidalaw10.SidesInvert", spec := "sidesInvert", inPlace := ["internal/bytealg.IndexByteString", "internal/bytealg.IndexString", "internal/abi.NoEscape", "internal/bytealg.MakeNoZero"], unfollowed := true, recurses := true, named := ["internal/bytealg.MaxLen", "internal/strconv.uint64pow10", "math/bits.deBruijn32tab", "math/bits.deBruijn64tab"], apart := false, laid := [("math/bits.deBruijn32tab", laid_math_bits_deBruijn32tab), ("math/bits.deBruijn64tab", laid_math_bits_deBruijn64tab), ("internal/strconv.uint64pow10", laid_internal_strconv_uint64pow10)] }
def SidesInvertSaid : Prop := sidesInvertRow.holds Tryz.pinned (OpenSpec.ofChange sidesInvertSpec)

/-- ITS FALSE NEIGHBOUR: 'it returns false'. Refute it at one input. -/
def sidesInvertWrong : ChangeSpec := { name := "sidesInvert", fn := fun _ => fun
  | [d1, d2, d3] => { results := [.lit (.bool false)], args := [d1, d2, d3] }
  | _ => none }
def SidesInvertWrongFalsely : Prop := sidesInvertRow.holds Tryz.pinned (OpenSpec.ofChange sidesInvertWrong)

/-- 'abugidalaw10.SidesInput': WHATEVER THE INPUT: true; the input reads as it did. -/
def sidesInputSpec : ChangeSpec := { name := "sidesInput", fn := fun _ => fun
  | [d1, d2] => { results := [.lit (.bool true)], args := [d1, d2] }
  | _ => none }
def sidesInputRow : OpenClaim := { program := "yteappjogmnogcaagreatdoor", sum := "f91ebefb6db9f354d7386ae390454d4da202743384a9a365497d9ec1ead9257d", func := "abugida/abugidalaw10.SidesInput", spec := "sidesInput", inPlace := ["internal/bytealg.IndexByteString", "internal/bytealg.IndexString", "internal/abi.NoEscape", "internal/bytealg.MakeNoZero"], unfollowed := true, recurses := true, named := ["internal/bytealg.MaxLen", "internal/strconv.uint64pow10", "math/bits.deBruijn32tab", "math/bits.deBruijn64tab"], apart := false, laid := [("math/bits.deBruijn32tab", laid_math_bits_deBruijn32tab), ("math/bits.deBruijn64tab", laid_math_bits_deBruijn64tab), ("internal/strconv.uint64pow10", laid_internal_strconv_uint64pow10)] }
def SidesInputSaid : Prop := sidesInputRow.holds Tryz.pinned (OpenSpec.ofChange sidesInputSpec)

/-- ITS FALSE NEIGHBOUR: 'it returns false'. Refute it at one input. -/
def sidesInputWrong : ChangeSpec := { name := "sidesInput", fn := fun _ => fun
  | [d1, d2] => { results := [.lit (.bool false)], args := [d1, d2] }
  | _ => none }
def SidesInputWrongFalsely : Prop := sidesInputRow.holds Tryz.pinned (OpenSpec.ofChange sidesInputWrong)

/-- 'abugidalaw10.SidesReverse': WHATEVER THE INPUT: true; the input reads as it did. -/
def sidesReverseSpec : ChangeSpec := { name := "sidesReverse", fn := fun _ => fun
  | [d1, d2, d3] => { results := [.lit (.bool true)], args := [d1, d2, d3] }
  | _ => none }
def sidesReverseRow : OpenClaim := { program := "yteappjogmnogcaagreatdoor", sum := "f91ebefb6db9f354d7386ae390454d4da202743384a9a365497d9ec1ead9257d", func := "abugida/abugidalaw10.SidesReverse", spec := "sidesReverse", inPlace := ["internal/bytealg.IndexByteString", "internal/bytealg.IndexString", "internal/abi.NoEscape", "internal/bytealg.MakeNoZero"], unfollowed := true, recurses := true, named := ["internal/bytealg.MaxLen", "internal/strconv.uint64pow10", "math/bits.deBruijn32tab", "math/bits.deBruijn64tab"], apart := false, laid := [("math/bits.deBruijn32tab", laid_math_bits_deBruijn32tab), ("math/bits.deBruijn64tab", laid_math_bits_deBruijn64tab), ("internal/strconv.uint64pow10", laid_internal_strconv_uint64pow10)] }
def SidesReverseSaid : Prop := sidesReverseRow.holds Tryz.pinned (OpenSpec.ofChange sidesReverseSpec)

/-- ITS FALSE NEIGHBOUR: 'it returns false'. Refute it at one input. -/
def sidesReverseWrong : ChangeSpec := { name := "sidesReverse", fn := fun _ => fun
  | [d1, d2, d3] => { results := [.lit (.bool false)], args := [d1, d2, d3] }
  | _ => none }
def SidesReverseWrongFalsely : Prop := sidesReverseRow.holds Tryz.pinned (OpenSpec.ofChange sidesReverseWrong)

/-- 'abugidalaw10.SidesCross': WHATEVER THE INPUT: true; the input reads as it did. -/
def sidesCrossSpec : ChangeSpec := { name := "sidesCross", fn := fun _ => fun
  | [d1, d2, d3, d4] => { results := [.lit (.bool true)], args := [d1, d2, d3, d4] }
  | _ => none }
def sidesCrossRow : OpenClaim := { program := "yteappjogmnogcaagreatdoor", sum := "f91ebefb6db9f354d7386ae390454d4da202743384a9a365497d9ec1ead9257d", func := "abugida/abugidalaw10.SidesCross", spec := "sidesCross", inPlace := ["internal/bytealg.IndexByteString", "internal/bytealg.IndexString", "internal/abi.NoEscape", "internal/bytealg.MakeNoZero"], unfollowed := true, recurses := true, named := ["internal/bytealg.MaxLen", "internal/strconv.uint64pow10", "math/bits.deBruijn32tab", "math/bits.deBruijn64tab"], apart := false, laid := [("math/bits.deBruijn32tab", laid_math_bits_deBruijn32tab), ("math/bits.deBruijn64tab", laid_math_bits_deBruijn64tab), ("internal/strconv.uint64pow10", laid_internal_strconv_uint64pow10)] }
def SidesCrossSaid : Prop := sidesCrossRow.holds Tryz.pinned (OpenSpec.ofChange sidesCrossSpec)

/-- ITS FALSE NEIGHBOUR: 'it returns false'. Refute it at one input. -/
def sidesCrossWrong : ChangeSpec := { name := "sidesCross", fn := fun _ => fun
  | [d1, d2, d3, d4] => { results := [.lit (.bool false)], args := [d1, d2, d3, d4] }
  | _ => none }
def SidesCrossWrongFalsely : Prop := sidesCrossRow.holds Tryz.pinned (OpenSpec.ofChange sidesCrossWrong)

/-- 'abugidalaw10.SidesRename': WHATEVER THE INPUT: true; the input reads as it did. -/
def sidesRenameSpec : ChangeSpec := { name := "sidesRename", fn := fun _ => fun
  | [d1, d2, d3, d4] => { results := [.lit (.bool true)], args := [d1, d2, d3, d4] }
  | _ => none }
def sidesRenameRow : OpenClaim := { program := "yteappjogmnogcaagreatdoor", sum := "f91ebefb6db9f354d7386ae390454d4da202743384a9a365497d9ec1ead9257d", func := "abugida/abugidalaw10.SidesRename", spec := "sidesRename", inPlace := ["internal/bytealg.IndexByteString", "internal/bytealg.IndexString", "internal/abi.NoEscape", "internal/bytealg.MakeNoZero"], unfollowed := true, recurses := true, named := ["internal/bytealg.MaxLen", "internal/strconv.uint64pow10", "math/bits.deBruijn32tab", "math/bits.deBruijn64tab"], apart := false, laid := [("math/bits.deBruijn32tab", laid_math_bits_deBruijn32tab), ("math/bits.deBruijn64tab", laid_math_bits_deBruijn64tab), ("internal/strconv.uint64pow10", laid_internal_strconv_uint64pow10)] }
def SidesRenameSaid : Prop := sidesRenameRow.holds Tryz.pinned (OpenSpec.ofChange sidesRenameSpec)

/-- ITS FALSE NEIGHBOUR: 'it returns false'. Refute it at one input. -/
def sidesRenameWrong : ChangeSpec := { name := "sidesRename", fn := fun _ => fun
  | [d1, d2, d3, d4] => { results := [.lit (.bool false)], args := [d1, d2, d3, d4] }
  | _ => none }
def SidesRenameWrongFalsely : Prop := sidesRenameRow.holds Tryz.pinned (OpenSpec.ofChange sidesRenameWrong)

/-- 'abugidalaw10.SidesTwice': WHATEVER THE INPUT: true; the input reads as it did. -/
def sidesTwiceSpec : ChangeSpec := { name := "sidesTwice", fn := fun _ => fun
  | [d1, d2, d3] => { results := [.lit (.bool true)], args := [d1, d2, d3] }
  | _ => none }
def sidesTwiceRow : OpenClaim := { program := "yteappjogmnogcaagreatdoor", sum := "f91ebefb6db9f354d7386ae390454d4da202743384a9a365497d9ec1ead9257d", func := "abugida/abugidalaw10.SidesTwice", spec := "sidesTwice", inPlace := ["internal/bytealg.IndexByteString", "internal/bytealg.IndexString", "internal/abi.NoEscape", "internal/bytealg.MakeNoZero"], unfollowed := true, recurses := true, named := ["internal/bytealg.MaxLen", "internal/strconv.uint64pow10", "math/bits.deBruijn32tab", "math/bits.deBruijn64tab"], apart := false, laid := [("math/bits.deBruijn32tab", laid_math_bits_deBruijn32tab), ("math/bits.deBruijn64tab", laid_math_bits_deBruijn64tab), ("internal/strconv.uint64pow10", laid_internal_strconv_uint64pow10)] }
def SidesTwiceSaid : Prop := sidesTwiceRow.holds Tryz.pinned (OpenSpec.ofChange sidesTwiceSpec)

/-- ITS FALSE NEIGHBOUR: 'it returns false'. Refute it at one input. -/
def sidesTwiceWrong : ChangeSpec := { name := "sidesTwice", fn := fun _ => fun
  | [d1, d2, d3] => { results := [.lit (.bool false)], args := [d1, d2, d3] }
  | _ => none }
def SidesTwiceWrongFalsely : Prop := sidesTwiceRow.holds Tryz.pinned (OpenSpec.ofChange sidesTwiceWrong)

/-- 'abugidalaw10.SidesBack': WHATEVER THE INPUT: true; the input reads as it did. -/
def sidesBackSpec : ChangeSpec := { name := "sidesBack", fn := fun _ => fun
  | [d1, d2, d3, d4, d5] => { results := [.lit (.bool true)], args := [d1, d2, d3, d4, d5] }
  | _ => none }
def sidesBackRow : OpenClaim := { program := "yteappjogmnogcaagreatdoor", sum := "f91ebefb6db9f354d7386ae390454d4da202743384a9a365497d9ec1ead9257d", func := "abugida/abugidalaw10.SidesBack", spec := "sidesBack", inPlace := ["internal/bytealg.IndexByteString", "internal/bytealg.IndexString", "internal/abi.NoEscape", "internal/bytealg.MakeNoZero"], unfollowed := true, recurses := true, named := ["internal/bytealg.MaxLen", "internal/strconv.uint64pow10", "math/bits.deBruijn32tab", "math/bits.deBruijn64tab"], apart := false, laid := [("math/bits.deBruijn32tab", laid_math_bits_deBruijn32tab), ("math/bits.deBruijn64tab", laid_math_bits_deBruijn64tab), ("internal/strconv.uint64pow10", laid_internal_strconv_uint64pow10)] }
def SidesBackSaid : Prop := sidesBackRow.holds Tryz.pinned (OpenSpec.ofChange sidesBackSpec)

/-- ITS FALSE NEIGHBOUR: 'it returns false'. Refute it at one input. -/
def sidesBackWrong : ChangeSpec := { name := "sidesBack", fn := fun _ => fun
  | [d1, d2, d3, d4, d5] => { results := [.lit (.bool false)], args := [d1, d2, d3, d4, d5] }
  | _ => none }
def SidesBackWrongFalsely : Prop := sidesBackRow.holds Tryz.pinned (OpenSpec.ofChange sidesBackWrong)

/-- 'abugidalaw10.SidesKnown': WHATEVER THE INPUT: true; the input reads as it did. -/
def sidesKnownSpec : ChangeSpec := { name := "sidesKnown", fn := fun _ => fun
  | [] => { results := [.lit (.bool true)], args := [] }
  | _ => none }
def sidesKnownRow : OpenClaim := { program := "yteappjogmnogcaagreatdoor", sum := "f91ebefb6db9f354d7386ae390454d4da202743384a9a365497d9ec1ead9257d", func := "abugida/abugidalaw10.SidesKnown", spec := "sidesKnown", inPlace := ["internal/bytealg.IndexByteString", "internal/bytealg.IndexString", "internal/abi.NoEscape", "internal/bytealg.MakeNoZero"], unfollowed := true, recurses := true, named := ["internal/bytealg.MaxLen", "internal/strconv.uint64pow10", "math/bits.deBruijn32tab", "math/bits.deBruijn64tab"], apart := false, laid := [("math/bits.deBruijn32tab", laid_math_bits_deBruijn32tab), ("math/bits.deBruijn64tab", laid_math_bits_deBruijn64tab), ("internal/strconv.uint64pow10", laid_internal_strconv_uint64pow10)] }
def SidesKnownSaid : Prop := sidesKnownRow.holds Tryz.pinned (OpenSpec.ofChange sidesKnownSpec)

/-- ITS FALSE NEIGHBOUR: 'it returns false'. Refute it at one input. -/
def sidesKnownWrong : ChangeSpec := { name := "sidesKnown", fn := fun _ => fun
  | [] => { results := [.lit (.bool false)], args := [] }
  | _ => none }
def SidesKnownWrongFalsely : Prop := sidesKnownRow.holds Tryz.pinned (OpenSpec.ofChange sidesKnownWrong)

/-- 'abugidalaw10.SidesOutput': WHATEVER THE INPUT: true; the input reads as it did. -/
def sidesOutputSpec : ChangeSpec := { name := "sidesOutput", fn := fun _ => fun
  | [d1, d2] => { results := [.lit (.bool true)], args := [d1, d2] }
  | _ => none }
def sidesOutputRow : OpenClaim := { program := "yteappjogmnogcaagreatdoor", sum := "f91ebefb6db9f354d7386ae390454d4da202743384a9a365497d9ec1ead9257d", func := "abugida/abugidalaw10.SidesOutput", spec := "sidesOutput", inPlace := ["internal/bytealg.IndexByteString", "internal/bytealg.IndexString", "internal/abi.NoEscape", "internal/bytealg.MakeNoZero"], unfollowed := true, recurses := true, named := ["internal/bytealg.MaxLen", "internal/strconv.uint64pow10", "math/bits.deBruijn32tab", "math/bits.deBruijn64tab"], apart := false, laid := [("math/bits.deBruijn32tab", laid_math_bits_deBruijn32tab), ("math/bits.deBruijn64tab", laid_math_bits_deBruijn64tab), ("internal/strconv.uint64pow10", laid_internal_strconv_uint64pow10)] }
def SidesOutputSaid : Prop := sidesOutputRow.holds Tryz.pinned (OpenSpec.ofChange sidesOutputSpec)

/-- ITS FALSE NEIGHBOUR: 'it returns false'. Refute it at one input. -/
def sidesOutputWrong : ChangeSpec := { name := "sidesOutput", fn := fun _ => fun
  | [d1, d2] => { results := [.lit (.bool false)], args := [d1, d2] }
  | _ => none }
def SidesOutputWrongFalsely : Prop := sidesOutputRow.holds Tryz.pinned (OpenSpec.ofChange sidesOutputWrong)

/-- 'abugidalaw10.SidesProduct': WHATEVER THE INPUT: true; the input reads as it did. -/
def sidesProductSpec : ChangeSpec := { name := "sidesProduct", fn := fun _ => fun
  | [d1, d2, d3] => { results := [.lit (.bool true)], args := [d1, d2, d3] }
  | _ => none }
def sidesProductRow : OpenClaim := { program := "yteappjogmnogcaagreatdoor", sum := "f91ebefb6db9f354d7386ae390454d4da202743384a9a365497d9ec1ead9257d", func := "abugida/abugidalaw10.SidesProduct", spec := "sidesProduct", inPlace := ["internal/bytealg.IndexByteString", "internal/bytealg.IndexString", "internal/abi.NoEscape", "internal/bytealg.MakeNoZero"], unfollowed := true, recurses := true, named := ["internal/bytealg.MaxLen", "internal/strconv.uint64pow10", "math/bits.deBruijn32tab", "math/bits.deBruijn64tab"], apart := false, laid := [("math/bits.deBruijn32tab", laid_math_bits_deBruijn32tab), ("math/bits.deBruijn64tab", laid_math_bits_deBruijn64tab), ("internal/strconv.uint64pow10", laid_internal_strconv_uint64pow10)] }
def SidesProductSaid : Prop := sidesProductRow.holds Tryz.pinned (OpenSpec.ofChange sidesProductSpec)

/-- ITS FALSE NEIGHBOUR: 'it returns false'. Refute it at one input. -/
def sidesProductWrong : ChangeSpec := { name := "sidesProduct", fn := fun _ => fun
  | [d1, d2, d3] => { results := [.lit (.bool false)], args := [d1, d2, d3] }
  | _ => none }
def SidesProductWrongFalsely : Prop := sidesProductRow.holds Tryz.pinned (OpenSpec.ofChange sidesProductWrong)

/- THE SECOND FORM. 'bulk': how many values and letters a reading holds, each counted each time it is reached (what is shared counts as often as it is met; a slice's spare places count too). A statement '..UptoSaid' is the law's where the arguments, and the package variables that the reading takes, are together of bulk at most 1048576: NARROWER than '..Said'. Prove '..Said' where nothing that the law and all that it calls make is longer than what came in: it says more and counts as full. Else prove '..UptoSaid'. A law counts once. -/
mutual
def uptoBulk {H : Type} : DataW H → Nat
  | .lit (.string bytes) => bytes.length + 1
  | .lit _ => 1
  | .nil => 1
  | .ptr d => uptoBulk d + 1
  | .slice elems spare => uptoBulkAll elems + uptoBulkAll spare + 1
  | .agg parts => uptoBulkAll parts + 1
  | .iface _ d => uptoBulk d + 1
  | .map entries => uptoBulkEntries entries + 1
  | .held _ => 1
def uptoBulkAll {H : Type} : List (DataW H) → Nat
  | [] => 0
  | d :: r => uptoBulk d + uptoBulkAll r
def uptoBulkEntries {H : Type} : List (Lit × DataW H) → Nat
  | [] => 0
  | x :: r => uptoBulkEntry x + uptoBulkEntries r
def uptoBulkEntry {H : Type} : Lit × DataW H → Nat
  | (.string bytes, d) => bytes.length + uptoBulk d + 1
  | (_, d) => uptoBulk d + 1
 end
def uptoSmall : (H : Type) → List (DataW H) → Bool := fun _ ds => decide (uptoBulkAll ds ≤ 1048576)
def OpenSpec.upto (s : _root_.Go.ChangeSpec) : _root_.Go.OpenSpec := { _root_.Go.OpenSpec.ofChange s with cond := some uptoSmall }

/-- 'abugidalaw10.SidesInvert', WHERE WHAT IT READS IS OF BULK AT MOST 1048576: true; the input reads as it did. -/
def sidesInvertUptoRow : OpenClaim := { program := "yteappjogmnogcaagreatdoor", sum := "f91ebefb6db9f354d7386ae390454d4da202743384a9a365497d9ec1ead9257d", func := "abugida/abugidalaw10.SidesInvert", spec := "sidesInvert", inPlace := ["internal/bytealg.IndexByteString", "internal/bytealg.IndexString", "internal/abi.NoEscape", "internal/bytealg.MakeNoZero"], unfollowed := true, recurses := true, named := ["internal/bytealg.MaxLen", "internal/strconv.uint64pow10", "math/bits.deBruijn32tab", "math/bits.deBruijn64tab"], apart := false, laid := [("math/bits.deBruijn32tab", laid_math_bits_deBruijn32tab), ("math/bits.deBruijn64tab", laid_math_bits_deBruijn64tab), ("internal/strconv.uint64pow10", laid_internal_strconv_uint64pow10)], narrowed := true }
def SidesInvertUptoSaid : Prop := sidesInvertUptoRow.holds Tryz.pinned (OpenSpec.upto sidesInvertSpec)

/-- 'abugidalaw10.SidesInput', WHERE WHAT IT READS IS OF BULK AT MOST 1048576: true; the input reads as it did. -/
def sidesInputUptoRow : OpenClaim := { program := "yteappjogmnogcaagreatdoor", sum := "f91ebefb6db9f354d7386ae390454d4da202743384a9a365497d9ec1ead9257d", func := "abugida/abugidalaw10.SidesInput", spec := "sidesInput", inPlace := ["internal/bytealg.IndexByteString", "internal/bytealg.IndexString", "internal/abi.NoEscape", "internal/bytealg.MakeNoZero"], unfollowed := true, recurses := true, named := ["internal/bytealg.MaxLen", "internal/strconv.uint64pow10", "math/bits.deBruijn32tab", "math/bits.deBruijn64tab"], apart := false, laid := [("math/bits.deBruijn32tab", laid_math_bits_deBruijn32tab), ("math/bits.deBruijn64tab", laid_math_bits_deBruijn64tab), ("internal/strconv.uint64pow10", laid_internal_strconv_uint64pow10)], narrowed := true }
def SidesInputUptoSaid : Prop := sidesInputUptoRow.holds Tryz.pinned (OpenSpec.upto sidesInputSpec)

/-- 'abugidalaw10.SidesReverse', WHERE WHAT IT READS IS OF BULK AT MOST 1048576: true; the input reads as it did. -/
def sidesReverseUptoRow : OpenClaim := { program := "yteappjogmnogcaagreatdoor", sum := "f91ebefb6db9f354d7386ae390454d4da202743384a9a365497d9ec1ead9257d", func := "abugida/abugidalaw10.SidesReverse", spec := "sidesReverse", inPlace := ["internal/bytealg.IndexByteString", "internal/bytealg.IndexString", "internal/abi.NoEscape", "internal/bytealg.MakeNoZero"], unfollowed := true, recurses := true, named := ["internal/bytealg.MaxLen", "internal/strconv.uint64pow10", "math/bits.deBruijn32tab", "math/bits.deBruijn64tab"], apart := false, laid := [("math/bits.deBruijn32tab", laid_math_bits_deBruijn32tab), ("math/bits.deBruijn64tab", laid_math_bits_deBruijn64tab), ("internal/strconv.uint64pow10", laid_internal_strconv_uint64pow10)], narrowed := true }
def SidesReverseUptoSaid : Prop := sidesReverseUptoRow.holds Tryz.pinned (OpenSpec.upto sidesReverseSpec)

/-- 'abugidalaw10.SidesCross', WHERE WHAT IT READS IS OF BULK AT MOST 1048576: true; the input reads as it did. -/
def sidesCrossUptoRow : OpenClaim := { program := "yteappjogmnogcaagreatdoor", sum := "f91ebefb6db9f354d7386ae390454d4da202743384a9a365497d9ec1ead9257d", func := "abugida/abugidalaw10.SidesCross", spec := "sidesCross", inPlace := ["internal/bytealg.IndexByteString", "internal/bytealg.IndexString", "internal/abi.NoEscape", "internal/bytealg.MakeNoZero"], unfollowed := true, recurses := true, named := ["internal/bytealg.MaxLen", "internal/strconv.uint64pow10", "math/bits.deBruijn32tab", "math/bits.deBruijn64tab"], apart := false, laid := [("math/bits.deBruijn32tab", laid_math_bits_deBruijn32tab), ("math/bits.deBruijn64tab", laid_math_bits_deBruijn64tab), ("internal/strconv.uint64pow10", laid_internal_strconv_uint64pow10)], narrowed := true }
def SidesCrossUptoSaid : Prop := sidesCrossUptoRow.holds Tryz.pinned (OpenSpec.upto sidesCrossSpec)

/-- 'abugidalaw10.SidesRename', WHERE WHAT IT READS IS OF BULK AT MOST 1048576: true; the input reads as it did. -/
def sidesRenameUptoRow : OpenClaim := { program := "yteappjogmnogcaagreatdoor", sum := "f91ebefb6db9f354d7386ae390454d4da202743384a9a365497d9ec1ead9257d", func := "abugida/abugidalaw10.SidesRename", spec := "sidesRename", inPlace := ["internal/bytealg.IndexByteString", "internal/bytealg.IndexString", "internal/abi.NoEscape", "internal/bytealg.MakeNoZero"], unfollowed := true, recurses := true, named := ["internal/bytealg.MaxLen", "internal/strconv.uint64pow10", "math/bits.deBruijn32tab", "math/bits.deBruijn64tab"], apart := false, laid := [("math/bits.deBruijn32tab", laid_math_bits_deBruijn32tab), ("math/bits.deBruijn64tab", laid_math_bits_deBruijn64tab), ("internal/strconv.uint64pow10", laid_internal_strconv_uint64pow10)], narrowed := true }
def SidesRenameUptoSaid : Prop := sidesRenameUptoRow.holds Tryz.pinned (OpenSpec.upto sidesRenameSpec)

/-- 'abugidalaw10.SidesTwice', WHERE WHAT IT READS IS OF BULK AT MOST 1048576: true; the input reads as it did. -/
def sidesTwiceUptoRow : OpenClaim := { program := "yteappjogmnogcaagreatdoor", sum := "f91ebefb6db9f354d7386ae390454d4da202743384a9a365497d9ec1ead9257d", func := "abugida/abugidalaw10.SidesTwice", spec := "sidesTwice", inPlace := ["internal/bytealg.IndexByteString", "internal/bytealg.IndexString", "internal/abi.NoEscape", "internal/bytealg.MakeNoZero"], unfollowed := true, recurses := true, named := ["internal/bytealg.MaxLen", "internal/strconv.uint64pow10", "math/bits.deBruijn32tab", "math/bits.deBruijn64tab"], apart := false, laid := [("math/bits.deBruijn32tab", laid_math_bits_deBruijn32tab), ("math/bits.deBruijn64tab", laid_math_bits_deBruijn64tab), ("internal/strconv.uint64pow10", laid_internal_strconv_uint64pow10)], narrowed := true }
def SidesTwiceUptoSaid : Prop := sidesTwiceUptoRow.holds Tryz.pinned (OpenSpec.upto sidesTwiceSpec)

/-- 'abugidalaw10.SidesBack', WHERE WHAT IT READS IS OF BULK AT MOST 1048576: true; the input reads as it did. -/
def sidesBackUptoRow : OpenClaim := { program := "yteappjogmnogcaagreatdoor", sum := "f91ebefb6db9f354d7386ae390454d4da202743384a9a365497d9ec1ead9257d", func := "abugida/abugidalaw10.SidesBack", spec := "sidesBack", inPlace := ["internal/bytealg.IndexByteString", "internal/bytealg.IndexString", "internal/abi.NoEscape", "internal/bytealg.MakeNoZero"], unfollowed := true, recurses := true, named := ["internal/bytealg.MaxLen", "internal/strconv.uint64pow10", "math/bits.deBruijn32tab", "math/bits.deBruijn64tab"], apart := false, laid := [("math/bits.deBruijn32tab", laid_math_bits_deBruijn32tab), ("math/bits.deBruijn64tab", laid_math_bits_deBruijn64tab), ("internal/strconv.uint64pow10", laid_internal_strconv_uint64pow10)], narrowed := true }
def SidesBackUptoSaid : Prop := sidesBackUptoRow.holds Tryz.pinned (OpenSpec.upto sidesBackSpec)

/-- 'abugidalaw10.SidesKnown', WHERE WHAT IT READS IS OF BULK AT MOST 1048576: true; the input reads as it did. -/
def sidesKnownUptoRow : OpenClaim := { program := "yteappjogmnogcaagreatdoor", sum := "f91ebefb6db9f354d7386ae390454d4da202743384a9a365497d9ec1ead9257d", func := "abugida/abugidalaw10.SidesKnown", spec := "sidesKnown", inPlace := ["internal/bytealg.IndexByteString", "internal/bytealg.IndexString", "internal/abi.NoEscape", "internal/bytealg.MakeNoZero"], unfollowed := true, recurses := true, named := ["internal/bytealg.MaxLen", "internal/strconv.uint64pow10", "math/bits.deBruijn32tab", "math/bits.deBruijn64tab"], apart := false, laid := [("math/bits.deBruijn32tab", laid_math_bits_deBruijn32tab), ("math/bits.deBruijn64tab", laid_math_bits_deBruijn64tab), ("internal/strconv.uint64pow10", laid_internal_strconv_uint64pow10)], narrowed := true }
def SidesKnownUptoSaid : Prop := sidesKnownUptoRow.holds Tryz.pinned (OpenSpec.upto sidesKnownSpec)

/-- 'abugidalaw10.SidesOutput', WHERE WHAT IT READS IS OF BULK AT MOST 1048576: true; the input reads as it did. -/
def sidesOutputUptoRow : OpenClaim := { program := "yteappjogmnogcaagreatdoor", sum := "f91ebefb6db9f354d7386ae390454d4da202743384a9a365497d9ec1ead9257d", func := "abugida/abugidalaw10.SidesOutput", spec := "sidesOutput", inPlace := ["internal/bytealg.IndexByteString", "internal/bytealg.IndexString", "internal/abi.NoEscape", "internal/bytealg.MakeNoZero"], unfollowed := true, recurses := true, named := ["internal/bytealg.MaxLen", "internal/strconv.uint64pow10", "math/bits.deBruijn32tab", "math/bits.deBruijn64tab"], apart := false, laid := [("math/bits.deBruijn32tab", laid_math_bits_deBruijn32tab), ("math/bits.deBruijn64tab", laid_math_bits_deBruijn64tab), ("internal/strconv.uint64pow10", laid_internal_strconv_uint64pow10)], narrowed := true }
def SidesOutputUptoSaid : Prop := sidesOutputUptoRow.holds Tryz.pinned (OpenSpec.upto sidesOutputSpec)

/-- 'abugidalaw10.SidesProduct', WHERE WHAT IT READS IS OF BULK AT MOST 1048576: true; the input reads as it did. -/
def sidesProductUptoRow : OpenClaim := { program := "yteappjogmnogcaagreatdoor", sum := "f91ebefb6db9f354d7386ae390454d4da202743384a9a365497d9ec1ead9257d", func := "abugida/abugidalaw10.SidesProduct", spec := "sidesProduct", inPlace := ["internal/bytealg.IndexByteString", "internal/bytealg.IndexString", "internal/abi.NoEscape", "internal/bytealg.MakeNoZero"], unfollowed := true, recurses := true, named := ["internal/bytealg.MaxLen", "internal/strconv.uint64pow10", "math/bits.deBruijn32tab", "math/bits.deBruijn64tab"], apart := false, laid := [("math/bits.deBruijn32tab", laid_math_bits_deBruijn32tab), ("math/bits.deBruijn64tab", laid_math_bits_deBruijn64tab), ("internal/strconv.uint64pow10", laid_internal_strconv_uint64pow10)], narrowed := true }
def SidesProductUptoSaid : Prop := sidesProductUptoRow.holds Tryz.pinned (OpenSpec.upto sidesProductSpec)

end Rows
end Go.Proofs.YteappjogmnogcaaGreatDoor
