/-
  NARROWER THAN 'FOR EVERY INPUT', by the rows' own cells (each row's printed sentence says how): EditsValid: laid · EditsCost: laid · EditsCompiles: laid · EditsSimple: laid · EditsBack: laid · EditsKnown: laid · EditsApplied: laid · EditsMost: laid · EditsParts: laid.
  DERIVED. THE GIVEN ROWS OF THIS SEAT. 9 by the template 'for every input the law returns true; each argument reads behind the call as it read before'; 0 by the template 'total and deterministic' (their statements: YtjekapjbigfkbaaGreatDoorTotals.lean).
  GIVEN WITH THE SEED: the statements are not yours to turn. If you find one false, say at which input.
  Laid BY PROGRAM, IN A SANDBOX (cutbox-rows.mjs): the forced cells as the released guide's own fill.sh prints them over the translation 4e8d6f350739cd8b… (all of the seat's roots in one cut). By AI agents, Wed Nov 11 2026. No macro, syntax, notation, axiom, sorry.
-/
import Derived.Test.YtjekapjbigfkbaaGreatDoorChecked
import GoSem.Claim
import GoSem.ClaimJoined
import GoSem.ClaimMapViews
import Derived.JoinedTies
import Derived.KernelRfl
namespace Go.Proofs.YtjekapjbigfkbaaGreatDoor
/- THE CELL 'sum', in the pinned program and in every row, IS THE sha256 OF THE DUMP (.gsa) THAT YtjekapjbigfkbaaGreatDoorProg.lean LOADS. Nothing in Lean hashes anything: it is a label: what it is worth is what the hold of that sum in a sandbox is worth. -/
noncomputable def Tryz.pinned : Pinned := { name := "ytjekapjbigfkbaagreatdoor", sum := "4e8d6f350739cd8b1724cec63809ea56dddc5a623dc6e897737ae176dd621ac3", checked := Tryz.checked }
namespace Rows
def none {H : Type} : Left H := { results := [], args := [] }

/- WHAT THE LISTED PACKAGE-LEVEL VARIABLES READ AS WHEN THE CALL BEGINS. Each datum BY PROGRAM (the guide's laid-datum.mjs) off the statement by which the dump's own 'gosem.cut.vars' lays the variable. In a bare row this is a premise. The card (YtjekapjbigfkbaaGreatDoorCards.lean) ties it to the program's text. -/
def laid_math_bits_deBruijn32tab {H : Type} : DataW H := .agg [.lit (.int .u8 0), .lit (.int .u8 1), .lit (.int .u8 28), .lit (.int .u8 2), .lit (.int .u8 29), .lit (.int .u8 14), .lit (.int .u8 24), .lit (.int .u8 3), .lit (.int .u8 30), .lit (.int .u8 22), .lit (.int .u8 20), .lit (.int .u8 15), .lit (.int .u8 25), .lit (.int .u8 17), .lit (.int .u8 4), .lit (.int .u8 8), .lit (.int .u8 31), .lit (.int .u8 27), .lit (.int .u8 13), .lit (.int .u8 23), .lit (.int .u8 21), .lit (.int .u8 19), .lit (.int .u8 16), .lit (.int .u8 7), .lit (.int .u8 26), .lit (.int .u8 12), .lit (.int .u8 18), .lit (.int .u8 6), .lit (.int .u8 11), .lit (.int .u8 5), .lit (.int .u8 10), .lit (.int .u8 9)]
def laid_math_bits_deBruijn64tab {H : Type} : DataW H := .agg [.lit (.int .u8 0), .lit (.int .u8 1), .lit (.int .u8 56), .lit (.int .u8 2), .lit (.int .u8 57), .lit (.int .u8 49), .lit (.int .u8 28), .lit (.int .u8 3), .lit (.int .u8 61), .lit (.int .u8 58), .lit (.int .u8 42), .lit (.int .u8 50), .lit (.int .u8 38), .lit (.int .u8 29), .lit (.int .u8 17), .lit (.int .u8 4), .lit (.int .u8 62), .lit (.int .u8 47), .lit (.int .u8 59), .lit (.int .u8 36), .lit (.int .u8 45), .lit (.int .u8 43), .lit (.int .u8 51), .lit (.int .u8 22), .lit (.int .u8 53), .lit (.int .u8 39), .lit (.int .u8 33), .lit (.int .u8 30), .lit (.int .u8 24), .lit (.int .u8 18), .lit (.int .u8 12), .lit (.int .u8 5), .lit (.int .u8 63), .lit (.int .u8 55), .lit (.int .u8 48), .lit (.int .u8 27), .lit (.int .u8 60), .lit (.int .u8 41), .lit (.int .u8 37), .lit (.int .u8 16), .lit (.int .u8 46), .lit (.int .u8 35), .lit (.int .u8 44), .lit (.int .u8 21), .lit (.int .u8 52), .lit (.int .u8 32), .lit (.int .u8 23), .lit (.int .u8 11), .lit (.int .u8 54), .lit (.int .u8 26), .lit (.int .u8 40), .lit (.int .u8 15), .lit (.int .u8 34), .lit (.int .u8 20), .lit (.int .u8 31), .lit (.int .u8 10), .lit (.int .u8 25), .lit (.int .u8 14), .lit (.int .u8 19), .lit (.int .u8 9), .lit (.int .u8 13), .lit (.int .u8 8), .lit (.int .u8 7), .lit (.int .u8 6)]
def laid_internal_strconv_uint64pow10 {H : Type} : DataW H := .agg [.lit (.int .u64 1), .lit (.int .u64 10), .lit (.int .u64 100), .lit (.int .u64 1000), .lit (.int .u64 10000), .lit (.int .u64 100000), .lit (.int .u64 1000000), .lit (.int .u64 10000000), .lit (.int .u64 100000000), .lit (.int .u64 1000000000), .lit (.int .u64 10000000000), .lit (.int .u64 100000000000), .lit (.int .u64 1000000000000), .lit (.int .u64 10000000000000), .lit (.int .u64 100000000000000), .lit (.int .u64 1000000000000000), .lit (.int .u64 10000000000000000), .lit (.int .u64 100000000000000000), .lit (.int .u64 1000000000000000000), .lit (.int .u64 10000000000000000000)]

/-- 'abugidalaw37.EditsValid': WHATEVER THE INPUT: true; the input reads as it did. -/
def editsValidSpec : ChangeSpec := { name := "editsValid", fn := fun _ => fun
  | [d] => { results := [.lit (.bool true)], args := [d] }
  | _ => none }
def editsValidRow : OpenClaim := { program := "ytjekapjbigfkbaagreatdoor", sum := "4e8d6f350739cd8b1724cec63809ea56dddc5a623dc6e897737ae176dd621ac3", func := "abugida/abugidalaw37.EditsValid", spec := "editsValid", inPlace := ["internal/bytealg.IndexByteString", "internal/bytealg.IndexString", "internal/abi.NoEscape", "internal/bytealg.MakeNoZero"], unfollowed := true, recurses := true, named := ["internal/bytealg.MaxLen", "internal/strconv.uint64pow10", "math/bits.deBruijn32tab", "math/bits.deBruijn64tab"], apart := false, laid := [("math/bits.deBruijn32tab", laid_math_bits_deBruijn32tab), ("math/bits.deBruijn64tab", laid_math_bits_deBruijn64tab), ("internal/strconv.uint64pow10", laid_internal_strconv_uint64pow10)] }
def EditsValidSaid : Prop := editsValidRow.holds Tryz.pinned (OpenSpec.ofChange editsValidSpec)

/-- ITS FALSE NEIGHBOUR: 'it returns false'. Refute it at one input. -/
def editsValidWrong : ChangeSpec := { name := "editsValid", fn := fun _ => fun
  | [d] => { results := [.lit (.bool false)], args := [d] }
  | _ => none }
def EditsValidWrongFalsely : Prop := editsValidRow.holds Tryz.pinned (OpenSpec.ofChange editsValidWrong)

/-- 'abugidalaw37.EditsCost': WHATEVER THE INPUT: true; the input reads as it did. -/
def editsCostSpec : ChangeSpec := { name := "editsCost", fn := fun _ => fun
  | [d1, d2, d3] => { results := [.lit (.bool true)], args := [d1, d2, d3] }
  | _ => none }
def editsCostRow : OpenClaim := { program := "ytjekapjbigfkbaagreatdoor", sum := "4e8d6f350739cd8b1724cec63809ea56dddc5a623dc6e897737ae176dd621ac3", func := "abugida/abugidalaw37.EditsCost", spec := "editsCost", inPlace := ["internal/bytealg.IndexByteString", "internal/bytealg.IndexString", "internal/abi.NoEscape", "internal/bytealg.MakeNoZero"], unfollowed := true, recurses := true, named := ["internal/bytealg.MaxLen", "internal/strconv.uint64pow10", "math/bits.deBruijn32tab", "math/bits.deBruijn64tab"], apart := false, laid := [("math/bits.deBruijn32tab", laid_math_bits_deBruijn32tab), ("math/bits.deBruijn64tab", laid_math_bits_deBruijn64tab), ("internal/strconv.uint64pow10", laid_internal_strconv_uint64pow10)] }
def EditsCostSaid : Prop := editsCostRow.holds Tryz.pinned (OpenSpec.ofChange editsCostSpec)

/-- ITS FALSE NEIGHBOUR: 'it returns false'. Refute it at one input. -/
def editsCostWrong : ChangeSpec := { name := "editsCost", fn := fun _ => fun
  | [d1, d2, d3] => { results := [.lit (.bool false)], args := [d1, d2, d3] }
  | _ => none }
def EditsCostWrongFalsely : Prop := editsCostRow.holds Tryz.pinned (OpenSpec.ofChange editsCostWrong)

/-- 'abugidalaw37.EditsCompiles': WHATEVER THE INPUT: true; the input reads as it did. -/
def editsCompilesSpec : ChangeSpec := { name := "editsCompiles", fn := fun _ => fun
  | [d1, d2, d3, d4] => { results := [.lit (.bool true)], args := [d1, d2, d3, d4] }
  | _ => none }
def editsCompilesRow : OpenClaim := { program := "ytjekapjbigfkbaagreatdoor", sum := "4e8d6f350739cd8b1724cec63809ea56dddc5a623dc6e897737ae176dd621ac3", func := "abugida/abugidalaw37.EditsCompiles", spec := "editsCompiles", inPlace := ["internal/bytealg.IndexByteString", "internal/bytealg.IndexString", "internal/abi.NoEscape", "internal/bytealg.MakeNoZero"], unfollowed := true, recurses := true, named := ["internal/bytealg.MaxLen", "internal/strconv.uint64pow10", "math/bits.deBruijn32tab", "math/bits.deBruijn64tab"], apart := false, laid := [("math/bits.deBruijn32tab", laid_math_bits_deBruijn32tab), ("math/bits.deBruijn64tab", laid_math_bits_deBruijn64tab), ("internal/strconv.uint64pow10", laid_internal_strconv_uint64pow10)] }
def EditsCompilesSaid : Prop := editsCompilesRow.holds Tryz.pinned (OpenSpec.ofChange editsCompilesSpec)

/-- ITS FALSE NEIGHBOUR: 'it returns false'. Refute it at one input. -/
def editsCompilesWrong : ChangeSpec := { name := "editsCompiles", fn := fun _ => fun
  | [d1, d2, d3, d4] => { results := [.lit (.bool false)], args := [d1, d2, d3, d4] }
  | _ => none }
def EditsCompilesWrongFalsely : Prop := editsCompilesRow.holds Tryz.pinned (OpenSpec.ofChange editsCompilesWrong)

/-- 'abugidalaw37.EditsSimple': WHATEVER THE INPUT: true; the input reads as it did. -/
def editsSimpleSpec : ChangeSpec := { name := "editsSimple", fn := fun _ => fun
  | [d1, d2, d3, d4, d5, d6] => { results := [.lit (.bool true)], args := [d1, d2, d3, d4, d5, d6] }
  | _ => none }
def editsSimpleRow : OpenClaim := { program := "ytjekapjbigfkbaagreatdoor", sum := "4e8d6f350739cd8b1724cec63809ea56dddc5a623dc6e897737ae176dd621ac3", func := "abugida/abugidalaw37.EditsSimple", spec := "editsSimple", inPlace := ["internal/bytealg.IndexByteString", "internal/bytealg.IndexString", "internal/abi.NoEscape", "internal/bytealg.MakeNoZero"], unfollowed := true, recurses := true, named := ["internal/bytealg.MaxLen", "internal/strconv.uint64pow10", "math/bits.deBruijn32tab", "math/bits.deBruijn64tab"], apart := false, laid := [("math/bits.deBruijn32tab", laid_math_bits_deBruijn32tab), ("math/bits.deBruijn64tab", laid_math_bits_deBruijn64tab), ("internal/strconv.uint64pow10", laid_internal_strconv_uint64pow10)] }
def EditsSimpleSaid : Prop := editsSimpleRow.holds Tryz.pinned (OpenSpec.ofChange editsSimpleSpec)

/-- ITS FALSE NEIGHBOUR: 'it returns false'. Refute it at one input. -/
def editsSimpleWrong : ChangeSpec := { name := "editsSimple", fn := fun _ => fun
  | [d1, d2, d3, d4, d5, d6] => { results := [.lit (.bool false)], args := [d1, d2, d3, d4, d5, d6] }
  | _ => none }
def EditsSimpleWrongFalsely : Prop := editsSimpleRow.holds Tryz.pinned (OpenSpec.ofChange editsSimpleWrong)

/-- 'abugidalaw37.EditsBack': WHATEVER THE INPUT: true; the input reads as it did. -/
def editsBackSpec : ChangeSpec := { name := "editsBack", fn := fun _ => fun
  | [d1, d2, d3] => { results := [.lit (.bool true)], args := [d1, d2, d3] }
  | _ => none }
def editsBackRow : OpenClaim := { program := "ytjekapjbigfkbaagreatdoor", sum := "4e8d6f350739cd8b1724cec63809ea56dddc5a623dc6e897737ae176dd621ac3", func := "abugida/abugidalaw37.EditsBack", spec := "editsBack", inPlace := ["internal/bytealg.IndexByteString", "internal/bytealg.IndexString", "internal/abi.NoEscape", "internal/bytealg.MakeNoZero"], unfollowed := true, recurses := true, named := ["internal/bytealg.MaxLen", "internal/strconv.uint64pow10", "math/bits.deBruijn32tab", "math/bits.deBruijn64tab"], apart := false, laid := [("math/bits.deBruijn32tab", laid_math_bits_deBruijn32tab), ("math/bits.deBruijn64tab", laid_math_bits_deBruijn64tab), ("internal/strconv.uint64pow10", laid_internal_strconv_uint64pow10)] }
def EditsBackSaid : Prop := editsBackRow.holds Tryz.pinned (OpenSpec.ofChange editsBackSpec)

/-- ITS FALSE NEIGHBOUR: 'it returns false'. Refute it at one input. -/
def editsBackWrong : ChangeSpec := { name := "editsBack", fn := fun _ => fun
  | [d1, d2, d3] => { results := [.lit (.bool false)], args := [d1, d2, d3] }
  | _ => none }
def EditsBackWrongFalsely : Prop := editsBackRow.holds Tryz.pinned (OpenSpec.ofChange editsBackWrong)

/-- 'abugidalaw37.EditsKnown': WHATEVER THE INPUT: true; the input reads as it did. -/
def editsKnownSpec : ChangeSpec := { name := "editsKnown", fn := fun _ => fun
  | [] => { results := [.lit (.bool true)], args := [] }
  | _ => none }
def editsKnownRow : OpenClaim := { program := "ytjekapjbigfkbaagreatdoor", sum := "4e8d6f350739cd8b1724cec63809ea56dddc5a623dc6e897737ae176dd621ac3", func := "abugida/abugidalaw37.EditsKnown", spec := "editsKnown", inPlace := ["internal/bytealg.IndexByteString", "internal/bytealg.IndexString", "internal/abi.NoEscape", "internal/bytealg.MakeNoZero"], unfollowed := true, recurses := true, named := ["internal/bytealg.MaxLen", "internal/strconv.uint64pow10", "math/bits.deBruijn32tab", "math/bits.deBruijn64tab"], apart := false, laid := [("math/bits.deBruijn32tab", laid_math_bits_deBruijn32tab), ("math/bits.deBruijn64tab", laid_math_bits_deBruijn64tab), ("internal/strconv.uint64pow10", laid_internal_strconv_uint64pow10)] }
def EditsKnownSaid : Prop := editsKnownRow.holds Tryz.pinned (OpenSpec.ofChange editsKnownSpec)

/-- ITS FALSE NEIGHBOUR: 'it returns false'. Refute it at one input. -/
def editsKnownWrong : ChangeSpec := { name := "editsKnown", fn := fun _ => fun
  | [] => { results := [.lit (.bool false)], args := [] }
  | _ => none }
def EditsKnownWrongFalsely : Prop := editsKnownRow.holds Tryz.pinned (OpenSpec.ofChange editsKnownWrong)

/-- 'abugidalaw37.EditsApplied': WHATEVER THE INPUT: true; the input reads as it did. -/
def editsAppliedSpec : ChangeSpec := { name := "editsApplied", fn := fun _ => fun
  | [d1, d2, d3] => { results := [.lit (.bool true)], args := [d1, d2, d3] }
  | _ => none }
def editsAppliedRow : OpenClaim := { program := "ytjekapjbigfkbaagreatdoor", sum := "4e8d6f350739cd8b1724cec63809ea56dddc5a623dc6e897737ae176dd621ac3", func := "abugida/abugidalaw37.EditsApplied", spec := "editsApplied", inPlace := ["internal/bytealg.IndexByteString", "internal/bytealg.IndexString", "internal/abi.NoEscape", "internal/bytealg.MakeNoZero"], unfollowed := true, recurses := true, named := ["internal/bytealg.MaxLen", "internal/strconv.uint64pow10", "math/bits.deBruijn32tab", "math/bits.deBruijn64tab"], apart := false, laid := [("math/bits.deBruijn32tab", laid_math_bits_deBruijn32tab), ("math/bits.deBruijn64tab", laid_math_bits_deBruijn64tab), ("internal/strconv.uint64pow10", laid_internal_strconv_uint64pow10)] }
def EditsAppliedSaid : Prop := editsAppliedRow.holds Tryz.pinned (OpenSpec.ofChange editsAppliedSpec)

/-- ITS FALSE NEIGHBOUR: 'it returns false'. Refute it at one input. -/
def editsAppliedWrong : ChangeSpec := { name := "editsApplied", fn := fun _ => fun
  | [d1, d2, d3] => { results := [.lit (.bool false)], args := [d1, d2, d3] }
  | _ => none }
def EditsAppliedWrongFalsely : Prop := editsAppliedRow.holds Tryz.pinned (OpenSpec.ofChange editsAppliedWrong)

/-- 'abugidalaw37.EditsMost': WHATEVER THE INPUT: true; the input reads as it did. -/
def editsMostSpec : ChangeSpec := { name := "editsMost", fn := fun _ => fun
  | [d1, d2, d3, d4] => { results := [.lit (.bool true)], args := [d1, d2, d3, d4] }
  | _ => none }
def editsMostRow : OpenClaim := { program := "ytjekapjbigfkbaagreatdoor", sum := "4e8d6f350739cd8b1724cec63809ea56dddc5a623dc6e897737ae176dd621ac3", func := "abugida/abugidalaw37.EditsMost", spec := "editsMost", inPlace := ["internal/bytealg.IndexByteString", "internal/bytealg.IndexString", "internal/abi.NoEscape", "internal/bytealg.MakeNoZero"], unfollowed := true, recurses := true, named := ["internal/bytealg.MaxLen", "internal/strconv.uint64pow10", "math/bits.deBruijn32tab", "math/bits.deBruijn64tab"], apart := false, laid := [("math/bits.deBruijn32tab", laid_math_bits_deBruijn32tab), ("math/bits.deBruijn64tab", laid_math_bits_deBruijn64tab), ("internal/strconv.uint64pow10", laid_internal_strconv_uint64pow10)] }
def EditsMostSaid : Prop := editsMostRow.holds Tryz.pinned (OpenSpec.ofChange editsMostSpec)

/-- ITS FALSE NEIGHBOUR: 'it returns false'. Refute it at one input. -/
def editsMostWrong : ChangeSpec := { name := "editsMost", fn := fun _ => fun
  | [d1, d2, d3, d4] => { results := [.lit (.bool false)], args := [d1, d2, d3, d4] }
  | _ => none }
def EditsMostWrongFalsely : Prop := editsMostRow.holds Tryz.pinned (OpenSpec.ofChange editsMostWrong)

/-- 'abugidalaw37.EditsParts': WHATEVER THE INPUT: true; the input reads as it did. -/
def editsPartsSpec : ChangeSpec := { name := "editsParts", fn := fun _ => fun
  | [d1, d2, d3, d4, d5, d6, d7] => { results := [.lit (.bool true)], args := [d1, d2, d3, d4, d5, d6, d7] }
  | _ => none }
def editsPartsRow : OpenClaim := { program := "ytjekapjbigfkbaagreatdoor", sum := "4e8d6f350739cd8b1724cec63809ea56dddc5a623dc6e897737ae176dd621ac3", func := "abugida/abugidalaw37.EditsParts", spec := "editsParts", inPlace := ["internal/bytealg.IndexByteString", "internal/bytealg.IndexString", "internal/abi.NoEscape", "internal/bytealg.MakeNoZero"], unfollowed := true, recurses := true, named := ["internal/bytealg.MaxLen", "internal/strconv.uint64pow10", "math/bits.deBruijn32tab", "math/bits.deBruijn64tab"], apart := false, laid := [("math/bits.deBruijn32tab", laid_math_bits_deBruijn32tab), ("math/bits.deBruijn64tab", laid_math_bits_deBruijn64tab), ("internal/strconv.uint64pow10", laid_internal_strconv_uint64pow10)] }
def EditsPartsSaid : Prop := editsPartsRow.holds Tryz.pinned (OpenSpec.ofChange editsPartsSpec)

/-- ITS FALSE NEIGHBOUR: 'it returns false'. Refute it at one input. -/
def editsPartsWrong : ChangeSpec := { name := "editsParts", fn := fun _ => fun
  | [d1, d2, d3, d4, d5, d6, d7] => { results := [.lit (.bool false)], args := [d1, d2, d3, d4, d5, d6, d7] }
  | _ => none }
def EditsPartsWrongFalsely : Prop := editsPartsRow.holds Tryz.pinned (OpenSpec.ofChange editsPartsWrong)

/- THE SECOND FORM. 'bulk': how many values and letters a reading holds, each counted each time it is reached (what is shared counts as often as it is met; a slice's spare places count too). A statement '..UptoSaid' is the law's where the arguments, and the package variables that the reading takes, are together of bulk at most 1048576: NARROWER than '..Said'. Prove '..Said' where nothing that the law and all that it calls make is longer than what came in: it says more and counts as full. Else prove '..UptoSaid'. A law counts once. -/
mutual
def uptoBulk {H : Type} : DataW H → Nat
  | .lit (.string bytes) => bytes.length + 1
  | .lit _ => 1
  | .nil => 1
  | .ptr d => uptoBulk d + 1
  | .slice elems spare => uptoBulkAll elems + uptoBulkAll spare + 1
  | .agg parts => uptoBulkAll parts + 1
  | .iface _ d => uptoBulk d + 1
  | .map entries => uptoBulkEntries entries + 1
  | .held _ => 1
def uptoBulkAll {H : Type} : List (DataW H) → Nat
  | [] => 0
  | d :: r => uptoBulk d + uptoBulkAll r
def uptoBulkEntries {H : Type} : List (Lit × DataW H) → Nat
  | [] => 0
  | x :: r => uptoBulkEntry x + uptoBulkEntries r
def uptoBulkEntry {H : Type} : Lit × DataW H → Nat
  | (.string bytes, d) => bytes.length + uptoBulk d + 1
  | (_, d) => uptoBulk d + 1
 end
def uptoSmall : (H : Type) → List (DataW H) → Bool := fun _ ds => decide (uptoBulkAll ds ≤ 1048576)
def OpenSpec.upto (s : _root_.Go.ChangeSpec) : _root_.Go.OpenSpec := { _root_.Go.OpenSpec.ofChange s with cond := some uptoSmall }

/-- 'abugidalaw37.EditsValid', WHERE WHAT IT READS IS OF BULK AT MOST 1048576: true; the input reads as it did. -/
def editsValidUptoRow : OpenClaim := { program := "ytjekapjbigfkbaagreatdoor", sum := "4e8d6f350739cd8b1724cec63809ea56dddc5a623dc6e897737ae176dd621ac3", func := "abugida/abugidalaw37.EditsValid", spec := "editsValid", inPlace := ["internal/bytealg.IndexByteString", "internal/bytealg.IndexString", "internal/abi.NoEscape", "internal/bytealg.MakeNoZero"], unfollowed := true, recurses := true, named := ["internal/bytealg.MaxLen", "internal/strconv.uint64pow10", "math/bits.deBruijn32tab", "math/bits.deBruijn64tab"], apart := false, laid := [("math/bits.deBruijn32tab", laid_math_bits_deBruijn32tab), ("math/bits.deBruijn64tab", laid_math_bits_deBruijn64tab), ("internal/strconv.uint64pow10", laid_internal_strconv_uint64pow10)], narrowed := true }
def EditsValidUptoSaid : Prop := editsValidUptoRow.holds Tryz.pinned (OpenSpec.upto editsValidSpec)

/-- 'abugidalaw37.EditsCost', WHERE WHAT IT READS IS OF BULK AT MOST 1048576: true; the input reads as it did. -/
def editsCostUptoRow : OpenClaim := { program := "ytjekapjbigfkbaagreatdoor", sum := "4e8d6f350739cd8b1724cec63809ea56dddc5a623dc6e897737ae176dd621ac3", func := "abugida/abugidalaw37.EditsCost", spec := "editsCost", inPlace := ["internal/bytealg.IndexByteString", "internal/bytealg.IndexString", "internal/abi.NoEscape", "internal/bytealg.MakeNoZero"], unfollowed := true, recurses := true, named := ["internal/bytealg.MaxLen", "internal/strconv.uint64pow10", "math/bits.deBruijn32tab", "math/bits.deBruijn64tab"], apart := false, laid := [("math/bits.deBruijn32tab", laid_math_bits_deBruijn32tab), ("math/bits.deBruijn64tab", laid_math_bits_deBruijn64tab), ("internal/strconv.uint64pow10", laid_internal_strconv_uint64pow10)], narrowed := true }
def EditsCostUptoSaid : Prop := editsCostUptoRow.holds Tryz.pinned (OpenSpec.upto editsCostSpec)

/-- 'abugidalaw37.EditsCompiles', WHERE WHAT IT READS IS OF BULK AT MOST 1048576: true; the input reads as it did. -/
def editsCompilesUptoRow : OpenClaim := { program := "ytjekapjbigfkbaagreatdoor", sum := "4e8d6f350739cd8b1724cec63809ea56dddc5a623dc6e897737ae176dd621ac3", func := "abugida/abugidalaw37.EditsCompiles", spec := "editsCompiles", inPlace := ["internal/bytealg.IndexByteString", "internal/bytealg.IndexString", "internal/abi.NoEscape", "internal/bytealg.MakeNoZero"], unfollowed := true, recurses := true, named := ["internal/bytealg.MaxLen", "internal/strconv.uint64pow10", "math/bits.deBruijn32tab", "math/bits.deBruijn64tab"], apart := false, laid := [("math/bits.deBruijn32tab", laid_math_bits_deBruijn32tab), ("math/bits.deBruijn64tab", laid_math_bits_deBruijn64tab), ("internal/strconv.uint64pow10", laid_internal_strconv_uint64pow10)], narrowed := true }
def EditsCompilesUptoSaid : Prop := editsCompilesUptoRow.holds Tryz.pinned (OpenSpec.upto editsCompilesSpec)

/-- 'abugidalaw37.EditsSimple', WHERE WHAT IT READS IS OF BULK AT MOST 1048576: true; the input reads as it did. -/
def editsSimpleUptoRow : OpenClaim := { program := "ytjekapjbigfkbaagreatdoor", sum := "4e8d6f350739cd8b1724cec63809ea56dddc5a623dc6e897737ae176dd621ac3", func := "abugida/abugidalaw37.EditsSimple", spec := "editsSimple", inPlace := ["internal/bytealg.IndexByteString", "internal/bytealg.IndexString", "internal/abi.NoEscape", "internal/bytealg.MakeNoZero"], unfollowed := true, recurses := true, named := ["internal/bytealg.MaxLen", "internal/strconv.uint64pow10", "math/bits.deBruijn32tab", "math/bits.deBruijn64tab"], apart := false, laid := [("math/bits.deBruijn32tab", laid_math_bits_deBruijn32tab), ("math/bits.deBruijn64tab", laid_math_bits_deBruijn64tab), ("internal/strconv.uint64pow10", laid_internal_strconv_uint64pow10)], narrowed := true }
def EditsSimpleUptoSaid : Prop := editsSimpleUptoRow.holds Tryz.pinned (OpenSpec.upto editsSimpleSpec)

/-- 'abugidalaw37.EditsBack', WHERE WHAT IT READS IS OF BULK AT MOST 1048576: true; the input reads as it did. -/
def editsBackUptoRow : OpenClaim := { program := "ytjekapjbigfkbaagreatdoor", sum := "4e8d6f350739cd8b1724cec63809ea56dddc5a623dc6e897737ae176dd621ac3", func := "abugida/abugidalaw37.EditsBack", spec := "editsBack", inPlace := ["internal/bytealg.IndexByteString", "internal/bytealg.IndexString", "internal/abi.NoEscape", "internal/bytealg.MakeNoZero"], unfollowed := true, recurses := true, named := ["internal/bytealg.MaxLen", "internal/strconv.uint64pow10", "math/bits.deBruijn32tab", "math/bits.deBruijn64tab"], apart := false, laid := [("math/bits.deBruijn32tab", laid_math_bits_deBruijn32tab), ("math/bits.deBruijn64tab", laid_math_bits_deBruijn64tab), ("internal/strconv.uint64pow10", laid_internal_strconv_uint64pow10)], narrowed := true }
def EditsBackUptoSaid : Prop := editsBackUptoRow.holds Tryz.pinned (OpenSpec.upto editsBackSpec)

/-- 'abugidalaw37.EditsKnown', WHERE WHAT IT READS IS OF BULK AT MOST 1048576: true; the input reads as it did. -/
def editsKnownUptoRow : OpenClaim := { program := "ytjekapjbigfkbaagreatdoor", sum := "4e8d6f350739cd8b1724cec63809ea56dddc5a623dc6e897737ae176dd621ac3", func := "abugida/abugidalaw37.EditsKnown", spec := "editsKnown", inPlace := ["internal/bytealg.IndexByteString", "internal/bytealg.IndexString", "internal/abi.NoEscape", "internal/bytealg.MakeNoZero"], unfollowed := true, recurses := true, named := ["internal/bytealg.MaxLen", "internal/strconv.uint64pow10", "math/bits.deBruijn32tab", "math/bits.deBruijn64tab"], apart := false, laid := [("math/bits.deBruijn32tab", laid_math_bits_deBruijn32tab), ("math/bits.deBruijn64tab", laid_math_bits_deBruijn64tab), ("internal/strconv.uint64pow10", laid_internal_strconv_uint64pow10)], narrowed := true }
def EditsKnownUptoSaid : Prop := editsKnownUptoRow.holds Tryz.pinned (OpenSpec.upto editsKnownSpec)

/-- 'abugidalaw37.EditsApplied', WHERE WHAT IT READS IS OF BULK AT MOST 1048576: true; the input reads as it did. -/
def editsAppliedUptoRow : OpenClaim := { program := "ytjekapjbigfkbaagreatdoor", sum := "4e8d6f350739cd8b1724cec63809ea56dddc5a623dc6e897737ae176dd621ac3", func := "abugida/abugidalaw37.EditsApplied", spec := "editsApplied", inPlace := ["internal/bytealg.IndexByteString", "internal/bytealg.IndexString", "internal/abi.NoEscape", "internal/bytealg.MakeNoZero"], unfollowed := true, recurses := true, named := ["internal/bytealg.MaxLen", "internal/strconv.uint64pow10", "math/bits.deBruijn32tab", "math/bits.deBruijn64tab"], apart := false, laid := [("math/bits.deBruijn32tab", laid_math_bits_deBruijn32tab), ("math/bits.deBruijn64tab", laid_math_bits_deBruijn64tab), ("internal/strconv.uint64pow10", laid_internal_strconv_uint64pow10)], narrowed := true }
def EditsAppliedUptoSaid : Prop := editsAppliedUptoRow.holds Tryz.pinned (OpenSpec.upto editsAppliedSpec)

/-- 'abugidalaw37.EditsMost', WHERE WHAT IT READS IS OF BULK AT MOST 1048576: true; the input reads as it did. -/
def editsMostUptoRow : OpenClaim := { program := "ytjekapjbigfkbaagreatdoor", sum := "4e8d6f350739cd8b1724cec63809ea56dddc5a623dc6e897737ae176dd621ac3", func := "abugida/abugidalaw37.EditsMost", spec := "editsMost", inPlace := ["internal/bytealg.IndexByteString", "internal/bytealg.IndexString", "internal/abi.NoEscape", "internal/bytealg.MakeNoZero"], unfollowed := true, recurses := true, named := ["internal/bytealg.MaxLen", "internal/strconv.uint64pow10", "math/bits.deBruijn32tab", "math/bits.deBruijn64tab"], apart := false, laid := [("math/bits.deBruijn32tab", laid_math_bits_deBruijn32tab), ("math/bits.deBruijn64tab", laid_math_bits_deBruijn64tab), ("internal/strconv.uint64pow10", laid_internal_strconv_uint64pow10)], narrowed := true }
def EditsMostUptoSaid : Prop := editsMostUptoRow.holds Tryz.pinned (OpenSpec.upto editsMostSpec)

/-- 'abugidalaw37.EditsParts', WHERE WHAT IT READS IS OF BULK AT MOST 1048576: true; the input reads as it did. -/
def editsPartsUptoRow : OpenClaim := { program := "ytjekapjbigfkbaagreatdoor", sum := "4e8d6f350739cd8b1724cec63809ea56dddc5a623dc6e897737ae176dd621ac3", func := "abugida/abugidalaw37.EditsParts", spec := "editsParts", inPlace := ["internal/bytealg.IndexByteString", "internal/bytealg.IndexString", "internal/abi.NoEscape", "internal/bytealg.MakeNoZero"], unfollowed := true, recurses := true, named := ["internal/bytealg.MaxLen", "internal/strconv.uint64pow10", "math/bits.deBruijn32tab", "math/bits.deBruijn64tab"], apart := false, laid := [("math/bits.deBruijn32tab", laid_math_bits_deBruijn32tab), ("math/bits.deBruijn64tab", laid_math_bits_deBruijn64tab), ("internal/strconv.uint64pow10", laid_internal_strconv_uint64pow10)], narrowed := true }
def EditsPartsUptoSaid : Prop := editsPartsUptoRow.holds Tryz.pinned (OpenSpec.upto editsPartsSpec)

end Rows
end Go.Proofs.YtjekapjbigfkbaaGreatDoor
