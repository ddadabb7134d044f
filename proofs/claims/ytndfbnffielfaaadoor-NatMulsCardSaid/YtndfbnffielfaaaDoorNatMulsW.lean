/- The walk of the statement NatMuls: it returns true for all strings. -/
import Derived.Test.YtndfbnffielfaaaDoorRMul
import Derived.Test.YtndfbnffielfaaaDoorNatAddsW
namespace Go.Proofs.YtndfbnffielfaaaDoor
open Go Go.RowKit

set_option maxRecDepth 100000 in
set_option maxHeartbeats 2000000 in
theorem natMuls1 (a b : ByteArray) (w : World) (h1 : 1100 < a.size) (ht : Tab w) :
    Calls Tryd.prog 4 #[.string a, .string b] w (TrueEnd w) := by
  have HT := Lib.hid ht; clear ht
  have S1 : ∀ (wx : World), Below w.heap.size w wx → Tab wx := fun wx h => HT.out.below h (Nat.le_refl _)
  have HS := Lib.hid S1; clear S1
  have H1 := Lib.hid h1; clear h1
  go_enter Tryd.func4, Tryd.ntmps4
  go_wp2_with fail
  refine (long_true a w H1.out).mono ?_
  rintro e w0 ⟨rfl, rfl⟩
  go_wp2_with fail
  have hq1 := example_any w HT.out
  refine hq1.mono ?_
  clear hq1
  rintro e w1 ⟨rfl, hb1⟩
  have HB1 := Lib.hid (hb1); clear hb1
  go_wp2_with fail
  go_ret
  exact ⟨rfl, HB1.out⟩
set_option maxRecDepth 100000 in
set_option maxHeartbeats 2000000 in
theorem natMuls2 (a b : ByteArray) (w : World) (h1 : a.size ≤ 1100) (h2 : 1100 < b.size) (ht : Tab w) :
    Calls Tryd.prog 4 #[.string a, .string b] w (TrueEnd w) := by
  have HT := Lib.hid ht; clear ht
  have S1 : ∀ (wx : World), Below w.heap.size w wx → Tab wx := fun wx h => HT.out.below h (Nat.le_refl _)
  have HS := Lib.hid S1; clear S1
  have H1 := Lib.hid h1; clear h1
  have H2 := Lib.hid h2; clear h2
  go_enter Tryd.func4, Tryd.ntmps4
  go_wp2_with fail
  refine (long_false a w H1.out).mono ?_
  rintro e w0 ⟨rfl, rfl⟩
  go_wp2_with fail
  refine (long_true b w H2.out).mono ?_
  rintro e w0 ⟨rfl, rfl⟩
  go_wp2_with fail
  have hq1 := example_any w HT.out
  refine hq1.mono ?_
  clear hq1
  rintro e w1 ⟨rfl, hb1⟩
  have HB1 := Lib.hid (hb1); clear hb1
  go_wp2_with fail
  go_ret
  exact ⟨rfl, HB1.out⟩
set_option maxRecDepth 100000 in
set_option maxHeartbeats 2000000 in
theorem natMuls3 (a b : ByteArray) (w : World) (ha : a.size ≤ maxLen) (hb : b.size ≤ maxLen) (h1 : a.size ≤ 1100) (h2 : b.size ≤ 1100) (ht : Tab w) :
    Calls Tryd.prog 4 #[.string a, .string b] w (TrueEnd w) := by
  have HT := Lib.hid ht; clear ht
  have S1 : ∀ (wx : World), Below w.heap.size w wx → Tab wx := fun wx h => HT.out.below h (Nat.le_refl _)
  have HS := Lib.hid S1; clear S1
  have HA := Lib.hid ha; clear ha
  have HBb := Lib.hid hb; clear hb
  have H1 := Lib.hid h1; clear h1
  have H2 := Lib.hid h2; clear h2
  obtain ⟨⟨s, e1⟩, hs⟩ : ∃ r, r = mulF a b := ⟨_, rfl⟩
  have HSA := Lib.hid hs; clear hs
  go_enter Tryd.func4, Tryd.ntmps4
  go_wp2_with fail
  refine (long_false a w H1.out).mono ?_
  rintro e w0 ⟨rfl, rfl⟩
  go_wp2_with fail
  refine (long_false b w H2.out).mono ?_
  rintro e w0 ⟨rfl, rfl⟩
  go_wp2_with fail
  have hq1 := mul_any a b w HA.out HBb.out HT.out
  unfold PairEnd at hq1
  rw [← HSA.out] at hq1
  refine hq1.mono ?_
  clear hq1
  rintro e w1 ⟨rfl, hb1⟩
  have HB1 := Lib.hid (hb1); clear hb1
  go_wp2_with fail
  have hq2 := rmul_any a b w1 HA.out HBb.out
  unfold PairEnd at hq2
  rw [← HSA.out] at hq2
  refine hq2.mono ?_
  clear hq2
  rintro e w2 ⟨rfl, hb2⟩
  have HB2 := Lib.hid (HB1.out.trans (hb2.mono HB1.out.size)); clear hb2
  go_wp2_with fail
  have hq3 := example_any w2 (HS.out w2 HB2.out)
  refine hq3.mono ?_
  clear hq3
  rintro e w3 ⟨rfl, hb3⟩
  have HB3 := Lib.hid (HB2.out.trans (hb3.mono HB2.out.size)); clear hb3
  go_wp2_with fail
  go_ret
  exact ⟨rfl, HB3.out⟩
theorem natMuls_any (a b : ByteArray) (w : World) (ha : a.size ≤ maxLen) (hb : b.size ≤ maxLen) (ht : Tab w) :
    Calls Tryd.prog 4 #[.string a, .string b] w (TrueEnd w) := by
  by_cases h1 : 1100 < a.size
  · exact natMuls1 a b w h1 ht
  · by_cases h2 : 1100 < b.size
    · exact natMuls2 a b w (by omega) h2 ht
    · exact natMuls3 a b w ha hb (by omega) (by omega) ht
end Go.Proofs.YtndfbnffielfaaaDoor
