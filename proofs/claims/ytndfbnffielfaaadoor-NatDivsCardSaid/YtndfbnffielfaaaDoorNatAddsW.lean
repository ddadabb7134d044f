/- The walk of the statement NatAdds: it returns true for all strings. -/
import Derived.Test.YtndfbnffielfaaaDoorRAdd
import Derived.Test.YtndfbnffielfaaaDoorLawsL
namespace Go.Proofs.YtndfbnffielfaaaDoor
open Go Go.RowKit

theorem long_true (a : ByteArray) (w : World) (h : 1100 < a.size) : Calls Tryd.prog 12 #[.string a] w fun e w' => e = .returned (.bool true) ∧ w = w' := by
  have hg : (1100 : Int) < (a.size : Int) := by omega
  clear h
  go_enter Tryd.func12, Tryd.ntmps12
  go_wp2_with fail
  go_ret
  exact ⟨ret_bool (by simp <;> omega), rfl⟩
theorem long_false (a : ByteArray) (w : World) (h : a.size ≤ 1100) : Calls Tryd.prog 12 #[.string a] w fun e w' => e = .returned (.bool false) ∧ w = w' := by
  have hg : (a.size : Int) ≤ 1100 := by omega
  clear h
  go_enter Tryd.func12, Tryd.ntmps12
  go_wp2_with fail
  go_ret
  exact ⟨ret_bool (by simp <;> omega), rfl⟩
set_option maxRecDepth 100000 in
set_option maxHeartbeats 2000000 in
theorem natAdds1 (a b : ByteArray) (w : World) (h1 : 1100 < a.size) (ht : Tab w) :
    Calls Tryd.prog 3 #[.string a, .string b] w (TrueEnd w) := by
  have HT := Lib.hid ht; clear ht
  have S1 : ∀ (wx : World), Below w.heap.size w wx → Tab wx := fun wx h => HT.out.below h (Nat.le_refl _)
  have HS := Lib.hid S1; clear S1
  have H1 := Lib.hid h1; clear h1
  go_enter Tryd.func3, Tryd.ntmps3
  go_wp2_with fail
  refine (long_true a w H1.out).mono ?_
  rintro e w0 ⟨rfl, rfl⟩
  go_wp2_with fail
  have hq1 := example_any w HT.out
  refine hq1.mono ?_
  clear hq1
  rintro e w1 ⟨rfl, hb1⟩
  have HB1 := Lib.hid (hb1); clear hb1
  go_wp2_with fail
  go_ret
  exact ⟨rfl, HB1.out⟩
set_option maxRecDepth 100000 in
set_option maxHeartbeats 2000000 in
theorem natAdds2 (a b : ByteArray) (w : World) (h1 : a.size ≤ 1100) (h2 : 1100 < b.size) (ht : Tab w) :
    Calls Tryd.prog 3 #[.string a, .string b] w (TrueEnd w) := by
  have HT := Lib.hid ht; clear ht
  have S1 : ∀ (wx : World), Below w.heap.size w wx → Tab wx := fun wx h => HT.out.below h (Nat.le_refl _)
  have HS := Lib.hid S1; clear S1
  have H1 := Lib.hid h1; clear h1
  have H2 := Lib.hid h2; clear h2
  go_enter Tryd.func3, Tryd.ntmps3
  go_wp2_with fail
  refine (long_false a w H1.out).mono ?_
  rintro e w0 ⟨rfl, rfl⟩
  go_wp2_with fail
  refine (long_true b w H2.out).mono ?_
  rintro e w0 ⟨rfl, rfl⟩
  go_wp2_with fail
  have hq1 := example_any w HT.out
  refine hq1.mono ?_
  clear hq1
  rintro e w1 ⟨rfl, hb1⟩
  have HB1 := Lib.hid (hb1); clear hb1
  go_wp2_with fail
  go_ret
  exact ⟨rfl, HB1.out⟩
set_option maxRecDepth 100000 in
set_option maxHeartbeats 2000000 in
theorem natAdds3 (a b : ByteArray) (w : World) (ha : a.size ≤ maxLen) (hb : b.size ≤ maxLen) (h1 : a.size ≤ 1100) (h2 : b.size ≤ 1100) (ht : Tab w) :
    Calls Tryd.prog 3 #[.string a, .string b] w (TrueEnd w) := by
  have HT := Lib.hid ht; clear ht
  have S1 : ∀ (wx : World), Below w.heap.size w wx → Tab wx := fun wx h => HT.out.below h (Nat.le_refl _)
  have HS := Lib.hid S1; clear S1
  have HA := Lib.hid ha; clear ha
  have HBb := Lib.hid hb; clear hb
  have H1 := Lib.hid h1; clear h1
  have H2 := Lib.hid h2; clear h2
  obtain ⟨⟨s, e1⟩, hs⟩ : ∃ r, r = addF a b := ⟨_, rfl⟩
  obtain ⟨⟨d, e2⟩, hd⟩ : ∃ r, r = subF a b := ⟨_, rfl⟩
  have HSA := Lib.hid hs; clear hs
  have HDA := Lib.hid hd; clear hd
  go_enter Tryd.func3, Tryd.ntmps3
  go_wp2_with fail
  refine (long_false a w H1.out).mono ?_
  rintro e w0 ⟨rfl, rfl⟩
  go_wp2_with fail
  refine (long_false b w H2.out).mono ?_
  rintro e w0 ⟨rfl, rfl⟩
  go_wp2_with fail
  have hq1 := add_any a b w HA.out HBb.out HT.out
  unfold PairEnd at hq1
  rw [← HSA.out] at hq1
  refine hq1.mono ?_
  clear hq1
  rintro e w1 ⟨rfl, hb1⟩
  have HB1 := Lib.hid (hb1); clear hb1
  go_wp2_with fail
  have hq2 := radd_any a b w1 HA.out HBb.out
  unfold PairEnd at hq2
  rw [← HSA.out] at hq2
  refine hq2.mono ?_
  clear hq2
  rintro e w2 ⟨rfl, hb2⟩
  have HB2 := Lib.hid (HB1.out.trans (hb2.mono HB1.out.size)); clear hb2
  go_wp2_with fail
  have hq3 := sub_any a b w2 HA.out HBb.out (HS.out w2 HB2.out)
  unfold PairEnd at hq3
  rw [← HDA.out] at hq3
  refine hq3.mono ?_
  clear hq3
  rintro e w3 ⟨rfl, hb3⟩
  have HB3 := Lib.hid (HB2.out.trans (hb3.mono HB2.out.size)); clear hb3
  go_wp2_with fail
  have hq4 := rsub_any a b w3 HA.out HBb.out
  unfold PairEnd at hq4
  rw [← HDA.out] at hq4
  refine hq4.mono ?_
  clear hq4
  rintro e w4 ⟨rfl, hb4⟩
  have HB4 := Lib.hid (HB3.out.trans (hb4.mono HB3.out.size)); clear hb4
  go_wp2_with fail
  have hq5 := example_any w4 (HS.out w4 HB4.out)
  refine hq5.mono ?_
  clear hq5
  rintro e w5 ⟨rfl, hb5⟩
  have HB5 := Lib.hid (HB4.out.trans (hb5.mono HB4.out.size)); clear hb5
  go_wp2_with fail
  go_ret
  exact ⟨rfl, HB5.out⟩
theorem natAdds_any (a b : ByteArray) (w : World) (ha : a.size ≤ maxLen) (hb : b.size ≤ maxLen) (ht : Tab w) :
    Calls Tryd.prog 3 #[.string a, .string b] w (TrueEnd w) := by
  by_cases h1 : 1100 < a.size
  · exact natAdds1 a b w h1 ht
  · by_cases h2 : 1100 < b.size
    · exact natAdds2 a b w (by omega) h2 ht
    · exact natAdds3 a b w ha hb (by omega) (by omega) ht
end Go.Proofs.YtndfbnffielfaaaDoor
