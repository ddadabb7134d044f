/- The walk of the statement SemiStars: it returns true for all inputs. -/
import Derived.Test.YtlcbdaconghcmaaGreatDoorSemY
namespace Go.Proofs.YtlcbdaconghcmaaGreatDoor
open Go Go.RowKit
set_option maxRecDepth 100000

set_option maxHeartbeats 4000000 in
theorem semiStars1 (k : Int) (a : ByteArray) (w : World) (ht : Tab w) (h1 : 100 < a.size) : Calls Tryz.prog 8 #[.int .i64 k, .string a] w (TrueEnd4 w) := by
  have HT := Lib.hid ht; clear ht
  have S1 : ∀ (wx : World), Below w.heap.size w wx → Tab wx := fun wx h => HT.out.below h (Nat.le_refl _)
  have HS := Lib.hid S1; clear S1
  have g1 : (100 : Int) < (a.size : Int) := by omega
  clear h1
  go_enter Tryz.func8, Tryz.ntmps8
  go_wp2_with fail
  have hq1 := awake_any w HT.out
  refine hq1.mono ?_
  clear hq1
  rintro e w1 ⟨rfl, hb1⟩
  have HB1 := Lib.hid (hb1); clear hb1
  go_wp2_with fail
  go_ret
  exact ⟨rfl, HB1.out⟩
set_option maxHeartbeats 4000000 in
theorem semiStars2 (k : Int) (a : ByteArray) (w : World) (ht : Tab w) (h1 : a.size ≤ 100) (h2 : validF k a = false) : Calls Tryz.prog 8 #[.int .i64 k, .string a] w (TrueEnd4 w) := by
  have HT := Lib.hid ht; clear ht
  have S1 : ∀ (wx : World), Below w.heap.size w wx → Tab wx := fun wx h => HT.out.below h (Nat.le_refl _)
  have HS := Lib.hid S1; clear S1
  have g1 : (a.size : Int) ≤ 100 := by omega
  have H1 := Lib.hid h1; clear h1
  have H2 := Lib.hid h2; clear h2
  go_enter Tryz.func8, Tryz.ntmps8
  go_wp2_with fail
  have hq1 := semivalid_any k a w (by have := H1.out; omega) HT.out
  unfold BoolE at hq1
  rw [H2.out] at hq1
  refine hq1.mono ?_
  clear hq1
  rintro e w1 ⟨rfl, hb1⟩
  have HB1 := Lib.hid (hb1); clear hb1
  go_wp2_with fail
  have hq2 := awake_any w1 (HS.out w1 HB1.out)
  refine hq2.mono ?_
  clear hq2
  rintro e w2 ⟨rfl, hb2⟩
  have HB2 := Lib.hid (HB1.out.trans (hb2.mono HB1.out.size)); clear hb2
  go_wp2_with fail
  go_ret
  exact ⟨rfl, HB2.out⟩
set_option maxHeartbeats 4000000 in
theorem semiStars3 (k : Int) (a : ByteArray) (w : World) (ht : Tab w) (h1 : a.size ≤ 100) (h2 : validF k a = true) : Calls Tryz.prog 8 #[.int .i64 k, .string a] w (TrueEnd4 w) := by
  have HT := Lib.hid ht; clear ht
  have S1 : ∀ (wx : World), Below w.heap.size w wx → Tab wx := fun wx h => HT.out.below h (Nat.le_refl _)
  have HS := Lib.hid S1; clear S1
  have g1 : (a.size : Int) ≤ 100 := by omega
  obtain ⟨s, t, e1, e2, e3⟩ := stars_hold h2 h1
  have z1 := Lib.hid (sz_of (starF_size k a) e1)
  have z2 := Lib.hid (sz_of (timesF_size k a s) e2)
  have za := Lib.hid (show a.size ≤ 100000 by omega)
  have H1 := Lib.hid h1; clear h1
  have H2 := Lib.hid h2; clear h2
  have E1 := Lib.hid e1; clear e1
  have E2 := Lib.hid e2; clear e2
  have E3 := Lib.hid e3; clear e3
  go_enter Tryz.func8, Tryz.ntmps8
  go_wp2_with fail
  have hq1 := semivalid_any k a w za.out HT.out
  unfold BoolE at hq1
  rw [H2.out] at hq1
  refine hq1.mono ?_
  clear hq1
  rintro e w1 ⟨rfl, hb1⟩
  have HB1 := Lib.hid (hb1); clear hb1
  go_wp2_with fail
  have hq2 := semistar_any k a w1 za.out (HS.out w1 HB1.out)
  unfold PairEnd at hq2
  rw [E1.out] at hq2
  refine hq2.mono ?_
  clear hq2
  rintro e w2 ⟨rfl, hb2⟩
  have HB2 := Lib.hid (HB1.out.trans (hb2.mono HB1.out.size)); clear hb2
  go_wp2_with fail
  have hq3 := semitimes_any k a s w2 za.out z1.out (HS.out w2 HB2.out)
  unfold PairEnd at hq3
  rw [E2.out] at hq3
  refine hq3.mono ?_
  clear hq3
  rintro e w3 ⟨rfl, hb3⟩
  have HB3 := Lib.hid (HB2.out.trans (hb3.mono HB2.out.size)); clear hb3
  go_wp2_with fail
  have hq4 := semione_any k w3
  unfold StrE at hq4
  refine hq4.mono ?_
  clear hq4
  rintro e w4 ⟨rfl, hb4⟩
  have HB4 := Lib.hid (HB3.out.trans (hb4.mono HB3.out.size)); clear hb4
  go_wp2_with fail
  have hq5 := semiplus_any k (oneF k) t w4 (oneF_size k) z2.out (HS.out w4 HB4.out)
  unfold PairEnd at hq5
  rw [E3.out] at hq5
  refine hq5.mono ?_
  clear hq5
  rintro e w5 ⟨rfl, hb5⟩
  have HB5 := Lib.hid (HB4.out.trans (hb5.mono HB4.out.size)); clear hb5
  go_wp2_with fail
  have hq6 := awake_any w5 (HS.out w5 HB5.out)
  refine hq6.mono ?_
  clear hq6
  rintro e w6 ⟨rfl, hb6⟩
  have HB6 := Lib.hid (HB5.out.trans (hb6.mono HB5.out.size)); clear hb6
  go_wp2_with fail
  go_ret
  exact ⟨rfl, HB6.out⟩
theorem semiStars_any (k : Int) (a : ByteArray) (w : World) (ht : Tab w) : Calls Tryz.prog 8 #[.int .i64 k, .string a] w (TrueEnd4 w) := by
  by_cases h1 : 100 < a.size
  · exact semiStars1 k a w ht h1
  · cases h2 : validF k a with
    | false => exact semiStars2 k a w ht (by omega) h2
    | true => exact semiStars3 k a w ht (by omega) h2
end Go.Proofs.YtlcbdaconghcmaaGreatDoor
