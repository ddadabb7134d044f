/- The walk of the statement SemiDivides: it returns true for all inputs. -/
import Derived.Test.YtlcbdaconghcmaaGreatDoorSemY
namespace Go.Proofs.YtlcbdaconghcmaaGreatDoor
open Go Go.RowKit
set_option maxRecDepth 100000

set_option maxHeartbeats 4000000 in
theorem semiDivides1 (k : Int) (a b : ByteArray) (w : World) (ht : Tab w) (h1 : 100 < a.size) : Calls Tryz.prog 4 #[.int .i64 k, .string a, .string b] w (TrueEnd4 w) := by
  have HT := Lib.hid ht; clear ht
  have S1 : ∀ (wx : World), Below w.heap.size w wx → Tab wx := fun wx h => HT.out.below h (Nat.le_refl _)
  have HS := Lib.hid S1; clear S1
  have g1 : (100 : Int) < (a.size : Int) := by omega
  clear h1
  go_enter Tryz.func4, Tryz.ntmps4
  go_wp2_with fail
  have hq1 := awake_any w HT.out
  refine hq1.mono ?_
  clear hq1
  rintro e w1 ⟨rfl, hb1⟩
  have HB1 := Lib.hid (hb1); clear hb1
  go_wp2_with fail
  go_ret
  exact ⟨rfl, HB1.out⟩
set_option maxHeartbeats 4000000 in
theorem semiDivides2 (k : Int) (a b : ByteArray) (w : World) (ht : Tab w) (h1 : a.size ≤ 100) (h2 : 100 < b.size) : Calls Tryz.prog 4 #[.int .i64 k, .string a, .string b] w (TrueEnd4 w) := by
  have HT := Lib.hid ht; clear ht
  have S1 : ∀ (wx : World), Below w.heap.size w wx → Tab wx := fun wx h => HT.out.below h (Nat.le_refl _)
  have HS := Lib.hid S1; clear S1
  have g1 : (a.size : Int) ≤ 100 := by omega
  have za := Lib.hid (show a.size ≤ 100000 by omega)
  have H1 := Lib.hid h1; clear h1
  have g2 : (100 : Int) < (b.size : Int) := by omega
  clear h2
  go_enter Tryz.func4, Tryz.ntmps4
  go_wp2_with fail
  have hq1 := awake_any w HT.out
  refine hq1.mono ?_
  clear hq1
  rintro e w1 ⟨rfl, hb1⟩
  have HB1 := Lib.hid (hb1); clear hb1
  go_wp2_with fail
  go_ret
  exact ⟨rfl, HB1.out⟩
set_option maxHeartbeats 4000000 in
theorem semiDivides3 (k : Int) (a b : ByteArray) (w : World) (ht : Tab w) (h1 : a.size ≤ 100) (h2 : b.size ≤ 100) (h3 : weightF k b = false) : Calls Tryz.prog 4 #[.int .i64 k, .string a, .string b] w (TrueEnd4 w) := by
  have HT := Lib.hid ht; clear ht
  have S1 : ∀ (wx : World), Below w.heap.size w wx → Tab wx := fun wx h => HT.out.below h (Nat.le_refl _)
  have HS := Lib.hid S1; clear S1
  have g1 : (a.size : Int) ≤ 100 := by omega
  have za := Lib.hid (show a.size ≤ 100000 by omega)
  have H1 := Lib.hid h1; clear h1
  have g2 : (b.size : Int) ≤ 100 := by omega
  have zb := Lib.hid (show b.size ≤ 100000 by omega)
  have H2 := Lib.hid h2; clear h2
  have H3 := Lib.hid h3; clear h3
  go_enter Tryz.func4, Tryz.ntmps4
  go_wp2_with fail
  have hq1 := semiweight_any k b w zb.out HT.out
  unfold BoolE at hq1
  rw [H3.out] at hq1
  refine hq1.mono ?_
  clear hq1
  rintro e w1 ⟨rfl, hb1⟩
  have HB1 := Lib.hid (hb1); clear hb1
  go_wp2_with fail
  have hq2 := awake_any w1 (HS.out w1 HB1.out)
  refine hq2.mono ?_
  clear hq2
  rintro e w2 ⟨rfl, hb2⟩
  have HB2 := Lib.hid (HB1.out.trans (hb2.mono HB1.out.size)); clear hb2
  go_wp2_with fail
  go_ret
  exact ⟨rfl, HB2.out⟩
set_option maxHeartbeats 4000000 in
theorem semiDivides4 (k : Int) (a b : ByteArray) (w : World) (ht : Tab w) (h1 : a.size ≤ 100) (h2 : b.size ≤ 100) (h3 : weightF k b = true) (h4 : a ≠ zeroF k) (h5 : weightF k a = false) : Calls Tryz.prog 4 #[.int .i64 k, .string a, .string b] w (TrueEnd4 w) := by
  have HT := Lib.hid ht; clear ht
  have S1 : ∀ (wx : World), Below w.heap.size w wx → Tab wx := fun wx h => HT.out.below h (Nat.le_refl _)
  have HS := Lib.hid S1; clear S1
  have g1 : (a.size : Int) ≤ 100 := by omega
  have za := Lib.hid (show a.size ≤ 100000 by omega)
  have H1 := Lib.hid h1; clear h1
  have g2 : (b.size : Int) ≤ 100 := by omega
  have zb := Lib.hid (show b.size ≤ 100000 by omega)
  have H2 := Lib.hid h2; clear h2
  have H3 := Lib.hid h3; clear h3
  have H5 := Lib.hid h5; clear h5
  have az : (a.toList == (zeroF k).toList) = false := by rw [beq_eq_false_iff_ne]; exact ne_toList h4
  clear h4
  go_enter Tryz.func4, Tryz.ntmps4
  go_wp2_with fail
  have hq1 := semiweight_any k b w zb.out HT.out
  unfold BoolE at hq1
  rw [H3.out] at hq1
  refine hq1.mono ?_
  clear hq1
  rintro e w1 ⟨rfl, hb1⟩
  have HB1 := Lib.hid (hb1); clear hb1
  go_wp2_with fail
  have hq2 := semizero_any k w1
  unfold StrE at hq2
  refine hq2.mono ?_
  clear hq2
  rintro e w2 ⟨rfl, hb2⟩
  have HB2 := Lib.hid (HB1.out.trans (hb2.mono HB1.out.size)); clear hb2
  go_wp2_with fail
  have hq3 := semiweight_any k a w2 za.out (HS.out w2 HB2.out)
  unfold BoolE at hq3
  rw [H5.out] at hq3
  refine hq3.mono ?_
  clear hq3
  rintro e w3 ⟨rfl, hb3⟩
  have HB3 := Lib.hid (HB2.out.trans (hb3.mono HB2.out.size)); clear hb3
  go_wp2_with fail
  have hq4 := awake_any w3 (HS.out w3 HB3.out)
  refine hq4.mono ?_
  clear hq4
  rintro e w4 ⟨rfl, hb4⟩
  have HB4 := Lib.hid (HB3.out.trans (hb4.mono HB3.out.size)); clear hb4
  go_wp2_with fail
  go_ret
  exact ⟨rfl, HB4.out⟩
set_option maxHeartbeats 4000000 in
theorem semiDivides5 (k : Int) (a b : ByteArray) (w : World) (ht : Tab w) (h1 : a.size ≤ 100) (h2 : b.size ≤ 100) (h3 : weightF k b = true) (h4 : a = zeroF k) : Calls Tryz.prog 4 #[.int .i64 k, .string a, .string b] w (TrueEnd4 w) := by
  have HT := Lib.hid ht; clear ht
  have S1 : ∀ (wx : World), Below w.heap.size w wx → Tab wx := fun wx h => HT.out.below h (Nat.le_refl _)
  have HS := Lib.hid S1; clear S1
  obtain ⟨c, m, e1, e2, e3, e4⟩ := divides_hold h3 (.inl h4) h1 h2
  have z1 := Lib.hid (sz_of (overF_size k a b) e1)
  have z2 := Lib.hid (sz_of (timesF_size k b a) e3)
  have E1 := Lib.hid e1; clear e1
  have E2 := Lib.hid e2; clear e2
  have E3 := Lib.hid e3; clear e3
  have E4 := Lib.hid e4; clear e4
  have g1 : (a.size : Int) ≤ 100 := by omega
  have za := Lib.hid (show a.size ≤ 100000 by omega)
  have H1 := Lib.hid h1; clear h1
  have g2 : (b.size : Int) ≤ 100 := by omega
  have zb := Lib.hid (show b.size ≤ 100000 by omega)
  have H2 := Lib.hid h2; clear h2
  have H3 := Lib.hid h3; clear h3
  have az : (a.toList == (zeroF k).toList) = true := by rw [← h4]; simp
  clear h4
  go_enter Tryz.func4, Tryz.ntmps4
  go_wp2_with fail
  have hq1 := semiweight_any k b w zb.out HT.out
  unfold BoolE at hq1
  rw [H3.out] at hq1
  refine hq1.mono ?_
  clear hq1
  rintro e w1 ⟨rfl, hb1⟩
  have HB1 := Lib.hid (hb1); clear hb1
  go_wp2_with fail
  have hq2 := semizero_any k w1
  unfold StrE at hq2
  refine hq2.mono ?_
  clear hq2
  rintro e w2 ⟨rfl, hb2⟩
  have HB2 := Lib.hid (HB1.out.trans (hb2.mono HB1.out.size)); clear hb2
  go_wp2_with fail
  have hq3 := semiover_any k a b w2 za.out zb.out (HS.out w2 HB2.out)
  unfold PairEnd at hq3
  rw [E1.out] at hq3
  refine hq3.mono ?_
  clear hq3
  rintro e w3 ⟨rfl, hb3⟩
  have HB3 := Lib.hid (HB2.out.trans (hb3.mono HB2.out.size)); clear hb3
  go_wp2_with fail
  have hq4 := semitimes_any k b c w3 zb.out z1.out (HS.out w3 HB3.out)
  unfold PairEnd at hq4
  rw [E2.out] at hq4
  refine hq4.mono ?_
  clear hq4
  rintro e w4 ⟨rfl, hb4⟩
  have HB4 := Lib.hid (HB3.out.trans (hb4.mono HB3.out.size)); clear hb4
  go_wp2_with fail
  have hq5 := semitimes_any k b a w4 zb.out za.out (HS.out w4 HB4.out)
  unfold PairEnd at hq5
  rw [E3.out] at hq5
  refine hq5.mono ?_
  clear hq5
  rintro e w5 ⟨rfl, hb5⟩
  have HB5 := Lib.hid (HB4.out.trans (hb5.mono HB4.out.size)); clear hb5
  go_wp2_with fail
  have hq6 := semiover_any k m b w5 z2.out zb.out (HS.out w5 HB5.out)
  unfold PairEnd at hq6
  rw [E4.out] at hq6
  refine hq6.mono ?_
  clear hq6
  rintro e w6 ⟨rfl, hb6⟩
  have HB6 := Lib.hid (HB5.out.trans (hb6.mono HB5.out.size)); clear hb6
  go_wp2_with fail
  have hq7 := awake_any w6 (HS.out w6 HB6.out)
  refine hq7.mono ?_
  clear hq7
  rintro e w7 ⟨rfl, hb7⟩
  have HB7 := Lib.hid (HB6.out.trans (hb7.mono HB6.out.size)); clear hb7
  go_wp2_with fail
  go_ret
  exact ⟨rfl, HB7.out⟩
set_option maxHeartbeats 4000000 in
theorem semiDivides6 (k : Int) (a b : ByteArray) (w : World) (ht : Tab w) (h1 : a.size ≤ 100) (h2 : b.size ≤ 100) (h3 : weightF k b = true) (h4 : a ≠ zeroF k) (h5 : weightF k a = true) : Calls Tryz.prog 4 #[.int .i64 k, .string a, .string b] w (TrueEnd4 w) := by
  have HT := Lib.hid ht; clear ht
  have S1 : ∀ (wx : World), Below w.heap.size w wx → Tab wx := fun wx h => HT.out.below h (Nat.le_refl _)
  have HS := Lib.hid S1; clear S1
  obtain ⟨c, m, e1, e2, e3, e4⟩ := divides_hold h3 (.inr h5) h1 h2
  have z1 := Lib.hid (sz_of (overF_size k a b) e1)
  have z2 := Lib.hid (sz_of (timesF_size k b a) e3)
  have E1 := Lib.hid e1; clear e1
  have E2 := Lib.hid e2; clear e2
  have E3 := Lib.hid e3; clear e3
  have E4 := Lib.hid e4; clear e4
  have g1 : (a.size : Int) ≤ 100 := by omega
  have za := Lib.hid (show a.size ≤ 100000 by omega)
  have H1 := Lib.hid h1; clear h1
  have g2 : (b.size : Int) ≤ 100 := by omega
  have zb := Lib.hid (show b.size ≤ 100000 by omega)
  have H2 := Lib.hid h2; clear h2
  have H3 := Lib.hid h3; clear h3
  have H5 := Lib.hid h5; clear h5
  have az : (a.toList == (zeroF k).toList) = false := by rw [beq_eq_false_iff_ne]; exact ne_toList h4
  clear h4
  go_enter Tryz.func4, Tryz.ntmps4
  go_wp2_with fail
  have hq1 := semiweight_any k b w zb.out HT.out
  unfold BoolE at hq1
  rw [H3.out] at hq1
  refine hq1.mono ?_
  clear hq1
  rintro e w1 ⟨rfl, hb1⟩
  have HB1 := Lib.hid (hb1); clear hb1
  go_wp2_with fail
  have hq2 := semizero_any k w1
  unfold StrE at hq2
  refine hq2.mono ?_
  clear hq2
  rintro e w2 ⟨rfl, hb2⟩
  have HB2 := Lib.hid (HB1.out.trans (hb2.mono HB1.out.size)); clear hb2
  go_wp2_with fail
  have hq3 := semiweight_any k a w2 za.out (HS.out w2 HB2.out)
  unfold BoolE at hq3
  rw [H5.out] at hq3
  refine hq3.mono ?_
  clear hq3
  rintro e w3 ⟨rfl, hb3⟩
  have HB3 := Lib.hid (HB2.out.trans (hb3.mono HB2.out.size)); clear hb3
  go_wp2_with fail
  have hq4 := semiover_any k a b w3 za.out zb.out (HS.out w3 HB3.out)
  unfold PairEnd at hq4
  rw [E1.out] at hq4
  refine hq4.mono ?_
  clear hq4
  rintro e w4 ⟨rfl, hb4⟩
  have HB4 := Lib.hid (HB3.out.trans (hb4.mono HB3.out.size)); clear hb4
  go_wp2_with fail
  have hq5 := semitimes_any k b c w4 zb.out z1.out (HS.out w4 HB4.out)
  unfold PairEnd at hq5
  rw [E2.out] at hq5
  refine hq5.mono ?_
  clear hq5
  rintro e w5 ⟨rfl, hb5⟩
  have HB5 := Lib.hid (HB4.out.trans (hb5.mono HB4.out.size)); clear hb5
  go_wp2_with fail
  have hq6 := semitimes_any k b a w5 zb.out za.out (HS.out w5 HB5.out)
  unfold PairEnd at hq6
  rw [E3.out] at hq6
  refine hq6.mono ?_
  clear hq6
  rintro e w6 ⟨rfl, hb6⟩
  have HB6 := Lib.hid (HB5.out.trans (hb6.mono HB5.out.size)); clear hb6
  go_wp2_with fail
  have hq7 := semiover_any k m b w6 z2.out zb.out (HS.out w6 HB6.out)
  unfold PairEnd at hq7
  rw [E4.out] at hq7
  refine hq7.mono ?_
  clear hq7
  rintro e w7 ⟨rfl, hb7⟩
  have HB7 := Lib.hid (HB6.out.trans (hb7.mono HB6.out.size)); clear hb7
  go_wp2_with fail
  have hq8 := awake_any w7 (HS.out w7 HB7.out)
  refine hq8.mono ?_
  clear hq8
  rintro e w8 ⟨rfl, hb8⟩
  have HB8 := Lib.hid (HB7.out.trans (hb8.mono HB7.out.size)); clear hb8
  go_wp2_with fail
  go_ret
  exact ⟨rfl, HB8.out⟩
theorem semiDivides_any (k : Int) (a b : ByteArray) (w : World) (ht : Tab w) : Calls Tryz.prog 4 #[.int .i64 k, .string a, .string b] w (TrueEnd4 w) := by
  by_cases h1 : 100 < a.size
  · exact semiDivides1 k a b w ht h1
  · by_cases h2 : 100 < b.size
    · exact semiDivides2 k a b w ht (by omega) h2
    · cases h3 : weightF k b with
      | false => exact semiDivides3 k a b w ht (by omega) (by omega) h3
      | true =>
        by_cases h4 : a = zeroF k
        · exact semiDivides5 k a b w ht (by omega) (by omega) h3 h4
        · cases h5 : weightF k a with
          | false => exact semiDivides4 k a b w ht (by omega) (by omega) h3 h4 h5
          | true => exact semiDivides6 k a b w ht (by omega) (by omega) h3 h4 h5
end Go.Proofs.YtlcbdaconghcmaaGreatDoor
