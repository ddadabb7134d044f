/- The walk of the statement SemiComputes: it returns true for all inputs. -/
import Derived.Test.YtlcbdaconghcmaaGreatDoorMR4
import Derived.Test.YtlcbdaconghcmaaGreatDoorSemX
import Derived.LoopN
namespace Go.Proofs.YtlcbdaconghcmaaGreatDoor
open Go Go.RowKit
set_option maxRecDepth 100000

theorem large2_a (a b : ByteArray) (g : Nat) (w : World) (h0 : w.cell? ⟨g, 0, none⟩ = some (.string a)) (_h1 : w.cell? ⟨g, 1, none⟩ = some (.string b)) (ha : 810 < a.size) :
    Calls Tryz.prog 10 #[.slice (some ⟨g, 0, none⟩) 2 2] w fun e w' => e = .returned (.bool true) ∧ w = w' := by
  have ga : (810 : Int) < (a.size : Int) := by omega
  clear ha
  go_enter Tryz.func10, Tryz.ntmps10
  go_wp2_with fail
  refine wp_loop_rounds 4 ?_
  rw [rounds_succ]; go_wp2_with fail
  go_ret
  exact ⟨rfl, rfl⟩
theorem large2_b (a b : ByteArray) (g : Nat) (w : World) (h0 : w.cell? ⟨g, 0, none⟩ = some (.string a)) (h1 : w.cell? ⟨g, 1, none⟩ = some (.string b)) (ha : a.size ≤ 810) (hb : 810 < b.size) :
    Calls Tryz.prog 10 #[.slice (some ⟨g, 0, none⟩) 2 2] w fun e w' => e = .returned (.bool true) ∧ w = w' := by
  have ga : (a.size : Int) ≤ 810 := by omega
  clear ha
  have gb : (810 : Int) < (b.size : Int) := by omega
  clear hb
  go_enter Tryz.func10, Tryz.ntmps10
  go_wp2_with fail
  refine wp_loop_rounds 4 ?_
  rw [rounds_succ]; go_wp2_with fail
  rw [rounds_succ]; go_wp2_with fail
  go_ret
  exact ⟨rfl, rfl⟩
theorem large2_f (a b : ByteArray) (g : Nat) (w : World) (h0 : w.cell? ⟨g, 0, none⟩ = some (.string a)) (h1 : w.cell? ⟨g, 1, none⟩ = some (.string b)) (ha : a.size ≤ 810) (hb : b.size ≤ 810) :
    Calls Tryz.prog 10 #[.slice (some ⟨g, 0, none⟩) 2 2] w fun e w' => e = .returned (.bool false) ∧ w = w' := by
  have ga : (a.size : Int) ≤ 810 := by omega
  clear ha
  have gb : (b.size : Int) ≤ 810 := by omega
  clear hb
  go_enter Tryz.func10, Tryz.ntmps10
  go_wp2_with fail
  refine wp_loop_rounds 4 ?_
  rw [rounds_succ]; go_wp2_with fail
  rw [rounds_succ]; go_wp2_with fail
  rw [rounds_succ]; go_wp2_with fail
  go_ret
  exact ⟨rfl, rfl⟩
set_option maxHeartbeats 4000000 in
theorem semiComputes1 (k : Int) (a b : ByteArray) (w : World) (ht : Tab w) (h1 : 810 < a.size) : Calls Tryz.prog 3 #[.int .i64 k, .string a, .string b] w (TrueEnd4 w) := by
  have HT := Lib.hid ht; clear ht
  have S1 : ∀ (wx : World), Below w.heap.size w wx → Tab wx := fun wx h => HT.out.below h (Nat.le_refl _)
  have HS := Lib.hid S1; clear S1
  have hb0 : Below w.heap.size w (w.alloc (.cells #[.string a, .string b] 9)) := (Below.refl _ _).alloc (Nat.le_refl _) _
  have HB0 := Lib.hid hb0; clear hb0
  have H1 := Lib.hid h1; clear h1
  go_enter Tryz.func3, Tryz.ntmps3
  go_wp2_with fail
  refine (large2_a a b w.heap.size _ (by simp [go_sem]) (by simp [go_sem]) H1.out).mono ?_
  rintro e w' ⟨rfl, rfl⟩
  go_wp2_with fail
  have hq1 := awake_any _ (HS.out _ HB0.out)
  refine hq1.mono ?_
  clear hq1
  rintro e w1 ⟨rfl, hb⟩
  have HB1 := Lib.hid (next_below HB0.out hb); clear hb
  go_wp2_with fail
  go_ret
  exact ⟨rfl, HB1.out⟩
set_option maxHeartbeats 4000000 in
theorem semiComputes2 (k : Int) (a b : ByteArray) (w : World) (ht : Tab w) (h1 : a.size ≤ 810) (h2 : 810 < b.size) : Calls Tryz.prog 3 #[.int .i64 k, .string a, .string b] w (TrueEnd4 w) := by
  have HT := Lib.hid ht; clear ht
  have S1 : ∀ (wx : World), Below w.heap.size w wx → Tab wx := fun wx h => HT.out.below h (Nat.le_refl _)
  have HS := Lib.hid S1; clear S1
  have hb0 : Below w.heap.size w (w.alloc (.cells #[.string a, .string b] 9)) := (Below.refl _ _).alloc (Nat.le_refl _) _
  have HB0 := Lib.hid hb0; clear hb0
  have H1 := Lib.hid h1; clear h1
  have H2 := Lib.hid h2; clear h2
  go_enter Tryz.func3, Tryz.ntmps3
  go_wp2_with fail
  refine (large2_b a b w.heap.size _ (by simp [go_sem]) (by simp [go_sem]) H1.out H2.out).mono ?_
  rintro e w' ⟨rfl, rfl⟩
  go_wp2_with fail
  have hq1 := awake_any _ (HS.out _ HB0.out)
  refine hq1.mono ?_
  clear hq1
  rintro e w1 ⟨rfl, hb⟩
  have HB1 := Lib.hid (next_below HB0.out hb); clear hb
  go_wp2_with fail
  go_ret
  exact ⟨rfl, HB1.out⟩
set_option maxHeartbeats 4000000 in
theorem semiComputes3 (k : Int) (a b : ByteArray) (w : World) (ht : Tab w) (h1 : a.size ≤ 810) (h2 : b.size ≤ 810) : Calls Tryz.prog 3 #[.int .i64 k, .string a, .string b] w (TrueEnd4 w) := by
  have HT := Lib.hid ht; clear ht
  have S1 : ∀ (wx : World), Below w.heap.size w wx → Tab wx := fun wx h => HT.out.below h (Nat.le_refl _)
  have HS := Lib.hid S1; clear S1
  have hb0 : Below w.heap.size w (w.alloc (.cells #[.string a, .string b] 9)) := (Below.refl _ _).alloc (Nat.le_refl _) _
  have HB0 := Lib.hid hb0; clear hb0
  have za := Lib.hid (show a.size ≤ 100000 by omega)
  have zb := Lib.hid (show b.size ≤ 100000 by omega)
  have H1 := Lib.hid h1; clear h1
  have H2 := Lib.hid h2; clear h2
  obtain ⟨⟨s0, n0⟩, hx⟩ : ∃ x, x = plusF k a b := ⟨_, rfl⟩
  have HX0 := Lib.hid hx; clear hx
  obtain ⟨⟨s1, n1⟩, hx⟩ : ∃ x, x = timesF k a b := ⟨_, rfl⟩
  have HX1 := Lib.hid hx; clear hx
  obtain ⟨⟨s2, n2⟩, hx⟩ : ∃ x, x = starF k a := ⟨_, rfl⟩
  have HX2 := Lib.hid hx; clear hx
  obtain ⟨⟨s3, n3⟩, hx⟩ : ∃ x, x = overF k a b := ⟨_, rfl⟩
  have HX3 := Lib.hid hx; clear hx
  obtain ⟨z, hx⟩ : ∃ x, x = betterF k a b := ⟨_, rfl⟩
  have HX4 := Lib.hid hx; clear hx
  go_enter Tryz.func3, Tryz.ntmps3
  go_wp2_with fail
  refine (large2_f a b w.heap.size _ (by simp [go_sem]) (by simp [go_sem]) H1.out H2.out).mono ?_
  rintro e w' ⟨rfl, rfl⟩
  go_wp2_with fail
  have hq1 := semiplus_any k a b _ za.out zb.out (HS.out _ HB0.out)
  unfold PairEnd at hq1
  rw [← HX0.out] at hq1
  refine hq1.mono ?_
  clear hq1
  rintro e w1 ⟨rfl, hb⟩
  have HB1 := Lib.hid (next_below HB0.out hb); clear hb
  go_wp2_with fail
  have hq2 := r4plus_any k a b w1 za.out zb.out
  unfold PairEnd at hq2
  rw [← HX0.out] at hq2
  refine hq2.mono ?_
  clear hq2
  rintro e w2 ⟨rfl, hb⟩
  have HB2 := Lib.hid (next_below HB1.out hb); clear hb
  go_wp2_with fail
  have hq3 := semitimes_any k a b _ za.out zb.out (HS.out _ HB2.out)
  unfold PairEnd at hq3
  rw [← HX1.out] at hq3
  refine hq3.mono ?_
  clear hq3
  rintro e w3 ⟨rfl, hb⟩
  have HB3 := Lib.hid (next_below HB2.out hb); clear hb
  go_wp2_with fail
  have hq4 := r4times_any k a b w3 za.out zb.out
  unfold PairEnd at hq4
  rw [← HX1.out] at hq4
  refine hq4.mono ?_
  clear hq4
  rintro e w4 ⟨rfl, hb⟩
  have HB4 := Lib.hid (next_below HB3.out hb); clear hb
  go_wp2_with fail
  have hq5 := semistar_any k a _ za.out (HS.out _ HB4.out)
  unfold PairEnd at hq5
  rw [← HX2.out] at hq5
  refine hq5.mono ?_
  clear hq5
  rintro e w5 ⟨rfl, hb⟩
  have HB5 := Lib.hid (next_below HB4.out hb); clear hb
  go_wp2_with fail
  have hq6 := r4star_any k a w5 za.out
  unfold PairEnd at hq6
  rw [← HX2.out] at hq6
  refine hq6.mono ?_
  clear hq6
  rintro e w6 ⟨rfl, hb⟩
  have HB6 := Lib.hid (next_below HB5.out hb); clear hb
  go_wp2_with fail
  have hq7 := semiover_any k a b _ za.out zb.out (HS.out _ HB6.out)
  unfold PairEnd at hq7
  rw [← HX3.out] at hq7
  refine hq7.mono ?_
  clear hq7
  rintro e w7 ⟨rfl, hb⟩
  have HB7 := Lib.hid (next_below HB6.out hb); clear hb
  go_wp2_with fail
  have hq8 := r4over_any k a b w7 za.out zb.out
  unfold PairEnd at hq8
  rw [← HX3.out] at hq8
  refine hq8.mono ?_
  clear hq8
  rintro e w8 ⟨rfl, hb⟩
  have HB8 := Lib.hid (next_below HB7.out hb); clear hb
  go_wp2_with fail
  have hq9 := semibetter_any k a b _ za.out zb.out (HS.out _ HB8.out)
  unfold IntEnd at hq9
  rw [← HX4.out] at hq9
  refine hq9.mono ?_
  clear hq9
  rintro e w9 ⟨rfl, hb⟩
  have HB9 := Lib.hid (next_below HB8.out hb); clear hb
  go_wp2_with fail
  have hq10 := r4better_any k a b w9 za.out zb.out
  unfold IntEnd at hq10
  rw [← HX4.out] at hq10
  refine hq10.mono ?_
  clear hq10
  rintro e w10 ⟨rfl, hb⟩
  have HB10 := Lib.hid (next_below HB9.out hb); clear hb
  go_wp2_with fail
  have hq11 := awake_any _ (HS.out _ HB10.out)
  refine hq11.mono ?_
  clear hq11
  rintro e w11 ⟨rfl, hb⟩
  have HB11 := Lib.hid (next_below HB10.out hb); clear hb
  go_wp2_with fail
  go_ret
  exact ⟨rfl, HB11.out⟩
theorem semiComputes_any (k : Int) (a b : ByteArray) (w : World) (ht : Tab w) : Calls Tryz.prog 3 #[.int .i64 k, .string a, .string b] w (TrueEnd4 w) := by
  by_cases h1 : 810 < a.size
  · exact semiComputes1 k a b w ht h1
  · by_cases h2 : 810 < b.size
    · exact semiComputes2 k a b w ht (by omega) h2
    · exact semiComputes3 k a b w ht (by omega) (by omega)
end Go.Proofs.YtlcbdaconghcmaaGreatDoor
