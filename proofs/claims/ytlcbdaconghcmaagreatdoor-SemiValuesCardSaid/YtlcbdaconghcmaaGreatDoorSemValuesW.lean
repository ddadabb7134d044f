/- The walk of the statement SemiValues: it returns true for all inputs. -/
import Derived.Test.YtlcbdaconghcmaaGreatDoorMR4
import Derived.Test.YtlcbdaconghcmaaGreatDoorSemX
import Derived.LoopN
namespace Go.Proofs.YtlcbdaconghcmaaGreatDoor
open Go Go.RowKit
set_option maxRecDepth 100000

theorem large1_t (a : ByteArray) (g : Nat) (w : World) (h0 : w.cell? ⟨g, 0, none⟩ = some (.string a)) (ha : 810 < a.size) :
    Calls Tryz.prog 10 #[.slice (some ⟨g, 0, none⟩) 1 1] w fun e w' => e = .returned (.bool true) ∧ w = w' := by
  have ga : (810 : Int) < (a.size : Int) := by omega
  clear ha
  go_enter Tryz.func10, Tryz.ntmps10
  go_wp2_with fail
  refine wp_loop_rounds 4 ?_
  rw [rounds_succ]; go_wp2_with fail
  go_ret
  exact ⟨rfl, rfl⟩
theorem large1_f (a : ByteArray) (g : Nat) (w : World) (h0 : w.cell? ⟨g, 0, none⟩ = some (.string a)) (ha : a.size ≤ 810) :
    Calls Tryz.prog 10 #[.slice (some ⟨g, 0, none⟩) 1 1] w fun e w' => e = .returned (.bool false) ∧ w = w' := by
  have ga : (a.size : Int) ≤ 810 := by omega
  clear ha
  go_enter Tryz.func10, Tryz.ntmps10
  go_wp2_with fail
  refine wp_loop_rounds 4 ?_
  rw [rounds_succ]; go_wp2_with fail
  rw [rounds_succ]; go_wp2_with fail
  go_ret
  exact ⟨rfl, rfl⟩
set_option maxHeartbeats 4000000 in
theorem semiValues1 (k : Int) (a : ByteArray) (w : World) (ht : Tab w) (h1 : 810 < a.size) : Calls Tryz.prog 6 #[.int .i64 k, .string a] w (TrueEnd4 w) := by
  have HT := Lib.hid ht; clear ht
  have S1 : ∀ (wx : World), Below w.heap.size w wx → Tab wx := fun wx h => HT.out.below h (Nat.le_refl _)
  have HS := Lib.hid S1; clear S1
  have hb0 : Below w.heap.size w (w.alloc (.cells #[.string a] 9)) := (Below.refl _ _).alloc (Nat.le_refl _) _
  have HB0 := Lib.hid hb0; clear hb0
  have H1 := Lib.hid h1; clear h1
  go_enter Tryz.func6, Tryz.ntmps6
  go_wp2_with fail
  refine (large1_t a w.heap.size _ (by simp [go_sem]) H1.out).mono ?_
  rintro e w' ⟨rfl, rfl⟩
  go_wp2_with fail
  have hq1 := awake_any _ (HS.out _ HB0.out)
  refine hq1.mono ?_
  clear hq1
  rintro e w1 ⟨rfl, hb⟩
  have HB1 := Lib.hid (next_below HB0.out hb); clear hb
  go_wp2_with fail
  go_ret
  exact ⟨rfl, HB1.out⟩
set_option maxHeartbeats 4000000 in
theorem semiValues2 (k : Int) (a : ByteArray) (w : World) (ht : Tab w) (h1 : a.size ≤ 810) : Calls Tryz.prog 6 #[.int .i64 k, .string a] w (TrueEnd4 w) := by
  have HT := Lib.hid ht; clear ht
  have S1 : ∀ (wx : World), Below w.heap.size w wx → Tab wx := fun wx h => HT.out.below h (Nat.le_refl _)
  have HS := Lib.hid S1; clear S1
  have hb0 : Below w.heap.size w (w.alloc (.cells #[.string a] 9)) := (Below.refl _ _).alloc (Nat.le_refl _) _
  have HB0 := Lib.hid hb0; clear hb0
  have za := Lib.hid (show a.size ≤ 100000 by omega)
  have H1 := Lib.hid h1; clear h1
  obtain ⟨x0, hx⟩ : ∃ x, x = validF k a := ⟨_, rfl⟩
  have HX0 := Lib.hid hx; clear hx
  obtain ⟨x1, hx⟩ : ∃ x, x = weightF k a := ⟨_, rfl⟩
  have HX1 := Lib.hid hx; clear hx
  obtain ⟨x2, hx⟩ : ∃ x, x = zeroF k := ⟨_, rfl⟩
  have HX2 := Lib.hid hx; clear hx
  obtain ⟨x3, hx⟩ : ∃ x, x = oneF k := ⟨_, rfl⟩
  have HX3 := Lib.hid hx; clear hx
  go_enter Tryz.func6, Tryz.ntmps6
  go_wp2_with fail
  refine (large1_f a w.heap.size _ (by simp [go_sem]) H1.out).mono ?_
  rintro e w' ⟨rfl, rfl⟩
  go_wp2_with fail
  have hq1 := semivalid_any k a _ za.out (HS.out _ HB0.out)
  unfold BoolE at hq1
  rw [← HX0.out] at hq1
  refine hq1.mono ?_
  clear hq1
  rintro e w1 ⟨rfl, hb⟩
  have HB1 := Lib.hid (next_below HB0.out hb); clear hb
  go_wp2_with fail
  have hq2 := r4valid_any k a w1 za.out
  unfold BoolE at hq2
  rw [← HX0.out] at hq2
  refine hq2.mono ?_
  clear hq2
  rintro e w2 ⟨rfl, hb⟩
  have HB2 := Lib.hid (next_below HB1.out hb); clear hb
  go_wp2_with fail
  have hq3 := semiweight_any k a _ za.out (HS.out _ HB2.out)
  unfold BoolE at hq3
  rw [← HX1.out] at hq3
  refine hq3.mono ?_
  clear hq3
  rintro e w3 ⟨rfl, hb⟩
  have HB3 := Lib.hid (next_below HB2.out hb); clear hb
  go_wp2_with fail
  have hq4 := r4weight_any k a w3 za.out
  unfold BoolE at hq4
  rw [← HX1.out] at hq4
  refine hq4.mono ?_
  clear hq4
  rintro e w4 ⟨rfl, hb⟩
  have HB4 := Lib.hid (next_below HB3.out hb); clear hb
  go_wp2_with fail
  have hq5 := semizero_any k w4
  unfold StrE at hq5
  rw [← HX2.out] at hq5
  refine hq5.mono ?_
  clear hq5
  rintro e w5 ⟨rfl, hb⟩
  have HB5 := Lib.hid (next_below HB4.out hb); clear hb
  go_wp2_with fail
  have hq6 := r4zero_any k w5
  unfold StrE at hq6
  rw [← HX2.out] at hq6
  refine hq6.mono ?_
  clear hq6
  rintro e w6 ⟨rfl, hb⟩
  have HB6 := Lib.hid (next_below HB5.out hb); clear hb
  go_wp2_with fail
  have hq7 := semione_any k w6
  unfold StrE at hq7
  rw [← HX3.out] at hq7
  refine hq7.mono ?_
  clear hq7
  rintro e w7 ⟨rfl, hb⟩
  have HB7 := Lib.hid (next_below HB6.out hb); clear hb
  go_wp2_with fail
  have hq8 := r4one_any k w7
  unfold StrE at hq8
  rw [← HX3.out] at hq8
  refine hq8.mono ?_
  clear hq8
  rintro e w8 ⟨rfl, hb⟩
  have HB8 := Lib.hid (next_below HB7.out hb); clear hb
  go_wp2_with fail
  have hq9 := awake_any _ (HS.out _ HB8.out)
  refine hq9.mono ?_
  clear hq9
  rintro e w9 ⟨rfl, hb⟩
  have HB9 := Lib.hid (next_below HB8.out hb); clear hb
  go_wp2_with fail
  go_ret
  exact ⟨rfl, HB9.out⟩
theorem semiValues_any (k : Int) (a : ByteArray) (w : World) (ht : Tab w) : Calls Tryz.prog 6 #[.int .i64 k, .string a] w (TrueEnd4 w) := by
  by_cases h : 810 < a.size
  · exact semiValues1 k a w ht h
  · exact semiValues2 k a w ht (by omega)
end Go.Proofs.YtlcbdaconghcmaaGreatDoor
