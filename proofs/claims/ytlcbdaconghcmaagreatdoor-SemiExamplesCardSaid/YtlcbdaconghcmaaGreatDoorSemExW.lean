/- The walk of the statement SemiExamples: it returns true. -/
import Derived.Test.YtlcbdaconghcmaaGreatDoorSemX
namespace Go.Proofs.YtlcbdaconghcmaaGreatDoor
open Go Go.RowKit
set_option maxRecDepth 100000

theorem ex1 : timesF 1 ⟨#[105, 110, 102]⟩ ⟨#[45, 105, 110, 102]⟩ = (⟨#[105, 110, 102]⟩, 0) := times_ex (v := .inf) (u := .low) (x := .inf) (by decide +kernel) (by decide +kernel) (by decide +kernel) (by decide +kernel)
theorem ex2 : timesF 2 ⟨#[48]⟩ ⟨#[105, 110, 102]⟩ = (⟨#[48]⟩, 0) := times_ex (v := (.fin (mkRat (0) 1))) (u := .inf) (x := (.fin (mkRat (0) 1))) (by decide +kernel) (by decide +kernel) (by decide +kernel) (by decide +kernel)
theorem ex3 : starF 1 ⟨#[45, 49]⟩ = (⟨#[45, 105, 110, 102]⟩, 0) := star_ex (v := (.fin (mkRat (-1) 1))) (x := .low) (by decide +kernel) (by decide +kernel) (by decide +kernel)
theorem ex4 : starF 2 ⟨#[49]⟩ = (⟨#[105, 110, 102]⟩, 0) := star_ex (v := (.fin (mkRat (1) 1))) (x := .inf) (by decide +kernel) (by decide +kernel) (by decide +kernel)
theorem ex5 : starF 3 ⟨#[49]⟩ = (⟨#[49]⟩, 0) := star_ex (v := (.fin (mkRat (1) 1))) (x := (.fin (mkRat (1) 1))) (by decide +kernel) (by decide +kernel) (by decide +kernel)
theorem ex6 : overF 1 ⟨#[49]⟩ ⟨#[51]⟩ = (⟨#[45, 50]⟩, 0) := over_ex (v := (.fin (mkRat (1) 1))) (u := (.fin (mkRat (3) 1))) (x := (.fin (mkRat (-2) 1))) (by decide +kernel) (by decide +kernel) (by decide +kernel) (by decide +kernel) (by decide +kernel)
theorem ex7 : overF 3 ⟨#[49]⟩ ⟨#[48]⟩ = (⟨#[]⟩, 1) := overF_n2 (by decide +kernel)
theorem ex8 : plusF 4 ⟨#[48]⟩ ⟨#[48]⟩ = (⟨#[]⟩, 1) := plusF_n1 (validF_no (by omega) _)
theorem ex9 : betterF 3 ⟨#[49]⟩ ⟨#[50]⟩ = 1 := better_ex (v := (.fin (mkRat (1) 1))) (u := (.fin (mkRat (2) 1))) (by decide +kernel) (by decide +kernel) (by decide +kernel)
theorem ex10 : betterF 1 ⟨#[45, 105, 110, 102]⟩ ⟨#[48]⟩ = -1 := better_ex (v := .low) (u := (.fin (mkRat (0) 1))) (by decide +kernel) (by decide +kernel) (by decide +kernel)
theorem ex11 : validF 2 ⟨#[45, 49]⟩ = false := by decide +kernel
theorem ex12 : validF 1 ⟨#[50, 47, 52]⟩ = false := by decide +kernel
theorem ex13 : zeroF 0 = ⟨#[]⟩ := zeroF_no (by omega)
theorem ex14 : oneF 4 = ⟨#[]⟩ := oneF_no (by omega)
set_option maxHeartbeats 4000000 in
theorem semiExamples_any (w : World) (ht : Tab w) : Calls Tryz.prog 5 #[] w (TrueEnd4 w) := by
  have HT := Lib.hid ht; clear ht
  have S1 : ∀ (wx : World), Below w.heap.size w wx → Tab wx := fun wx h => HT.out.below h (Nat.le_refl _)
  have HS := Lib.hid S1; clear S1
  go_enter Tryz.func5, Tryz.ntmps5
  go_wp2_with fail
  have hq1 := semitimes_any 1 ⟨#[105, 110, 102]⟩ ⟨#[45, 105, 110, 102]⟩ w (by decide) (by decide) HT.out
  unfold PairEnd at hq1; rw [ex1] at hq1
  refine hq1.mono ?_
  clear hq1
  rintro e w1 ⟨rfl, hb1⟩
  have HB1 := Lib.hid (hb1); clear hb1
  go_wp2_with fail
  have hq2 := semitimes_any 2 ⟨#[48]⟩ ⟨#[105, 110, 102]⟩ w1 (by decide) (by decide) (HS.out w1 HB1.out)
  unfold PairEnd at hq2; rw [ex2] at hq2
  refine hq2.mono ?_
  clear hq2
  rintro e w2 ⟨rfl, hb2⟩
  have HB2 := Lib.hid (HB1.out.trans (hb2.mono HB1.out.size)); clear hb2
  go_wp2_with fail
  have hq3 := semistar_any 1 ⟨#[45, 49]⟩ w2 (by decide) (HS.out w2 HB2.out)
  unfold PairEnd at hq3; rw [ex3] at hq3
  refine hq3.mono ?_
  clear hq3
  rintro e w3 ⟨rfl, hb3⟩
  have HB3 := Lib.hid (HB2.out.trans (hb3.mono HB2.out.size)); clear hb3
  go_wp2_with fail
  have hq4 := semistar_any 2 ⟨#[49]⟩ w3 (by decide) (HS.out w3 HB3.out)
  unfold PairEnd at hq4; rw [ex4] at hq4
  refine hq4.mono ?_
  clear hq4
  rintro e w4 ⟨rfl, hb4⟩
  have HB4 := Lib.hid (HB3.out.trans (hb4.mono HB3.out.size)); clear hb4
  go_wp2_with fail
  have hq5 := semistar_any 3 ⟨#[49]⟩ w4 (by decide) (HS.out w4 HB4.out)
  unfold PairEnd at hq5; rw [ex5] at hq5
  refine hq5.mono ?_
  clear hq5
  rintro e w5 ⟨rfl, hb5⟩
  have HB5 := Lib.hid (HB4.out.trans (hb5.mono HB4.out.size)); clear hb5
  go_wp2_with fail
  have hq6 := semiover_any 1 ⟨#[49]⟩ ⟨#[51]⟩ w5 (by decide) (by decide) (HS.out w5 HB5.out)
  unfold PairEnd at hq6; rw [ex6] at hq6
  refine hq6.mono ?_
  clear hq6
  rintro e w6 ⟨rfl, hb6⟩
  have HB6 := Lib.hid (HB5.out.trans (hb6.mono HB5.out.size)); clear hb6
  go_wp2_with fail
  have hq7 := semiover_any 3 ⟨#[49]⟩ ⟨#[48]⟩ w6 (by decide) (by decide) (HS.out w6 HB6.out)
  unfold PairEnd at hq7; rw [ex7] at hq7
  refine hq7.mono ?_
  clear hq7
  rintro e w7 ⟨rfl, hb7⟩
  have HB7 := Lib.hid (HB6.out.trans (hb7.mono HB6.out.size)); clear hb7
  go_wp2_with fail
  have hq8 := semiplus_any 4 ⟨#[48]⟩ ⟨#[48]⟩ w7 (by decide) (by decide) (HS.out w7 HB7.out)
  unfold PairEnd at hq8; rw [ex8] at hq8
  refine hq8.mono ?_
  clear hq8
  rintro e w8 ⟨rfl, hb8⟩
  have HB8 := Lib.hid (HB7.out.trans (hb8.mono HB7.out.size)); clear hb8
  go_wp2_with fail
  refine (is_ok _ _).mono ?_
  rintro e wi ⟨rfl, rfl⟩
  go_wp2_with fail
  refine (is_ok _ _).mono ?_
  rintro e wi ⟨rfl, rfl⟩
  go_wp2_with fail
  refine (is_ok _ _).mono ?_
  rintro e wi ⟨rfl, rfl⟩
  go_wp2_with fail
  refine (is_ok _ _).mono ?_
  rintro e wi ⟨rfl, rfl⟩
  go_wp2_with fail
  refine (is_ok _ _).mono ?_
  rintro e wi ⟨rfl, rfl⟩
  go_wp2_with fail
  refine (is_ok _ _).mono ?_
  rintro e wi ⟨rfl, rfl⟩
  go_wp2_with fail
  have hq9 := semibetter_any 3 ⟨#[49]⟩ ⟨#[50]⟩ w8 (by decide) (by decide) (HS.out w8 HB8.out)
  unfold IntEnd at hq9; rw [ex9] at hq9
  refine hq9.mono ?_
  clear hq9
  rintro e w9 ⟨rfl, hb9⟩
  have HB9 := Lib.hid (HB8.out.trans (hb9.mono HB8.out.size)); clear hb9
  go_wp2_with fail
  have hq10 := semibetter_any 1 ⟨#[45, 105, 110, 102]⟩ ⟨#[48]⟩ w9 (by decide) (by decide) (HS.out w9 HB9.out)
  unfold IntEnd at hq10; rw [ex10] at hq10
  refine hq10.mono ?_
  clear hq10
  rintro e w10 ⟨rfl, hb10⟩
  have HB10 := Lib.hid (HB9.out.trans (hb10.mono HB9.out.size)); clear hb10
  go_wp2_with fail
  have hq11 := semivalid_any 2 ⟨#[45, 49]⟩ w10 (by decide) (HS.out w10 HB10.out)
  unfold BoolE at hq11; rw [ex11] at hq11
  refine hq11.mono ?_
  clear hq11
  rintro e w11 ⟨rfl, hb11⟩
  have HB11 := Lib.hid (HB10.out.trans (hb11.mono HB10.out.size)); clear hb11
  go_wp2_with fail
  have hq12 := semivalid_any 1 ⟨#[50, 47, 52]⟩ w11 (by decide) (HS.out w11 HB11.out)
  unfold BoolE at hq12; rw [ex12] at hq12
  refine hq12.mono ?_
  clear hq12
  rintro e w12 ⟨rfl, hb12⟩
  have HB12 := Lib.hid (HB11.out.trans (hb12.mono HB11.out.size)); clear hb12
  go_wp2_with fail
  have hq13 := semizero_any 0 w12
  unfold StrE at hq13; rw [ex13] at hq13
  refine hq13.mono ?_
  clear hq13
  rintro e w13 ⟨rfl, hb13⟩
  have HB13 := Lib.hid (HB12.out.trans (hb13.mono HB12.out.size)); clear hb13
  go_wp2_with fail
  have hq14 := semione_any 4 w13
  unfold StrE at hq14; rw [ex14] at hq14
  refine hq14.mono ?_
  clear hq14
  rintro e w14 ⟨rfl, hb14⟩
  have HB14 := Lib.hid (HB13.out.trans (hb14.mono HB13.out.size)); clear hb14
  go_wp2_with fail
  have hq15 := awake_any w14 (HS.out w14 HB14.out)
  refine hq15.mono ?_
  clear hq15
  rintro e w15 ⟨rfl, hb15⟩
  have HB15 := Lib.hid (HB14.out.trans (hb15.mono HB14.out.size)); clear hb15
  go_wp2_with fail
  go_ret
  exact ⟨rfl, HB15.out⟩
end Go.Proofs.YtlcbdaconghcmaaGreatDoor
