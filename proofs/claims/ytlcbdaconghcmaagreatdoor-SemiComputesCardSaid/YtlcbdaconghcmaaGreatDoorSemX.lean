/- The examples of chapter 04, which every statement holds: awake() returns true. -/
import Derived.Test.YtlcbdaconghcmaaGreatDoorSemH
import Derived.Test.YtlcbdaconghcmaaGreatDoorSemG
namespace Go.Proofs.YtlcbdaconghcmaaGreatDoor
open Go Go.RowKit
set_option maxRecDepth 100000

def TrueEnd4 (w : World) (e : Ending) (w' : World) : Prop := e = .returned (.bool true) ∧ Below w.heap.size w w'
theorem lim_of {v : V} {s : ByteArray} (h : rdV s = some v) : limV v = (s, 0) := by
  obtain ⟨e, f⟩ := rdV_some h; rw [limV_fit f, ← e]
theorem plus_ex {k : Int} {a b s : ByteArray} {v u x : V} (ha : vprs k a = some v) (hb : vprs k b = some u) (h : plusV k v u = x) (hs : rdV s = some x) : plusF k a b = (s, 0) := by
  unfold plusF; rw [ha, hb, ← lim_of hs, ← h]
theorem times_ex {k : Int} {a b s : ByteArray} {v u x : V} (ha : vprs k a = some v) (hb : vprs k b = some u) (h : timesV k v u = x) (hs : rdV s = some x) : timesF k a b = (s, 0) := by
  unfold timesF; rw [ha, hb, ← lim_of hs, ← h]
theorem star_ex {k : Int} {a s : ByteArray} {v x : V} (ha : vprs k a = some v) (h : starV k v = x) (hs : rdV s = some x) : starF k a = (s, 0) := by
  unfold starF; rw [ha, ← lim_of hs, ← h]
theorem over_ex {k : Int} {a b s : ByteArray} {v u x : V} (ha : rdV a = some v) (hb : rdV b = some u) (ho : overOk k v u) (h : overV k v u = x) (hs : rdV s = some x) : overF k a b = (s, 0) := by
  unfold overF; rw [ha, hb, ← lim_of hs, ← h]; simp only; rw [if_pos ho]
theorem better_ex {k : Int} {a b : ByteArray} {v u : V} {z : Int} (ha : vprs k a = some v) (hb : vprs k b = some u) (h : betterV k v u = z) : betterF k a b = z := by
  unfold betterF; rw [ha, hb, ← h]
theorem ax1 : plusF 1 ⟨#[49, 47, 50]⟩ ⟨#[51]⟩ = (⟨#[49, 47, 50]⟩, 0) := plus_ex (v := (.fin (mkRat (1) 2))) (u := (.fin (mkRat (3) 1))) (x := (.fin (mkRat (1) 2))) (by decide +kernel) (by decide +kernel) (by decide +kernel) (by decide +kernel)
theorem ax2 : timesF 2 ⟨#[49, 47, 50]⟩ ⟨#[51]⟩ = (⟨#[51, 47, 50]⟩, 0) := times_ex (v := (.fin (mkRat (1) 2))) (u := (.fin (mkRat (3) 1))) (x := (.fin (mkRat (3) 2))) (by decide +kernel) (by decide +kernel) (by decide +kernel) (by decide +kernel)
theorem ax3 : starF 2 ⟨#[49, 47, 51]⟩ = (⟨#[51, 47, 50]⟩, 0) := star_ex (v := (.fin (mkRat (1) 3))) (x := (.fin (mkRat (3) 2))) (by decide +kernel) (by decide +kernel) (by decide +kernel)
theorem ax4 : overF 3 ⟨#[49, 47, 50]⟩ ⟨#[50, 47, 51]⟩ = (⟨#[51, 47, 52]⟩, 0) := over_ex (v := (.fin (mkRat (1) 2))) (u := (.fin (mkRat (2) 3))) (x := (.fin (mkRat (3) 4))) (by decide +kernel) (by decide +kernel) (by decide +kernel) (by decide +kernel) (by decide +kernel)
theorem ax5 : betterF 1 ⟨#[49]⟩ ⟨#[50]⟩ = -1 := better_ex (v := (.fin (mkRat (1) 1))) (u := (.fin (mkRat (2) 1))) (by decide +kernel) (by decide +kernel) (by decide +kernel)
theorem ax6 : weightF 1 ⟨#[48]⟩ = true := by decide +kernel
theorem ax7 : weightF 3 ⟨#[48]⟩ = false := by decide +kernel
theorem is_ok (c : ByteArray) (w : World) : Calls Tryz.prog 24 #[.string c, .int .i64 0, .string c] w fun e w' => e = .returned (.bool true) ∧ w = w' := by
  go_enter Tryz.func24, Tryz.ntmps24
  go_wp2
  go_ret
  exact ⟨rfl, rfl⟩
set_option maxHeartbeats 2000000 in
theorem awake_any (w : World) (ht : Tab w) : Calls Tryz.prog 11 #[] w (TrueEnd4 w) := by
  have HT := Lib.hid ht; clear ht
  have S1 : ∀ (wx : World), Below w.heap.size w wx → Tab wx := fun wx h => HT.out.below h (Nat.le_refl _)
  have HS := Lib.hid S1; clear S1
  go_enter Tryz.func11, Tryz.ntmps11
  go_wp2_with fail
  have hq1 := semiplus_any 1 ⟨#[49, 47, 50]⟩ ⟨#[51]⟩ w (by decide) (by decide) HT.out
  unfold PairEnd at hq1; rw [ax1] at hq1
  refine hq1.mono ?_
  clear hq1
  rintro e w1 ⟨rfl, hb1⟩
  have HB1 := Lib.hid (hb1); clear hb1
  go_wp2_with fail
  have hq2 := semitimes_any 2 ⟨#[49, 47, 50]⟩ ⟨#[51]⟩ w1 (by decide) (by decide) (HS.out w1 HB1.out)
  unfold PairEnd at hq2; rw [ax2] at hq2
  refine hq2.mono ?_
  clear hq2
  rintro e w2 ⟨rfl, hb2⟩
  have HB2 := Lib.hid (HB1.out.trans (hb2.mono HB1.out.size)); clear hb2
  go_wp2_with fail
  have hq3 := semistar_any 2 ⟨#[49, 47, 51]⟩ w2 (by decide) (HS.out w2 HB2.out)
  unfold PairEnd at hq3; rw [ax3] at hq3
  refine hq3.mono ?_
  clear hq3
  rintro e w3 ⟨rfl, hb3⟩
  have HB3 := Lib.hid (HB2.out.trans (hb3.mono HB2.out.size)); clear hb3
  go_wp2_with fail
  have hq4 := semiover_any 3 ⟨#[49, 47, 50]⟩ ⟨#[50, 47, 51]⟩ w3 (by decide) (by decide) (HS.out w3 HB3.out)
  unfold PairEnd at hq4; rw [ax4] at hq4
  refine hq4.mono ?_
  clear hq4
  rintro e w4 ⟨rfl, hb4⟩
  have HB4 := Lib.hid (HB3.out.trans (hb4.mono HB3.out.size)); clear hb4
  go_wp2_with fail
  refine (is_ok _ _).mono ?_
  rintro e wi ⟨rfl, rfl⟩
  go_wp2_with fail
  refine (is_ok _ _).mono ?_
  rintro e wi ⟨rfl, rfl⟩
  go_wp2_with fail
  refine (is_ok _ _).mono ?_
  rintro e wi ⟨rfl, rfl⟩
  go_wp2_with fail
  refine (is_ok _ _).mono ?_
  rintro e wi ⟨rfl, rfl⟩
  go_wp2_with fail
  have hq5 := semibetter_any 1 ⟨#[49]⟩ ⟨#[50]⟩ w4 (by decide) (by decide) (HS.out w4 HB4.out)
  unfold IntEnd at hq5; rw [ax5] at hq5
  refine hq5.mono ?_
  clear hq5
  rintro e w5 ⟨rfl, hb5⟩
  have HB5 := Lib.hid (HB4.out.trans (hb5.mono HB4.out.size)); clear hb5
  go_wp2_with fail
  have hq6 := semizero_any 1 w5
  unfold StrE at hq6; rw [zeroF_1] at hq6
  refine hq6.mono ?_
  clear hq6
  rintro e w6 ⟨rfl, hb6⟩
  have HB6 := Lib.hid (HB5.out.trans (hb6.mono HB5.out.size)); clear hb6
  go_wp2_with fail
  have hq7 := semione_any 3 w6
  unfold StrE at hq7; rw [oneF_3] at hq7
  refine hq7.mono ?_
  clear hq7
  rintro e w7 ⟨rfl, hb7⟩
  have HB7 := Lib.hid (HB6.out.trans (hb7.mono HB6.out.size)); clear hb7
  go_wp2_with fail
  have hq8 := semiweight_any 1 ⟨#[48]⟩ w7 (by decide) (HS.out w7 HB7.out)
  unfold BoolE at hq8; rw [ax6] at hq8
  refine hq8.mono ?_
  clear hq8
  rintro e w8 ⟨rfl, hb8⟩
  have HB8 := Lib.hid (HB7.out.trans (hb8.mono HB7.out.size)); clear hb8
  go_wp2_with fail
  have hq9 := semiweight_any 3 ⟨#[48]⟩ w8 (by decide) (HS.out w8 HB8.out)
  unfold BoolE at hq9; rw [ax7] at hq9
  refine hq9.mono ?_
  clear hq9
  rintro e w9 ⟨rfl, hb9⟩
  have HB9 := Lib.hid (HB8.out.trans (hb9.mono HB8.out.size)); clear hb9
  go_wp2_with fail
  go_ret
  exact ⟨rfl, HB9.out⟩
end Go.Proofs.YtlcbdaconghcmaaGreatDoor
