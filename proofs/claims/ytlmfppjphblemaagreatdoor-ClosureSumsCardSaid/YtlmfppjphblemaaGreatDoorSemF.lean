/- The walks of semi's exported functions: Star, Better. -/
import Derived.Test.YtlmfppjphblemaaGreatDoorMS2
namespace Go.Proofs.YtlmfppjphblemaaGreatDoor
open Go Go.RowKit
set_option maxRecDepth 100000

set_option maxHeartbeats 4000000 in
theorem sstar_1 (a : ByteArray) (w : World) (ha : a.size ≤ 9223372036854775807) (ht : Tab w) : Calls Tryz.prog 99 #[.int .i64 1, .string a] w (PairEnd (starF 1 a) w) := by
  have c1 := fun wx (h : Below w.heap.size w wx) => valid1_any a wx ha (ht.below h (Nat.le_refl _))
  cases h1 : validF 1 a with
  | false =>
    rw [starF_n h1]; rw [h1] at c1; clear h1 ha ht
    have c0 := of_1 w
    unfold OfEnd at c0
    unfold ring1 at *
    have C0 := Lib.hid c0; clear c0
    have C1 := Lib.hid c1; clear c1
    go_enter Tryz.func99, Tryz.ntmps99
    go_wp2_with fail
    refine C0.out.mono ?_
    rintro e w1 ⟨rfl, hb⟩
    have HB1 := Lib.hid (hb.alloc hb.size (.cells ring1 83)); clear hb
    go_wp2_with fail
    refine (C1.out _ HB1.out).mono ?_
    rintro e w2 ⟨rfl, hb⟩
    have HB2 := Lib.hid (next_below HB1.out hb); clear hb
    go_wp2_with fail
    go_ret2
    exact ⟨rfl, HB2.out⟩
  | true =>
    rw [h1] at c1
    obtain ⟨v, pv, rv, ov, ea, fv'⟩ := valid_v h1
    have hr : starF 1 a = limV (starV 1 v) := by unfold starF; rw [pv]
    have c3 := fun wx (h : Below w.heap.size w wx) => lowStar_any v wx fv' (ht.below h (Nat.le_refl _))
    rw [← ea, ← hr] at c3
    generalize starF 1 a = r at *
    obtain ⟨rs, rn⟩ := r
    clear h1 hr pv rv ov ea fv' ha ht
    have c0 := of_1 w
    unfold OfEnd at c0
    unfold ring1 at *
    have C0 := Lib.hid c0; clear c0
    have C1 := Lib.hid c1; clear c1
    have C3 := Lib.hid c3; clear c3
    go_enter Tryz.func99, Tryz.ntmps99
    go_wp2_with fail
    refine C0.out.mono ?_
    rintro e w1 ⟨rfl, hb⟩
    have HB1 := Lib.hid (hb.alloc hb.size (.cells ring1 83)); clear hb
    go_wp2_with fail
    refine (C1.out _ HB1.out).mono ?_
    rintro e w2 ⟨rfl, hb⟩
    have HS2 := Lib.hid (hb)
    have HB2 := Lib.hid (next_below HB1.out hb); clear hb
    obtain ⟨q0, q1, q2, q3, q4, q5, q6, q7⟩ := ring_cells1 HS2.out
    go_wp2_with fail
    refine (C3.out _ HB2.out).mono ?_
    rintro e w3 ⟨rfl, hb⟩
    have HB3 := Lib.hid (next_below HB2.out hb); clear hb
    go_wp2_with fail
    go_ret2
    exact ⟨rfl, HB3.out⟩
set_option maxHeartbeats 4000000 in
theorem sstar_2 (a : ByteArray) (w : World) (ha : a.size ≤ 9223372036854775807) (ht : Tab w) : Calls Tryz.prog 99 #[.int .i64 2, .string a] w (PairEnd (starF 2 a) w) := by
  have c1 := fun wx (h : Below w.heap.size w wx) => valid2_any a wx ha (ht.below h (Nat.le_refl _))
  cases h1 : validF 2 a with
  | false =>
    rw [starF_n h1]; rw [h1] at c1; clear h1 ha ht
    have c0 := of_2 w
    unfold OfEnd at c0
    unfold ring2 at *
    have C0 := Lib.hid c0; clear c0
    have C1 := Lib.hid c1; clear c1
    go_enter Tryz.func99, Tryz.ntmps99
    go_wp2_with fail
    refine C0.out.mono ?_
    rintro e w1 ⟨rfl, hb⟩
    have HB1 := Lib.hid (hb.alloc hb.size (.cells ring2 83)); clear hb
    go_wp2_with fail
    refine (C1.out _ HB1.out).mono ?_
    rintro e w2 ⟨rfl, hb⟩
    have HB2 := Lib.hid (next_below HB1.out hb); clear hb
    go_wp2_with fail
    go_ret2
    exact ⟨rfl, HB2.out⟩
  | true =>
    rw [h1] at c1
    obtain ⟨v, pv, rv, ov, ea, fv'⟩ := valid_v h1
    have hr : starF 2 a = limV (starV 2 v) := by unfold starF; rw [pv]
    have c3 := fun wx (h : Below w.heap.size w wx) => sumStar_any v wx fv' ov (ht.below h (Nat.le_refl _))
    rw [← ea, ← hr] at c3
    generalize starF 2 a = r at *
    obtain ⟨rs, rn⟩ := r
    clear h1 hr pv rv ov ea fv' ha ht
    have c0 := of_2 w
    unfold OfEnd at c0
    unfold ring2 at *
    have C0 := Lib.hid c0; clear c0
    have C1 := Lib.hid c1; clear c1
    have C3 := Lib.hid c3; clear c3
    go_enter Tryz.func99, Tryz.ntmps99
    go_wp2_with fail
    refine C0.out.mono ?_
    rintro e w1 ⟨rfl, hb⟩
    have HB1 := Lib.hid (hb.alloc hb.size (.cells ring2 83)); clear hb
    go_wp2_with fail
    refine (C1.out _ HB1.out).mono ?_
    rintro e w2 ⟨rfl, hb⟩
    have HS2 := Lib.hid (hb)
    have HB2 := Lib.hid (next_below HB1.out hb); clear hb
    obtain ⟨q0, q1, q2, q3, q4, q5, q6, q7⟩ := ring_cells2 HS2.out
    go_wp2_with fail
    refine (C3.out _ HB2.out).mono ?_
    rintro e w3 ⟨rfl, hb⟩
    have HB3 := Lib.hid (next_below HB2.out hb); clear hb
    go_wp2_with fail
    go_ret2
    exact ⟨rfl, HB3.out⟩
set_option maxHeartbeats 4000000 in
theorem sstar_3 (a : ByteArray) (w : World) (ha : a.size ≤ 9223372036854775807) (ht : Tab w) : Calls Tryz.prog 99 #[.int .i64 3, .string a] w (PairEnd (starF 3 a) w) := by
  have c1 := fun wx (h : Below w.heap.size w wx) => valid3_any a wx ha (ht.below h (Nat.le_refl _))
  cases h1 : validF 3 a with
  | false =>
    rw [starF_n h1]; rw [h1] at c1; clear h1 ha ht
    have c0 := of_3 w
    unfold OfEnd at c0
    unfold ring3 at *
    have C0 := Lib.hid c0; clear c0
    have C1 := Lib.hid c1; clear c1
    go_enter Tryz.func99, Tryz.ntmps99
    go_wp2_with fail
    refine C0.out.mono ?_
    rintro e w1 ⟨rfl, hb⟩
    have HB1 := Lib.hid (hb.alloc hb.size (.cells ring3 83)); clear hb
    go_wp2_with fail
    refine (C1.out _ HB1.out).mono ?_
    rintro e w2 ⟨rfl, hb⟩
    have HB2 := Lib.hid (next_below HB1.out hb); clear hb
    go_wp2_with fail
    go_ret2
    exact ⟨rfl, HB2.out⟩
  | true =>
    rw [h1] at c1
    obtain ⟨v, pv, rv, ov, ea, fv'⟩ := valid_v h1
    have hr : starF 3 a = limV (starV 3 v) := by unfold starF; rw [pv]
    have c3 := fun wx (h : Below w.heap.size w wx) => highStar_any v wx fv' (ht.below h (Nat.le_refl _))
    rw [← ea, ← hr] at c3
    generalize starF 3 a = r at *
    obtain ⟨rs, rn⟩ := r
    clear h1 hr pv rv ov ea fv' ha ht
    have c0 := of_3 w
    unfold OfEnd at c0
    unfold ring3 at *
    have C0 := Lib.hid c0; clear c0
    have C1 := Lib.hid c1; clear c1
    have C3 := Lib.hid c3; clear c3
    go_enter Tryz.func99, Tryz.ntmps99
    go_wp2_with fail
    refine C0.out.mono ?_
    rintro e w1 ⟨rfl, hb⟩
    have HB1 := Lib.hid (hb.alloc hb.size (.cells ring3 83)); clear hb
    go_wp2_with fail
    refine (C1.out _ HB1.out).mono ?_
    rintro e w2 ⟨rfl, hb⟩
    have HS2 := Lib.hid (hb)
    have HB2 := Lib.hid (next_below HB1.out hb); clear hb
    obtain ⟨q0, q1, q2, q3, q4, q5, q6, q7⟩ := ring_cells3 HS2.out
    go_wp2_with fail
    refine (C3.out _ HB2.out).mono ?_
    rintro e w3 ⟨rfl, hb⟩
    have HB3 := Lib.hid (next_below HB2.out hb); clear hb
    go_wp2_with fail
    go_ret2
    exact ⟨rfl, HB3.out⟩
theorem sstar_no (k : Int) (a : ByteArray) (w : World) (hk : k < 1 ∨ 3 < k) : Calls Tryz.prog 99 #[.int .i64 k, .string a] w (PairEnd (starF k a) w) := by
  rw [starF_n (validF_no hk a)]
  have c0 := of_no k w hk
  unfold OfEnd at c0
  unfold ring0 at *
  have C0 := Lib.hid c0; clear c0
  go_enter Tryz.func99, Tryz.ntmps99
  go_wp2_with fail
  refine C0.out.mono ?_
  rintro e w1 ⟨rfl, hb⟩
  have HB1 := Lib.hid (hb.alloc hb.size (.cells ring0 83)); clear hb
  go_wp2_with fail
  go_ret2
  exact ⟨rfl, HB1.out⟩
theorem semistar_any (k : Int) (a : ByteArray) (w : World) (ha : a.size ≤ 9223372036854775807) (ht : Tab w) : Calls Tryz.prog 99 #[.int .i64 k, .string a] w (PairEnd (starF k a) w) := by
  rcases kind_cases k with rfl | rfl | rfl | hk
  · exact sstar_1 a w ha ht
  · exact sstar_2 a w ha ht
  · exact sstar_3 a w ha ht
  · exact sstar_no k a w hk
end Go.Proofs.YtlmfppjphblemaaGreatDoor
