/- The walk of the statement NatNative: it returns true for all numbers below 2^32. -/
import Derived.Test.YtndfbnffielfaaaDoorLawsL
import Derived.OpenShut
namespace Go.Proofs.YtndfbnffielfaaaDoor
open Go Go.RowKit

theorem fits20 {n : Nat} (h : n < 100000000000000000000) : fits n := by
  unfold fits
  exact Nat.le_trans (dec_len_lt (k := 20).2 ⟨h, by omega⟩) (by omega)
theorem subF_less {s t : ByteArray} (hs : vld s = true) (ht : vld t = true) (h : val s < val t) : subF s t = (⟨#[]⟩, 4) := by rw [subF_v hs ht, if_pos h]
theorem divF_zero {s t : ByteArray} (hs : vld s = true) (ht : vld t = true) (h : val t = 0) : divF s t = (⟨#[]⟩, ⟨#[]⟩, 4) := by rw [divF_v hs ht, if_pos h]

set_option maxRecDepth 100000 in
set_option maxHeartbeats 2000000 in
theorem native1 (m n : Nat) (w : World) (hm : (m : Int) ≤ 4294967295) (hn : (n : Int) ≤ 4294967295) (hlt : (m : Int) < (n : Int)) (ht : Tab w) :
    Calls Tryd.prog 11 #[.int .u32 (m : Int), .int .u32 (n : Int)] w (TrueEnd w) := by
  have HT := Lib.hid ht; clear ht
  have S1 : ∀ (wx : World), Below w.heap.size w wx → Tab wx := fun wx h => HT.out.below h (Nat.le_refl _)
  have HS := Lib.hid S1; clear S1
  have hmul : ((m : Int) * (n : Int)) = ((m * n : Nat) : Int) := by simp
  have hpn : m * n ≤ 4294967295 * 4294967295 := Nat.mul_le_mul (by omega) (by omega)
  have hpb : (m : Int) * (n : Int) ≤ 18446744065119617025 := by rw [hmul]; omega
  have hp0 : 0 ≤ (m : Int) * (n : Int) := by rw [hmul]; omega
  have HPN := Lib.hid hpn; clear hpn hmul
  have HFA : Hid (fits m) := Lib.hid (fits20 (by omega))
  have HFB : Hid (fits n) := Lib.hid (fits20 (by omega))
  have had : addF (str (dec m)) (str (dec n)) = (str (dec (m + n)), 0) := by
    have h := addF_fit (vld_sd HFA.out) (vld_sd HFB.out) (by rw [val_sd, val_sd]; exact fits20 (by omega))
    rwa [val_sd, val_sd] at h
  have hml : mulF (str (dec m)) (str (dec n)) = (str (dec (m * n)), 0) := by
    have h := mulF_fit (vld_sd HFA.out) (vld_sd HFB.out) (by rw [val_sd, val_sd]; exact fits20 (by have := HPN.out; omega))
    rwa [val_sd, val_sd] at h
  have HAD := Lib.hid had; clear had
  have HML := Lib.hid hml; clear hml
  have hn1 : (1 : Int) ≤ (n : Int) := by omega
  have hsb : subF (str (dec m)) (str (dec n)) = (⟨#[]⟩, 4) := subF_less (vld_sd HFA.out) (vld_sd HFB.out) (by rw [val_sd, val_sd]; omega)
  have hcm : cmpF (str (dec m)) (str (dec n)) = -1 := cmp_less (vld_sd HFA.out) (vld_sd HFB.out) (by rw [val_sd, val_sd]; omega)
  have HSB := Lib.hid hsb; clear hsb
  have HCM := Lib.hid hcm; clear hcm
  have hdv : divF (str (dec m)) (str (dec n)) = (str (dec (m / n)), str (dec (m % n)), 0) := by
    have h := divF_ok (vld_sd HFA.out) (vld_sd HFB.out) (by rw [val_sd]; omega)
    rwa [val_sd, val_sd] at h
  have HDV := Lib.hid hdv; clear hdv
  have hq0 : 0 ≤ (m : Int) / (n : Int) := by rw [show ((m : Int) / (n : Int)) = ((m / n : Nat) : Int) from by simp]; exact Int.natCast_nonneg _
  have hq1 : (m : Int) / (n : Int) ≤ 4294967295 := by rw [show ((m : Int) / (n : Int)) = ((m / n : Nat) : Int) from by simp]; exact Int.le_trans (Int.ofNat_le.2 (Nat.div_le_self m n)) hm
  go_enter Tryd.func11, Tryd.ntmps11
  go_wp2_with fail
  have hq1 := small_any m (by omega) w HT.out
  refine hq1.mono ?_
  clear hq1
  rintro e w1 ⟨rfl, hb1⟩
  have HB1 := Lib.hid (hb1); clear hb1
  go_wp2_with fail
  have hq2 := small_any n (by omega) w1 (HS.out w1 HB1.out)
  refine hq2.mono ?_
  clear hq2
  rintro e w2 ⟨rfl, hb2⟩
  have HB2 := Lib.hid (HB1.out.trans (hb2.mono HB1.out.size)); clear hb2
  go_wp2_with fail
  have hq3 := add_any (str (dec m)) (str (dec n)) w2 (fits_size HFA.out) (fits_size HFB.out) (HS.out w2 HB2.out)
  unfold PairEnd at hq3
  rw [HAD.out] at hq3
  refine hq3.mono ?_
  clear hq3
  rintro e w3 ⟨rfl, hb3⟩
  have HB3 := Lib.hid (HB2.out.trans (hb3.mono HB2.out.size)); clear hb3
  go_wp2_with fail
  have hq4 := mul_any (str (dec m)) (str (dec n)) w3 (fits_size HFA.out) (fits_size HFB.out) (HS.out w3 HB3.out)
  unfold PairEnd at hq4
  rw [HML.out] at hq4
  refine hq4.mono ?_
  clear hq4
  rintro e w4 ⟨rfl, hb4⟩
  have HB4 := Lib.hid (HB3.out.trans (hb4.mono HB3.out.size)); clear hb4
  go_wp2_with fail
  rw [show ((m : Int) + (n : Int)) = ((m + n : Nat) : Int) from by omega]
  have hq5 := small_any (m + n) (by omega) w4 (HS.out w4 HB4.out)
  refine hq5.mono ?_
  clear hq5
  rintro e w5 ⟨rfl, hb5⟩
  have HB5 := Lib.hid (HB4.out.trans (hb5.mono HB4.out.size)); clear hb5
  go_wp2_with fail
  rw [show ((m : Int) * (n : Int)) = ((m * n : Nat) : Int) from by simp]
  have hq6 := small_any (m * n) (by have := HPN.out; omega) w5 (HS.out w5 HB5.out)
  refine hq6.mono ?_
  clear hq6
  rintro e w6 ⟨rfl, hb6⟩
  have HB6 := Lib.hid (HB5.out.trans (hb6.mono HB5.out.size)); clear hb6
  go_wp2_with fail
  have hq7 := sub_any (str (dec m)) (str (dec n)) w6 (fits_size HFA.out) (fits_size HFB.out) (HS.out w6 HB6.out)
  unfold PairEnd at hq7
  rw [HSB.out] at hq7
  refine hq7.mono ?_
  clear hq7
  rintro e w7 ⟨rfl, hb7⟩
  have HB7 := Lib.hid (HB6.out.trans (hb7.mono HB6.out.size)); clear hb7
  go_wp2_with fail
  have hq8 := cmp_any (str (dec m)) (str (dec n)) w7 (fits_size HFA.out) (fits_size HFB.out)
  unfold IntEnd at hq8
  rw [HCM.out] at hq8
  refine hq8.mono ?_
  clear hq8
  rintro e w8 ⟨rfl, hb8⟩
  have HB8 := Lib.hid (HB7.out.trans (hb8.mono HB7.out.size)); clear hb8
  go_wp2_with fail
  have hq9 := div_any (str (dec m)) (str (dec n)) w8 (fits_size HFA.out) (fits_size HFB.out) (HS.out w8 HB8.out)
  unfold TripEnd at hq9
  rw [HDV.out] at hq9
  refine hq9.mono ?_
  clear hq9
  rintro e w9 ⟨rfl, hb9⟩
  have HB9 := Lib.hid (HB8.out.trans (hb9.mono HB8.out.size)); clear hb9
  go_wp2_with fail
  rw [show ((m : Int) / (n : Int)) = ((m / n : Nat) : Int) from by simp]
  have hq10 := small_any (m / n) (by have := Nat.div_le_self m n; omega) w9 (HS.out w9 HB9.out)
  refine hq10.mono ?_
  clear hq10
  rintro e w10 ⟨rfl, hb10⟩
  have HB10 := Lib.hid (HB9.out.trans (hb10.mono HB9.out.size)); clear hb10
  go_wp2_with fail
  rw [show ((m : Int) % (n : Int)) = ((m % n : Nat) : Int) from by simp]
  have hq11 := small_any (m % n) (by have := Nat.mod_le m n; omega) w10 (HS.out w10 HB10.out)
  refine hq11.mono ?_
  clear hq11
  rintro e w11 ⟨rfl, hb11⟩
  have HB11 := Lib.hid (HB10.out.trans (hb11.mono HB10.out.size)); clear hb11
  go_wp2_with fail
  have hq12 := example_any w11 (HS.out w11 HB11.out)
  refine hq12.mono ?_
  clear hq12
  rintro e w12 ⟨rfl, hb12⟩
  have HB12 := Lib.hid (HB11.out.trans (hb12.mono HB11.out.size)); clear hb12
  go_wp2_with fail
  go_ret
  exact ⟨rfl, HB12.out⟩
set_option maxRecDepth 100000 in
set_option maxHeartbeats 2000000 in
theorem native2 (m n : Nat) (w : World) (hm : (m : Int) ≤ 4294967295) (hn : (n : Int) ≤ 4294967295) (hge : (n : Int) ≤ (m : Int)) (hn1 : (1 : Int) ≤ (n : Int)) (ht : Tab w) :
    Calls Tryd.prog 11 #[.int .u32 (m : Int), .int .u32 (n : Int)] w (TrueEnd w) := by
  have HT := Lib.hid ht; clear ht
  have S1 : ∀ (wx : World), Below w.heap.size w wx → Tab wx := fun wx h => HT.out.below h (Nat.le_refl _)
  have HS := Lib.hid S1; clear S1
  have hmul : ((m : Int) * (n : Int)) = ((m * n : Nat) : Int) := by simp
  have hpn : m * n ≤ 4294967295 * 4294967295 := Nat.mul_le_mul (by omega) (by omega)
  have hpb : (m : Int) * (n : Int) ≤ 18446744065119617025 := by rw [hmul]; omega
  have hp0 : 0 ≤ (m : Int) * (n : Int) := by rw [hmul]; omega
  have HPN := Lib.hid hpn; clear hpn hmul
  have HFA : Hid (fits m) := Lib.hid (fits20 (by omega))
  have HFB : Hid (fits n) := Lib.hid (fits20 (by omega))
  have had : addF (str (dec m)) (str (dec n)) = (str (dec (m + n)), 0) := by
    have h := addF_fit (vld_sd HFA.out) (vld_sd HFB.out) (by rw [val_sd, val_sd]; exact fits20 (by omega))
    rwa [val_sd, val_sd] at h
  have hml : mulF (str (dec m)) (str (dec n)) = (str (dec (m * n)), 0) := by
    have h := mulF_fit (vld_sd HFA.out) (vld_sd HFB.out) (by rw [val_sd, val_sd]; exact fits20 (by have := HPN.out; omega))
    rwa [val_sd, val_sd] at h
  have HAD := Lib.hid had; clear had
  have HML := Lib.hid hml; clear hml
  have hsb : subF (str (dec m)) (str (dec n)) = (str (dec (m - n)), 0) := by
    have h := subF_ok (vld_sd HFA.out) (vld_sd HFB.out) (by rw [val_sd, val_sd]; omega)
    rwa [val_sd, val_sd] at h
  have HSB := Lib.hid hsb; clear hsb
  have hdv : divF (str (dec m)) (str (dec n)) = (str (dec (m / n)), str (dec (m % n)), 0) := by
    have h := divF_ok (vld_sd HFA.out) (vld_sd HFB.out) (by rw [val_sd]; omega)
    rwa [val_sd, val_sd] at h
  have HDV := Lib.hid hdv; clear hdv
  have hq0 : 0 ≤ (m : Int) / (n : Int) := by rw [show ((m : Int) / (n : Int)) = ((m / n : Nat) : Int) from by simp]; exact Int.natCast_nonneg _
  have hq1 : (m : Int) / (n : Int) ≤ 4294967295 := by rw [show ((m : Int) / (n : Int)) = ((m / n : Nat) : Int) from by simp]; exact Int.le_trans (Int.ofNat_le.2 (Nat.div_le_self m n)) hm
  go_enter Tryd.func11, Tryd.ntmps11
  go_wp2_with fail
  have hq1 := small_any m (by omega) w HT.out
  refine hq1.mono ?_
  clear hq1
  rintro e w1 ⟨rfl, hb1⟩
  have HB1 := Lib.hid (hb1); clear hb1
  go_wp2_with fail
  have hq2 := small_any n (by omega) w1 (HS.out w1 HB1.out)
  refine hq2.mono ?_
  clear hq2
  rintro e w2 ⟨rfl, hb2⟩
  have HB2 := Lib.hid (HB1.out.trans (hb2.mono HB1.out.size)); clear hb2
  go_wp2_with fail
  have hq3 := add_any (str (dec m)) (str (dec n)) w2 (fits_size HFA.out) (fits_size HFB.out) (HS.out w2 HB2.out)
  unfold PairEnd at hq3
  rw [HAD.out] at hq3
  refine hq3.mono ?_
  clear hq3
  rintro e w3 ⟨rfl, hb3⟩
  have HB3 := Lib.hid (HB2.out.trans (hb3.mono HB2.out.size)); clear hb3
  go_wp2_with fail
  have hq4 := mul_any (str (dec m)) (str (dec n)) w3 (fits_size HFA.out) (fits_size HFB.out) (HS.out w3 HB3.out)
  unfold PairEnd at hq4
  rw [HML.out] at hq4
  refine hq4.mono ?_
  clear hq4
  rintro e w4 ⟨rfl, hb4⟩
  have HB4 := Lib.hid (HB3.out.trans (hb4.mono HB3.out.size)); clear hb4
  go_wp2_with fail
  rw [show ((m : Int) + (n : Int)) = ((m + n : Nat) : Int) from by omega]
  have hq5 := small_any (m + n) (by omega) w4 (HS.out w4 HB4.out)
  refine hq5.mono ?_
  clear hq5
  rintro e w5 ⟨rfl, hb5⟩
  have HB5 := Lib.hid (HB4.out.trans (hb5.mono HB4.out.size)); clear hb5
  go_wp2_with fail
  rw [show ((m : Int) * (n : Int)) = ((m * n : Nat) : Int) from by simp]
  have hq6 := small_any (m * n) (by have := HPN.out; omega) w5 (HS.out w5 HB5.out)
  refine hq6.mono ?_
  clear hq6
  rintro e w6 ⟨rfl, hb6⟩
  have HB6 := Lib.hid (HB5.out.trans (hb6.mono HB5.out.size)); clear hb6
  go_wp2_with fail
  have hq7 := sub_any (str (dec m)) (str (dec n)) w6 (fits_size HFA.out) (fits_size HFB.out) (HS.out w6 HB6.out)
  unfold PairEnd at hq7
  rw [HSB.out] at hq7
  refine hq7.mono ?_
  clear hq7
  rintro e w7 ⟨rfl, hb7⟩
  have HB7 := Lib.hid (HB6.out.trans (hb7.mono HB6.out.size)); clear hb7
  go_wp2_with fail
  rw [show ((m : Int) - (n : Int)) = ((m - n : Nat) : Int) from by omega]
  have hq8 := small_any (m - n) (by omega) w7 (HS.out w7 HB7.out)
  refine hq8.mono ?_
  clear hq8
  rintro e w8 ⟨rfl, hb8⟩
  have HB8 := Lib.hid (HB7.out.trans (hb8.mono HB7.out.size)); clear hb8
  go_wp2_with fail
  have hq9 := div_any (str (dec m)) (str (dec n)) w8 (fits_size HFA.out) (fits_size HFB.out) (HS.out w8 HB8.out)
  unfold TripEnd at hq9
  rw [HDV.out] at hq9
  refine hq9.mono ?_
  clear hq9
  rintro e w9 ⟨rfl, hb9⟩
  have HB9 := Lib.hid (HB8.out.trans (hb9.mono HB8.out.size)); clear hb9
  go_wp2_with fail
  rw [show ((m : Int) / (n : Int)) = ((m / n : Nat) : Int) from by simp]
  have hq10 := small_any (m / n) (by have := Nat.div_le_self m n; omega) w9 (HS.out w9 HB9.out)
  refine hq10.mono ?_
  clear hq10
  rintro e w10 ⟨rfl, hb10⟩
  have HB10 := Lib.hid (HB9.out.trans (hb10.mono HB9.out.size)); clear hb10
  go_wp2_with fail
  rw [show ((m : Int) % (n : Int)) = ((m % n : Nat) : Int) from by simp]
  have hq11 := small_any (m % n) (by have := Nat.mod_le m n; omega) w10 (HS.out w10 HB10.out)
  refine hq11.mono ?_
  clear hq11
  rintro e w11 ⟨rfl, hb11⟩
  have HB11 := Lib.hid (HB10.out.trans (hb11.mono HB10.out.size)); clear hb11
  go_wp2_with fail
  have hq12 := example_any w11 (HS.out w11 HB11.out)
  refine hq12.mono ?_
  clear hq12
  rintro e w12 ⟨rfl, hb12⟩
  have HB12 := Lib.hid (HB11.out.trans (hb12.mono HB11.out.size)); clear hb12
  go_wp2_with fail
  go_ret
  exact ⟨rfl, HB12.out⟩
set_option maxRecDepth 100000 in
set_option maxHeartbeats 2000000 in
theorem native3 (m n : Nat) (w : World) (hm : (m : Int) ≤ 4294967295) (hn : (n : Int) ≤ 4294967295) (hge : (n : Int) ≤ (m : Int)) (h0 : n = 0) (ht : Tab w) :
    Calls Tryd.prog 11 #[.int .u32 (m : Int), .int .u32 (n : Int)] w (TrueEnd w) := by
  have HT := Lib.hid ht; clear ht
  have S1 : ∀ (wx : World), Below w.heap.size w wx → Tab wx := fun wx h => HT.out.below h (Nat.le_refl _)
  have HS := Lib.hid S1; clear S1
  have hmul : ((m : Int) * (n : Int)) = ((m * n : Nat) : Int) := by simp
  have hpn : m * n ≤ 4294967295 * 4294967295 := Nat.mul_le_mul (by omega) (by omega)
  have hpb : (m : Int) * (n : Int) ≤ 18446744065119617025 := by rw [hmul]; omega
  have hp0 : 0 ≤ (m : Int) * (n : Int) := by rw [hmul]; omega
  have HPN := Lib.hid hpn; clear hpn hmul
  have HFA : Hid (fits m) := Lib.hid (fits20 (by omega))
  have HFB : Hid (fits n) := Lib.hid (fits20 (by omega))
  have had : addF (str (dec m)) (str (dec n)) = (str (dec (m + n)), 0) := by
    have h := addF_fit (vld_sd HFA.out) (vld_sd HFB.out) (by rw [val_sd, val_sd]; exact fits20 (by omega))
    rwa [val_sd, val_sd] at h
  have hml : mulF (str (dec m)) (str (dec n)) = (str (dec (m * n)), 0) := by
    have h := mulF_fit (vld_sd HFA.out) (vld_sd HFB.out) (by rw [val_sd, val_sd]; exact fits20 (by have := HPN.out; omega))
    rwa [val_sd, val_sd] at h
  have HAD := Lib.hid had; clear had
  have HML := Lib.hid hml; clear hml
  have hsb : subF (str (dec m)) (str (dec n)) = (str (dec (m - n)), 0) := by
    have h := subF_ok (vld_sd HFA.out) (vld_sd HFB.out) (by rw [val_sd, val_sd]; omega)
    rwa [val_sd, val_sd] at h
  have HSB := Lib.hid hsb; clear hsb
  have hdv : divF (str (dec m)) (str (dec n)) = (⟨#[]⟩, ⟨#[]⟩, 4) := divF_zero (vld_sd HFA.out) (vld_sd HFB.out) (by rw [val_sd]; exact h0)
  have HDV := Lib.hid hdv; clear hdv
  have hn0 : (((n : Nat) : Int) == 0) = true := by rw [beq_iff_eq]; omega
  clear h0
  go_enter Tryd.func11, Tryd.ntmps11
  go_wp2_with fail
  have hq1 := small_any m (by omega) w HT.out
  refine hq1.mono ?_
  clear hq1
  rintro e w1 ⟨rfl, hb1⟩
  have HB1 := Lib.hid (hb1); clear hb1
  go_wp2_with fail
  have hq2 := small_any n (by omega) w1 (HS.out w1 HB1.out)
  refine hq2.mono ?_
  clear hq2
  rintro e w2 ⟨rfl, hb2⟩
  have HB2 := Lib.hid (HB1.out.trans (hb2.mono HB1.out.size)); clear hb2
  go_wp2_with fail
  have hq3 := add_any (str (dec m)) (str (dec n)) w2 (fits_size HFA.out) (fits_size HFB.out) (HS.out w2 HB2.out)
  unfold PairEnd at hq3
  rw [HAD.out] at hq3
  refine hq3.mono ?_
  clear hq3
  rintro e w3 ⟨rfl, hb3⟩
  have HB3 := Lib.hid (HB2.out.trans (hb3.mono HB2.out.size)); clear hb3
  go_wp2_with fail
  have hq4 := mul_any (str (dec m)) (str (dec n)) w3 (fits_size HFA.out) (fits_size HFB.out) (HS.out w3 HB3.out)
  unfold PairEnd at hq4
  rw [HML.out] at hq4
  refine hq4.mono ?_
  clear hq4
  rintro e w4 ⟨rfl, hb4⟩
  have HB4 := Lib.hid (HB3.out.trans (hb4.mono HB3.out.size)); clear hb4
  go_wp2_with fail
  rw [show ((m : Int) + (n : Int)) = ((m + n : Nat) : Int) from by omega]
  have hq5 := small_any (m + n) (by omega) w4 (HS.out w4 HB4.out)
  refine hq5.mono ?_
  clear hq5
  rintro e w5 ⟨rfl, hb5⟩
  have HB5 := Lib.hid (HB4.out.trans (hb5.mono HB4.out.size)); clear hb5
  go_wp2_with fail
  rw [show ((m : Int) * (n : Int)) = ((m * n : Nat) : Int) from by simp]
  have hq6 := small_any (m * n) (by have := HPN.out; omega) w5 (HS.out w5 HB5.out)
  refine hq6.mono ?_
  clear hq6
  rintro e w6 ⟨rfl, hb6⟩
  have HB6 := Lib.hid (HB5.out.trans (hb6.mono HB5.out.size)); clear hb6
  go_wp2_with fail
  have hq7 := sub_any (str (dec m)) (str (dec n)) w6 (fits_size HFA.out) (fits_size HFB.out) (HS.out w6 HB6.out)
  unfold PairEnd at hq7
  rw [HSB.out] at hq7
  refine hq7.mono ?_
  clear hq7
  rintro e w7 ⟨rfl, hb7⟩
  have HB7 := Lib.hid (HB6.out.trans (hb7.mono HB6.out.size)); clear hb7
  go_wp2_with fail
  rw [show ((m : Int) - (n : Int)) = ((m - n : Nat) : Int) from by omega]
  have hq8 := small_any (m - n) (by omega) w7 (HS.out w7 HB7.out)
  refine hq8.mono ?_
  clear hq8
  rintro e w8 ⟨rfl, hb8⟩
  have HB8 := Lib.hid (HB7.out.trans (hb8.mono HB7.out.size)); clear hb8
  go_wp2_with fail
  have hq9 := div_any (str (dec m)) (str (dec n)) w8 (fits_size HFA.out) (fits_size HFB.out) (HS.out w8 HB8.out)
  unfold TripEnd at hq9
  rw [HDV.out] at hq9
  refine hq9.mono ?_
  clear hq9
  rintro e w9 ⟨rfl, hb9⟩
  have HB9 := Lib.hid (HB8.out.trans (hb9.mono HB8.out.size)); clear hb9
  go_wp2_with fail
  have hq10 := example_any w9 (HS.out w9 HB9.out)
  refine hq10.mono ?_
  clear hq10
  rintro e w10 ⟨rfl, hb10⟩
  have HB10 := Lib.hid (HB9.out.trans (hb10.mono HB9.out.size)); clear hb10
  go_wp2_with fail
  go_ret
  exact ⟨rfl, HB10.out⟩
theorem natNative_any (x y : Int) (w : World) (hx : (Lit.int .u32 x).wf = true) (hy : (Lit.int .u32 y).wf = true) (ht : Tab w) :
    Calls Tryd.prog 11 #[.int .u32 x, .int .u32 y] w (TrueEnd w) := by
  have b1 := bounds_u32 hx
  have b2 := bounds_u32 hy
  obtain ⟨m, rfl⟩ := Int.eq_ofNat_of_zero_le b1.1
  obtain ⟨n, rfl⟩ := Int.eq_ofNat_of_zero_le b2.1
  by_cases hlt : (m : Int) < (n : Int)
  · exact native1 m n w b1.2 b2.2 hlt ht
  · by_cases h0 : n = 0
    · exact native3 m n w b1.2 b2.2 (by omega) h0 ht
    · exact native2 m n w b1.2 b2.2 (by omega) (by omega) ht
end Go.Proofs.YtndfbnffielfaaaDoor
