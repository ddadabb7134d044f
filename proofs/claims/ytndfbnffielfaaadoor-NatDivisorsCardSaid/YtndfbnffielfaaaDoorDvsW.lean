/- The walk of the statement NatDivisors: it returns true for all strings. -/
import Derived.Test.YtndfbnffielfaaaDoorLawsL
namespace Go.Proofs.YtndfbnffielfaaaDoor
open Go Go.RowKit

theorem gcdF_v {s t : ByteArray} (hs : vld s = true) (ht : vld t = true) : gcdF s t = (str (dec (Nat.gcd (val s) (val t))), 0) := by unfold gcdF; rw [hs, ht]; rfl
theorem sd_one : str (dec 1) = ⟨#[49]⟩ := by rw [dec_small (by omega)]; rfl
theorem fits_small {n : Nat} (h : n ≤ 9) : fits n := by unfold fits; rw [dec_small (by omega)]; simp
theorem fits_gcd {a b : ByteArray} (ha : vld a = true) (hb : vld b = true) : fits (Nat.gcd (val a) (val b)) := by
  by_cases h : val b = 0
  · rw [h, Nat.gcd_zero_right]; exact fits_val ha
  · exact fits_le (fits_val hb) (Nat.le_of_dvd (Nat.pos_of_ne_zero h) (Nat.gcd_dvd_right _ _))
theorem len_le60 {a : ByteArray} (h : ¬ 60 < a.size) : (a.size : Int) ≤ 60 := by omega

set_option maxRecDepth 100000 in
set_option maxHeartbeats 2000000 in
theorem dvs1 (a b : ByteArray) (w : World) (ha : a.size ≤ maxLen) (ht : Tab w) (h1 : vld a = false) :
    Calls Tryd.prog 8 #[.string a, .string b] w (TrueEnd w) := by
  have HT := Lib.hid ht; clear ht
  have S1 : ∀ (wx : World), Below w.heap.size w wx → Tab wx := fun wx h => HT.out.below h (Nat.le_refl _)
  have HS := Lib.hid S1; clear S1
  have c1 := vld_any a w ha
  rw [h1] at c1
  have C1 := Lib.hid c1; clear c1 h1
  go_enter Tryd.func8, Tryd.ntmps8
  go_wp2_with fail
  refine C1.out.mono ?_
  rintro e w' ⟨rfl, rfl⟩
  go_wp2_with fail
  have hq1 := example_any w HT.out
  refine hq1.mono ?_
  clear hq1
  rintro e w1 ⟨rfl, hb1⟩
  have HB1 := Lib.hid (hb1); clear hb1
  go_wp2_with fail
  go_ret
  exact ⟨rfl, HB1.out⟩
set_option maxRecDepth 100000 in
set_option maxHeartbeats 2000000 in
theorem dvs2 (a b : ByteArray) (w : World) (ha : a.size ≤ maxLen) (hb : b.size ≤ maxLen) (ht : Tab w) (h1 : vld a = true) (h2 : vld b = false) :
    Calls Tryd.prog 8 #[.string a, .string b] w (TrueEnd w) := by
  have HT := Lib.hid ht; clear ht
  have S1 : ∀ (wx : World), Below w.heap.size w wx → Tab wx := fun wx h => HT.out.below h (Nat.le_refl _)
  have HS := Lib.hid S1; clear S1
  have c1 := vld_any a w ha
  rw [h1] at c1
  have c2 := vld_any b w hb
  rw [h2] at c2
  have C1 := Lib.hid c1; clear c1 h1
  have C2 := Lib.hid c2; clear c2 h2
  go_enter Tryd.func8, Tryd.ntmps8
  go_wp2_with fail
  refine C1.out.mono ?_
  rintro e w' ⟨rfl, rfl⟩
  go_wp2_with fail
  refine C2.out.mono ?_
  rintro e w' ⟨rfl, rfl⟩
  go_wp2_with fail
  have hq1 := example_any w HT.out
  refine hq1.mono ?_
  clear hq1
  rintro e w1 ⟨rfl, hb1⟩
  have HB1 := Lib.hid (hb1); clear hb1
  go_wp2_with fail
  go_ret
  exact ⟨rfl, HB1.out⟩
set_option maxRecDepth 100000 in
set_option maxHeartbeats 2000000 in
theorem dvs3 (a b : ByteArray) (w : World) (ha : a.size ≤ maxLen) (hb : b.size ≤ maxLen) (ht : Tab w) (h1 : vld a = true) (h2 : vld b = true) (h3 : (60 : Int) < a.size) :
    Calls Tryd.prog 8 #[.string a, .string b] w (TrueEnd w) := by
  have HT := Lib.hid ht; clear ht
  have S1 : ∀ (wx : World), Below w.heap.size w wx → Tab wx := fun wx h => HT.out.below h (Nat.le_refl _)
  have HS := Lib.hid S1; clear S1
  have c1 := vld_any a w ha
  rw [h1] at c1
  have c2 := vld_any b w hb
  rw [h2] at c2
  have C1 := Lib.hid c1; clear c1
  have C2 := Lib.hid c2; clear c2
  have hsa := (vld_size h1).2
  have hsb := (vld_size h2).2
  clear h1 h2
  go_enter Tryd.func8, Tryd.ntmps8
  go_wp2_with fail
  refine C1.out.mono ?_
  rintro e w' ⟨rfl, rfl⟩
  go_wp2_with fail
  refine C2.out.mono ?_
  rintro e w' ⟨rfl, rfl⟩
  go_wp2_with fail
  have hq1 := example_any w HT.out
  refine hq1.mono ?_
  clear hq1
  rintro e w1 ⟨rfl, hb1⟩
  have HB1 := Lib.hid (hb1); clear hb1
  go_wp2_with fail
  go_ret
  exact ⟨rfl, HB1.out⟩
set_option maxRecDepth 100000 in
set_option maxHeartbeats 2000000 in
theorem dvs4 (a b : ByteArray) (w : World) (ha : a.size ≤ maxLen) (hb : b.size ≤ maxLen) (ht : Tab w) (h1 : vld a = true) (h2 : vld b = true) (h3 : (a.size : Int) ≤ 60) (h4 : (60 : Int) < b.size) :
    Calls Tryd.prog 8 #[.string a, .string b] w (TrueEnd w) := by
  have HT := Lib.hid ht; clear ht
  have S1 : ∀ (wx : World), Below w.heap.size w wx → Tab wx := fun wx h => HT.out.below h (Nat.le_refl _)
  have HS := Lib.hid S1; clear S1
  have c1 := vld_any a w ha
  rw [h1] at c1
  have c2 := vld_any b w hb
  rw [h2] at c2
  have C1 := Lib.hid c1; clear c1
  have C2 := Lib.hid c2; clear c2
  have hsa := (vld_size h1).2
  have hsb := (vld_size h2).2
  clear h1 h2
  go_enter Tryd.func8, Tryd.ntmps8
  go_wp2_with fail
  refine C1.out.mono ?_
  rintro e w' ⟨rfl, rfl⟩
  go_wp2_with fail
  refine C2.out.mono ?_
  rintro e w' ⟨rfl, rfl⟩
  go_wp2_with fail
  have hq1 := example_any w HT.out
  refine hq1.mono ?_
  clear hq1
  rintro e w1 ⟨rfl, hb1⟩
  have HB1 := Lib.hid (hb1); clear hb1
  go_wp2_with fail
  go_ret
  exact ⟨rfl, HB1.out⟩
set_option maxRecDepth 100000 in
set_option maxHeartbeats 2000000 in
theorem dvs5 (a b : ByteArray) (w : World) (ha : a.size ≤ maxLen) (hb : b.size ≤ maxLen) (ht : Tab w) (h1 : vld a = true) (h2 : vld b = true) (h3 : (a.size : Int) ≤ 60) (h4 : (b.size : Int) ≤ 60) (hm : val a = 0) (hn : val b = 0) :
    Calls Tryd.prog 8 #[.string a, .string b] w (TrueEnd w) := by
  have HT := Lib.hid ht; clear ht
  have S1 : ∀ (wx : World), Below w.heap.size w wx → Tab wx := fun wx h => HT.out.below h (Nat.le_refl _)
  have HS := Lib.hid S1; clear S1
  have c1 := vld_any a w ha
  rw [h1] at c1
  have c2 := vld_any b w hb
  rw [h2] at c2
  have C1 := Lib.hid c1; clear c1
  have C2 := Lib.hid c2; clear c2
  have hsa := (vld_size h1).2
  have hsb := (vld_size h2).2
  have H1 := Lib.hid h1; clear h1
  have H2 := Lib.hid h2; clear h2
  have hgc := gcdF_v H1.out H2.out
  have hgd := gcdF_comm b a
  rw [hgc] at hgd
  rw [hm, hn, Nat.gcd_zero_right, sd_zero] at hgc hgd
  have hz1 := is_zero H1.out hm
  have hz2 := is_zero H2.out hn
  have hz3 : (a.toList == [48]) = true := by rw [hz1]; rfl
  have hz4 : (b.toList == [48]) = true := by rw [hz2]; rfl
  have HGC := Lib.hid hgc; clear hgc hm hn
  have HGD := Lib.hid hgd; clear hgd
  go_enter Tryd.func8, Tryd.ntmps8
  go_wp2_with fail
  refine C1.out.mono ?_
  rintro e w' ⟨rfl, rfl⟩
  go_wp2_with fail
  refine C2.out.mono ?_
  rintro e w' ⟨rfl, rfl⟩
  go_wp2_with fail
  have hq1 := gcd_any a b w ha hb HT.out
  unfold PairEnd at hq1
  rw [HGC.out] at hq1
  refine hq1.mono ?_
  clear hq1
  rintro e w1 ⟨rfl, hb1⟩
  have HB1 := Lib.hid (hb1); clear hb1
  go_wp2_with fail
  have hq2 := gcd_any b a w1 hb ha (HS.out w1 HB1.out)
  unfold PairEnd at hq2
  rw [HGD.out] at hq2
  refine hq2.mono ?_
  clear hq2
  rintro e w2 ⟨rfl, hb2⟩
  have HB2 := Lib.hid (HB1.out.trans (hb2.mono HB1.out.size)); clear hb2
  go_wp2_with fail
  have hq3 := example_any w2 (HS.out w2 HB2.out)
  refine hq3.mono ?_
  clear hq3
  rintro e w3 ⟨rfl, hb3⟩
  have HB3 := Lib.hid (HB2.out.trans (hb3.mono HB2.out.size)); clear hb3
  go_wp2_with fail
  go_ret
  exact ⟨rfl, HB3.out⟩
set_option maxRecDepth 100000 in
set_option maxHeartbeats 2000000 in
theorem dvs6 (a b : ByteArray) (w : World) (ha : a.size ≤ maxLen) (hb : b.size ≤ maxLen) (ht : Tab w) (h1 : vld a = true) (h2 : vld b = true) (h3 : (a.size : Int) ≤ 60) (h4 : (b.size : Int) ≤ 60) (hm : val a ≠ 0) (hn : val b = 0) :
    Calls Tryd.prog 8 #[.string a, .string b] w (TrueEnd w) := by
  have HT := Lib.hid ht; clear ht
  have S1 : ∀ (wx : World), Below w.heap.size w wx → Tab wx := fun wx h => HT.out.below h (Nat.le_refl _)
  have HS := Lib.hid S1; clear S1
  have c1 := vld_any a w ha
  rw [h1] at c1
  have c2 := vld_any b w hb
  rw [h2] at c2
  have C1 := Lib.hid c1; clear c1
  have C2 := Lib.hid c2; clear c2
  have hsa := (vld_size h1).2
  have hsb := (vld_size h2).2
  have H1 := Lib.hid h1; clear h1
  have H2 := Lib.hid h2; clear h2
  have hgc := gcdF_v H1.out H2.out
  have hgd := gcdF_comm b a
  rw [hgc] at hgd
  have hg : Nat.gcd (val a) (val b) = val a := by rw [hn, Nat.gcd_zero_right]
  rw [hg, sd_val H1.out] at hgc hgd
  have HG0 : Hid (Nat.gcd (val a) (val b) ≠ 0) := Lib.hid (by rw [hg]; exact hm)
  have HVC : Hid (vld a = true) := Lib.hid H1.out
  have HVL : Hid (val a = Nat.gcd (val a) (val b)) := Lib.hid hg.symm
  have hz1 : (a.toList == [48]) = false := by rw [beq_eq_false_iff_ne]; exact not_zero hm
  have hz1' := not_zero hm
  have hz2 := is_zero H2.out hn
  have hz4 : (b.toList == [48]) = true := by rw [hz2]; rfl
  have HGC := Lib.hid hgc; clear hgc
  have HGD := Lib.hid hgd; clear hgd
  have hdx : divF a a = (str (dec (val a / Nat.gcd (val a) (val b))), ⟨#[48]⟩, 0) := by
    have h := divF_ok H1.out HVC.out (by exact hm)
    rw [Nat.mod_self, sd_zero] at h; rw [hg]; exact h
  have hdy : divF b a = (str (dec (val b / Nat.gcd (val a) (val b))), ⟨#[48]⟩, 0) := by
    have h := divF_ok H2.out HVC.out (by exact hm)
    rw [hn, Nat.zero_mod, sd_zero] at h; rw [hn, Nat.gcd_zero_right]; exact h
  have hfx := fits_le (fits_val H1.out) (Nat.div_le_self (val a) (Nat.gcd (val a) (val b)))
  have hfy := fits_le (fits_val H2.out) (Nat.div_le_self (val b) (Nat.gcd (val a) (val b)))
  have hone : gcdF (str (dec (val a / Nat.gcd (val a) (val b)))) (str (dec (val b / Nat.gcd (val a) (val b)))) = (⟨#[49]⟩, 0) := by
    have hg1 : Nat.gcd (val a / Nat.gcd (val a) (val b)) (val b / Nat.gcd (val a) (val b)) = 1 := by
      have := Nat.gcd_div (Nat.gcd_dvd_left (val a) (val b)) (Nat.gcd_dvd_right (val a) (val b))
      rw [this]; exact Nat.div_self (Nat.pos_of_ne_zero HG0.out)
    rw [gcdF_v (vld_sd hfx) (vld_sd hfy), val_sd, val_sd, hg1, sd_one]
  have HDX := Lib.hid hdx; clear hdx
  have HDY := Lib.hid hdy; clear hdy
  have HON := Lib.hid hone; clear hone
  have HFX := Lib.hid hfx; clear hfx
  have HFY := Lib.hid hfy; clear hfy
  clear hm hn hg
  go_enter Tryd.func8, Tryd.ntmps8
  go_wp2_with fail
  refine C1.out.mono ?_
  rintro e w' ⟨rfl, rfl⟩
  go_wp2_with fail
  refine C2.out.mono ?_
  rintro e w' ⟨rfl, rfl⟩
  go_wp2_with fail
  have hq1 := gcd_any a b w ha hb HT.out
  unfold PairEnd at hq1
  rw [HGC.out] at hq1
  refine hq1.mono ?_
  clear hq1
  rintro e w1 ⟨rfl, hb1⟩
  have HB1 := Lib.hid (hb1); clear hb1
  go_wp2_with fail
  have hq2 := gcd_any b a w1 hb ha (HS.out w1 HB1.out)
  unfold PairEnd at hq2
  rw [HGD.out] at hq2
  refine hq2.mono ?_
  clear hq2
  rintro e w2 ⟨rfl, hb2⟩
  have HB2 := Lib.hid (HB1.out.trans (hb2.mono HB1.out.size)); clear hb2
  go_wp2_with fail
  have hq3 := div_any a a w2 ha ha (HS.out w2 HB2.out)
  unfold TripEnd at hq3
  rw [HDX.out] at hq3
  refine hq3.mono ?_
  clear hq3
  rintro e w3 ⟨rfl, hb3⟩
  have HB3 := Lib.hid (HB2.out.trans (hb3.mono HB2.out.size)); clear hb3
  go_wp2_with fail
  have hq4 := div_any b a w3 hb ha (HS.out w3 HB3.out)
  unfold TripEnd at hq4
  rw [HDY.out] at hq4
  refine hq4.mono ?_
  clear hq4
  rintro e w4 ⟨rfl, hb4⟩
  have HB4 := Lib.hid (HB3.out.trans (hb4.mono HB3.out.size)); clear hb4
  go_wp2_with fail
  have hq5 := gcd_any (str (dec (val a / Nat.gcd (val a) (val b)))) (str (dec (val b / Nat.gcd (val a) (val b)))) w4 (fits_size HFX.out) (fits_size HFY.out) (HS.out w4 HB4.out)
  unfold PairEnd at hq5
  rw [HON.out] at hq5
  refine hq5.mono ?_
  clear hq5
  rintro e w5 ⟨rfl, hb5⟩
  have HB5 := Lib.hid (HB4.out.trans (hb5.mono HB4.out.size)); clear hb5
  go_wp2_with fail
  have hq6 := example_any w5 (HS.out w5 HB5.out)
  refine hq6.mono ?_
  clear hq6
  rintro e w6 ⟨rfl, hb6⟩
  have HB6 := Lib.hid (HB5.out.trans (hb6.mono HB5.out.size)); clear hb6
  go_wp2_with fail
  go_ret
  exact ⟨rfl, HB6.out⟩
set_option maxRecDepth 100000 in
set_option maxHeartbeats 2000000 in
theorem dvs7 (a b : ByteArray) (w : World) (ha : a.size ≤ maxLen) (hb : b.size ≤ maxLen) (ht : Tab w) (h1 : vld a = true) (h2 : vld b = true) (h3 : (a.size : Int) ≤ 60) (h4 : (b.size : Int) ≤ 60) (hn : val b ≠ 0) :
    Calls Tryd.prog 8 #[.string a, .string b] w (TrueEnd w) := by
  have HT := Lib.hid ht; clear ht
  have S1 : ∀ (wx : World), Below w.heap.size w wx → Tab wx := fun wx h => HT.out.below h (Nat.le_refl _)
  have HS := Lib.hid S1; clear S1
  have c1 := vld_any a w ha
  rw [h1] at c1
  have c2 := vld_any b w hb
  rw [h2] at c2
  have C1 := Lib.hid c1; clear c1
  have C2 := Lib.hid c2; clear c2
  have hsa := (vld_size h1).2
  have hsb := (vld_size h2).2
  have H1 := Lib.hid h1; clear h1
  have H2 := Lib.hid h2; clear h2
  have hgc := gcdF_v H1.out H2.out
  have hgd := gcdF_comm b a
  rw [hgc] at hgd
  have hg0 : Nat.gcd (val a) (val b) ≠ 0 := by intro h; exact hn (Nat.gcd_eq_zero_iff.1 h).2
  have hfg := fits_gcd H1.out H2.out
  have HG0 := Lib.hid hg0
  have HFG := Lib.hid hfg; clear hfg
  have HVC : Hid (vld (str (dec (Nat.gcd (val a) (val b)))) = true) := Lib.hid (vld_sd HFG.out)
  have HVL : Hid (val (str (dec (Nat.gcd (val a) (val b)))) = Nat.gcd (val a) (val b)) := Lib.hid (val_sd _)
  have hz0 : ¬ (str (dec (Nat.gcd (val a) (val b)))).toList = [48] := not_zero (by rw [val_sd]; exact hg0)
  have hz1 : ((str (dec (Nat.gcd (val a) (val b)))).toList == [48]) = false := by rw [beq_eq_false_iff_ne]; exact hz0
  have hz2 := not_zero hn
  have hz4 : (b.toList == [48]) = false := by rw [beq_eq_false_iff_ne]; exact hz2
  clear hg0
  have hdx : divF a (str (dec (Nat.gcd (val a) (val b)))) = (str (dec (val a / Nat.gcd (val a) (val b))), ⟨#[48]⟩, 0) := by
    have h := divF_ok H1.out HVC.out (by rw [HVL.out]; exact HG0.out)
    rw [HVL.out, Nat.mod_eq_zero_of_dvd (Nat.gcd_dvd_left _ _), sd_zero] at h; exact h
  have hdy : divF b (str (dec (Nat.gcd (val a) (val b)))) = (str (dec (val b / Nat.gcd (val a) (val b))), ⟨#[48]⟩, 0) := by
    have h := divF_ok H2.out HVC.out (by rw [HVL.out]; exact HG0.out)
    rw [HVL.out, Nat.mod_eq_zero_of_dvd (Nat.gcd_dvd_right _ _), sd_zero] at h; exact h
  have hfx := fits_le (fits_val H1.out) (Nat.div_le_self (val a) (Nat.gcd (val a) (val b)))
  have hfy := fits_le (fits_val H2.out) (Nat.div_le_self (val b) (Nat.gcd (val a) (val b)))
  have hone : gcdF (str (dec (val a / Nat.gcd (val a) (val b)))) (str (dec (val b / Nat.gcd (val a) (val b)))) = (⟨#[49]⟩, 0) := by
    have hg1 : Nat.gcd (val a / Nat.gcd (val a) (val b)) (val b / Nat.gcd (val a) (val b)) = 1 := by
      have := Nat.gcd_div (Nat.gcd_dvd_left (val a) (val b)) (Nat.gcd_dvd_right (val a) (val b))
      rw [this]; exact Nat.div_self (Nat.pos_of_ne_zero HG0.out)
    rw [gcdF_v (vld_sd hfx) (vld_sd hfy), val_sd, val_sd, hg1, sd_one]
  have HDX := Lib.hid hdx; clear hdx
  have HDY := Lib.hid hdy; clear hdy
  have HON := Lib.hid hone; clear hone
  have HFX := Lib.hid hfx; clear hfx
  have HFY := Lib.hid hfy; clear hfy
  have hdt := divF_ok H1.out H2.out hn
  have hfr := fits_le (fits_val H1.out) (Nat.mod_le (val a) (val b))
  have hag : gcdF b (str (dec (val a % val b))) = (str (dec (Nat.gcd (val a) (val b))), 0) := by
    rw [gcdF_v H2.out (vld_sd hfr), val_sd, Nat.gcd_comm (val b), ← Nat.gcd_rec, Nat.gcd_comm]
  have HDT := Lib.hid hdt; clear hdt
  have HFR := Lib.hid hfr; clear hfr
  have HAG := Lib.hid hag; clear hag hn
  have HGC := Lib.hid hgc; clear hgc
  have HGD := Lib.hid hgd; clear hgd
  go_enter Tryd.func8, Tryd.ntmps8
  go_wp2_with fail
  refine C1.out.mono ?_
  rintro e w' ⟨rfl, rfl⟩
  go_wp2_with fail
  refine C2.out.mono ?_
  rintro e w' ⟨rfl, rfl⟩
  go_wp2_with fail
  have hq1 := gcd_any a b w ha hb HT.out
  unfold PairEnd at hq1
  rw [HGC.out] at hq1
  refine hq1.mono ?_
  clear hq1
  rintro e w1 ⟨rfl, hb1⟩
  have HB1 := Lib.hid (hb1); clear hb1
  go_wp2_with fail
  have hq2 := gcd_any b a w1 hb ha (HS.out w1 HB1.out)
  unfold PairEnd at hq2
  rw [HGD.out] at hq2
  refine hq2.mono ?_
  clear hq2
  rintro e w2 ⟨rfl, hb2⟩
  have HB2 := Lib.hid (HB1.out.trans (hb2.mono HB1.out.size)); clear hb2
  go_wp2_with fail
  have hq3 := div_any a (str (dec (Nat.gcd (val a) (val b)))) w2 ha (fits_size HFG.out) (HS.out w2 HB2.out)
  unfold TripEnd at hq3
  rw [HDX.out] at hq3
  refine hq3.mono ?_
  clear hq3
  rintro e w3 ⟨rfl, hb3⟩
  have HB3 := Lib.hid (HB2.out.trans (hb3.mono HB2.out.size)); clear hb3
  go_wp2_with fail
  have hq4 := div_any b (str (dec (Nat.gcd (val a) (val b)))) w3 hb (fits_size HFG.out) (HS.out w3 HB3.out)
  unfold TripEnd at hq4
  rw [HDY.out] at hq4
  refine hq4.mono ?_
  clear hq4
  rintro e w4 ⟨rfl, hb4⟩
  have HB4 := Lib.hid (HB3.out.trans (hb4.mono HB3.out.size)); clear hb4
  go_wp2_with fail
  have hq5 := gcd_any (str (dec (val a / Nat.gcd (val a) (val b)))) (str (dec (val b / Nat.gcd (val a) (val b)))) w4 (fits_size HFX.out) (fits_size HFY.out) (HS.out w4 HB4.out)
  unfold PairEnd at hq5
  rw [HON.out] at hq5
  refine hq5.mono ?_
  clear hq5
  rintro e w5 ⟨rfl, hb5⟩
  have HB5 := Lib.hid (HB4.out.trans (hb5.mono HB4.out.size)); clear hb5
  go_wp2_with fail
  have hq6 := div_any a b w5 ha hb (HS.out w5 HB5.out)
  unfold TripEnd at hq6
  rw [HDT.out] at hq6
  refine hq6.mono ?_
  clear hq6
  rintro e w6 ⟨rfl, hb6⟩
  have HB6 := Lib.hid (HB5.out.trans (hb6.mono HB5.out.size)); clear hb6
  go_wp2_with fail
  have hq7 := gcd_any b (str (dec (val a % val b))) w6 hb (fits_size HFR.out) (HS.out w6 HB6.out)
  unfold PairEnd at hq7
  rw [HAG.out] at hq7
  refine hq7.mono ?_
  clear hq7
  rintro e w7 ⟨rfl, hb7⟩
  have HB7 := Lib.hid (HB6.out.trans (hb7.mono HB6.out.size)); clear hb7
  go_wp2_with fail
  have hq8 := example_any w7 (HS.out w7 HB7.out)
  refine hq8.mono ?_
  clear hq8
  rintro e w8 ⟨rfl, hb8⟩
  have HB8 := Lib.hid (HB7.out.trans (hb8.mono HB7.out.size)); clear hb8
  go_wp2_with fail
  go_ret
  exact ⟨rfl, HB8.out⟩
theorem natDivisors_any (a b : ByteArray) (w : World) (ha : a.size ≤ maxLen) (hb : b.size ≤ maxLen) (ht : Tab w) :
    Calls Tryd.prog 8 #[.string a, .string b] w (TrueEnd w) := by
  cases h1 : vld a with
  | false => exact dvs1 a b w ha ht h1
  | true =>
    cases h2 : vld b with
    | false => exact dvs2 a b w ha hb ht h1 h2
    | true =>
      by_cases h3 : (60 : Int) < a.size
      · exact dvs3 a b w ha hb ht h1 h2 h3
      · by_cases h4 : (60 : Int) < b.size
        · exact dvs4 a b w ha hb ht h1 h2 (by omega) h4
        · by_cases hn : val b = 0
          · by_cases hm : val a = 0
            · exact dvs5 a b w ha hb ht h1 h2 (by omega) (by omega) hm hn
            · exact dvs6 a b w ha hb ht h1 h2 (by omega) (by omega) hm hn
          · exact dvs7 a b w ha hb ht h1 h2 (by omega) (by omega) hn
end Go.Proofs.YtndfbnffielfaaaDoor
