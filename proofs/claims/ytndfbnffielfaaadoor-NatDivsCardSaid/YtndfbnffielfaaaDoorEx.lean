/- The examples of the chapter, which every statement holds: example() returns true. -/
import Derived.Test.YtndfbnffielfaaaDoorDivOps
import Derived.Test.YtndfbnffielfaaaDoorMul
namespace Go.Proofs.YtndfbnffielfaaaDoor
open Go Go.RowKit

theorem lim_ok {n : Nat} {r : ByteArray} (hr : vld r = true) (h : n = val r) : limS n = (r, 0) := by
  have e : dec n = bts r := by rw [h]; exact dec_num hr
  unfold limS
  rw [e, if_pos (by rw [bts_len]; exact (vld_size hr).2), str_bts]
theorem dec_ok {n : Nat} {r : ByteArray} (hr : vld r = true) (h : n = val r) : str (dec n) = r := by
  rw [h]; show str (dec (num (bts r))) = r; rw [dec_num hr, str_bts]
theorem add_ok {s t r : ByteArray} (hs : vld s = true) (ht : vld t = true) (hr : vld r = true) (h : val s + val t = val r) : addF s t = (r, 0) := by
  unfold addF; rw [hs, ht]; exact lim_ok hr h
theorem mul_ok {s t r : ByteArray} (hs : vld s = true) (ht : vld t = true) (hr : vld r = true) (h : val s * val t = val r) : mulF s t = (r, 0) := by
  unfold mulF; rw [hs, ht]; exact lim_ok hr h
theorem div_ok {s t q r : ByteArray} (hs : vld s = true) (ht : vld t = true) (hq : vld q = true) (hr : vld r = true) (h0 : val t ≠ 0) (h1 : val s / val t = val q) (h2 : val s % val t = val r) : divF s t = (q, r, 0) := by
  unfold divF; rw [hs, ht, if_neg h0, dec_ok hq h1, dec_ok hr h2]; rfl
theorem gcd_ok {s t r : ByteArray} (hs : vld s = true) (ht : vld t = true) (hr : vld r = true) (h : Nat.gcd (val s) (val t) = val r) : gcdF s t = (r, 0) := by
  unfold gcdF; rw [hs, ht, dec_ok hr h]; rfl
theorem sub_none {s t : ByteArray} (hs : vld s = true) (ht : vld t = true) (h : val s < val t) : subF s t = (⟨#[]⟩, 4) := by
  unfold subF; rw [hs, ht, if_pos h]; rfl
theorem cmp_less {s t : ByteArray} (hs : vld s = true) (ht : vld t = true) (h : val s < val t) : cmpF s t = -1 := by
  unfold cmpF; rw [hs, ht]; exact cmpN_lt h

theorem ex_add : addF ⟨#[57, 57, 57]⟩ ⟨#[49]⟩ = (⟨#[49, 48, 48, 48]⟩, 0) := add_ok (by decide) (by decide) (by decide) (by decide)
theorem ex_mul : mulF ⟨#[49, 50, 51, 52, 53, 54, 55, 56, 57, 48, 49, 50, 51, 52, 53, 54, 55, 56, 57, 48]⟩ ⟨#[57, 56, 55, 54, 53, 52, 51, 50, 49, 48, 57, 56, 55, 54, 53, 52, 51, 50, 49, 48]⟩ = (⟨#[49, 50, 49, 57, 51, 50, 54, 51, 49, 49, 51, 55, 48, 50, 49, 55, 57, 53, 50, 50, 51, 55, 52, 54, 51, 56, 48, 49, 49, 49, 49, 50, 54, 51, 53, 50, 54, 57, 48, 48]⟩, 0) := mul_ok (by decide +kernel) (by decide +kernel) (by decide +kernel) (by decide +kernel)
theorem ex_div : divF ⟨#[49, 48, 48, 48, 48, 48, 48, 48, 48, 48, 48, 48, 48, 48, 48, 48, 48, 48, 48, 48, 48, 48]⟩ ⟨#[55]⟩ = (⟨#[49, 52, 50, 56, 53, 55, 49, 52, 50, 56, 53, 55, 49, 52, 50, 56, 53, 55, 49, 52, 50]⟩, ⟨#[54]⟩, 0) := div_ok (by decide +kernel) (by decide +kernel) (by decide +kernel) (by decide +kernel) (by decide +kernel) (by decide +kernel) (by decide +kernel)
theorem ex_gcd : gcdF ⟨#[49, 48, 55, 49]⟩ ⟨#[52, 54, 50]⟩ = (⟨#[50, 49]⟩, 0) := gcd_ok (by decide) (by decide) (by decide) (by decide +kernel)
theorem ex_sub : subF ⟨#[49]⟩ ⟨#[50]⟩ = (⟨#[]⟩, 4) := sub_none (by decide) (by decide) (by decide)
theorem ex_cmp : cmpF ⟨#[57]⟩ ⟨#[49, 48]⟩ = -1 := cmp_less (by decide) (by decide) (by decide)
theorem ex_v1 : vld ⟨#[49, 48]⟩ = true := by decide
theorem ex_v2 : vld ⟨#[48, 48, 55]⟩ = false := by decide

set_option maxRecDepth 100000 in
set_option maxHeartbeats 2000000 in
theorem example_any (w : World) (ht : Tab w) : Calls Tryd.prog 13 #[] w fun e w' => e = .returned (.bool true) ∧ Below w.heap.size w w' := by
  have HT := Lib.hid ht; clear ht
  go_enter Tryd.func13, Tryd.ntmps13
  go_wp2_with fail
  have c1 := add_any ⟨#[57, 57, 57]⟩ ⟨#[49]⟩ w (by decide) (by decide) HT.out
  refine c1.mono ?_
  clear c1
  rintro e w1 ⟨rfl, hb1⟩
  have HB1 := Lib.hid (hb1); clear hb1
  rw [ex_add]
  go_wp2_with fail
  have c2 := mul_any ⟨#[49, 50, 51, 52, 53, 54, 55, 56, 57, 48, 49, 50, 51, 52, 53, 54, 55, 56, 57, 48]⟩ ⟨#[57, 56, 55, 54, 53, 52, 51, 50, 49, 48, 57, 56, 55, 54, 53, 52, 51, 50, 49, 48]⟩ w1 (by decide) (by decide) (HT.out.below HB1.out (Nat.le_refl _))
  refine c2.mono ?_
  clear c2
  rintro e w2 ⟨rfl, hb2⟩
  have HB2 := Lib.hid (HB1.out.trans (hb2.mono HB1.out.size)); clear hb2
  rw [ex_mul]
  go_wp2_with fail
  have c3 := div_any ⟨#[49, 48, 48, 48, 48, 48, 48, 48, 48, 48, 48, 48, 48, 48, 48, 48, 48, 48, 48, 48, 48, 48]⟩ ⟨#[55]⟩ w2 (by decide) (by decide) (HT.out.below HB2.out (Nat.le_refl _))
  refine c3.mono ?_
  clear c3
  rintro e w3 ⟨rfl, hb3⟩
  have HB3 := Lib.hid (HB2.out.trans (hb3.mono HB2.out.size)); clear hb3
  rw [ex_div]
  go_wp2_with fail
  have c4 := gcd_any ⟨#[49, 48, 55, 49]⟩ ⟨#[52, 54, 50]⟩ w3 (by decide) (by decide) (HT.out.below HB3.out (Nat.le_refl _))
  refine c4.mono ?_
  clear c4
  rintro e w4 ⟨rfl, hb4⟩
  have HB4 := Lib.hid (HB3.out.trans (hb4.mono HB3.out.size)); clear hb4
  rw [ex_gcd]
  go_wp2_with fail
  have c5 := sub_any ⟨#[49]⟩ ⟨#[50]⟩ w4 (by decide) (by decide) (HT.out.below HB4.out (Nat.le_refl _))
  refine c5.mono ?_
  clear c5
  rintro e w5 ⟨rfl, hb5⟩
  have HB5 := Lib.hid (HB4.out.trans (hb5.mono HB4.out.size)); clear hb5
  rw [ex_sub]
  go_wp2_with fail
  have c6 := vld_any ⟨#[49, 48]⟩ w5 (by decide)
  rw [ex_v1] at c6
  refine c6.mono ?_
  clear c6
  rintro e w6 ⟨rfl, rfl⟩
  go_wp2_with fail
  have c7 := vld_any ⟨#[48, 48, 55]⟩ w5 (by decide)
  rw [ex_v2] at c7
  refine c7.mono ?_
  clear c7
  rintro e w7 ⟨rfl, rfl⟩
  go_wp2_with fail
  have c8 := cmp_any ⟨#[57]⟩ ⟨#[49, 48]⟩ w5 (by decide) (by decide)
  unfold IntEnd at c8
  rw [ex_cmp] at c8
  refine c8.mono ?_
  clear c8
  rintro e w8 ⟨rfl, hb8⟩
  have HB8 := Lib.hid (HB5.out.trans (hb8.mono HB5.out.size)); clear hb8
  go_wp2_with fail
  go_ret
  exact ⟨rfl, HB8.out⟩
end Go.Proofs.YtndfbnffielfaaaDoor
