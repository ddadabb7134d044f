/- Parts of a proof: RatC RatF RatG MS1. -/
import Derived.Test.YtjekapjbigfkbaaGreatDoorS10
import Derived.Test.YtjekapjbigfkbaaGreatDoorS11
import Derived.Test.YtjekapjbigfkbaaGreatDoorS01
import Derived.Laws.EntriesVeiled
import Derived.Deep.WholeRow
import Derived.Deep.MidRow
import Derived.Laws.ResultCell
namespace Go.Proofs.YtjekapjbigfkbaaGreatDoor
open Go Go.RowKit
set_option maxRecDepth 100000
attribute [local go_sem ↓] Go.wp_at_zero Go.wp_at_succ
set_option maxHeartbeats 8000000 in
theorem addc_raw (p q : Bool) (xn xd yn yd a b c d : ByteArray) (s : Bool) (E : Ending) (w : World) (hE : (∃ r x y, E = .returned (.agg #[.bool r, .string x, .string y])) ∨ E = PT)
    (c1 : ∀ wx, Below w.heap.size w wx → Calls Tryz.prog 71 #[.string xn, .string yd] wx (StrZ a wx))
    (c2 : ∀ wx, Below w.heap.size w wx → Calls Tryz.prog 71 #[.string yn, .string xd] wx (StrZ b wx))
    (c3 : ∀ wx, Below w.heap.size w wx → Calls Tryz.prog 69 #[.bool p, .string a, .bool q, .string b] wx fun e w' => e = .returned (.tuple #[.bool s, .string c]) ∧ Below wx.heap.size wx w')
    (c4 : ∀ wx, Below w.heap.size w wx → Calls Tryz.prog 71 #[.string xd, .string yd] wx (StrZ d wx))
    (c5 : ∀ wx, Below w.heap.size w wx → Calls Tryz.prog 72 #[.bool s, .string c, .string d] wx fun e w' => e = E ∧ Below wx.heap.size wx w') :
    Calls Tryz.prog 68 #[nvS p xn xd, nvS q yn yd] w fun e w' => e = E ∧ Below w.heap.size w w' := by
  have C1 := Lib.hid c1; clear c1
  have C2 := Lib.hid c2; clear c2
  have C3 := Lib.hid c3; clear c3
  have C4 := Lib.hid c4; clear c4
  have C5 := Lib.hid c5; clear c5
  have HB0 := Lib.hid (WR_below p q xn xd yn yd w)
  have hb0 : Below (WR p q xn xd yn yd w).heap.size (WR p q xn xd yn yd w) (WR p q xn xd yn yd w).drew := (Below.refl _ _).drew
  unfold nvS
  rcases hE with ⟨r, x, y, rfl⟩ | rfl
  · -- a number
    go_enter Tryz.func68, Tryz.ntmps68
    go_wp2_with fail
    change Code.wp _ _ _ _ (WR p q xn xd yn yd w)
    go_region_held2 (fun wk => Below (WR p q xn xd yn yd w).heap.size (WR p q xn xd yn yd w) wk ∧
      wk.cell? ⟨w.heap.size, 0, none⟩ = some (.bool p) ∧ wk.cell? ⟨w.heap.size, 1, none⟩ = some (.string xn) ∧ wk.cell? ⟨w.heap.size, 2, none⟩ = some (.string xd) ∧
      wk.cell? ⟨w.heap.size + 1, 0, none⟩ = some (.bool q) ∧ wk.cell? ⟨w.heap.size + 1, 1, none⟩ = some (.string yn) ∧ wk.cell? ⟨w.heap.size + 1, 2, none⟩ = some (.string yd))
      (first | exact WR_cells (by assumption) | exact WR_cells (Below.refl _ _).drew)
      (first
      | (go_at_call_of 71 (Value.string xn); refine (C1.out _ (next_below HB0.out (by assumption))).mono ?_; rintro e w1 ⟨rfl, hb1⟩; have hn1 := next_below (by assumption) hb1)
      | (go_at_call_of 71 (Value.string yn); refine (C2.out _ (next_below HB0.out (by assumption))).mono ?_; rintro e w2 ⟨rfl, hb2⟩; have hn2 := next_below (by assumption) hb2)
      | (go_at_call 70; refine (must_ok _ _).mono ?_; rintro e w' ⟨rfl, rfl⟩)
      | (go_at_call 69; refine (C3.out _ (next_below HB0.out (by assumption))).mono ?_; rintro e w3 ⟨rfl, hb3⟩; have hn3 := next_below (by assumption) hb3))
    rename_i hH
    obtain ⟨_, e0, e1, e2, e3, e4, e5⟩ := hH
    go_wp2_with fail
    refine (C4.out _ (next_below HB0.out hn3)).mono ?_
    rintro e w4 ⟨rfl, hb4⟩
    have hn4 := next_below hn3 hb4
    go_wp2_with fail
    refine (must_ok _ _).mono ?_
    rintro e w' ⟨rfl, rfl⟩
    go_wp2_with fail
    refine (C5.out _ (next_below HB0.out hn4)).mono ?_
    rintro e w5 ⟨rfl, hb5⟩
    have hn5 := next_below hn4 hb5
    obtain ⟨k0, k1, k2, f0, f1, f2⟩ := WR_res hn5
    obtain ⟨s0, s1, s2⟩ := set3 (a' := .bool r) (b' := .string x) (c' := .string y) k0 k1 k2
    go_wp2_with fail
    refine bodyPost_ret (num_result rfl _ _ (w.heap.size + 1 + 1) r x y rfl s0 s1 s2) rfl ⟨rfl, (((next_below HB0.out hn5).setCell ?_ _).setCell ?_ _).setCell ?_ _⟩ <;> (show w.heap.size ≤ w.heap.size + 1 + 1; omega)
  · -- too long
    unfold PT at C5 ⊢
    go_enter Tryz.func68, Tryz.ntmps68
    go_wp2_with fail
    change Code.wp _ _ _ _ (WR p q xn xd yn yd w)
    go_region_held2 (fun wk => Below (WR p q xn xd yn yd w).heap.size (WR p q xn xd yn yd w) wk ∧
      wk.cell? ⟨w.heap.size, 0, none⟩ = some (.bool p) ∧ wk.cell? ⟨w.heap.size, 1, none⟩ = some (.string xn) ∧ wk.cell? ⟨w.heap.size, 2, none⟩ = some (.string xd) ∧
      wk.cell? ⟨w.heap.size + 1, 0, none⟩ = some (.bool q) ∧ wk.cell? ⟨w.heap.size + 1, 1, none⟩ = some (.string yn) ∧ wk.cell? ⟨w.heap.size + 1, 2, none⟩ = some (.string yd))
      (first | exact WR_cells (by assumption) | exact WR_cells (Below.refl _ _).drew)
      (first
      | (go_at_call_of 71 (Value.string xn); refine (C1.out _ (next_below HB0.out (by assumption))).mono ?_; rintro e w1 ⟨rfl, hb1⟩; have hn1 := next_below (by assumption) hb1)
      | (go_at_call_of 71 (Value.string yn); refine (C2.out _ (next_below HB0.out (by assumption))).mono ?_; rintro e w2 ⟨rfl, hb2⟩; have hn2 := next_below (by assumption) hb2)
      | (go_at_call 70; refine (must_ok _ _).mono ?_; rintro e w' ⟨rfl, rfl⟩)
      | (go_at_call 69; refine (C3.out _ (next_below HB0.out (by assumption))).mono ?_; rintro e w3 ⟨rfl, hb3⟩; have hn3 := next_below (by assumption) hb3))
    rename_i hH
    obtain ⟨_, e0, e1, e2, e3, e4, e5⟩ := hH
    go_wp2_with fail
    refine (C4.out _ (next_below HB0.out hn3)).mono ?_
    rintro e w4 ⟨rfl, hb4⟩
    have hn4 := next_below hn3 hb4
    go_wp2_with fail
    refine (must_ok _ _).mono ?_
    rintro e w' ⟨rfl, rfl⟩
    go_wp2_with fail
    refine (C5.out _ (next_below HB0.out hn4)).mono ?_
    rintro e w5 ⟨rfl, hb5⟩
    have hn5 := next_below hn4 hb5
    go_wp2_with fail
    exact ⟨rfl, rfl, next_below HB0.out hn5⟩
set_option maxHeartbeats 8000000 in
theorem mulc_raw (p q : Bool) (xn xd yn yd a b : ByteArray) (E : Ending) (w : World) (hE : (∃ r x y, E = .returned (.agg #[.bool r, .string x, .string y])) ∨ E = PT)
    (c1 : ∀ wx, Below w.heap.size w wx → Calls Tryz.prog 71 #[.string xn, .string yn] wx (StrZ a wx))
    (c2 : ∀ wx, Below w.heap.size w wx → Calls Tryz.prog 71 #[.string xd, .string yd] wx (StrZ b wx))
    (c5 : ∀ wx, Below w.heap.size w wx → Calls Tryz.prog 72 #[.bool (p != q), .string a, .string b] wx fun e w' => e = E ∧ Below wx.heap.size wx w') :
    Calls Tryz.prog 193 #[nvS p xn xd, nvS q yn yd] w fun e w' => e = E ∧ Below w.heap.size w w' := by
  have C1 := Lib.hid c1; clear c1
  have C2 := Lib.hid c2; clear c2
  have C5 := Lib.hid c5; clear c5
  have HB0 := Lib.hid (WR_below p q xn xd yn yd w)
  have hb0 : Below (WR p q xn xd yn yd w).heap.size (WR p q xn xd yn yd w) (WR p q xn xd yn yd w).drew := (Below.refl _ _).drew
  unfold nvS
  rcases hE with ⟨r, x, y, rfl⟩ | rfl
  · -- a number
    go_enter Tryz.func193, Tryz.ntmps193
    go_wp2_with fail
    change Code.wp _ _ _ _ (WR p q xn xd yn yd w)
    go_region_held2 (fun wk => Below (w.heap.size + 1 + 1) (WR p q xn xd yn yd w) wk ∧
      wk.cell? ⟨w.heap.size, 0, none⟩ = some (.bool p) ∧ wk.cell? ⟨w.heap.size, 1, none⟩ = some (.string xn) ∧ wk.cell? ⟨w.heap.size, 2, none⟩ = some (.string xd) ∧
      wk.cell? ⟨w.heap.size + 1, 0, none⟩ = some (.bool q) ∧ wk.cell? ⟨w.heap.size + 1, 1, none⟩ = some (.string yn) ∧ wk.cell? ⟨w.heap.size + 1, 2, none⟩ = some (.string yd))
      (first | exact WR_cells2 (WR_lo (by assumption)) | exact WR_cells2 (WR_lo (Below.refl _ _).drew) | exact WR_cells2 ((((WR_lo (by assumption)).setCell (Nat.le_refl _) _).setCell (Nat.le_refl _) _).setCell (Nat.le_refl _) _))
      (first
      | (go_at_call_of 71 (Value.string xn); refine (C1.out _ (next_below HB0.out (by assumption))).mono ?_; rintro e w1 ⟨rfl, hb1⟩; have hn1 := next_below (by assumption) hb1)
      | (go_at_call_of 71 (Value.string xd); refine (C2.out _ (next_below HB0.out (by assumption))).mono ?_; rintro e w2 ⟨rfl, hb2⟩; have hn2 := next_below (by assumption) hb2)
      | (go_at_call 70; refine (must_ok _ _).mono ?_; rintro e w' ⟨rfl, rfl⟩)
      | (go_at_call 72; refine (C5.out _ (next_below HB0.out (by assumption))).mono ?_; rintro e w3 ⟨rfl, hb3⟩; have hn3 := next_below (by assumption) hb3; obtain ⟨k0, k1, k2, f0, f1, f2⟩ := WR_res hn3; obtain ⟨s0, s1, s2⟩ := set3 (a' := .bool r) (b' := .string x) (c' := .string y) k0 k1 k2))
    go_wp2_with fail
    refine bodyPost_ret (num_result rfl _ _ (w.heap.size + 1 + 1) r x y rfl s0 s1 s2) rfl ⟨rfl, (((next_below HB0.out hn3).setCell ?_ _).setCell ?_ _).setCell ?_ _⟩ <;> (show w.heap.size ≤ w.heap.size + 1 + 1; omega)
  · -- too long
    unfold PT at C5 ⊢
    go_enter Tryz.func193, Tryz.ntmps193
    go_wp2_with fail
    change Code.wp _ _ _ _ (WR p q xn xd yn yd w)
    go_region_held2 (fun wk => Below (w.heap.size + 1 + 1) (WR p q xn xd yn yd w) wk ∧
      wk.cell? ⟨w.heap.size, 0, none⟩ = some (.bool p) ∧ wk.cell? ⟨w.heap.size, 1, none⟩ = some (.string xn) ∧ wk.cell? ⟨w.heap.size, 2, none⟩ = some (.string xd) ∧
      wk.cell? ⟨w.heap.size + 1, 0, none⟩ = some (.bool q) ∧ wk.cell? ⟨w.heap.size + 1, 1, none⟩ = some (.string yn) ∧ wk.cell? ⟨w.heap.size + 1, 2, none⟩ = some (.string yd))
      (first | exact WR_cells2 (WR_lo (by assumption)) | exact WR_cells2 (WR_lo (Below.refl _ _).drew) | exact WR_cells2 ((((WR_lo (by assumption)).setCell (Nat.le_refl _) _).setCell (Nat.le_refl _) _).setCell (Nat.le_refl _) _))
      (first
      | (go_at_call_of 71 (Value.string xn); refine (C1.out _ (next_below HB0.out (by assumption))).mono ?_; rintro e w1 ⟨rfl, hb1⟩; have hn1 := next_below (by assumption) hb1)
      | (go_at_call_of 71 (Value.string xd); refine (C2.out _ (next_below HB0.out (by assumption))).mono ?_; rintro e w2 ⟨rfl, hb2⟩; have hn2 := next_below (by assumption) hb2)
      | (go_at_call 70; refine (must_ok _ _).mono ?_; rintro e w' ⟨rfl, rfl⟩)
      | (go_at_call 72; refine (C5.out _ (next_below HB0.out (by assumption))).mono ?_; rintro e w3 ⟨rfl, hb3⟩; have hn3 := next_below (by assumption) hb3; obtain ⟨k0, k1, k2, f0, f1, f2⟩ := WR_res hn3; refine fakeK (by assumption) 26 (.agg #[.bool false, .string ⟨#[]⟩, .string ⟨#[]⟩]) ⟨rfl, rfl, next_below HB0.out hn3⟩ (fun hfalse => ?_)))
    exact hfalse.out.elim
end Go.Proofs.YtjekapjbigfkbaaGreatDoor

namespace Go.Proofs.YtjekapjbigfkbaaGreatDoor
open Go Go.RowKit
set_option maxRecDepth 100000
theorem addc_q (x y : Rat) (w : World) (hx : fitQ x) (hy : fitQ y) (ht : Tab w) : Calls Tryz.prog 68 #[nv x, nv y] w (QEnd (x + y) w) := by
  have hT : ∀ wx, Below w.heap.size w wx → Tab wx := fun wx h => ht.below h (Nat.le_refl _)
  have h1 : fits (x.num.natAbs * y.den) := fits_mul hx.1 hy.2
  have h2 : fits (y.num.natAbs * x.den) := fits_mul hy.1 hx.2
  have h3 : fits (x.num.natAbs * y.den + y.num.natAbs * x.den) := fits_sum hx.1 hy.2 hy.1 hx.2
  have h4 : fits (x.den * y.den) := fits_mul hx.2 hy.2
  unfold QEnd
  rw [add_mk x y]
  exact addc_raw (negQ x) (negQ y) _ _ _ _ (str (dec (x.num.natAbs * y.den))) (str (dec (y.num.natAbs * x.den))) _ (str (dec (x.den * y.den))) _ _ w (qE _)
    (fun wx h => nmul_sd _ _ wx (fit_num hx) (fit_den hy) h1 (hT wx h)) (fun wx h => nmul_sd _ _ wx (fit_num hy) (fit_den hx) h2 (hT wx h))
    (fun wx h => ratplus_sd (negQ x) (negQ y) _ _ wx h3 (hT wx h)) (fun wx h => nmul_sd _ _ wx (fit_den hx) (fit_den hy) h4 (hT wx h))
    (fun wx h => reduce_sd _ _ _ wx (fits_le h3 (sumF_le _ _ _ _)) h4 (Nat.mul_ne_zero x.den_nz y.den_nz) (hT wx h))
theorem mulc_q (x y : Rat) (w : World) (hx : fitQ x) (hy : fitQ y) (ht : Tab w) : Calls Tryz.prog 193 #[nv x, nv y] w (QEnd (x * y) w) := by
  have hT : ∀ wx, Below w.heap.size w wx → Tab wx := fun wx h => ht.below h (Nat.le_refl _)
  have h1 : fits (x.num.natAbs * y.num.natAbs) := fits_mul hx.1 hy.1
  have h2 : fits (x.den * y.den) := fits_mul hx.2 hy.2
  unfold QEnd
  rw [mul_mk x y]
  exact mulc_raw (negQ x) (negQ y) _ _ _ _ (str (dec (x.num.natAbs * y.num.natAbs))) (str (dec (x.den * y.den))) _ w (qE _)
    (fun wx h => nmul_sd _ _ wx (fit_num hx) (fit_num hy) h1 (hT wx h)) (fun wx h => nmul_sd _ _ wx (fit_den hx) (fit_den hy) h2 (hT wx h))
    (fun wx h => reduce_sd _ _ _ wx h1 h2 (Nat.mul_ne_zero x.den_nz y.den_nz) (hT wx h))
theorem enterAdd : ∀ args w, (callFunc 68 args).run Tryz.prog w = .ok (.enter 68 args) w := fun args w => by kernel_rfl
theorem qadd_any (a b : ByteArray) (w : World) (ha : a.size ≤ 9223372036854775807) (hb : b.size ≤ 9223372036854775807) (ht : Tab w) :
    Calls Tryz.prog 34 #[.string a, .string b] w (PairEnd (qaddF a b) w) := by
  have hc := compute_any 68 (fun x y => x + y) a b w ha hb ht enterAdd (fun x y hx hy wx h => addc_q x y wx (txt_prs hx).2 (txt_prs hy).2 (ht.below h (Nat.le_refl _)))
  have hr : okR (fun x y => x + y) a b = qaddF a b := rfl
  rw [hr] at hc
  generalize qaddF a b = r at *
  obtain ⟨rs, rn⟩ := r
  have HC := Lib.hid hc; clear hc hr ht ha hb
  go_enter Tryz.func34, Tryz.ntmps34
  go_wp2_with fail
  refine HC.out.mono ?_
  rintro e w' ⟨rfl, hb⟩
  have HB := Lib.hid hb; clear hb
  go_wp2_with fail
  go_ret2
  exact ⟨rfl, HB.out⟩
theorem enterMul : ∀ args w, (callFunc 193 args).run Tryz.prog w = .ok (.enter 193 args) w := fun args w => by kernel_rfl
theorem qmul_any (a b : ByteArray) (w : World) (ha : a.size ≤ 9223372036854775807) (hb : b.size ≤ 9223372036854775807) (ht : Tab w) :
    Calls Tryz.prog 158 #[.string a, .string b] w (PairEnd (qmulF a b) w) := by
  have hc := compute_any 193 (fun x y => x * y) a b w ha hb ht enterMul (fun x y hx hy wx h => mulc_q x y wx (txt_prs hx).2 (txt_prs hy).2 (ht.below h (Nat.le_refl _)))
  have hr : okR (fun x y => x * y) a b = qmulF a b := rfl
  rw [hr] at hc
  generalize qmulF a b = r at *
  obtain ⟨rs, rn⟩ := r
  have HC := Lib.hid hc; clear hc hr ht ha hb
  go_enter Tryz.func158, Tryz.ntmps158
  go_wp2_with fail
  refine HC.out.mono ?_
  rintro e w' ⟨rfl, hb⟩
  have HB := Lib.hid hb; clear hb
  go_wp2_with fail
  go_ret2
  exact ⟨rfl, HB.out⟩
theorem qvalid_any (a : ByteArray) (w : World) (ha : a.size ≤ 9223372036854775807) (ht : Tab w) :
    Calls Tryz.prog 91 #[.string a] w fun e w' => e = .returned (.bool (prs a).isSome) ∧ Below w.heap.size w w' := by
  have hc := parse_any a w ha ht
  obtain ⟨r, x, y, hz⟩ := prsV_agg (prs a)
  rw [hz] at hc
  generalize (prs a).isSome = o at *
  have HC := Lib.hid hc; clear hc hz ha ht
  go_enter Tryz.func91, Tryz.ntmps91
  go_wp2_with fail
  refine HC.out.mono ?_
  rintro e w' ⟨rfl, hb⟩
  have HB := Lib.hid hb; clear hb
  go_wp2_with fail
  go_ret
  exact ⟨rfl, HB.out⟩
theorem prs_zero : prs ⟨#[48]⟩ = some 0 := by
  have : txt 0 = ⟨#[48]⟩ := by unfold txt txtL; rw [show negQ 0 = false from rfl, show (0 : Rat).num.natAbs = 0 from rfl, show (0 : Rat).den = 1 from rfl, dec_zero]; rfl
  rw [← this]; exact prs_txt (by unfold fitQ; rw [show (0 : Rat).num.natAbs = 0 from rfl, show (0 : Rat).den = 1 from rfl, dec_zero, dec_one]; decide)
end Go.Proofs.YtjekapjbigfkbaaGreatDoor

namespace Go.Proofs.YtjekapjbigfkbaaGreatDoor
open Go Go.RowKit
set_option maxRecDepth 100000
attribute [local go_sem ↓] Go.wp_at_zero Go.wp_at_succ
set_option maxHeartbeats 8000000 in
theorem cmp_raw (p q : Bool) (xn xd yn yd a b c : ByteArray) (s : Bool) (v : Int) (s1 s2 : ByteArray) (w : World)
    (hv : ((c.toList == [48]) = true ∧ v = 0) ∨ ((c.toList == [48]) = false ∧ s = true ∧ v = -1) ∨ ((c.toList == [48]) = false ∧ s = false ∧ v = 1))
    (c0 : ∀ wx, Below w.heap.size w wx → Calls Tryz.prog 97 #[.string s1] wx fun e w' => e = .returned (.tuple #[.agg #[.bool p, .string xn, .string xd], .bool true]) ∧ Below wx.heap.size wx w')
    (c0' : ∀ wx, Below w.heap.size w wx → Calls Tryz.prog 97 #[.string s2] wx fun e w' => e = .returned (.tuple #[.agg #[.bool q, .string yn, .string yd], .bool true]) ∧ Below wx.heap.size wx w')
    (c1 : ∀ wx, Below w.heap.size w wx → Calls Tryz.prog 71 #[.string xn, .string yd] wx (StrZ a wx))
    (c2 : ∀ wx, Below w.heap.size w wx → Calls Tryz.prog 71 #[.string yn, .string xd] wx (StrZ b wx))
    (c3 : ∀ wx, Below w.heap.size w wx → Calls Tryz.prog 69 #[.bool p, .string a, .bool (!q), .string b] wx fun e w' => e = .returned (.tuple #[.bool s, .string c]) ∧ Below wx.heap.size wx w') :
    Calls Tryz.prog 44 #[.string s1, .string s2] w (IntEnd v w) := by
  have C0 := Lib.hid c0; clear c0
  have C0' := Lib.hid c0'; clear c0'
  have C1 := Lib.hid c1; clear c1
  have C2 := Lib.hid c2; clear c2
  have C3 := Lib.hid c3; clear c3
  have HV := Lib.hid hv; clear hv
  go_enter Tryz.func44, Tryz.ntmps44
  go_wp2_with fail
  refine (C0.out _ (Below.refl _ _)).mono ?_
  rintro e w1 ⟨rfl, hb1⟩
  have HA1 := Lib.hid hb1
  have HB1 := Lib.hid (hb1.alloc hb1.size (.cells #[.bool p, .string xn, .string xd] 107)); clear hb1
  go_wp2_with fail
  refine (C0'.out _ HB1.out).mono ?_
  rintro e w2 ⟨rfl, hb2⟩
  have HA2 := Lib.hid hb2
  have HB2 := Lib.hid ((next_below HB1.out hb2).alloc (Nat.le_trans HB1.out.size hb2.size) (.cells #[.bool q, .string yn, .string yd] 107)); clear hb2
  go_wp2_with fail
  obtain ⟨W, hW⟩ : ∃ W, W = w2.alloc (.cells #[.bool q, .string yn, .string yd] 107) := ⟨_, rfl⟩
  have hcells : ∀ wk, Below W.heap.size W wk → (Below W.heap.size W wk ∧
    wk.cell? ⟨w1.heap.size, 0, none⟩ = some (.bool p) ∧ wk.cell? ⟨w1.heap.size, 1, none⟩ = some (.string xn) ∧ wk.cell? ⟨w1.heap.size, 2, none⟩ = some (.string xd) ∧
    wk.cell? ⟨w2.heap.size, 0, none⟩ = some (.bool q) ∧ wk.cell? ⟨w2.heap.size, 1, none⟩ = some (.string yn) ∧ wk.cell? ⟨w2.heap.size, 2, none⟩ = some (.string yd)) := by
    intro wk h
    subst hW
    have z1 := HA2.out.size
    rw [World.size_alloc] at z1
    have cx : ∀ (i : Nat) (v : Value), (w1.alloc (.cells #[.bool p, .string xn, .string xd] 107)).cell? ⟨w1.heap.size, i, none⟩ = some v → wk.cell? ⟨w1.heap.size, i, none⟩ = some v := by
      intro i v hv
      refine (h.cell (p := ⟨w1.heap.size, i, none⟩) (by rw [World.size_alloc]; show w1.heap.size < _; omega)).trans ?_
      rw [World.cell?_alloc_past (hn := by omega)]
      exact (HA2.out.cell (p := ⟨w1.heap.size, i, none⟩) (by rw [World.size_alloc]; show w1.heap.size < _; omega)).trans hv
    have cy : ∀ (i : Nat) (v : Value), (w2.alloc (.cells #[.bool q, .string yn, .string yd] 107)).cell? ⟨w2.heap.size, i, none⟩ = some v → wk.cell? ⟨w2.heap.size, i, none⟩ = some v := by
      intro i v hv
      exact (h.cell (p := ⟨w2.heap.size, i, none⟩) (by rw [World.size_alloc]; show w2.heap.size < _; omega)).trans hv
    exact ⟨h, cx 0 _ (by simp [go_sem]), cx 1 _ (by simp [go_sem]), cx 2 _ (by simp [go_sem]), cy 0 _ (by simp [go_sem]), cy 1 _ (by simp [go_sem]), cy 2 _ (by simp [go_sem])⟩
  rw [← hW]
  rw [← hW] at HB2
  have HC := Lib.hid hcells; clear hcells
  have HWW := Lib.hid hW; clear hW
  have hb0 : Below W.heap.size W W.drew := (Below.refl _ _).drew
  go_region_held2 (fun wk => Below W.heap.size W wk ∧
    wk.cell? ⟨w1.heap.size, 0, none⟩ = some (.bool p) ∧ wk.cell? ⟨w1.heap.size, 1, none⟩ = some (.string xn) ∧ wk.cell? ⟨w1.heap.size, 2, none⟩ = some (.string xd) ∧
    wk.cell? ⟨w2.heap.size, 0, none⟩ = some (.bool q) ∧ wk.cell? ⟨w2.heap.size, 1, none⟩ = some (.string yn) ∧ wk.cell? ⟨w2.heap.size, 2, none⟩ = some (.string yd))
    (first | exact HC.out _ (by assumption) | exact HC.out _ (Below.refl _ _).drew)
    (first
      | (go_at_call_of 71 (Value.string xn); refine (C1.out _ (next_below HB2.out (by assumption))).mono ?_; rintro e w1 ⟨rfl, hb1⟩; have hn1 := next_below (by assumption) hb1)
      | (go_at_call_of 71 (Value.string yn); refine (C2.out _ (next_below HB2.out (by assumption))).mono ?_; rintro e w2 ⟨rfl, hb2⟩; have hn2 := next_below (by assumption) hb2)
      | (go_at_call 70; refine (must_ok _ _).mono ?_; rintro e w' ⟨rfl, rfl⟩)
      | (go_at_call 69; refine (C3.out _ (next_below HB2.out (by assumption))).mono ?_; rintro e w3 ⟨rfl, hb3⟩; have hn3 := next_below (by assumption) hb3))
  have HN3 := Lib.hid hn3
  rcases HV.out with ⟨h1, rfl⟩ | ⟨h1, rfl, rfl⟩ | ⟨h1, rfl, rfl⟩
  · go_wp2_with fail
    go_ret
    exact ⟨rfl, next_below HB2.out HN3.out⟩
  · go_wp2_with fail
    go_ret
    exact ⟨rfl, next_below HB2.out HN3.out⟩
  · go_wp2_with fail
    go_ret
    exact ⟨rfl, next_below HB2.out HN3.out⟩
theorem sd_zero_iff (n : Nat) : ((str (dec n)).toList == [48]) = decide (n = 0) := by
  rw [str_eq, decide_eq_decide]
  exact ⟨fun h => dec_inj (h.trans dec_zero.symm), fun h => by rw [h, dec_zero]⟩
set_option maxHeartbeats 1000000 in
theorem qcmp_any (a b : ByteArray) (w : World) (ha : a.size ≤ 9223372036854775807) (hb : b.size ≤ 9223372036854775807) (ht : Tab w) :
    Calls Tryz.prog 44 #[.string a, .string b] w (IntEnd (qcmpF a b) w) := by
  have hT : ∀ wx, Below w.heap.size w wx → Tab wx := fun wx h => ht.below h (Nat.le_refl _)
  have c1 := fun wx (h : Below w.heap.size w wx) => parse_any a wx ha (hT wx h)
  have c2 := fun wx (h : Below w.heap.size w wx) => parse_any b wx hb (hT wx h)
  cases h1 : prs a with
  | none =>
    have hr : qcmpF a b = 0 := by unfold qcmpF; rw [h1]
    rw [hr]; simp only [h1, Option.isSome, prsV] at c1
    generalize (prs b).isSome = o at c2
    obtain ⟨r, x, y, hz⟩ := prsV_agg (prs b)
    rw [hz] at c2
    have C1 := Lib.hid c1; clear c1
    have C2 := Lib.hid c2; clear c2 hr h1 hz ht ha hb hT
    unfold NoNum nvS at C1
    go_enter Tryz.func44, Tryz.ntmps44
    go_wp2_with fail
    refine (C1.out _ (Below.refl _ _)).mono ?_
    rintro e w1 ⟨rfl, hb1⟩
    have HB1 := Lib.hid (hb1.alloc hb1.size (.cells #[.bool false, .string ⟨#[]⟩, .string ⟨#[]⟩] 107)); clear hb1
    go_wp2_with fail
    refine (C2.out _ HB1.out).mono ?_
    rintro e w2 ⟨rfl, hb2⟩
    have HB2 := Lib.hid (next_below HB1.out hb2); clear hb2
    go_wp2_with fail
    go_ret
    exact ⟨rfl, HB2.out.alloc HB2.out.size _⟩
  | some x =>
    simp only [h1, Option.isSome, prsV] at c1
    cases h2 : prs b with
    | none =>
      have hr : qcmpF a b = 0 := by unfold qcmpF; rw [h1, h2]
      rw [hr]; simp only [h2, Option.isSome, prsV] at c2
      have C1 := Lib.hid c1; clear c1
      have C2 := Lib.hid c2; clear c2 hr h1 h2 ht ha hb hT
      unfold NoNum nvS at C2
      unfold nv nvS at C1
      go_enter Tryz.func44, Tryz.ntmps44
      go_wp2_with fail
      refine (C1.out _ (Below.refl _ _)).mono ?_
      rintro e w1 ⟨rfl, hb1⟩
      have HB1 := Lib.hid (hb1.alloc hb1.size (.cells #[.bool (negQ x), .string (str (dec x.num.natAbs)), .string (str (dec x.den))] 107)); clear hb1
      go_wp2_with fail
      refine (C2.out _ HB1.out).mono ?_
      rintro e w2 ⟨rfl, hb2⟩
      have HB2 := Lib.hid (next_below HB1.out hb2); clear hb2
      go_wp2_with fail
      go_ret
      exact ⟨rfl, HB2.out.alloc HB2.out.size _⟩
    | some y =>
      have hx := (txt_prs h1).2
      have hy := (txt_prs h2).2
      have hr : qcmpF a b = cmpQ x y := by unfold qcmpF; rw [h1, h2]
      rw [hr]; simp only [h2, Option.isSome, prsV] at c2
      have f1 : fits (x.num.natAbs * y.den) := fits_mul hx.1 hy.2
      have f2 : fits (y.num.natAbs * x.den) := fits_mul hy.1 hx.2
      have f3 : fits (x.num.natAbs * y.den + y.num.natAbs * x.den) := fits_sum hx.1 hy.2 hy.1 hx.2
      refine cmp_raw (negQ x) (negQ y) _ _ _ _ (str (dec (x.num.natAbs * y.den))) (str (dec (y.num.natAbs * x.den))) (str (dec (sumF (negQ x) (x.num.natAbs * y.den) (!negQ y) (y.num.natAbs * x.den)).2)) (sumF (negQ x) (x.num.natAbs * y.den) (!negQ y) (y.num.natAbs * x.den)).1 (cmpQ x y) a b w ?_ c1 c2
        (fun wx h => nmul_sd _ _ wx (fit_num hx) (fit_den hy) f1 (hT wx h)) (fun wx h => nmul_sd _ _ wx (fit_num hy) (fit_den hx) f2 (hT wx h))
        (fun wx h => ratplus_sd (negQ x) (!negQ y) _ _ wx f3 (hT wx h))
      rw [cmp_mk x y, sd_zero_iff]
      generalize sumF (negQ x) (x.num.natAbs * y.den) (!negQ y) (y.num.natAbs * x.den) = r
      obtain ⟨s, k⟩ := r
      by_cases hk : k = 0
      · left; simp [hk]
      · right; cases s <;> simp [hk]
end Go.Proofs.YtjekapjbigfkbaaGreatDoor

namespace Go.Proofs.YtjekapjbigfkbaaGreatDoor
open Go Go.RowKit
set_option maxRecDepth 100000
abbrev fv (g : FuncId) : Value := .func (.func g) #[] #[]
def ring0 : Array Value := #[.string ⟨#[]⟩, .string ⟨#[]⟩, .bool false, .nilFunc, .nilFunc, .nilFunc, .nilFunc, .nilFunc]
def ring1 : Array Value := #[.string ⟨#[105, 110, 102]⟩, .string ⟨#[48]⟩, .bool true, fv 155, fv 34, fv 156, fv 91, fv 91]
def ring2 : Array Value := #[.string ⟨#[48]⟩, .string ⟨#[49]⟩, .bool false, fv 157, fv 158, fv 159, fv 160, fv 161]
def ring3 : Array Value := #[.string ⟨#[48]⟩, .string ⟨#[49]⟩, .bool false, fv 155, fv 158, fv 162, fv 160, fv 161]
def ringsV : Array Value := #[.string ⟨#[]⟩, .string ⟨#[]⟩, .bool false, .nilFunc, .nilFunc, .nilFunc, .nilFunc, .nilFunc,
  .string ⟨#[105, 110, 102]⟩, .string ⟨#[48]⟩, .bool true, fv 155, fv 34, fv 156, fv 91, fv 91,
  .string ⟨#[48]⟩, .string ⟨#[49]⟩, .bool false, fv 157, fv 158, fv 159, fv 160, fv 161,
  .string ⟨#[48]⟩, .string ⟨#[49]⟩, .bool false, fv 155, fv 158, fv 162, fv 160, fv 161]
theorem wpList_store_new {P : Program} {ops : Array Oper} {rest : List Oper} {op : Oper} {a : Act} {w : World} {Q : Exit → Act → World → Prop} (hgd : op.guard = none) (t : TypeId) (x y : Operand) (ho : op.op = .store t x y)
    (c c' : Array Value) (hx : a.eval x = .pointer (some ⟨w.heap.size, 0, none⟩)) (hy : a.eval y = .agg c') (hi : (P.info? t).map (·.size) = some c'.size) (hs : c.size = c'.size) (h1 : c'.all (·.oneCell') = true)
    (h : wpList P ops Q rest (a.put op.dst undef) (w.alloc (.cells c' t))) : wpList P ops Q (op :: rest) a (w.alloc (.cells c t)) :=
  wpList_plain hgd fun _ hK => by
    unfold Oper.wp execOp
    simp only [ho, hx, hy, Instr.storeAt, Instr.sureAddr, Sem.run_bind, Sem.run_pure, Result.andThen_ok, run_storeVar_new w t c c' hi hs h1]
    exact hK _ _ h
theorem results_cell {fn : Func} {p : Tmp} {ty : TypeId} (h : fn.results = #[.cell p ty]) (tmps : Array Value) (P : Program) (w : World) :
    (results fn tmps).run P w = ((asAddr (tmps.getD p undef)).run P w).andThen fun a w₁ => (loadVar ty a).run P w₁ := by
  simp only [results, h]
  simp [Sem.run_bind, Result.andThen]
set_option maxHeartbeats 4000000 in
theorem rings_any (w : World) : Calls Tryz.prog 120 #[] w fun e w' => e = .returned (.agg ringsV) ∧ Below w.heap.size w w' := by
  have hi : (Tryz.prog.info? 156).map (·.size) = some ringsV.size := by kernel_rfl
  have h1 : ringsV.all (·.oneCell') = true := by decide +kernel
  have HI := Lib.hid hi; clear hi
  have H1 := Lib.hid h1; clear h1
  go_enter Tryz.func120, Tryz.ntmps120
  go_wp2_with (refine wpList_store_new rfl 156 (.tmp 0) (.tmp 4) rfl _ ringsV rfl rfl HI.out rfl H1.out ?_)
  refine bodyPost_ret (v := .agg ringsV) ?_ rfl ⟨rfl, (Below.refl _ _).alloc (Nat.le_refl _) _⟩
  rw [results_cell rfl]
  exact run_loadVar_new w 156 ringsV 4 116 Tryz.underlying156 HI.out
theorem there8 {w wk : World} {c : Array Value} {t : TypeId} (hc : c.size = 8) (h : Below (w.alloc (.cells c t)).heap.size (w.alloc (.cells c t)) wk) : wk.there w.heap.size 0 8 := by
  intro j hj
  have hlt : w.heap.size < (w.alloc (.cells c t)).heap.size := by simp
  have e := h.cell (p := ⟨w.heap.size, 0 + j, none⟩) hlt
  have f := h.frozen (p := ⟨w.heap.size, 0 + j, none⟩) hlt
  rw [e, f]
  constructor
  · rw [cell_of_row _ _ (0 + j) c t (0, 0) (heap_alloc_last w _)]
    simp [hc, hj]
  · exact World.frozen?_alloc_new w c t _
def OfEnd (r : Array Value) (b : Bool) (w : World) (e : Ending) (w' : World) : Prop := e = .returned (.tuple #[.agg r, .bool b]) ∧ Below w.heap.size w w'
theorem results_cell8 {fn : Func} {p u : Tmp} (h : fn.results = #[.cell p 116, .tmp u]) (tmps : Array Value) (W : World) (b : Nat) (r : List Value) (v : Value) (hp : tmps.getD p undef = .pointer (some ⟨b, 0, none⟩)) (hu : tmps.getD u undef = v)
    (hr : r.length = 8) (hc : W.rangeAt b 0 r) : (results fn tmps).run Tryz.prog W = .ok (.tuple #[.agg r.toArray, v]) W := by
  rw [results_cell_tmp h, hp, hu]
  have hi : (Tryz.prog.info? 116).map (·.size) = some r.length := by rw [hr]; kernel_rfl
  have := run_loadVar_mid (P := Tryz.prog) W b 0 116 r _ hc Tryz.underlying116 rfl hi
  show ((loadVar 116 ⟨b, 0, none⟩).run Tryz.prog W).andThen _ = _
  rw [this]; rfl
theorem range_new (w : World) (c : Array Value) (t : TypeId) : (w.alloc (.cells c t)).rangeAt w.heap.size 0 c.toList := by
  intro j v hv
  rw [cell_of_row _ _ (0 + j) c t (0, 0) (heap_alloc_last w _)]
  rw [Nat.zero_add]; rw [Array.getElem?_toList] at hv; exact hv
set_option maxHeartbeats 4000000 in
theorem of_no (k : Int) (w : World) (hk : k < 1 ∨ 3 < k) : Calls Tryz.prog 73 #[.int .i64 k] w (OfEnd ring0 false w) := by
  have hi : (Tryz.prog.info? 116).map (·.size) = some ring0.size := by kernel_rfl
  have h1 : ring0.all (·.oneCell') = true := by decide +kernel
  have HI := Lib.hid hi; clear hi
  have H1 := Lib.hid h1; clear h1
  rcases hk with hk | hk
  · go_enter Tryz.func73, Tryz.ntmps73
    go_wp2_with (refine wpList_store_new rfl 116 (.tmp 2) (.tmp 10) rfl _ ring0 rfl rfl HI.out rfl H1.out ?_)
    exact bodyPost_ret (results_cell8 rfl _ _ w.heap.size ring0.toList (.bool false) rfl rfl rfl (range_new w ring0 _)) rfl ⟨rfl, (Below.refl _ _).alloc (Nat.le_refl _) _⟩
  · have hk1 : decide (k < 1) = false := by rw [decide_eq_false_iff_not]; omega
    go_enter Tryz.func73, Tryz.ntmps73
    go_wp2_with (refine wpList_store_new rfl 116 (.tmp 2) (.tmp 10) rfl _ ring0 rfl rfl HI.out rfl H1.out ?_)
    exact bodyPost_ret (results_cell8 rfl _ _ w.heap.size ring0.toList (.bool false) rfl rfl rfl (range_new w ring0 _)) rfl ⟨rfl, (Below.refl _ _).alloc (Nat.le_refl _) _⟩
end Go.Proofs.YtjekapjbigfkbaaGreatDoor
namespace Go.Proofs.YtjekapjbigfkbaaGreatDoor
open Go Go.RowKit
set_option maxRecDepth 100000
theorem below_setCells' {B b : Nat} {a : World} : ∀ {w : World}, Below B a w → B ≤ b → ∀ (vs : List Value) (o : Nat), Below B a (w.setCells b o vs)
  | _, h, _, [], _ => h
  | _, h, hB, v :: vs, o => below_setCells' (h.setCell (p := ⟨b, o, none⟩) hB v) hB vs (o + 1)
theorem of_gen (k : Int) (RV R : Array Value) (w : World) (hk0 : 1 ≤ k) (hk3 : k ≤ 3) (hsz : R.size = 8) (h1 : R.all (·.oneCell') = true) (hr : ∀ wx, Calls Tryz.prog 120 #[] wx fun e w' => e = .returned (.agg RV) ∧ Below wx.heap.size wx w')
    (hx : ∀ w, (Instr.index 156 (.agg RV) (.int .i64 k)).run Tryz.prog w = .ok (.agg R) w) : Calls Tryz.prog 73 #[.int .i64 k] w (OfEnd R true w) := by
  have hi : (Tryz.prog.info? 116).map (·.size) = some R.size := by rw [hsz]; kernel_rfl
  have HI := Lib.hid hi; clear hi
  have H1 := Lib.hid h1; clear h1
  have HR := Lib.hid hr; clear hr
  have HS := Lib.hid hsz; clear hsz
  have hk1 : decide (k < 1) = false := by rw [decide_eq_false_iff_not]; omega
  have hk2 : decide (3 < k) = false := by rw [decide_eq_false_iff_not]; omega
  have hb0 : Below w.heap.size w (w.alloc (.cells ring0 116)) := (Below.refl _ _).alloc (Nat.le_refl _) _
  have HB0 := Lib.hid hb0; clear hb0
  go_enter Tryz.func73, Tryz.ntmps73
  go_wp2_with fail
  refine (HR.out _).mono ?_
  rintro e w1 ⟨rfl, hb1⟩
  have HB1 := Lib.hid hb1; clear hb1
  have ht := there8 rfl HB1.out
  rw [← HS.out] at ht
  have HT := Lib.hid ht; clear ht
  go_wp2_with (refine wpList_store_mid rfl 116 (.tmp 2) (.tmp 13) rfl w.heap.size 0 R rfl rfl HT.out HI.out H1.out ?_)
  have hrng := World.rangeAt_setCells_same w1 w.heap.size 0 R.toList (by rw [Array.length_toList]; exact HT.out)
  have hres := results_cell8 (fn := Tryz.f73) rfl #[.int .i64 k, undef, .pointer (some ⟨w.heap.size, 0, none⟩), .bool true, .int .i64 k, .bool false, .bool false, .int .i64 k, .bool false, .bool false, undef, .agg RV, .int .i64 k, .agg R] _ w.heap.size R.toList (.bool true) rfl rfl (by rw [Array.length_toList]; exact HS.out) hrng
  rw [Array.toArray_toList] at hres
  exact bodyPost_ret hres rfl ⟨rfl, below_setCells' (HB0.out.trans (HB1.out.mono HB0.out.size)) (Nat.le_refl _) _ _⟩
theorem index_1 (w : World) : (Instr.index 156 (.agg ringsV) (.int .i64 1)).run Tryz.prog w = .ok (.agg ring1) w := by kernel_rfl
theorem of_1 (w : World) : Calls Tryz.prog 73 #[.int .i64 1] w (OfEnd ring1 true w) :=
  of_gen 1 ringsV ring1 w (by decide) (by decide) rfl (by decide +kernel) rings_any index_1
theorem index_2 (w : World) : (Instr.index 156 (.agg ringsV) (.int .i64 2)).run Tryz.prog w = .ok (.agg ring2) w := by kernel_rfl
theorem of_2 (w : World) : Calls Tryz.prog 73 #[.int .i64 2] w (OfEnd ring2 true w) :=
  of_gen 2 ringsV ring2 w (by decide) (by decide) rfl (by decide +kernel) rings_any index_2
theorem index_3 (w : World) : (Instr.index 156 (.agg ringsV) (.int .i64 3)).run Tryz.prog w = .ok (.agg ring3) w := by kernel_rfl
theorem of_3 (w : World) : Calls Tryz.prog 73 #[.int .i64 3] w (OfEnd ring3 true w) :=
  of_gen 3 ringsV ring3 w (by decide) (by decide) rfl (by decide +kernel) rings_any index_3
end Go.Proofs.YtjekapjbigfkbaaGreatDoor
namespace Go.Proofs.YtjekapjbigfkbaaGreatDoor
open Go Go.RowKit
set_option maxRecDepth 100000
theorem infS_list : infS.toList = [105, 110, 102] := by rw [Lib.toList_data]; rfl
theorem lowS_list : lowS.toList = [45, 105, 110, 102] := by rw [Lib.toList_data]; rfl
theorem txt_ne_inf {q : Rat} (h : fitQ q) : ((txt q).toList == [105, 110, 102]) = false := by
  refine ne_list (l := [105, 110, 102]) (fun e => ?_)
  have := prs_txt h; rw [e] at this
  have h2 := prs_inf; unfold infS at h2
  rw [show str [105, 110, 102] = (⟨#[105, 110, 102]⟩ : ByteArray) from rfl, h2] at this; simp at this
theorem txt_ne_low {q : Rat} (h : fitQ q) : ((txt q).toList == [45, 105, 110, 102]) = false := by
  refine ne_list (l := [45, 105, 110, 102]) (fun e => ?_)
  have := prs_txt h; rw [e] at this
  have h2 := prs_low; unfold lowS at h2
  rw [show str [45, 105, 110, 102] = (⟨#[45, 105, 110, 102]⟩ : ByteArray) from rfl, h2] at this; simp at this
theorem qcmpF_txt {x y : Rat} (hx : fitQ x) (hy : fitQ y) : qcmpF (txt x) (txt y) = cmpQ x y := by unfold qcmpF; rw [prs_txt hx, prs_txt hy]
set_option maxHeartbeats 4000000 in
theorem vcompare_any (v u : V) (w : World) (hv : fitV v) (hu : fitV u) (ht : Tab w) : Calls Tryz.prog 75 #[.string (vtxt v), .string (vtxt u)] w (IntEnd (cmpV v u) w) := by
  have run : ∀ (a b : ByteArray) (z : Int) (h0 : z = 0 ∧ a = b ∨ a ≠ b) (c : a ≠ b → a ≠ infS → a ≠ lowS → b ≠ infS → b ≠ lowS → Calls Tryz.prog 44 #[.string a, .string b] w (IntEnd z w))
      (hz : a ≠ b → ((a = lowS ∨ b = infS) ∧ z = -1) ∨ (a ≠ lowS ∧ b ≠ infS ∧ (b = lowS ∨ a = infS) ∧ z = 1) ∨ (a ≠ lowS ∧ b ≠ infS ∧ b ≠ lowS ∧ a ≠ infS)),
      Calls Tryz.prog 75 #[.string a, .string b] w (IntEnd z w) := by
    intro a b z h0 c hz
    rcases h0 with ⟨rfl, rfl⟩ | h0
    · clear c hz
      go_enter Tryz.func75, Tryz.ntmps75
      go_wp2
      go_ret
      exact ⟨rfl, Below.refl _ _⟩
    · have hne : (a.toList == b.toList) = false := by rw [beq_eq_false_iff_ne]; exact ne_toList h0
      have al : ∀ s : ByteArray, s ≠ lowS → (s.toList == [45, 105, 110, 102]) = false := fun s h => ne_list (l := [45, 105, 110, 102]) h
      have ai : ∀ s : ByteArray, s ≠ infS → (s.toList == [105, 110, 102]) = false := fun s h => ne_list (l := [105, 110, 102]) h
      have AL := Lib.hid al; clear al
      have AI := Lib.hid ai; clear ai
      rcases hz h0 with ⟨h1, rfl⟩ | ⟨h1, h2, h3, rfl⟩ | ⟨h1, h2, h3, h4⟩
      · clear c hz
        by_cases h1' : a = lowS
        · have e1 : (a.toList == [45, 105, 110, 102]) = true := by rw [h1', lowS_list]; rfl
          clear h0 h1 h1'
          go_enter Tryz.func75, Tryz.ntmps75
          go_wp2
          go_ret
          exact ⟨rfl, Below.refl _ _⟩
        · have e1 := AL.out a h1'
          have e2 : (b.toList == [105, 110, 102]) = true := by rw [h1.resolve_left h1', infS_list]; rfl
          clear h0 h1 h1'
          go_enter Tryz.func75, Tryz.ntmps75
          go_wp2
          go_ret
          exact ⟨rfl, Below.refl _ _⟩
      · clear c hz
        have e1 := AL.out a h1
        have e2 := AI.out b h2
        by_cases h3' : b = lowS
        · have e3 : (b.toList == [45, 105, 110, 102]) = true := by rw [h3', lowS_list]; rfl
          cases e4 : (a.toList == [105, 110, 102])
          all_goals
            clear h0 h1 h2 h3 h3'
            go_enter Tryz.func75, Tryz.ntmps75
            go_wp2
            go_ret
            exact ⟨rfl, Below.refl _ _⟩
        · have e3 := AL.out b h3'
          have e4 : (a.toList == [105, 110, 102]) = true := by rw [h3.resolve_left h3', infS_list]; rfl
          clear h0 h1 h2 h3 h3'
          go_enter Tryz.func75, Tryz.ntmps75
          go_wp2
          go_ret
          exact ⟨rfl, Below.refl _ _⟩
      · have e1 := AL.out a h1
        have e2 := AI.out b h2
        have e3 := AL.out b h3
        have e4 := AI.out a h4
        have C := Lib.hid (c h0 h4 h1 h2 h3); clear c hz h0 h1 h2 h3 h4
        go_enter Tryz.func75, Tryz.ntmps75
        go_wp2_with fail
        refine C.out.mono ?_
        rintro e w1 ⟨rfl, hb⟩
        have HB := Lib.hid hb; clear hb
        go_wp2
        go_ret
        exact ⟨rfl, HB.out⟩
  refine run _ _ _ ?_ ?_ ?_
  · by_cases h : v = u
    · subst h; exact .inl ⟨(cmpV_zero v v).2 rfl, rfl⟩
    · exact .inr (fun e => h (vtxt_inj hv hu e))
  · intro _ h1 h2 h3 h4
    cases v with
    | inf => exact absurd rfl h1
    | low => exact absurd rfl h2
    | fin x =>
      cases u with
      | inf => exact absurd rfl h3
      | low => exact absurd rfl h4
      | fin y =>
        have hc := qcmp_any (txt x) (txt y) w (by have := txt_size hv; omega) (by have := txt_size hu; omega) ht
        rw [qcmpF_txt hv hu] at hc; exact hc
  · intro h
    have il : infS ≠ lowS := by decide
    have fi : ∀ q : Rat, fitQ q → txt q ≠ infS := fun q hq e => by have := txt_ne_inf hq; rw [e, infS_list] at this; simp at this
    have fl : ∀ q : Rat, fitQ q → txt q ≠ lowS := fun q hq e => by have := txt_ne_low hq; rw [e, lowS_list] at this; simp at this
    cases v with
    | inf =>
      cases u with
      | inf => exact absurd rfl h
      | low => exact .inr (.inl ⟨il, Ne.symm il, .inl rfl, rfl⟩)
      | fin y => exact .inr (.inl ⟨il, fi y hu, .inr rfl, rfl⟩)
    | low =>
      cases u with
      | inf => exact .inl ⟨.inl rfl, rfl⟩
      | low => exact absurd rfl h
      | fin y => exact .inl ⟨.inl rfl, rfl⟩
    | fin x =>
      cases u with
      | inf => exact .inl ⟨.inr rfl, rfl⟩
      | low => exact .inr (.inl ⟨fl x hv, Ne.symm il, .inl rfl, rfl⟩)
      | fin y => exact .inr (.inr ⟨fl x hv, fi y hu, fl y hu, fi x hv⟩)
end Go.Proofs.YtjekapjbigfkbaaGreatDoor
