/- The walks of the closures of rat.Add, Sub, Mul, Div. -/
import Derived.Test.YtlmfppjphblemaaGreatDoorRatH
namespace Go.Proofs.YtlmfppjphblemaaGreatDoor
open Go Go.RowKit
set_option maxRecDepth 100000
attribute [local go_sem ↓] Go.wp_at_zero Go.wp_at_succ

set_option maxHeartbeats 8000000 in
theorem addc_raw (p q : Bool) (xn xd yn yd a b c d : ByteArray) (s : Bool) (E : Ending) (w : World) (hE : (∃ r x y, E = .returned (.agg #[.bool r, .string x, .string y])) ∨ E = PT)
    (c1 : ∀ wx, Below w.heap.size w wx → Calls Tryz.prog 98 #[.string xn, .string yd] wx (StrZ a wx))
    (c2 : ∀ wx, Below w.heap.size w wx → Calls Tryz.prog 98 #[.string yn, .string xd] wx (StrZ b wx))
    (c3 : ∀ wx, Below w.heap.size w wx → Calls Tryz.prog 96 #[.bool p, .string a, .bool q, .string b] wx fun e w' => e = .returned (.tuple #[.bool s, .string c]) ∧ Below wx.heap.size wx w')
    (c4 : ∀ wx, Below w.heap.size w wx → Calls Tryz.prog 98 #[.string xd, .string yd] wx (StrZ d wx))
    (c5 : ∀ wx, Below w.heap.size w wx → Calls Tryz.prog 113 #[.bool s, .string c, .string d] wx fun e w' => e = E ∧ Below wx.heap.size wx w') :
    Calls Tryz.prog 112 #[nvS p xn xd, nvS q yn yd] w fun e w' => e = E ∧ Below w.heap.size w w' := by
  have C1 := Lib.hid c1; clear c1
  have C2 := Lib.hid c2; clear c2
  have C3 := Lib.hid c3; clear c3
  have C4 := Lib.hid c4; clear c4
  have C5 := Lib.hid c5; clear c5
  have HB0 := Lib.hid (WR_below p q xn xd yn yd w)
  have hb0 : Below (WR p q xn xd yn yd w).heap.size (WR p q xn xd yn yd w) (WR p q xn xd yn yd w).drew := (Below.refl _ _).drew
  unfold nvS
  rcases hE with ⟨r, x, y, rfl⟩ | rfl
  · -- a number
    go_enter Tryz.func112, Tryz.ntmps112
    go_wp2_with fail
    change Code.wp _ _ _ _ (WR p q xn xd yn yd w)
    go_region_held2 (fun wk => Below (WR p q xn xd yn yd w).heap.size (WR p q xn xd yn yd w) wk ∧
      wk.cell? ⟨w.heap.size, 0, none⟩ = some (.bool p) ∧ wk.cell? ⟨w.heap.size, 1, none⟩ = some (.string xn) ∧ wk.cell? ⟨w.heap.size, 2, none⟩ = some (.string xd) ∧
      wk.cell? ⟨w.heap.size + 1, 0, none⟩ = some (.bool q) ∧ wk.cell? ⟨w.heap.size + 1, 1, none⟩ = some (.string yn) ∧ wk.cell? ⟨w.heap.size + 1, 2, none⟩ = some (.string yd))
      (first | exact WR_cells (by assumption) | exact WR_cells (Below.refl _ _).drew)
      (first
      | (go_at_call_of 98 (Value.string xn); refine (C1.out _ (next_below HB0.out (by assumption))).mono ?_; rintro e w1 ⟨rfl, hb1⟩; have hn1 := next_below (by assumption) hb1)
      | (go_at_call_of 98 (Value.string yn); refine (C2.out _ (next_below HB0.out (by assumption))).mono ?_; rintro e w2 ⟨rfl, hb2⟩; have hn2 := next_below (by assumption) hb2)
      | (go_at_call 97; refine (must_ok _ _).mono ?_; rintro e w' ⟨rfl, rfl⟩)
      | (go_at_call 96; refine (C3.out _ (next_below HB0.out (by assumption))).mono ?_; rintro e w3 ⟨rfl, hb3⟩; have hn3 := next_below (by assumption) hb3))
    rename_i hH
    obtain ⟨_, e0, e1, e2, e3, e4, e5⟩ := hH
    go_wp2_with fail
    refine (C4.out _ (next_below HB0.out hn3)).mono ?_
    rintro e w4 ⟨rfl, hb4⟩
    have hn4 := next_below hn3 hb4
    go_wp2_with fail
    refine (must_ok _ _).mono ?_
    rintro e w' ⟨rfl, rfl⟩
    go_wp2_with fail
    refine (C5.out _ (next_below HB0.out hn4)).mono ?_
    rintro e w5 ⟨rfl, hb5⟩
    have hn5 := next_below hn4 hb5
    obtain ⟨k0, k1, k2, f0, f1, f2⟩ := WR_res hn5
    obtain ⟨s0, s1, s2⟩ := set3 (a' := .bool r) (b' := .string x) (c' := .string y) k0 k1 k2
    go_wp2_with fail
    refine bodyPost_ret (num_result rfl _ _ (w.heap.size + 1 + 1) r x y rfl s0 s1 s2) rfl ⟨rfl, (((next_below HB0.out hn5).setCell ?_ _).setCell ?_ _).setCell ?_ _⟩ <;> (show w.heap.size ≤ w.heap.size + 1 + 1; omega)
  · -- too long
    unfold PT at C5 ⊢
    go_enter Tryz.func112, Tryz.ntmps112
    go_wp2_with fail
    change Code.wp _ _ _ _ (WR p q xn xd yn yd w)
    go_region_held2 (fun wk => Below (WR p q xn xd yn yd w).heap.size (WR p q xn xd yn yd w) wk ∧
      wk.cell? ⟨w.heap.size, 0, none⟩ = some (.bool p) ∧ wk.cell? ⟨w.heap.size, 1, none⟩ = some (.string xn) ∧ wk.cell? ⟨w.heap.size, 2, none⟩ = some (.string xd) ∧
      wk.cell? ⟨w.heap.size + 1, 0, none⟩ = some (.bool q) ∧ wk.cell? ⟨w.heap.size + 1, 1, none⟩ = some (.string yn) ∧ wk.cell? ⟨w.heap.size + 1, 2, none⟩ = some (.string yd))
      (first | exact WR_cells (by assumption) | exact WR_cells (Below.refl _ _).drew)
      (first
      | (go_at_call_of 98 (Value.string xn); refine (C1.out _ (next_below HB0.out (by assumption))).mono ?_; rintro e w1 ⟨rfl, hb1⟩; have hn1 := next_below (by assumption) hb1)
      | (go_at_call_of 98 (Value.string yn); refine (C2.out _ (next_below HB0.out (by assumption))).mono ?_; rintro e w2 ⟨rfl, hb2⟩; have hn2 := next_below (by assumption) hb2)
      | (go_at_call 97; refine (must_ok _ _).mono ?_; rintro e w' ⟨rfl, rfl⟩)
      | (go_at_call 96; refine (C3.out _ (next_below HB0.out (by assumption))).mono ?_; rintro e w3 ⟨rfl, hb3⟩; have hn3 := next_below (by assumption) hb3))
    rename_i hH
    obtain ⟨_, e0, e1, e2, e3, e4, e5⟩ := hH
    go_wp2_with fail
    refine (C4.out _ (next_below HB0.out hn3)).mono ?_
    rintro e w4 ⟨rfl, hb4⟩
    have hn4 := next_below hn3 hb4
    go_wp2_with fail
    refine (must_ok _ _).mono ?_
    rintro e w' ⟨rfl, rfl⟩
    go_wp2_with fail
    refine (C5.out _ (next_below HB0.out hn4)).mono ?_
    rintro e w5 ⟨rfl, hb5⟩
    have hn5 := next_below hn4 hb5
    go_wp2_with fail
    exact ⟨rfl, rfl, next_below HB0.out hn5⟩
set_option maxHeartbeats 8000000 in
theorem subc_raw (p q : Bool) (xn xd yn yd a b c d : ByteArray) (s : Bool) (E : Ending) (w : World) (hE : (∃ r x y, E = .returned (.agg #[.bool r, .string x, .string y])) ∨ E = PT)
    (c1 : ∀ wx, Below w.heap.size w wx → Calls Tryz.prog 98 #[.string xn, .string yd] wx (StrZ a wx))
    (c2 : ∀ wx, Below w.heap.size w wx → Calls Tryz.prog 98 #[.string yn, .string xd] wx (StrZ b wx))
    (c3 : ∀ wx, Below w.heap.size w wx → Calls Tryz.prog 96 #[.bool p, .string a, .bool (!q), .string b] wx fun e w' => e = .returned (.tuple #[.bool s, .string c]) ∧ Below wx.heap.size wx w')
    (c4 : ∀ wx, Below w.heap.size w wx → Calls Tryz.prog 98 #[.string xd, .string yd] wx (StrZ d wx))
    (c5 : ∀ wx, Below w.heap.size w wx → Calls Tryz.prog 113 #[.bool s, .string c, .string d] wx fun e w' => e = E ∧ Below wx.heap.size wx w') :
    Calls Tryz.prog 139 #[nvS p xn xd, nvS q yn yd] w fun e w' => e = E ∧ Below w.heap.size w w' := by
  have C1 := Lib.hid c1; clear c1
  have C2 := Lib.hid c2; clear c2
  have C3 := Lib.hid c3; clear c3
  have C4 := Lib.hid c4; clear c4
  have C5 := Lib.hid c5; clear c5
  have HB0 := Lib.hid (WR_below p q xn xd yn yd w)
  have hb0 : Below (WR p q xn xd yn yd w).heap.size (WR p q xn xd yn yd w) (WR p q xn xd yn yd w).drew := (Below.refl _ _).drew
  unfold nvS
  rcases hE with ⟨r, x, y, rfl⟩ | rfl
  · -- a number
    go_enter Tryz.func139, Tryz.ntmps139
    go_wp2_with fail
    change Code.wp _ _ _ _ (WR p q xn xd yn yd w)
    go_region_held2 (fun wk => Below (WR p q xn xd yn yd w).heap.size (WR p q xn xd yn yd w) wk ∧
      wk.cell? ⟨w.heap.size, 0, none⟩ = some (.bool p) ∧ wk.cell? ⟨w.heap.size, 1, none⟩ = some (.string xn) ∧ wk.cell? ⟨w.heap.size, 2, none⟩ = some (.string xd) ∧
      wk.cell? ⟨w.heap.size + 1, 0, none⟩ = some (.bool q) ∧ wk.cell? ⟨w.heap.size + 1, 1, none⟩ = some (.string yn) ∧ wk.cell? ⟨w.heap.size + 1, 2, none⟩ = some (.string yd))
      (first | exact WR_cells (by assumption) | exact WR_cells (Below.refl _ _).drew)
      (first
      | (go_at_call_of 98 (Value.string xn); refine (C1.out _ (next_below HB0.out (by assumption))).mono ?_; rintro e w1 ⟨rfl, hb1⟩; have hn1 := next_below (by assumption) hb1)
      | (go_at_call_of 98 (Value.string yn); refine (C2.out _ (next_below HB0.out (by assumption))).mono ?_; rintro e w2 ⟨rfl, hb2⟩; have hn2 := next_below (by assumption) hb2)
      | (go_at_call 97; refine (must_ok _ _).mono ?_; rintro e w' ⟨rfl, rfl⟩)
      | (go_at_call 96; refine (C3.out _ (next_below HB0.out (by assumption))).mono ?_; rintro e w3 ⟨rfl, hb3⟩; have hn3 := next_below (by assumption) hb3))
    rename_i hH
    obtain ⟨_, e0, e1, e2, e3, e4, e5⟩ := hH
    go_wp2_with fail
    refine (C4.out _ (next_below HB0.out hn3)).mono ?_
    rintro e w4 ⟨rfl, hb4⟩
    have hn4 := next_below hn3 hb4
    go_wp2_with fail
    refine (must_ok _ _).mono ?_
    rintro e w' ⟨rfl, rfl⟩
    go_wp2_with fail
    refine (C5.out _ (next_below HB0.out hn4)).mono ?_
    rintro e w5 ⟨rfl, hb5⟩
    have hn5 := next_below hn4 hb5
    obtain ⟨k0, k1, k2, f0, f1, f2⟩ := WR_res hn5
    obtain ⟨s0, s1, s2⟩ := set3 (a' := .bool r) (b' := .string x) (c' := .string y) k0 k1 k2
    go_wp2_with fail
    refine bodyPost_ret (num_result rfl _ _ (w.heap.size + 1 + 1) r x y rfl s0 s1 s2) rfl ⟨rfl, (((next_below HB0.out hn5).setCell ?_ _).setCell ?_ _).setCell ?_ _⟩ <;> (show w.heap.size ≤ w.heap.size + 1 + 1; omega)
  · -- too long
    unfold PT at C5 ⊢
    go_enter Tryz.func139, Tryz.ntmps139
    go_wp2_with fail
    change Code.wp _ _ _ _ (WR p q xn xd yn yd w)
    go_region_held2 (fun wk => Below (WR p q xn xd yn yd w).heap.size (WR p q xn xd yn yd w) wk ∧
      wk.cell? ⟨w.heap.size, 0, none⟩ = some (.bool p) ∧ wk.cell? ⟨w.heap.size, 1, none⟩ = some (.string xn) ∧ wk.cell? ⟨w.heap.size, 2, none⟩ = some (.string xd) ∧
      wk.cell? ⟨w.heap.size + 1, 0, none⟩ = some (.bool q) ∧ wk.cell? ⟨w.heap.size + 1, 1, none⟩ = some (.string yn) ∧ wk.cell? ⟨w.heap.size + 1, 2, none⟩ = some (.string yd))
      (first | exact WR_cells (by assumption) | exact WR_cells (Below.refl _ _).drew)
      (first
      | (go_at_call_of 98 (Value.string xn); refine (C1.out _ (next_below HB0.out (by assumption))).mono ?_; rintro e w1 ⟨rfl, hb1⟩; have hn1 := next_below (by assumption) hb1)
      | (go_at_call_of 98 (Value.string yn); refine (C2.out _ (next_below HB0.out (by assumption))).mono ?_; rintro e w2 ⟨rfl, hb2⟩; have hn2 := next_below (by assumption) hb2)
      | (go_at_call 97; refine (must_ok _ _).mono ?_; rintro e w' ⟨rfl, rfl⟩)
      | (go_at_call 96; refine (C3.out _ (next_below HB0.out (by assumption))).mono ?_; rintro e w3 ⟨rfl, hb3⟩; have hn3 := next_below (by assumption) hb3))
    rename_i hH
    obtain ⟨_, e0, e1, e2, e3, e4, e5⟩ := hH
    go_wp2_with fail
    refine (C4.out _ (next_below HB0.out hn3)).mono ?_
    rintro e w4 ⟨rfl, hb4⟩
    have hn4 := next_below hn3 hb4
    go_wp2_with fail
    refine (must_ok _ _).mono ?_
    rintro e w' ⟨rfl, rfl⟩
    go_wp2_with fail
    refine (C5.out _ (next_below HB0.out hn4)).mono ?_
    rintro e w5 ⟨rfl, hb5⟩
    have hn5 := next_below hn4 hb5
    go_wp2_with fail
    exact ⟨rfl, rfl, next_below HB0.out hn5⟩
set_option maxHeartbeats 8000000 in
theorem mulc_raw (p q : Bool) (xn xd yn yd a b : ByteArray) (E : Ending) (w : World) (hE : (∃ r x y, E = .returned (.agg #[.bool r, .string x, .string y])) ∨ E = PT)
    (c1 : ∀ wx, Below w.heap.size w wx → Calls Tryz.prog 98 #[.string xn, .string yn] wx (StrZ a wx))
    (c2 : ∀ wx, Below w.heap.size w wx → Calls Tryz.prog 98 #[.string xd, .string yd] wx (StrZ b wx))
    (c5 : ∀ wx, Below w.heap.size w wx → Calls Tryz.prog 113 #[.bool (p != q), .string a, .string b] wx fun e w' => e = E ∧ Below wx.heap.size wx w') :
    Calls Tryz.prog 114 #[nvS p xn xd, nvS q yn yd] w fun e w' => e = E ∧ Below w.heap.size w w' := by
  have C1 := Lib.hid c1; clear c1
  have C2 := Lib.hid c2; clear c2
  have C5 := Lib.hid c5; clear c5
  have HB0 := Lib.hid (WR_below p q xn xd yn yd w)
  have hb0 : Below (WR p q xn xd yn yd w).heap.size (WR p q xn xd yn yd w) (WR p q xn xd yn yd w).drew := (Below.refl _ _).drew
  unfold nvS
  rcases hE with ⟨r, x, y, rfl⟩ | rfl
  · -- a number
    go_enter Tryz.func114, Tryz.ntmps114
    go_wp2_with fail
    change Code.wp _ _ _ _ (WR p q xn xd yn yd w)
    go_region_held2 (fun wk => Below (w.heap.size + 1 + 1) (WR p q xn xd yn yd w) wk ∧
      wk.cell? ⟨w.heap.size, 0, none⟩ = some (.bool p) ∧ wk.cell? ⟨w.heap.size, 1, none⟩ = some (.string xn) ∧ wk.cell? ⟨w.heap.size, 2, none⟩ = some (.string xd) ∧
      wk.cell? ⟨w.heap.size + 1, 0, none⟩ = some (.bool q) ∧ wk.cell? ⟨w.heap.size + 1, 1, none⟩ = some (.string yn) ∧ wk.cell? ⟨w.heap.size + 1, 2, none⟩ = some (.string yd))
      (first | exact WR_cells2 (WR_lo (by assumption)) | exact WR_cells2 (WR_lo (Below.refl _ _).drew) | exact WR_cells2 ((((WR_lo (by assumption)).setCell (Nat.le_refl _) _).setCell (Nat.le_refl _) _).setCell (Nat.le_refl _) _))
      (first
      | (go_at_call_of 98 (Value.string xn); refine (C1.out _ (next_below HB0.out (by assumption))).mono ?_; rintro e w1 ⟨rfl, hb1⟩; have hn1 := next_below (by assumption) hb1)
      | (go_at_call_of 98 (Value.string xd); refine (C2.out _ (next_below HB0.out (by assumption))).mono ?_; rintro e w2 ⟨rfl, hb2⟩; have hn2 := next_below (by assumption) hb2)
      | (go_at_call 97; refine (must_ok _ _).mono ?_; rintro e w' ⟨rfl, rfl⟩)
      | (go_at_call 113; refine (C5.out _ (next_below HB0.out (by assumption))).mono ?_; rintro e w3 ⟨rfl, hb3⟩; have hn3 := next_below (by assumption) hb3; obtain ⟨k0, k1, k2, f0, f1, f2⟩ := WR_res hn3; obtain ⟨s0, s1, s2⟩ := set3 (a' := .bool r) (b' := .string x) (c' := .string y) k0 k1 k2))
    go_wp2_with fail
    refine bodyPost_ret (num_result rfl _ _ (w.heap.size + 1 + 1) r x y rfl s0 s1 s2) rfl ⟨rfl, (((next_below HB0.out hn3).setCell ?_ _).setCell ?_ _).setCell ?_ _⟩ <;> (show w.heap.size ≤ w.heap.size + 1 + 1; omega)
  · -- too long
    unfold PT at C5 ⊢
    go_enter Tryz.func114, Tryz.ntmps114
    go_wp2_with fail
    change Code.wp _ _ _ _ (WR p q xn xd yn yd w)
    go_region_held2 (fun wk => Below (w.heap.size + 1 + 1) (WR p q xn xd yn yd w) wk ∧
      wk.cell? ⟨w.heap.size, 0, none⟩ = some (.bool p) ∧ wk.cell? ⟨w.heap.size, 1, none⟩ = some (.string xn) ∧ wk.cell? ⟨w.heap.size, 2, none⟩ = some (.string xd) ∧
      wk.cell? ⟨w.heap.size + 1, 0, none⟩ = some (.bool q) ∧ wk.cell? ⟨w.heap.size + 1, 1, none⟩ = some (.string yn) ∧ wk.cell? ⟨w.heap.size + 1, 2, none⟩ = some (.string yd))
      (first | exact WR_cells2 (WR_lo (by assumption)) | exact WR_cells2 (WR_lo (Below.refl _ _).drew) | exact WR_cells2 ((((WR_lo (by assumption)).setCell (Nat.le_refl _) _).setCell (Nat.le_refl _) _).setCell (Nat.le_refl _) _))
      (first
      | (go_at_call_of 98 (Value.string xn); refine (C1.out _ (next_below HB0.out (by assumption))).mono ?_; rintro e w1 ⟨rfl, hb1⟩; have hn1 := next_below (by assumption) hb1)
      | (go_at_call_of 98 (Value.string xd); refine (C2.out _ (next_below HB0.out (by assumption))).mono ?_; rintro e w2 ⟨rfl, hb2⟩; have hn2 := next_below (by assumption) hb2)
      | (go_at_call 97; refine (must_ok _ _).mono ?_; rintro e w' ⟨rfl, rfl⟩)
      | (go_at_call 113; refine (C5.out _ (next_below HB0.out (by assumption))).mono ?_; rintro e w3 ⟨rfl, hb3⟩; have hn3 := next_below (by assumption) hb3; obtain ⟨k0, k1, k2, f0, f1, f2⟩ := WR_res hn3; refine fakeK (by assumption) 26 (.agg #[.bool false, .string ⟨#[]⟩, .string ⟨#[]⟩]) ⟨rfl, rfl, next_below HB0.out hn3⟩ (fun hfalse => ?_)))
    exact hfalse.out.elim
set_option maxHeartbeats 8000000 in
theorem divc_raw (p q : Bool) (xn xd yn yd a b : ByteArray) (E : Ending) (w : World) (hE : (∃ r x y, E = .returned (.agg #[.bool r, .string x, .string y])) ∨ E = PT)
    (c1 : ∀ wx, Below w.heap.size w wx → Calls Tryz.prog 98 #[.string xn, .string yd] wx (StrZ a wx))
    (c2 : ∀ wx, Below w.heap.size w wx → Calls Tryz.prog 98 #[.string xd, .string yn] wx (StrZ b wx))
    (c5 : ∀ wx, Below w.heap.size w wx → Calls Tryz.prog 113 #[.bool (p != q), .string a, .string b] wx fun e w' => e = E ∧ Below wx.heap.size wx w') :
    Calls Tryz.prog 140 #[nvS p xn xd, nvS q yn yd] w fun e w' => e = E ∧ Below w.heap.size w w' := by
  have C1 := Lib.hid c1; clear c1
  have C2 := Lib.hid c2; clear c2
  have C5 := Lib.hid c5; clear c5
  have HB0 := Lib.hid (WR_below p q xn xd yn yd w)
  have hb0 : Below (WR p q xn xd yn yd w).heap.size (WR p q xn xd yn yd w) (WR p q xn xd yn yd w).drew := (Below.refl _ _).drew
  unfold nvS
  rcases hE with ⟨r, x, y, rfl⟩ | rfl
  · -- a number
    go_enter Tryz.func140, Tryz.ntmps140
    go_wp2_with fail
    change Code.wp _ _ _ _ (WR p q xn xd yn yd w)
    go_region_held2 (fun wk => Below (w.heap.size + 1 + 1) (WR p q xn xd yn yd w) wk ∧
      wk.cell? ⟨w.heap.size, 0, none⟩ = some (.bool p) ∧ wk.cell? ⟨w.heap.size, 1, none⟩ = some (.string xn) ∧ wk.cell? ⟨w.heap.size, 2, none⟩ = some (.string xd) ∧
      wk.cell? ⟨w.heap.size + 1, 0, none⟩ = some (.bool q) ∧ wk.cell? ⟨w.heap.size + 1, 1, none⟩ = some (.string yn) ∧ wk.cell? ⟨w.heap.size + 1, 2, none⟩ = some (.string yd))
      (first | exact WR_cells2 (WR_lo (by assumption)) | exact WR_cells2 (WR_lo (Below.refl _ _).drew) | exact WR_cells2 ((((WR_lo (by assumption)).setCell (Nat.le_refl _) _).setCell (Nat.le_refl _) _).setCell (Nat.le_refl _) _))
      (first
      | (go_at_call_of 98 (Value.string xn); refine (C1.out _ (next_below HB0.out (by assumption))).mono ?_; rintro e w1 ⟨rfl, hb1⟩; have hn1 := next_below (by assumption) hb1)
      | (go_at_call_of 98 (Value.string xd); refine (C2.out _ (next_below HB0.out (by assumption))).mono ?_; rintro e w2 ⟨rfl, hb2⟩; have hn2 := next_below (by assumption) hb2)
      | (go_at_call 97; refine (must_ok _ _).mono ?_; rintro e w' ⟨rfl, rfl⟩)
      | (go_at_call 113; refine (C5.out _ (next_below HB0.out (by assumption))).mono ?_; rintro e w3 ⟨rfl, hb3⟩; have hn3 := next_below (by assumption) hb3; obtain ⟨k0, k1, k2, f0, f1, f2⟩ := WR_res hn3; obtain ⟨s0, s1, s2⟩ := set3 (a' := .bool r) (b' := .string x) (c' := .string y) k0 k1 k2))
    go_wp2_with fail
    refine bodyPost_ret (num_result rfl _ _ (w.heap.size + 1 + 1) r x y rfl s0 s1 s2) rfl ⟨rfl, (((next_below HB0.out hn3).setCell ?_ _).setCell ?_ _).setCell ?_ _⟩ <;> (show w.heap.size ≤ w.heap.size + 1 + 1; omega)
  · -- too long
    unfold PT at C5 ⊢
    go_enter Tryz.func140, Tryz.ntmps140
    go_wp2_with fail
    change Code.wp _ _ _ _ (WR p q xn xd yn yd w)
    go_region_held2 (fun wk => Below (w.heap.size + 1 + 1) (WR p q xn xd yn yd w) wk ∧
      wk.cell? ⟨w.heap.size, 0, none⟩ = some (.bool p) ∧ wk.cell? ⟨w.heap.size, 1, none⟩ = some (.string xn) ∧ wk.cell? ⟨w.heap.size, 2, none⟩ = some (.string xd) ∧
      wk.cell? ⟨w.heap.size + 1, 0, none⟩ = some (.bool q) ∧ wk.cell? ⟨w.heap.size + 1, 1, none⟩ = some (.string yn) ∧ wk.cell? ⟨w.heap.size + 1, 2, none⟩ = some (.string yd))
      (first | exact WR_cells2 (WR_lo (by assumption)) | exact WR_cells2 (WR_lo (Below.refl _ _).drew) | exact WR_cells2 ((((WR_lo (by assumption)).setCell (Nat.le_refl _) _).setCell (Nat.le_refl _) _).setCell (Nat.le_refl _) _))
      (first
      | (go_at_call_of 98 (Value.string xn); refine (C1.out _ (next_below HB0.out (by assumption))).mono ?_; rintro e w1 ⟨rfl, hb1⟩; have hn1 := next_below (by assumption) hb1)
      | (go_at_call_of 98 (Value.string xd); refine (C2.out _ (next_below HB0.out (by assumption))).mono ?_; rintro e w2 ⟨rfl, hb2⟩; have hn2 := next_below (by assumption) hb2)
      | (go_at_call 97; refine (must_ok _ _).mono ?_; rintro e w' ⟨rfl, rfl⟩)
      | (go_at_call 113; refine (C5.out _ (next_below HB0.out (by assumption))).mono ?_; rintro e w3 ⟨rfl, hb3⟩; have hn3 := next_below (by assumption) hb3; obtain ⟨k0, k1, k2, f0, f1, f2⟩ := WR_res hn3; refine fakeK (by assumption) 26 (.agg #[.bool false, .string ⟨#[]⟩, .string ⟨#[]⟩]) ⟨rfl, rfl, next_below HB0.out hn3⟩ (fun hfalse => ?_)))
    exact hfalse.out.elim
end Go.Proofs.YtlmfppjphblemaaGreatDoor
