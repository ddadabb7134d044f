/- The walk of rat.Cmp. -/
import Derived.Test.YtlmfppjphblemaaGreatDoorRatF
namespace Go.Proofs.YtlmfppjphblemaaGreatDoor
open Go Go.RowKit
set_option maxRecDepth 100000
attribute [local go_sem ↓] Go.wp_at_zero Go.wp_at_succ

set_option maxHeartbeats 8000000 in
theorem cmp_raw (p q : Bool) (xn xd yn yd a b c : ByteArray) (s : Bool) (v : Int) (s1 s2 : ByteArray) (w : World)
    (hv : ((c.toList == [48]) = true ∧ v = 0) ∨ ((c.toList == [48]) = false ∧ s = true ∧ v = -1) ∨ ((c.toList == [48]) = false ∧ s = false ∧ v = 1))
    (c0 : ∀ wx, Below w.heap.size w wx → Calls Tryz.prog 95 #[.string s1] wx fun e w' => e = .returned (.tuple #[.agg #[.bool p, .string xn, .string xd], .bool true]) ∧ Below wx.heap.size wx w')
    (c0' : ∀ wx, Below w.heap.size w wx → Calls Tryz.prog 95 #[.string s2] wx fun e w' => e = .returned (.tuple #[.agg #[.bool q, .string yn, .string yd], .bool true]) ∧ Below wx.heap.size wx w')
    (c1 : ∀ wx, Below w.heap.size w wx → Calls Tryz.prog 98 #[.string xn, .string yd] wx (StrZ a wx))
    (c2 : ∀ wx, Below w.heap.size w wx → Calls Tryz.prog 98 #[.string yn, .string xd] wx (StrZ b wx))
    (c3 : ∀ wx, Below w.heap.size w wx → Calls Tryz.prog 96 #[.bool p, .string a, .bool (!q), .string b] wx fun e w' => e = .returned (.tuple #[.bool s, .string c]) ∧ Below wx.heap.size wx w') :
    Calls Tryz.prog 76 #[.string s1, .string s2] w (IntEnd v w) := by
  have C0 := Lib.hid c0; clear c0
  have C0' := Lib.hid c0'; clear c0'
  have C1 := Lib.hid c1; clear c1
  have C2 := Lib.hid c2; clear c2
  have C3 := Lib.hid c3; clear c3
  have HV := Lib.hid hv; clear hv
  go_enter Tryz.func76, Tryz.ntmps76
  go_wp2_with fail
  refine (C0.out _ (Below.refl _ _)).mono ?_
  rintro e w1 ⟨rfl, hb1⟩
  have HA1 := Lib.hid hb1
  have HB1 := Lib.hid (hb1.alloc hb1.size (.cells #[.bool p, .string xn, .string xd] 104)); clear hb1
  go_wp2_with fail
  refine (C0'.out _ HB1.out).mono ?_
  rintro e w2 ⟨rfl, hb2⟩
  have HA2 := Lib.hid hb2
  have HB2 := Lib.hid ((next_below HB1.out hb2).alloc (Nat.le_trans HB1.out.size hb2.size) (.cells #[.bool q, .string yn, .string yd] 104)); clear hb2
  go_wp2_with fail
  obtain ⟨W, hW⟩ : ∃ W, W = w2.alloc (.cells #[.bool q, .string yn, .string yd] 104) := ⟨_, rfl⟩
  have hcells : ∀ wk, Below W.heap.size W wk → (Below W.heap.size W wk ∧
    wk.cell? ⟨w1.heap.size, 0, none⟩ = some (.bool p) ∧ wk.cell? ⟨w1.heap.size, 1, none⟩ = some (.string xn) ∧ wk.cell? ⟨w1.heap.size, 2, none⟩ = some (.string xd) ∧
    wk.cell? ⟨w2.heap.size, 0, none⟩ = some (.bool q) ∧ wk.cell? ⟨w2.heap.size, 1, none⟩ = some (.string yn) ∧ wk.cell? ⟨w2.heap.size, 2, none⟩ = some (.string yd)) := by
    intro wk h
    subst hW
    have z1 := HA2.out.size
    rw [World.size_alloc] at z1
    have cx : ∀ (i : Nat) (v : Value), (w1.alloc (.cells #[.bool p, .string xn, .string xd] 104)).cell? ⟨w1.heap.size, i, none⟩ = some v → wk.cell? ⟨w1.heap.size, i, none⟩ = some v := by
      intro i v hv
      refine (h.cell (p := ⟨w1.heap.size, i, none⟩) (by rw [World.size_alloc]; show w1.heap.size < _; omega)).trans ?_
      rw [World.cell?_alloc_past (hn := by omega)]
      exact (HA2.out.cell (p := ⟨w1.heap.size, i, none⟩) (by rw [World.size_alloc]; show w1.heap.size < _; omega)).trans hv
    have cy : ∀ (i : Nat) (v : Value), (w2.alloc (.cells #[.bool q, .string yn, .string yd] 104)).cell? ⟨w2.heap.size, i, none⟩ = some v → wk.cell? ⟨w2.heap.size, i, none⟩ = some v := by
      intro i v hv
      exact (h.cell (p := ⟨w2.heap.size, i, none⟩) (by rw [World.size_alloc]; show w2.heap.size < _; omega)).trans hv
    exact ⟨h, cx 0 _ (by simp [go_sem]), cx 1 _ (by simp [go_sem]), cx 2 _ (by simp [go_sem]), cy 0 _ (by simp [go_sem]), cy 1 _ (by simp [go_sem]), cy 2 _ (by simp [go_sem])⟩
  rw [← hW]
  rw [← hW] at HB2
  have HC := Lib.hid hcells; clear hcells
  have HWW := Lib.hid hW; clear hW
  have hb0 : Below W.heap.size W W.drew := (Below.refl _ _).drew
  go_region_held2 (fun wk => Below W.heap.size W wk ∧
    wk.cell? ⟨w1.heap.size, 0, none⟩ = some (.bool p) ∧ wk.cell? ⟨w1.heap.size, 1, none⟩ = some (.string xn) ∧ wk.cell? ⟨w1.heap.size, 2, none⟩ = some (.string xd) ∧
    wk.cell? ⟨w2.heap.size, 0, none⟩ = some (.bool q) ∧ wk.cell? ⟨w2.heap.size, 1, none⟩ = some (.string yn) ∧ wk.cell? ⟨w2.heap.size, 2, none⟩ = some (.string yd))
    (first | exact HC.out _ (by assumption) | exact HC.out _ (Below.refl _ _).drew)
    (first
      | (go_at_call_of 98 (Value.string xn); refine (C1.out _ (next_below HB2.out (by assumption))).mono ?_; rintro e w1 ⟨rfl, hb1⟩; have hn1 := next_below (by assumption) hb1)
      | (go_at_call_of 98 (Value.string yn); refine (C2.out _ (next_below HB2.out (by assumption))).mono ?_; rintro e w2 ⟨rfl, hb2⟩; have hn2 := next_below (by assumption) hb2)
      | (go_at_call 97; refine (must_ok _ _).mono ?_; rintro e w' ⟨rfl, rfl⟩)
      | (go_at_call 96; refine (C3.out _ (next_below HB2.out (by assumption))).mono ?_; rintro e w3 ⟨rfl, hb3⟩; have hn3 := next_below (by assumption) hb3))
  have HN3 := Lib.hid hn3
  rcases HV.out with ⟨h1, rfl⟩ | ⟨h1, rfl, rfl⟩ | ⟨h1, rfl, rfl⟩
  · go_wp2_with fail
    go_ret
    exact ⟨rfl, next_below HB2.out HN3.out⟩
  · go_wp2_with fail
    go_ret
    exact ⟨rfl, next_below HB2.out HN3.out⟩
  · go_wp2_with fail
    go_ret
    exact ⟨rfl, next_below HB2.out HN3.out⟩
theorem sd_zero_iff (n : Nat) : ((str (dec n)).toList == [48]) = decide (n = 0) := by
  rw [str_eq, decide_eq_decide]
  exact ⟨fun h => dec_inj (h.trans dec_zero.symm), fun h => by rw [h, dec_zero]⟩
set_option maxHeartbeats 1000000 in
theorem qcmp_any (a b : ByteArray) (w : World) (ha : a.size ≤ 9223372036854775807) (hb : b.size ≤ 9223372036854775807) (ht : Tab w) :
    Calls Tryz.prog 76 #[.string a, .string b] w (IntEnd (qcmpF a b) w) := by
  have hT : ∀ wx, Below w.heap.size w wx → Tab wx := fun wx h => ht.below h (Nat.le_refl _)
  have c1 := fun wx (h : Below w.heap.size w wx) => parse_any a wx ha (hT wx h)
  have c2 := fun wx (h : Below w.heap.size w wx) => parse_any b wx hb (hT wx h)
  cases h1 : prs a with
  | none =>
    have hr : qcmpF a b = 0 := by unfold qcmpF; rw [h1]
    rw [hr]; simp only [h1, Option.isSome, prsV] at c1
    generalize (prs b).isSome = o at c2
    obtain ⟨r, x, y, hz⟩ := prsV_agg (prs b)
    rw [hz] at c2
    have C1 := Lib.hid c1; clear c1
    have C2 := Lib.hid c2; clear c2 hr h1 hz ht ha hb hT
    unfold NoNum nvS at C1
    go_enter Tryz.func76, Tryz.ntmps76
    go_wp2_with fail
    refine (C1.out _ (Below.refl _ _)).mono ?_
    rintro e w1 ⟨rfl, hb1⟩
    have HB1 := Lib.hid (hb1.alloc hb1.size (.cells #[.bool false, .string ⟨#[]⟩, .string ⟨#[]⟩] 104)); clear hb1
    go_wp2_with fail
    refine (C2.out _ HB1.out).mono ?_
    rintro e w2 ⟨rfl, hb2⟩
    have HB2 := Lib.hid (next_below HB1.out hb2); clear hb2
    go_wp2_with fail
    go_ret
    exact ⟨rfl, HB2.out.alloc HB2.out.size _⟩
  | some x =>
    simp only [h1, Option.isSome, prsV] at c1
    cases h2 : prs b with
    | none =>
      have hr : qcmpF a b = 0 := by unfold qcmpF; rw [h1, h2]
      rw [hr]; simp only [h2, Option.isSome, prsV] at c2
      have C1 := Lib.hid c1; clear c1
      have C2 := Lib.hid c2; clear c2 hr h1 h2 ht ha hb hT
      unfold NoNum nvS at C2
      unfold nv nvS at C1
      go_enter Tryz.func76, Tryz.ntmps76
      go_wp2_with fail
      refine (C1.out _ (Below.refl _ _)).mono ?_
      rintro e w1 ⟨rfl, hb1⟩
      have HB1 := Lib.hid (hb1.alloc hb1.size (.cells #[.bool (negQ x), .string (str (dec x.num.natAbs)), .string (str (dec x.den))] 104)); clear hb1
      go_wp2_with fail
      refine (C2.out _ HB1.out).mono ?_
      rintro e w2 ⟨rfl, hb2⟩
      have HB2 := Lib.hid (next_below HB1.out hb2); clear hb2
      go_wp2_with fail
      go_ret
      exact ⟨rfl, HB2.out.alloc HB2.out.size _⟩
    | some y =>
      have hx := (txt_prs h1).2
      have hy := (txt_prs h2).2
      have hr : qcmpF a b = cmpQ x y := by unfold qcmpF; rw [h1, h2]
      rw [hr]; simp only [h2, Option.isSome, prsV] at c2
      have f1 : fits (x.num.natAbs * y.den) := fits_mul hx.1 hy.2
      have f2 : fits (y.num.natAbs * x.den) := fits_mul hy.1 hx.2
      have f3 : fits (x.num.natAbs * y.den + y.num.natAbs * x.den) := fits_sum hx.1 hy.2 hy.1 hx.2
      refine cmp_raw (negQ x) (negQ y) _ _ _ _ (str (dec (x.num.natAbs * y.den))) (str (dec (y.num.natAbs * x.den))) (str (dec (sumF (negQ x) (x.num.natAbs * y.den) (!negQ y) (y.num.natAbs * x.den)).2)) (sumF (negQ x) (x.num.natAbs * y.den) (!negQ y) (y.num.natAbs * x.den)).1 (cmpQ x y) a b w ?_ c1 c2
        (fun wx h => nmul_sd _ _ wx (fit_num hx) (fit_den hy) f1 (hT wx h)) (fun wx h => nmul_sd _ _ wx (fit_num hy) (fit_den hx) f2 (hT wx h))
        (fun wx h => ratplus_sd (negQ x) (!negQ y) _ _ wx f3 (hT wx h))
      rw [cmp_mk x y, sd_zero_iff]
      generalize sumF (negQ x) (x.num.natAbs * y.den) (!negQ y) (y.num.natAbs * x.den) = r
      obtain ⟨s, k⟩ := r
      by_cases hk : k = 0
      · left; simp [hk]
      · right; cases s <;> simp [hk]
end Go.Proofs.YtlmfppjphblemaaGreatDoor
