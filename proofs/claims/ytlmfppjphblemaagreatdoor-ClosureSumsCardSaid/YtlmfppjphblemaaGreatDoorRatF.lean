/- The walks of rat.Add, Sub, Mul, Div, Valid: what they return, as functions of the rational numbers that the strings stand for. -/
import Derived.Test.YtlmfppjphblemaaGreatDoorRatE
import Derived.Test.YtlmfppjphblemaaGreatDoorRatC
namespace Go.Proofs.YtlmfppjphblemaaGreatDoor
open Go Go.RowKit
set_option maxRecDepth 100000

theorem addc_q (x y : Rat) (w : World) (hx : fitQ x) (hy : fitQ y) (ht : Tab w) : Calls Tryz.prog 112 #[nv x, nv y] w (QEnd (x + y) w) := by
  have hT : ∀ wx, Below w.heap.size w wx → Tab wx := fun wx h => ht.below h (Nat.le_refl _)
  have h1 : fits (x.num.natAbs * y.den) := fits_mul hx.1 hy.2
  have h2 : fits (y.num.natAbs * x.den) := fits_mul hy.1 hx.2
  have h3 : fits (x.num.natAbs * y.den + y.num.natAbs * x.den) := fits_sum hx.1 hy.2 hy.1 hx.2
  have h4 : fits (x.den * y.den) := fits_mul hx.2 hy.2
  unfold QEnd
  rw [add_mk x y]
  exact addc_raw (negQ x) (negQ y) _ _ _ _ (str (dec (x.num.natAbs * y.den))) (str (dec (y.num.natAbs * x.den))) _ (str (dec (x.den * y.den))) _ _ w (qE _)
    (fun wx h => nmul_sd _ _ wx (fit_num hx) (fit_den hy) h1 (hT wx h)) (fun wx h => nmul_sd _ _ wx (fit_num hy) (fit_den hx) h2 (hT wx h))
    (fun wx h => ratplus_sd (negQ x) (negQ y) _ _ wx h3 (hT wx h)) (fun wx h => nmul_sd _ _ wx (fit_den hx) (fit_den hy) h4 (hT wx h))
    (fun wx h => reduce_sd _ _ _ wx (fits_le h3 (sumF_le _ _ _ _)) h4 (Nat.mul_ne_zero x.den_nz y.den_nz) (hT wx h))
theorem subc_q (x y : Rat) (w : World) (hx : fitQ x) (hy : fitQ y) (ht : Tab w) : Calls Tryz.prog 139 #[nv x, nv y] w (QEnd (x - y) w) := by
  have hT : ∀ wx, Below w.heap.size w wx → Tab wx := fun wx h => ht.below h (Nat.le_refl _)
  have h1 : fits (x.num.natAbs * y.den) := fits_mul hx.1 hy.2
  have h2 : fits (y.num.natAbs * x.den) := fits_mul hy.1 hx.2
  have h3 : fits (x.num.natAbs * y.den + y.num.natAbs * x.den) := fits_sum hx.1 hy.2 hy.1 hx.2
  have h4 : fits (x.den * y.den) := fits_mul hx.2 hy.2
  unfold QEnd
  rw [sub_mk x y]
  exact subc_raw (negQ x) (negQ y) _ _ _ _ (str (dec (x.num.natAbs * y.den))) (str (dec (y.num.natAbs * x.den))) _ (str (dec (x.den * y.den))) _ _ w (qE _)
    (fun wx h => nmul_sd _ _ wx (fit_num hx) (fit_den hy) h1 (hT wx h)) (fun wx h => nmul_sd _ _ wx (fit_num hy) (fit_den hx) h2 (hT wx h))
    (fun wx h => ratplus_sd (negQ x) (!negQ y) _ _ wx h3 (hT wx h)) (fun wx h => nmul_sd _ _ wx (fit_den hx) (fit_den hy) h4 (hT wx h))
    (fun wx h => reduce_sd _ _ _ wx (fits_le h3 (sumF_le _ _ _ _)) h4 (Nat.mul_ne_zero x.den_nz y.den_nz) (hT wx h))
theorem mulc_q (x y : Rat) (w : World) (hx : fitQ x) (hy : fitQ y) (ht : Tab w) : Calls Tryz.prog 114 #[nv x, nv y] w (QEnd (x * y) w) := by
  have hT : ∀ wx, Below w.heap.size w wx → Tab wx := fun wx h => ht.below h (Nat.le_refl _)
  have h1 : fits (x.num.natAbs * y.num.natAbs) := fits_mul hx.1 hy.1
  have h2 : fits (x.den * y.den) := fits_mul hx.2 hy.2
  unfold QEnd
  rw [mul_mk x y]
  exact mulc_raw (negQ x) (negQ y) _ _ _ _ (str (dec (x.num.natAbs * y.num.natAbs))) (str (dec (x.den * y.den))) _ w (qE _)
    (fun wx h => nmul_sd _ _ wx (fit_num hx) (fit_num hy) h1 (hT wx h)) (fun wx h => nmul_sd _ _ wx (fit_den hx) (fit_den hy) h2 (hT wx h))
    (fun wx h => reduce_sd _ _ _ wx h1 h2 (Nat.mul_ne_zero x.den_nz y.den_nz) (hT wx h))
theorem divc_q (x y : Rat) (w : World) (hx : fitQ x) (hy : fitQ y) (h0 : y ≠ 0) (ht : Tab w) : Calls Tryz.prog 140 #[nv x, nv y] w (QEnd (x / y) w) := by
  have hT : ∀ wx, Below w.heap.size w wx → Tab wx := fun wx h => ht.below h (Nat.le_refl _)
  have h1 : fits (x.num.natAbs * y.den) := fits_mul hx.1 hy.2
  have h2 : fits (x.den * y.num.natAbs) := fits_mul hx.2 hy.1
  unfold QEnd
  rw [div_mk x y]
  exact divc_raw (negQ x) (negQ y) _ _ _ _ (str (dec (x.num.natAbs * y.den))) (str (dec (x.den * y.num.natAbs))) _ w (qE _)
    (fun wx h => nmul_sd _ _ wx (fit_num hx) (fit_den hy) h1 (hT wx h)) (fun wx h => nmul_sd _ _ wx (fit_den hx) (fit_num hy) h2 (hT wx h))
    (fun wx h => reduce_sd _ _ _ wx h1 h2 ((Nat.mul_ne_zero x.den_nz (fun e => h0 (Rat.num_eq_zero.1 (Int.natAbs_eq_zero.1 e))))) (hT wx h))
theorem enterAdd : ∀ args w, (callFunc 112 args).run Tryz.prog w = .ok (.enter 112 args) w := fun args w => by kernel_rfl
theorem qadd_any (a b : ByteArray) (w : World) (ha : a.size ≤ 9223372036854775807) (hb : b.size ≤ 9223372036854775807) (ht : Tab w) :
    Calls Tryz.prog 86 #[.string a, .string b] w (PairEnd (qaddF a b) w) := by
  have hc := compute_any 112 (fun x y => x + y) a b w ha hb ht enterAdd (fun x y hx hy wx h => addc_q x y wx (txt_prs hx).2 (txt_prs hy).2 (ht.below h (Nat.le_refl _)))
  have hr : okR (fun x y => x + y) a b = qaddF a b := rfl
  rw [hr] at hc
  generalize qaddF a b = r at *
  obtain ⟨rs, rn⟩ := r
  have HC := Lib.hid hc; clear hc hr ht ha hb
  go_enter Tryz.func86, Tryz.ntmps86
  go_wp2_with fail
  refine HC.out.mono ?_
  rintro e w' ⟨rfl, hb⟩
  have HB := Lib.hid hb; clear hb
  go_wp2_with fail
  go_ret2
  exact ⟨rfl, HB.out⟩
theorem enterSub : ∀ args w, (callFunc 139 args).run Tryz.prog w = .ok (.enter 139 args) w := fun args w => by kernel_rfl
theorem qsub_any (a b : ByteArray) (w : World) (ha : a.size ≤ 9223372036854775807) (hb : b.size ≤ 9223372036854775807) (ht : Tab w) :
    Calls Tryz.prog 115 #[.string a, .string b] w (PairEnd (qsubF a b) w) := by
  have hc := compute_any 139 (fun x y => x - y) a b w ha hb ht enterSub (fun x y hx hy wx h => subc_q x y wx (txt_prs hx).2 (txt_prs hy).2 (ht.below h (Nat.le_refl _)))
  have hr : okR (fun x y => x - y) a b = qsubF a b := rfl
  rw [hr] at hc
  generalize qsubF a b = r at *
  obtain ⟨rs, rn⟩ := r
  have HC := Lib.hid hc; clear hc hr ht ha hb
  go_enter Tryz.func115, Tryz.ntmps115
  go_wp2_with fail
  refine HC.out.mono ?_
  rintro e w' ⟨rfl, hb⟩
  have HB := Lib.hid hb; clear hb
  go_wp2_with fail
  go_ret2
  exact ⟨rfl, HB.out⟩
theorem enterMul : ∀ args w, (callFunc 114 args).run Tryz.prog w = .ok (.enter 114 args) w := fun args w => by kernel_rfl
theorem qmul_any (a b : ByteArray) (w : World) (ha : a.size ≤ 9223372036854775807) (hb : b.size ≤ 9223372036854775807) (ht : Tab w) :
    Calls Tryz.prog 90 #[.string a, .string b] w (PairEnd (qmulF a b) w) := by
  have hc := compute_any 114 (fun x y => x * y) a b w ha hb ht enterMul (fun x y hx hy wx h => mulc_q x y wx (txt_prs hx).2 (txt_prs hy).2 (ht.below h (Nat.le_refl _)))
  have hr : okR (fun x y => x * y) a b = qmulF a b := rfl
  rw [hr] at hc
  generalize qmulF a b = r at *
  obtain ⟨rs, rn⟩ := r
  have HC := Lib.hid hc; clear hc hr ht ha hb
  go_enter Tryz.func90, Tryz.ntmps90
  go_wp2_with fail
  refine HC.out.mono ?_
  rintro e w' ⟨rfl, hb⟩
  have HB := Lib.hid hb; clear hb
  go_wp2_with fail
  go_ret2
  exact ⟨rfl, HB.out⟩
theorem qvalid_any (a : ByteArray) (w : World) (ha : a.size ≤ 9223372036854775807) (ht : Tab w) :
    Calls Tryz.prog 88 #[.string a] w fun e w' => e = .returned (.bool (prs a).isSome) ∧ Below w.heap.size w w' := by
  have hc := parse_any a w ha ht
  obtain ⟨r, x, y, hz⟩ := prsV_agg (prs a)
  rw [hz] at hc
  generalize (prs a).isSome = o at *
  have HC := Lib.hid hc; clear hc hz ha ht
  go_enter Tryz.func88, Tryz.ntmps88
  go_wp2_with fail
  refine HC.out.mono ?_
  rintro e w' ⟨rfl, hb⟩
  have HB := Lib.hid hb; clear hb
  go_wp2_with fail
  go_ret
  exact ⟨rfl, HB.out⟩
theorem prs_zero : prs ⟨#[48]⟩ = some 0 := by
  have : txt 0 = ⟨#[48]⟩ := by unfold txt txtL; rw [show negQ 0 = false from rfl, show (0 : Rat).num.natAbs = 0 from rfl, show (0 : Rat).den = 1 from rfl, dec_zero]; rfl
  rw [← this]; exact prs_txt (by unfold fitQ; rw [show (0 : Rat).num.natAbs = 0 from rfl, show (0 : Rat).den = 1 from rfl, dec_zero, dec_one]; decide)
theorem prs_eq_zero {b : ByteArray} (h : prs b = some 0) : b = ⟨#[48]⟩ := by
  have h1 := (txt_prs h).1
  have h2 := (txt_prs prs_zero).1
  rw [h1, h2]
theorem enterDiv : ∀ args w, (callFunc 140 args).run Tryz.prog w = .ok (.enter 140 args) w := fun args w => by kernel_rfl
theorem qdiv_any (a b : ByteArray) (w : World) (ha : a.size ≤ 9223372036854775807) (hb : b.size ≤ 9223372036854775807) (ht : Tab w) :
    Calls Tryz.prog 116 #[.string a, .string b] w (PairEnd (qdivF a b) w) := by
  have c1 := qvalid_any a w ha ht
  by_cases hz : b = ⟨#[48]⟩
  · subst hz
    cases h1 : prs a with
    | some x =>
      have hr : qdivF a ⟨#[48]⟩ = (str [], 4) := by unfold qdivF; rw [h1, prs_zero]; simp
      rw [hr]; rw [h1] at c1; simp only [Option.isSome] at c1
      have C1 := Lib.hid c1; clear c1 ha hb ht h1 hr
      go_enter Tryz.func116, Tryz.ntmps116
      go_wp2_with fail
      refine C1.out.mono ?_
      rintro e w' ⟨rfl, hb⟩
      have HB := Lib.hid hb; clear hb
      go_wp2_with fail
      go_ret2
      exact ⟨rfl, HB.out⟩
    | none =>
      have hr : qdivF a ⟨#[48]⟩ = (str [], 1) := by unfold qdivF; rw [h1]
      rw [hr]
      have c2 := fun wx (h : Below w.heap.size w wx) => compute_any 140 (fun x y => x / y) a ⟨#[48]⟩ wx ha hb (ht.below h (Nat.le_refl _)) enterDiv (fun x y hx => by rw [h1] at hx; simp at hx)
      have hk : okR (fun x y => x / y) a ⟨#[48]⟩ = (str [], 1) := by unfold okR; rw [h1]
      rw [hk] at c2; rw [h1] at c1; simp only [Option.isSome] at c1
      have C1 := Lib.hid c1
      have C2 := Lib.hid c2; clear c1 c2 ha hb ht h1 hr hk
      go_enter Tryz.func116, Tryz.ntmps116
      go_wp2_with fail
      refine C1.out.mono ?_
      rintro e w1 ⟨rfl, hb⟩
      have HB1 := Lib.hid hb; clear hb
      go_wp2_with fail
      refine (C2.out _ HB1.out).mono ?_
      rintro e w2 ⟨rfl, hb⟩
      have HB2 := Lib.hid (next_below HB1.out hb); clear hb
      go_wp2_with fail
      go_ret2
      exact ⟨rfl, HB2.out⟩
  · have hzl : (b.toList == [48]) = false := ne_list hz
    have c2 := fun wx (h : Below w.heap.size w wx) => compute_any 140 (fun x y => x / y) a b wx ha hb (ht.below h (Nat.le_refl _)) enterDiv
      (fun x y hx hy wy hh => divc_q x y wy (txt_prs hx).2 (txt_prs hy).2 (fun e => by subst e; exact hz (prs_eq_zero hy)) (ht.below (h.trans (hh.mono h.size)) (Nat.le_refl _)))
    have hr : okR (fun x y => x / y) a b = qdivF a b := by
      unfold okR qdivF
      cases h1 : prs a with
      | none => rfl
      | some x =>
        cases h2 : prs b with
        | none => rfl
        | some y => simp only; rw [if_neg (fun e => by subst e; exact hz (prs_eq_zero h2))]
    rw [hr] at c2
    generalize qdivF a b = r at *
    obtain ⟨rs, rn⟩ := r
    generalize (prs a).isSome = o at *
    have C1 := Lib.hid c1
    have C2 := Lib.hid c2; clear c1 c2 ha hb ht hr hz
    cases o
    · go_enter Tryz.func116, Tryz.ntmps116
      go_wp2_with fail
      refine C1.out.mono ?_
      rintro e w1 ⟨rfl, hb⟩
      have HB1 := Lib.hid hb; clear hb
      go_wp2_with fail
      refine (C2.out _ HB1.out).mono ?_
      rintro e w2 ⟨rfl, hb⟩
      have HB2 := Lib.hid (next_below HB1.out hb); clear hb
      go_wp2_with fail
      go_ret2
      exact ⟨rfl, HB2.out⟩
    · go_enter Tryz.func116, Tryz.ntmps116
      go_wp2_with fail
      refine C1.out.mono ?_
      rintro e w1 ⟨rfl, hb⟩
      have HB1 := Lib.hid hb; clear hb
      go_wp2_with fail
      refine (C2.out _ HB1.out).mono ?_
      rintro e w2 ⟨rfl, hb⟩
      have HB2 := Lib.hid (next_below HB1.out hb); clear hb
      go_wp2_with fail
      go_ret2
      exact ⟨rfl, HB2.out⟩
end Go.Proofs.YtlmfppjphblemaaGreatDoor
