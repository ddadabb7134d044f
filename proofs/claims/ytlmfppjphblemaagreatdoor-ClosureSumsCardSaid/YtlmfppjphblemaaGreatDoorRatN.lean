/- nat's functions at numerals, rat's quotient, and the sum of two integers with signs. -/
import Derived.Test.YtlmfppjphblemaaGreatDoorNumL
import Derived.Test.YtlmfppjphblemaaGreatDoorRatA
namespace Go.Proofs.YtlmfppjphblemaaGreatDoor
open Go Go.RowKit
set_option maxRecDepth 100000

theorem fits_pow {n k : Nat} (h : n < 10 ^ k) (hk : k ≤ 1000) (h1 : 1 ≤ k) : fits n := by
  unfold fits
  have := dec_len_lt.2 ⟨h, h1⟩; omega
theorem fit_num {q : Rat} (h : fitQ q) : fits q.num.natAbs := by unfold fits; have := h.1; omega
theorem fit_den {q : Rat} (h : fitQ q) : fits q.den := by unfold fits; have := h.2; omega
theorem pow400 {n : Nat} (h : (dec n).length ≤ 400) : n < 10 ^ 400 := (dec_len_lt.1 h).1
theorem mul_pow10 {m n k : Nat} (h1 : m < 10 ^ k) (h2 : n < 10 ^ k) : m * n < 10 ^ (k + k) := by rw [Nat.pow_add]; exact lt_mul h1 h2
theorem sum_pow10 {a b c d k : Nat} (ha : a < 10 ^ k) (hb : b < 10 ^ k) (hc : c < 10 ^ k) (hd : d < 10 ^ k) : a * b + c * d < 10 ^ (k + k + 1) := by
  have h1 := mul_pow10 ha hb
  have h2 := mul_pow10 hc hd
  rw [Nat.pow_succ]; omega
theorem fits_mul {m n : Nat} (hm : (dec m).length ≤ 400) (hn : (dec n).length ≤ 400) : fits (m * n) :=
  fits_pow (mul_pow10 (pow400 hm) (pow400 hn)) (by omega) (by omega)
theorem fits_sum {a b c d : Nat} (ha : (dec a).length ≤ 400) (hb : (dec b).length ≤ 400) (hc : (dec c).length ≤ 400) (hd : (dec d).length ≤ 400) : fits (a * b + c * d) :=
  fits_pow (sum_pow10 (pow400 ha) (pow400 hb) (pow400 hc) (pow400 hd)) (by omega) (by omega)
def StrE (s : ByteArray) (w : World) (e : Ending) (w' : World) : Prop := e = .returned (.string s) ∧ Below w.heap.size w w'
def StrZ (s : ByteArray) (w : World) (e : Ending) (w' : World) : Prop := e = .returned (.tuple #[.string s, .int .i64 0]) ∧ Below w.heap.size w w'

theorem nadd_sd (m n : Nat) (w : World) (hm : fits m) (hn : fits n) (h : fits (m + n)) (ht : Tab w) :
    Calls Tryz.prog 121 #[.string (str (dec m)), .string (str (dec n))] w (StrZ (str (dec (m + n))) w) := by
  have := add_any (str (dec m)) (str (dec n)) w (fits_size hm) (fits_size hn) ht
  rw [addF_fit (vld_sd hm) (vld_sd hn) (by rw [val_sd, val_sd]; exact h), val_sd, val_sd] at this
  exact this
theorem nsub_sd (m n : Nat) (w : World) (hm : fits m) (hn : fits n) (h : n ≤ m) (ht : Tab w) :
    Calls Tryz.prog 123 #[.string (str (dec m)), .string (str (dec n))] w (StrZ (str (dec (m - n))) w) := by
  have := sub_any (str (dec m)) (str (dec n)) w (fits_size hm) (fits_size hn) ht
  rw [subF_ok (vld_sd hm) (vld_sd hn) (by rw [val_sd, val_sd]; exact h), val_sd, val_sd] at this
  exact this
theorem nmul_sd (m n : Nat) (w : World) (hm : fits m) (hn : fits n) (h : fits (m * n)) (ht : Tab w) :
    Calls Tryz.prog 98 #[.string (str (dec m)), .string (str (dec n))] w (StrZ (str (dec (m * n))) w) := by
  have := mul_any (str (dec m)) (str (dec n)) w (fits_size hm) (fits_size hn) ht
  rw [mulF_fit (vld_sd hm) (vld_sd hn) (by rw [val_sd, val_sd]; exact h), val_sd, val_sd] at this
  exact this
theorem ngcd_sd (m n : Nat) (w : World) (hm : fits m) (hn : fits n) (ht : Tab w) :
    Calls Tryz.prog 120 #[.string (str (dec m)), .string (str (dec n))] w (StrZ (str (dec (Nat.gcd m n))) w) := by
  have := gcd_any (str (dec m)) (str (dec n)) w (fits_size hm) (fits_size hn) ht
  rw [gcdF_v (vld_sd hm) (vld_sd hn), val_sd, val_sd] at this
  exact this
theorem ndiv_sd (m n : Nat) (w : World) (hm : fits m) (hn : fits n) (h : n ≠ 0) (ht : Tab w) :
    Calls Tryz.prog 150 #[.string (str (dec m)), .string (str (dec n))] w fun e w' => e = .returned (.tuple #[.string (str (dec (m / n))), .string (str (dec (m % n))), .int .i64 0]) ∧ Below w.heap.size w w' := by
  have := div_any (str (dec m)) (str (dec n)) w (fits_size hm) (fits_size hn) ht
  rw [divF_ok (vld_sd hm) (vld_sd hn) (by rw [val_sd]; exact h), val_sd, val_sd] at this
  exact this
theorem ncmp_sd (m n : Nat) (w : World) (hm : fits m) (hn : fits n) :
    Calls Tryz.prog 122 #[.string (str (dec m)), .string (str (dec n))] w (IntEnd (cmpN m n) w) := by
  have := cmp_any (str (dec m)) (str (dec n)) w (fits_size hm) (fits_size hn)
  unfold cmpF at this
  rw [vld_sd hm, vld_sd hn, val_sd, val_sd] at this
  exact this

theorem quot_sd (m n : Nat) (w : World) (hm : fits m) (hn : fits n) (h : n ≠ 0) (ht : Tab w) :
    Calls Tryz.prog 138 #[.string (str (dec m)), .string (str (dec n))] w (StrE (str (dec (m / n))) w) := by
  have hc := ndiv_sd m n w hm hn h ht
  have HC := Lib.hid hc; clear hc hm hn h ht
  go_enter Tryz.func138, Tryz.ntmps138
  go_wp2_with fail
  refine HC.out.mono ?_
  rintro e w1 ⟨rfl, hb⟩
  have HB := Lib.hid hb; clear hb
  go_wp2_with fail
  refine (must_ok _ _).mono ?_
  rintro e w2 ⟨rfl, rfl⟩
  go_wp2
  go_ret
  exact ⟨rfl, HB.out⟩
theorem ratplus_sd (p q : Bool) (m n : Nat) (w : World) (h : fits (m + n)) (ht : Tab w) :
    Calls Tryz.prog 96 #[.bool p, .string (str (dec m)), .bool q, .string (str (dec n))] w fun e w' =>
      e = .returned (.tuple #[.bool (sumF p m q n).1, .string (str (dec (sumF p m q n).2))]) ∧ Below w.heap.size w w' := by
  have hm : fits m := fits_le h (by omega)
  have hn : fits n := fits_le h (by omega)
  by_cases hpq : p = q
  · subst hpq
    have hs : sumF p m p n = (p, m + n) := by unfold sumF; rw [if_pos rfl]
    rw [hs]
    have hc := nadd_sd m n w hm hn h ht
    have HC := Lib.hid hc; clear hc hm hn h ht hs
    have hp : (p == p) = true := by cases p <;> rfl
    go_enter Tryz.func96, Tryz.ntmps96
    go_wp2_with fail
    refine HC.out.mono ?_
    rintro e w1 ⟨rfl, hb⟩
    have HB := Lib.hid hb; clear hb
    go_wp2_with fail
    refine (must_ok _ _).mono ?_
    rintro e w2 ⟨rfl, rfl⟩
    go_wp2
    go_ret2
    exact ⟨rfl, HB.out⟩
  · have hb : (p == q) = false := by rw [beq_eq_false_iff_ne]; exact hpq
    by_cases hlt : m < n
    · have hs : sumF p m q n = (q, n - m) := by unfold sumF; rw [if_neg hpq, if_pos hlt]
      rw [hs]
      have hc := ncmp_sd m n w hm hn
      rw [cmpN_lt hlt] at hc
      have hd := fun w1 ht => nsub_sd n m w1 hn hm (Nat.le_of_lt hlt) ht
      have HC := Lib.hid hc; clear hc
      have HD := Lib.hid hd; clear hd
      have HT := Lib.hid ht; clear hm hn h ht hs hlt hpq
      go_enter Tryz.func96, Tryz.ntmps96
      go_wp2_with fail
      refine HC.out.mono ?_
      rintro e w1 ⟨rfl, hb1⟩
      have HB1 := Lib.hid hb1; clear hb1
      go_wp2_with fail
      refine (HD.out w1 (HT.out.below HB1.out (Nat.le_refl _))).mono ?_
      rintro e w2 ⟨rfl, hb2⟩
      have HB2 := Lib.hid (HB1.out.trans (hb2.mono HB1.out.size)); clear hb2
      go_wp2_with fail
      refine (must_ok _ _).mono ?_
      rintro e w3 ⟨rfl, rfl⟩
      go_wp2
      go_ret2
      exact ⟨rfl, HB2.out⟩
    · have hs : sumF p m q n = (p, m - n) := by unfold sumF; rw [if_neg hpq, if_neg hlt]
      rw [hs]
      have hc := ncmp_sd m n w hm hn
      have hge : 0 ≤ cmpN m n := by
        rcases Nat.lt_or_ge n m with h1 | h1
        · rw [cmpN_gt h1]; omega
        · rw [cmpN_eq (by omega)]; omega
      generalize cmpN m n = z at hc hge
      have hd := fun w1 ht => nsub_sd m n w1 hm hn (by omega) ht
      have HC := Lib.hid hc; clear hc
      have HD := Lib.hid hd; clear hd
      have HT := Lib.hid ht; clear hm hn h ht hs hlt hpq
      go_enter Tryz.func96, Tryz.ntmps96
      go_wp2_with fail
      refine HC.out.mono ?_
      rintro e w1 ⟨rfl, hb1⟩
      have HB1 := Lib.hid hb1; clear hb1
      go_wp2_with fail
      refine (HD.out w1 (HT.out.below HB1.out (Nat.le_refl _))).mono ?_
      rintro e w2 ⟨rfl, hb2⟩
      have HB2 := Lib.hid (HB1.out.trans (hb2.mono HB1.out.size)); clear hb2
      go_wp2_with fail
      refine (must_ok _ _).mono ?_
      rintro e w3 ⟨rfl, rfl⟩
      go_wp2
      go_ret2
      exact ⟨rfl, HB2.out⟩
end Go.Proofs.YtlmfppjphblemaaGreatDoor
