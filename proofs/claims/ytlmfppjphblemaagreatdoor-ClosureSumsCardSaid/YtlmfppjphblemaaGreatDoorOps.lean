/- The walks of nat.Small, limited, Add, Sub, Cmp: what they return, as plain functions of the strings. -/
import Derived.Test.YtlmfppjphblemaaGreatDoorText
import Derived.Test.YtlmfppjphblemaaGreatDoorMB
import Derived.Test.YtlmfppjphblemaaGreatDoorValid
namespace Go.Proofs.YtlmfppjphblemaaGreatDoor
open Go Go.RowKit
set_option maxRecDepth 100000

def PairEnd (r : ByteArray × Nat) (w : World) (e : Ending) (w' : World) : Prop := e = .returned (.tuple #[.string r.1, .int .i64 (r.2 : Int)]) ∧ Below w.heap.size w w'
def limS (n : Nat) : ByteArray × Nat := if (dec n).length ≤ 1000 then (str (dec n), 0) else (str [], 2)
def vld (s : ByteArray) : Bool := validL (bts s)
def val (s : ByteArray) : Nat := num (bts s)
def addF (s t : ByteArray) : ByteArray × Nat := if vld s && vld t then limS (val s + val t) else (str [], 1)
def subF (s t : ByteArray) : ByteArray × Nat := if vld s && vld t then (if val s < val t then (str [], 4) else (str (dec (val s - val t)), 0)) else (str [], 1)
def mulF (s t : ByteArray) : ByteArray × Nat := if vld s && vld t then limS (val s * val t) else (str [], 1)
def cmpF (s t : ByteArray) : Int := if vld s && vld t then cmpN (val s) (val t) else 0

theorem ret_si {s s' : ByteArray} {a b : Int} (h : s = s') (h' : a = b) : Ending.returned (.tuple #[.string s, .int .i64 a]) = .returned (.tuple #[.string s', .int .i64 b]) := by rw [h, h']
theorem vld_size {s : ByteArray} (h : vld s = true) : 1 ≤ s.size ∧ s.size ≤ 1000 := by
  obtain ⟨h1, h2, _⟩ := valid_parts h; rw [bts_len] at h1 h2; exact ⟨h1, h2⟩
theorem vld_dgts {s : ByteArray} (h : vld s = true) : dgts (bts s) = true := (valid_parts h).2.2.2
theorem num_lt_pow {l : List UInt8} (h : dgts l = true) (k : Nat) (hk : l.length ≤ 9 * k) : num l < BB ^ k := by
  have h2 : 10 ^ l.length ≤ 10 ^ (9 * k) := Nat.pow_le_pow_right (by omega) hk
  rw [pow9] at h2
  exact Nat.lt_of_lt_of_le (num_lt _ h) h2
theorem val_lt {s : ByteArray} (h : vld s = true) : val s < BB ^ 112 := num_lt_pow (vld_dgts h) 112 (by rw [bts_len]; have := vld_size h; omega)
theorem toB_len_val {s : ByteArray} (h : vld s = true) : (toB (val s)).length ≤ 112 := toB_len_le (val_lt h)
theorem vld_any (s : ByteArray) (w : World) (hm : s.size ≤ maxLen) :
    Calls Tryz.prog 119 #[.string s] w fun e w' => e = .returned (.bool (vld s)) ∧ w = w' := valid_any s w hm

theorem blk_any (s : ByteArray) (w : World) (h : vld s = true) : Calls Tryz.prog 124 #[.string s] w (BlocksEnd (val s) w) := blocks_any s w (vld_size h).2 (vld_dgts h)

theorem limited_any (vx : Value) (n : Nat) (w : World) (hx : Sl w .u64 vx (toB n)) (lx : (toB n).length ≤ 100000) (ht : Tab w) :
    Calls Tryz.prog 125 #[vx] w (PairEnd (limS n) w) := by
  have hdl := topB_len n (toB n).length
  have hn : (dec n).length ≤ 900000 ∨ n = 0 := by
    by_cases h0 : n = 0
    · exact .inr h0
    · rw [topB_all n h0] at hdl; exact .inl (by omega)
  have hn' : (dec n).length ≤ 900000 := by
    rcases hn with h | h
    · exact h
    · subst h; rw [dec_small (by omega)]; simp
  clear hdl hn
  have hsz : (str (dec n)).size ≤ 900000 := by rw [str_size]; exact hn'
  have hc := text_any vx n w hx lx ht
  have HC := Lib.hid hc; clear hc hx ht lx
  by_cases h : (dec n).length ≤ 1000
  · have hr : limS n = (str (dec n), 0) := by unfold limS; rw [if_pos h]
    have hs : (str (dec n)).size ≤ 1000 := by rw [str_size]; exact h
    rw [hr]; clear hr h hn'
    go_enter Tryz.func125, Tryz.ntmps125
    go_wp2_with fail
    refine HC.out.mono ?_
    rintro e w' ⟨rfl, hb⟩
    have HB := Lib.hid hb; clear hb
    go_wp2
    go_ret2
    exact ⟨rfl, HB.out⟩
  · have hr : limS n = (str [], 2) := by unfold limS; rw [if_neg h]
    have hs : 1000 < (str (dec n)).size := by rw [str_size]; omega
    rw [hr]; clear hr h hn'
    go_enter Tryz.func125, Tryz.ntmps125
    go_wp2_with fail
    refine HC.out.mono ?_
    rintro e w' ⟨rfl, hb⟩
    have HB := Lib.hid hb; clear hb
    go_wp2
    go_ret2
    exact ⟨rfl, HB.out⟩

theorem add_any (s t : ByteArray) (w : World) (hs : s.size ≤ maxLen) (ht : t.size ≤ maxLen) (htab : Tab w) :
    Calls Tryz.prog 121 #[.string s, .string t] w (PairEnd (addF s t) w) := by
  have HT := Lib.hid htab; clear htab
  have c1 := vld_any s w hs
  have c2 := vld_any t w ht
  clear hs ht
  cases h1 : vld s with
  | false =>
    have hr : addF s t = (str [], 1) := by unfold addF; rw [h1]; rfl
    rw [hr]; rw [h1] at c1; clear hr h1 c2 HT
    have C1 := Lib.hid c1; clear c1
    go_enter Tryz.func121, Tryz.ntmps121
    go_wp2_with fail
    refine C1.out.mono ?_
    rintro e w' ⟨rfl, rfl⟩
    go_wp2
    go_ret2
    exact ⟨rfl, Below.refl _ _⟩
  | true =>
    cases h2 : vld t with
    | false =>
      have hr : addF s t = (str [], 1) := by unfold addF; rw [h1, h2]; rfl
      rw [hr]; rw [h1] at c1; rw [h2] at c2; clear hr h1 h2 HT
      have C1 := Lib.hid c1; clear c1
      have C2 := Lib.hid c2; clear c2
      go_enter Tryz.func121, Tryz.ntmps121
      go_wp2_with fail
      refine C1.out.mono ?_
      rintro e w' ⟨rfl, rfl⟩
      go_wp2_with fail
      refine C2.out.mono ?_
      rintro e w' ⟨rfl, rfl⟩
      go_wp2
      go_ret2
      exact ⟨rfl, Below.refl _ _⟩
    | true =>
      rw [h1] at c1; rw [h2] at c2
      have C1 := Lib.hid c1; clear c1
      have C2 := Lib.hid c2; clear c2
      have lm := toB_len_val h1
      have ln := toB_len_val h2
      have b1 := blk_any s w h1
      have B1 := Lib.hid b1; clear b1
      have b2 := fun w => blk_any t w h2
      have B2 := Lib.hid b2; clear b2
      have H1 := Lib.hid h1; clear h1
      have H2 := Lib.hid h2; clear h2
      have hr : addF s t = limS (val s + val t) := by unfold addF; rw [H1.out, H2.out]; rfl
      rw [hr]; clear hr
      go_enter Tryz.func121, Tryz.ntmps121
      go_wp2_with fail
      refine C1.out.mono ?_
      rintro e w' ⟨rfl, rfl⟩
      go_wp2_with fail
      refine C2.out.mono ?_
      rintro e w' ⟨rfl, rfl⟩
      go_wp2_with fail
      refine B1.out.mono ?_
      rintro e w1 ⟨v1, rfl, ho1, hb1⟩
      have HO1 := Lib.hid ho1; clear ho1
      have HB1 := Lib.hid hb1; clear hb1
      have hz1 := HB1.out.size
      go_wp2_with fail
      refine (B2.out w1).mono ?_
      rintro e w2 ⟨v2, rfl, ho2, hb2⟩
      have HO2 := Lib.hid ho2; clear ho2
      have HB2 := Lib.hid hb2; clear hb2
      have hz2 := HB2.out.size
      have HS1 := Lib.hid (HO1.out.sl.below HB2.out (Nat.le_refl _))
      go_wp2_with fail
      refine (plus_any v1 v2 (val s) (val t) w2 HS1.out HO2.out.sl (by omega) (by omega)).mono ?_
      rintro e w3 ⟨v3, rfl, ho3, hb3⟩
      have HO3 := Lib.hid ho3; clear ho3
      have HB3 := Lib.hid hb3; clear hb3
      have HB := Lib.hid (HB1.out.trans ((HB2.out.mono hz1).trans (HB3.out.mono (by omega))))
      have hlim := limited_any v3 (val s + val t) w3 HO3.out.sl (by
        have h1 := val_lt H1.out
        have h2 := val_lt H2.out
        have : val s + val t < BB ^ 113 := by
          have e : BB ^ 113 = BB ^ 112 * BB := Nat.pow_succ ..
          rw [e]
          have : BB ^ 112 * 2 ≤ BB ^ 112 * BB := Nat.mul_le_mul_left _ BB_one
          omega
        have := toB_len_le this
        omega) (HT.out.below HB.out (Nat.le_refl _))
      have HL := Lib.hid hlim; clear hlim
      go_wp2_with fail
      refine HL.out.mono ?_
      rintro e w4 ⟨rfl, hb4⟩
      have HB4 := Lib.hid hb4; clear hb4
      have hz3 := HB3.out.size
      go_wp2
      go_ret2
      exact ⟨rfl, HB.out.trans (HB4.out.mono (by omega))⟩
theorem sub_any (s t : ByteArray) (w : World) (hs : s.size ≤ maxLen) (ht : t.size ≤ maxLen) (htab : Tab w) :
    Calls Tryz.prog 123 #[.string s, .string t] w (PairEnd (subF s t) w) := by
  have HT := Lib.hid htab; clear htab
  have c1 := vld_any s w hs
  have c2 := vld_any t w ht
  clear hs ht
  cases h1 : vld s with
  | false =>
    have hr : subF s t = (str [], 1) := by unfold subF; rw [h1]; rfl
    rw [hr]; rw [h1] at c1; clear hr h1 c2 HT
    have C1 := Lib.hid c1; clear c1
    go_enter Tryz.func123, Tryz.ntmps123
    go_wp2_with fail
    refine C1.out.mono ?_
    rintro e w' ⟨rfl, rfl⟩
    go_wp2
    go_ret2
    exact ⟨rfl, Below.refl _ _⟩
  | true =>
    cases h2 : vld t with
    | false =>
      have hr : subF s t = (str [], 1) := by unfold subF; rw [h1, h2]; rfl
      rw [hr]; rw [h1] at c1; rw [h2] at c2; clear hr h1 h2 HT
      have C1 := Lib.hid c1; clear c1
      have C2 := Lib.hid c2; clear c2
      go_enter Tryz.func123, Tryz.ntmps123
      go_wp2_with fail
      refine C1.out.mono ?_
      rintro e w' ⟨rfl, rfl⟩
      go_wp2_with fail
      refine C2.out.mono ?_
      rintro e w' ⟨rfl, rfl⟩
      go_wp2
      go_ret2
      exact ⟨rfl, Below.refl _ _⟩
    | true =>
      rw [h1] at c1; rw [h2] at c2
      have C1 := Lib.hid c1; clear c1
      have C2 := Lib.hid c2; clear c2
      have lm := toB_len_val h1
      have ln := toB_len_val h2
      have b1 := blk_any s w h1
      have B1 := Lib.hid b1; clear b1
      have b2 := fun w => blk_any t w h2
      have B2 := Lib.hid b2; clear b2
      have H1 := Lib.hid h1; clear h1
      have H2 := Lib.hid h2; clear h2
      by_cases hlt : val s < val t
      · have hr : subF s t = (str [], 4) := by unfold subF; rw [H1.out, H2.out, if_pos hlt]; rfl
        have hc : cmpN (val s) (val t) = -1 := cmpN_lt hlt
        rw [hr]; clear hr hlt
        have HC := Lib.hid hc; clear hc
        go_enter Tryz.func123, Tryz.ntmps123
        go_wp2_with fail
        refine C1.out.mono ?_
        rintro e w' ⟨rfl, rfl⟩
        go_wp2_with fail
        refine C2.out.mono ?_
        rintro e w' ⟨rfl, rfl⟩
        go_wp2_with fail
        refine B1.out.mono ?_
        rintro e w1 ⟨v1, rfl, ho1, hb1⟩
        have HO1 := Lib.hid ho1; clear ho1
        have HB1 := Lib.hid hb1; clear hb1
        have hz1 := HB1.out.size
        go_wp2_with fail
        refine (B2.out w1).mono ?_
        rintro e w2 ⟨v2, rfl, ho2, hb2⟩
        have HO2 := Lib.hid ho2; clear ho2
        have HB2 := Lib.hid hb2; clear hb2
        have hz2 := HB2.out.size
        have HS1 := Lib.hid (HO1.out.sl.below HB2.out (Nat.le_refl _))
        have hcm := compare_any v1 v2 (val s) (val t) w2 HS1.out HO2.out.sl
        unfold CmpEnd at hcm
        rw [HC.out] at hcm
        have HCM := Lib.hid hcm; clear hcm
        go_wp2_with fail
        refine HCM.out.mono ?_
        rintro e w3 ⟨rfl, hb3⟩
        have HB3 := Lib.hid hb3; clear hb3
        go_wp2
        go_ret2
        exact ⟨rfl, HB1.out.trans ((HB2.out.mono hz1).trans (HB3.out.mono (by omega)))⟩
      · have hr : subF s t = (str (dec (val s - val t)), 0) := by unfold subF; rw [H1.out, H2.out, if_neg hlt]; rfl
        have hc : cmpN (val s) (val t) = 0 ∨ cmpN (val s) (val t) = 1 := by
          rcases Nat.lt_or_ge (val t) (val s) with h | h
          · exact .inr (cmpN_gt h)
          · exact .inl (cmpN_eq (by omega))
        have hle : val t ≤ val s := by omega
        have HLE := Lib.hid hle; clear hle
        rw [hr]; clear hr hlt
        have hc0 : ∃ q : Int, cmpN (val s) (val t) = q ∧ 0 ≤ q := by
          rcases hc with h | h
          · exact ⟨0, h, by omega⟩
          · exact ⟨1, h, by omega⟩
        obtain ⟨q, hq, hq0⟩ := hc0
        clear hc
        have HC := Lib.hid hq; clear hq
        go_enter Tryz.func123, Tryz.ntmps123
        go_wp2_with fail
        refine C1.out.mono ?_
        rintro e w' ⟨rfl, rfl⟩
        go_wp2_with fail
        refine C2.out.mono ?_
        rintro e w' ⟨rfl, rfl⟩
        go_wp2_with fail
        refine B1.out.mono ?_
        rintro e w1 ⟨v1, rfl, ho1, hb1⟩
        have HO1 := Lib.hid ho1; clear ho1
        have HB1 := Lib.hid hb1; clear hb1
        have hz1 := HB1.out.size
        go_wp2_with fail
        refine (B2.out w1).mono ?_
        rintro e w2 ⟨v2, rfl, ho2, hb2⟩
        have HO2 := Lib.hid ho2; clear ho2
        have HB2 := Lib.hid hb2; clear hb2
        have hz2 := HB2.out.size
        have HS1 := Lib.hid (HO1.out.sl.below HB2.out (Nat.le_refl _))
        have hcm := compare_any v1 v2 (val s) (val t) w2 HS1.out HO2.out.sl
        unfold CmpEnd at hcm
        rw [HC.out] at hcm
        have HCM := Lib.hid hcm; clear hcm
        go_wp2_with fail
        refine HCM.out.mono ?_
        rintro e w3 ⟨rfl, hb3⟩
        have HB3 := Lib.hid hb3; clear hb3
        have hz3 := HB3.out.size
        have hmi := minus_any v1 v2 (val s) (val t) w3 (HS1.out.below HB3.out (Nat.le_refl _)) (HO2.out.sl.below HB3.out (Nat.le_refl _)) (by omega) (by omega) HLE.out
        have HMI := Lib.hid hmi; clear hmi
        go_wp2_with fail
        refine HMI.out.mono ?_
        rintro e w4 ⟨v4, rfl, ho4, hb4⟩
        have HO4 := Lib.hid ho4; clear ho4
        have HB4 := Lib.hid hb4; clear hb4
        have hz4 := HB4.out.size
        have HB := Lib.hid (HB1.out.trans ((HB2.out.mono hz1).trans ((HB3.out.mono (by omega)).trans (HB4.out.mono (by omega)))))
        have htx := text_any v4 (val s - val t) w4 HO4.out.sl (by have := toB_len_mono (Nat.sub_le (val s) (val t)); omega) (HT.out.below HB.out (Nat.le_refl _))
        have HTX := Lib.hid htx; clear htx
        go_wp2_with fail
        refine HTX.out.mono ?_
        rintro e w5 ⟨rfl, hb5⟩
        have HB5 := Lib.hid hb5; clear hb5
        go_wp2
        go_ret2
        exact ⟨rfl, HB.out.trans (HB5.out.mono (by omega))⟩

def IntEnd (q : Int) (w : World) (e : Ending) (w' : World) : Prop := e = .returned (.int .i64 q) ∧ Below w.heap.size w w'
theorem cmp_any (s t : ByteArray) (w : World) (hs : s.size ≤ maxLen) (ht : t.size ≤ maxLen) :
    Calls Tryz.prog 122 #[.string s, .string t] w (IntEnd (cmpF s t) w) := by
  have c1 := vld_any s w hs
  have c2 := vld_any t w ht
  clear hs ht
  cases h1 : vld s with
  | false =>
    have hr : cmpF s t = 0 := by unfold cmpF; rw [h1]; rfl
    rw [hr]; rw [h1] at c1; clear hr h1 c2
    have C1 := Lib.hid c1; clear c1
    go_enter Tryz.func122, Tryz.ntmps122
    go_wp2_with fail
    refine C1.out.mono ?_
    rintro e w' ⟨rfl, rfl⟩
    go_wp2
    go_ret
    exact ⟨rfl, Below.refl _ _⟩
  | true =>
    cases h2 : vld t with
    | false =>
      have hr : cmpF s t = 0 := by unfold cmpF; rw [h1, h2]; rfl
      rw [hr]; rw [h1] at c1; rw [h2] at c2; clear hr h1 h2
      have C1 := Lib.hid c1; clear c1
      have C2 := Lib.hid c2; clear c2
      go_enter Tryz.func122, Tryz.ntmps122
      go_wp2_with fail
      refine C1.out.mono ?_
      rintro e w' ⟨rfl, rfl⟩
      go_wp2_with fail
      refine C2.out.mono ?_
      rintro e w' ⟨rfl, rfl⟩
      go_wp2
      go_ret
      exact ⟨rfl, Below.refl _ _⟩
    | true =>
      rw [h1] at c1; rw [h2] at c2
      have C1 := Lib.hid c1; clear c1
      have C2 := Lib.hid c2; clear c2
      have lm := toB_len_val h1
      have ln := toB_len_val h2
      have b1 := blk_any s w h1
      have B1 := Lib.hid b1; clear b1
      have b2 := fun w => blk_any t w h2
      have B2 := Lib.hid b2; clear b2
      have H1 := Lib.hid h1; clear h1
      have H2 := Lib.hid h2; clear h2
      have hr : cmpF s t = cmpN (val s) (val t) := by unfold cmpF; rw [H1.out, H2.out]; rfl
      rw [hr]; clear hr
      go_enter Tryz.func122, Tryz.ntmps122
      go_wp2_with fail
      refine C1.out.mono ?_
      rintro e w' ⟨rfl, rfl⟩
      go_wp2_with fail
      refine C2.out.mono ?_
      rintro e w' ⟨rfl, rfl⟩
      go_wp2_with fail
      refine B1.out.mono ?_
      rintro e w1 ⟨v1, rfl, ho1, hb1⟩
      have HO1 := Lib.hid ho1; clear ho1
      have HB1 := Lib.hid hb1; clear hb1
      have hz1 := HB1.out.size
      go_wp2_with fail
      refine (B2.out w1).mono ?_
      rintro e w2 ⟨v2, rfl, ho2, hb2⟩
      have HO2 := Lib.hid ho2; clear ho2
      have HB2 := Lib.hid hb2; clear hb2
      have hz2 := HB2.out.size
      have HS1 := Lib.hid (HO1.out.sl.below HB2.out (Nat.le_refl _))
      have hcm := compare_any v1 v2 (val s) (val t) w2 HS1.out HO2.out.sl
      unfold CmpEnd at hcm
      have HCM := Lib.hid hcm; clear hcm
      go_wp2_with fail
      refine HCM.out.mono ?_
      rintro e w3 ⟨rfl, hb3⟩
      have HB3 := Lib.hid hb3; clear hb3
      go_wp2
      go_ret
      exact ⟨rfl, HB1.out.trans ((HB2.out.mono hz1).trans (HB3.out.mono (by omega)))⟩
end Go.Proofs.YtlmfppjphblemaaGreatDoor
