/- The walk of the statement NatBack: it returns true for all strings. -/
import Derived.Test.YtndfbnffielfaaaDoorEx
import Derived.Deep.Cut
import Derived.Deep.DeepCutAuto
namespace Go.Proofs.YtndfbnffielfaaaDoor
open Go Go.RowKit

def TrueEnd (w : World) (e : Ending) (w' : World) : Prop := e = .returned (.bool true) ∧ Below w.heap.size w w'
def fits (n : Nat) : Prop := (dec n).length ≤ 1000
theorem val_sd (n : Nat) : val (str (dec n)) = n := by unfold val; rw [bts_str]; exact num_dec n
theorem vld_sd {n : Nat} (h : fits n) : vld (str (dec n)) = true := by unfold vld; rw [bts_str]; exact valid_dec h
theorem sd_val {s : ByteArray} (h : vld s = true) : str (dec (val s)) = s := by unfold val; rw [dec_num h, str_bts]
theorem fits_val {s : ByteArray} (h : vld s = true) : fits (val s) := by unfold fits val; rw [dec_num h, bts_len]; exact (vld_size h).2
theorem fits_le {m n : Nat} (h : fits n) (hm : m ≤ n) : fits m := by
  unfold fits at *
  exact dec_len_lt.2 ⟨Nat.lt_of_le_of_lt hm (dec_len_lt.1 h).1, by omega⟩
theorem fits_size {n : Nat} (h : fits n) : (str (dec n)).size ≤ maxLen := by rw [str_size]; unfold fits at h; unfold maxLen; omega
theorem limS_fit {n : Nat} (h : fits n) : limS n = (str (dec n), 0) := if_pos h
theorem limS_long {n : Nat} (h : ¬ fits n) : limS n = (⟨#[]⟩, 2) := if_neg h
theorem addF_v {s t : ByteArray} (hs : vld s = true) (ht : vld t = true) : addF s t = limS (val s + val t) := by unfold addF; rw [hs, ht]; rfl
theorem mulF_v {s t : ByteArray} (hs : vld s = true) (ht : vld t = true) : mulF s t = limS (val s * val t) := by unfold mulF; rw [hs, ht]; rfl
theorem addF_fit {s t : ByteArray} (hs : vld s = true) (ht : vld t = true) (h : fits (val s + val t)) : addF s t = (str (dec (val s + val t)), 0) := by rw [addF_v hs ht, limS_fit h]
theorem addF_long {s t : ByteArray} (hs : vld s = true) (ht : vld t = true) (h : ¬ fits (val s + val t)) : addF s t = (⟨#[]⟩, 2) := by rw [addF_v hs ht, limS_long h]
theorem mulF_fit {s t : ByteArray} (hs : vld s = true) (ht : vld t = true) (h : fits (val s * val t)) : mulF s t = (str (dec (val s * val t)), 0) := by rw [mulF_v hs ht, limS_fit h]
theorem mulF_long {s t : ByteArray} (hs : vld s = true) (ht : vld t = true) (h : ¬ fits (val s * val t)) : mulF s t = (⟨#[]⟩, 2) := by rw [mulF_v hs ht, limS_long h]
theorem subF_v {s t : ByteArray} (hs : vld s = true) (ht : vld t = true) : subF s t = if val s < val t then (⟨#[]⟩, 4) else (str (dec (val s - val t)), 0) := by unfold subF; rw [hs, ht]; rfl
theorem subF_ok {s t : ByteArray} (hs : vld s = true) (ht : vld t = true) (h : val t ≤ val s) : subF s t = (str (dec (val s - val t)), 0) := by rw [subF_v hs ht, if_neg (by omega)]
theorem divF_v {s t : ByteArray} (hs : vld s = true) (ht : vld t = true) : divF s t = if val t = 0 then (⟨#[]⟩, ⟨#[]⟩, 4) else (str (dec (val s / val t)), str (dec (val s % val t)), 0) := by unfold divF; rw [hs, ht]; rfl
theorem divF_ok {s t : ByteArray} (hs : vld s = true) (ht : vld t = true) (h : val t ≠ 0) : divF s t = (str (dec (val s / val t)), str (dec (val s % val t)), 0) := by rw [divF_v hs ht, if_neg h]
theorem cmpF_ge {s t : ByteArray} (h : val t ≤ val s) : ∃ q : Int, cmpF s t = q ∧ 0 ≤ q := by
  unfold cmpF
  split
  · rcases Nat.lt_or_ge (val t) (val s) with h1 | h1
    · exact ⟨1, cmpN_gt h1, by omega⟩
    · exact ⟨0, cmpN_eq (by omega), by omega⟩
  · exact ⟨0, rfl, by omega⟩
theorem sd_zero : str (dec 0) = ⟨#[48]⟩ := by rw [dec_small (by omega)]; rfl

set_option maxRecDepth 100000 in
set_option maxHeartbeats 2000000 in
theorem natBack_any (a b c : ByteArray) (w : World) (ha : a.size ≤ maxLen) (hb : b.size ≤ maxLen) (hc : c.size ≤ maxLen) (ht : Tab w) :
    Calls Tryd.prog 6 #[.string a, .string b, .string c] w (TrueEnd w) := by
  have HT := Lib.hid ht; clear ht
  have c1 := vld_any a w ha
  have c2 := vld_any b w hb
  have c3 := vld_any c w hc
  have ex := example_any w HT.out
  have EX := Lib.hid ex; clear ex
  cases h1 : vld a with
  | false =>
    rw [h1] at c1
    have C1 := Lib.hid c1; clear c1 c2 c3 h1
    go_enter Tryd.func6, Tryd.ntmps6
    go_wp2_with fail
    refine C1.out.mono ?_
    rintro e w' ⟨rfl, rfl⟩
    go_wp2_with fail
    refine EX.out.mono ?_
    rintro e w' ⟨rfl, hb⟩
    have HB := Lib.hid hb; clear hb
    go_wp2_with fail
    go_ret
    exact ⟨rfl, HB.out⟩
  | true =>
    cases h2 : vld b with
    | false =>
      rw [h1] at c1; rw [h2] at c2
      have C1 := Lib.hid c1
      have C2 := Lib.hid c2
      clear c1 c2 c3 h1 h2
      go_enter Tryd.func6, Tryd.ntmps6
      go_wp2_with fail
      refine C1.out.mono ?_
      rintro e w' ⟨rfl, rfl⟩
      go_wp2_with fail
      refine C2.out.mono ?_
      rintro e w' ⟨rfl, rfl⟩
      go_wp2_with fail
      refine EX.out.mono ?_
      rintro e w' ⟨rfl, hb⟩
      have HB := Lib.hid hb; clear hb
      go_wp2_with fail
      go_ret
      exact ⟨rfl, HB.out⟩
    | true =>
      cases h3 : vld c with
      | false =>
        rw [h1] at c1; rw [h2] at c2; rw [h3] at c3
        have C1 := Lib.hid c1
        have C2 := Lib.hid c2
        have C3 := Lib.hid c3
        clear c1 c2 c3 h1 h2 h3
        go_enter Tryd.func6, Tryd.ntmps6
        go_wp2_with fail
        refine C1.out.mono ?_
        rintro e w' ⟨rfl, rfl⟩
        go_wp2_with fail
        refine C2.out.mono ?_
        rintro e w' ⟨rfl, rfl⟩
        go_wp2_with fail
        refine C3.out.mono ?_
        rintro e w' ⟨rfl, rfl⟩
        go_wp2_with fail
        refine EX.out.mono ?_
        rintro e w' ⟨rfl, hb⟩
        have HB := Lib.hid hb; clear hb
        go_wp2_with fail
        go_ret
        exact ⟨rfl, HB.out⟩
      | true =>
        rw [h1] at c1; rw [h2] at c2; rw [h3] at c3
        have C1 := Lib.hid c1
        have C2 := Lib.hid c2
        have C3 := Lib.hid c3
        have H1 := Lib.hid h1
        have H2 := Lib.hid h2
        have H3 := Lib.hid h3
        clear c1 c2 c3 h1 h2 h3 EX
        go_enter Tryd.func6, Tryd.ntmps6
        go_wp2_with fail
        refine C1.out.mono ?_
        rintro e w' ⟨rfl, rfl⟩
        go_wp2_with fail
        refine C2.out.mono ?_
        rintro e w' ⟨rfl, rfl⟩
        go_wp2_with fail
        refine C3.out.mono ?_
        rintro e w' ⟨rfl, rfl⟩
        go_wp2_with fail
        refine (add_any a b w ha hb HT.out).mono ?_
        rintro e w1 ⟨rfl, hb1⟩
        have HB1 := Lib.hid hb1; clear hb1
        have S1 : ∀ (wx : World), Below w.heap.size w wx → Tab wx := fun wx h => HT.out.below h (Nat.le_refl _)
        have HS := Lib.hid S1; clear S1
        go_upto_if 44 with (fail)
        go_cut [7] from 8 (fun _ wx => Below w.heap.size w wx)
        case first =>
          by_cases hf : fits (val a + val b)
          · rw [addF_fit H1.out H2.out hf]
            have hvs := vld_sd hf
            have HF := Lib.hid hf; clear hf
            have HVS := Lib.hid hvs; clear hvs
            have hsb := subF_ok HVS.out H2.out (by rw [val_sd]; omega)
            rw [val_sd, Nat.add_sub_cancel, sd_val H1.out] at hsb
            obtain ⟨q, hq, hq0⟩ := cmpF_ge (s := str (dec (val a + val b))) (t := b) (by rw [val_sd]; omega)
            have HSB := Lib.hid hsb; clear hsb
            have HQ := Lib.hid hq; clear hq
            go_wp2_with fail
            refine (sub_any _ b w1 (fits_size HF.out) hb (HS.out w1 HB1.out)).mono ?_
            rintro e w2 ⟨rfl, hb2⟩
            rw [HSB.out]
            have HB2 := Lib.hid (HB1.out.trans (hb2.mono HB1.out.size)); clear hb2
            go_wp2_with fail
            have hcm := cmp_any (str (dec (val a + val b))) b w2 (fits_size HF.out) hb
            unfold IntEnd at hcm
            rw [HQ.out] at hcm
            refine hcm.mono ?_
            clear hcm
            rintro e w3 ⟨rfl, hb3⟩
            have HB3 := Lib.hid (HB2.out.trans (hb3.mono HB2.out.size)); clear hb3
            go_wp2_with fail
            go_meet
            exact HB3.out
          · rw [addF_long H1.out H2.out hf]
            clear hf
            go_wp2_with fail
            go_meet
            exact HB1.out
        case rest =>
          have HB4 := Lib.hid hcut; clear hcut HB1
          go_wp2_with fail
          refine (mul_any a b wc ha hb (HS.out wc HB4.out)).mono ?_
          rintro e w5 ⟨rfl, hb5⟩
          have HB5 := Lib.hid (HB4.out.trans (hb5.mono HB4.out.size)); clear hb5
          -- PART2
          by_cases hf : fits (val a * val b)
          · rw [mulF_fit H1.out H2.out hf]
            have hvs := vld_sd hf
            have HF := Lib.hid hf; clear hf
            have HVS := Lib.hid hvs; clear hvs
            by_cases hb0 : val b = 0
            · have hz := is_zero H2.out hb0
              have hz1 : (b.toList == [48]) = true := by rw [hz]; rfl
              have hz2 : (b.toList != [48]) = false := by rw [hz]; rfl
              clear hb0
              go_upto_region 17 with (fail)
              clear hz hz1 hz2
              by_cases hc0 : val c = 0
              · have hz := is_zero H3.out hc0
                have hz1 : (c.toList == [48]) = true := by rw [hz]; rfl
                clear hc0
                go_wp2_with fail
                have hq6 := example_any w5 (HS.out w5 HB5.out)
                refine hq6.mono ?_
                clear hq6
                rintro e w6 ⟨rfl, hb6⟩
                have HB6 := Lib.hid (HB5.out.trans (hb6.mono HB5.out.size)); clear hb6
                go_wp2_with fail
                go_ret
                exact ⟨rfl, HB6.out⟩
              · have hz := not_zero hc0
                have hz1 : (c.toList == [48]) = false := by rw [beq_eq_false_iff_ne]; exact hz
                have hdv := divF_ok H1.out H3.out hc0
                have HDV := Lib.hid hdv; clear hdv
                have hle1 := Nat.div_le_self (val a) (val c)
                have hfq := fits_le (fits_val H1.out) hle1
                have hfr := fits_le (fits_val H1.out) (Nat.mod_le (val a) (val c))
                have hlr := Nat.mod_lt (val a) (Nat.pos_of_ne_zero hc0)
                have hdm : val a / val c * val c + val a % val c = val a := by rw [Nat.mul_comm]; exact Nat.div_add_mod _ _
                have HFQ := Lib.hid hfq; clear hfq hle1
                have HFR := Lib.hid hfr; clear hfr
                have HLR := Lib.hid hlr; clear hlr
                have HDM := Lib.hid hdm; clear hdm hc0
                have hml : mulF (str (dec (val a / val c))) c = (str (dec (val a / val c * val c)), 0) := by
                  have h := mulF_fit (vld_sd HFQ.out) H3.out (by rw [val_sd]; exact fits_le (fits_val H1.out) (by have := HDM.out; omega))
                  rwa [val_sd] at h
                have had : addF (str (dec (val a / val c * val c))) (str (dec (val a % val c))) = (a, 0) := by
                  have hv : vld (str (dec (val a / val c * val c))) = true := vld_sd (fits_le (fits_val H1.out) (by have := HDM.out; omega))
                  have h := addF_fit hv (vld_sd HFR.out) (by rw [val_sd, val_sd, HDM.out]; exact fits_val H1.out)
                  rwa [val_sd, val_sd, HDM.out, sd_val H1.out] at h
                have hcm : cmpF (str (dec (val a % val c))) c = -1 := cmp_less (vld_sd HFR.out) H3.out (by rw [val_sd]; exact HLR.out)
                have HML := Lib.hid hml; clear hml
                have HAD := Lib.hid had; clear had
                have HCM := Lib.hid hcm; clear hcm
                go_wp2_with fail
                have hq6 := div_any a c w5 ha hc (HS.out w5 HB5.out)
                unfold TripEnd at hq6
                rw [HDV.out] at hq6
                refine hq6.mono ?_
                clear hq6
                rintro e w6 ⟨rfl, hb6⟩
                have HB6 := Lib.hid (HB5.out.trans (hb6.mono HB5.out.size)); clear hb6
                go_wp2_with fail
                have hq7 := mul_any (str (dec (val a / val c))) c w6 (fits_size HFQ.out) hc (HS.out w6 HB6.out)
                unfold PairEnd at hq7
                rw [HML.out] at hq7
                refine hq7.mono ?_
                clear hq7
                rintro e w7 ⟨rfl, hb7⟩
                have HB7 := Lib.hid (HB6.out.trans (hb7.mono HB6.out.size)); clear hb7
                go_wp2_with fail
                have hq8 := add_any (str (dec (val a / val c * val c))) (str (dec (val a % val c))) w7 (fits_size (fits_le (fits_val H1.out) (by have := HDM.out; omega))) (fits_size HFR.out) (HS.out w7 HB7.out)
                unfold PairEnd at hq8
                rw [HAD.out] at hq8
                refine hq8.mono ?_
                clear hq8
                rintro e w8 ⟨rfl, hb8⟩
                have HB8 := Lib.hid (HB7.out.trans (hb8.mono HB7.out.size)); clear hb8
                go_wp2_with fail
                have hq9 := cmp_any (str (dec (val a % val c))) c w8 (fits_size HFR.out) hc
                unfold IntEnd at hq9
                rw [HCM.out] at hq9
                refine hq9.mono ?_
                clear hq9
                rintro e w9 ⟨rfl, hb9⟩
                have HB9 := Lib.hid (HB8.out.trans (hb9.mono HB8.out.size)); clear hb9
                go_wp2_with fail
                have hq10 := example_any w9 (HS.out w9 HB9.out)
                refine hq10.mono ?_
                clear hq10
                rintro e w10 ⟨rfl, hb10⟩
                have HB10 := Lib.hid (HB9.out.trans (hb10.mono HB9.out.size)); clear hb10
                go_wp2_with fail
                go_ret
                exact ⟨rfl, HB10.out⟩
            · have hz := not_zero hb0
              have hz1 : (b.toList == [48]) = false := by rw [beq_eq_false_iff_ne]; exact hz
              have hz2 : (b.toList != [48]) = true := by rw [bne_iff_ne]; exact hz
              have hdv := divF_ok HVS.out H2.out hb0
              rw [val_sd, Nat.mul_div_cancel _ (Nat.pos_of_ne_zero hb0), Nat.mul_mod_left, sd_val H1.out, sd_zero] at hdv
              have HDV0 := Lib.hid hdv; clear hdv hb0
              go_wp2_with fail
              have hq6 := div_any (str (dec (val a * val b))) b w5 (fits_size HF.out) hb (HS.out w5 HB5.out)
              unfold TripEnd at hq6
              rw [HDV0.out] at hq6
              refine hq6.mono ?_
              clear hq6
              rintro e w6 ⟨rfl, hb6⟩
              have HB6 := Lib.hid (HB5.out.trans (hb6.mono HB5.out.size)); clear hb6
              go_upto_region 17 with (fail)
              clear hz hz1 hz2
              by_cases hc0 : val c = 0
              · have hz := is_zero H3.out hc0
                have hz1 : (c.toList == [48]) = true := by rw [hz]; rfl
                clear hc0
                go_wp2_with fail
                have hq7 := example_any w6 (HS.out w6 HB6.out)
                refine hq7.mono ?_
                clear hq7
                rintro e w7 ⟨rfl, hb7⟩
                have HB7 := Lib.hid (HB6.out.trans (hb7.mono HB6.out.size)); clear hb7
                go_wp2_with fail
                go_ret
                exact ⟨rfl, HB7.out⟩
              · have hz := not_zero hc0
                have hz1 : (c.toList == [48]) = false := by rw [beq_eq_false_iff_ne]; exact hz
                have hdv := divF_ok H1.out H3.out hc0
                have HDV := Lib.hid hdv; clear hdv
                have hle1 := Nat.div_le_self (val a) (val c)
                have hfq := fits_le (fits_val H1.out) hle1
                have hfr := fits_le (fits_val H1.out) (Nat.mod_le (val a) (val c))
                have hlr := Nat.mod_lt (val a) (Nat.pos_of_ne_zero hc0)
                have hdm : val a / val c * val c + val a % val c = val a := by rw [Nat.mul_comm]; exact Nat.div_add_mod _ _
                have HFQ := Lib.hid hfq; clear hfq hle1
                have HFR := Lib.hid hfr; clear hfr
                have HLR := Lib.hid hlr; clear hlr
                have HDM := Lib.hid hdm; clear hdm hc0
                have hml : mulF (str (dec (val a / val c))) c = (str (dec (val a / val c * val c)), 0) := by
                  have h := mulF_fit (vld_sd HFQ.out) H3.out (by rw [val_sd]; exact fits_le (fits_val H1.out) (by have := HDM.out; omega))
                  rwa [val_sd] at h
                have had : addF (str (dec (val a / val c * val c))) (str (dec (val a % val c))) = (a, 0) := by
                  have hv : vld (str (dec (val a / val c * val c))) = true := vld_sd (fits_le (fits_val H1.out) (by have := HDM.out; omega))
                  have h := addF_fit hv (vld_sd HFR.out) (by rw [val_sd, val_sd, HDM.out]; exact fits_val H1.out)
                  rwa [val_sd, val_sd, HDM.out, sd_val H1.out] at h
                have hcm : cmpF (str (dec (val a % val c))) c = -1 := cmp_less (vld_sd HFR.out) H3.out (by rw [val_sd]; exact HLR.out)
                have HML := Lib.hid hml; clear hml
                have HAD := Lib.hid had; clear had
                have HCM := Lib.hid hcm; clear hcm
                go_wp2_with fail
                have hq7 := div_any a c w6 ha hc (HS.out w6 HB6.out)
                unfold TripEnd at hq7
                rw [HDV.out] at hq7
                refine hq7.mono ?_
                clear hq7
                rintro e w7 ⟨rfl, hb7⟩
                have HB7 := Lib.hid (HB6.out.trans (hb7.mono HB6.out.size)); clear hb7
                go_wp2_with fail
                have hq8 := mul_any (str (dec (val a / val c))) c w7 (fits_size HFQ.out) hc (HS.out w7 HB7.out)
                unfold PairEnd at hq8
                rw [HML.out] at hq8
                refine hq8.mono ?_
                clear hq8
                rintro e w8 ⟨rfl, hb8⟩
                have HB8 := Lib.hid (HB7.out.trans (hb8.mono HB7.out.size)); clear hb8
                go_wp2_with fail
                have hq9 := add_any (str (dec (val a / val c * val c))) (str (dec (val a % val c))) w8 (fits_size (fits_le (fits_val H1.out) (by have := HDM.out; omega))) (fits_size HFR.out) (HS.out w8 HB8.out)
                unfold PairEnd at hq9
                rw [HAD.out] at hq9
                refine hq9.mono ?_
                clear hq9
                rintro e w9 ⟨rfl, hb9⟩
                have HB9 := Lib.hid (HB8.out.trans (hb9.mono HB8.out.size)); clear hb9
                go_wp2_with fail
                have hq10 := cmp_any (str (dec (val a % val c))) c w9 (fits_size HFR.out) hc
                unfold IntEnd at hq10
                rw [HCM.out] at hq10
                refine hq10.mono ?_
                clear hq10
                rintro e w10 ⟨rfl, hb10⟩
                have HB10 := Lib.hid (HB9.out.trans (hb10.mono HB9.out.size)); clear hb10
                go_wp2_with fail
                have hq11 := example_any w10 (HS.out w10 HB10.out)
                refine hq11.mono ?_
                clear hq11
                rintro e w11 ⟨rfl, hb11⟩
                have HB11 := Lib.hid (HB10.out.trans (hb11.mono HB10.out.size)); clear hb11
                go_wp2_with fail
                go_ret
                exact ⟨rfl, HB11.out⟩
          · rw [mulF_long H1.out H2.out hf]
            clear hf
            go_upto_region 17 with (fail)
            by_cases hc0 : val c = 0
            · have hz := is_zero H3.out hc0
              have hz1 : (c.toList == [48]) = true := by rw [hz]; rfl
              clear hc0
              go_wp2_with fail
              have hq6 := example_any w5 (HS.out w5 HB5.out)
              refine hq6.mono ?_
              clear hq6
              rintro e w6 ⟨rfl, hb6⟩
              have HB6 := Lib.hid (HB5.out.trans (hb6.mono HB5.out.size)); clear hb6
              go_wp2_with fail
              go_ret
              exact ⟨rfl, HB6.out⟩
            · have hz := not_zero hc0
              have hz1 : (c.toList == [48]) = false := by rw [beq_eq_false_iff_ne]; exact hz
              have hdv := divF_ok H1.out H3.out hc0
              have HDV := Lib.hid hdv; clear hdv
              have hle1 := Nat.div_le_self (val a) (val c)
              have hfq := fits_le (fits_val H1.out) hle1
              have hfr := fits_le (fits_val H1.out) (Nat.mod_le (val a) (val c))
              have hlr := Nat.mod_lt (val a) (Nat.pos_of_ne_zero hc0)
              have hdm : val a / val c * val c + val a % val c = val a := by rw [Nat.mul_comm]; exact Nat.div_add_mod _ _
              have HFQ := Lib.hid hfq; clear hfq hle1
              have HFR := Lib.hid hfr; clear hfr
              have HLR := Lib.hid hlr; clear hlr
              have HDM := Lib.hid hdm; clear hdm hc0
              have hml : mulF (str (dec (val a / val c))) c = (str (dec (val a / val c * val c)), 0) := by
                have h := mulF_fit (vld_sd HFQ.out) H3.out (by rw [val_sd]; exact fits_le (fits_val H1.out) (by have := HDM.out; omega))
                rwa [val_sd] at h
              have had : addF (str (dec (val a / val c * val c))) (str (dec (val a % val c))) = (a, 0) := by
                have hv : vld (str (dec (val a / val c * val c))) = true := vld_sd (fits_le (fits_val H1.out) (by have := HDM.out; omega))
                have h := addF_fit hv (vld_sd HFR.out) (by rw [val_sd, val_sd, HDM.out]; exact fits_val H1.out)
                rwa [val_sd, val_sd, HDM.out, sd_val H1.out] at h
              have hcm : cmpF (str (dec (val a % val c))) c = -1 := cmp_less (vld_sd HFR.out) H3.out (by rw [val_sd]; exact HLR.out)
              have HML := Lib.hid hml; clear hml
              have HAD := Lib.hid had; clear had
              have HCM := Lib.hid hcm; clear hcm
              go_wp2_with fail
              have hq6 := div_any a c w5 ha hc (HS.out w5 HB5.out)
              unfold TripEnd at hq6
              rw [HDV.out] at hq6
              refine hq6.mono ?_
              clear hq6
              rintro e w6 ⟨rfl, hb6⟩
              have HB6 := Lib.hid (HB5.out.trans (hb6.mono HB5.out.size)); clear hb6
              go_wp2_with fail
              have hq7 := mul_any (str (dec (val a / val c))) c w6 (fits_size HFQ.out) hc (HS.out w6 HB6.out)
              unfold PairEnd at hq7
              rw [HML.out] at hq7
              refine hq7.mono ?_
              clear hq7
              rintro e w7 ⟨rfl, hb7⟩
              have HB7 := Lib.hid (HB6.out.trans (hb7.mono HB6.out.size)); clear hb7
              go_wp2_with fail
              have hq8 := add_any (str (dec (val a / val c * val c))) (str (dec (val a % val c))) w7 (fits_size (fits_le (fits_val H1.out) (by have := HDM.out; omega))) (fits_size HFR.out) (HS.out w7 HB7.out)
              unfold PairEnd at hq8
              rw [HAD.out] at hq8
              refine hq8.mono ?_
              clear hq8
              rintro e w8 ⟨rfl, hb8⟩
              have HB8 := Lib.hid (HB7.out.trans (hb8.mono HB7.out.size)); clear hb8
              go_wp2_with fail
              have hq9 := cmp_any (str (dec (val a % val c))) c w8 (fits_size HFR.out) hc
              unfold IntEnd at hq9
              rw [HCM.out] at hq9
              refine hq9.mono ?_
              clear hq9
              rintro e w9 ⟨rfl, hb9⟩
              have HB9 := Lib.hid (HB8.out.trans (hb9.mono HB8.out.size)); clear hb9
              go_wp2_with fail
              have hq10 := example_any w9 (HS.out w9 HB9.out)
              refine hq10.mono ?_
              clear hq10
              rintro e w10 ⟨rfl, hb10⟩
              have HB10 := Lib.hid (HB9.out.trans (hb10.mono HB9.out.size)); clear hb10
              go_wp2_with fail
              go_ret
              exact ⟨rfl, HB10.out⟩
end Go.Proofs.YtndfbnffielfaaaDoor
