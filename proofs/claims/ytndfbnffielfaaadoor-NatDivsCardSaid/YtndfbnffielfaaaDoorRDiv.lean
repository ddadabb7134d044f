/- The walk of abugidaref02.Div: long division, digit by digit. -/
import Derived.Test.YtndfbnffielfaaaDoorRAdd
import Derived.Laws.Concat
namespace Go.Proofs.YtndfbnffielfaaaDoor
open Go Go.RowKit

/-- The digits qb of the quotient so far, and the rest rn, for the first i digits of l. -/
structure DivI (l : List UInt8) (n : Nat) (qb : List UInt8) (rn i : Nat) : Prop where
  len : qb.length = i
  dig : dgts qb = true
  lt : rn < n
  val : num qb * n + rn = num (l.take i)
theorem DivI.start (l : List UInt8) {n : Nat} (h : n ≠ 0) : DivI l n [] 0 0 := ⟨rfl, rfl, by omega, by simp [num]⟩
theorem dgt_byteOf {j : Nat} (h : j < 10) : dgt (byteOf j) = true := by simp only [dgt, byteOf_toNat h]; simp; omega
theorem DivI.step {l : List UInt8} {n : Nat} {qb : List UInt8} {rn i j m : Nat} {c : UInt8} (h : DivI l n qb rn i) (ht : l.take (i + 1) = l.take i ++ [c]) (hm : m < n) (hj : j < 10) (he : m + j * n = 10 * rn + (c.toNat - 48)) :
    DivI l n (qb ++ [byteOf j]) m (i + 1) := by
  refine ⟨by rw [List.length_append, h.len]; rfl, by rw [dgts_snoc, h.dig, dgt_byteOf hj]; rfl, hm, ?_⟩
  rw [num_snoc, ht, num_snoc, ← h.val, byteOf_toNat hj, show 48 + j - 48 = j by omega, Nat.add_mul, Nat.mul_add, Nat.mul_assoc]
  omega
theorem DivI.j_lt {n rn m j d : Nat} (hr : rn < n) (hd : d < 10) (he : m + j * n = 10 * rn + d) : j < 10 := by
  rcases Nat.lt_or_ge j 10 with h | h
  · exact h
  · have : 10 * n ≤ j * n := Nat.mul_le_mul_right _ h
    omega
theorem ext_one (s : ByteArray) (i : Nat) (h : i < s.size) : s.extract i (i + 1) = str [s[i]] := bts_inj (by
  rw [bts_str]
  simp only [bts, ByteArray.data_extract, Array.toList_extract, List.extract_eq_take_drop]
  rw [show i + 1 - i = 1 by omega, List.drop_eq_getElem_cons (by rw [show s.data.toList.length = s.size from bts_len s]; exact h), List.take_succ_cons, List.take_zero]; rfl)
theorem r_first {c : UInt8} (h : dgt c = true) : str [c] = str (dec (10 * 0 + (c.toNat - 48))) := by
  simp only [dgt, Bool.and_eq_true, decide_eq_true_eq] at h
  rw [dec_small (by omega), u8_eq (c := c) (by omega)]
theorem r_next {c : UInt8} {rn : Nat} (h : dgt c = true) (h0 : rn ≠ 0) : str (dec rn) ++ str [c] = str (dec (10 * rn + (c.toNat - 48))) := by
  simp only [dgt, Bool.and_eq_true, decide_eq_true_eq] at h
  rw [dec_big (n := 10 * rn + (c.toNat - 48)) (by omega), show (10 * rn + (c.toNat - 48)) / 10 = rn by omega, u8_eq (c := c) (by omega)]
  exact bts_inj (by simp [bts, str])
theorem dec_len1 {m n d k : Nat} (hn : (dec n).length ≤ k) (hr : m < n) (hd : d < 10) : (dec (10 * m + d)).length ≤ k + 1 := by
  have := (dec_len_lt.1 hn).1
  exact dec_len_lt.2 ⟨by rw [Nat.pow_succ]; omega, by omega⟩
theorem dec_len_mono {m n k : Nat} (h : m ≤ n) (hn : (dec n).length ≤ k) : (dec m).length ≤ k := by
  have := dec_len_lt.1 hn
  exact dec_len_lt.2 ⟨by omega, this.2⟩
theorem dec_len_le {m n : Nat} (h : n ≤ m) : (dec n).length ≤ (dec m).length := dec_len_mono h (Nat.le_refl _)

/-- The number of a text: the inner loop's measure. -/
def strN (v : Value) : Nat := match v with | .string s => val s | _ => 0
theorem strN_dec (n : Nat) : strN (.string (str (dec n))) = n := val_sd n
/-- 'r = text(less(digits(r), digits(b)))' in a world of one's own: the three contracts in one. -/
structure Strip (l : List UInt8) (k : Nat) : Prop where
  lt : k + 1 ≤ l.length
  val : num (l.drop k) = num l
theorem Strip.step {l : List UInt8} {k : Nat} (h : Strip l k) (hk : k + 1 < l.length) (hz : l[k].toNat = 48) : Strip l (k + 1) := by
  refine ⟨by omega, ?_⟩
  rw [← h.val, List.drop_eq_getElem_cons (i := k) (by omega)]
  generalize l.drop (k + 1) = x
  show num x = List.foldl (fun n c => 10 * n + (c.toNat - 48)) (10 * 0 + (l[k].toNat - 48)) x
  rw [hz]; rfl
theorem strip_end {l : List UInt8} {k : Nat} (h : Strip l k) (hd : dgts l = true) (hl : l.length ≤ 1000) (hz : k + 1 = l.length ∨ l[k]'(by have := h.lt; omega) ≠ 48) : l.drop k = dec (num l) := by
  have hlt := h.lt
  rw [← h.val]
  refine (dec_num (valid_mk (by rw [List.length_drop]; omega) (by rw [List.length_drop]; omega) ?_ ?_)).symm
  · rcases hz with h | h
    · left; rw [List.length_drop]; omega
    · right; rw [List.drop_eq_getElem_cons (i := k) (by omega), List.headD_cons]; exact h
  · unfold dgts at *; rw [List.all_eq_true] at *; intro x hx; exact hd x (List.mem_of_mem_drop hx)

set_option maxRecDepth 100000 in
set_option maxHeartbeats 4000000 in
theorem rdiv_any (s t : ByteArray) (w : World) (hs : s.size ≤ maxLen) (ht : t.size ≤ maxLen) :
    Calls Tryd.prog 21 #[.string s, .string t] w (TripEnd (divF s t) w) := by
  have c1 := fun w => rvalid_any s w hs
  have c2 := fun w => rvalid_any t w ht
  clear hs ht
  cases h1 : vld s with
  | false =>
    have hr : divF s t = (str [], str [], 1) := by unfold divF; rw [h1]; rfl
    rw [hr]; unfold vld at h1; rw [h1] at c1; clear hr h1 c2
    have C1 := Lib.hid c1; clear c1
    go_enter Tryd.func21, Tryd.ntmps21
    go_wp2_with fail
    refine (C1.out _).mono ?_
    rintro e w' ⟨rfl, rfl⟩
    go_wp2
    go_ret3
    exact ⟨rfl, Below.refl _ _⟩
  | true =>
    cases h2 : vld t with
    | false =>
      have hr : divF s t = (str [], str [], 1) := by unfold divF; rw [h1, h2]; rfl
      rw [hr]; unfold vld at h1 h2; rw [h1] at c1; rw [h2] at c2; clear hr h1 h2
      have C1 := Lib.hid c1; clear c1
      have C2 := Lib.hid c2; clear c2
      go_enter Tryd.func21, Tryd.ntmps21
      go_wp2_with fail
      refine (C1.out _).mono ?_
      rintro e w' ⟨rfl, rfl⟩
      go_wp2_with fail
      refine (C2.out _).mono ?_
      rintro e w' ⟨rfl, rfl⟩
      go_wp2
      go_ret3
      exact ⟨rfl, Below.refl _ _⟩
    | true =>
      rw [show validL (bts s) = true from h1] at c1; rw [show validL (bts t) = true from h2] at c2
      have C1 := Lib.hid c1; clear c1
      have C2 := Lib.hid c2; clear c2
      have H1 := Lib.hid h1; clear h1
      have H2 := Lib.hid h2; clear h2
      have d2 := fun w => rdigits_any t w (by have := vld_size H2.out; omega) (valid_parts H2.out).2.2.2
      have D2 := Lib.hid d2; clear d2
      have hts := (sd_val H2.out)
      have HTS := Lib.hid hts; clear hts
      have hdn : (dec (val t)).length ≤ 1000 := fits_val H2.out
      have HDN := Lib.hid hdn; clear hdn
      have hsz1000 : (s.size : Int) ≤ 1000 := by have := (vld_size H1.out).2; omega
      have hsz1 : (1 : Int) ≤ (s.size : Int) := by have := (vld_size H1.out).1; omega
      by_cases hz : val t = 0
      · have hr : divF s t = (str [], str [], 4) := by unfold divF; rw [H1.out, H2.out, if_pos hz]; rfl
        rw [hr]; clear hr
        have ht0 := is_zero H2.out hz
        clear hz
        go_enter Tryd.func21, Tryd.ntmps21
        go_wp2_with fail
        refine (C1.out _).mono ?_
        rintro e w' ⟨rfl, rfl⟩
        go_wp2_with fail
        refine (C2.out _).mono ?_
        rintro e w' ⟨rfl, rfl⟩
        go_wp2_with fail
        go_ret3
        exact ⟨rfl, Below.refl _ _⟩
      · have hr : divF s t = (str (dec (val s / val t)), str (dec (val s % val t)), 0) := by unfold divF; rw [H1.out, H2.out, if_neg hz]; rfl
        rw [hr]; clear hr
        have ht0 : (t.toList == [48]) = false := beq_eq_false_iff_ne.2 (not_zero hz)
        have HZ := Lib.hid hz; clear hz
        obtain ⟨i0, hi, hz0, hz1', hz2'⟩ := info_parts info_u8
        go_enter Tryd.func21, Tryd.ntmps21
        go_wp2_with fail
        refine (C1.out _).mono ?_
        rintro e w' ⟨rfl, rfl⟩
        go_wp2_with fail
        refine (C2.out _).mono ?_
        rintro e w' ⟨rfl, rfl⟩
        go_wp2_with fail
        clear ht0
        go_loopw [7, 8, 9] (fun v r i wr => ∃ (k rn : Nat) (qb : List UInt8), k ≤ s.size ∧ i = .int .i64 (k : Int) ∧ r = .string (str (dec rn)) ∧ DivI (bts s) (val t) qb rn k ∧ Own wr w.heap.size 5 .u8 v (qb.map (·.toNat)) ∧ Below w.heap.size w wr) (fun _ _ i _ => s.size - (intOf i).toNat)
        case atStart => exact ⟨0, 0, [], Nat.zero_le _, rfl, by rw [dec_small (by omega)]; rfl, DivI.start _ HZ.out, Own.nil _ _ _ _, Below.refl _ _⟩
        case round =>
          obtain ⟨k, rn, qb, hk, rfl, rfl, hinv, hown, hb⟩ := hrel
          have hlk : (qb.map (·.toNat)).length = k := by rw [List.length_map]; exact hinv.len
          have HINV := Lib.hid hinv; clear hinv
          obtain ⟨ad, cap, rfl⟩ := hown.shape
          rw [hlk] at hown ⊢
          have HO := Lib.hid hown; clear hown
          have HB := Lib.hid hb; clear hb
          have hsz := HB.out.size
          have HLK := Lib.hid hlk; clear hlk
          obtain ⟨wo, rfl⟩ : ∃ wo : World, wo = wr := ⟨_, rfl⟩
          by_cases hlt : k < s.size
          · have hdc : dgt s[k] = true := by
              have := dgts_get (valid_parts H1.out).2.2.2 k (by rw [bts_len]; exact hlt)
              rw [bts_get s k hlt] at this
              simp only [dgt]; simp; exact this
            have hex := ext_one s k hlt
            have htk := take_snoc s k hlt
            obtain ⟨c, hc⟩ : ∃ c, c = s[k] := ⟨_, rfl⟩
            rw [← hc] at hdc hex htk
            have HDC := Lib.hid hdc; clear hdc
            have HEX := Lib.hid hex; clear hex
            have HTK := Lib.hid htk; clear htk
            clear hc
            obtain ⟨m0, hm0⟩ : ∃ m0, m0 = 10 * rn + (c.toNat - 48) := ⟨_, rfl⟩
            have hml : (dec m0).length ≤ 1001 := by
              have := HDC.out
              simp only [dgt, Bool.and_eq_true, decide_eq_true_eq] at this
              rw [hm0]; exact dec_len1 HDN.out HINV.out.lt (by omega)
            have HML := Lib.hid hml; clear hml
            have HM0 := Lib.hid hm0; clear hm0
            by_cases hrn : rn = 0
            · have hr0 : (str (dec rn)).toList = [48] := by rw [hrn, Lib.toList_data, dec_small (by omega)]; rfl
              have hstr : s.extract k (k + 1) = str (dec m0) := by rw [HEX.out, HM0.out, hrn]; exact r_first HDC.out
              have HSTR := Lib.hid hstr; clear hstr hrn
              go_wp2_with fail
              rw [HSTR.out]
              clear hr0
              go_loopw [8, 10] (fun r d wq => ∃ (m j : Nat), r = .string (str (dec m)) ∧ d = .int .u8 (48 + (j : Int)) ∧ m + j * val t = m0 ∧ Below w.heap.size w wq ∧ Below wo.heap.size wo wq) (fun r _ _ => strN r)
              case atStart => exact ⟨m0, 0, rfl, by go_num, by omega, HB.out, Below.refl _ _⟩
              case round =>
                obtain ⟨m, j, rfl, rfl, hmj, hbq, hbq2⟩ := hrel
                have HMJ := Lib.hid hmj; clear hmj
                have HQ := Lib.hid hbq; clear hbq
                have HQ2 := Lib.hid hbq2; clear hbq2
                have hszq := HQ.out.size
                have hszq2 := HQ2.out.size
                have hmm : (dec m).length ≤ 1001 := dec_len_mono (by have := HMJ.out; omega) HML.out
                have hcd : c.toNat - 48 < 10 := by have := HDC.out; simp only [dgt, Bool.and_eq_true, decide_eq_true_eq] at this; omega
                have hj10 := DivI.j_lt HINV.out.lt hcd (HMJ.out.trans HM0.out)
                clear hcd
                have hj9 : (j : Int) ≤ 9 := by omega
                have HJ := Lib.hid hj10; clear hj10
                have hc := rcompare_any m (val t) wr (by omega)
                rw [HTS.out] at hc
                unfold CmpEnd at hc
                by_cases hlow : m < val t
                · rw [cmpN_lt hlow] at hc
                  have HC := Lib.hid hc; clear hc
                  have HLOW := Lib.hid hlow; clear hlow
                  go_wp2_with fail
                  refine HC.out.mono ?_
                  rintro e w3 ⟨rfl, hb3⟩
                  have hb31 := HQ.out.trans (hb3.mono hszq)
                  have hb32 := HQ2.out.trans (hb3.mono hszq2)
                  have hok := HO.out.kept hb32 (Nat.le_refl _)
                  have hraw : w3.ownsRow w.heap.size 5 1 (.slice ad k cap) k (vals .u8 (qb.map (·.toNat))) := by have := hok.raw; rwa [HLK.out] at this
                  have HRAW := Lib.hid hraw; clear hraw
                  have HOK := Lib.hid hok; clear hok
                  have HB3 := Lib.hid hb31; clear hb31 hb32 hb3
                  have hsz3 := HB3.out.size
                  have hce : (48 + (j : Int)) = ((48 + j : Nat) : Int) := by omega
                  have HCE := Lib.hid hce; clear hce
                  have hqe : (qb ++ [byteOf j]).map (·.toNat) = qb.map (·.toNat) ++ [48 + j] := by rw [List.map_append]; simp [byteOf_toNat HJ.out]
                  have HQE := Lib.hid hqe; clear hqe
                  go_wp2_with (at_builtin; refine wpList_append_own _ rfl (.tmp 54) (.tmp 56) 52 rfl w.heap.size 5 i0 (.int .u8 0) 1 1 Tryd.underlying52 hi hz0 hz1' hz2' rfl (by decide) _ _ _ rfl (World.ownsRow.alloc HRAW.out _) ⟨w3.heap.size, 0, none⟩ 1 1 [.int .u8 (48 + (j : Int))] rfl rfl (cell_one_new _ _ _) (one_cell _ _) (by unfold maxLen; omega) (by omega) (by simp; omega) ?_; intro v' w1 hown1 hgrow1 _)
                  rw [HCE.out] at hown1
                  obtain ⟨ho, hb⟩ := HOK.out.appended HB3.out hsz3 (by rw [HLK.out]; exact hown1) hgrow1
                  clear hown1 hgrow1
                  rw [← HQE.out] at ho
                  have HO1 := Lib.hid ho; clear ho
                  have HB1 := Lib.hid hb; clear hb
                  try go_wp2_with fail
                  go_roundw
                  case rel => exact ⟨k + 1, m, qb ++ [byteOf j], by omega, by go_num, rfl, HINV.out.step HTK.out HLOW.out HJ.out (HMJ.out.trans HM0.out), HO1.out, HB1.out⟩
                  case measure => simp [intOf]; omega
                · have hcn : (0 : Int) ≤ cmpN m (val t) := by unfold cmpN; rw [if_neg hlow]; split <;> decide
                  obtain ⟨cc, hcc⟩ : ∃ cc, cc = cmpN m (val t) := ⟨_, rfl⟩
                  rw [← hcc] at hcn hc
                  clear hcc
                  have HC := Lib.hid hc; clear hc
                  have hle : val t ≤ m := Nat.le_of_not_lt hlow
                  have HLE := Lib.hid hle; clear hle hlow
                  have hdl : (digL (bts t)).length ≤ (digL (dec m)).length := by
                    rw [digL_len, digL_len, bts_len, ← HTS.out, str_size]; exact dec_len_le HLE.out
                  have hdv1 : dval (digL (dec m)) = m := by rw [(digL_ok (dgts_dec m)).2, num_dec]
                  have hdv2 : dval (digL (bts t)) = val t := (digL_ok (valid_parts H2.out).2.2.2).2
                  have hdd1 := (digL_ok (dgts_dec m)).1
                  have hdd2 := (digL_ok (valid_parts H2.out).2.2.2).1
                  have hxl : (digL (dec m)).length ≤ 1001 := by rw [digL_len]; exact hmm
                  have D1 := Lib.hid (rdigits_any (str (dec m)))
                  obtain ⟨xs, hxs⟩ : ∃ xs, xs = digL (dec m) := ⟨_, rfl⟩
                  obtain ⟨ys, hys⟩ : ∃ ys, ys = digL (bts t) := ⟨_, rfl⟩
                  rw [← hxs] at hdl hdv1 hdd1 hxl
                  rw [← hys] at hdl hdv2 hdd2
                  have XS := Lib.hid hxs; clear hxs
                  have YS := Lib.hid hys; clear hys
                  have HDL := Lib.hid hdl; clear hdl
                  have HV1 := Lib.hid hdv1; clear hdv1
                  have HV2 := Lib.hid hdv2; clear hdv2
                  have HD1 := Lib.hid hdd1; clear hdd1
                  have HD2 := Lib.hid hdd2; clear hdd2
                  go_wp2_with fail
                  refine HC.out.mono ?_
                  rintro e w3 ⟨rfl, hb3⟩
                  have hb31 := HQ.out.trans (hb3.mono hszq)
                  have hb32 := HQ2.out.trans (hb3.mono hszq2)
                  have HB3 := Lib.hid hb31
                  have HW3 := Lib.hid hb32
                  clear hb31 hb32 hb3
                  have hz3 := HB3.out.size
                  have hy3 := HW3.out.size
                  go_wp2_with fail
                  have q4 := D1.out w3 (by rw [str_size]; omega) (by rw [bts_str]; exact dgts_dec m)
                  rw [bts_str, ← XS.out] at q4
                  refine q4.mono ?_
                  clear q4
                  rintro e w4 ⟨v4, rfl, ho4, hb4⟩
                  obtain ⟨a4, c4, rfl⟩ := ho4.shape
                  have HO4 := Lib.hid ho4; clear ho4
                  have hb41 := HB3.out.trans (hb4.mono hz3)
                  have hb42 := HW3.out.trans (hb4.mono hy3)
                  have HB4 := Lib.hid hb41
                  have HW4 := Lib.hid hb42
                  clear hb41 hb42 hb4
                  have hz4 := HB4.out.size
                  have hy4 := HW4.out.size
                  go_wp2_with fail
                  have q5 := D2.out w4
                  rw [← YS.out] at q5
                  refine q5.mono ?_
                  clear q5
                  rintro e w5 ⟨v5, rfl, ho5, hb5⟩
                  obtain ⟨a5, c5, rfl⟩ := ho5.shape
                  have HO5 := Lib.hid ho5; clear ho5
                  have hs5 := HO4.out.sl.below hb5 (Nat.le_refl _)
                  have HS5 := Lib.hid hs5; clear hs5
                  have hb51 := HB4.out.trans (hb5.mono hz4)
                  have hb52 := HW4.out.trans (hb5.mono hy4)
                  have HB5 := Lib.hid hb51
                  have HW5 := Lib.hid hb52
                  clear hb51 hb52 hb5
                  have hz5 := HB5.out.size
                  have hy5 := HW5.out.size
                  go_wp2_with fail
                  refine (rless_any _ _ xs ys w5 HS5.out HO5.out.sl HD1.out HD2.out HDL.out (by rw [HV1.out, HV2.out]; exact HLE.out) (by omega)).mono ?_
                  rintro e w6 ⟨ls, hls1, hls2, hls3, v6, rfl, ho6, hb6⟩
                  obtain ⟨a6, c6, rfl⟩ := ho6.shape
                  rw [HV1.out, HV2.out] at hls1
                  have HL1 := Lib.hid hls1; clear hls1
                  have HL2 := Lib.hid hls2; clear hls2
                  have hls4 : ls.length ≤ 1001 := by omega
                  clear hls3
                  have HO6 := Lib.hid ho6; clear ho6
                  have hb61 := HB5.out.trans (hb6.mono hz5)
                  have hb62 := HW5.out.trans (hb6.mono hy5)
                  have HB6 := Lib.hid hb61
                  have HW6 := Lib.hid hb62
                  clear hb61 hb62 hb6
                  have hz6 := HB6.out.size
                  have hy6 := HW6.out.size
                  go_wp2_with fail
                  have q7 := rtext_any _ ls w6 HO6.out.sl HL2.out (by omega)
                  rw [HL1.out] at q7
                  refine q7.mono ?_
                  clear q7
                  rintro e w7 ⟨rfl, hb7⟩
                  have hb71 := HB6.out.trans (hb7.mono hz6)
                  have hb72 := HW6.out.trans (hb7.mono hy6)
                  have HB7 := Lib.hid hb71
                  have HW7 := Lib.hid hb72
                  clear hb71 hb72 hb7
                  go_wp2_with fail
                  go_roundw
                  case rel => exact ⟨m - val t, j + 1, rfl, by go_num, by rw [Nat.add_mul, Nat.one_mul]; have := HMJ.out; have := HLE.out; omega, HB7.out, HW7.out⟩
                  case measure => rw [strN_dec, strN_dec]; have := HLE.out; have := HZ.out; omega
            · have hr0 : ((str (dec rn)).toList == [48]) = false := beq_eq_false_iff_ne.2 (not_zero (by rw [val_sd]; exact hrn))
              have hstr : str (dec rn) ++ s.extract k (k + 1) = str (dec m0) := by rw [HEX.out, HM0.out]; exact r_next HDC.out hrn
              have HSTR := Lib.hid hstr; clear hstr hrn
              have hsr : ((str (dec rn)).size : Int) ≤ 8388608 := by rw [str_size]; have := dec_len_mono (Nat.le_of_lt HINV.out.lt) HDN.out; omega
              have hse : ((s.extract k (k + 1)).size : Int) ≤ 8388608 := by rw [HEX.out, str_size]; simp
              go_wp2_with fail
              rw [HSTR.out]
              clear hr0
              go_loopw [8, 10] (fun r d wq => ∃ (m j : Nat), r = .string (str (dec m)) ∧ d = .int .u8 (48 + (j : Int)) ∧ m + j * val t = m0 ∧ Below w.heap.size w wq ∧ Below wo.heap.size wo wq) (fun r _ _ => strN r)
              case atStart => exact ⟨m0, 0, rfl, by go_num, by omega, HB.out, Below.refl _ _⟩
              case round =>
                obtain ⟨m, j, rfl, rfl, hmj, hbq, hbq2⟩ := hrel
                have HMJ := Lib.hid hmj; clear hmj
                have HQ := Lib.hid hbq; clear hbq
                have HQ2 := Lib.hid hbq2; clear hbq2
                have hszq := HQ.out.size
                have hszq2 := HQ2.out.size
                have hmm : (dec m).length ≤ 1001 := dec_len_mono (by have := HMJ.out; omega) HML.out
                have hcd : c.toNat - 48 < 10 := by have := HDC.out; simp only [dgt, Bool.and_eq_true, decide_eq_true_eq] at this; omega
                have hj10 := DivI.j_lt HINV.out.lt hcd (HMJ.out.trans HM0.out)
                clear hcd
                have hj9 : (j : Int) ≤ 9 := by omega
                have HJ := Lib.hid hj10; clear hj10
                have hc := rcompare_any m (val t) wr (by omega)
                rw [HTS.out] at hc
                unfold CmpEnd at hc
                by_cases hlow : m < val t
                · rw [cmpN_lt hlow] at hc
                  have HC := Lib.hid hc; clear hc
                  have HLOW := Lib.hid hlow; clear hlow
                  go_wp2_with fail
                  refine HC.out.mono ?_
                  rintro e w3 ⟨rfl, hb3⟩
                  have hb31 := HQ.out.trans (hb3.mono hszq)
                  have hb32 := HQ2.out.trans (hb3.mono hszq2)
                  have hok := HO.out.kept hb32 (Nat.le_refl _)
                  have hraw : w3.ownsRow w.heap.size 5 1 (.slice ad k cap) k (vals .u8 (qb.map (·.toNat))) := by have := hok.raw; rwa [HLK.out] at this
                  have HRAW := Lib.hid hraw; clear hraw
                  have HOK := Lib.hid hok; clear hok
                  have HB3 := Lib.hid hb31; clear hb31 hb32 hb3
                  have hsz3 := HB3.out.size
                  have hce : (48 + (j : Int)) = ((48 + j : Nat) : Int) := by omega
                  have HCE := Lib.hid hce; clear hce
                  have hqe : (qb ++ [byteOf j]).map (·.toNat) = qb.map (·.toNat) ++ [48 + j] := by rw [List.map_append]; simp [byteOf_toNat HJ.out]
                  have HQE := Lib.hid hqe; clear hqe
                  go_wp2_with (at_builtin; refine wpList_append_own _ rfl (.tmp 54) (.tmp 56) 52 rfl w.heap.size 5 i0 (.int .u8 0) 1 1 Tryd.underlying52 hi hz0 hz1' hz2' rfl (by decide) _ _ _ rfl (World.ownsRow.alloc HRAW.out _) ⟨w3.heap.size, 0, none⟩ 1 1 [.int .u8 (48 + (j : Int))] rfl rfl (cell_one_new _ _ _) (one_cell _ _) (by unfold maxLen; omega) (by omega) (by simp; omega) ?_; intro v' w1 hown1 hgrow1 _)
                  rw [HCE.out] at hown1
                  obtain ⟨ho, hb⟩ := HOK.out.appended HB3.out hsz3 (by rw [HLK.out]; exact hown1) hgrow1
                  clear hown1 hgrow1
                  rw [← HQE.out] at ho
                  have HO1 := Lib.hid ho; clear ho
                  have HB1 := Lib.hid hb; clear hb
                  try go_wp2_with fail
                  go_roundw
                  case rel => exact ⟨k + 1, m, qb ++ [byteOf j], by omega, by go_num, rfl, HINV.out.step HTK.out HLOW.out HJ.out (HMJ.out.trans HM0.out), HO1.out, HB1.out⟩
                  case measure => simp [intOf]; omega
                · have hcn : (0 : Int) ≤ cmpN m (val t) := by unfold cmpN; rw [if_neg hlow]; split <;> decide
                  obtain ⟨cc, hcc⟩ : ∃ cc, cc = cmpN m (val t) := ⟨_, rfl⟩
                  rw [← hcc] at hcn hc
                  clear hcc
                  have HC := Lib.hid hc; clear hc
                  have hle : val t ≤ m := Nat.le_of_not_lt hlow
                  have HLE := Lib.hid hle; clear hle hlow
                  have hdl : (digL (bts t)).length ≤ (digL (dec m)).length := by
                    rw [digL_len, digL_len, bts_len, ← HTS.out, str_size]; exact dec_len_le HLE.out
                  have hdv1 : dval (digL (dec m)) = m := by rw [(digL_ok (dgts_dec m)).2, num_dec]
                  have hdv2 : dval (digL (bts t)) = val t := (digL_ok (valid_parts H2.out).2.2.2).2
                  have hdd1 := (digL_ok (dgts_dec m)).1
                  have hdd2 := (digL_ok (valid_parts H2.out).2.2.2).1
                  have hxl : (digL (dec m)).length ≤ 1001 := by rw [digL_len]; exact hmm
                  have D1 := Lib.hid (rdigits_any (str (dec m)))
                  obtain ⟨xs, hxs⟩ : ∃ xs, xs = digL (dec m) := ⟨_, rfl⟩
                  obtain ⟨ys, hys⟩ : ∃ ys, ys = digL (bts t) := ⟨_, rfl⟩
                  rw [← hxs] at hdl hdv1 hdd1 hxl
                  rw [← hys] at hdl hdv2 hdd2
                  have XS := Lib.hid hxs; clear hxs
                  have YS := Lib.hid hys; clear hys
                  have HDL := Lib.hid hdl; clear hdl
                  have HV1 := Lib.hid hdv1; clear hdv1
                  have HV2 := Lib.hid hdv2; clear hdv2
                  have HD1 := Lib.hid hdd1; clear hdd1
                  have HD2 := Lib.hid hdd2; clear hdd2
                  go_wp2_with fail
                  refine HC.out.mono ?_
                  rintro e w3 ⟨rfl, hb3⟩
                  have hb31 := HQ.out.trans (hb3.mono hszq)
                  have hb32 := HQ2.out.trans (hb3.mono hszq2)
                  have HB3 := Lib.hid hb31
                  have HW3 := Lib.hid hb32
                  clear hb31 hb32 hb3
                  have hz3 := HB3.out.size
                  have hy3 := HW3.out.size
                  go_wp2_with fail
                  have q4 := D1.out w3 (by rw [str_size]; omega) (by rw [bts_str]; exact dgts_dec m)
                  rw [bts_str, ← XS.out] at q4
                  refine q4.mono ?_
                  clear q4
                  rintro e w4 ⟨v4, rfl, ho4, hb4⟩
                  obtain ⟨a4, c4, rfl⟩ := ho4.shape
                  have HO4 := Lib.hid ho4; clear ho4
                  have hb41 := HB3.out.trans (hb4.mono hz3)
                  have hb42 := HW3.out.trans (hb4.mono hy3)
                  have HB4 := Lib.hid hb41
                  have HW4 := Lib.hid hb42
                  clear hb41 hb42 hb4
                  have hz4 := HB4.out.size
                  have hy4 := HW4.out.size
                  go_wp2_with fail
                  have q5 := D2.out w4
                  rw [← YS.out] at q5
                  refine q5.mono ?_
                  clear q5
                  rintro e w5 ⟨v5, rfl, ho5, hb5⟩
                  obtain ⟨a5, c5, rfl⟩ := ho5.shape
                  have HO5 := Lib.hid ho5; clear ho5
                  have hs5 := HO4.out.sl.below hb5 (Nat.le_refl _)
                  have HS5 := Lib.hid hs5; clear hs5
                  have hb51 := HB4.out.trans (hb5.mono hz4)
                  have hb52 := HW4.out.trans (hb5.mono hy4)
                  have HB5 := Lib.hid hb51
                  have HW5 := Lib.hid hb52
                  clear hb51 hb52 hb5
                  have hz5 := HB5.out.size
                  have hy5 := HW5.out.size
                  go_wp2_with fail
                  refine (rless_any _ _ xs ys w5 HS5.out HO5.out.sl HD1.out HD2.out HDL.out (by rw [HV1.out, HV2.out]; exact HLE.out) (by omega)).mono ?_
                  rintro e w6 ⟨ls, hls1, hls2, hls3, v6, rfl, ho6, hb6⟩
                  obtain ⟨a6, c6, rfl⟩ := ho6.shape
                  rw [HV1.out, HV2.out] at hls1
                  have HL1 := Lib.hid hls1; clear hls1
                  have HL2 := Lib.hid hls2; clear hls2
                  have hls4 : ls.length ≤ 1001 := by omega
                  clear hls3
                  have HO6 := Lib.hid ho6; clear ho6
                  have hb61 := HB5.out.trans (hb6.mono hz5)
                  have hb62 := HW5.out.trans (hb6.mono hy5)
                  have HB6 := Lib.hid hb61
                  have HW6 := Lib.hid hb62
                  clear hb61 hb62 hb6
                  have hz6 := HB6.out.size
                  have hy6 := HW6.out.size
                  go_wp2_with fail
                  have q7 := rtext_any _ ls w6 HO6.out.sl HL2.out (by omega)
                  rw [HL1.out] at q7
                  refine q7.mono ?_
                  clear q7
                  rintro e w7 ⟨rfl, hb7⟩
                  have hb71 := HB6.out.trans (hb7.mono hz6)
                  have hb72 := HW6.out.trans (hb7.mono hy6)
                  have HB7 := Lib.hid hb71
                  have HW7 := Lib.hid hb72
                  clear hb71 hb72 hb7
                  go_wp2_with fail
                  go_roundw
                  case rel => exact ⟨m - val t, j + 1, rfl, by go_num, by rw [Nat.add_mul, Nat.one_mul]; have := HMJ.out; have := HLE.out; omega, HB7.out, HW7.out⟩
                  case measure => rw [strN_dec, strN_dec]; have := HLE.out; have := HZ.out; omega
          · have hkk : k = s.size := by omega
            obtain ⟨g, cap', hv, _, _, hkc, _⟩ := HO.out.some (by rw [HLK.out]; omega)
            rw [HLK.out] at hv hkc
            simp only [Value.slice.injEq, true_and] at hv
            obtain ⟨rfl, rfl⟩ := hv
            have hql := HINV.out.len
            have QL := Lib.hid hql; clear hql
            have hval : num qb * val t + rn = val s := by
              have := HINV.out.val
              rw [hkk, List.take_of_length_le (by rw [bts_len]; omega)] at this; exact this
            have hrem : rn = val s % val t := by
              rw [← hval, Nat.mul_comm, Nat.mul_add_mod, Nat.mod_eq_of_lt HINV.out.lt]
            have hquo : num qb = val s / val t := by
              rw [← hval, Nat.mul_comm, Nat.mul_add_div (Nat.pos_of_ne_zero HZ.out), Nat.div_eq_of_lt HINV.out.lt, Nat.add_zero]
            have HREM := Lib.hid hrem; clear hrem
            have HQUO := Lib.hid hquo; clear hquo hval
            have hk1 : 1 ≤ k := by omega
            have hk1000 : k ≤ 1000 := by omega
            have HK1000 := Lib.hid hk1000
            clear hkk
            go_wp2_with fail
            go_loop [11] (fun i => ∃ j : Nat, i = .int .i64 (j : Int) ∧ Strip qb j) (fun i => k - (intOf i).toNat)
            case atStart => exact ⟨0, rfl, ⟨by rw [QL.out]; omega, by rw [List.drop_zero]⟩⟩
            case round =>
              obtain ⟨j, rfl, hst⟩ := hrel
              have hjk := hst.lt
              rw [QL.out] at hjk
              have hjk' : j < k := by omega
              have hjc : j < cap := by omega
              have hjc2 : ¬ cap = j := by omega
              have HST := Lib.hid hst; clear hst
              have hcl := HO.out.cell HLK.out j (by omega)
              have hnd : nth (qb.map (·.toNat)) j = (qb[j]'(by rw [QL.out]; omega)).toNat := by rw [nth_get _ _ (by rw [HLK.out]; omega), List.getElem_map]
              obtain ⟨d, hd⟩ : ∃ d, d = nth (qb.map (·.toNat)) j := ⟨_, rfl⟩
              rw [← hd] at hcl hnd
              have HND := Lib.hid hnd; clear hnd hd
              by_cases hlt2 : j + 1 < k
              · have hgj : decide ((j : Int) < (k : Int) - 1) = true := decide_eq_true (by omega)
                have HLT2 := Lib.hid hlt2; clear hlt2 hjk
                by_cases h48 : d = 48
                · have hg : ((d : Int) == 48) = true := by rw [beq_iff_eq]; omega
                  have H48 := Lib.hid h48; clear h48
                  have hstep := HST.out.step (by rw [QL.out]; exact HLT2.out) (by rw [← HND.out]; exact H48.out)
                  have HSTEP := Lib.hid hstep; clear hstep
                  go_wp2_with fail
                  go_round
                  case rel => exact ⟨j + 1, by go_num, HSTEP.out⟩
                  case measure => simp [intOf]; omega
                · have hg : ((d : Int) == 48) = false := by rw [beq_eq_false_iff_ne]; omega
                  have hend := strip_end HST.out HINV.out.dig (by rw [QL.out]; exact HK1000.out) (.inr (by intro e; apply h48; rw [HND.out, e]; rfl))
                  clear h48
                  rw [HQUO.out] at hend
                  have hcells : ∀ (i : Nat) (hi : i < (qb.drop j).length), wo.cell? ((⟨g, j, none⟩ : Addr).add i) = some (.int .u8 (((qb.drop j)[i].toNat : Nat) : Int)) := fun i hi => by
                    have hi' : j + i < k := by rw [List.length_drop, QL.out] at hi; omega
                    have hc := HO.out.cell HLK.out (j + i) hi'
                    have e : (⟨g, j, none⟩ : Addr).add i = ⟨g, j + i, none⟩ := by unfold Addr.add; split <;> simp_all
                    rw [e, hc, nth_get _ _ (by rw [HLK.out]; exact hi'), List.getElem_map, List.getElem_drop]
                  have hcv := run_convert_bytes_back (P := Tryd.prog) wo 52 9 5 ⟨g, j, none⟩ (cap - j) (qb.drop j) Tryd.underlying52 Tryd.underlying5 Tryd.underlying9 hcells
                  have hres : (⟨(qb.drop j).toArray⟩ : ByteArray) = str (dec (val s / val t)) := by rw [hend]; rfl
                  rw [hres, List.length_drop, QL.out] at hcv
                  clear hcells hres hend
                  go_wp2_with fail
                  all_goals (rw [← HREM.out]; go_ret3; exact ⟨rfl, HB.out⟩)
              · have hgj : decide ((j : Int) < (k : Int) - 1) = false := decide_eq_false (by omega)
                have hend := strip_end HST.out HINV.out.dig (by rw [QL.out]; exact HK1000.out) (.inl (by rw [QL.out]; omega))
                clear hlt2 hjk
                rw [HQUO.out] at hend
                have hcells : ∀ (i : Nat) (hi : i < (qb.drop j).length), wo.cell? ((⟨g, j, none⟩ : Addr).add i) = some (.int .u8 (((qb.drop j)[i].toNat : Nat) : Int)) := fun i hi => by
                  have hi' : j + i < k := by rw [List.length_drop, QL.out] at hi; omega
                  have hc := HO.out.cell HLK.out (j + i) hi'
                  have e : (⟨g, j, none⟩ : Addr).add i = ⟨g, j + i, none⟩ := by unfold Addr.add; split <;> simp_all
                  rw [e, hc, nth_get _ _ (by rw [HLK.out]; exact hi'), List.getElem_map, List.getElem_drop]
                have hcv := run_convert_bytes_back (P := Tryd.prog) wo 52 9 5 ⟨g, j, none⟩ (cap - j) (qb.drop j) Tryd.underlying52 Tryd.underlying5 Tryd.underlying9 hcells
                have hres : (⟨(qb.drop j).toArray⟩ : ByteArray) = str (dec (val s / val t)) := by rw [hend]; rfl
                rw [hres, List.length_drop, QL.out] at hcv
                clear hcells hres hend
                go_wp2_with fail
                all_goals (rw [← HREM.out]; go_ret3; exact ⟨rfl, HB.out⟩)
end Go.Proofs.YtndfbnffielfaaaDoor
