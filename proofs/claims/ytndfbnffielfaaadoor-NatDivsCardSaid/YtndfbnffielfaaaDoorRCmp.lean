/- The walks of abugidaref02.Small, compare and Cmp. -/
import Derived.Test.YtndfbnffielfaaaDoorRText
import Derived.Test.YtndfbnffielfaaaDoorBackW
namespace Go.Proofs.YtndfbnffielfaaaDoor
open Go Go.RowKit

theorem num_cat {p q : List UInt8} (h : dgts (p ++ q) = true) : num (p ++ q) = num q + 10 ^ q.length * num p := by
  have hp : dgts p = true ∧ dgts q = true := by simpa [dgts, List.all_append] using h
  rw [← (digL_ok h).2, ← (digL_ok hp.1).2, ← (digL_ok hp.2).2]
  have : digL (p ++ q) = digL q ++ digL p := by simp [digL]
  rw [this, dval_append, digL_len]
def CmpB (s t : ByteArray) (c : Int) : Prop :=
  (s.size < t.size ∧ c = -1) ∨ (t.size < s.size ∧ c = 1) ∨ (s.size = t.size ∧ ((bts s = bts t ∧ c = 0) ∨
    ∃ i, i < s.size ∧ (bts s).take i = (bts t).take i ∧ (((bts s).getD i 0).toNat < ((bts t).getD i 0).toNat ∧ c = -1 ∨ ((bts t).getD i 0).toNat < ((bts s).getD i 0).toNat ∧ c = 1)))
theorem num_lex {l r : List UInt8} (hl : dgts l = true) (hr : dgts r = true) (he : l.length = r.length) (i : Nat) (hi : i < l.length) (ht : l.take i = r.take i) (hc : (l.getD i 0).toNat < (r.getD i 0).toNat) : num l < num r := by
  have el : l = l.take i ++ (l.getD i 0 :: l.drop (i + 1)) := by
    rw [List.getD_eq_getElem?_getD, List.getElem?_eq_getElem hi]
    simp
  have er : r = r.take i ++ (r.getD i 0 :: r.drop (i + 1)) := by
    rw [List.getD_eq_getElem?_getD, List.getElem?_eq_getElem (by omega)]
    simp
  have hlen : (l.drop (i + 1)).length = (r.drop (i + 1)).length := by rw [List.length_drop, List.length_drop, he]
  generalize l.take i = p at el ht
  generalize hcl : l.getD i 0 = c at el hc
  generalize l.drop (i + 1) = x at el hlen
  generalize r.take i = p' at er ht
  generalize hcr : r.getD i 0 = d at er hc
  generalize r.drop (i + 1) = y at er hlen
  subst ht
  rw [el] at hl ⊢
  rw [er] at hr ⊢
  have h1 : dgts (c :: x) = true := by simp only [dgts, List.all_append, Bool.and_eq_true] at hl ⊢; exact hl.2
  have h2 : dgts (d :: y) = true := by simp only [dgts, List.all_append, Bool.and_eq_true] at hr ⊢; exact hr.2
  have hx : dgts x = true := by simp only [dgts, List.all_cons, Bool.and_eq_true] at h1 ⊢; exact h1.2
  have hc0 : dgt c = true := by simp only [dgts, List.all_cons, Bool.and_eq_true] at h1; exact h1.1
  rw [num_cat hl, num_cat hr]
  have e1 : num (c :: x) = num x + 10 ^ x.length * (c.toNat - 48) := by
    have := num_cat (p := [c]) (q := x) h1
    simpa [num] using this
  have e2 : num (d :: y) = num y + 10 ^ y.length * (d.toNat - 48) := by
    have := num_cat (p := [d]) (q := y) h2
    simpa [num] using this
  rw [e1, e2]
  simp only [List.length_cons, hlen]
  have h3 := num_lt x hx
  rw [hlen] at h3
  simp only [dgt, Bool.and_eq_true, decide_eq_true_eq] at hc0
  have h4 : 10 ^ y.length * (c.toNat - 48 + 1) ≤ 10 ^ y.length * (d.toNat - 48) := Nat.mul_le_mul_left _ (by omega)
  rw [Nat.mul_add, Nat.mul_one] at h4
  omega
theorem dec_lt_len {m n : Nat} (h : (dec m).length < (dec n).length) : m < n := by
  rcases Nat.lt_or_ge m n with h1 | h1
  · exact h1
  · have := (dec_len_lt (n := m) (k := (dec m).length)).1 (Nat.le_refl _)
    have := (dec_len_lt (n := n) (k := (dec m).length)).2 ⟨by omega, this.2⟩
    omega
theorem cmpB_dec {m n : Nat} {c : Int} (h : CmpB (str (dec m)) (str (dec n)) c) : c = cmpN m n := by
  unfold CmpB at h
  simp only [bts_str, str_size] at h
  rcases h with ⟨h, rfl⟩ | ⟨h, rfl⟩ | ⟨h, ⟨h1, rfl⟩ | ⟨i, hi, ht, ⟨hc, rfl⟩ | ⟨hc, rfl⟩⟩⟩
  · rw [cmpN_lt (dec_lt_len h)]
  · rw [cmpN_gt (dec_lt_len h)]
  · rw [cmpN_eq (dec_inj h1)]
  · have := num_lex (dgts_dec m) (dgts_dec n) h i hi ht hc
    rw [num_dec, num_dec] at this; rw [cmpN_lt this]
  · have := num_lex (dgts_dec n) (dgts_dec m) h.symm i (by omega) ht.symm hc
    rw [num_dec, num_dec] at this; rw [cmpN_gt this]

set_option maxHeartbeats 1000000 in
theorem rsmall_any (u : Nat) (h1 : u < 18446744073709551616) (w : World) :
    Calls Tryd.prog 28 #[.int .u64 (u : Int)] w fun e w' => e = .returned (.string (str (dec u))) ∧ Below w.heap.size w w' := by
  obtain ⟨i0, hi, hz0, hz1, hz2⟩ := info_parts info_int
  have HU := Lib.hid h1; clear h1
  go_enter Tryd.func28, Tryd.ntmps28
  go_wp2_with fail
  go_loopw [0, 3] (fun n v wr => ∃ (q : Nat) (xs : List Nat), n = .int .u64 (q : Int) ∧ dval xs + 10 ^ xs.length * q = u ∧ Dig xs ∧ xs.length ≤ 20 ∧ Own wr w.heap.size 3 .i64 v xs ∧ Below w.heap.size w wr) (fun n _ _ => (intOf n).toNat)
  case atStart => exact ⟨u, [], rfl, by simp [dval], dig_nil, by simp, Own.nil _ _ _ _, Below.refl _ _⟩
  case round =>
    obtain ⟨q, xs, rfl, hv, hdg, hl20, hown, hb⟩ := hrel
    have HV := Lib.hid hv; clear hv
    have HDG := Lib.hid hdg; clear hdg
    obtain ⟨ad, cap, rfl⟩ := hown.shape
    have HO := Lib.hid hown; clear hown
    have HB := Lib.hid hb; clear hb
    have hsz := HB.out.size
    by_cases h0 : q = 0
    · subst h0
      have hdv : dval xs = u := by have := HV.out; simpa using this
      have HDV := Lib.hid hdv; clear hdv
      go_wp2_with fail
      refine (rtext_any _ xs wr HO.out.sl HDG.out (by omega)).mono ?_
      rintro e w' ⟨rfl, hb'⟩
      rw [HDV.out]
      have HB' := Lib.hid (HB.out.trans (hb'.mono hsz)); clear hb'
      go_wp2_with fail
      go_ret
      exact ⟨rfl, HB'.out⟩
    · have hq1 : (1 : Int) ≤ (q : Int) := by omega
      have hg : decide ((0 : Int) < (q : Int)) = true := decide_eq_true (by omega)
      have hpow : 10 ^ xs.length < 10 ^ 20 := by
        have h1 := HV.out
        have h2 := HU.out
        have h3 : 10 ^ xs.length * 1 ≤ 10 ^ xs.length * q := Nat.mul_le_mul_left _ (by omega)
        have h4 : (10 : Nat) ^ 20 = 100000000000000000000 := by decide
        omega
      have hl19 : xs.length < 20 := (Nat.pow_lt_pow_iff_right (by omega)).1 hpow
      clear hpow
      have hq0 : 0 < q := by omega
      have HQ := Lib.hid hq1; clear hq1 h0 hg
      have hr9 : (q : Int) % 10 ≤ 9 := by omega
      have hr0 : 0 ≤ (q : Int) % 10 := by omega
      have hraw : wr.ownsRow w.heap.size 3 1 (.slice ad xs.length cap) xs.length (vals .i64 xs) := HO.out.raw
      have HRAW := Lib.hid hraw; clear hraw
      have hce : ((q : Int) % 10) = ((q % 10 : Nat) : Int) := by omega
      have HCE := Lib.hid hce; clear hce
      have hqu : q ≤ u := by
        have h1 := HV.out
        have h3 : 1 * q ≤ 10 ^ xs.length * q := Nat.mul_le_mul_right _ (Nat.pow_pos (by omega))
        omega
      have hqb : (q : Int) / 10 ≤ 18446744073709551615 := by have := HU.out; omega
      have hqz : 0 ≤ (q : Int) / 10 := by omega
      clear hqu
      go_wp2_with (at_builtin; refine wpList_append_own _ rfl (.tmp 6) (.tmp 10) 41 rfl w.heap.size 3 i0 (.int .i64 0) 1 8 Tryd.underlying41 hi hz0 hz1 hz2 rfl (by decide) _ _ _ rfl (World.ownsRow.alloc HRAW.out _) ⟨wr.heap.size, 0, none⟩ 1 1 [.int .i64 ((q : Int) % 10)] rfl rfl (cell_one_new _ _ _) (one_cell _ _) (by unfold maxLen; omega) (by omega) (by simp; omega) ?_; intro v' w1 hown1 hgrow1 _)
      rw [HCE.out] at hown1
      obtain ⟨ho, hb⟩ := HO.out.appended HB.out hsz hown1 hgrow1
      clear hown1 hgrow1
      have HO1 := Lib.hid ho; clear ho
      have HB1 := Lib.hid hb; clear hb
      go_roundw
      case rel => exact ⟨q / 10, xs ++ [q % 10], by go_num, by
        rw [dval_snoc, List.length_append, List.length_singleton, Nat.pow_succ, Nat.mul_assoc, Nat.add_assoc, ← Nat.mul_add, Nat.mod_add_div]; exact HV.out, dig_snoc HDG.out (by omega), by rw [List.length_append, List.length_singleton]; omega, HO1.out, HB1.out⟩
      case measure => simp [intOf]; omega

set_option maxHeartbeats 1000000 in
theorem rcompare_b (s t : ByteArray) (w : World) (hs : s.size ≤ 100000) :
    Calls Tryd.prog 40 #[.string s, .string t] w fun e w' => ∃ c, CmpB s t c ∧ e = .returned (.int .i64 c) ∧ Below w.heap.size w w' := by
  by_cases h1 : s.size < t.size
  · have hc : CmpB s t (-1) := .inl ⟨h1, rfl⟩
    have HC := Lib.hid hc; clear hc
    have hne : ((s.size : Int) != (t.size : Int)) = true := by rw [bne_iff_ne]; omega
    go_enter Tryd.func40, Tryd.ntmps40
    go_wp2_with fail
    go_ret
    exact ⟨_, HC.out, rfl, Below.refl _ _⟩
  · by_cases h2 : t.size < s.size
    · have hc : CmpB s t 1 := .inr (.inl ⟨h2, rfl⟩)
      have HC := Lib.hid hc; clear hc
      have hne : ((s.size : Int) != (t.size : Int)) = true := by rw [bne_iff_ne]; omega
      go_enter Tryd.func40, Tryd.ntmps40
      go_wp2_with fail
      go_ret
      exact ⟨_, HC.out, rfl, Below.refl _ _⟩
    · have he : s.size = t.size := by omega
      have HE := Lib.hid he
      have hne : ((s.size : Int) != (t.size : Int)) = false := by rw [bne_eq_false_iff_eq]; omega
      clear h1 h2 he
      go_enter Tryd.func40, Tryd.ntmps40
      go_wp2_with fail
      clear hne
      go_loopw [5] (fun i wr => ∃ k : Nat, k ≤ s.size ∧ i = .int .i64 (k : Int) ∧ (bts s).take k = (bts t).take k ∧ Below w.heap.size w wr) (fun i _ => s.size - (intOf i).toNat)
      case atStart => exact ⟨0, Nat.zero_le _, rfl, rfl, Below.refl _ _⟩
      case round =>
        obtain ⟨k, hk, rfl, htk, hb⟩ := hrel
        have HTK := Lib.hid htk; clear htk
        have HB := Lib.hid hb; clear hb
        by_cases hlt : k < s.size
        · have hkt : k < t.size := by have := HE.out; omega
          rcases Nat.lt_trichotomy s[k].toNat t[k].toNat with hc | hc | hc
          · have hr : CmpB s t (-1) := .inr (.inr ⟨HE.out, .inr ⟨k, hlt, HTK.out, .inl ⟨by rw [bts_getD s k hlt, bts_getD t k hkt]; exact hc, rfl⟩⟩⟩)
            have HR := Lib.hid hr; clear hr
            have hg1 : ((s[k].toNat : Int) != (t[k].toNat : Int)) = true := by rw [bne_iff_ne]; omega
            have hg2 : (s[k].toNat : Int) < (t[k].toNat : Int) := by omega
            go_wp2_with fail
            go_quiet (fail)
            go_wp2_with fail
            go_quiet (fail)
            go_wp2_with fail
            go_ret
            exact ⟨_, HR.out, rfl, below_drewN (below_drewN HB.out _) _⟩
          · have hts : (bts s).take (k + 1) = (bts t).take (k + 1) := by
              rw [take_snoc s k hlt, take_snoc t k hkt, HTK.out, UInt8.toNat_inj.1 hc]
            have HTS := Lib.hid hts; clear hts
            have hg1 : ((s[k].toNat : Int) != (t[k].toNat : Int)) = false := by rw [bne_eq_false_iff_eq]; omega
            have HCC := Lib.hid hc; clear hc
            go_wp2_with fail
            go_quiet (fail)
            go_wp2_with fail
            go_roundw
            case rel => exact ⟨k + 1, by omega, by go_num, HTS.out, below_drewN HB.out _⟩
            case measure => simp [intOf]; omega
          · have hr : CmpB s t 1 := .inr (.inr ⟨HE.out, .inr ⟨k, hlt, HTK.out, .inr ⟨by rw [bts_getD s k hlt, bts_getD t k hkt]; exact hc, rfl⟩⟩⟩)
            have HR := Lib.hid hr; clear hr
            have hg1 : ((s[k].toNat : Int) != (t[k].toNat : Int)) = true := by rw [bne_iff_ne]; omega
            have hg2 : decide (s[k].toNat < t[k].toNat) = false := decide_eq_false (by omega)
            have HCC := Lib.hid hc; clear hc
            go_wp2_with fail
            go_quiet (fail)
            go_wp2_with fail
            go_quiet (fail)
            go_wp2_with fail
            go_ret
            exact ⟨_, HR.out, rfl, below_drewN (below_drewN HB.out _) _⟩
        · have hr : CmpB s t 0 := .inr (.inr ⟨HE.out, .inl ⟨by
            have h := HTK.out
            rwa [List.take_of_length_le (by rw [bts_len]; omega), List.take_of_length_le (by rw [bts_len]; have := HE.out; omega)] at h, rfl⟩⟩)
          have HR := Lib.hid hr; clear hr
          go_wp2_with fail
          go_ret
          exact ⟨_, HR.out, rfl, HB.out⟩

/-- 'compare' at two numerals. -/
theorem rcompare_any (m n : Nat) (w : World) (hm : (dec m).length ≤ 100000) :
    Calls Tryd.prog 40 #[.string (str (dec m)), .string (str (dec n))] w (CmpEnd m n w) :=
  (rcompare_b _ _ w (by rw [str_size]; exact hm)).mono fun e w' ⟨c, h1, h2, h3⟩ => ⟨by rw [h2, cmpB_dec h1], h3⟩
set_option maxHeartbeats 1000000 in
theorem rcmp_any (s t : ByteArray) (w : World) (hs : s.size ≤ maxLen) (ht : t.size ≤ maxLen) :
    Calls Tryd.prog 29 #[.string s, .string t] w (IntEnd (cmpF s t) w) := by
  have c1 := fun w => rvalid_any s w hs
  have c2 := fun w => rvalid_any t w ht
  clear hs ht
  cases h1 : vld s with
  | false =>
    have hr : cmpF s t = 0 := by unfold cmpF; rw [h1]; rfl
    rw [hr]; unfold vld at h1; rw [h1] at c1; clear hr h1 c2
    have C1 := Lib.hid c1; clear c1
    go_enter Tryd.func29, Tryd.ntmps29
    go_wp2_with fail
    refine (C1.out _).mono ?_
    rintro e w' ⟨rfl, rfl⟩
    go_wp2
    go_ret
    exact ⟨rfl, Below.refl _ _⟩
  | true =>
    cases h2 : vld t with
    | false =>
      have hr : cmpF s t = 0 := by unfold cmpF; rw [h1, h2]; rfl
      rw [hr]; unfold vld at h1 h2; rw [h1] at c1; rw [h2] at c2; clear hr h1 h2
      have C1 := Lib.hid c1; clear c1
      have C2 := Lib.hid c2; clear c2
      go_enter Tryd.func29, Tryd.ntmps29
      go_wp2_with fail
      refine (C1.out _).mono ?_
      rintro e w' ⟨rfl, rfl⟩
      go_wp2_with fail
      refine (C2.out _).mono ?_
      rintro e w' ⟨rfl, rfl⟩
      go_wp2
      go_ret
      exact ⟨rfl, Below.refl _ _⟩
    | true =>
      rw [show validL (bts s) = true from h1] at c1; rw [show validL (bts t) = true from h2] at c2
      have C1 := Lib.hid c1; clear c1
      have C2 := Lib.hid c2; clear c2
      have H1 := Lib.hid h1; clear h1
      have H2 := Lib.hid h2; clear h2
      have hr : cmpF s t = cmpN (val s) (val t) := by unfold cmpF; rw [H1.out, H2.out]; rfl
      have hc := fun w => rcompare_any (val s) (val t) w (by have := fits_val H1.out; unfold fits at this; omega)
      rw [sd_val H1.out, sd_val H2.out] at hc
      rw [hr]; clear hr
      have HC := Lib.hid hc; clear hc
      go_enter Tryd.func29, Tryd.ntmps29
      go_wp2_with fail
      refine (C1.out _).mono ?_
      rintro e w' ⟨rfl, rfl⟩
      go_wp2_with fail
      refine (C2.out _).mono ?_
      rintro e w' ⟨rfl, rfl⟩
      go_wp2_with fail
      refine (HC.out _).mono ?_
      rintro e w' ⟨rfl, hb⟩
      have HB := Lib.hid hb; clear hb
      go_wp2_with fail
      go_ret
      exact ⟨rfl, HB.out⟩
end Go.Proofs.YtndfbnffielfaaaDoor
