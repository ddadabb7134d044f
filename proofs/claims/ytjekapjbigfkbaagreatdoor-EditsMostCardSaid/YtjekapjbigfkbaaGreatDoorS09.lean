/- Parts of a proof: DivOps NumL RatA RatN. -/
import Derived.Test.YtjekapjbigfkbaaGreatDoorS08
import Derived.Test.YtjekapjbigfkbaaGreatDoorS05
import Derived.Deep.LoopGhost
import Derived.Test.YtjekapjbigfkbaaGreatDoorS06
import Derived.Deep.Cut
import Derived.Deep.DeepCutAuto
import Derived.Test.YtjekapjbigfkbaaGreatDoorS00
import Derived.WalkLawsBesides
import Derived.Laws.Concat
namespace Go.Proofs.YtjekapjbigfkbaaGreatDoor
open Go Go.RowKit
set_option maxRecDepth 100000
def TripEnd (r : ByteArray × ByteArray × Nat) (w : World) (e : Ending) (w' : World) : Prop := e = .returned (.tuple #[.string r.1, .string r.2.1, .int .i64 (r.2.2 : Int)]) ∧ Below w.heap.size w w'
def divF (s t : ByteArray) : ByteArray × ByteArray × Nat := if vld s && vld t then (if val t = 0 then (str [], str [], 4) else (str (dec (val s / val t)), str (dec (val s % val t)), 0)) else (str [], str [], 1)
def gcdF (s t : ByteArray) : ByteArray × Nat := if vld s && vld t then (str (dec (Nat.gcd (val s) (val t))), 0) else (str [], 1)
theorem is_zero {t : ByteArray} (h : vld t = true) (h0 : val t = 0) : t.toList = [48] := by
  rw [Lib.toList_data]
  exact num_inj h (show validL [48] = true by decide) (by rw [show num [48] = 0 from rfl]; exact h0)
theorem not_zero {t : ByteArray} (h0 : ¬ val t = 0) : ¬ t.toList = [48] := by
  rw [Lib.toList_data]
  intro e; apply h0; unfold val bts; rw [e]; rfl
theorem div_any (s t : ByteArray) (w : World) (hs : s.size ≤ maxLen) (ht : t.size ≤ maxLen) (htab : Tab w) :
    Calls Tryz.prog 154 #[.string s, .string t] w (TripEnd (divF s t) w) := by
  have HT := Lib.hid htab; clear htab
  have c1 := vld_any s w hs
  have c2 := vld_any t w ht
  clear hs ht
  cases h1 : vld s with
  | false =>
    have hr : divF s t = (str [], str [], 1) := by unfold divF; rw [h1]; rfl
    rw [hr]; rw [h1] at c1; clear hr h1 c2 HT
    have C1 := Lib.hid c1; clear c1
    go_enter Tryz.func154, Tryz.ntmps154
    go_wp2_with fail
    refine C1.out.mono ?_
    rintro e w' ⟨rfl, rfl⟩
    go_wp2
    go_ret3
    exact ⟨rfl, Below.refl _ _⟩
  | true =>
    cases h2 : vld t with
    | false =>
      have hr : divF s t = (str [], str [], 1) := by unfold divF; rw [h1, h2]; rfl
      rw [hr]; rw [h1] at c1; rw [h2] at c2; clear hr h1 h2 HT
      have C1 := Lib.hid c1; clear c1
      have C2 := Lib.hid c2; clear c2
      go_enter Tryz.func154, Tryz.ntmps154
      go_wp2_with fail
      refine C1.out.mono ?_
      rintro e w' ⟨rfl, rfl⟩
      go_wp2_with fail
      refine C2.out.mono ?_
      rintro e w' ⟨rfl, rfl⟩
      go_wp2
      go_ret3
      exact ⟨rfl, Below.refl _ _⟩
    | true =>
      rw [h1] at c1; rw [h2] at c2
      have C1 := Lib.hid c1; clear c1
      have C2 := Lib.hid c2; clear c2
      have lm := toB_len_val h1
      have ln := toB_len_val h2
      have b1 := blk_any s w h1
      have B1 := Lib.hid b1; clear b1
      have b2 := fun w => blk_any t w h2
      have B2 := Lib.hid b2; clear b2
      have H1 := Lib.hid h1; clear h1
      have H2 := Lib.hid h2; clear h2
      by_cases hz : val t = 0
      · have hr : divF s t = (str [], str [], 4) := by unfold divF; rw [H1.out, H2.out, if_pos hz]; rfl
        rw [hr]; clear hr
        have ht0 := is_zero H2.out hz
        have ht1 : (t.toList == [48]) = true := by rw [ht0]; rfl
        clear hz B1 B2 lm ln
        go_enter Tryz.func154, Tryz.ntmps154
        go_wp2_with fail
        refine C1.out.mono ?_
        rintro e w' ⟨rfl, rfl⟩
        go_wp2_with fail
        refine C2.out.mono ?_
        rintro e w' ⟨rfl, rfl⟩
        go_wp2_with fail
        go_ret3
        exact ⟨rfl, Below.refl _ _⟩
      · have hr : divF s t = (str (dec (val s / val t)), str (dec (val s % val t)), 0) := by unfold divF; rw [H1.out, H2.out, if_neg hz]; rfl
        rw [hr]; clear hr
        have ht0 := not_zero hz
        have ht1 : (t.toList == [48]) = false := by rw [beq_eq_false_iff_ne]; exact ht0
        have HZ := Lib.hid hz; clear hz
        go_enter Tryz.func154, Tryz.ntmps154
        go_wp2_with fail
        refine C1.out.mono ?_
        rintro e w' ⟨rfl, rfl⟩
        go_wp2_with fail
        refine C2.out.mono ?_
        rintro e w' ⟨rfl, rfl⟩
        go_wp2_with fail
        clear ht0 ht1
        refine B1.out.mono ?_
        rintro e w1 ⟨v1, rfl, ho1, hb1⟩
        have HO1 := Lib.hid ho1; clear ho1
        have HB1 := Lib.hid hb1; clear hb1
        have hz1 := HB1.out.size
        go_wp2_with fail
        refine (B2.out w1).mono ?_
        rintro e w2 ⟨v2, rfl, ho2, hb2⟩
        have HO2 := Lib.hid ho2; clear ho2
        have HB2 := Lib.hid hb2; clear hb2
        have hz2 := HB2.out.size
        have HS1 := Lib.hid (HO1.out.sl.below HB2.out (Nat.le_refl _))
        have hdv := divide_any v1 v2 (val s) (val t) w2 HS1.out HO2.out.sl HZ.out (by omega)
        have HDV := Lib.hid hdv; clear hdv
        go_wp2_with fail
        refine HDV.out.mono ?_
        rintro e w3 ⟨vq, vr, rfl, hq, hr, hb3⟩
        have HQ := Lib.hid hq; clear hq
        have HR := Lib.hid hr; clear hr
        have HB3 := Lib.hid hb3; clear hb3
        have hz3 := HB3.out.size
        have HB := Lib.hid (HB1.out.trans ((HB2.out.mono hz1).trans (HB3.out.mono (by omega))))
        have hlq := toB_len_mono (Nat.div_le_self (val s) (val t))
        have hlr := toB_len_mono (Nat.mod_le (val s) (val t))
        have htq := text_any vq (val s / val t) w3 HQ.out (by omega) (HT.out.below HB.out (Nat.le_refl _))
        have HTQ := Lib.hid htq; clear htq
        go_wp2_with fail
        refine HTQ.out.mono ?_
        rintro e w4 ⟨rfl, hb4⟩
        have HB4 := Lib.hid hb4; clear hb4
        have hz4 := HB4.out.size
        have HBB := Lib.hid (HB.out.trans (HB4.out.mono (by omega)))
        have htr := text_any vr (val s % val t) w4 (HR.out.below HB4.out (Nat.le_refl _)) (by omega) (HT.out.below HBB.out (Nat.le_refl _))
        have HTR := Lib.hid htr; clear htr
        go_wp2_with fail
        refine HTR.out.mono ?_
        rintro e w5 ⟨rfl, hb5⟩
        have HB5 := Lib.hid hb5; clear hb5
        go_wp2_with fail
        go_ret3
        exact ⟨rfl, HBB.out.trans (HB5.out.mono (by omega))⟩
theorem gcd_any (s t : ByteArray) (w : World) (hs : s.size ≤ maxLen) (ht : t.size ≤ maxLen) (htab : Tab w) :
    Calls Tryz.prog 118 #[.string s, .string t] w (PairEnd (gcdF s t) w) := by
  have HT := Lib.hid htab; clear htab
  have c1 := vld_any s w hs
  have c2 := vld_any t w ht
  clear hs ht
  cases h1 : vld s with
  | false =>
    have hr : gcdF s t = (str [], 1) := by unfold gcdF; rw [h1]; rfl
    rw [hr]; rw [h1] at c1; clear hr h1 c2 HT
    have C1 := Lib.hid c1; clear c1
    go_enter Tryz.func118, Tryz.ntmps118
    go_wp2_with fail
    refine C1.out.mono ?_
    rintro e w' ⟨rfl, rfl⟩
    go_wp2
    go_ret2
    exact ⟨rfl, Below.refl _ _⟩
  | true =>
    cases h2 : vld t with
    | false =>
      have hr : gcdF s t = (str [], 1) := by unfold gcdF; rw [h1, h2]; rfl
      rw [hr]; rw [h1] at c1; rw [h2] at c2; clear hr h1 h2 HT
      have C1 := Lib.hid c1; clear c1
      have C2 := Lib.hid c2; clear c2
      go_enter Tryz.func118, Tryz.ntmps118
      go_wp2_with fail
      refine C1.out.mono ?_
      rintro e w' ⟨rfl, rfl⟩
      go_wp2_with fail
      refine C2.out.mono ?_
      rintro e w' ⟨rfl, rfl⟩
      go_wp2
      go_ret2
      exact ⟨rfl, Below.refl _ _⟩
    | true =>
      rw [h1] at c1; rw [h2] at c2
      have C1 := Lib.hid c1; clear c1
      have C2 := Lib.hid c2; clear c2
      have lm := toB_len_val h1
      have ln := toB_len_val h2
      have b1 := blk_any s w h1
      have B1 := Lib.hid b1; clear b1
      have b2 := fun w => blk_any t w h2
      have B2 := Lib.hid b2; clear b2
      have H1 := Lib.hid h1; clear h1
      have H2 := Lib.hid h2; clear h2
      have hr : gcdF s t = (str (dec (Nat.gcd (val s) (val t))), 0) := by unfold gcdF; rw [H1.out, H2.out]; rfl
      rw [hr]; clear hr
      go_enter Tryz.func118, Tryz.ntmps118
      go_wp2_with fail
      refine C1.out.mono ?_
      rintro e w' ⟨rfl, rfl⟩
      go_wp2_with fail
      refine C2.out.mono ?_
      rintro e w' ⟨rfl, rfl⟩
      go_wp2_with fail
      refine B1.out.mono ?_
      rintro e w1 ⟨v1, rfl, ho1, hb1⟩
      have HO1 := Lib.hid ho1; clear ho1
      have HB1 := Lib.hid hb1; clear hb1
      have hz1 := HB1.out.size
      go_wp2_with fail
      refine (B2.out w1).mono ?_
      rintro e w2 ⟨v2, rfl, ho2, hb2⟩
      have HO2 := Lib.hid ho2; clear ho2
      have HB2 := Lib.hid hb2; clear hb2
      have hz2 := HB2.out.size
      have HS1 := Lib.hid (HO1.out.sl.below HB2.out (Nat.le_refl _))
      go_wp2_with fail
      go_loopg [6, 7] (val t) (fun g vx vy wr => ∃ p : Nat, Sl wr .u64 vx (toB p) ∧ Sl wr .u64 vy (toB g) ∧ Nat.gcd p g = Nat.gcd (val s) (val t) ∧ (toB p).length ≤ 112 ∧ (toB g).length ≤ 112 ∧ Below w.heap.size w wr)
      case atStart => exact ⟨val s, HS1.out, HO2.out.sl, rfl, lm, ln, HB1.out.trans (HB2.out.mono hz1)⟩
      case round =>
        obtain ⟨p, hx, hy, hg, hl1, hl2, hb⟩ := hrel
        obtain ⟨a1, c1, rfl⟩ := hx.shape
        obtain ⟨a2, c2, rfl⟩ := hy.shape
        have HX := Lib.hid hx; clear hx
        have HY := Lib.hid hy; clear hy
        have HG := Lib.hid hg; clear hg
        have HBW := Lib.hid hb; clear hb
        have hzw := HBW.out.size
        by_cases h0 : gk = 0
        · have hl0 : (toB gk).length = 0 := by rw [h0]; rfl
          have hgp : p = Nat.gcd (val s) (val t) := by rw [← HG.out, h0, Nat.gcd_zero_right]
          rw [hl0]
          have HGP := Lib.hid hgp; clear hgp h0 hl0 hl2
          have htx := text_any _ p wr HX.out (by omega) (HT.out.below HBW.out (Nat.le_refl _))
          have HTX := Lib.hid htx; clear htx
          go_wp2_with fail
          refine HTX.out.mono ?_
          rintro e w5 ⟨rfl, hb5⟩
          have HB5 := Lib.hid hb5; clear hb5
          go_wp2_with fail
          go_ret2
          exact ⟨ret_si (by rw [HGP.out]) rfl, HBW.out.trans (HB5.out.mono hzw)⟩
        · have hl0 := toB_ne h0
          have hdv := divide_any _ _ p gk wr HX.out HY.out h0 (by omega)
          have HDV := Lib.hid hdv; clear hdv
          have hlr := toB_len_mono (Nat.le_of_lt (Nat.mod_lt p (Nat.pos_of_ne_zero h0)))
          have HH0 := Lib.hid h0; clear h0
          go_wp2_with fail
          refine HDV.out.mono ?_
          rintro e w3 ⟨vq, vr, rfl, hq, hr, hb3⟩
          have HQ := Lib.hid hq; clear hq
          have HR := Lib.hid hr; clear hr
          have HB3 := Lib.hid hb3; clear hb3
          go_wp2_with fail
          go_roundg (p % gk)
          case measure => exact Nat.mod_lt _ (Nat.pos_of_ne_zero HH0.out)
          case rel => exact ⟨gk, HY.out.below HB3.out (Nat.le_refl _), HR.out, by rw [← HG.out, Nat.gcd_comm gk, ← Nat.gcd_rec, Nat.gcd_comm], hl2, by omega, HBW.out.trans (HB3.out.mono hzw)⟩
end Go.Proofs.YtjekapjbigfkbaaGreatDoor

namespace Go.Proofs.YtjekapjbigfkbaaGreatDoor
open Go Go.RowKit
set_option maxRecDepth 100000
def fits (n : Nat) : Prop := (dec n).length ≤ 1000
theorem val_sd (n : Nat) : val (str (dec n)) = n := by unfold val; rw [bts_str]; exact num_dec n
theorem vld_sd {n : Nat} (h : fits n) : vld (str (dec n)) = true := by unfold vld; rw [bts_str]; exact valid_dec h
theorem fits_le {m n : Nat} (h : fits n) (hm : m ≤ n) : fits m := by
  unfold fits at *
  exact dec_len_lt.2 ⟨Nat.lt_of_le_of_lt hm (dec_len_lt.1 h).1, by omega⟩
theorem fits_size {n : Nat} (h : fits n) : (str (dec n)).size ≤ maxLen := by rw [str_size]; unfold fits at h; unfold maxLen; omega
theorem limS_fit {n : Nat} (h : fits n) : limS n = (str (dec n), 0) := if_pos h
theorem addF_v {s t : ByteArray} (hs : vld s = true) (ht : vld t = true) : addF s t = limS (val s + val t) := by unfold addF; rw [hs, ht]; rfl
theorem mulF_v {s t : ByteArray} (hs : vld s = true) (ht : vld t = true) : mulF s t = limS (val s * val t) := by unfold mulF; rw [hs, ht]; rfl
theorem addF_fit {s t : ByteArray} (hs : vld s = true) (ht : vld t = true) (h : fits (val s + val t)) : addF s t = (str (dec (val s + val t)), 0) := by rw [addF_v hs ht, limS_fit h]
theorem mulF_fit {s t : ByteArray} (hs : vld s = true) (ht : vld t = true) (h : fits (val s * val t)) : mulF s t = (str (dec (val s * val t)), 0) := by rw [mulF_v hs ht, limS_fit h]
theorem subF_v {s t : ByteArray} (hs : vld s = true) (ht : vld t = true) : subF s t = if val s < val t then (⟨#[]⟩, 4) else (str (dec (val s - val t)), 0) := by unfold subF; rw [hs, ht]; rfl
theorem subF_ok {s t : ByteArray} (hs : vld s = true) (ht : vld t = true) (h : val t ≤ val s) : subF s t = (str (dec (val s - val t)), 0) := by rw [subF_v hs ht, if_neg (by omega)]
theorem divF_v {s t : ByteArray} (hs : vld s = true) (ht : vld t = true) : divF s t = if val t = 0 then (⟨#[]⟩, ⟨#[]⟩, 4) else (str (dec (val s / val t)), str (dec (val s % val t)), 0) := by unfold divF; rw [hs, ht]; rfl
theorem divF_ok {s t : ByteArray} (hs : vld s = true) (ht : vld t = true) (h : val t ≠ 0) : divF s t = (str (dec (val s / val t)), str (dec (val s % val t)), 0) := by rw [divF_v hs ht, if_neg h]
theorem gcdF_v {s t : ByteArray} (hs : vld s = true) (ht : vld t = true) : gcdF s t = (str (dec (Nat.gcd (val s) (val t))), 0) := by unfold gcdF; rw [hs, ht]; rfl
end Go.Proofs.YtjekapjbigfkbaaGreatDoor

namespace Go.Proofs.YtjekapjbigfkbaaGreatDoor
open Go Go.RowKit
set_option maxRecDepth 100000
def nvS (b : Bool) (n d : ByteArray) : Value := .agg #[.bool b, .string n, .string d]
def nv (q : Rat) : Value := nvS (negQ q) (str (dec q.num.natAbs)) (str (dec q.den))
def txtS (b : Bool) (n d : ByteArray) : ByteArray :=
  let s := if b then (⟨#[45]⟩ : ByteArray) ++ n else n
  if d = ⟨#[49]⟩ then s else s ++ ((⟨#[47]⟩ : ByteArray) ++ d)
theorem ne_toList {s t : ByteArray} (h : s ≠ t) : ¬ s.toList = t.toList := by
  rw [Lib.toList_data, Lib.toList_data]; intro e; apply h; exact bts_inj e
theorem ne_list {s : ByteArray} {l : List UInt8} (h : s ≠ str l) : (s.toList == l) = false := by
  rw [beq_eq_false_iff_ne, Lib.toList_data]; intro e; apply h; rw [← e]; exact (str_bts s).symm
theorem bts_append (s t : ByteArray) : bts (s ++ t) = bts s ++ bts t := by
  show (s ++ t).data.toList = _
  rw [ByteArray.data_append, Array.toList_append]; rfl
theorem txtS_txt (q : Rat) : txtS (negQ q) (str (dec q.num.natAbs)) (str (dec q.den)) = txt q := by
  apply bts_inj
  have hd : (str (dec q.den) = ⟨#[49]⟩) ↔ q.den = 1 := by
    constructor
    · intro e
      have := congrArg bts e; rw [bts_str] at this; exact dec_inj (this.trans dec_one.symm)
    · intro e; rw [e, dec_one]; rfl
  unfold txtS txt txtL
  rw [bts_str]
  by_cases h : q.den = 1
  · rw [if_pos (hd.2 h), if_pos h]
    cases negQ q
    · simp [bts_str]
    · simp only [if_true, bts_append, bts_str]; simp [bts]
  · rw [if_neg (fun e => h (hd.1 e)), if_neg h]
    cases negQ q
    · simp only [Bool.false_eq_true, if_false, bts_append, bts_str]; simp [bts]
    · simp only [if_true, bts_append, bts_str]; simp [bts]
theorem numtext_raw (b : Bool) (n d : ByteArray) (w : World) (hn : n.size ≤ 400) (hd : d.size ≤ 400) :
    Calls Tryz.prog 148 #[nvS b n d] w fun e w' => e = .returned (.string (txtS b n d)) ∧ Below w.heap.size w w' := by
  have h1 : (n.size : Int) ≤ 8388608 := by omega
  have h2 : (d.size : Int) ≤ 8388608 := by omega
  clear hn hd
  have hbl : Below w.heap.size w (w.alloc (.cells #[.bool b, .string n, .string d] 107)) := (Below.refl _ _).alloc (Nat.le_refl _) _
  have HB := Lib.hid hbl; clear hbl
  unfold nvS
  by_cases h : d = ⟨#[49]⟩
  · subst h
    cases b <;> simp only [txtS, if_true, if_false, Bool.false_eq_true]
    all_goals
      go_enter Tryz.func148, Tryz.ntmps148
      go_wp2
      go_ret
      exact ⟨rfl, HB.out⟩
  · have h3 : (d.toList == [49]) = false := ne_list h
    cases b <;> simp only [txtS, if_true, if_false, Bool.false_eq_true] <;> rw [if_neg h] <;> clear h
    · go_enter Tryz.func148, Tryz.ntmps148
      go_wp2
      go_ret
      exact ⟨rfl, HB.out⟩
    · have h4 : (((⟨#[45]⟩ : ByteArray) ++ n).size : Int) ≤ 8388609 := by rw [ByteArray.size_append]; show ((1 + n.size : Nat) : Int) ≤ _; omega
      go_enter Tryz.func148, Tryz.ntmps148
      go_wp2
      go_ret
      exact ⟨rfl, HB.out⟩
theorem numtext_any (q : Rat) (w : World) (h : fitQ q) :
    Calls Tryz.prog 148 #[nv q] w fun e w' => e = .returned (.string (txt q)) ∧ Below w.heap.size w w' := by
  rw [← txtS_txt]
  exact numtext_raw _ _ _ w (by rw [str_size]; exact h.1) (by rw [str_size]; exact h.2)
theorem must_ok (c : ByteArray) (w : World) : Calls Tryz.prog 70 #[.string c, .int .i64 0] w fun e w' => e = .returned (.string c) ∧ w = w' := by
  go_enter Tryz.func70, Tryz.ntmps70
  go_wp2
  go_ret
  exact ⟨rfl, rfl⟩
end Go.Proofs.YtjekapjbigfkbaaGreatDoor

namespace Go.Proofs.YtjekapjbigfkbaaGreatDoor
open Go Go.RowKit
set_option maxRecDepth 100000
theorem fits_pow {n k : Nat} (h : n < 10 ^ k) (hk : k ≤ 1000) (h1 : 1 ≤ k) : fits n := by
  unfold fits
  have := dec_len_lt.2 ⟨h, h1⟩; omega
theorem fit_num {q : Rat} (h : fitQ q) : fits q.num.natAbs := by unfold fits; have := h.1; omega
theorem fit_den {q : Rat} (h : fitQ q) : fits q.den := by unfold fits; have := h.2; omega
theorem pow400 {n : Nat} (h : (dec n).length ≤ 400) : n < 10 ^ 400 := (dec_len_lt.1 h).1
theorem mul_pow10 {m n k : Nat} (h1 : m < 10 ^ k) (h2 : n < 10 ^ k) : m * n < 10 ^ (k + k) := by rw [Nat.pow_add]; exact lt_mul h1 h2
theorem sum_pow10 {a b c d k : Nat} (ha : a < 10 ^ k) (hb : b < 10 ^ k) (hc : c < 10 ^ k) (hd : d < 10 ^ k) : a * b + c * d < 10 ^ (k + k + 1) := by
  have h1 := mul_pow10 ha hb
  have h2 := mul_pow10 hc hd
  rw [Nat.pow_succ]; omega
theorem fits_mul {m n : Nat} (hm : (dec m).length ≤ 400) (hn : (dec n).length ≤ 400) : fits (m * n) :=
  fits_pow (mul_pow10 (pow400 hm) (pow400 hn)) (by omega) (by omega)
theorem fits_sum {a b c d : Nat} (ha : (dec a).length ≤ 400) (hb : (dec b).length ≤ 400) (hc : (dec c).length ≤ 400) (hd : (dec d).length ≤ 400) : fits (a * b + c * d) :=
  fits_pow (sum_pow10 (pow400 ha) (pow400 hb) (pow400 hc) (pow400 hd)) (by omega) (by omega)
def StrE (s : ByteArray) (w : World) (e : Ending) (w' : World) : Prop := e = .returned (.string s) ∧ Below w.heap.size w w'
def StrZ (s : ByteArray) (w : World) (e : Ending) (w' : World) : Prop := e = .returned (.tuple #[.string s, .int .i64 0]) ∧ Below w.heap.size w w'
theorem nadd_sd (m n : Nat) (w : World) (hm : fits m) (hn : fits n) (h : fits (m + n)) (ht : Tab w) :
    Calls Tryz.prog 111 #[.string (str (dec m)), .string (str (dec n))] w (StrZ (str (dec (m + n))) w) := by
  have := add_any (str (dec m)) (str (dec n)) w (fits_size hm) (fits_size hn) ht
  rw [addF_fit (vld_sd hm) (vld_sd hn) (by rw [val_sd, val_sd]; exact h), val_sd, val_sd] at this
  exact this
theorem nsub_sd (m n : Nat) (w : World) (hm : fits m) (hn : fits n) (h : n ≤ m) (ht : Tab w) :
    Calls Tryz.prog 113 #[.string (str (dec m)), .string (str (dec n))] w (StrZ (str (dec (m - n))) w) := by
  have := sub_any (str (dec m)) (str (dec n)) w (fits_size hm) (fits_size hn) ht
  rw [subF_ok (vld_sd hm) (vld_sd hn) (by rw [val_sd, val_sd]; exact h), val_sd, val_sd] at this
  exact this
theorem nmul_sd (m n : Nat) (w : World) (hm : fits m) (hn : fits n) (h : fits (m * n)) (ht : Tab w) :
    Calls Tryz.prog 71 #[.string (str (dec m)), .string (str (dec n))] w (StrZ (str (dec (m * n))) w) := by
  have := mul_any (str (dec m)) (str (dec n)) w (fits_size hm) (fits_size hn) ht
  rw [mulF_fit (vld_sd hm) (vld_sd hn) (by rw [val_sd, val_sd]; exact h), val_sd, val_sd] at this
  exact this
theorem ngcd_sd (m n : Nat) (w : World) (hm : fits m) (hn : fits n) (ht : Tab w) :
    Calls Tryz.prog 118 #[.string (str (dec m)), .string (str (dec n))] w (StrZ (str (dec (Nat.gcd m n))) w) := by
  have := gcd_any (str (dec m)) (str (dec n)) w (fits_size hm) (fits_size hn) ht
  rw [gcdF_v (vld_sd hm) (vld_sd hn), val_sd, val_sd] at this
  exact this
theorem ndiv_sd (m n : Nat) (w : World) (hm : fits m) (hn : fits n) (h : n ≠ 0) (ht : Tab w) :
    Calls Tryz.prog 154 #[.string (str (dec m)), .string (str (dec n))] w fun e w' => e = .returned (.tuple #[.string (str (dec (m / n))), .string (str (dec (m % n))), .int .i64 0]) ∧ Below w.heap.size w w' := by
  have := div_any (str (dec m)) (str (dec n)) w (fits_size hm) (fits_size hn) ht
  rw [divF_ok (vld_sd hm) (vld_sd hn) (by rw [val_sd]; exact h), val_sd, val_sd] at this
  exact this
theorem ncmp_sd (m n : Nat) (w : World) (hm : fits m) (hn : fits n) :
    Calls Tryz.prog 112 #[.string (str (dec m)), .string (str (dec n))] w (IntEnd (cmpN m n) w) := by
  have := cmp_any (str (dec m)) (str (dec n)) w (fits_size hm) (fits_size hn)
  unfold cmpF at this
  rw [vld_sd hm, vld_sd hn, val_sd, val_sd] at this
  exact this
theorem quot_sd (m n : Nat) (w : World) (hm : fits m) (hn : fits n) (h : n ≠ 0) (ht : Tab w) :
    Calls Tryz.prog 119 #[.string (str (dec m)), .string (str (dec n))] w (StrE (str (dec (m / n))) w) := by
  have hc := ndiv_sd m n w hm hn h ht
  have HC := Lib.hid hc; clear hc hm hn h ht
  go_enter Tryz.func119, Tryz.ntmps119
  go_wp2_with fail
  refine HC.out.mono ?_
  rintro e w1 ⟨rfl, hb⟩
  have HB := Lib.hid hb; clear hb
  go_wp2_with fail
  refine (must_ok _ _).mono ?_
  rintro e w2 ⟨rfl, rfl⟩
  go_wp2
  go_ret
  exact ⟨rfl, HB.out⟩
theorem ratplus_sd (p q : Bool) (m n : Nat) (w : World) (h : fits (m + n)) (ht : Tab w) :
    Calls Tryz.prog 69 #[.bool p, .string (str (dec m)), .bool q, .string (str (dec n))] w fun e w' =>
      e = .returned (.tuple #[.bool (sumF p m q n).1, .string (str (dec (sumF p m q n).2))]) ∧ Below w.heap.size w w' := by
  have hm : fits m := fits_le h (by omega)
  have hn : fits n := fits_le h (by omega)
  by_cases hpq : p = q
  · subst hpq
    have hs : sumF p m p n = (p, m + n) := by unfold sumF; rw [if_pos rfl]
    rw [hs]
    have hc := nadd_sd m n w hm hn h ht
    have HC := Lib.hid hc; clear hc hm hn h ht hs
    have hp : (p == p) = true := by cases p <;> rfl
    go_enter Tryz.func69, Tryz.ntmps69
    go_wp2_with fail
    refine HC.out.mono ?_
    rintro e w1 ⟨rfl, hb⟩
    have HB := Lib.hid hb; clear hb
    go_wp2_with fail
    refine (must_ok _ _).mono ?_
    rintro e w2 ⟨rfl, rfl⟩
    go_wp2
    go_ret2
    exact ⟨rfl, HB.out⟩
  · have hb : (p == q) = false := by rw [beq_eq_false_iff_ne]; exact hpq
    by_cases hlt : m < n
    · have hs : sumF p m q n = (q, n - m) := by unfold sumF; rw [if_neg hpq, if_pos hlt]
      rw [hs]
      have hc := ncmp_sd m n w hm hn
      rw [cmpN_lt hlt] at hc
      have hd := fun w1 ht => nsub_sd n m w1 hn hm (Nat.le_of_lt hlt) ht
      have HC := Lib.hid hc; clear hc
      have HD := Lib.hid hd; clear hd
      have HT := Lib.hid ht; clear hm hn h ht hs hlt hpq
      go_enter Tryz.func69, Tryz.ntmps69
      go_wp2_with fail
      refine HC.out.mono ?_
      rintro e w1 ⟨rfl, hb1⟩
      have HB1 := Lib.hid hb1; clear hb1
      go_wp2_with fail
      refine (HD.out w1 (HT.out.below HB1.out (Nat.le_refl _))).mono ?_
      rintro e w2 ⟨rfl, hb2⟩
      have HB2 := Lib.hid (HB1.out.trans (hb2.mono HB1.out.size)); clear hb2
      go_wp2_with fail
      refine (must_ok _ _).mono ?_
      rintro e w3 ⟨rfl, rfl⟩
      go_wp2
      go_ret2
      exact ⟨rfl, HB2.out⟩
    · have hs : sumF p m q n = (p, m - n) := by unfold sumF; rw [if_neg hpq, if_neg hlt]
      rw [hs]
      have hc := ncmp_sd m n w hm hn
      have hge : 0 ≤ cmpN m n := by
        rcases Nat.lt_or_ge n m with h1 | h1
        · rw [cmpN_gt h1]; omega
        · rw [cmpN_eq (by omega)]; omega
      generalize cmpN m n = z at hc hge
      have hd := fun w1 ht => nsub_sd m n w1 hm hn (by omega) ht
      have HC := Lib.hid hc; clear hc
      have HD := Lib.hid hd; clear hd
      have HT := Lib.hid ht; clear hm hn h ht hs hlt hpq
      go_enter Tryz.func69, Tryz.ntmps69
      go_wp2_with fail
      refine HC.out.mono ?_
      rintro e w1 ⟨rfl, hb1⟩
      have HB1 := Lib.hid hb1; clear hb1
      go_wp2_with fail
      refine (HD.out w1 (HT.out.below HB1.out (Nat.le_refl _))).mono ?_
      rintro e w2 ⟨rfl, hb2⟩
      have HB2 := Lib.hid (HB1.out.trans (hb2.mono HB1.out.size)); clear hb2
      go_wp2_with fail
      refine (must_ok _ _).mono ?_
      rintro e w3 ⟨rfl, rfl⟩
      go_wp2
      go_ret2
      exact ⟨rfl, HB2.out⟩
end Go.Proofs.YtjekapjbigfkbaaGreatDoor
