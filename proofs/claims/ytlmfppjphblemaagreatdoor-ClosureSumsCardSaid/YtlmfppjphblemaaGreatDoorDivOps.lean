/- The walks of nat.Div and nat.Gcd. -/
import Derived.Test.YtlmfppjphblemaaGreatDoorME
import Derived.Test.YtlmfppjphblemaaGreatDoorOps
import Derived.Deep.LoopGhost
namespace Go.Proofs.YtlmfppjphblemaaGreatDoor
open Go Go.RowKit
set_option maxRecDepth 100000

def TripEnd (r : ByteArray × ByteArray × Nat) (w : World) (e : Ending) (w' : World) : Prop := e = .returned (.tuple #[.string r.1, .string r.2.1, .int .i64 (r.2.2 : Int)]) ∧ Below w.heap.size w w'
def divF (s t : ByteArray) : ByteArray × ByteArray × Nat := if vld s && vld t then (if val t = 0 then (str [], str [], 4) else (str (dec (val s / val t)), str (dec (val s % val t)), 0)) else (str [], str [], 1)
def gcdF (s t : ByteArray) : ByteArray × Nat := if vld s && vld t then (str (dec (Nat.gcd (val s) (val t))), 0) else (str [], 1)
theorem is_zero {t : ByteArray} (h : vld t = true) (h0 : val t = 0) : t.toList = [48] := by
  rw [Lib.toList_data]
  exact num_inj h (show validL [48] = true by decide) (by rw [show num [48] = 0 from rfl]; exact h0)
theorem not_zero {t : ByteArray} (h0 : ¬ val t = 0) : ¬ t.toList = [48] := by
  rw [Lib.toList_data]
  intro e; apply h0; unfold val bts; rw [e]; rfl

theorem div_any (s t : ByteArray) (w : World) (hs : s.size ≤ maxLen) (ht : t.size ≤ maxLen) (htab : Tab w) :
    Calls Tryz.prog 150 #[.string s, .string t] w (TripEnd (divF s t) w) := by
  have HT := Lib.hid htab; clear htab
  have c1 := vld_any s w hs
  have c2 := vld_any t w ht
  clear hs ht
  cases h1 : vld s with
  | false =>
    have hr : divF s t = (str [], str [], 1) := by unfold divF; rw [h1]; rfl
    rw [hr]; rw [h1] at c1; clear hr h1 c2 HT
    have C1 := Lib.hid c1; clear c1
    go_enter Tryz.func150, Tryz.ntmps150
    go_wp2_with fail
    refine C1.out.mono ?_
    rintro e w' ⟨rfl, rfl⟩
    go_wp2
    go_ret3
    exact ⟨rfl, Below.refl _ _⟩
  | true =>
    cases h2 : vld t with
    | false =>
      have hr : divF s t = (str [], str [], 1) := by unfold divF; rw [h1, h2]; rfl
      rw [hr]; rw [h1] at c1; rw [h2] at c2; clear hr h1 h2 HT
      have C1 := Lib.hid c1; clear c1
      have C2 := Lib.hid c2; clear c2
      go_enter Tryz.func150, Tryz.ntmps150
      go_wp2_with fail
      refine C1.out.mono ?_
      rintro e w' ⟨rfl, rfl⟩
      go_wp2_with fail
      refine C2.out.mono ?_
      rintro e w' ⟨rfl, rfl⟩
      go_wp2
      go_ret3
      exact ⟨rfl, Below.refl _ _⟩
    | true =>
      rw [h1] at c1; rw [h2] at c2
      have C1 := Lib.hid c1; clear c1
      have C2 := Lib.hid c2; clear c2
      have lm := toB_len_val h1
      have ln := toB_len_val h2
      have b1 := blk_any s w h1
      have B1 := Lib.hid b1; clear b1
      have b2 := fun w => blk_any t w h2
      have B2 := Lib.hid b2; clear b2
      have H1 := Lib.hid h1; clear h1
      have H2 := Lib.hid h2; clear h2
      by_cases hz : val t = 0
      · have hr : divF s t = (str [], str [], 4) := by unfold divF; rw [H1.out, H2.out, if_pos hz]; rfl
        rw [hr]; clear hr
        have ht0 := is_zero H2.out hz
        have ht1 : (t.toList == [48]) = true := by rw [ht0]; rfl
        clear hz B1 B2 lm ln
        go_enter Tryz.func150, Tryz.ntmps150
        go_wp2_with fail
        refine C1.out.mono ?_
        rintro e w' ⟨rfl, rfl⟩
        go_wp2_with fail
        refine C2.out.mono ?_
        rintro e w' ⟨rfl, rfl⟩
        go_wp2_with fail
        go_ret3
        exact ⟨rfl, Below.refl _ _⟩
      · have hr : divF s t = (str (dec (val s / val t)), str (dec (val s % val t)), 0) := by unfold divF; rw [H1.out, H2.out, if_neg hz]; rfl
        rw [hr]; clear hr
        have ht0 := not_zero hz
        have ht1 : (t.toList == [48]) = false := by rw [beq_eq_false_iff_ne]; exact ht0
        have HZ := Lib.hid hz; clear hz
        go_enter Tryz.func150, Tryz.ntmps150
        go_wp2_with fail
        refine C1.out.mono ?_
        rintro e w' ⟨rfl, rfl⟩
        go_wp2_with fail
        refine C2.out.mono ?_
        rintro e w' ⟨rfl, rfl⟩
        go_wp2_with fail
        clear ht0 ht1
        refine B1.out.mono ?_
        rintro e w1 ⟨v1, rfl, ho1, hb1⟩
        have HO1 := Lib.hid ho1; clear ho1
        have HB1 := Lib.hid hb1; clear hb1
        have hz1 := HB1.out.size
        go_wp2_with fail
        refine (B2.out w1).mono ?_
        rintro e w2 ⟨v2, rfl, ho2, hb2⟩
        have HO2 := Lib.hid ho2; clear ho2
        have HB2 := Lib.hid hb2; clear hb2
        have hz2 := HB2.out.size
        have HS1 := Lib.hid (HO1.out.sl.below HB2.out (Nat.le_refl _))
        have hdv := divide_any v1 v2 (val s) (val t) w2 HS1.out HO2.out.sl HZ.out (by omega)
        have HDV := Lib.hid hdv; clear hdv
        go_wp2_with fail
        refine HDV.out.mono ?_
        rintro e w3 ⟨vq, vr, rfl, hq, hr, hb3⟩
        have HQ := Lib.hid hq; clear hq
        have HR := Lib.hid hr; clear hr
        have HB3 := Lib.hid hb3; clear hb3
        have hz3 := HB3.out.size
        have HB := Lib.hid (HB1.out.trans ((HB2.out.mono hz1).trans (HB3.out.mono (by omega))))
        have hlq := toB_len_mono (Nat.div_le_self (val s) (val t))
        have hlr := toB_len_mono (Nat.mod_le (val s) (val t))
        have htq := text_any vq (val s / val t) w3 HQ.out (by omega) (HT.out.below HB.out (Nat.le_refl _))
        have HTQ := Lib.hid htq; clear htq
        go_wp2_with fail
        refine HTQ.out.mono ?_
        rintro e w4 ⟨rfl, hb4⟩
        have HB4 := Lib.hid hb4; clear hb4
        have hz4 := HB4.out.size
        have HBB := Lib.hid (HB.out.trans (HB4.out.mono (by omega)))
        have htr := text_any vr (val s % val t) w4 (HR.out.below HB4.out (Nat.le_refl _)) (by omega) (HT.out.below HBB.out (Nat.le_refl _))
        have HTR := Lib.hid htr; clear htr
        go_wp2_with fail
        refine HTR.out.mono ?_
        rintro e w5 ⟨rfl, hb5⟩
        have HB5 := Lib.hid hb5; clear hb5
        go_wp2_with fail
        go_ret3
        exact ⟨rfl, HBB.out.trans (HB5.out.mono (by omega))⟩
theorem gcd_any (s t : ByteArray) (w : World) (hs : s.size ≤ maxLen) (ht : t.size ≤ maxLen) (htab : Tab w) :
    Calls Tryz.prog 120 #[.string s, .string t] w (PairEnd (gcdF s t) w) := by
  have HT := Lib.hid htab; clear htab
  have c1 := vld_any s w hs
  have c2 := vld_any t w ht
  clear hs ht
  cases h1 : vld s with
  | false =>
    have hr : gcdF s t = (str [], 1) := by unfold gcdF; rw [h1]; rfl
    rw [hr]; rw [h1] at c1; clear hr h1 c2 HT
    have C1 := Lib.hid c1; clear c1
    go_enter Tryz.func120, Tryz.ntmps120
    go_wp2_with fail
    refine C1.out.mono ?_
    rintro e w' ⟨rfl, rfl⟩
    go_wp2
    go_ret2
    exact ⟨rfl, Below.refl _ _⟩
  | true =>
    cases h2 : vld t with
    | false =>
      have hr : gcdF s t = (str [], 1) := by unfold gcdF; rw [h1, h2]; rfl
      rw [hr]; rw [h1] at c1; rw [h2] at c2; clear hr h1 h2 HT
      have C1 := Lib.hid c1; clear c1
      have C2 := Lib.hid c2; clear c2
      go_enter Tryz.func120, Tryz.ntmps120
      go_wp2_with fail
      refine C1.out.mono ?_
      rintro e w' ⟨rfl, rfl⟩
      go_wp2_with fail
      refine C2.out.mono ?_
      rintro e w' ⟨rfl, rfl⟩
      go_wp2
      go_ret2
      exact ⟨rfl, Below.refl _ _⟩
    | true =>
      rw [h1] at c1; rw [h2] at c2
      have C1 := Lib.hid c1; clear c1
      have C2 := Lib.hid c2; clear c2
      have lm := toB_len_val h1
      have ln := toB_len_val h2
      have b1 := blk_any s w h1
      have B1 := Lib.hid b1; clear b1
      have b2 := fun w => blk_any t w h2
      have B2 := Lib.hid b2; clear b2
      have H1 := Lib.hid h1; clear h1
      have H2 := Lib.hid h2; clear h2
      have hr : gcdF s t = (str (dec (Nat.gcd (val s) (val t))), 0) := by unfold gcdF; rw [H1.out, H2.out]; rfl
      rw [hr]; clear hr
      go_enter Tryz.func120, Tryz.ntmps120
      go_wp2_with fail
      refine C1.out.mono ?_
      rintro e w' ⟨rfl, rfl⟩
      go_wp2_with fail
      refine C2.out.mono ?_
      rintro e w' ⟨rfl, rfl⟩
      go_wp2_with fail
      refine B1.out.mono ?_
      rintro e w1 ⟨v1, rfl, ho1, hb1⟩
      have HO1 := Lib.hid ho1; clear ho1
      have HB1 := Lib.hid hb1; clear hb1
      have hz1 := HB1.out.size
      go_wp2_with fail
      refine (B2.out w1).mono ?_
      rintro e w2 ⟨v2, rfl, ho2, hb2⟩
      have HO2 := Lib.hid ho2; clear ho2
      have HB2 := Lib.hid hb2; clear hb2
      have hz2 := HB2.out.size
      have HS1 := Lib.hid (HO1.out.sl.below HB2.out (Nat.le_refl _))
      go_wp2_with fail
      go_loopg [6, 7] (val t) (fun g vx vy wr => ∃ p : Nat, Sl wr .u64 vx (toB p) ∧ Sl wr .u64 vy (toB g) ∧ Nat.gcd p g = Nat.gcd (val s) (val t) ∧ (toB p).length ≤ 112 ∧ (toB g).length ≤ 112 ∧ Below w.heap.size w wr)
      case atStart => exact ⟨val s, HS1.out, HO2.out.sl, rfl, lm, ln, HB1.out.trans (HB2.out.mono hz1)⟩
      case round =>
        obtain ⟨p, hx, hy, hg, hl1, hl2, hb⟩ := hrel
        obtain ⟨a1, c1, rfl⟩ := hx.shape
        obtain ⟨a2, c2, rfl⟩ := hy.shape
        have HX := Lib.hid hx; clear hx
        have HY := Lib.hid hy; clear hy
        have HG := Lib.hid hg; clear hg
        have HBW := Lib.hid hb; clear hb
        have hzw := HBW.out.size
        by_cases h0 : gk = 0
        · have hl0 : (toB gk).length = 0 := by rw [h0]; rfl
          have hgp : p = Nat.gcd (val s) (val t) := by rw [← HG.out, h0, Nat.gcd_zero_right]
          rw [hl0]
          have HGP := Lib.hid hgp; clear hgp h0 hl0 hl2
          have htx := text_any _ p wr HX.out (by omega) (HT.out.below HBW.out (Nat.le_refl _))
          have HTX := Lib.hid htx; clear htx
          go_wp2_with fail
          refine HTX.out.mono ?_
          rintro e w5 ⟨rfl, hb5⟩
          have HB5 := Lib.hid hb5; clear hb5
          go_wp2_with fail
          go_ret2
          exact ⟨ret_si (by rw [HGP.out]) rfl, HBW.out.trans (HB5.out.mono hzw)⟩
        · have hl0 := toB_ne h0
          have hdv := divide_any _ _ p gk wr HX.out HY.out h0 (by omega)
          have HDV := Lib.hid hdv; clear hdv
          have hlr := toB_len_mono (Nat.le_of_lt (Nat.mod_lt p (Nat.pos_of_ne_zero h0)))
          have HH0 := Lib.hid h0; clear h0
          go_wp2_with fail
          refine HDV.out.mono ?_
          rintro e w3 ⟨vq, vr, rfl, hq, hr, hb3⟩
          have HQ := Lib.hid hq; clear hq
          have HR := Lib.hid hr; clear hr
          have HB3 := Lib.hid hb3; clear hb3
          go_wp2_with fail
          go_roundg (p % gk)
          case measure => exact Nat.mod_lt _ (Nat.pos_of_ne_zero HH0.out)
          case rel => exact ⟨gk, HY.out.below HB3.out (Nat.le_refl _), HR.out, by rw [← HG.out, Nat.gcd_comm gk, ← Nat.gcd_rec, Nat.gcd_comm], hl2, by omega, HBW.out.trans (HB3.out.mono hzw)⟩
end Go.Proofs.YtlmfppjphblemaaGreatDoor
