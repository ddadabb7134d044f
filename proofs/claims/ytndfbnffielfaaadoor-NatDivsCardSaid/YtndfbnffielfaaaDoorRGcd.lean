/- The walk of abugidaref02.Gcd. -/
import Derived.Test.YtndfbnffielfaaaDoorRDiv
namespace Go.Proofs.YtndfbnffielfaaaDoor
open Go Go.RowKit

set_option maxRecDepth 100000 in
set_option maxHeartbeats 4000000 in
theorem rgcd_any (s t : ByteArray) (w : World) (hs : s.size ≤ maxLen) (ht : t.size ≤ maxLen) :
    Calls Tryd.prog 23 #[.string s, .string t] w (PairEnd (gcdF s t) w) := by
  have c1 := fun w => rvalid_any s w hs
  have c2 := fun w => rvalid_any t w ht
  clear hs ht
  cases h1 : vld s with
  | false =>
    have hr : gcdF s t = (str [], 1) := by unfold gcdF; rw [h1]; rfl
    rw [hr]; unfold vld at h1; rw [h1] at c1; clear hr h1 c2
    have C1 := Lib.hid c1; clear c1
    go_enter Tryd.func23, Tryd.ntmps23
    go_wp2_with fail
    refine (C1.out _).mono ?_
    rintro e w' ⟨rfl, rfl⟩
    go_wp2
    go_ret2
    exact ⟨rfl, Below.refl _ _⟩
  | true =>
    cases h2 : vld t with
    | false =>
      have hr : gcdF s t = (str [], 1) := by unfold gcdF; rw [h1, h2]; rfl
      rw [hr]; unfold vld at h1 h2; rw [h1] at c1; rw [h2] at c2; clear hr h1 h2
      have C1 := Lib.hid c1; clear c1
      have C2 := Lib.hid c2; clear c2
      go_enter Tryd.func23, Tryd.ntmps23
      go_wp2_with fail
      refine (C1.out _).mono ?_
      rintro e w' ⟨rfl, rfl⟩
      go_wp2_with fail
      refine (C2.out _).mono ?_
      rintro e w' ⟨rfl, rfl⟩
      go_wp2
      go_ret2
      exact ⟨rfl, Below.refl _ _⟩
    | true =>
      rw [show validL (bts s) = true from h1] at c1; rw [show validL (bts t) = true from h2] at c2
      have C1 := Lib.hid c1; clear c1
      have C2 := Lib.hid c2; clear c2
      have H1 := Lib.hid h1; clear h1
      have H2 := Lib.hid h2; clear h2
      have hr : gcdF s t = (str (dec (Nat.gcd (val s) (val t))), 0) := by unfold gcdF; rw [H1.out, H2.out]; rfl
      rw [hr]; clear hr
      go_enter Tryd.func23, Tryd.ntmps23
      go_wp2_with fail
      refine (C1.out _).mono ?_
      rintro e w' ⟨rfl, rfl⟩
      go_wp2_with fail
      refine (C2.out _).mono ?_
      rintro e w' ⟨rfl, rfl⟩
      go_wp2_with fail
      go_loopg [0, 1] (val t) (fun g va vb wr => ∃ p : Nat, va = .string (str (dec p)) ∧ vb = .string (str (dec g)) ∧ Nat.gcd p g = Nat.gcd (val s) (val t) ∧ fits p ∧ fits g ∧ Below w.heap.size w wr)
      case atStart => exact ⟨val s, by rw [sd_val H1.out], by rw [sd_val H2.out], rfl, fits_val H1.out, fits_val H2.out, Below.refl _ _⟩
      case round =>
        obtain ⟨p, rfl, rfl, hg, hl1, hl2, hb⟩ := hrel
        have HG := Lib.hid hg; clear hg
        have HF1 := Lib.hid hl1; clear hl1
        have HF2 := Lib.hid hl2; clear hl2
        have HBW := Lib.hid hb; clear hb
        have hzw := HBW.out.size
        by_cases h0 : gk = 0
        · have e0 : ((str (dec gk)).toList == [48]) = true := by rw [beq_iff_eq, h0, Lib.toList_data, dec_small (by omega)]; rfl
          have e1 : ((str (dec gk)).toList != [48]) = false := by unfold bne; rw [e0]; rfl
          have e2 : (str (dec gk)).toList = [48] := by rw [h0, Lib.toList_data, dec_small (by omega)]; rfl
          have hgp : p = Nat.gcd (val s) (val t) := by rw [← HG.out, h0, Nat.gcd_zero_right]
          have HGP := Lib.hid hgp; clear hgp h0
          go_wp2_with fail
          go_ret2
          exact ⟨ret_si (by rw [HGP.out]) rfl, HBW.out⟩
        · have e0 : ((str (dec gk)).toList == [48]) = false := beq_eq_false_iff_ne.2 (not_zero (by rw [val_sd]; exact h0))
          have e1 : ((str (dec gk)).toList != [48]) = true := by unfold bne; rw [e0]; rfl
          have hdv := rdiv_any (str (dec p)) (str (dec gk)) wr (fits_size HF1.out) (fits_size HF2.out)
          unfold TripEnd at hdv
          rw [divF_ok (vld_sd HF1.out) (vld_sd HF2.out) (by rw [val_sd]; exact h0), val_sd, val_sd] at hdv
          have HDV := Lib.hid hdv; clear hdv
          have HH0 := Lib.hid h0; clear h0
          go_wp2_with fail
          refine HDV.out.mono ?_
          rintro e w3 ⟨rfl, hb3⟩
          have hb4 := HBW.out.trans (hb3.mono hzw)
          have HB4 := Lib.hid hb4; clear hb4 hb3
          go_wp2_with fail
          go_roundg (p % gk)
          case measure => exact Nat.mod_lt _ (Nat.pos_of_ne_zero HH0.out)
          case rel => exact ⟨gk, rfl, rfl, by rw [← HG.out, Nat.gcd_comm gk, ← Nat.gcd_rec, Nat.gcd_comm], HF2.out, fits_le HF1.out (Nat.mod_le _ _), HB4.out⟩
end Go.Proofs.YtndfbnffielfaaaDoor
