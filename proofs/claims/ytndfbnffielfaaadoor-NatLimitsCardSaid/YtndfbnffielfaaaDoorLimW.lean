/- The walk of the statement NatLimits: it returns true. -/
import Derived.Test.YtndfbnffielfaaaDoorLawsL
import Derived.Laws.Concat
namespace Go.Proofs.YtndfbnffielfaaaDoor
open Go Go.RowKit

def nin (k : Nat) : ByteArray := str (List.replicate k 57)
def hlf (k : Nat) : ByteArray := str (49 :: List.replicate k 48)
theorem str_append (l r : List UInt8) : str l ++ str r = str (l ++ r) := bts_inj (by rw [bts_str]; simp [bts, str])
theorem nin_step (k : Nat) : nin k ++ ⟨#[57]⟩ = nin (k + 1) := by
  rw [show (⟨#[57]⟩ : ByteArray) = str [57] from rfl]; unfold nin; rw [str_append]; congr 1
  rw [List.replicate_succ']
theorem hlf_step (k : Nat) : hlf k ++ ⟨#[48]⟩ = hlf (k + 1) := by
  rw [show (⟨#[48]⟩ : ByteArray) = str [48] from rfl]; unfold hlf; rw [str_append]; congr 1
  rw [List.cons_append, List.replicate_succ']
theorem nin_size (k : Nat) : (nin k).size = k := by unfold nin; rw [str_size]; simp
theorem hlf_size (k : Nat) : (hlf k).size = k + 1 := by unfold hlf; rw [str_size]; simp
theorem num_nin (k : Nat) : num (List.replicate k 57) + 1 = 10 ^ k := by
  induction k with
  | zero => rfl
  | succ k ih => rw [List.replicate_succ', num_snoc, Nat.pow_succ, ← ih]; simp; omega
theorem num_hlf (k : Nat) : num (49 :: List.replicate k 48) = 10 ^ k := by
  induction k with
  | zero => rfl
  | succ k ih => rw [List.replicate_succ', ← List.cons_append, num_snoc, Nat.pow_succ, ih]; simp; omega
theorem val_nin (k : Nat) : val (nin k) + 1 = 10 ^ k := by unfold val nin; rw [bts_str]; exact num_nin k
theorem val_hlf (k : Nat) : val (hlf k) = 10 ^ k := by unfold val hlf; rw [bts_str]; exact num_hlf k
theorem dgts_rep (k : Nat) (c : UInt8) (h : dgt c = true) : dgts (List.replicate k c) = true := by
  unfold dgts; rw [List.all_eq_true]; intro x hx; rw [List.eq_of_mem_replicate hx]; exact h
theorem vld_nin {k : Nat} (h1 : 1 ≤ k) (h : k ≤ 1000) : vld (nin k) = true := by
  unfold vld nin; rw [bts_str]
  refine valid_mk (by simpa using h1) (by simpa using h) (.inr ?_) (dgts_rep k 57 (by decide))
  obtain ⟨j, rfl⟩ : ∃ j, k = j + 1 := ⟨k - 1, by omega⟩
  rw [List.replicate_succ, List.headD_cons]; decide
theorem vld_hlf {k : Nat} (h : k + 1 ≤ 1000) : vld (hlf k) = true := by
  unfold vld hlf; rw [bts_str]
  refine valid_mk (by simp) (by simpa using h) (.inr (by simp)) ?_
  have := dgts_rep k 48 (by decide)
  unfold dgts at *; rw [List.all_cons, this]; decide
theorem pow_len (k : Nat) : (dec (10 ^ k)).length = k + 1 := by
  have h1 : (dec (10 ^ k)).length ≤ k + 1 := dec_len_lt.2 ⟨Nat.pow_lt_pow_right (by omega) (by omega), by omega⟩
  rcases Nat.lt_or_ge k (dec (10 ^ k)).length with h | h
  · omega
  · have := (dec_len_lt.1 h).1; omega
theorem lim1 {k : Nat} (h1 : 1 ≤ k) (h : k = 1000) : addF (nin k) ⟨#[49]⟩ = (⟨#[]⟩, 2) := by
  refine addF_long (vld_nin h1 (by omega)) (by decide) ?_
  rw [show val ⟨#[49]⟩ = 1 by decide, val_nin]
  unfold fits; rw [pow_len]; omega
theorem lim2 {k : Nat} (h1 : 1 ≤ k) (h : k = 1000) : addF (nin k) ⟨#[48]⟩ = (nin k, 0) := by
  have hv := vld_nin h1 (by omega : k ≤ 1000)
  have := addF_fit hv (t := ⟨#[48]⟩) (by decide) (by rw [show val ⟨#[48]⟩ = 0 by decide, Nat.add_zero]; exact fits_val hv)
  rw [this, show val ⟨#[48]⟩ = 0 by decide, Nat.add_zero, sd_val hv]
theorem lim3 {k : Nat} (h : k = 500) : mulF (hlf k) (hlf k) = (⟨#[]⟩, 2) := by
  refine mulF_long (vld_hlf (by omega)) (vld_hlf (by omega)) ?_
  rw [val_hlf, ← Nat.pow_add]; unfold fits; rw [pow_len]; omega
theorem lim4 {k : Nat} (h : k = 499) : ∃ b : ByteArray, b.size = 1000 ∧ mulF (hlf (k + 1)) (hlf k) = (b, 0) := by
  refine ⟨str (dec (10 ^ (k + 1 + k))), by rw [str_size, pow_len]; omega, ?_⟩
  have := mulF_fit (vld_hlf (k := k + 1) (by omega)) (vld_hlf (k := k) (by omega)) (by rw [val_hlf, val_hlf, ← Nat.pow_add]; unfold fits; rw [pow_len]; omega)
  rw [this, val_hlf, val_hlf, ← Nat.pow_add]
theorem lim5 {k : Nat} (h : k = 1000) : validL (bts (nin k)) = true := vld_nin (by omega) (by omega)
theorem lim6 {k : Nat} (h : k = 1000) : validL (bts (nin k ++ ⟨#[57]⟩)) = false := by
  rw [nin_step]
  cases e : validL (bts (nin (k + 1))) with
  | false => rfl
  | true => have := (valid_parts e).2.1; rw [bts_len, nin_size] at this; omega
theorem hlf_cut (k : Nat) : (hlf (k + 1)).extract 0 (k + 1) = hlf k := bts_inj (by
  unfold hlf; rw [bts_str, List.replicate_succ']; simp only [bts, str, ByteArray.data_extract, Array.toList_extract]; rw [List.extract_eq_take_drop, ← List.cons_append]; simp)

set_option maxRecDepth 100000 in
set_option maxHeartbeats 2000000 in
theorem natLimits_any (w : World) (ht : Tab w) : Calls Tryd.prog 9 #[] w (TrueEnd w) := by
  have HT := Lib.hid ht; clear ht
  have S1 : ∀ (wx : World), Below w.heap.size w wx → Tab wx := fun wx h => HT.out.below h (Nat.le_refl _)
  have HS := Lib.hid S1; clear S1
  go_enter Tryd.func9, Tryd.ntmps9
  go_wp2_with fail
  go_loop [1, 3] (fun v i => ∃ k : Nat, k ≤ 1000 ∧ i = .int .i64 k ∧ v = .string (nin k)) (fun _ i => 1000 - (intOf i).toNat)
  case atStart => exact ⟨0, by omega, rfl, rfl⟩
  case round =>
    obtain ⟨k, hk, rfl, rfl⟩ := hrel
    have hz : ((nin k).size : Int) ≤ 8388608 := by rw [nin_size]; omega
    by_cases hlt : k < 1000
    · have hs1 := nin_step k
      have HS1 := Lib.hid hs1; clear hs1
      go_wp2
      go_round
      case rel => exact ⟨k + 1, by omega, by simp, by rw [HS1.out]⟩
      case measure => simp [intOf]; omega
    · have hk1 : k = 1000 := by omega
      have HL1 := Lib.hid (lim1 (by omega) hk1)
      have HL2 := Lib.hid (lim2 (by omega) hk1)
      have HL5 := Lib.hid (lim5 hk1)
      have HL6 := Lib.hid (lim6 hk1)
      have HZ : Hid ((nin k).size ≤ maxLen) := Lib.hid (by rw [nin_size]; unfold maxLen; omega)
      have HZ2 : Hid ((nin k ++ (⟨#[57]⟩ : ByteArray)).size ≤ maxLen) := Lib.hid (by rw [nin_step, nin_size]; unfold maxLen; omega)
      have HZ1 : Hid (((nin k).size : Int) ≤ 8388608) := Lib.hid hz
      clear hk1
      go_wp2_with fail
      clear hz hk hlt
      rename (1000 : Int) ≤ (k : Int) => hh; clear hh
      generalize decide ((k : Int) < 1000) = vbb
      go_loop [2, 4] (fun v i => ∃ j : Nat, j ≤ 500 ∧ i = .int .i64 j ∧ v = .string (hlf j)) (fun _ i => 500 - (intOf i).toNat)
      case atStart => exact ⟨0, by omega, rfl, rfl⟩
      case round =>
        obtain ⟨j, hj, rfl, rfl⟩ := hrel
        have hz2 : ((hlf j).size : Int) ≤ 8388608 := by rw [hlf_size]; omega
        by_cases hlt2 : j < 500
        · have hs2 := hlf_step j
          have HS2 := Lib.hid hs2; clear hs2
          have hgj : decide ((j : Int) < 500) = true := decide_eq_true (by omega)
          have HJJ : Hid (j < 500) := Lib.hid hlt2
          have hj5 : (j : Int) ≤ 499 := by omega
          clear hlt2 hj
          go_wp2
          go_round
          case rel => exact ⟨j + 1, HJJ.out, by simp, by rw [HS2.out]⟩
          case measure => have := HJJ.out; simp [intOf]; omega
        · have hj1 : j = 500 := by omega
          have HL3 := Lib.hid (lim3 hj1)
          obtain ⟨b, hb1000, hl4⟩ := lim4 (k := 499) rfl
          have hc : (hlf j).extract 0 500 = hlf 499 := by rw [hj1]; exact hlf_cut 499
          have hl4' : mulF (hlf j) (hlf 499) = (b, 0) := by rw [hj1]; exact hl4
          clear hl4
          obtain ⟨q, hq⟩ : ∃ q, q = hlf 499 := ⟨_, rfl⟩
          rw [← hq] at hc hl4'
          have HL4 := Lib.hid hl4'; clear hl4'
          have HB := Lib.hid hb1000; clear hb1000
          have HC := Lib.hid hc; clear hc
          have HZ3 : Hid ((hlf j).size ≤ maxLen) := Lib.hid (by rw [hlf_size]; unfold maxLen; omega)
          have HZ4 : Hid (q.size ≤ maxLen) := Lib.hid (by rw [hq, hlf_size]; unfold maxLen; omega)
          have hz501 : ((hlf j).size : Int) = 501 := by rw [hlf_size]; omega
          clear hj1 hq hz2
          go_wp2_with fail
          have hq1 := add_any (nin k) ⟨#[49]⟩ w HZ.out (by decide) HT.out
          unfold PairEnd at hq1
          rw [HL1.out] at hq1
          refine hq1.mono ?_
          clear hq1
          rintro e w1 ⟨rfl, hb1⟩
          have HB1 := Lib.hid (hb1); clear hb1
          go_wp2_with fail
          have hq2 := add_any (nin k) ⟨#[48]⟩ w1 HZ.out (by decide) (HS.out w1 HB1.out)
          unfold PairEnd at hq2
          rw [HL2.out] at hq2
          refine hq2.mono ?_
          clear hq2
          rintro e w2 ⟨rfl, hb2⟩
          have HB2 := Lib.hid (HB1.out.trans (hb2.mono HB1.out.size)); clear hb2
          go_wp2_with fail
          have hq3 := mul_any (hlf j) (hlf j) w2 HZ3.out HZ3.out (HS.out w2 HB2.out)
          unfold PairEnd at hq3
          rw [HL3.out] at hq3
          refine hq3.mono ?_
          clear hq3
          rintro e w3 ⟨rfl, hb3⟩
          have HB3 := Lib.hid (HB2.out.trans (hb3.mono HB2.out.size)); clear hb3
          go_wp2_with fail
          rw [HC.out]
          have hq4 := mul_any (hlf j) q w3 HZ3.out HZ4.out (HS.out w3 HB3.out)
          unfold PairEnd at hq4
          rw [HL4.out] at hq4
          refine hq4.mono ?_
          clear hq4
          rintro e w4 ⟨rfl, hb4⟩
          have HB4 := Lib.hid (HB3.out.trans (hb4.mono HB3.out.size)); clear hb4
          go_wp2_with fail
          have hq5 := valid_any (nin k) w4 HZ.out
          rw [HL5.out] at hq5
          refine hq5.mono ?_
          clear hq5
          rintro e w5 ⟨rfl, rfl⟩
          have hz1 : ((nin k).size : Int) ≤ 8388608 := HZ1.out
          go_wp2_with fail
          clear hz1
          have hq6 := valid_any (nin k ++ ⟨#[57]⟩) w4 HZ2.out
          rw [HL6.out] at hq6
          refine hq6.mono ?_
          clear hq6
          rintro e w6 ⟨rfl, rfl⟩
          have hbs : ((b.size : Int) == 1000) = true := by rw [HB.out]; rfl
          go_wp2_with fail
          have hq5 := example_any w4 (HS.out w4 HB4.out)
          refine hq5.mono ?_
          clear hq5
          rintro e w5 ⟨rfl, hb5⟩
          have HB5 := Lib.hid (HB4.out.trans (hb5.mono HB4.out.size)); clear hb5
          go_wp2_with fail
          go_ret
          exact ⟨rfl, HB5.out⟩
end Go.Proofs.YtndfbnffielfaaaDoor
