/- The numeral of a number in blocks: the top block, then each block with nine digits. No program in sight. -/
import Derived.Test.YtlcbdaconghcmaaGreatDoorCmp
namespace Go.Proofs.YtlcbdaconghcmaaGreatDoor
open Go
set_option maxRecDepth 100000

def padj : Nat → Nat → List UInt8 | 0, _ => [] | j + 1, b => padj j (b / 10) ++ [UInt8.ofNat (48 + b % 10)]
theorem dec_pad (j : Nat) : ∀ (n b : Nat), 1 ≤ n → b < 10 ^ j → dec (n * 10 ^ j + b) = dec n ++ padj j b := by
  induction j with
  | zero => intro n b _ hb; simp at hb; subst hb; simp [padj]
  | succ j ih =>
    intro n b hn hb
    have h1 : 10 ≤ n * 10 ^ (j + 1) + b := by
      have : 1 * 10 ^ (j + 1) ≤ n * 10 ^ (j + 1) := Nat.mul_le_mul_right _ hn
      have : 1 ≤ 10 ^ j := Nat.pow_pos (by omega)
      rw [Nat.pow_succ] at *; omega
    rw [dec_big (by omega)]
    have e1 : (n * 10 ^ (j + 1) + b) / 10 = n * 10 ^ j + b / 10 := by rw [Nat.pow_succ, ← Nat.mul_assoc]; omega
    have e2 : (n * 10 ^ (j + 1) + b) % 10 = b % 10 := by rw [Nat.pow_succ, ← Nat.mul_assoc]; omega
    rw [e1, e2, ih n (b / 10) hn (by rw [Nat.pow_succ] at hb; omega)]
    simp [padj]
theorem padj_zero (j : Nat) : padj j 0 = List.replicate j 48 := by
  induction j with
  | zero => rfl
  | succ j ih => simp only [padj, Nat.zero_div, Nat.zero_mod, ih]; rw [List.replicate_succ']; rfl
theorem padj_eq (j : Nat) : ∀ b, 1 ≤ j → b < 10 ^ j → padj j b = List.replicate (j - (dec b).length) 48 ++ dec b := by
  induction j with
  | zero => intro b h; omega
  | succ j ih =>
    intro b _ hb
    by_cases h : b < 10
    · simp only [padj]; rw [dec_small h, Nat.div_eq_of_lt h, padj_zero, Nat.mod_eq_of_lt h]; simp
    · have hj : 1 ≤ j := by
        rcases Nat.eq_zero_or_pos j with h0 | h0
        · subst h0; simp at hb; omega
        · exact h0
      simp only [padj]
      rw [ih (b / 10) hj (by rw [Nat.pow_succ] at hb; omega), dec_big h]
      simp
theorem dec_block {n b : Nat} (hn : 1 ≤ n) (hb : b < BB) : dec (b + BB * n) = dec n ++ (List.replicate (9 - (dec b).length) 48 ++ dec b) := by
  rw [BB_val] at *
  have h : b + 1000000000 * n = n * 10 ^ 9 + b := by omega
  rw [h, dec_pad 9 n b hn (by omega), padj_eq 9 b (by omega) (by omega)]
theorem dec_len9 {b : Nat} (hb : b < BB) : (dec b).length ≤ 9 := by rw [BB_val] at hb; exact dec_len_lt.2 ⟨by omega, by omega⟩

/-- What is written of n behind k rounds: the numeral of its k top blocks. -/
noncomputable def topB (n k : Nat) : List UInt8 := if k = 0 then [] else dec (bval ((toB n).drop ((toB n).length - k)))
theorem topB_zero (n : Nat) : topB n 0 = [] := rfl
theorem drop_step (xs : List Nat) (k : Nat) (hk : k < xs.length) : bval (xs.drop (xs.length - (k + 1))) = nth xs (xs.length - 1 - k) + BB * bval (xs.drop (xs.length - k)) := by
  rw [List.drop_eq_getElem_cons (by omega), show xs.length - (k + 1) + 1 = xs.length - k by omega]
  simp only [bval]
  rw [nth_get xs _ (by omega)]
  congr 2
  omega
theorem topB_one (n : Nat) (h : n ≠ 0) : topB n 1 = dec (nth (toB n) ((toB n).length - 1)) := by
  have := toB_ne h
  unfold topB
  rw [if_neg (by omega), drop_step (toB n) 0 (by omega), Nat.sub_zero, Nat.sub_zero, List.drop_length]
  simp [bval]
theorem topB_pos (n : Nat) (h : n ≠ 0) (k : Nat) (h1 : 1 ≤ k) (hk : k ≤ (toB n).length) : 1 ≤ bval ((toB n).drop ((toB n).length - k)) := by
  induction k with
  | zero => omega
  | succ k ih =>
    rw [drop_step (toB n) k hk]
    rcases Nat.eq_zero_or_pos k with h0 | h0
    · subst h0; rw [Nat.sub_zero]; have := toB_top h; omega
    · have := ih h0 (by omega)
      have : BB * 1 ≤ BB * bval ((toB n).drop ((toB n).length - k)) := Nat.mul_le_mul_left _ this
      have := BB_pos
      omega
theorem topB_succ (n : Nat) (h : n ≠ 0) (k : Nat) (h1 : 1 ≤ k) (hk : k < (toB n).length) :
    topB n (k + 1) = topB n k ++ (List.replicate (9 - (dec (nth (toB n) ((toB n).length - 1 - k))).length) 48 ++ dec (nth (toB n) ((toB n).length - 1 - k))) := by
  unfold topB
  rw [if_neg (by omega), if_neg (by omega), drop_step (toB n) k hk, dec_block (topB_pos n h k h1 (by omega)) (small_toB n _)]
theorem topB_all (n : Nat) (h : n ≠ 0) : topB n (toB n).length = dec n := by
  have := toB_ne h
  unfold topB
  rw [if_neg (by omega), Nat.sub_self, List.drop_zero, bval_toB]
theorem topB_len (n k : Nat) : (topB n k).length ≤ 9 * k := by
  unfold topB
  split
  · simp
  · have h1 : Small ((toB n).drop ((toB n).length - k)) := fun i => by rw [nth_drop]; exact small_toB n _
    have h2 := bval_lt h1
    refine dec_len_lt.2 ⟨Nat.lt_of_lt_of_le h2 ?_, by omega⟩
    rw [pow9]; exact Nat.pow_le_pow_right BB_pos (by rw [List.length_drop]; omega)
end Go.Proofs.YtlcbdaconghcmaaGreatDoor
