/- cmp.Compare at int and uint64, and nat.compare: which of two numbers in blocks is the greater one. The numeral of a number in blocks: the top block, then each block with nine digits. No program in sight. -/
import Derived.Test.YtlmfppjphblemaaGreatDoorMB
import Derived.Test.YtlmfppjphblemaaGreatDoorShelf
import Derived.Deep.QuietTactic
import Derived.BigQuiet
namespace Go.Proofs.YtlmfppjphblemaaGreatDoor
open Go Go.RowKit
set_option maxRecDepth 100000

def cmpN (m n : Nat) : Int := if m < n then -1 else if n < m then 1 else 0
theorem cmpN_lt {m n : Nat} (h : m < n) : cmpN m n = -1 := by unfold cmpN; rw [if_pos h]
theorem cmpN_gt {m n : Nat} (h : n < m) : cmpN m n = 1 := by unfold cmpN; rw [if_neg (by omega), if_pos h]
theorem cmpN_eq {m n : Nat} (h : m = n) : cmpN m n = 0 := by unfold cmpN; rw [if_neg (by omega), if_neg (by omega)]

theorem isnan_u64 (x : Int) (w : World) : Calls Tryz.prog 176 #[.int .u64 x] w fun e w' => e = .returned (.bool false) ∧ w = w' := by
  have h : (x != x) = false := by simp
  go_enter Tryz.func176, Tryz.ntmps176
  go_wp2
  go_ret
  exact ⟨rfl, rfl⟩
theorem cmp_u64 (x y : Nat) (w : World) : Calls Tryz.prog 162 #[.int .u64 (x : Int), .int .u64 (y : Int)] w fun e w' => e = .returned (.int .i64 (cmpN x y)) ∧ w = w' := by
  rcases Nat.lt_trichotomy x y with h | h | h
  · have h1 := cmpN_lt h
    have H1 := Lib.hid h1; clear h1
    go_enter Tryz.func162, Tryz.ntmps162
    go_wp2_with (go_at_call 176; refine (isnan_u64 _ _).mono ?_; rintro e w' ⟨rfl, rfl⟩)
    go_ret
    exact ⟨ret_int H1.out.symm, rfl⟩
  · subst h
    have h1 := cmpN_eq (rfl : x = x)
    have H1 := Lib.hid h1; clear h1
    go_enter Tryz.func162, Tryz.ntmps162
    go_wp2_with (go_at_call 176; refine (isnan_u64 _ _).mono ?_; rintro e w' ⟨rfl, rfl⟩)
    go_ret
    exact ⟨ret_int H1.out.symm, rfl⟩
  · have h1 := cmpN_gt h
    have H1 := Lib.hid h1; clear h1
    go_enter Tryz.func162, Tryz.ntmps162
    go_wp2_with (go_at_call 176; refine (isnan_u64 _ _).mono ?_; rintro e w' ⟨rfl, rfl⟩)
    go_ret
    exact ⟨ret_int H1.out.symm, rfl⟩

theorem nth_drop (xs : List Nat) (k i : Nat) : nth (xs.drop k) i = nth xs (k + i) := by simp [nth, List.getD_eq_getElem?_getD]
theorem bval_split (xs : List Nat) (j : Nat) : bval xs = bval (xs.take j) + BB ^ j * nth xs j + BB ^ (j + 1) * bval (xs.drop (j + 1)) := by
  rw [← bval_take_succ]
  by_cases h : j + 1 ≤ xs.length
  · have := bval_append (xs.take (j + 1)) (xs.drop (j + 1))
    rw [List.take_append_drop, List.length_take, Nat.min_eq_left h] at this
    exact this
  · rw [List.take_of_length_le (by omega), List.drop_of_length_le (by omega)]; simp [bval]
theorem list_ext_nth {xs ys : List Nat} (hl : xs.length = ys.length) (h : ∀ j, j < xs.length → nth xs j = nth ys j) : xs = ys := by
  apply List.ext_getElem hl
  intro i h1 h2
  have := h i h1
  rw [nth_get xs i h1, nth_get ys i h2] at this
  exact this
theorem bval_lt_of {xs ys : List Nat} (hx : Small xs) (hl : xs.length = ys.length) (j : Nat) (he : ∀ i, j < i → i < xs.length → nth xs i = nth ys i) (hlt : nth xs j < nth ys j) : bval xs < bval ys := by
  rw [bval_split xs j, bval_split ys j]
  have e : xs.drop (j + 1) = ys.drop (j + 1) := list_ext_nth (by simp [hl]) (fun i hi => by
    rw [nth_drop, nth_drop]; rw [List.length_drop] at hi; exact he _ (by omega) (by omega))
  rw [e]
  have h1 : bval (xs.take j) < BB ^ j := Nat.lt_of_lt_of_le (bval_lt (small_take hx j)) (Nat.pow_le_pow_right BB_pos (by rw [List.length_take]; omega))
  have h2 : BB ^ j * (nth xs j + 1) ≤ BB ^ j * nth ys j := Nat.mul_le_mul_left _ hlt
  rw [Nat.mul_add] at h2
  omega
theorem lt_of_len {m n : Nat} (h : (toB m).length < (toB n).length) : m < n := by
  rcases Nat.lt_or_ge m n with h1 | h1
  · exact h1
  · have := toB_len_mono h1; omega

def CmpEnd (m n : Nat) (w : World) (e : Ending) (w' : World) : Prop := e = .returned (.int .i64 (cmpN m n)) ∧ Below w.heap.size w w'

theorem cmpint (x y : Nat) (w : World) : Calls Tryz.prog 161 #[.int .i64 (x : Int), .int .i64 (y : Int)] w fun e w' => e = .returned (.int .i64 (cmpN x y)) ∧ w = w' := by
  refine (Tryz.cmp_Compare_int x y w).mono fun e w' h => ⟨?_, h.2.symm⟩
  rw [h.1]
  apply ret_int
  unfold Lib.compareInt cmpN
  repeat' split
  all_goals first | rfl | omega

set_option maxHeartbeats 1000000 in
theorem compare_any (vx vy : Value) (m n : Nat) (w : World) (hx : Sl w .u64 vx (toB m)) (hy : Sl w .u64 vy (toB n)) :
    Calls Tryz.prog 146 #[vx, vy] w (CmpEnd m n w) := by
  obtain ⟨ax, cx, bx, ox, rfl, hax, hcx1, hcx2, hbx, hcellx⟩ := hx.open
  obtain ⟨ay, cy, by', oy, rfl, hay, hcy1, hcy2, hby, hcelly⟩ := hy.open
  unfold maxLen at hcx2 hcy2
  clear hx hy
  by_cases hl : (toB m).length = (toB n).length
  · have hne : (((toB m).length : Int) != ((toB n).length : Int)) = false := by rw [hl]; simp
    go_enter Tryz.func146, Tryz.ntmps146
    have HL := Lib.hid hl; clear hl
    go_wp2
    clear hne
    go_loopw [19] (fun i wr => ∃ k : Nat, k ≤ (toB m).length ∧ i = .int .i64 k ∧ (∀ j, (toB m).length - 1 - k < j → j < (toB m).length → nth (toB m) j = nth (toB n) j) ∧ (k = (toB m).length → 0 < k → nth (toB m) 0 = nth (toB n) 0) ∧ Below w.heap.size w wr) (fun i _ => (toB m).length - (intOf i).toNat)
    case atStart => exact ⟨0, Nat.zero_le _, rfl, fun j h1 h2 => by omega, fun _ h => absurd h (Nat.lt_irrefl _), Below.refl _ _⟩
    case round =>
      obtain ⟨k, hk, rfl, heq, heq0, hb⟩ := hrel
      have HE := Lib.hid heq; clear heq
      have HE0 := Lib.hid heq0; clear heq0
      have HB := Lib.hid hb; clear hb
      by_cases hlt : k < (toB m).length
      · obtain rfl := hax (by omega)
        obtain rfl := hay (by have := HL.out; omega)
        have c1 := (HB.out.cell (p := ⟨bx, ox + ((toB m).length - 1 - k), none⟩) (hbx (by omega))).trans (hcellx ((toB m).length - 1 - k) (by omega))
        have c2 := (HB.out.cell (p := ⟨by', oy + ((toB m).length - 1 - k), none⟩) (hby (by have := HL.out; omega))).trans (hcelly ((toB m).length - 1 - k) (by have := HL.out; omega))
        have hlt2 : (((toB m).length : Int) - 1 - (k : Int)) < ((toB n).length : Int) := by have := HL.out; omega
        have hlt3 : 0 ≤ (((toB m).length : Int) - 1 - (k : Int)) := by omega
        clear hax hay hcellx hcelly
        rcases Nat.lt_trichotomy (nth (toB m) ((toB m).length - 1 - k)) (nth (toB n) ((toB m).length - 1 - k)) with hc | hc | hc
        · have hv := cmpN_lt hc
          have hr : cmpN m n = -1 := cmpN_lt (by
            have := bval_lt_of (small_toB m) HL.out ((toB m).length - 1 - k) (fun i h1 h2 => HE.out i h1 h2) hc
            rwa [bval_toB, bval_toB] at this)
          clear hc
          have HR := Lib.hid hr; clear hr
          have HV := Lib.hid hv; clear hv
          go_wp2_with fail
          go_quiet ((go_at_call 162; exact Calls.quiet_of_same ((cmp_u64 _ _ _).mono fun e w' h => ⟨by rw [h.1, HV.out], h.2.symm⟩)))
          go_wp2
          go_ret
          exact ⟨ret_int HR.out.symm, below_drewN HB.out _⟩
        · have hv := cmpN_eq hc
          have HC := Lib.hid hc; clear hc
          have HV := Lib.hid hv; clear hv
          go_wp2_with fail
          go_quiet ((go_at_call 162; exact Calls.quiet_of_same ((cmp_u64 _ _ _).mono fun e w' h => ⟨by rw [h.1, HV.out], h.2.symm⟩)))
          go_wp2
          go_roundw
          case rel =>
            refine ⟨k + 1, by omega, by go_num, fun j h1 h2 => ?_, fun h1 _ => ?_, below_drewN HB.out _⟩
            · by_cases e : j = (toB m).length - 1 - k
              · rw [e]; exact HC.out
              · exact HE.out j (by omega) h2
            · have := HC.out
              rwa [show (toB m).length - 1 - k = 0 by omega] at this
          case measure => simp [intOf]; omega
        · have hv := cmpN_gt hc
          have hr : cmpN m n = 1 := cmpN_gt (by
            have := bval_lt_of (small_toB n) HL.out.symm ((toB m).length - 1 - k) (fun i h1 h2 => (HE.out i h1 (by rw [HL.out]; exact h2)).symm) hc
            rwa [bval_toB, bval_toB] at this)
          clear hc
          have HR := Lib.hid hr; clear hr
          have HV := Lib.hid hv; clear hv
          go_wp2_with fail
          go_quiet ((go_at_call 162; exact Calls.quiet_of_same ((cmp_u64 _ _ _).mono fun e w' h => ⟨by rw [h.1, HV.out], h.2.symm⟩)))
          go_wp2
          go_ret
          exact ⟨ret_int HR.out.symm, below_drewN HB.out _⟩
      · go_wp2_with fail
        go_ret
        have hr : cmpN m n = 0 := cmpN_eq (by
          have e : toB m = toB n := list_ext_nth HL.out (fun j hj => by
            by_cases h0 : j = 0
            · subst h0; exact HE0.out (by omega) (by omega)
            · exact HE.out j (by omega) hj)
          rw [← bval_toB m, e, bval_toB])
        exact ⟨ret_int hr.symm, HB.out⟩
  · have hne : (((toB m).length : Int) != ((toB n).length : Int)) = true := by rw [bne_iff_ne]; omega
    have hr : cmpN (toB m).length (toB n).length = cmpN m n := by
      rcases Nat.lt_or_ge (toB m).length (toB n).length with h | h
      · rw [cmpN_lt h, cmpN_lt (lt_of_len h)]
      · rw [cmpN_gt (show (toB n).length < (toB m).length by omega), cmpN_gt (lt_of_len (by omega))]
    have HR := Lib.hid hr; clear hr
    clear hl hax hay hcellx hcelly
    go_enter Tryz.func146, Tryz.ntmps146
    go_wp2_with (go_at_call 161; refine (cmpint _ _ _).mono ?_; rintro e w' ⟨rfl, rfl⟩)
    go_ret
    exact ⟨ret_int HR.out, Below.refl _ _⟩
end Go.Proofs.YtlmfppjphblemaaGreatDoor

namespace Go.Proofs.YtlmfppjphblemaaGreatDoor
open Go
set_option maxRecDepth 100000

def padj : Nat → Nat → List UInt8 | 0, _ => [] | j + 1, b => padj j (b / 10) ++ [UInt8.ofNat (48 + b % 10)]
theorem dec_pad (j : Nat) : ∀ (n b : Nat), 1 ≤ n → b < 10 ^ j → dec (n * 10 ^ j + b) = dec n ++ padj j b := by
  induction j with
  | zero => intro n b _ hb; simp at hb; subst hb; simp [padj]
  | succ j ih =>
    intro n b hn hb
    have h1 : 10 ≤ n * 10 ^ (j + 1) + b := by
      have : 1 * 10 ^ (j + 1) ≤ n * 10 ^ (j + 1) := Nat.mul_le_mul_right _ hn
      have : 1 ≤ 10 ^ j := Nat.pow_pos (by omega)
      rw [Nat.pow_succ] at *; omega
    rw [dec_big (by omega)]
    have e1 : (n * 10 ^ (j + 1) + b) / 10 = n * 10 ^ j + b / 10 := by rw [Nat.pow_succ, ← Nat.mul_assoc]; omega
    have e2 : (n * 10 ^ (j + 1) + b) % 10 = b % 10 := by rw [Nat.pow_succ, ← Nat.mul_assoc]; omega
    rw [e1, e2, ih n (b / 10) hn (by rw [Nat.pow_succ] at hb; omega)]
    simp [padj]
theorem padj_zero (j : Nat) : padj j 0 = List.replicate j 48 := by
  induction j with
  | zero => rfl
  | succ j ih => simp only [padj, Nat.zero_div, Nat.zero_mod, ih]; rw [List.replicate_succ']; rfl
theorem padj_eq (j : Nat) : ∀ b, 1 ≤ j → b < 10 ^ j → padj j b = List.replicate (j - (dec b).length) 48 ++ dec b := by
  induction j with
  | zero => intro b h; omega
  | succ j ih =>
    intro b _ hb
    by_cases h : b < 10
    · simp only [padj]; rw [dec_small h, Nat.div_eq_of_lt h, padj_zero, Nat.mod_eq_of_lt h]; simp
    · have hj : 1 ≤ j := by
        rcases Nat.eq_zero_or_pos j with h0 | h0
        · subst h0; simp at hb; omega
        · exact h0
      simp only [padj]
      rw [ih (b / 10) hj (by rw [Nat.pow_succ] at hb; omega), dec_big h]
      simp
theorem dec_block {n b : Nat} (hn : 1 ≤ n) (hb : b < BB) : dec (b + BB * n) = dec n ++ (List.replicate (9 - (dec b).length) 48 ++ dec b) := by
  rw [BB_val] at *
  have h : b + 1000000000 * n = n * 10 ^ 9 + b := by omega
  rw [h, dec_pad 9 n b hn (by omega), padj_eq 9 b (by omega) (by omega)]
theorem dec_len9 {b : Nat} (hb : b < BB) : (dec b).length ≤ 9 := by rw [BB_val] at hb; exact dec_len_lt.2 ⟨by omega, by omega⟩

/-- What is written of n behind k rounds: the numeral of its k top blocks. -/
noncomputable def topB (n k : Nat) : List UInt8 := if k = 0 then [] else dec (bval ((toB n).drop ((toB n).length - k)))
theorem topB_zero (n : Nat) : topB n 0 = [] := rfl
theorem drop_step (xs : List Nat) (k : Nat) (hk : k < xs.length) : bval (xs.drop (xs.length - (k + 1))) = nth xs (xs.length - 1 - k) + BB * bval (xs.drop (xs.length - k)) := by
  rw [List.drop_eq_getElem_cons (by omega), show xs.length - (k + 1) + 1 = xs.length - k by omega]
  simp only [bval]
  rw [nth_get xs _ (by omega)]
  congr 2
  omega
theorem topB_one (n : Nat) (h : n ≠ 0) : topB n 1 = dec (nth (toB n) ((toB n).length - 1)) := by
  have := toB_ne h
  unfold topB
  rw [if_neg (by omega), drop_step (toB n) 0 (by omega), Nat.sub_zero, Nat.sub_zero, List.drop_length]
  simp [bval]
theorem topB_pos (n : Nat) (h : n ≠ 0) (k : Nat) (h1 : 1 ≤ k) (hk : k ≤ (toB n).length) : 1 ≤ bval ((toB n).drop ((toB n).length - k)) := by
  induction k with
  | zero => omega
  | succ k ih =>
    rw [drop_step (toB n) k hk]
    rcases Nat.eq_zero_or_pos k with h0 | h0
    · subst h0; rw [Nat.sub_zero]; have := toB_top h; omega
    · have := ih h0 (by omega)
      have : BB * 1 ≤ BB * bval ((toB n).drop ((toB n).length - k)) := Nat.mul_le_mul_left _ this
      have := BB_pos
      omega
theorem topB_succ (n : Nat) (h : n ≠ 0) (k : Nat) (h1 : 1 ≤ k) (hk : k < (toB n).length) :
    topB n (k + 1) = topB n k ++ (List.replicate (9 - (dec (nth (toB n) ((toB n).length - 1 - k))).length) 48 ++ dec (nth (toB n) ((toB n).length - 1 - k))) := by
  unfold topB
  rw [if_neg (by omega), if_neg (by omega), drop_step (toB n) k hk, dec_block (topB_pos n h k h1 (by omega)) (small_toB n _)]
theorem topB_all (n : Nat) (h : n ≠ 0) : topB n (toB n).length = dec n := by
  have := toB_ne h
  unfold topB
  rw [if_neg (by omega), Nat.sub_self, List.drop_zero, bval_toB]
theorem topB_len (n k : Nat) : (topB n k).length ≤ 9 * k := by
  unfold topB
  split
  · simp
  · have h1 : Small ((toB n).drop ((toB n).length - k)) := fun i => by rw [nth_drop]; exact small_toB n _
    have h2 := bval_lt h1
    refine dec_len_lt.2 ⟨Nat.lt_of_lt_of_le h2 ?_, by omega⟩
    rw [pow9]; exact Nat.pow_le_pow_right BB_pos (by rw [List.length_drop]; omega)
end Go.Proofs.YtlmfppjphblemaaGreatDoor
