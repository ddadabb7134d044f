/- Plain facts on bytes of strings and decimal numerals: num (dec n) = n, and dec (num l) = l for valid numerals. No program in sight. -/
import Derived.Lib.ItoaNum
import Derived.Lib.ItoaLen
import Derived.Lib.Hide
namespace Go.Proofs.YtlmfppjphblemaaGreatDoor
open Go
set_option maxRecDepth 100000

def dgt (c : UInt8) : Bool := decide (48 ≤ c.toNat) && decide (c.toNat ≤ 57)
def dgts (l : List UInt8) : Bool := l.all dgt
def validL (l : List UInt8) : Bool :=
  decide (1 ≤ l.length) && decide (l.length ≤ 1000) && (decide (l.length = 1) || decide (l.headD 0 ≠ 48)) && dgts l
/-- The bytes of a string. -/
def bts (s : ByteArray) : List UInt8 := s.data.toList
def str (l : List UInt8) : ByteArray := ⟨l.toArray⟩

theorem bts_str (l : List UInt8) : bts (str l) = l := by simp [bts, str]
theorem str_bts (s : ByteArray) : str (bts s) = s := by simp [bts, str]
theorem str_size (l : List UInt8) : (str l).size = l.length := by simp [str, ByteArray.size]
theorem bts_len (s : ByteArray) : (bts s).length = s.size := by simp [bts]
theorem bts_inj {s t : ByteArray} (h : bts s = bts t) : s = t := by rw [← str_bts s, h, str_bts]
theorem bts_get (s : ByteArray) (k : Nat) (h : k < s.size) : (bts s)[k]'(by rw [bts_len]; exact h) = s[k] := rfl
theorem take_snoc (s : ByteArray) (k : Nat) (h : k < s.size) : (bts s).take (k + 1) = (bts s).take k ++ [s[k]] := by
  rw [List.take_succ_eq_append_getElem (by rw [bts_len]; exact h)]; rfl
theorem bts_getD (s : ByteArray) (k : Nat) (h : k < s.size) : (bts s).getD k 0 = s[k] := by
  rw [List.getD_eq_getElem?_getD, List.getElem?_eq_getElem (by rw [bts_len]; exact h)]; rfl
theorem headD_bts (s : ByteArray) (h : 0 < s.size) : (bts s).headD 0 = s[0] := by
  rw [← bts_getD s 0 h]; cases bts s <;> rfl
theorem dgts_snoc (l : List UInt8) (c : UInt8) : dgts (l ++ [c]) = (dgts l && dgt c) := by simp [dgts, List.all_append]
theorem dgts_false (s : ByteArray) (k : Nat) (h : k < s.size) (hd : dgt s[k] = false) : dgts (bts s) = false := by
  unfold dgts
  rw [List.all_eq_false]
  refine ⟨s[k], ?_, by simp [hd]⟩
  have := List.getElem_mem (l := bts s) (n := k) (by rw [bts_len]; exact h)
  exact this

theorem valid_parts {l : List UInt8} (h : validL l = true) : 1 ≤ l.length ∧ l.length ≤ 1000 ∧ (l.length = 1 ∨ l.headD 0 ≠ 48) ∧ dgts l = true := by
  simp only [validL, Bool.and_eq_true, Bool.or_eq_true, decide_eq_true_eq] at h
  exact ⟨h.1.1.1, h.1.1.2, h.1.2, h.2⟩
theorem valid_mk {l : List UInt8} (h1 : 1 ≤ l.length) (h2 : l.length ≤ 1000) (h3 : l.length = 1 ∨ l.headD 0 ≠ 48) (h4 : dgts l = true) : validL l = true := by
  simp only [validL, Bool.and_eq_true, Bool.or_eq_true, decide_eq_true_eq]; exact ⟨⟨⟨h1, h2⟩, h3⟩, h4⟩
theorem dgts_get {l : List UInt8} (h : dgts l = true) (k : Nat) (hk : k < l.length) : 48 ≤ l[k].toNat ∧ l[k].toNat ≤ 57 := by
  have := List.all_eq_true.1 h l[k] (List.getElem_mem _)
  simpa [dgt] using this

/-! ### Decimal numerals -/
def num (l : List UInt8) : Nat := l.foldl (fun n c => 10 * n + (c.toNat - 48)) 0
abbrev dec (n : Nat) : List UInt8 := Lib.decDigits n

theorem num_snoc (l : List UInt8) (c : UInt8) : num (l ++ [c]) = 10 * num l + (c.toNat - 48) := by simp [num, List.foldl_append]
theorem dec_small {n : Nat} (h : n < 10) : dec n = [UInt8.ofNat (48 + n)] := Lib.decDigits_one h
theorem dec_big {n : Nat} (h : ¬ n < 10) : dec n = dec (n / 10) ++ [UInt8.ofNat (48 + n % 10)] := by
  unfold dec; rw [Lib.decDigits, dif_neg h]
theorem u8n {n : Nat} (h : n < 256) : (UInt8.ofNat n).toNat = n := by simp [UInt8.toNat_ofNat']; omega
theorem u8d {n : Nat} (h : n < 10) : (UInt8.ofNat (48 + n)).toNat - 48 = n := by rw [u8n (by omega)]; omega

theorem num_dec (n : Nat) : num (dec n) = n := by
  induction n using Nat.strongRecOn with
  | ind n ih =>
    by_cases h : n < 10
    · rw [dec_small h]; simp only [num, List.foldl]; rw [u8d h]; omega
    · rw [dec_big h, num_snoc, ih (n / 10) (by omega), u8d (by omega)]; omega
theorem dec_inj {m n : Nat} (h : dec m = dec n) : m = n := by rw [← num_dec m, h, num_dec]
theorem dec_pos (n : Nat) : 1 ≤ (dec n).length := by unfold dec; rw [Lib.decDigits_length]; exact Lib.nDigits_pos n
theorem dgts_dec (n : Nat) : dgts (dec n) = true := by
  induction n using Nat.strongRecOn with
  | ind n ih =>
    by_cases h : n < 10
    · rw [dec_small h]; simp only [dgts, List.all_cons, List.all_nil, dgt]; rw [u8n (by omega)]; simp; omega
    · rw [dec_big h, dgts_snoc, ih (n / 10) (by omega)]; simp only [dgt]; rw [u8n (by omega)]; simp; omega
theorem headD_append {l r : List UInt8} (h : 1 ≤ l.length) : (l ++ r).headD 0 = l.headD 0 := by cases l with
  | nil => simp at h
  | cons a l => rfl
theorem dec_head (n : Nat) (h : 1 ≤ n) : (dec n).headD 0 ≠ 48 := by
  induction n using Nat.strongRecOn with
  | ind n ih =>
    by_cases h' : n < 10
    · rw [dec_small h']; simp only [List.headD_cons]; intro e
      have := congrArg UInt8.toNat e; rw [u8n (by omega)] at this; simp at this; omega
    · rw [dec_big h', headD_append (dec_pos _)]; exact ih (n / 10) (by omega) (by omega)
theorem valid_dec {n : Nat} (h : (dec n).length ≤ 1000) : validL (dec n) = true := by
  refine valid_mk (dec_pos n) h ?_ (dgts_dec n)
  by_cases h0 : n = 0
  · left; subst h0; rw [dec_small (by omega)]; rfl
  · right; exact dec_head n (by omega)

theorem list_snoc {α : Type} (l : List α) (h : l ≠ []) : ∃ m c, l = m ++ [c] := ⟨l.dropLast, l.getLast h, (List.dropLast_concat_getLast h).symm⟩
theorem u8_eq {c : UInt8} {n : Nat} (h : c.toNat = n) : UInt8.ofNat n = c := by rw [← h]; exact UInt8.ofNat_toNat

/-- The digits l of a number without leading zeros stand for a number that is at least 1, and are its numeral. -/
theorem dec_num_pos : ∀ (k : Nat) (l : List UInt8), l.length = k → 1 ≤ l.length → l.headD 0 ≠ 48 → dgts l = true → 1 ≤ num l ∧ dec (num l) = l := by
  intro k
  induction k with
  | zero => intro l h1 h2; omega
  | succ k ih =>
    intro l hk _ hh hd
    obtain ⟨m, c, rfl⟩ := list_snoc l (by intro e; subst e; simp at hk)
    rw [dgts_snoc] at hd
    simp only [Bool.and_eq_true, dgt, decide_eq_true_eq] at hd
    obtain ⟨hm, hc1, hc2⟩ := hd
    simp at hk
    by_cases h0 : m = []
    · subst h0
      have hn : num ([] ++ [c]) = c.toNat - 48 := by simp [num]
      have hc : c.toNat ≠ 48 := by
        intro e; apply hh; have := UInt8.toNat_inj.1 (show c.toNat = (48 : UInt8).toNat from e); simpa using this
      rw [hn]
      refine ⟨by omega, ?_⟩
      rw [dec_small (by omega), u8_eq (c := c) (by omega)]; rfl
    · have hp : 1 ≤ m.length := by cases m with
        | nil => exact absurd rfl h0
        | cons a l => simp
      rw [headD_append hp] at hh
      obtain ⟨i1, i2⟩ := ih m hk hp hh hm
      rw [num_snoc]
      refine ⟨by omega, ?_⟩
      rw [dec_big (by omega), show (10 * num m + (c.toNat - 48)) / 10 = num m by omega, i2, u8_eq (c := c) (by omega)]
theorem dec_num {l : List UInt8} (h : validL l = true) : dec (num l) = l := by
  obtain ⟨h1, h2, h3, h4⟩ := valid_parts h
  by_cases hh : l.headD 0 ≠ 48
  · exact (dec_num_pos _ l rfl h1 hh h4).2
  · have hl : l.length = 1 := by rcases h3 with h | h; exact h; exact absurd h hh
    match l, hl with
    | [c], _ =>
      have hc : c = 48 := by simpa using hh
      subst hc
      have : num [48] = 0 := rfl
      rw [this, dec_small (by omega)]; rfl
theorem dec_len_lt {n k : Nat} : (dec n).length ≤ k ↔ (n < 10 ^ k ∧ 1 ≤ k) := by
  unfold dec; rw [Lib.decDigits_length]
  constructor
  · intro h
    exact ⟨Nat.lt_of_lt_of_le (Lib.lt_pow_nDigits n) (Nat.pow_le_pow_right (by omega) h), Nat.le_trans (Lib.nDigits_pos n) h⟩
  · intro ⟨h, hk⟩
    induction k generalizing n with
    | zero => omega
    | succ k ih =>
      by_cases h' : n < 10
      · rw [Lib.nDigits_small h']; omega
      · rw [Lib.nDigits_big h']
        by_cases hk0 : k = 0
        · subst hk0; simp at h; omega
        · have := ih (n := n / 10) (by rw [Nat.pow_succ] at h; omega) (by omega)
          omega
theorem num_lt (l : List UInt8) (hd : dgts l = true) : num l < 10 ^ l.length := by
  suffices h : ∀ (k : Nat) (l : List UInt8), l.length = k → dgts l = true → num l < 10 ^ l.length from h _ l rfl hd
  intro k
  induction k with
  | zero => intro l h _; have : l = [] := List.length_eq_zero_iff.1 h; subst this; simp [num]
  | succ k ih =>
    intro l hk hd
    obtain ⟨m, c, rfl⟩ := list_snoc l (by intro e; subst e; simp at hk)
    rw [dgts_snoc] at hd
    simp only [Bool.and_eq_true, dgt, decide_eq_true_eq] at hd
    simp at hk
    have := ih m hk hd.1
    rw [num_snoc, List.length_append, List.length_singleton, Nat.pow_succ]
    omega
/-- Two valid numerals of the same number are the same. -/
theorem num_inj {l m : List UInt8} (hl : validL l = true) (hm : validL m = true) (h : num l = num m) : l = m := by
  rw [← dec_num hl, h, dec_num hm]
end Go.Proofs.YtlmfppjphblemaaGreatDoor
