/- Numbers as lists of decimal digits, the lowest one first. No walk. -/
import Derived.Test.YtndfbnffielfaaaDoorMulL
namespace Go.Proofs.YtndfbnffielfaaaDoor
open Go Go.RowKit

def dval : List Nat → Nat | [] => 0 | x :: xs => x + 10 * dval xs
def Dig (xs : List Nat) : Prop := ∀ i, nth xs i < 10
theorem dig_nil : Dig [] := fun i => by rw [nth_out _ _ (Nat.zero_le _)]; omega
theorem dig_snoc {x : Nat} {xs : List Nat} (h : Dig xs) (hx : x < 10) : Dig (xs ++ [x]) := fun i => by
  by_cases h1 : i < xs.length
  · rw [nth_append_left _ _ _ h1]; exact h i
  · rw [nth_append_right _ _ _ (by omega)]
    cases i - xs.length with
    | zero => exact hx
    | succ j => show 0 < 10; omega
theorem dig_take {xs : List Nat} (h : Dig xs) (k : Nat) : Dig (xs.take k) := fun i => by
  by_cases h1 : i < k
  · rw [nth_take _ _ _ h1]; exact h i
  · rw [nth_out _ _ (by rw [List.length_take]; omega)]; omega
theorem dval_append (xs ys : List Nat) : dval (xs ++ ys) = dval xs + 10 ^ xs.length * dval ys := by
  induction xs with
  | nil => simp [dval]
  | cons x xs ih => simp only [List.cons_append, dval, ih, List.length_cons, Nat.pow_succ]; rw [Nat.mul_add, Nat.mul_comm (10 ^ xs.length) 10, Nat.mul_assoc]; omega
theorem dval_snoc (xs : List Nat) (x : Nat) : dval (xs ++ [x]) = dval xs + 10 ^ xs.length * x := by rw [dval_append]; simp [dval]
theorem dval_take_succ (xs : List Nat) (k : Nat) : dval (xs.take (k + 1)) = dval (xs.take k) + 10 ^ k * nth xs k := by
  by_cases h : k < xs.length
  · rw [take_snocN xs k h, dval_snoc, List.length_take, Nat.min_eq_left (by omega)]
  · rw [List.take_of_length_le (by omega), List.take_of_length_le (by omega), nth_out xs k (by omega)]; simp
theorem dval_zero {xs : List Nat} (h : ∀ i, nth xs i = 0) : dval xs = 0 := by
  induction xs with
  | nil => rfl
  | cons x xs ih => simp only [dval]; rw [ih (fun i => h (i + 1)), show x = 0 from h 0]
theorem dval_lt {xs : List Nat} (h : Dig xs) : dval xs < 10 ^ xs.length := by
  induction xs with
  | nil => simp [dval]
  | cons x xs ih =>
    have h1 := h 0
    rw [nth_cons_zero] at h1
    have := ih (fun i => h (i + 1))
    simp only [dval, List.length_cons, Nat.pow_succ]; omega
theorem dval_take_zeros {xs : List Nat} {k : Nat} (hz : ∀ j, k ≤ j → nth xs j = 0) : dval (xs.take k) = dval xs := by
  have h := dval_append (xs.take k) (xs.drop k)
  rw [List.take_append_drop] at h
  rw [h, dval_zero (xs := xs.drop k) (fun i => by rw [nth_drop]; exact hz _ (by omega))]
  simp

/-- The bytes of digits, the lowest digit first. -/
def byteOf (d : Nat) : UInt8 := UInt8.ofNat (48 + d)
theorem byteOf_toNat {d : Nat} (h : d < 10) : (byteOf d).toNat = 48 + d := u8n (by omega)
def bytesOf (xs : List Nat) : List UInt8 := xs.reverse.map byteOf
theorem bytesOf_snoc (xs : List Nat) (x : Nat) : bytesOf (xs ++ [x]) = byteOf x :: bytesOf xs := by simp [bytesOf]
theorem bytesOf_len (xs : List Nat) : (bytesOf xs).length = xs.length := by simp [bytesOf]
theorem bytesOf_cons (x : Nat) (xs : List Nat) : bytesOf (x :: xs) = bytesOf xs ++ [byteOf x] := by simp [bytesOf]
theorem num_bytesOf {xs : List Nat} (h : Dig xs) : num (bytesOf xs) = dval xs ∧ dgts (bytesOf xs) = true := by
  induction xs with
  | nil => exact ⟨rfl, rfl⟩
  | cons x xs ih =>
    obtain ⟨i1, i2⟩ := ih (fun i => h (i + 1))
    have hx : x < 10 := h 0
    rw [bytesOf_cons, num_snoc, dgts_snoc, i1, i2, byteOf_toNat hx]
    refine ⟨by simp only [dval]; omega, ?_⟩
    simp only [dgt, byteOf_toNat hx]; simp; omega
/-- The numeral of what is left when the zeros at the top are gone. -/
theorem dec_bytesOf {xs : List Nat} (h : Dig xs) {k : Nat} (hk1 : 1 ≤ k) (hk : k ≤ xs.length) (hz : ∀ j, k ≤ j → nth xs j = 0) (ht : k = 1 ∨ nth xs (k - 1) ≠ 0) :
    dec (dval xs) = bytesOf (xs.take k) := by
  rw [← dval_take_zeros hz, ← (num_bytesOf (dig_take h k)).1]
  have hl : (bytesOf (xs.take k)).length = k := by rw [bytesOf_len, List.length_take]; omega
  have hd := (num_bytesOf (dig_take h k)).2
  rcases ht with rfl | ht
  · obtain ⟨x, hx⟩ : ∃ x, xs.take 1 = [x] := by
      cases xs with
      | nil => simp at hk
      | cons x xs => exact ⟨x, rfl⟩
    have hx10 : x < 10 := by have := dig_take h 1 0; rw [hx] at this; exact this
    rw [hx]
    show dec (num [byteOf x]) = [byteOf x]
    have : num [byteOf x] = x := by simp only [num, List.foldl]; rw [byteOf_toNat hx10]; omega
    rw [this, dec_small hx10]; rfl
  · refine (dec_num_pos k _ hl (by omega) ?_ hd).2
    have e : xs.take k = xs.take (k - 1) ++ [nth xs (k - 1)] := by
      have := take_snocN xs (k - 1) (by omega)
      rwa [show k - 1 + 1 = k by omega] at this
    rw [e, bytesOf_snoc, List.headD_cons]
    intro hc
    have := congrArg UInt8.toNat hc
    rw [byteOf_toNat (h (k - 1))] at this
    simp at this
    exact ht this

/-- The digits of a text, the lowest one first. -/
def digL (l : List UInt8) : List Nat := l.reverse.map fun c => c.toNat - 48
theorem digL_len (l : List UInt8) : (digL l).length = l.length := by simp [digL]
theorem digL_cons (c : UInt8) (l : List UInt8) : digL (c :: l) = digL l ++ [c.toNat - 48] := by simp [digL]
theorem digL_ok {l : List UInt8} (h : dgts l = true) : Dig (digL l) ∧ dval (digL l) = num l := by
  suffices h' : ∀ (k : Nat) (l : List UInt8), l.length = k → dgts l = true → Dig (digL l) ∧ dval (digL l) = num l from h' _ l rfl h
  intro k
  induction k with
  | zero => intro l h1 _; have : l = [] := List.length_eq_zero_iff.1 h1
            subst this; exact ⟨dig_nil, rfl⟩
  | succ k ih =>
    intro l h1 h2
    obtain ⟨m, c, rfl⟩ := list_snoc l (by intro e; subst e; simp at h1)
    rw [dgts_snoc] at h2
    simp only [Bool.and_eq_true, dgt, decide_eq_true_eq] at h2
    simp at h1
    obtain ⟨i1, i2⟩ := ih m h1 h2.1
    have e : digL (m ++ [c]) = (c.toNat - 48) :: digL m := by simp [digL]
    rw [e, num_snoc]
    refine ⟨fun i => ?_, by simp only [dval]; omega⟩
    cases i with
    | zero => show c.toNat - 48 < 10; omega
    | succ i => exact i1 i
/-- Digit i of the text s, from its end. -/
theorem digL_nth (s : ByteArray) (i : Nat) (h : i < s.size) : nth (digL (bts s)) i = s[s.size - 1 - i].toNat - 48 := by
  rw [nth_get _ _ (by rw [digL_len, bts_len]; exact h)]
  unfold digL
  rw [List.getElem_map, List.getElem_reverse]
  congr 2
end Go.Proofs.YtndfbnffielfaaaDoor
