/- Plain facts on numbers in blocks of nine digits, the lowest one first. No program in sight. -/
import Derived.Test.YtlcbdaconghcmaaGreatDoorCom
namespace Go.Proofs.YtlcbdaconghcmaaGreatDoor
open Go
set_option maxRecDepth 100000

theorem BB_is : ∃ b : Nat, b = 1000000000 := ⟨_, rfl⟩
/-- The base of the blocks, 10^9, closed to evaluation. -/
noncomputable def BB : Nat := Classical.choose BB_is
theorem BB_val : BB = 1000000000 := Classical.choose_spec BB_is
theorem BB_pos : 0 < BB := by rw [BB_val]; omega
theorem BB_one : 1 < BB := by rw [BB_val]; omega
noncomputable def bval : List Nat → Nat | [] => 0 | x :: xs => x + BB * bval xs
/-- All blocks are below the base. -/
def Small (xs : List Nat) : Prop := ∀ i, nth xs i < BB
theorem small_nil : Small [] := fun i => by rw [nth_out _ _ (Nat.zero_le _)]; exact BB_pos
theorem nth_cons_zero (x : Nat) (xs : List Nat) : nth (x :: xs) 0 = x := rfl
theorem nth_cons_succ (x : Nat) (xs : List Nat) (i : Nat) : nth (x :: xs) (i + 1) = nth xs i := rfl
theorem nth_append_left (xs ys : List Nat) (i : Nat) (h : i < xs.length) : nth (xs ++ ys) i = nth xs i := by simp [nth, List.getD_eq_getElem?_getD, List.getElem?_append_left h]
theorem nth_append_right (xs ys : List Nat) (i : Nat) (h : xs.length ≤ i) : nth (xs ++ ys) i = nth ys (i - xs.length) := by simp [nth, List.getD_eq_getElem?_getD, List.getElem?_append_right h]
theorem nth_snoc (xs : List Nat) (x : Nat) : nth (xs ++ [x]) xs.length = x := by rw [nth_append_right _ _ _ (Nat.le_refl _), Nat.sub_self]; rfl
theorem small_cons {x : Nat} {xs : List Nat} : Small (x :: xs) ↔ x < BB ∧ Small xs :=
  ⟨fun h => ⟨h 0, fun i => h (i + 1)⟩, fun ⟨h1, h2⟩ i => by cases i with
    | zero => exact h1
    | succ i => exact h2 i⟩
theorem small_snoc {x : Nat} {xs : List Nat} (h : Small xs) (hx : x < BB) : Small (xs ++ [x]) := fun i => by
  by_cases h1 : i < xs.length
  · rw [nth_append_left _ _ _ h1]; exact h i
  · rw [nth_append_right _ _ _ (by omega)]
    cases i - xs.length with
    | zero => exact hx
    | succ j => exact BB_pos
theorem small_take {xs : List Nat} (h : Small xs) (k : Nat) : Small (xs.take k) := fun i => by
  by_cases h1 : i < k
  · rw [nth_take _ _ _ h1]; exact h i
  · rw [nth_out _ _ (by rw [List.length_take]; omega)]; exact BB_pos
theorem bval_append (xs ys : List Nat) : bval (xs ++ ys) = bval xs + BB ^ xs.length * bval ys := by
  induction xs with
  | nil => simp [bval]
  | cons x xs ih => simp only [List.cons_append, bval, ih, List.length_cons, Nat.pow_succ]; rw [Nat.mul_add, Nat.mul_comm (BB ^ xs.length) BB, Nat.mul_assoc]; omega
theorem bval_snoc (xs : List Nat) (x : Nat) : bval (xs ++ [x]) = bval xs + BB ^ xs.length * x := by rw [bval_append]; simp [bval]
theorem bval_take_succ (xs : List Nat) (k : Nat) : bval (xs.take (k + 1)) = bval (xs.take k) + BB ^ k * nth xs k := by
  by_cases h : k < xs.length
  · rw [take_snocN xs k h, bval_snoc, List.length_take, Nat.min_eq_left (by omega)]
  · rw [List.take_of_length_le (by omega), List.take_of_length_le (by omega), nth_out xs k (by omega)]; simp
theorem bval_lt {xs : List Nat} (h : Small xs) : bval xs < BB ^ xs.length := by
  induction xs with
  | nil => simp [bval]
  | cons x xs ih =>
    obtain ⟨h1, h2⟩ := small_cons.1 h
    have := ih h2
    simp only [bval, List.length_cons, Nat.pow_succ]
    have h3 : BB * (bval xs + 1) ≤ BB * BB ^ xs.length := Nat.mul_le_mul_left _ this
    rw [Nat.mul_comm (BB ^ xs.length)]; rw [Nat.mul_add] at h3; omega
theorem bval_zero {xs : List Nat} (h : ∀ i, nth xs i = 0) : bval xs = 0 := by
  induction xs with
  | nil => rfl
  | cons x xs ih => simp only [bval]; rw [ih (fun i => h (i + 1)), show x = 0 from h 0]; simp

/-! ### The blocks of a number -/
noncomputable def toBf : Nat → Nat → List Nat
  | 0, _ => []
  | f + 1, n => if n = 0 then [] else n % BB :: toBf f (n / BB)
noncomputable def toB (n : Nat) : List Nat := toBf n n
theorem toBf_eq : ∀ (f g n : Nat), n ≤ f → n ≤ g → toBf f n = toBf g n := by
  intro f
  induction f with
  | zero => intro g n h _; have : n = 0 := by omega
            subst this; cases g <;> simp [toBf]
  | succ f ih =>
    intro g n h1 h2
    by_cases hn : n = 0
    · subst hn; cases g <;> simp [toBf]
    · cases g with
      | zero => omega
      | succ g =>
        simp only [toBf, if_neg hn]
        have : n / BB < n := Nat.div_lt_self (by omega) BB_one
        rw [ih g (n / BB) (by omega) (by omega)]
theorem toB_zero : toB 0 = [] := rfl
theorem toB_pos {n : Nat} (h : n ≠ 0) : toB n = n % BB :: toB (n / BB) := by
  unfold toB
  cases n with
  | zero => exact absurd rfl h
  | succ n =>
    have : (n + 1) / BB < n + 1 := Nat.div_lt_self (by omega) BB_one
    simp only [toBf, if_neg h]
    rw [toBf_eq n ((n + 1) / BB) ((n + 1) / BB) (by omega) (by omega)]
theorem bval_toB (n : Nat) : bval (toB n) = n := by
  induction n using Nat.strongRecOn with
  | ind n ih =>
    by_cases h : n = 0
    · subst h; rfl
    · rw [toB_pos h]; simp only [bval]; rw [ih (n / BB) (Nat.div_lt_self (by omega) BB_one)]; exact Nat.mod_add_div n BB
theorem small_toB (n : Nat) : Small (toB n) := by
  induction n using Nat.strongRecOn with
  | ind n ih =>
    by_cases h : n = 0
    · subst h; exact small_nil
    · rw [toB_pos h]; exact small_cons.2 ⟨Nat.mod_lt _ BB_pos, ih (n / BB) (Nat.div_lt_self (by omega) BB_one)⟩
/-- Small blocks without a zero at the end are the blocks of their number. -/
theorem toB_bval : ∀ {xs : List Nat}, Small xs → (xs = [] ∨ nth xs (xs.length - 1) ≠ 0) → toB (bval xs) = xs := by
  intro xs
  induction xs with
  | nil => intro _ _; rfl
  | cons x xs ih =>
    intro h1 h2
    obtain ⟨hx, hs⟩ := small_cons.1 h1
    have hl : nth (x :: xs) xs.length ≠ 0 := by
      rcases h2 with h | h
      · simp at h
      · simpa using h
    have hi : xs = [] ∨ nth xs (xs.length - 1) ≠ 0 := by
      cases xs with
      | nil => exact .inl rfl
      | cons y ys => exact .inr (by simpa [nth_cons_succ] using hl)
    have ih' := ih hs hi
    have hne : bval (x :: xs) ≠ 0 := by
      cases xs with
      | nil => simp only [bval]; have : x ≠ 0 := hl
               omega
      | cons y ys =>
        intro e; simp only [bval] at e
        have h0 : bval (y :: ys) = 0 := by
          simp only [bval]
          have := BB_pos
          rcases Nat.eq_zero_or_pos (y + BB * bval ys) with h | h
          · exact h
          · have : 0 < BB * (y + BB * bval ys) := Nat.mul_pos BB_pos h
            omega
        rw [h0] at ih'; simp [toB_zero] at ih'
    rw [toB_pos hne]
    have e1 : bval (x :: xs) % BB = x := by simp only [bval]; rw [Nat.add_mul_mod_self_left, Nat.mod_eq_of_lt hx]
    have e2 : bval (x :: xs) / BB = bval xs := by simp only [bval]; rw [Nat.add_mul_div_left _ _ BB_pos, Nat.div_eq_of_lt hx, Nat.zero_add]
    rw [e1, e2, ih']
theorem toB_top {n : Nat} (h : n ≠ 0) : nth (toB n) ((toB n).length - 1) ≠ 0 := by
  induction n using Nat.strongRecOn with
  | ind n ih =>
    rw [toB_pos h]
    by_cases h0 : n / BB = 0
    · rw [h0, toB_zero]
      show n % BB ≠ 0
      have := Nat.mod_add_div n BB; rw [h0] at this; omega
    · have := ih (n / BB) (Nat.div_lt_self (by omega) BB_one) h0
      have hl : 1 ≤ (toB (n / BB)).length := by rw [toB_pos h0]; simp
      rw [List.length_cons, show (toB (n / BB)).length + 1 - 1 = ((toB (n / BB)).length - 1) + 1 by omega, nth_cons_succ]
      exact this
theorem toB_ne {n : Nat} (h : n ≠ 0) : 1 ≤ (toB n).length := by rw [toB_pos h]; simp
theorem toB_len_le {n k : Nat} (h : n < BB ^ k) : (toB n).length ≤ k := by
  induction k generalizing n with
  | zero => have : n = 0 := by simp at h; exact h
            subst this; simp [toB_zero]
  | succ k ih =>
    by_cases h0 : n = 0
    · subst h0; simp [toB_zero]
    · rw [toB_pos h0]
      have : n / BB < BB ^ k := Nat.div_lt_of_lt_mul (by rw [Nat.pow_succ, Nat.mul_comm] at h; exact h)
      have := ih this
      simp; omega
theorem toB_len_ge {n : Nat} (h : n ≠ 0) : BB ^ ((toB n).length - 1) ≤ n := by
  have h1 := bval_toB n
  have h2 := toB_top h
  have h3 := toB_ne h
  have h4 := bval_take_succ (toB n) ((toB n).length - 1)
  rw [show (toB n).length - 1 + 1 = (toB n).length by omega, List.take_length, h1] at h4
  have : BB ^ ((toB n).length - 1) * 1 ≤ BB ^ ((toB n).length - 1) * nth (toB n) ((toB n).length - 1) := Nat.mul_le_mul_left _ (by omega)
  omega
theorem toB_len_mono {m n : Nat} (h : m ≤ n) : (toB m).length ≤ (toB n).length :=
  toB_len_le (Nat.lt_of_le_of_lt h (by have := bval_lt (small_toB n); rw [bval_toB] at this; exact this))

/-- What trim leaves of small blocks. -/
theorem trimmed_bval {xs : List Nat} {k : Nat} (hz : ∀ j, k ≤ j → nth xs j = 0) : bval (xs.take k) = bval xs := by
  have h := bval_append (xs.take k) (xs.drop k)
  rw [List.take_append_drop] at h
  rw [h, bval_zero (xs := xs.drop k) (fun i => by
    have : nth (xs.drop k) i = nth xs (k + i) := by simp [nth, List.getD_eq_getElem?_getD]
    rw [this]; exact hz _ (by omega))]
  simp
theorem trimmed_toB {xs : List Nat} {k : Nat} (h : Small xs) (hk : k ≤ xs.length) (hz : ∀ j, k ≤ j → nth xs j = 0) (ht : k = 0 ∨ nth xs (k - 1) ≠ 0) : xs.take k = toB (bval xs) := by
  rw [← trimmed_bval hz]
  symm
  apply toB_bval (small_take h k)
  rcases ht with rfl | ht
  · left; simp
  · by_cases h0 : k = 0
    · subst h0; left; simp
    · right; rw [List.length_take, Nat.min_eq_left hk, nth_take _ _ _ (by omega)]; exact ht
end Go.Proofs.YtlcbdaconghcmaaGreatDoor
