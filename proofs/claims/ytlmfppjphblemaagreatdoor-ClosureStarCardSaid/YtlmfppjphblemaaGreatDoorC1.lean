/- Matrices over a commutative star semiring: elimination gives the least solution of X = I + M X. Plain algebra; no program in sight. The weights of a kind are a commutative star semiring whose star is least. No program in sight. -/
import Derived.Test.YtlmfppjphblemaaGreatDoorML
namespace Go.Proofs.YtlmfppjphblemaaGreatDoor
set_option maxRecDepth 100000

/-- A commutative semiring with a star; the natural order is a partial order in which star a * b is the least x with x ≥ a x + b. -/
class CSR (R : Type) where
  add : R → R → R
  mul : R → R → R
  zero : R
  one : R
  star : R → R
  add_comm : ∀ a b, add a b = add b a
  add_assoc : ∀ a b c, add (add a b) c = add a (add b c)
  add_zero : ∀ a, add a zero = a
  mul_comm : ∀ a b, mul a b = mul b a
  mul_assoc : ∀ a b c, mul (mul a b) c = mul a (mul b c)
  mul_one : ∀ a, mul a one = a
  mul_zero : ∀ a, mul a zero = zero
  mul_add : ∀ a b c, mul a (add b c) = add (mul a b) (mul a c)
  star_eq : ∀ a, star a = add one (mul a (star a))
  park : ∀ a b x c, x = add (add (mul a x) b) c → ∃ d, x = add (mul (star a) b) d
  anti : ∀ a b c d, b = add a c → a = add b d → a = b

namespace CSR
section
variable {R : Type} [CSR R]
instance instAdd : Add R := ⟨add⟩
instance instMul : Mul R := ⟨mul⟩
theorem aC (a b : R) : a + b = b + a := add_comm a b
theorem aA (a b c : R) : a + b + c = a + (b + c) := add_assoc a b c
theorem aL (a b c : R) : a + (b + c) = b + (a + c) := by rw [← aA, aC a b, aA]
theorem a0 (a : R) : a + zero = a := add_zero a
theorem z0 (a : R) : zero + a = a := by rw [aC, a0]
theorem mC (a b : R) : a * b = b * a := mul_comm a b
theorem mA (a b c : R) : a * b * c = a * (b * c) := mul_assoc a b c
theorem m1 (a : R) : a * one = a := mul_one a
theorem o1 (a : R) : one * a = a := by rw [mC, m1]
theorem m0 (a : R) : a * zero = zero := mul_zero a
theorem zm (a : R) : zero * a = zero := by rw [mC, m0]
theorem mD (a b c : R) : a * (b + c) = a * b + a * c := mul_add a b c
theorem dM (a b c : R) : (a + b) * c = a * c + b * c := by rw [mC, mD, mC c a, mC c b]
theorem sE (a : R) : star a = one + a * star a := star_eq a
theorem sE' (a : R) : star a = one + star a * a := by rw [mC]; exact sE a

/-! ### The natural order -/
def le (a b : R) : Prop := ∃ c, b = a + c
theorem le_refl (a : R) : le a a := ⟨zero, (a0 a).symm⟩
theorem le_add (a b : R) : le a (a + b) := ⟨b, rfl⟩
theorem le_add' (a b : R) : le b (a + b) := ⟨a, aC a b⟩
theorem le_trans {a b c : R} (h : le a b) (k : le b c) : le a c := by
  obtain ⟨x, rfl⟩ := h; obtain ⟨y, rfl⟩ := k; exact ⟨x + y, aA ..⟩
theorem le_plus {a b c d : R} (h : le a b) (k : le c d) : le (a + c) (b + d) := by
  obtain ⟨x, rfl⟩ := h; obtain ⟨y, rfl⟩ := k; exact ⟨x + y, by rw [aA, aA, aL x c y]⟩
theorem le_times {a b : R} (c : R) (h : le a b) : le (c * a) (c * b) := by
  obtain ⟨x, rfl⟩ := h; exact ⟨c * x, mD ..⟩
theorem le_anti {a b : R} (h : le a b) (k : le b a) : a = b := by
  obtain ⟨x, hx⟩ := h; obtain ⟨y, hy⟩ := k; exact anti a b x y hx hy
theorem le_park {a b x : R} (h : le (a * x + b) x) : le (star a * b) x := by
  obtain ⟨c, hc⟩ := h; exact park a b x c hc

/-! ### Sums -/
def sum (f : Nat → R) : Nat → R
  | 0 => zero
  | n + 1 => sum f n + f n
theorem sum_congr {f g : Nat → R} {n : Nat} (h : ∀ i, i < n → f i = g i) : sum f n = sum g n := by
  induction n with
  | zero => rfl
  | succ n ih => simp only [sum]; rw [ih (fun i hi => h i (by omega)), h n (by omega)]
theorem sum_zero (n : Nat) : sum (fun _ => (zero : R)) n = zero := by
  induction n with
  | zero => rfl
  | succ n ih => simp only [sum]; rw [ih, a0]
theorem sum_add (f g : Nat → R) (n : Nat) : sum (fun i => f i + g i) n = sum f n + sum g n := by
  induction n with
  | zero => exact (a0 _).symm
  | succ n ih => simp only [sum]; rw [ih, aA, aA, aL (sum g n)]
theorem mul_sum (a : R) (f : Nat → R) (n : Nat) : a * sum f n = sum (fun i => a * f i) n := by
  induction n with
  | zero => exact m0 a
  | succ n ih => simp only [sum]; rw [mD, ih]
theorem sum_mul (a : R) (f : Nat → R) (n : Nat) : sum f n * a = sum (fun i => f i * a) n := by
  rw [mC, mul_sum]; exact sum_congr fun i _ => mC _ _
/-- One term by itself. -/
theorem sum_pick (f : Nat → R) {n p : Nat} (hp : p < n) : sum f n = f p + sum (fun i => if i = p then zero else f i) n := by
  induction n with
  | zero => omega
  | succ n ih =>
    simp only [sum]
    by_cases e : p = n
    · subst e
      rw [if_pos rfl, a0, sum_congr (g := fun i => if i = p then zero else f i) (fun i hi => by rw [if_neg (by omega)]), aC]
    · rw [if_neg (by omega), ih (by omega), aA]
theorem sum_single (f : Nat → R) {n p : Nat} (hp : p < n) (h : ∀ i, i < n → i ≠ p → f i = zero) : sum f n = f p := by
  rw [sum_pick f hp, sum_congr (g := fun _ => zero) (fun i hi => by split; rfl; exact h i hi (by assumption)), sum_zero, a0]
theorem le_sum (f : Nat → R) {n p : Nat} (hp : p < n) : le (f p) (sum f n) := by rw [sum_pick f hp]; exact le_add ..
theorem sum_le {f g : Nat → R} {n : Nat} (h : ∀ i, i < n → le (f i) (g i)) : le (sum f n) (sum g n) := by
  induction n with
  | zero => exact le_refl _
  | succ n ih => exact le_plus (ih fun i hi => h i (by omega)) (h n (by omega))
/-- Two indices exchanged. -/
def swp (p q i : Nat) : Nat := if i = p then q else if i = q then p else i
theorem swp_swp (p q i : Nat) : swp p q (swp p q i) = i := by unfold swp; (repeat' split) <;> omega
theorem swp_lt {p q i n : Nat} (hp : p < n) (hq : q < n) (hi : i < n) : swp p q i < n := by unfold swp; (repeat' split) <;> omega
theorem swp_inj {p q i j : Nat} (h : swp p q i = swp p q j) : i = j := by rw [← swp_swp p q i, h, swp_swp]
theorem sum_swp (f : Nat → R) {n p q : Nat} (hp : p < n) (hq : q < n) : sum (fun i => f (swp p q i)) n = sum f n := by
  by_cases e : p = q
  · subst e; exact sum_congr fun i _ => by unfold swp; (repeat' split) <;> simp_all
  · rw [sum_pick (fun i => f (swp p q i)) hp, sum_pick (fun i => if i = p then zero else f (swp p q i)) hq, sum_pick f hp, sum_pick (fun i => if i = p then zero else f i) hq]
    rw [if_neg (fun h => e h.symm), if_neg (fun h => e h.symm), aL]
    have e1 : swp p q p = q := by simp [swp]
    have e2 : swp p q q = p := by simp [swp]
    rw [e1, e2]
    congr 2
    exact sum_congr fun i _ => by
      by_cases h1 : i = q
      · rw [if_pos h1, if_pos h1]
      · rw [if_neg h1, if_neg h1]
        by_cases h2 : i = p
        · rw [if_pos h2, if_pos h2]
        · rw [if_neg h2, if_neg h2]
          have : swp p q i = i := by unfold swp; rw [if_neg h2, if_neg h1]
          rw [this]

/-! ### Elimination -/
/-- The ways over p added. -/
def elim (p : Nat) (M : Nat → Nat → R) : Nat → Nat → R := fun i j => M i j + M i p * star (M p p) * M p j
def elims (M : Nat → Nat → R) : Nat → Nat → Nat → R
  | 0 => M
  | p + 1 => elim p (elims M p)
def eye (i j : Nat) : R := if i = j then one else zero
/-- The sum of all powers. -/
def starM (M : Nat → Nat → R) (n : Nat) : Nat → Nat → R := fun i j => elims M n i j + eye i j

/-- First step, then the rest. -/
theorem elims_first (M : Nat → Nat → R) (p i j : Nat) : elims M p i j = M i j + sum (fun k => M i k * elims M p k j) p := by
  induction p generalizing j with
  | zero => exact (a0 _).symm
  | succ p ih =>
    have hN := ih
    generalize hNN : elims M p = N at hN
    have hE : elims M (p + 1) = elim p N := by rw [← hNN]; rfl
    rw [hE]
    simp only [sum]
    have h1 : sum (fun k => M i k * elim p N k j) p = sum (fun k => M i k * N k j) p + sum (fun k => M i k * N k p) p * (star (N p p) * N p j) := by
      rw [sum_mul, ← sum_add]
      refine sum_congr fun k _ => ?_
      show M i k * (N k j + N k p * star (N p p) * N p j) = _
      rw [mD, mA, mA]
    have h2 : M i p * elim p N p j = M i p * (star (N p p) * N p j) := by
      show M i p * (N p j + N p p * star (N p p) * N p j) = _
      congr 1
      conv => rhs; rw [sE (N p p)]
      rw [dM, o1]
    rw [h1, h2]
    show N i j + N i p * star (N p p) * N p j = _
    rw [aA, ← dM, ← aA, aC (sum _ _) (M i p), ← hN j, ← hN p, mA]
/-- The rest, then the last step. -/
theorem elims_last (M : Nat → Nat → R) (p i j : Nat) : elims M p i j = M i j + sum (fun k => elims M p i k * M k j) p := by
  induction p generalizing i with
  | zero => exact (a0 _).symm
  | succ p ih =>
    have hN := ih
    generalize hNN : elims M p = N at hN
    have hE : elims M (p + 1) = elim p N := by rw [← hNN]; rfl
    rw [hE]
    simp only [sum]
    have h1 : sum (fun k => elim p N i k * M k j) p = sum (fun k => N i k * M k j) p + (N i p * star (N p p)) * sum (fun k => N p k * M k j) p := by
      rw [mul_sum, ← sum_add]
      refine sum_congr fun k _ => ?_
      show (N i k + N i p * star (N p p) * N p k) * M k j = _
      rw [dM, mA (N i p * star (N p p))]
    have h2 : elim p N i p * M p j = (N i p * star (N p p)) * M p j := by
      show (N i p + N i p * star (N p p) * N p p) * M p j = _
      congr 1
      conv => rhs; rw [sE' (N p p)]
      rw [mD, m1, mA]
    rw [h1, h2]
    show N i j + N i p * star (N p p) * N p j = _
    rw [aA, ← mD, ← aA, aC (sum _ _) (M p j), ← hN i, ← hN p]

/-- S = I + M S. -/
theorem starM_left (M : Nat → Nat → R) {n i j : Nat} (hj : j < n) : starM M n i j = eye i j + sum (fun k => M i k * starM M n k j) n := by
  have h : sum (fun k => M i k * starM M n k j) n = sum (fun k => M i k * elims M n k j) n + M i j := by
    show sum (fun k => M i k * (elims M n k j + eye k j)) n = _
    rw [sum_congr (g := fun k => M i k * elims M n k j + M i k * eye k j) (fun k _ => mD ..), sum_add]
    congr 1
    rw [sum_single _ hj (fun k _ hk => by show M i k * eye k j = _; rw [eye, if_neg hk, m0])]
    show M i j * eye j j = _
    rw [eye, if_pos rfl, m1]
  rw [h, aC (sum _ _), ← elims_first, aC]; rfl
/-- S = I + S M. -/
theorem starM_right (M : Nat → Nat → R) {n i j : Nat} (hi : i < n) : starM M n i j = eye i j + sum (fun k => starM M n i k * M k j) n := by
  have h : sum (fun k => starM M n i k * M k j) n = sum (fun k => elims M n i k * M k j) n + M i j := by
    show sum (fun k => (elims M n i k + eye i k) * M k j) n = _
    rw [sum_congr (g := fun k => elims M n i k * M k j + eye i k * M k j) (fun k _ => dM ..), sum_add]
    congr 1
    rw [sum_single _ hi (fun k _ hk => by show eye i k * M k j = _; rw [eye, if_neg (fun e => hk e.symm), zm])]
    show eye i i * M i j = _
    rw [eye, if_pos rfl, o1]
  rw [h, aC (sum _ _), ← elims_last, aC]; rfl

/-- Only what lies inside counts. -/
theorem elims_congr {M M' : Nat → Nat → R} {n : Nat} (h : ∀ i j, i < n → j < n → M i j = M' i j) {p : Nat} (hp : p ≤ n) : ∀ i j, i < n → j < n → elims M p i j = elims M' p i j := by
  induction p with
  | zero => exact h
  | succ p ih =>
    intro i j hi hj
    show elim p _ i j = elim p _ i j
    unfold elim
    rw [ih (by omega) i j hi hj, ih (by omega) i p hi (by omega), ih (by omega) p p (by omega) (by omega), ih (by omega) p j (by omega) hj]
theorem starM_congr {M M' : Nat → Nat → R} {n : Nat} (h : ∀ i j, i < n → j < n → M i j = M' i j) : ∀ i j, i < n → j < n → starM M n i j = starM M' n i j := by
  intro i j hi hj
  unfold starM
  rw [elims_congr h (Nat.le_refl n) i j hi hj]

/-- From p on. -/
def sumFrom (f : Nat → R) (p n : Nat) : R := sum (fun k => if k < p then zero else f k) n
theorem sumFrom_zero (f : Nat → R) (n : Nat) : sumFrom f 0 n = sum f n := sum_congr fun k _ => by rw [if_neg (by omega)]
theorem sumFrom_end (f : Nat → R) (n : Nat) : sumFrom f n n = zero := by
  rw [sumFrom, sum_congr (g := fun _ => zero) (fun k hk => by rw [if_pos hk]), sum_zero]
theorem sumFrom_step (f : Nat → R) {p n : Nat} (hp : p < n) : sumFrom f p n = f p + sumFrom f (p + 1) n := by
  unfold sumFrom
  rw [sum_pick _ hp, if_neg (by omega)]
  congr 1
  exact sum_congr fun k _ => by
    by_cases h1 : k = p
    · rw [if_pos h1, if_pos (by omega)]
    · rw [if_neg h1]
      by_cases h2 : k < p
      · rw [if_pos h2, if_pos (by omega)]
      · rw [if_neg h2, if_neg (by omega)]
theorem sumFrom_add (f g : Nat → R) (p n : Nat) : sumFrom (fun i => f i + g i) p n = sumFrom f p n + sumFrom g p n := by
  unfold sumFrom; rw [← sum_add]
  exact sum_congr fun k _ => by split; exact (a0 _).symm; rfl
theorem mul_sumFrom (a : R) (f : Nat → R) (p n : Nat) : a * sumFrom f p n = sumFrom (fun i => a * f i) p n := by
  unfold sumFrom; rw [mul_sum]
  exact sum_congr fun k _ => by split; exact m0 a; rfl

/-- LEAST: what holds X ≥ M X + b (b: the column n) lies above the elimination's column n. -/
theorem elims_least (M : Nat → Nat → R) (n : Nat) (X : Nat → R) (h : ∀ i, i < n → le (sum (fun k => M i k * X k) n + M i n) (X i)) :
    ∀ p, p ≤ n → ∀ i, i < n → le (sumFrom (fun k => elims M p i k * X k) p n + elims M p i n) (X i) := by
  intro p
  induction p with
  | zero => intro _ i hi; rw [sumFrom_zero]; exact h i hi
  | succ p ih =>
    intro hp i hi
    have hN := ih (by omega)
    have hE : elims M (p + 1) = elim p (elims M p) := rfl
    rw [hE]
    generalize elims M p = N at hN
    have hpp := hN p (by omega)
    rw [sumFrom_step _ (show p < n by omega), aA] at hpp
    have hs := le_park hpp
    have hii := hN i hi
    rw [sumFrom_step _ (show p < n by omega), aA] at hii
    refine le_trans ?_ hii
    refine le_trans ?_ (le_plus (le_times (N i p) hs) (le_refl _))
    have e : sumFrom (fun k => elim p N i k * X k) (p + 1) n + elim p N i n
        = N i p * (star (N p p) * (sumFrom (fun k => N p k * X k) (p + 1) n + N p n)) + (sumFrom (fun k => N i k * X k) (p + 1) n + N i n) := by
      have e1 : sumFrom (fun k => elim p N i k * X k) (p + 1) n = sumFrom (fun k => N i k * X k) (p + 1) n + N i p * star (N p p) * sumFrom (fun k => N p k * X k) (p + 1) n := by
        rw [mul_sumFrom, ← sumFrom_add]
        congr 1; funext k
        show (N i k + N i p * star (N p p) * N p k) * X k = _
        rw [dM, mA (N i p * star (N p p))]
      rw [e1]
      show _ + (N i n + N i p * star (N p p) * N p n) = _
      rw [← mA, mD (N i p * star (N p p)), aA, aL (N i p * star (N p p) * sumFrom _ _ _), ← aA, aC]
    rw [e]; exact le_refl _
/-- S is below every solution of X ≥ I + M X. -/
theorem starM_least (M : Nat → Nat → R) {n j : Nat} (hj : j < n) (X : Nat → R) (h : ∀ i, i < n → le (sum (fun k => M i k * X k) n + eye i j) (X i)) :
    ∀ i, i < n → le (starM M n i j) (X i) := by
  intro i hi
  let M' : Nat → Nat → R := fun i k => if k = n then eye i j else M i k
  have hM : ∀ i k, k < n → M' i k = M i k := fun i k hk => if_neg (by omega)
  have hMn : ∀ i, M' i n = eye i j := fun i => if_pos rfl
  have h' : ∀ i, i < n → le (sum (fun k => M' i k * X k) n + M' i n) (X i) := fun i hi => by
    rw [hMn, sum_congr (g := fun k => M i k * X k) (fun k hk => by rw [hM i k hk])]; exact h i hi
  have hl := elims_least M' n X h' n (Nat.le_refl _) i hi
  rw [sumFrom_end, z0, elims_last, hMn] at hl
  refine le_trans ?_ hl
  have e : sum (fun k => elims M' n i k * M' k n) n = elims M n i j := by
    rw [sum_single _ hj (fun k _ hk => by show elims M' n i k * M' k n = _; rw [hMn, eye, if_neg hk, m0])]
    show elims M' n i j * M' j n = _
    rw [hMn, eye, if_pos rfl, m1]
    exact elims_congr (n := n) (fun i k _ hk => hM i k hk) (Nat.le_refl n) i j hi hj
  rw [e, aC]; exact le_refl _

/-! ### The laws -/
/-- Rows and columns exchanged. -/
theorem starM_swp (M : Nat → Nat → R) {n p q : Nat} (hp : p < n) (hq : q < n) {i j : Nat} (hi : i < n) (hj : j < n) :
    starM (fun i j => M (swp p q i) (swp p q j)) n i j = starM M n (swp p q i) (swp p q j) := by
  have half : ∀ (M : Nat → Nat → R) (i j : Nat), i < n → j < n → le (starM (fun i j => M (swp p q i) (swp p q j)) n i j) (starM M n (swp p q i) (swp p q j)) := by
    intro M i j hi hj
    refine starM_least (fun i j => M (swp p q i) (swp p q j)) hj (fun i => starM M n (swp p q i) (swp p q j)) (fun i hi => ?_) i hi
    show le _ (starM M n (swp p q i) (swp p q j))
    rw [starM_left M (swp_lt hp hq hj), aC]
    have e1 : (eye (swp p q i) (swp p q j) : R) = eye i j := by
      unfold eye
      by_cases e : i = j
      · subst e; rw [if_pos rfl, if_pos rfl]
      · rw [if_neg e, if_neg (fun h => e (swp_inj h))]
    rw [e1, ← sum_swp (fun k => M (swp p q i) k * starM M n k (swp p q j)) hp hq]
    exact le_refl _
  refine le_anti (half M i j hi hj) ?_
  have h2 := half (fun i j => M (swp p q i) (swp p q j)) (swp p q i) (swp p q j) (swp_lt hp hq hi) (swp_lt hp hq hj)
  simp only [swp_swp] at h2
  exact h2

/-- No walk's product lies above the element for its ends. -/
theorem starM_one_le (M : Nat → Nat → R) {n i : Nat} (hi : i < n) : le one (starM M n i i) := by
  rw [starM_left M hi, eye, if_pos rfl]; exact le_add ..
theorem starM_step_le (M : Nat → Nat → R) {n i j k : Nat} {w : R} (hi : i < n) (hj : j < n) (hw : le w (starM M n i j)) : le (w * M j k) (starM M n i k) := by
  refine le_trans (b := starM M n i j * M j k) ?_ ?_
  · rw [mC w, mC (starM M n i j)]; exact le_times _ hw
  · rw [starM_right M hi (j := k)]
    exact le_trans (le_sum (fun k' => starM M n i k' * M k' k) hj) (le_add' ..)

/-- Powers of a matrix with zeros wherever the column is not greater than the row. -/
def prod (A B : Nat → Nat → R) (n : Nat) : Nat → Nat → R := fun i j => sum (fun k => A i k * B k j) n
def pows (U : Nat → Nat → R) (n : Nat) : Nat → Nat → Nat → R
  | 0 => eye
  | t + 1 => prod (pows U n t) U n
def tots (U : Nat → Nat → R) (n : Nat) : Nat → Nat → Nat → R
  | 0 => eye
  | t + 1 => fun i j => tots U n t i j + pows U n (t + 1) i j
theorem tots_step (U : Nat → Nat → R) (n t i j : Nat) : tots U n (t + 1) i j = eye i j + prod (tots U n t) U n i j := by
  induction t generalizing i j with
  | zero => rfl
  | succ t ih =>
    show tots U n (t + 1) i j + prod (pows U n (t + 1)) U n i j = _
    rw [ih]
    have : prod (tots U n (t + 1)) U n i j = prod (tots U n t) U n i j + prod (pows U n (t + 1)) U n i j := by
      unfold prod; rw [← sum_add]
      exact sum_congr fun k _ => dM ..
    rw [this, aA]
theorem starM_finite (U : Nat → Nat → R) {n : Nat} (hU : ∀ i j, j ≤ i → U i j = zero) {i j : Nat} (hi : i < n) (hj : j < n) : starM U n i j = tots U n (n - 1) i j := by
  have low : ∀ m, m ≤ i → starM U n i m = eye i m := by
    intro m
    induction m using Nat.strongRecOn with
    | ind m ih =>
      intro hm
      rw [starM_right U hi]
      rw [sum_congr (g := fun _ => zero) (fun k hk => ?_), sum_zero, a0]
      by_cases hkm : k < m
      · rw [ih k hkm (by omega), eye, if_neg (by omega), zm]
      · rw [hU k m (by omega), m0]
  have key : ∀ t m, m < n → m ≤ i + t → tots U n t i m = starM U n i m := by
    intro t
    induction t with
    | zero => intro m _ hm; exact (low m hm).symm
    | succ t ih =>
      intro m hmn hm
      rw [tots_step, starM_right U hi]
      congr 1
      refine sum_congr fun k hk => ?_
      by_cases hkm : k < m
      · rw [ih k hk (by omega)]
      · rw [hU k m (by omega), m0, m0]
  exact (key (n - 1) j hj (by omega)).symm
/-- Distributivity from both ends. -/
theorem total_ends (lead : R) (B F : Nat → R) (n : Nat) : lead * sum (fun k => B k * F k) n = sum (fun k => lead * B k * F k) n := by
  rw [mul_sum]; exact sum_congr fun k _ => (mA ..).symm
end
end CSR
end Go.Proofs.YtlmfppjphblemaaGreatDoor

namespace Go.Proofs.YtlmfppjphblemaaGreatDoor
open Go
set_option maxRecDepth 100000

def KK : Type := { k : Int // k = 1 ∨ k = 2 ∨ k = 3 }
def RK (k : KK) : Type := { v : V // okV k.1 v }

/-- The natural order: one value is the sum of the other and something. -/
theorem nle_of {k : Int} {u c : V} (hu : okV k u) (hc : okV k c) : if k = 1 then leV (plusV k u c) u else leV u (plusV k u c) := by
  rcases okV_kind hu with rfl | rfl | rfl
  · rw [if_pos rfl, plusV1]; unfold minV; split
    · exact leV_refl _
    · rcases leV_total u c with h | h
      · contradiction
      · exact h
  · rw [if_neg (by decide), plusV2]
    rcases okV23 hu (by decide) with rfl | ⟨x, rfl, hx⟩
    · exact trivial
    · rcases okV23 hc (by decide) with rfl | ⟨y, rfl, hy⟩
      · exact trivial
      · show x ≤ x + y
        have := Rat.add_le_add_left (c := x).2 hy
        rwa [Rat.add_zero] at this
  · rw [if_neg (by decide), plusV3]; unfold maxV; split
    · exact leV_refl _
    · rcases leV_total u c with h | h
      · exact h
      · contradiction
theorem nle_to {k : Int} {u v : V} (hu : okV k u) (hv : okV k v) (h : if k = 1 then leV v u else leV u v) : ∃ c, okV k c ∧ v = plusV k u c := by
  rcases okV_kind hu with rfl | rfl | rfl
  · rw [if_pos rfl] at h
    exact ⟨v, hv, by rw [plusV1, minV_ge h]⟩
  · rw [if_neg (by decide)] at h
    rcases okV23 hu (by decide) with rfl | ⟨x, rfl, hx⟩
    · refine ⟨.inf, okV_inf (.inr (.inl rfl)), ?_⟩
      rcases okV23 hv (by decide) with rfl | ⟨y, rfl, hy⟩
      · rfl
      · exact h.elim
    · rcases okV23 hv (by decide) with rfl | ⟨y, rfl, hy⟩
      · exact ⟨.inf, okV_inf (.inr (.inl rfl)), by rw [plusV2]; rfl⟩
      · refine ⟨.fin (y - x), .inr ⟨.inl rfl, (Rat.le_iff_sub_nonneg x y).1 h⟩, ?_⟩
        rw [plusV2]; show V.fin y = V.fin (x + (y - x)); congr 1
        rw [Rat.add_comm, Rat.sub_add_cancel]
  · rw [if_neg (by decide)] at h
    exact ⟨v, hv, by rw [plusV3, maxV_le h]⟩

theorem nle_iff' {k : Int} {a x b c : V} (ha : okV k a) (hx : okV k x) (hb : okV k b) (hc : okV k c) (h : x = plusV k (plusV k (timesV k a x) b) c) :
    (if k = 1 then leV x (timesV k a x) else leV (timesV k a x) x) ∧ (if k = 1 then leV x b else leV b x) := by
  have h1 : okV k (timesV k a x) := okV_times ha hx
  have ax := nle_of h1 (okV_plus hb hc)
  have bx := nle_of hb (okV_plus h1 hc)
  have e1 : plusV k (timesV k a x) (plusV k b c) = x := by rw [← plus_assoc' hb, ← h]
  have e2 : plusV k b (plusV k (timesV k a x) c) = x := by rw [← plus_assoc' h1, plus_comm' hb, ← h]
  rw [e1] at ax; rw [e2] at bx
  exact ⟨ax, bx⟩

theorem times_one_r {k : Int} {v : V} (hv : okV k v) (hk : k = 1 ∨ k = 2 ∨ k = 3) : timesV k (oneV k) v = v := by
  rw [times_comm' (okV_one hk) hv]; exact times_one' hv

theorem park1 {a x b : V} (ha : okV 1 a) (hx : okV 1 x) (hb : okV 1 b) (h1 : leV x (timesV 1 a x)) (h2 : leV x b) : leV x (timesV 1 (starV 1 a) b) := by
  have hs : starV 1 a = if 0 ≤ cmpV a (.fin 0) then .fin 0 else .low := rfl
  rw [hs]
  split
  · have : timesV 1 (.fin 0) b = b := times_one_r (k := 1) hb (.inl rfl)
    rw [this]; exact h2
  · rename_i hn
    have hlt : leV a (.fin 0) := (cmpV_le _ _).1 (by omega)
    cases b with
    | inf => cases x <;> trivial
    | low => rw [times1]; exact h2
    | fin q =>
      rw [times1]
      cases x with
      | low => trivial
      | inf => exact h2.elim
      | fin y =>
        exfalso
        rw [times1] at h1
        cases a with
        | inf => exact hlt.elim
        | low => exact h1.elim
        | fin r =>
          have hr : r ≤ 0 := hlt
          have hr' : r ≠ 0 := by intro e; subst e; exact hn (by decide +kernel)
          have hy : y ≤ r + y := h1
          have hz : r < 0 := Rat.lt_of_le_of_ne hr hr'
          have h3 := Rat.add_lt_add_right (c := y).2 hz
          rw [Rat.zero_add] at h3
          exact absurd hy (Rat.not_le.2 h3)
theorem park3 {a x b : V} (ha : okV 3 a) (hx : okV 3 x) (hb : okV 3 b) (h1 : leV (timesV 3 a x) x) (h2 : leV b x) : leV (timesV 3 (starV 3 a) b) x := by
  have hs : starV 3 a = if cmpV a (.fin 1) ≤ 0 then .fin 1 else .inf := rfl
  have n3 : (3 : Int) ≠ 1 := by decide
  rw [hs]
  split
  · have : timesV 3 (.fin 1) b = b := times_one_r (k := 3) hb (.inr (.inr rfl))
    rw [this]; exact h2
  · rename_i hn
    rw [times23 n3 (by simp) (okV_low hb n3)]
    rw [times23 n3 (okV_low ha n3) (okV_low hx n3)] at h1
    rcases okV23 hx n3 with rfl | ⟨y, rfl, hy⟩
    · cases (mulV .inf b) <;> trivial
    · rcases okV23 hb n3 with rfl | ⟨q, rfl, hq⟩
      · exact h2.elim
      · by_cases hq0 : q = 0
        · subst hq0; rw [mulV_zero]; exact hy
        · exfalso
          have hqy : q ≤ y := h2
          have hq' : 0 < q := Rat.lt_of_le_of_ne hq (fun e => hq0 e.symm)
          have hy' : 0 < y := by
            refine Rat.lt_of_le_of_ne hy (fun e => ?_)
            rw [← e] at hqy; exact absurd hqy (Rat.not_le.2 hq')
          have hy0 : y ≠ 0 := Rat.ne_of_gt hy'
          rcases okV23 ha n3 with rfl | ⟨r, rfl, hr⟩
          · rw [mulV_inf hy0] at h1; exact h1.elim
          · rw [mulV_fin] at h1
            have h3 : r * y ≤ 1 * y := by rw [Rat.one_mul]; exact h1
            have h4 : r ≤ 1 := Rat.le_of_mul_le_mul_right h3 hy'
            exact hn ((cmpV_le _ _).2 h4)
theorem park2 {a x b : V} (ha : okV 2 a) (hx : okV 2 x) (hb : okV 2 b) (h : leV (addV (timesV 2 a x) b) x) : leV (timesV 2 (starV 2 a) b) x := by
  have n2 : (2 : Int) ≠ 1 := by decide
  have hso : okV 2 (starV 2 a) := (star_law ha).1
  rw [times23 n2 (okV_low hso n2) (okV_low hb n2)]
  rw [times23 n2 (okV_low ha n2) (okV_low hx n2)] at h
  rcases okV23 hx n2 with rfl | ⟨y, rfl, hy⟩
  · cases (mulV (starV 2 a) b) <;> trivial
  · rcases okV23 hb n2 with rfl | ⟨s, rfl, hs⟩
    · have : addV (mulV a (.fin y)) .inf = .inf := by cases (mulV a (.fin y)) <;> rfl
      rw [this] at h; exact h.elim
    · rcases okV23 ha n2 with rfl | ⟨r, rfl, hr⟩
      · have e : starV 2 .inf = .inf := rfl
        rw [e]
        by_cases hy0 : y = 0
        · subst hy0
          rw [mulV_zero] at h
          have h' : (0 : Rat) + s ≤ 0 := h
          rw [Rat.zero_add] at h'
          have : s = 0 := Rat.le_antisymm h' hs
          subst this; rw [mulV_zero]; exact Rat.le_refl
        · rw [mulV_inf hy0] at h; exact h.elim
      · rw [mulV_fin] at h
        have h' : r * y + s ≤ y := h
        have e : starV 2 (.fin r) = if 0 ≤ cmpQ r 1 then .inf else .fin (1 / (1 - r)) := rfl
        rw [e]
        split
        · rename_i hc
          have hr1 : 1 ≤ r := by
            rcases cmpQ_cases r 1 with ⟨h1, e1⟩ | ⟨h1, e1⟩ | ⟨h1, e1⟩
            · rw [e1] at hc; exact absurd hc (by decide)
            · rw [h1]; exact Rat.le_refl
            · exact Rat.le_of_lt h1
          have h3 : 1 * y ≤ r * y := Rat.mul_le_mul_of_nonneg_right hr1 hy
          rw [Rat.one_mul] at h3
          have h4 : r * y + s ≤ r * y + 0 := by rw [Rat.add_zero]; exact Rat.le_trans h' h3
          have h5 : s ≤ 0 := Rat.add_le_add_left.1 h4
          have : s = 0 := Rat.le_antisymm h5 hs
          subst this; rw [mulV_zero]; exact hy
        · rename_i hc
          have hlt : r < 1 := by
            rcases cmpQ_cases r 1 with ⟨h1, e1⟩ | ⟨h1, e1⟩ | ⟨h1, e1⟩
            · exact h1
            · rw [e1] at hc; exact absurd (by decide) hc
            · rw [e1] at hc; exact absurd (by decide) hc
          have hd : 0 < 1 - r := (Rat.lt_iff_sub_pos r 1).1 hlt
          have hd0 : 1 - r ≠ 0 := Rat.ne_of_gt hd
          rw [mulV_fin]
          show 1 / (1 - r) * s ≤ y
          refine Rat.le_of_mul_le_mul_left (c := 1 - r) ?_ hd
          rw [← Rat.mul_assoc, Rat.div_def, Rat.one_mul, Rat.mul_inv_cancel _ hd0, Rat.one_mul]
          rw [Rat.sub_eq_add_neg, Rat.add_mul, Rat.one_mul, Rat.neg_mul, ← Rat.sub_eq_add_neg]
          refine Rat.le_sub_iff.2 ?_
          rw [Rat.add_comm]; exact h'

theorem park_law {k : Int} {a x b c : V} (ha : okV k a) (hx : okV k x) (hb : okV k b) (hc : okV k c) (h : x = plusV k (plusV k (timesV k a x) b) c) :
    ∃ d, okV k d ∧ x = plusV k (timesV k (starV k a) b) d := by
  have hs := (star_law ha).1
  refine nle_to (okV_times hs hb) hx ?_
  rcases okV_kind ha with rfl | rfl | rfl
  · obtain ⟨h1, h2⟩ := nle_iff' ha hx hb hc h
    rw [if_pos rfl] at h1 h2 ⊢
    exact park1 ha hx hb h1 h2
  · rw [if_neg (by decide)]
    have := nle_of (okV_plus (okV_times ha hx) hb) hc
    rw [← h, if_neg (by decide), plusV2] at this
    exact park2 ha hx hb this
  · obtain ⟨h1, h2⟩ := nle_iff' ha hx hb hc h
    rw [if_neg (by decide)] at h1 h2 ⊢
    exact park3 ha hx hb h1 h2
theorem anti_law {k : Int} {a b c d : V} (ha : okV k a) (hb : okV k b) (hc : okV k c) (hd : okV k d) (h1 : b = plusV k a c) (h2 : a = plusV k b d) : a = b := by
  have x := nle_of ha hc
  have y := nle_of hb hd
  rw [← h1] at x; rw [← h2] at y
  by_cases hk : k = 1
  · rw [if_pos hk] at x y; exact leV_antisymm y x
  · rw [if_neg hk] at x y; exact leV_antisymm x y

namespace RK
variable {k : KK}
theorem ext {a b : RK k} (h : a.1 = b.1) : a = b := Subtype.ext h
instance csr : CSR (RK k) where
  add a b := ⟨plusV k.1 a.1 b.1, okV_plus a.2 b.2⟩
  mul a b := ⟨timesV k.1 a.1 b.1, okV_times a.2 b.2⟩
  zero := ⟨zeroV k.1, okV_zero k.2⟩
  one := ⟨oneV k.1, okV_one k.2⟩
  star a := ⟨starV k.1 a.1, (star_law a.2).1⟩
  add_comm a _ := ext (plus_comm' a.2)
  add_assoc _ b _ := ext (plus_assoc' b.2)
  add_zero a := ext (plus_zero' a.2)
  mul_comm a b := ext (times_comm' a.2 b.2)
  mul_assoc a b c := ext (times_assoc' a.2 b.2 c.2)
  mul_one a := ext (times_one' a.2)
  mul_zero a := ext (times_zero' k.1 a.1)
  mul_add a b c := ext (times_plus' a.2 b.2 c.2)
  star_eq a := ext (star_law a.2).2.symm
  park a b x c h := by
    obtain ⟨d, hd, e⟩ := park_law a.2 x.2 b.2 c.2 (congrArg Subtype.val h)
    exact ⟨⟨d, hd⟩, ext e⟩
  anti a b c d h1 h2 := ext (anti_law a.2 b.2 c.2 d.2 (congrArg Subtype.val h1) (congrArg Subtype.val h2))
/-- What is below in the natural order is not better. -/
theorem better_of_le {a b : RK k} (h : CSR.le a b) : 0 ≤ betterV k.1 a.1 b.1 := by
  obtain ⟨c, hc⟩ := h
  have hc' : b.1 = plusV k.1 a.1 c.1 := congrArg Subtype.val hc
  have := nle_of a.2 c.2
  rw [← hc'] at this
  by_cases hk : k.1 = 1
  · rw [if_pos hk] at this
    unfold betterV; rw [if_pos hk, cmpV_swap]
    have := (cmpV_le _ _).2 this; omega
  · rw [if_neg hk] at this
    unfold betterV; rw [if_neg hk, cmpV_swap]
    have := (cmpV_le _ _).2 this; omega
end RK
end Go.Proofs.YtlmfppjphblemaaGreatDoor
