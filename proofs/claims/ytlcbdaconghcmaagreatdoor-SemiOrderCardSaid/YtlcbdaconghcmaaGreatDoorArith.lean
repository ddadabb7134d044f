/- nat.plus, nat.minus, nat.scaled: the closures, and what the loop of each comes to. -/
import Derived.Test.YtlcbdaconghcmaaGreatDoorEach
namespace Go.Proofs.YtlcbdaconghcmaaGreatDoor
open Go Go.RowKit
set_option maxRecDepth 100000

def fPlus (a b c : Nat) : Nat × Nat := ((a + b + c) % 1000000000, (a + b + c) / 1000000000)
def fMinus (a b c : Nat) : Nat × Nat := ((a + 1000000000 - b - c) % 1000000000, 1 - (a + 1000000000 - b - c) / 1000000000)
def fScaled (k : Nat) (a _b c : Nat) : Nat × Nat := ((a * k + c) % 1000000000, (a * k + c) / 1000000000)

theorem okPlus : StepOk fPlus 1 := fun a b c ha hb hc => by
  rw [BB_val] at *; simp only [fPlus]; omega
theorem okMinus : StepOk fMinus 1 := fun a b c ha hb hc => by
  rw [BB_val] at *; simp only [fMinus]; omega
theorem mul_bound {a k c : Nat} (ha : a < BB) (hk : k < BB) (hc : c < BB) : a * k + c < 1000000000 * 1000000000 := by
  rw [BB_val] at *
  have : a * k ≤ 999999999 * 999999999 := Nat.mul_le_mul (by omega) (by omega)
  omega
theorem okScaled {k : Nat} (hk : k < BB) : StepOk (fScaled k) 999999999 := fun a b c ha hb hc => by
  have := mul_bound ha hk (show c < BB by rw [BB_val]; omega)
  simp only [fScaled, BB_val]
  exact ⟨Nat.mod_lt _ (by omega), by omega⟩

theorem closPlus (w : World) : ClosOk 113 #[] fPlus 1 w := fun a b c wr _ ha hb hc => by
  rw [BB_val] at ha hb
  simp only [fPlus]
  go_enter Tryz.func113, Tryz.ntmps113
  go_wp2
  go_ret2
  exact ⟨rfl, rfl⟩
theorem closMinus (w : World) : ClosOk 120 #[] fMinus 1 w := fun a b c wr _ ha hb hc => by
  rw [BB_val] at ha hb
  simp only [fMinus]
  go_enter Tryz.func120, Tryz.ntmps120
  go_wp2
  go_ret2
  exact ⟨ret_pair (by omega) (by omega), rfl⟩
theorem closScaled (k bx : Nat) (w : World) (hk : k < BB) (hlt : bx < w.heap.size) (hc : w.cell? ⟨bx, 0, none⟩ = some (.int .u64 (k : Int))) :
    ClosOk 133 #[.pointer (some ⟨bx, 0, none⟩)] (fScaled k) 999999999 w := fun a b c wr hb ha _ hcc => by
  have hm := mul_bound ha hk (show c < BB by rw [BB_val]; omega)
  have hcell := (hb.cell (p := ⟨bx, 0, none⟩) hlt).trans hc
  have hm3 : 0 ≤ (a : Int) * (k : Int) := Int.mul_nonneg (Int.natCast_nonneg _) (Int.natCast_nonneg _)
  have hm2 : (a : Int) * (k : Int) + (c : Int) < 1000000000000000000 := by rw [← Int.natCast_mul]; omega
  clear hc hm
  simp only [fScaled]
  go_enter Tryz.func133, Tryz.ntmps133
  go_wp2
  go_ret2
  exact ⟨rfl, rfl⟩

theorem take_all {xs : List Nat} {k : Nat} (h : xs.length ≤ k) : xs.take k = xs := List.take_of_length_le h
theorem eachL_plus (xs ys : List Nat) (k : Nat) : bval (eachL fPlus xs ys k).1 + BB ^ k * (eachL fPlus xs ys k).2 = bval (xs.take k) + bval (ys.take k) := by
  induction k with
  | zero => simp [eachL, bval]
  | succ k ih =>
    simp only [eachL]
    rw [bval_snoc, eachL_len, bval_take_succ, bval_take_succ, Nat.pow_succ]
    generalize (eachL fPlus xs ys k).2 = c at *
    generalize bval (eachL fPlus xs ys k).1 = l at *
    generalize nth xs k = a
    generalize nth ys k = b
    have h : (fPlus a b c).1 + BB * (fPlus a b c).2 = a + b + c := by simp only [fPlus, BB_val]; omega
    have h2 : BB ^ k * (a + b + c) = BB ^ k * (fPlus a b c).1 + BB ^ k * BB * (fPlus a b c).2 := by rw [← h, Nat.mul_add, ← Nat.mul_assoc]
    rw [Nat.mul_add, Nat.mul_add] at h2
    omega
theorem eachL_succ_snd (F : Nat → Nat → Nat → Nat × Nat) (xs ys : List Nat) (k : Nat) : (eachL F xs ys (k + 1)).2 = (F (nth xs k) (nth ys k) (eachL F xs ys k).2).2 := rfl
theorem fPlus_carry {c : Nat} (h : c ≤ 1) : (fPlus 0 0 c).2 = 0 := by simp only [fPlus]; omega
theorem plus_val' (xs ys : List Nat) (hx : Small xs) (hy : Small ys) (n : Nat) (h1 : xs.length ≤ n) (h2 : ys.length ≤ n) : bval (eachL fPlus xs ys (n + 1)).1 = bval xs + bval ys := by
  have h := eachL_plus xs ys (n + 1)
  rw [take_all (Nat.le_succ_of_le h1), take_all (Nat.le_succ_of_le h2)] at h
  have hc : (eachL fPlus xs ys (n + 1)).2 = 0 := by
    rw [eachL_succ_snd, nth_out xs _ h1, nth_out ys _ h2]; exact fPlus_carry (eachL_ok okPlus hx hy n).2
  rw [hc, Nat.mul_zero, Nat.add_zero] at h; exact h
theorem plus_val (xs ys : List Nat) (hx : Small xs) (hy : Small ys) : bval (eachL fPlus xs ys (max xs.length ys.length + 1)).1 = bval xs + bval ys :=
  plus_val' xs ys hx hy _ (Nat.le_max_left _ _) (Nat.le_max_right _ _)
theorem eachL_minus (xs ys : List Nat) (hx : Small xs) (hy : Small ys) (k : Nat) : bval (eachL fMinus xs ys k).1 + bval (ys.take k) = bval (xs.take k) + BB ^ k * (eachL fMinus xs ys k).2 := by
  induction k with
  | zero => simp [eachL, bval]
  | succ k ih =>
    have hc := (eachL_ok okMinus hx hy k).2
    have ha := hx k
    have hb := hy k
    simp only [eachL]
    rw [bval_snoc, eachL_len, bval_take_succ, bval_take_succ, Nat.pow_succ]
    generalize (eachL fMinus xs ys k).2 = c at *
    generalize bval (eachL fMinus xs ys k).1 = l at *
    generalize nth xs k = a at *
    generalize nth ys k = b at *
    have h : (fMinus a b c).1 + b + c = a + BB * (fMinus a b c).2 := by rw [BB_val] at *; simp only [fMinus]; omega
    have h2 : BB ^ k * ((fMinus a b c).1 + b + c) = BB ^ k * a + BB ^ k * BB * (fMinus a b c).2 := by rw [h, Nat.mul_add, ← Nat.mul_assoc]
    rw [Nat.mul_add, Nat.mul_add] at h2
    omega
theorem minus_val' (xs ys : List Nat) (hx : Small xs) (hy : Small ys) (hle : bval ys ≤ bval xs) (n : Nat) (h1 : xs.length ≤ n) (h2 : ys.length ≤ n) : bval (eachL fMinus xs ys n).1 = bval xs - bval ys := by
  have h := eachL_minus xs ys hx hy n
  rw [take_all h1, take_all h2] at h
  have hok := eachL_ok okMinus hx hy n
  have hlt := bval_lt hok.1
  rw [eachL_len] at hlt
  generalize bval (eachL fMinus xs ys n).1 = l at *
  generalize (eachL fMinus xs ys n).2 = c at *
  rcases Nat.eq_zero_or_pos c with h0 | h0
  · subst h0; rw [Nat.mul_zero, Nat.add_zero] at h; omega
  · have : c = 1 := by have := hok.2; omega
    subst this; rw [Nat.mul_one] at h; omega
theorem minus_val (xs ys : List Nat) (hx : Small xs) (hy : Small ys) (hle : bval ys ≤ bval xs) : bval (eachL fMinus xs ys (max xs.length ys.length + 1)).1 = bval xs - bval ys :=
  minus_val' xs ys hx hy hle _ (Nat.le_succ_of_le (Nat.le_max_left _ _)) (Nat.le_succ_of_le (Nat.le_max_right _ _))
theorem eachL_scaled (m : Nat) (xs : List Nat) (k : Nat) : bval (eachL (fScaled m) xs [] k).1 + BB ^ k * (eachL (fScaled m) xs [] k).2 = bval (xs.take k) * m := by
  induction k with
  | zero => simp [eachL, bval]
  | succ k ih =>
    simp only [eachL]
    rw [bval_snoc, eachL_len, bval_take_succ, Nat.pow_succ, Nat.add_mul, Nat.mul_assoc (BB ^ k) (nth xs k) m]
    generalize (eachL (fScaled m) xs [] k).2 = c at *
    generalize bval (eachL (fScaled m) xs [] k).1 = l at *
    generalize nth xs k = a
    have h : (fScaled m a (nth [] k) c).1 + BB * (fScaled m a (nth [] k) c).2 = a * m + c := by simp only [fScaled, BB_val]; omega
    have h2 : BB ^ k * (a * m + c) = BB ^ k * (fScaled m a (nth [] k) c).1 + BB ^ k * BB * (fScaled m a (nth [] k) c).2 := by rw [← h, Nat.mul_add, ← Nat.mul_assoc]
    rw [Nat.mul_add] at h2
    omega
theorem scaled_val {m : Nat} (hm : m < BB) (xs : List Nat) (hx : Small xs) : bval (eachL (fScaled m) xs [] (max xs.length ([] : List Nat).length + 1)).1 = bval xs * m := by
  have h := eachL_scaled m xs (max xs.length ([] : List Nat).length + 1)
  rw [take_all (by omega)] at h
  have hc : (eachL (fScaled m) xs [] (max xs.length ([] : List Nat).length + 1)).2 = 0 := by
    have := (eachL_ok (okScaled hm) hx small_nil (max xs.length ([] : List Nat).length)).2
    simp only [eachL, fScaled]; rw [nth_out xs _ (by omega), Nat.zero_mul, Nat.zero_add]
    exact Nat.div_eq_of_lt (by omega)
  rw [hc] at h; simpa using h

theorem EachEnd.of {n : Nat} {w : World} {e : Ending} {w' : World} (h : EachEnd n w e w') : ∃ v, e = .returned v ∧ Own w' w.heap.size 75 .u64 v (toB n) ∧ Below w.heap.size w w' := h

theorem enter46 : ∀ args w, (callFunc 113 args).run Tryz.prog w = .ok (.enter 113 args) w := fun args w => by kernel_rfl
theorem enter52 : ∀ args w, (callFunc 120 args).run Tryz.prog w = .ok (.enter 120 args) w := fun args w => by kernel_rfl
theorem enter63 : ∀ args w, (callFunc 133 args).run Tryz.prog w = .ok (.enter 133 args) w := fun args w => by kernel_rfl

theorem plus_any (vx vy : Value) (m n : Nat) (w : World) (hx : Sl w .u64 vx (toB m)) (hy : Sl w .u64 vy (toB n)) (lx : (toB m).length ≤ 100000) (ly : (toB n).length ≤ 100000) :
    Calls Tryz.prog 104 #[vx, vy] w (EachEnd (m + n) w) := by
  have hc := each_any 113 #[] fPlus 1 vx vy (toB m) (toB n) w enter46 okPlus (closPlus w) hx hy (small_toB m) (small_toB n) lx ly
  rw [plus_val _ _ (small_toB m) (small_toB n), bval_toB, bval_toB] at hc
  have HC := Lib.hid hc; clear hc hx hy
  go_enter Tryz.func104, Tryz.ntmps104
  go_wp2_with fail
  refine HC.out.mono ?_
  rintro e w' ⟨v, rfl, hq⟩
  have HQ := Lib.hid hq; clear hq
  go_wp2
  go_ret
  exact ⟨v, rfl, HQ.out⟩
theorem minus_any (vx vy : Value) (m n : Nat) (w : World) (hx : Sl w .u64 vx (toB m)) (hy : Sl w .u64 vy (toB n)) (lx : (toB m).length ≤ 100000) (ly : (toB n).length ≤ 100000) (hle : n ≤ m) :
    Calls Tryz.prog 107 #[vx, vy] w (EachEnd (m - n) w) := by
  have hc := each_any 120 #[] fMinus 1 vx vy (toB m) (toB n) w enter52 okMinus (closMinus w) hx hy (small_toB m) (small_toB n) lx ly
  rw [minus_val _ _ (small_toB m) (small_toB n) (by rw [bval_toB, bval_toB]; exact hle), bval_toB, bval_toB] at hc
  have HC := Lib.hid hc; clear hc hx hy
  go_enter Tryz.func107, Tryz.ntmps107
  go_wp2_with fail
  refine HC.out.mono ?_
  rintro e w' ⟨v, rfl, hq⟩
  have HQ := Lib.hid hq; clear hq
  go_wp2
  go_ret
  exact ⟨v, rfl, HQ.out⟩
theorem scaled_any (vx : Value) (m k : Nat) (w : World) (hk : k < BB) (hx : Sl w .u64 vx (toB m)) (lx : (toB m).length ≤ 100000) :
    Calls Tryz.prog 121 #[vx, .int .u64 (k : Int)] w (EachEnd (m * k) w) := by
  have hbl : Below w.heap.size w (w.alloc (.cells #[.int .u64 (k : Int)] 75)) := (Below.refl _ _).alloc (Nat.le_refl _) _
  have hc := each_any 133 #[.pointer (some ⟨w.heap.size, 0, none⟩)] (fScaled k) 999999999 vx (.slice none 0 0) (toB m) [] (w.alloc (.cells #[.int .u64 (k : Int)] 75)) enter63 (okScaled hk)
    (closScaled k w.heap.size _ hk (by simp) (by simp)) (hx.below hbl (Nat.le_refl _)) (Sl.nil _ _) (small_toB m) small_nil lx (by simp)
  rw [scaled_val hk _ (small_toB m), bval_toB] at hc
  have HC := Lib.hid hc; clear hc hx
  have HBL := Lib.hid hbl; clear hbl
  go_enter Tryz.func121, Tryz.ntmps121
  go_wp2_with fail
  refine HC.out.mono ?_
  rintro e w' ⟨v, rfl, hq⟩
  have HQ := Lib.hid hq; clear hq
  go_wp2
  go_ret
  exact ⟨v, rfl, HQ.out.1.mono (by simp), HBL.out.trans (HQ.out.2.mono (by simp))⟩
end Go.Proofs.YtlcbdaconghcmaaGreatDoor
