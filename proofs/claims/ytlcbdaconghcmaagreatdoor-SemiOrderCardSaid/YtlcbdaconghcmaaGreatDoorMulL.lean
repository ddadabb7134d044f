/- What the loops of nat.Mul keep. No walk. -/
import Derived.Test.YtlcbdaconghcmaaGreatDoorOps
namespace Go.Proofs.YtlcbdaconghcmaaGreatDoor
open Go Go.RowKit
set_option maxRecDepth 100000

theorem nth_set (L : List Nat) (j v i : Nat) (h : j < L.length) : nth (L.set j v) i = if i = j then v else nth L i := by
  unfold nth
  simp only [List.getD_eq_getElem?_getD, List.getElem?_set]
  by_cases e : j = i
  · subst e; simp [h]
  · rw [if_neg e, if_neg (fun e' => e e'.symm)]
theorem small_set {L : List Nat} (h : Small L) (j v : Nat) (hv : v < BB) : Small (L.set j v) := fun i => by
  by_cases hj : j < L.length
  · rw [nth_set L j v i hj]; split
    · exact hv
    · exact h i
  · rw [List.set_eq_of_length_le (by omega)]; exact h i
theorem bval_set (L : List Nat) : ∀ (j v : Nat), j < L.length → bval (L.set j v) + BB ^ j * nth L j = bval L + BB ^ j * v := by
  induction L with
  | nil => intro j v h; simp at h
  | cons x L ih =>
    intro j v h
    cases j with
    | zero => simp only [List.set_cons_zero, bval, nth_cons_zero, Nat.pow_zero]; omega
    | succ j =>
      have := ih j v (by simpa using h)
      simp only [List.set_cons_succ, bval, nth_cons_succ, Nat.pow_succ]
      have e : BB * (bval (L.set j v) + BB ^ j * nth L j) = BB * (bval L + BB ^ j * v) := by rw [this]
      rw [Nat.mul_add, Nat.mul_add, ← Nat.mul_assoc, ← Nat.mul_assoc, Nat.mul_comm BB (BB ^ j)] at e
      omega
theorem bval_replicate (k : Nat) : bval (List.replicate k 0) = 0 := bval_zero (fun i => by unfold nth; simp [List.getD_eq_getElem?_getD, List.getElem?_replicate]; split <;> rfl)
theorem small_replicate (k : Nat) : Small (List.replicate k 0) := fun i => by
  have : nth (List.replicate k 0) i = 0 := by unfold nth; simp [List.getD_eq_getElem?_getD, List.getElem?_replicate]; split <;> rfl
  rw [this]; exact BB_pos

/-- The inner loop: k blocks of ys have been multiplied by block i of xs; c is carried. -/
structure MulIn (xs ys L : List Nat) (i k c : Nat) : Prop where
  small : Small L
  carry : c < BB
  len : L.length = xs.length + ys.length + 1
  val : bval L + BB ^ (i + k) * c = bval (xs.take i) * bval ys + BB ^ i * (nth xs i * bval (ys.take k))
structure MulOut (xs ys L : List Nat) (i : Nat) : Prop where
  small : Small L
  len : L.length = xs.length + ys.length + 1
  val : bval L = bval (xs.take i) * bval ys
theorem MulOut.start (xs ys : List Nat) : MulOut xs ys (List.replicate (xs.length + ys.length + 1) 0) 0 :=
  ⟨small_replicate _, by simp, by rw [bval_replicate]; simp [bval]⟩
theorem MulOut.inner {xs ys L : List Nat} {i : Nat} (h : MulOut xs ys L i) : MulIn xs ys L i 0 0 :=
  ⟨h.small, BB_pos, h.len, by rw [h.val]; simp [bval]⟩
theorem mul_p_bound {l c x y : Nat} (h1 : l < BB) (h2 : c < BB) (h3 : x < BB) (h4 : y < BB) : l + c + x * y < 1000000000 * 1000000000 := by
  rw [BB_val] at *
  have : x * y ≤ 999999999 * 999999999 := Nat.mul_le_mul (by omega) (by omega)
  omega
theorem MulIn.step {xs ys L : List Nat} {i k c : Nat} (h : MulIn xs ys L i k c) (hx : Small xs) (hy : Small ys) (hi : i < xs.length) (hk : k < ys.length + 1) :
    MulIn xs ys (L.set (i + k) ((nth L (i + k) + c + nth xs i * nth ys k) % 1000000000)) i (k + 1) ((nth L (i + k) + c + nth xs i * nth ys k) / 1000000000) := by
  have hb := mul_p_bound (h.small (i + k)) h.carry (hx i) (hy k)
  have hlt : i + k < L.length := by rw [h.len]; omega
  have hset := bval_set L (i + k) ((nth L (i + k) + c + nth xs i * nth ys k) % 1000000000) hlt
  have hval := h.val
  have htk := bval_take_succ ys k
  generalize hp : nth L (i + k) + c + nth xs i * nth ys k = p at *
  have hp2 : BB ^ (i + k) * nth L (i + k) + BB ^ (i + k) * c + BB ^ (i + k) * (nth xs i * nth ys k) = BB ^ (i + k) * p := by rw [← hp, Nat.mul_add, Nat.mul_add]
  have hp3 : BB ^ (i + k) * p = BB ^ (i + k) * (p % 1000000000) + BB ^ (i + k) * BB * (p / 1000000000) := by
    rw [Nat.mul_assoc, ← Nat.mul_add, BB_val, Nat.mod_add_div]
  refine ⟨small_set h.small _ _ (by rw [BB_val]; exact Nat.mod_lt _ (by omega)), by rw [BB_val]; omega, by simp [h.len], ?_⟩
  rw [htk, Nat.mul_add, Nat.mul_add, show i + (k + 1) = i + k + 1 by omega, Nat.pow_succ BB (i + k)]
  have e : BB ^ i * (nth xs i * (BB ^ k * nth ys k)) = BB ^ (i + k) * (nth xs i * nth ys k) := by
    rw [Nat.pow_add, Nat.mul_left_comm (nth xs i), Nat.mul_assoc]
  rw [e]
  omega
theorem MulIn.done {xs ys L : List Nat} {i c : Nat} (h : MulIn xs ys L i (ys.length + 1) c) (hx : Small xs) (hy : Small ys) (hi : i < xs.length) : MulOut xs ys L (i + 1) := by
  refine ⟨h.small, h.len, ?_⟩
  have hval := h.val
  rw [take_all (by omega : ys.length ≤ ys.length + 1)] at hval
  have e : bval (xs.take i) * bval ys + BB ^ i * (nth xs i * bval ys) = bval (xs.take (i + 1)) * bval ys := by
    rw [bval_take_succ, Nat.add_mul, Nat.mul_assoc]
  rw [e] at hval
  have h1 : bval (xs.take (i + 1)) < BB ^ (i + 1) := by
    have := bval_lt (small_take hx (i + 1)); rw [List.length_take, Nat.min_eq_left (by omega)] at this; exact this
  have h2 := bval_lt hy
  have h3 : bval (xs.take (i + 1)) * bval ys < BB ^ (i + 1) * BB ^ ys.length := by
    have h4 : bval (xs.take (i + 1)) * bval ys ≤ bval (xs.take (i + 1)) * BB ^ ys.length := Nat.mul_le_mul_left _ (by omega)
    have h5 : bval (xs.take (i + 1)) * BB ^ ys.length < BB ^ (i + 1) * BB ^ ys.length := Nat.mul_lt_mul_of_pos_right h1 (Nat.pow_pos BB_pos)
    omega
  rw [← Nat.pow_add, show i + 1 + ys.length = i + (ys.length + 1) by omega] at h3
  rcases Nat.eq_zero_or_pos c with h0 | h0
  · subst h0; rw [Nat.mul_zero, Nat.add_zero] at hval; exact hval
  · have : BB ^ (i + (ys.length + 1)) * 1 ≤ BB ^ (i + (ys.length + 1)) * c := Nat.mul_le_mul_left _ h0
    omega
theorem MulOut.done {xs ys L : List Nat} (h : MulOut xs ys L xs.length) : bval L = bval xs * bval ys := by rw [h.val, List.take_length]

theorem Own.set {w : World} {B : Nat} {e : TypeId} {k : IntKind} {g n cap : Nat} {L : List Nat} (h : Own w B e k (.slice (some ⟨g, 0, none⟩) n cap) L) (hn : L.length = n) (j v : Nat) :
    Own (w.setCell ⟨g, j, none⟩ (.int k (v : Int))) B e k (.slice (some ⟨g, 0, none⟩) n cap) (L.set j v) := by
  subst hn
  have := (World.ownsRow.stored h j (.int k (v : Int))).1
  have e1 : (vals k L).set j (.int k (v : Int)) = vals k (L.set j v) := by unfold vals; rw [List.map_set]
  rw [e1] at this
  unfold Own
  rw [List.length_set]; exact this
theorem Own.base {w : World} {B : Nat} {e : TypeId} {k : IntKind} {g n cap : Nat} {off : Nat} {L : List Nat} (h : Own w B e k (.slice (some ⟨g, off, none⟩) n cap) L) : B ≤ g ∧ g < w.heap.size := by
  have := World.ownsRow.lt h g (by simp [Value.ownBlock])
  exact this
theorem Own.cell {w : World} {B : Nat} {e : TypeId} {k : IntKind} {g n cap : Nat} {L : List Nat} (h : Own w B e k (.slice (some ⟨g, 0, none⟩) n cap) L) (hn : L.length = n) (j : Nat) (hj : j < n) : w.cell? ⟨g, j, none⟩ = some (.int k ((nth L j : Nat) : Int)) := by
  subst hn
  rw [World.ownsRow.cellAt h j (by omega), vals_get k L j hj]
theorem Own.free {w : World} {B : Nat} {e : TypeId} {k : IntKind} {g n cap : Nat} {L : List Nat} (h : Own w B e k (.slice (some ⟨g, 0, none⟩) n cap) L) (hn : L.length = n) (j : Nat) : w.frozen? ⟨g, j, none⟩ = false := by
  subst hn; exact World.ownsRow.frozenAt h j
theorem vals_replicate (k : IntKind) (n : Nat) : vals k (List.replicate n 0) = List.replicate n (.int k 0) := by simp [vals]
end Go.Proofs.YtlcbdaconghcmaaGreatDoor
