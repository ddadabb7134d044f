/- Parts of a proof: MR2 MR3 MR4 C2 C3 CloC C5. -/
import Derived.Test.YtjekapjbigfkbaaGreatDoorS14
import Derived.Deep.QuietTactic
import Derived.BigQuiet
import Derived.Laws.Concat
import Derived.Test.YtjekapjbigfkbaaGreatDoorS11
import Derived.Test.YtjekapjbigfkbaaGreatDoorS10
import Derived.Test.YtjekapjbigfkbaaGreatDoorS12
import Derived.Test.YtjekapjbigfkbaaGreatDoorS00
import Derived.Deep.OwnRows
import Derived.Deep.AppendLies
import Derived.Test.YtjekapjbigfkbaaGreatDoorS02
import Derived.Deep.RegionHeld2
import Derived.Deep.LoopGhost
import Derived.Deep.Light
import Derived.OwnWalk
import Derived.Deep.RegionLaw
namespace Go.Proofs.YtjekapjbigfkbaaGreatDoor
open Go Go.RowKit
set_option maxRecDepth 100000
theorem dig_set {L : List Nat} (h : Dig L) (j v : Nat) (hv : v < 10) : Dig (L.set j v) := fun i => by
  by_cases hj : j < L.length
  · rw [nth_set L j v i hj]; split
    · exact hv
    · exact h i
  · rw [List.set_eq_of_length_le (by omega)]; exact h i
theorem dval_set (L : List Nat) : ∀ (j v : Nat), j < L.length → dval (L.set j v) + 10 ^ j * nth L j = dval L + 10 ^ j * v := by
  induction L with
  | nil => intro j v h; simp at h
  | cons x L ih =>
    intro j v h
    cases j with
    | zero => simp only [List.set_cons_zero, dval, nth_cons_zero, Nat.pow_zero]; omega
    | succ j =>
      have := ih j v (by simpa using h)
      simp only [List.set_cons_succ, dval, nth_cons_succ, Nat.pow_succ]
      have e : 10 * (dval (L.set j v) + 10 ^ j * nth L j) = 10 * (dval L + 10 ^ j * v) := by rw [this]
      rw [Nat.mul_add, Nat.mul_add, ← Nat.mul_assoc, ← Nat.mul_assoc, Nat.mul_comm 10 (10 ^ j)] at e
      omega
theorem nth_rep (k i : Nat) : nth (List.replicate k 0) i = 0 := by unfold nth; simp [List.getD_eq_getElem?_getD, List.getElem?_replicate]; split <;> rfl
structure MulIR (xs ys L : List Nat) (i k c : Nat) : Prop where
  dig : Dig L
  carry : c < 10
  len : L.length = xs.length + ys.length + 1
  val : dval L + 10 ^ (i + k) * c = dval (xs.take i) * dval ys + 10 ^ i * (nth xs i * dval (ys.take k))
structure MulOR (xs ys L : List Nat) (i : Nat) : Prop where
  dig : Dig L
  len : L.length = xs.length + ys.length + 1
  val : dval L = dval (xs.take i) * dval ys
theorem MulOR.start (xs ys : List Nat) : MulOR xs ys (List.replicate (xs.length + ys.length + 1) 0) 0 :=
  ⟨fun i => by rw [nth_rep]; omega, by simp, by rw [dval_zero (nth_rep _)]; simp [dval]⟩
theorem mul_d_bound {l c x y : Nat} (h1 : l < 10) (h2 : c < 10) (h3 : x < 10) (h4 : y < 10) : l + x * y + c < 100 := by
  have : x * y ≤ 9 * 9 := Nat.mul_le_mul (by omega) (by omega)
  omega
theorem MulIR.step {xs ys L : List Nat} {i k c l x y : Nat} (h : MulIR xs ys L i k c) (hx : Dig xs) (hy : Dig ys) (hi : i < xs.length) (hk : k < ys.length + 1) (el : l = nth L (i + k)) (ex : x = nth xs i) (ey : y = nth ys k) :
    MulIR xs ys (L.set (i + k) ((l + x * y + c) % 10)) i (k + 1) ((l + x * y + c) / 10) := by
  have hb := mul_d_bound (h.dig (i + k)) h.carry (hx i) (hy k)
  have hlt : i + k < L.length := by rw [h.len]; omega
  have hset := dval_set L (i + k) ((l + x * y + c) % 10) hlt
  have hval := h.val
  have htk := dval_take_succ ys k
  rw [← el, ← ex, ← ey] at hb
  rw [← el] at hset
  rw [← ey] at htk
  rw [← ex] at hval
  generalize hp : l + x * y + c = p at *
  have hp2 : 10 ^ (i + k) * l + 10 ^ (i + k) * (x * y) + 10 ^ (i + k) * c = 10 ^ (i + k) * p := by rw [← hp, Nat.mul_add, Nat.mul_add]
  have hp3 : 10 ^ (i + k) * p = 10 ^ (i + k) * (p % 10) + 10 ^ (i + k) * 10 * (p / 10) := by
    rw [Nat.mul_assoc, ← Nat.mul_add, Nat.mod_add_div]
  refine ⟨dig_set h.dig _ _ (by omega), by omega, by simp [h.len], ?_⟩
  rw [htk, Nat.mul_add, Nat.mul_add, show i + (k + 1) = i + k + 1 by omega, Nat.pow_succ 10 (i + k), ← ex]
  have e : 10 ^ i * (x * (10 ^ k * y)) = 10 ^ (i + k) * (x * y) := by
    rw [Nat.pow_add, Nat.mul_left_comm x, Nat.mul_assoc]
  rw [e]
  omega
theorem MulIR.done {xs ys L : List Nat} {i c : Nat} (h : MulIR xs ys L i (ys.length + 1) c) (hx : Dig xs) (hy : Dig ys) (hi : i < xs.length) : MulOR xs ys L (i + 1) := by
  refine ⟨h.dig, h.len, ?_⟩
  have hval := h.val
  rw [List.take_of_length_le (by omega : ys.length ≤ ys.length + 1)] at hval
  have e : dval (xs.take i) * dval ys + 10 ^ i * (nth xs i * dval ys) = dval (xs.take (i + 1)) * dval ys := by
    rw [dval_take_succ, Nat.add_mul, Nat.mul_assoc]
  rw [e] at hval
  have h1 : dval (xs.take (i + 1)) < 10 ^ (i + 1) := by
    have := dval_lt (dig_take hx (i + 1)); rw [List.length_take, Nat.min_eq_left (by omega)] at this; exact this
  have h2 := dval_lt hy
  have h3 : dval (xs.take (i + 1)) * dval ys < 10 ^ (i + 1) * 10 ^ ys.length := by
    have h4 : dval (xs.take (i + 1)) * dval ys ≤ dval (xs.take (i + 1)) * 10 ^ ys.length := Nat.mul_le_mul_left _ (by omega)
    have h5 : dval (xs.take (i + 1)) * 10 ^ ys.length < 10 ^ (i + 1) * 10 ^ ys.length := Nat.mul_lt_mul_of_pos_right h1 (Nat.pow_pos (by omega))
    omega
  rw [← Nat.pow_add, show i + 1 + ys.length = i + (ys.length + 1) by omega] at h3
  rcases Nat.eq_zero_or_pos c with h0 | h0
  · subst h0; rw [Nat.mul_zero, Nat.add_zero] at hval; exact hval
  · have : 10 ^ (i + (ys.length + 1)) * 1 ≤ 10 ^ (i + (ys.length + 1)) * c := Nat.mul_le_mul_left _ h0
    omega
theorem MulOR.done {xs ys L : List Nat} (h : MulOR xs ys L xs.length) : dval L = dval xs * dval ys := by rw [h.val, List.take_length]
end Go.Proofs.YtjekapjbigfkbaaGreatDoor
namespace Go.Proofs.YtjekapjbigfkbaaGreatDoor
open Go Go.RowKit
set_option maxRecDepth 100000
structure DivI (l : List UInt8) (n : Nat) (qb : List UInt8) (rn i : Nat) : Prop where
  len : qb.length = i
  dig : dgts qb = true
  lt : rn < n
  val : num qb * n + rn = num (l.take i)
theorem DivI.start (l : List UInt8) {n : Nat} (h : n ≠ 0) : DivI l n [] 0 0 := ⟨rfl, rfl, by omega, by simp [num]⟩
theorem dgt_byteOf {j : Nat} (h : j < 10) : dgt (byteOf j) = true := by simp only [dgt, byteOf_toNat h]; simp; omega
theorem DivI.step {l : List UInt8} {n : Nat} {qb : List UInt8} {rn i j m : Nat} {c : UInt8} (h : DivI l n qb rn i) (ht : l.take (i + 1) = l.take i ++ [c]) (hm : m < n) (hj : j < 10) (he : m + j * n = 10 * rn + (c.toNat - 48)) :
    DivI l n (qb ++ [byteOf j]) m (i + 1) := by
  refine ⟨by rw [List.length_append, h.len]; rfl, by rw [dgts_snoc, h.dig, dgt_byteOf hj]; rfl, hm, ?_⟩
  rw [num_snoc, ht, num_snoc, ← h.val, byteOf_toNat hj, show 48 + j - 48 = j by omega, Nat.add_mul, Nat.mul_add, Nat.mul_assoc]
  omega
structure Strip (l : List UInt8) (k : Nat) : Prop where
  lt : k + 1 ≤ l.length
  val : num (l.drop k) = num l
theorem Strip.step {l : List UInt8} {k : Nat} (h : Strip l k) (hk : k + 1 < l.length) (hz : l[k].toNat = 48) : Strip l (k + 1) := by
  refine ⟨by omega, ?_⟩
  rw [← h.val, List.drop_eq_getElem_cons (i := k) (by omega)]
  generalize l.drop (k + 1) = x
  show num x = List.foldl (fun n c => 10 * n + (c.toNat - 48)) (10 * 0 + (l[k].toNat - 48)) x
  rw [hz]; rfl
end Go.Proofs.YtjekapjbigfkbaaGreatDoor
namespace Go.Proofs.YtjekapjbigfkbaaGreatDoor
open Go Go.RowKit
set_option maxRecDepth 100000
end Go.Proofs.YtjekapjbigfkbaaGreatDoor

namespace Go.Proofs.YtjekapjbigfkbaaGreatDoor
open Go Go.RowKit
set_option maxRecDepth 100000
end Go.Proofs.YtjekapjbigfkbaaGreatDoor
namespace Go.Proofs.YtjekapjbigfkbaaGreatDoor
open Go Go.RowKit
set_option maxRecDepth 100000
end Go.Proofs.YtjekapjbigfkbaaGreatDoor
namespace Go.Proofs.YtjekapjbigfkbaaGreatDoor
open Go Go.RowKit
set_option maxRecDepth 100000
end Go.Proofs.YtjekapjbigfkbaaGreatDoor
namespace Go.Proofs.YtjekapjbigfkbaaGreatDoor
open Go Go.RowKit
set_option maxRecDepth 100000
end Go.Proofs.YtjekapjbigfkbaaGreatDoor

namespace Go.Proofs.YtjekapjbigfkbaaGreatDoor
open Go Go.RowKit
set_option maxRecDepth 100000
end Go.Proofs.YtjekapjbigfkbaaGreatDoor
namespace Go.Proofs.YtjekapjbigfkbaaGreatDoor
open Go Go.RowKit
set_option maxRecDepth 100000
end Go.Proofs.YtjekapjbigfkbaaGreatDoor
namespace Go.Proofs.YtjekapjbigfkbaaGreatDoor
open Go Go.RowKit
set_option maxRecDepth 100000
end Go.Proofs.YtjekapjbigfkbaaGreatDoor

namespace Go.Proofs.YtjekapjbigfkbaaGreatDoor
open Go Go.RowKit Go.Deep
set_option maxRecDepth 100000
theorem gb_below {w w' : World} (h : Below w.heap.size w w') (z : Option Nat) : w.grownBy w' z := ⟨h.os, h.tape, h.output, h.size, fun q hq _ => h.block q hq⟩
def Rd (z : Option Nat) (w : World) (v : Value) (n : Nat) (f : Nat → Value) : Prop :=
  (n = 0 ∧ ∃ a cap, v = .slice a 0 cap ∧ cap ≤ maxLen) ∨ ∃ b off cap, v = .slice (some ⟨b, off, none⟩) n cap ∧ (b < w.heap.size ∧ some b ≠ z) ∧ n ≤ cap ∧ cap ≤ maxLen ∧ ∀ i, i < n → w.cell? ⟨b, off + i, none⟩ = some (f i)
theorem Rd.kept {z : Option Nat} {w w' : World} {v : Value} {n : Nat} {f : Nat → Value} (h : Rd z w v n f) (hb : w.grownBy w' z) : Rd z w' v n f := by
  rcases h with h | ⟨b, off, cap, hv, h1, h2, h3, h4⟩
  · exact .inl h
  · exact .inr ⟨b, off, cap, hv, ⟨Nat.lt_of_lt_of_le h1.1 hb.size, h1.2⟩, h2, h3, fun i hi => (hb.cell_far ⟨b, off + i, none⟩ h1.1 h1.2).trans (h4 i hi)⟩
theorem Rd.open {z : Option Nat} {w : World} {v : Value} {n : Nat} {f : Nat → Value} (h : Rd z w v n f) : ∃ a cap b off, v = .slice a n cap ∧ (0 < n → a = some ⟨b, off, none⟩) ∧ n ≤ cap ∧ cap ≤ maxLen ∧
    (0 < n → b < w.heap.size ∧ some b ≠ z) ∧ ∀ i, i < n → w.cell? ⟨b, off + i, none⟩ = some (f i) := by
  rcases h with ⟨rfl, a, cap, hv, hm⟩ | ⟨b, off, cap, hv, h1, h2, h3, h4⟩
  · exact ⟨a, cap, 0, 0, hv, by simp, by simp, hm, by simp, by simp⟩
  · exact ⟨_, cap, b, off, hv, fun _ => rfl, h2, h3, fun _ => h1, h4⟩
theorem Rd.congr {z : Option Nat} {w : World} {v : Value} {n : Nat} {f g : Nat → Value} (h : Rd z w v n f) (e : ∀ i, i < n → f i = g i) : Rd z w v n g := by
  rcases h with h | ⟨b, off, cap, hv, h1, h2, h3, h4⟩
  · exact .inl h
  · exact .inr ⟨b, off, cap, hv, h1, h2, h3, fun i hi => by rw [h4 i hi, e i hi]⟩
theorem Rd.shape {z : Option Nat} {w : World} {v : Value} {n : Nat} {f : Nat → Value} (h : Rd z w v n f) : ∃ a cap, v = .slice a n cap := by
  obtain ⟨a, cap, _, _, hv, _⟩ := h.open; exact ⟨a, cap, hv⟩
theorem Rd.far {k : Nat} {z : Option Nat} {w : World} {v : Value} {n : Nat} {f : Nat → Value} (h : Rd z w v n f) (hk : w.heap.size ≤ k) : Rd (some k) w v n f := by
  rcases h with h | ⟨b, off, cap, hv, h1, h2⟩
  · exact .inl h
  · exact .inr ⟨b, off, cap, hv, ⟨h1.1, by simp; omega⟩, h2⟩
def Ss (z : Option Nat) (w : World) (v : Value) (n : Nat) (X : Nat → ByteArray) : Prop := Rd z w v n fun i => .string (X i)
def Mt (z : Option Nat) (w : World) (v : Value) (n : Nat) (L : Nat → Nat) (X : Nat → Nat → ByteArray) : Prop := ∃ R, Rd z w v n R ∧ ∀ i, i < n → Ss z w (R i) (L i) (X i)
section
variable {z : Option Nat} {w w' : World} {v : Value} {n : Nat} {L L' : Nat → Nat} {X X' : Nat → Nat → ByteArray}
theorem Mt.kept (h : Mt z w v n L X) (hb : w.grownBy w' z) : Mt z w' v n L X := by
  obtain ⟨R, h1, h2⟩ := h
  exact ⟨R, h1.kept hb, fun i hi => Rd.kept (h2 i hi) hb⟩
theorem Mt.far {k : Nat} (h : Mt z w v n L X) (hk : w.heap.size ≤ k) : Mt (some k) w v n L X := by
  obtain ⟨R, h1, h2⟩ := h
  exact ⟨R, h1.far hk, fun i hi => Rd.far (h2 i hi) hk⟩
theorem Mt.congr (h : Mt z w v n L X) (hL : ∀ i, i < n → L i = L' i) (hX : ∀ i j, i < n → j < L i → X i j = X' i j) : Mt z w v n L' X' := by
  obtain ⟨R, h1, h2⟩ := h
  exact ⟨R, h1, fun i hi => by rw [← hL i hi]; exact Rd.congr (h2 i hi) fun j hj => by rw [hX i j hi hj]⟩
theorem Mt.open (h : Mt z w v n L X) :
    ∃ a cap b off, ∃ (A : Nat → Option Addr) (C B O : Nat → Nat), v = .slice a n cap ∧ (0 < n → a = some ⟨b, off, none⟩) ∧ n ≤ cap ∧ cap ≤ maxLen ∧ (0 < n → b < w.heap.size ∧ some b ≠ z) ∧
      ∀ i, i < n → w.cell? ⟨b, off + i, none⟩ = some (.slice (A i) (L i) (C i)) ∧ L i ≤ C i ∧ C i ≤ maxLen ∧ (0 < L i → A i = some ⟨B i, O i, none⟩) ∧ (0 < L i → B i < w.heap.size ∧ some (B i) ≠ z) ∧ Ss z w (.slice (A i) (L i) (C i)) (L i) (X i) ∧
        ∀ j, j < L i → w.cell? ⟨B i, O i + j, none⟩ = some (.string (X i j)) := by
  obtain ⟨R, h1, h2⟩ := h
  obtain ⟨a, cap, b, off, hv, ha, hc, hm, hb, hcell⟩ := h1.open
  classical
  have hall : ∀ i, ∃ t : Option Addr × Nat × Nat × Nat, i < n → R i = .slice t.1 (L i) t.2.1 ∧ (0 < L i → t.1 = some ⟨t.2.2.1, t.2.2.2, none⟩) ∧ L i ≤ t.2.1 ∧ t.2.1 ≤ maxLen ∧ (0 < L i → t.2.2.1 < w.heap.size ∧ some t.2.2.1 ≠ z) ∧
      ∀ j, j < L i → w.cell? ⟨t.2.2.1, t.2.2.2 + j, none⟩ = some (.string (X i j)) := fun i => by
    by_cases hi : i < n
    · obtain ⟨a', c', b', o', k1, k2, k3, k4, k5, k6⟩ := Rd.open (h2 i hi)
      exact ⟨(a', c', b', o'), fun _ => ⟨k1, k2, k3, k4, k5, k6⟩⟩
    · exact ⟨(none, 0, 0, 0), fun h => absurd h hi⟩
  refine ⟨a, cap, b, off, fun i => (Classical.choose (hall i)).1, fun i => (Classical.choose (hall i)).2.1, fun i => (Classical.choose (hall i)).2.2.1, fun i => (Classical.choose (hall i)).2.2.2, hv, ha, hc, hm, hb, fun i hi => ?_⟩
  obtain ⟨k1, k2, k3, k4, k5, k6⟩ := Classical.choose_spec (hall i) hi
  refine ⟨by rw [hcell i hi, k1], k3, k4, k2, k5, ?_, k6⟩
  rw [← k1]; exact h2 i hi
end
def strs (n : Nat) (X : Nat → ByteArray) : List Value := (List.range n).map fun j => .string (X j)
theorem strs_len (n : Nat) (X : Nat → ByteArray) : (strs n X).length = n := by simp [strs]
theorem strs_get (n : Nat) (X : Nat → ByteArray) (i : Nat) (h : i < n) : (strs n X)[i]? = some (.string (X i)) := by simp [strs, h]
theorem strs_congr {n : Nat} {X Y : Nat → ByteArray} (h : ∀ i, i < n → X i = Y i) : strs n X = strs n Y := by
  unfold strs; exact List.map_congr_left fun i hi => by rw [h i (List.mem_range.1 hi)]
def OwS (w : World) (B : Nat) (e : TypeId) (v : Value) (n : Nat) (X : Nat → ByteArray) : Prop := w.ownsRow B e 1 v n (strs n X)
theorem OwS.nil (w : World) (B : Nat) (e : TypeId) (X : Nat → ByteArray) : OwS w B e (.slice none 0 0) 0 X := World.ownsRow_nil w B e 1
theorem OwS.congr {w : World} {B : Nat} {e : TypeId} {v : Value} {n : Nat} {X Y : Nat → ByteArray} (h : OwS w B e v n X) (hx : ∀ i, i < n → X i = Y i) : OwS w B e v n Y := by
  unfold OwS; rw [← strs_congr hx]; exact h
theorem OwS.kept {w w' : World} {B : Nat} {e : TypeId} {v : Value} {n : Nat} {X : Nat → ByteArray} {z : Option Nat} (h : OwS w B e v n X) (hb : w.grownBy w' z) (hz : ∀ k, z = some k → k < B) : OwS w' B e v n X :=
  World.ownsRow.kept h hb (by
    cases hv : v.ownBlock with
    | none => exact .inl rfl
    | some k => exact .inr (fun e => by have := (World.ownsRow.lt h k hv).1; have := hz k e.symm; omega))
theorem OwS.set {w : World} {B : Nat} {e : TypeId} {g n cap : Nat} {X : Nat → ByteArray} (h : OwS w B e (.slice (some ⟨g, 0, none⟩) n cap) n X) {i : Nat} (hi : i < n) (x : ByteArray) :
    OwS (w.setCell ⟨g, i, none⟩ (.string x)) B e (.slice (some ⟨g, 0, none⟩) n cap) n (fun j => if j = i then x else X j) := by
  refine ⟨by rw [strs_len, Nat.mul_one], ?_⟩
  rcases h.2 with ⟨hv, _⟩ | ⟨g', cap', cur, hv, h0, hgg, h1, h2, h3, h4⟩
  · cases hv
  · cases hv
    refine .inr ⟨g, cap, cur.setIfInBounds i (.string x), rfl, h0, by simp [World.setCell, Array.getElem?_modify, hgg], h1, h2, by simpa using h3, ?_⟩
    rw [Nat.mul_one] at h3 h4 ⊢
    refine List.ext_getElem? fun j => ?_
    by_cases hj : j < n
    · rw [strs_get _ _ _ hj, List.getElem?_take_of_lt hj, Array.getElem?_toList, Array.getElem?_setIfInBounds]
      by_cases e : i = j
      · subst e; rw [if_pos rfl, if_pos (by omega), if_pos rfl]
      · rw [if_neg e, if_neg (fun h => e h.symm)]
        have := strs_get n X j hj
        rw [← h4, List.getElem?_take_of_lt hj, Array.getElem?_toList] at this
        exact this
    · rw [List.getElem?_eq_none (by rw [List.length_take]; omega), List.getElem?_eq_none (by rw [strs_len]; omega)]
structure Gr (B : Nat) (z : Option Nat) (w w' : World) : Prop where
  os : w'.os = w.os
  tape : w'.tape = w.tape
  output : w'.output = w.output
  size : w.heap.size ≤ w'.heap.size
  block : ∀ q, q < B → some q ≠ z → w'.heap[q]? = w.heap[q]?
namespace Gr
variable {B : Nat} {z : Option Nat} {w w' w2 : World}
theorem refl (B : Nat) (z : Option Nat) (w : World) : Gr B z w w := ⟨rfl, rfl, rfl, Nat.le_refl _, fun _ _ _ => rfl⟩
theorem trans (h : Gr B z w w') (k : Gr B z w' w2) : Gr B z w w2 := ⟨k.os.trans h.os, k.tape.trans h.tape, k.output.trans h.output, Nat.le_trans h.size k.size, fun q hq hz => (k.block q hq hz).trans (h.block q hq hz)⟩
theorem of (h : w.grownBy w' z) (hB : B ≤ w.heap.size) : Gr B z w w' := ⟨h.os, h.tape, h.output, h.size, fun q hq hz => h.block q (by omega) hz⟩
theorem mono {B' : Nat} (h : Gr B z w w') (hB : B' ≤ B) : Gr B' z w w' := ⟨h.os, h.tape, h.output, h.size, fun q hq hz => h.block q (by omega) hz⟩
theorem set (h : Gr B z w w') {p : Addr} (hp : some p.block = z ∨ B ≤ p.block) (v : Value) : Gr B z w (w'.setCell p v) :=
  h.trans ⟨rfl, rfl, rfl, by rw [nblk_setCell]; exact Nat.le_refl _, fun q hq hz => blk_setCell_other _ _ _ _ (by
    rcases hp with e | e
    · intro e2; exact hz (by rw [e2, e])
    · omega)⟩
theorem drewN (h : Gr B z w w') (n : Nat) : Gr B z w (w'.drewN n) := h.trans ⟨rfl, rfl, rfl, Nat.le_refl _, fun _ _ _ => rfl⟩
end Gr
structure OM (w : World) (Z : Nat → Prop) (B : Nat) (eR eT : TypeId) (g n : Nat) (R : Nat → Value) (L : Nat → Nat) (X : Nat → Nat → ByteArray) : Prop where
  top : w.rowIs g eT n R
  base : B ≤ g
  zg : ¬ Z g
  zlt : ∀ b, Z b → b < w.heap.size
  row : ∀ i, i < n → OwS w B eR (R i) (L i) (X i)
  far : ∀ i, i < n → ∀ b, (R i).ownBlock = some b → b ≠ g ∧ ¬ Z b
  apart : ∀ i j, i < n → j < n → i ≠ j → ∀ b, (R i).ownBlock = some b → (R j).ownBlock ≠ some b
namespace OM
variable {w w' : World} {Z : Nat → Prop} {B : Nat} {eR eT : TypeId} {g n : Nat} {R : Nat → Value} {L : Nat → Nat} {X : Nat → Nat → ByteArray}
theorem kept {z : Option Nat} (h : OM w Z B eR eT g n R L X) (hb : w.grownBy w' z) (hz : ∀ k, z = some k → k < B) : OM w' Z B eR eT g n R L X :=
  ⟨h.top.of_block (hb.block g h.top.lt (fun e => by have := hz g e.symm; have := h.base; omega)), h.base, h.zg, fun b hb' => Nat.lt_of_lt_of_le (h.zlt b hb') hb.size, fun i hi => (h.row i hi).kept hb hz, h.far, h.apart⟩
theorem congr {X' : Nat → Nat → ByteArray} (h : OM w Z B eR eT g n R L X) (hx : ∀ i j, i < n → j < L i → X i j = X' i j) : OM w Z B eR eT g n R L X' :=
  ⟨h.top, h.base, h.zg, h.zlt, fun i hi => (h.row i hi).congr fun j hj => hx i j hi hj, h.far, h.apart⟩
theorem frozen (h : OM w Z B eR eT g n R L X) (i : Nat) : w.frozen? ⟨g, i, none⟩ = false := h.top.frozen i
theorem lt (h : OM w Z B eR eT g n R L X) : g < w.heap.size := h.top.lt
theorem rowLt (h : OM w Z B eR eT g n R L X) {i : Nat} (hi : i < n) : ∀ k, (R i).ownBlock = some k → B ≤ k ∧ k < w.heap.size := World.ownsRow.lt (h.row i hi)
theorem stored (h : OM w Z B eR eT g n R L X) {i j b cap : Nat} (hi : i < n) (hj : j < L i) (hR : R i = .slice (some ⟨b, 0, none⟩) (L i) cap) (x : ByteArray) :
    OM (w.setCell ⟨b, j, none⟩ (.string x)) Z B eR eT g n R L (fun k l => if k = i ∧ l = j then x else X k l) := by
  have hbg := (h.far i hi b (by rw [hR]; rfl)).1
  refine ⟨h.top.setOther (by show g ≠ b; exact fun e => hbg e.symm) _, h.base, h.zg, fun b hb => by rw [nblk_setCell]; exact h.zlt b hb, fun k hk => ?_, h.far, h.apart⟩
  by_cases e : k = i
  · subst e
    have := h.row k hk
    rw [hR] at this ⊢
    exact (this.set hj x).congr fun l _ => by simp
  · refine OwS.congr (World.ownsRow.kept (h.row k hk) ⟨rfl, rfl, rfl, by simp, fun q _ hq => blk_setCell_other _ _ _ _ (by show q ≠ b; intro e; exact hq (by rw [e]))⟩ (row := some b) (by
      cases hb : (R k).ownBlock with
      | none => exact .inl rfl
      | some b' => exact .inr (fun e2 => h.apart k i hk hi e b' hb (by rw [hR, Value.ownBlock]; exact e2.symm)))) fun l _ => by simp [e]
end OM
end Go.Proofs.YtjekapjbigfkbaaGreatDoor
namespace Go.Proofs.YtjekapjbigfkbaaGreatDoor
open Go Go.RowKit
set_option maxRecDepth 100000
def Is (k : KK) (e : Nat) (s : ByteArray) (x : RK k) : Prop := s.size ≤ 100000 ∧ (e = 0 → s = vtxt x.1 ∧ fitV x.1)
theorem Is.size {k : KK} {e : Nat} {s : ByteArray} {x : RK k} (h : Is k e s x) : s.size ≤ 100000 := h.1
theorem Is.mono {k : KK} {e e' : Nat} {s : ByteArray} {x : RK k} (h : Is k e s x) (he : e' = 0 → e = 0) : Is k e' s x := ⟨h.1, fun h0 => h.2 (he h0)⟩
theorem Is.vprs {k : KK} {s : ByteArray} {x : RK k} (h : Is k 0 s x) : vprs k.1 s = some x.1 := by
  obtain ⟨h1, h2⟩ := h.2 rfl; rw [h1]; exact vprs_txt h2 x.2
theorem zero_fit (k : KK) : fitV (CSR.zero : RK k).1 := (szV_zero k.1 (k := 1) (by omega)).fit (by omega)
theorem one_fit (k : KK) : fitV (CSR.one : RK k).1 := (szV_one k.1 (k := 1) (by omega)).fit (by omega)
theorem Is.zero (k : KK) (e : Nat) : Is k e (zeroF k.1) CSR.zero := ⟨zeroF_size k.1, fun _ => ⟨zeroF_eq k.2, zero_fit k⟩⟩
theorem Is.one (k : KK) (e : Nat) : Is k e (oneF k.1) CSR.one := ⟨oneF_size k.1, fun _ => ⟨oneF_eq k.2, one_fit k⟩⟩
theorem Is.eq {k : KK} {s t : ByteArray} {x y : RK k} (h : Is k 0 s x) (h' : Is k 0 t y) (e : x = y) : s = t := by
  rw [(h.2 rfl).1, (h'.2 rfl).1, e]
def TabB (B : Nat) (w : World) : Prop := ∀ w', Below B w w' → Tab w'
theorem TabB.tab {B : Nat} {w : World} (h : TabB B w) : Tab w := h w (Below.refl _ _)
theorem TabB.of {w : World} (h : Tab w) : TabB w.heap.size w := fun _ hb => h.below hb (Nat.le_refl _)
theorem TabB.kept {B : Nat} {w w' : World} {z : Option Nat} (h : TabB B w) (hg : w.grownBy w' z) (hz : ∀ k, z = some k → B ≤ k) (hB : B ≤ w.heap.size) : TabB B w' := fun w2 hb =>
  h w2 (Below.trans ⟨hg.os, hg.tape, hg.output, hg.size, fun q hq => hg.block q (by omega) (fun e => by have := hz q e.symm; omega)⟩ hb)
end Go.Proofs.YtjekapjbigfkbaaGreatDoor
namespace Go.Proofs.YtjekapjbigfkbaaGreatDoor
open Go Go.RowKit
set_option maxRecDepth 100000
def wval (k : KK) (s : ByteArray) : RK k := match h : vprs k.1 s with
  | some v => ⟨v, (vprs_some.1 h).2⟩
  | none => CSR.zero
theorem Is.val {k : KK} {s : ByteArray} {x : RK k} (h : Is k 0 s x) : wval k s = x := by
  have hv := h.vprs
  unfold wval
  split
  · rename_i v h2
    rw [hv] at h2; cases h2; rfl
  · rename_i h2
    rw [hv] at h2; cases h2
end Go.Proofs.YtjekapjbigfkbaaGreatDoor

namespace Go.Proofs.YtjekapjbigfkbaaGreatDoor
open Go Go.RowKit Go.Deep
set_option maxRecDepth 100000
def SumB (w : World) (sb : Nat) (k : Int) (e : Nat) : Prop := w.heap[sb]? = some (.cells #[.int .i64 k, .int .i64 (e : Int)] 186 (0, 0))
theorem SumB.lt {w : World} {sb e : Nat} {k : Int} (h : SumB w sb k e) : sb < w.heap.size := (Array.getElem?_eq_some_iff.1 h).1
theorem SumB.c0 {w : World} {sb e : Nat} {k : Int} (h : SumB w sb k e) : w.cell? ⟨sb, 0, none⟩ = some (.int .i64 k) := by unfold SumB at h; simp [World.cell?, h]
theorem SumB.set {w : World} {sb e : Nat} {k : Int} (h : SumB w sb k e) (e' : Nat) : SumB (w.setCell ⟨sb, 1, none⟩ (.int .i64 (e' : Int))) sb k e' := by
  unfold SumB at *; simp [World.setCell, Array.getElem?_modify, h]
theorem SumB.kept {w w' : World} {sb e : Nat} {k : Int} (h : SumB w sb k e) (hb : Below w.heap.size w w') : SumB w' sb k e := by
  unfold SumB at *; rw [hb.block sb (Array.getElem?_eq_some_iff.1 h).1]; exact h
end Go.Proofs.YtjekapjbigfkbaaGreatDoor
namespace Go.Proofs.YtjekapjbigfkbaaGreatDoor
open Go Go.RowKit Go.Deep
set_option maxRecDepth 100000
theorem info_str : (Tryz.prog.info? 9).map (fun i => (i.zero, i.size, i.bytes)) = some (some (.string ⟨#[]⟩), 1, 16) := by kernel_rfl
theorem info_strs : (Tryz.prog.info? 67).map (fun i => (i.zero, i.size, i.bytes)) = some (some (.slice none 0 0), 1, 24) := by kernel_rfl
structure Tb (w : World) (k : Int) (B tb sb g n e : Nat) (R : Nat → Value) (X : Nat → Nat → ByteArray) : Prop where
  tab : w.heap[tb]? = some (.cells #[.pointer (some ⟨sb, 0, none⟩), .slice (some ⟨g, 0, none⟩) n n] 216 (0, 0))
  sum : SumB w sb k e
  om : OM w (fun b => b = tb) B 9 67 g n R (fun _ => n) X
  sbB : sb < B
  tbB : B ≤ tb
namespace Tb
variable {w w' : World} {k : Int} {B tb sb g n e : Nat} {R : Nat → Value} {X : Nat → Nat → ByteArray}
theorem c0 (h : Tb w k B tb sb g n e R X) : w.cell? ⟨tb, 0, none⟩ = some (.pointer (some ⟨sb, 0, none⟩)) := by have := h.tab; simp [World.cell?, this]
theorem tbLt (h : Tb w k B tb sb g n e R X) : tb < w.heap.size := (Array.getElem?_eq_some_iff.1 h.tab).1
theorem kept {e' : Nat} (h : Tb w k B tb sb g n e R X) (hg : w.grownBy w' (some sb)) (hs : SumB w' sb k e') : Tb w' k B tb sb g n e' R X :=
  ⟨by rw [hg.block tb h.tbLt (by simp; have := h.sbB; have := h.tbB; omega)]; exact h.tab, hs, h.om.kept hg (fun q hq => by cases hq; exact h.sbB), h.sbB, h.tbB⟩
theorem below (h : Tb w k B tb sb g n e R X) (hb : Below w.heap.size w w') : Tb w' k B tb sb g n e R X := h.kept (gb_below hb _) (h.sum.kept hb)
theorem stored {i j b cap : Nat} (h : Tb w k B tb sb g n e R X) (hi : i < n) (hj : j < n) (hR : R i = .slice (some ⟨b, 0, none⟩) n cap) (x : ByteArray) :
    Tb (w.setCell ⟨b, j, none⟩ (.string x)) k B tb sb g n e R (fun q l => if q = i ∧ l = j then x else X q l) := by
  have hf := h.om.far i hi b (by rw [hR]; rfl)
  have hl := (h.om.rowLt hi b (by rw [hR]; rfl)).1
  refine ⟨?_, ?_, h.om.stored hi hj hR x, h.sbB, h.tbB⟩
  · rw [blk_setCell_other _ _ _ _ (by show tb ≠ b; exact fun e => hf.2 e.symm)]; exact h.tab
  · have hs := h.sum
    unfold SumB at *
    rw [blk_setCell_other _ _ _ _ (by show sb ≠ b; have := h.sbB; omega)]; exact hs
end Tb
def Prog {k : KK} (e p n i j : Nat) (M : Nat → Nat → RK k) (X Y : Nat → Nat → ByteArray) : Prop :=
  ∀ q l, q < n → l < n → if q < i ∨ (q = i ∧ l < j) then Is k e (Y q l) (CSR.elim p M q l) else Y q l = X q l
def MatIs {k : KK} (e n : Nat) (X : Nat → Nat → ByteArray) (M : Nat → Nat → RK k) : Prop := ∀ q l, q < n → l < n → Is k e (X q l) (M q l)
theorem MatIs.mono {k : KK} {e e' n : Nat} {X : Nat → Nat → ByteArray} {M : Nat → Nat → RK k} (h : MatIs e n X M) (he : e' = 0 → e = 0) : MatIs e' n X M := fun q l hq hl => (h q l hq hl).mono he
theorem Prog.start {k : KK} (e p n : Nat) (M : Nat → Nat → RK k) (X : Nat → Nat → ByteArray) : Prog e p n 0 0 M X X := fun q l hq hl => by rw [if_neg (by omega)]
theorem Prog.mono {k : KK} {e e' p n i j : Nat} {M : Nat → Nat → RK k} {X Y : Nat → Nat → ByteArray} (h : Prog e p n i j M X Y) (he : e' = 0 → e = 0) : Prog e' p n i j M X Y := fun q l hq hl => by
  have := h q l hq hl
  split
  · rename_i h1; rw [if_pos h1] at this; exact this.mono he
  · rename_i h1; rw [if_neg h1] at this; exact this
theorem Prog.skip {k : KK} {e p n i j : Nat} {M : Nat → Nat → RK k} {X Y : Nat → Nat → ByteArray} (h : Prog e p n i j M X Y) (hi : i < n) (hj : j < n) (hu : Is k e (X i j) (CSR.elim p M i j)) : Prog e p n i (j + 1) M X Y := fun q l hq hl => by
  have := h q l hq hl
  by_cases h0 : q = i ∧ l = j
  · obtain ⟨rfl, rfl⟩ := h0
    rw [if_pos (by omega)]; rw [if_neg (by omega)] at this; rw [this]; exact hu
  · split
    · rename_i h1; rw [if_pos (by omega)] at this; exact this
    · rename_i h1; rw [if_neg (by omega)] at this; exact this
theorem Prog.row {k : KK} {e p n i : Nat} {M : Nat → Nat → RK k} {X Y : Nat → Nat → ByteArray} (h : Prog e p n i n M X Y) : Prog e p n (i + 1) 0 M X Y := fun q l hq hl => by
  have := h q l hq hl
  split
  · rename_i h1; rw [if_pos (by omega)] at this; exact this
  · rename_i h1; rw [if_neg (by omega)] at this; exact this
theorem Prog.done {k : KK} {e p n : Nat} {M : Nat → Nat → RK k} {X Y : Nat → Nat → ByteArray} (h : Prog e p n n 0 M X Y) : MatIs e n Y (CSR.elim p M) := fun q l hq hl => by
  have := h q l hq hl; rwa [if_pos (by omega)] at this
theorem Prog.at {k : KK} {e p n i j : Nat} {M : Nat → Nat → RK k} {X Y : Nat → Nat → ByteArray} (h : Prog e p n i j M X Y) (hi : i < n) (hj : j < n) : Y i j = X i j := by
  have := h i j hi hj; rwa [if_neg (by omega)] at this
structure FitE {k : KK} (n p : Nat) (M : Nat → Nat → RK k) : Prop where
  star : fitV (CSR.star (M p p)).1
  first : ∀ i, i < n → fitV (M i p * CSR.star (M p p)).1
  second : ∀ i j, i < n → j < n → fitV (M i p * CSR.star (M p p) * M p j).1
  sum : ∀ i j, i < n → j < n → fitV (CSR.elim p M i j).1
end Go.Proofs.YtjekapjbigfkbaaGreatDoor

namespace Go.Proofs.YtjekapjbigfkbaaGreatDoor
open Go Go.RowKit Go.Deep
set_option maxRecDepth 100000
theorem toList_eq {a b : ByteArray} (h : (a.toList == b.toList) = true) : a = b := by
  rw [beq_iff_eq, Lib.toList_data, Lib.toList_data] at h
  exact ByteArray.ext (Array.toList_inj.1 h)
end Go.Proofs.YtjekapjbigfkbaaGreatDoor

namespace Go.Proofs.YtjekapjbigfkbaaGreatDoor
open Go Go.RowKit Go.Deep
set_option maxRecDepth 100000
section
variable {P : Program} {ops : Array Oper} {Q : Exit → Act → World → Prop} {S : World → Prop} {s : Nat}
def AnyK (P : Program) (ops : Array Oper) (Q : Exit → Act → World → Prop) (S : World → Prop) (s : Nat) : Nat → Array Bool → Act → World → Prop
  | 0, listed, a, w => Region.ready .any ops listed = [] ∧ Q .normal a w
  | fuel + 1, listed, a, w => (Region.ready .any ops listed = [] → Q .normal a w) ∧
    ∀ i ∈ Region.ready .any ops listed, wpOp P ops Q i (fun a' w' => (i = s ∨ S w') ∧ AnyK P ops Q S s fuel (listed.setIfInBounds i true) a' w') a w
theorem AnyK.any : ∀ (fuel : Nat) (listed : Array Bool) (a : Act) (w : World), AnyK P ops Q S s fuel listed a w → wpAny P .any ops Q fuel listed a w
  | 0, _, _, _, h => h
  | fuel + 1, _, _, _, h => ⟨h.1, fun i hi => wpOp_mono (fun a' w' h' => AnyK.any fuel _ a' w' h'.2) (h.2 i hi)⟩
def waits (ops : Array Oper) : Nat → Nat → Nat → Bool
  | 0, _, _ => false
  | f + 1, s, i => match ops[s]? with
    | some o => o.after.any fun e => Region.binds .any e && (e.on == i || waits ops f e.on i)
    | none => false
def Closed (ops : Array Oper) (listed : Array Bool) : Prop := ∀ j o, listed.getD j false = true → ops[j]? = some o → ∀ e ∈ o.after, Region.binds .any e = true → listed.getD e.on false = true
def closedB (ops : Array Oper) (listed : Array Bool) : Bool := (List.range ops.size).all fun j => !listed.getD j false || match ops[j]? with
  | some o => o.after.all fun e => !Region.binds .any e || listed.getD e.on false
  | none => true
theorem closed_of {listed : Array Bool} (h : closedB ops listed = true) : Closed ops listed := fun j o hj ho e he hb => by
  have h1 := List.all_eq_true.1 h j (List.mem_range.2 (Array.getElem?_eq_some_iff.1 ho).1)
  rw [hj, ho] at h1
  simp only [Bool.not_true, Bool.false_or] at h1
  have h2 := Array.all_eq_true_iff_forall_mem.1 h1 e he
  rw [hb] at h2; simpa using h2
theorem Closed.set {listed : Array Bool} {j : Nat} (h : Closed ops listed) (hj : j ∈ Region.ready .any ops listed) : Closed ops (listed.setIfInBounds j true) := fun k o hk ho e he hb => by
  by_cases hjk : j = k
  · subst hjk
    obtain ⟨_, o', ho', hall⟩ := mem_ready.1 hj
    rw [ho] at ho'; cases ho'
    exact getD_set_true (hall e he hb)
  · rw [getD_set_ne false hjk] at hk
    exact getD_set_true (h k o hk ho e he hb)
theorem waits_listed {listed : Array Bool} (hc : Closed ops listed) {i : Nat} : ∀ (f s : Nat), waits ops f s i = true → (∀ o, ops[s]? = some o → ∀ e ∈ o.after, Region.binds .any e = true → listed.getD e.on false = true) → listed.getD i false = true := by
  intro f
  induction f with
  | zero => intro s h; simp [waits] at h
  | succ f ih =>
    intro s h hp
    unfold waits at h
    cases ho : ops[s]? with
    | none => rw [ho] at h; simp at h
    | some o =>
      rw [ho] at h
      obtain ⟨e, he, hb⟩ := Array.any_eq_true'.1 h
      simp only [Bool.and_eq_true, Bool.or_eq_true, beq_iff_eq] at hb
      have hl := hp o ho e he hb.1
      rcases hb.2 with h2 | h2
      · rw [← h2]; exact hl
      · exact ih e.on h2 (fun o' ho' e' he' hb' => hc e.on o' hl ho' e' he' hb')
theorem AnyK.first {i : Nat} {oi : Oper} {v : Value} (hi : ops[i]? = some oi) (hw : waits ops ops.size s i = true) (hsel : ∀ (j : Nat) (o : Oper) cs b, ops[j]? = some o → o.op ≠ .select cs b)
    (hQ : ∀ c a w, Q (.panic c) (a.put oi.dst v) w → Q (.panic c) a w) :
    ∀ (fuel : Nat) (listed : Array Bool) (a : Act) (w : World),
      (∀ j oj, ops[j]? = some oj → j ≠ i → listed.getD j true = false → (∀ e ∈ oj.after, Region.binds .any e = true → e.on ≠ i) → oi.apart ops oj = true) →
      i ∈ Region.ready .any ops listed → Closed ops listed → YieldsIf P ops S oi v a → S w →
      AnyK P ops Q S s fuel (listed.setIfInBounds i true) (a.put oi.dst v) w → AnyK P ops Q S s (fuel + 1) listed a w := by
  intro fuel
  induction fuel with
  | zero =>
    intro listed a w _ hr hcl hy hS H
    refine ⟨fun h => (by rw [h] at hr; cases hr), fun j hj => ?_⟩
    by_cases hji : j = i
    · subst hji; exact hy.wpOp hi hS ⟨.inr hS, H⟩
    · have := ready_mono hj hji
      rw [H.1] at this
      cases this
  | succ fuel ih =>
    intro listed a w hfree hr hcl hy hS H
    refine ⟨fun h => (by rw [h] at hr; cases hr), fun j hj => ?_⟩
    by_cases hji : j = i
    · subst hji; exact hy.wpOp hi hS ⟨.inr hS, H⟩
    · have h1 := H.2 j (ready_mono hj hji)
      obtain ⟨hjun, oj, hoj, hall⟩ := mem_ready.1 hj
      have hopen : listed.getD i false = false := by
        have h0 := (mem_ready.1 hr).1
        rcases Nat.lt_or_ge i listed.size with h' | h'
        · simp [h'] at h0 ⊢; exact h0
        · simp [Array.getElem?_eq_none h']
      have hnot : ∀ e ∈ oj.after, Region.binds .any e = true → e.on ≠ i := fun e he hb heq => by
        have h1 := hall e he hb
        rw [heq, hopen] at h1; cases h1
      have hjs : j ≠ s := fun e => by
        subst e
        have := waits_listed hcl _ _ hw (fun o' ho' e he hb => by rw [hoj] at ho'; cases ho'; exact hall e he hb)
        rw [hopen] at this; cases this
      have h2 := wpOp_putIf hoj (hfree j oj hoj hji hjun hnot) (fun cs b => hsel i oi cs b hi) (fun cs b => hsel j oj cs b hoj) hQ hy h1
      have hfree' : ∀ k ok, ops[k]? = some ok → k ≠ i → (listed.setIfInBounds j true).getD k true = false →
          (∀ e ∈ ok.after, Region.binds .any e = true → e.on ≠ i) → oi.apart ops ok = true := fun k ok hk hki hun hno => by
        refine hfree k ok hk hki ?_ hno
        by_cases hjk : j = k
        · subst hjk; exact hjun
        · rw [getD_set_ne true hjk] at hun; exact hun
      refine wpOp_mono (fun a' w' h3 => ?_) h2
      have hS' : S w' := h3.2.1.resolve_left hjs
      refine ⟨.inr hS', ih (listed.setIfInBounds j true) a' w' hfree' (ready_mono hr (Ne.symm hji)) (hcl.set hj) h3.1 hS' ?_⟩
      rw [Array.setIfInBounds_comm _ _ hji]
      exact h3.2.2
theorem AnyK.take {i : Nat} {oi : Oper} {v : Value} {fuel : Nat} {listed : Array Bool} {a : Act} {w : World} (hi : ops[i]? = some oi) (hw : waits ops ops.size s i = true) (hcl : closedB ops listed = true)
    (hs : Region.noSelect ops = true) (hf : Region.free .any ops listed i = true) (hr : (Region.ready .any ops listed).contains i = true)
    (hQ : ∀ c a w, Q (.panic c) (a.put oi.dst v) w → Q (.panic c) a w) (hS : S w) (hy : YieldsIf P ops S oi v a)
    (h : AnyK P ops Q S s fuel (listed.setIfInBounds i true) (a.put oi.dst v) w) : AnyK P ops Q S s (fuel + 1) listed a w :=
  AnyK.first hi hw (Region.noSelect_spec hs) hQ fuel listed a w (Region.free_spec hi hf) (by simpa using hr) (closed_of hcl) hy hS h
def tkB (ops : Array Oper) (s i : Nat) (listed : Array Bool) : Bool := waits ops ops.size s i && closedB ops listed && Region.noSelect ops && Region.free .any ops listed i && (Region.ready .any ops listed).contains i
theorem AnyK.tk {i : Nat} {oi : Oper} {v : Value} {fuel : Nat} {listed : Array Bool} {a : Act} {w : World} (hi : ops[i]? = some oi) (hb : tkB ops s i listed = true) (hS : S w) (hy : YieldsIf P ops S oi v a)
    (h : AnyK P ops Q S s fuel (listed.setIfInBounds i true) (a.put oi.dst v) w) (hQ : ∀ c a w, Q (.panic c) (a.put oi.dst v) w → Q (.panic c) a w := by exact fun _ _ _ h => h) : AnyK P ops Q S s (fuel + 1) listed a w := by
  unfold tkB at hb
  simp only [Bool.and_eq_true] at hb
  exact AnyK.take hi hb.1.1.1.1 hb.1.1.1.2 hb.1.1.2 hb.1.2 hb.2 hQ hS hy h
theorem AnyK.one {i : Nat} {o : Oper} {fuel : Nat} {listed : Array Bool} {a : Act} {w : World} (ho : ops[i]? = some o) (hr : Region.ready .any ops listed = [i]) (hwant : Region.wanted o (yielded ops a.tmps) = true)
    (h : ∀ K : Act → World → Prop, Shut (∀ a w, (i = s ∨ S w) → AnyK P ops Q S s fuel (listed.setIfInBounds i true) a w → K a w) → Oper.wp P o a w K Q) : AnyK P ops Q S s (fuel + 1) listed a w := by
  refine ⟨fun h0 => (by rw [hr] at h0; cases h0), fun j hj => ?_⟩
  rw [hr] at hj
  obtain rfl : j = i := by simpa using hj
  exact wpOp_step ho (fun K hK => by rw [if_pos hwant]; exact h K (fun a w hS hW => hK a w ⟨hS, hW⟩))
theorem AnyK.done {listed : Array Bool} {a : Act} {w : World} (hr : Region.ready .any ops listed = []) (h : Q .normal a w) : ∀ fuel, AnyK P ops Q S s fuel listed a w
  | 0 => ⟨hr, h⟩
  | _ + 1 => ⟨fun _ => h, by rw [hr]; simp⟩
theorem region_heldK (S : World → Prop) (s : Nat) {id : Nat} {a : Act} {w : World} (hm : P.follows .mixedOrders = true)
    (h : AnyK P ops Q S s ops.size (Array.replicate ops.size false) a w.drew) : (Code.region id ops true).wp P Q a w :=
  wp_region_any hm (AnyK.any _ _ _ _ h)
end
end Go.Proofs.YtjekapjbigfkbaaGreatDoor
namespace Go.Proofs.YtjekapjbigfkbaaGreatDoor
open Go Go.RowKit Go.Deep
set_option maxRecDepth 100000
set_option linter.unusedSimpArgs false
structure FitM {k : KK} (n : Nat) (M : Nat → Nat → RK k) : Prop where
  steps : ∀ p, p < n → FitE n p (CSR.elims M p)
  last : ∀ i, i < n → fitV (CSR.elims M n i i + CSR.one).1
def Diag {k : KK} (e n c : Nat) (Z : Nat → Nat → ByteArray) (N : Nat → Nat → RK k) : Prop := ∀ l j, l < n → j < n → Is k e (Z l j) (if l = j ∧ l < c then N l j + CSR.one else N l j)
theorem Diag.start {k : KK} {e n : Nat} {Z : Nat → Nat → ByteArray} {N : Nat → Nat → RK k} (h : MatIs e n Z N) : Diag e n 0 Z N := fun l j hl hj => by rw [if_neg (by omega)]; exact h l j hl hj
theorem Diag.done {k : KK} {e n : Nat} {Z : Nat → Nat → ByteArray} {M : Nat → Nat → RK k} (h : Diag e n n Z (CSR.elims M n)) : MatIs e n Z (CSR.starM M n) := fun l j hl hj => by
  have := h l j hl hj
  unfold CSR.starM CSR.eye
  by_cases h1 : l = j
  · rw [if_pos ⟨h1, hl⟩] at this; rw [if_pos h1]; exact this
  · rw [if_neg (fun h => h1 h.1)] at this; rw [if_neg h1, CSR.a0]; exact this
end Go.Proofs.YtjekapjbigfkbaaGreatDoor
