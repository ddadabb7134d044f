/- Common words: slices of integers as lists of natural numbers, and what becomes of them when the heap grows. -/
import Derived.Test.YtlmfppjphblemaaGreatDoorProg
import Derived.Test.YtlmfppjphblemaaGreatDoorStr
import Derived.WalkKit
import Derived.WalkSpells
import Derived.WalkLawsBesides
import Derived.Lib.Hide
import Derived.Lib.Strings
namespace Go.Proofs.YtlmfppjphblemaaGreatDoor
open Go Go.RowKit
set_option maxRecDepth 100000

theorem ret_bool {a b : Bool} (h : a = b) : Ending.returned (.bool a) = .returned (.bool b) := by rw [h]
theorem ret_int {k : IntKind} {a b : Int} (h : a = b) : Ending.returned (.int k a) = .returned (.int k b) := by rw [h]
theorem ret_str {a b : ByteArray} (h : a = b) : Ending.returned (.string a) = .returned (.string b) := by rw [h]

theorem ret_pair {k k' : IntKind} {a b a' b' : Int} (h : a = a') (h' : b = b') : Ending.returned (.tuple #[.int k a, .int k' b]) = .returned (.tuple #[.int k a', .int k' b']) := by rw [h, h']
theorem below_drewN {B : Nat} {a w : World} (h : Below B a w) (n : Nat) : Below B a (w.drewN n) := h.trans ⟨rfl, rfl, rfl, Nat.le_refl _, fun _ _ => rfl⟩
def lenV (v : Value) : Nat := match v with | .slice _ n _ => n | _ => 0
theorem lenV_slice (a : Option Addr) (n c : Nat) : lenV (.slice a n c) = n := rfl
def strV (v : Value) : Nat := match v with | .string s => s.size | _ => 0
theorem strV_string (s : ByteArray) : strV (.string s) = s.size := rfl
def nth (xs : List Nat) (i : Nat) : Nat := xs.getD i 0
theorem nth_get (xs : List Nat) (i : Nat) (h : i < xs.length) : nth xs i = xs[i] := by simp [nth, List.getD_eq_getElem?_getD, h]
theorem nth_out (xs : List Nat) (i : Nat) (h : xs.length ≤ i) : nth xs i = 0 := by simp [nth, List.getD_eq_getElem?_getD, h]
theorem nth_take (xs : List Nat) (k i : Nat) (h : i < k) : nth (xs.take k) i = nth xs i := by simp [nth, List.getD_eq_getElem?_getD, h]
theorem take_snocN (xs : List Nat) (k : Nat) (h : k < xs.length) : xs.take (k + 1) = xs.take k ++ [nth xs k] := by
  rw [List.take_succ_eq_append_getElem h, nth_get xs k h]
def vals (k : IntKind) (xs : List Nat) : List Value := xs.map fun n : Nat => Value.int k (n : Int)
theorem vals_len (k : IntKind) (xs : List Nat) : (vals k xs).length = xs.length := by simp [vals]
theorem vals_snoc (k : IntKind) (xs : List Nat) (n : Nat) : vals k xs ++ [.int k (n : Int)] = vals k (xs ++ [n]) := by simp [vals]
theorem vals_take (k : IntKind) (xs : List Nat) (n : Nat) : (vals k xs).take n = vals k (xs.take n) := by simp [vals, List.map_take]
theorem vals_get (k : IntKind) (xs : List Nat) (i : Nat) (h : i < xs.length) : (vals k xs)[i]? = some (.int k ((nth xs i : Nat) : Int)) := by
  rw [nth_get xs i h]; simp [vals, h]

/-- A slice of integers that can be read: nil, or its cells lie in the heap. -/
def Sl (w : World) (k : IntKind) (v : Value) (xs : List Nat) : Prop :=
  (v = .slice none 0 0 ∧ xs = []) ∨ ∃ b off cap, v = .slice (some ⟨b, off, none⟩) xs.length cap ∧ b < w.heap.size ∧ xs.length ≤ cap ∧ cap ≤ maxLen ∧
    ∀ i, i < xs.length → w.cell? ⟨b, off + i, none⟩ = some (.int k ((nth xs i : Nat) : Int))

theorem Sl.open {w : World} {k : IntKind} {v : Value} {xs : List Nat} (h : Sl w k v xs) : ∃ a cap b off, v = .slice a xs.length cap ∧ (0 < xs.length → a = some ⟨b, off, none⟩) ∧ xs.length ≤ cap ∧ cap ≤ maxLen ∧
    (0 < xs.length → b < w.heap.size) ∧ ∀ i, i < xs.length → w.cell? ⟨b, off + i, none⟩ = some (.int k ((nth xs i : Nat) : Int)) := by
  rcases h with ⟨hv, rfl⟩ | ⟨b, off, cap, hv, h1, h2, h3, h4⟩
  · exact ⟨none, 0, 0, 0, hv, by simp, by simp, by simp, by simp, by simp⟩
  · exact ⟨_, cap, b, off, hv, fun _ => rfl, h2, h3, fun _ => h1, h4⟩
theorem Sl.nil (w : World) (k : IntKind) : Sl w k (.slice none 0 0) [] := .inl ⟨rfl, rfl⟩
theorem Sl.below {B : Nat} {w w' : World} {k : IntKind} {v : Value} {xs : List Nat} (h : Sl w k v xs) (hb : Below B w w') (hB : w.heap.size ≤ B) : Sl w' k v xs := by
  rcases h with h | ⟨b, off, cap, hv, h1, h2, h3, h4⟩
  · exact .inl h
  · exact .inr ⟨b, off, cap, hv, Nat.lt_of_lt_of_le h1 hb.size, h2, h3, fun i hi => (hb.cell (p := ⟨b, off + i, none⟩) (by show b < B; omega)).trans (h4 i hi)⟩
theorem Sl.take {w : World} {k : IntKind} {a : Option Addr} {n cap m : Nat} {xs : List Nat} (h : Sl w k (.slice a n cap) xs) (hm : m ≤ xs.length) : Sl w k (.slice a m cap) (xs.take m) := by
  rcases h with ⟨hv, rfl⟩ | ⟨b, off, c, hv, h1, h2, h3, h4⟩
  · simp at hv hm; subst hm; obtain ⟨rfl, rfl, rfl⟩ := hv; exact .inl ⟨rfl, rfl⟩
  · simp at hv; obtain ⟨rfl, rfl, rfl⟩ := hv
    refine .inr ⟨b, off, cap, by rw [List.length_take, Nat.min_eq_left hm], h1, by rw [List.length_take]; omega, h3, fun i hi => ?_⟩
    rw [List.length_take] at hi
    rw [nth_take _ _ _ (by omega)]; exact h4 i (by omega)

/-- A slice of integers of one's own: in a block from B on, nobody else's. -/
def Own (w : World) (B : Nat) (e : TypeId) (k : IntKind) (v : Value) (xs : List Nat) : Prop := w.ownsRow B e 1 v xs.length (vals k xs)

theorem Own.nil (w : World) (B : Nat) (e : TypeId) (k : IntKind) : Own w B e k (.slice none 0 0) [] := World.ownsRow_nil w B e 1
theorem Own.sl {w : World} {B : Nat} {e : TypeId} {k : IntKind} {v : Value} {xs : List Nat} (h : Own w B e k v xs) : Sl w k v xs := by
  rcases h.2 with ⟨hv, h0⟩ | ⟨g, cap, cur, hv, _, hg, h1, h2, h3, h4⟩
  · exact .inl ⟨hv, List.length_eq_zero_iff.1 h0⟩
  · refine .inr ⟨g, 0, cap, hv, (Array.getElem?_eq_some_iff.1 hg).1, h1, h2, fun i hi => ?_⟩
    subst hv
    rw [Nat.zero_add, World.ownsRow.cellAt h i (by omega), vals_get k xs i hi]
theorem Own.kept {w w' : World} {B : Nat} {e : TypeId} {k : IntKind} {v : Value} {xs : List Nat} {B' : Nat} (h : Own w B e k v xs) (hb : Below B' w w') (hB : w.heap.size ≤ B') : Own w' B e k v xs := by
  refine ⟨h.1, ?_⟩
  rcases h.2 with hn | ⟨g, cap, cur, rfl, h0, hgg, rest⟩
  · exact .inl hn
  · have := (Array.getElem?_eq_some_iff.1 hgg).1
    exact .inr ⟨g, cap, cur, rfl, h0, by rw [hb.block g (by omega)]; exact hgg, rest⟩
theorem Own.mono {w : World} {B B' : Nat} {e : TypeId} {k : IntKind} {v : Value} {xs : List Nat} (h : Own w B e k v xs) (hB : B' ≤ B) : Own w B' e k v xs := by
  refine ⟨h.1, ?_⟩
  rcases h.2 with hn | ⟨g, cap, cur, rfl, h0, rest⟩
  · exact .inl hn
  · exact .inr ⟨g, cap, cur, rfl, by omega, rest⟩
theorem Own.take {w : World} {B : Nat} {e : TypeId} {k : IntKind} {a : Option Addr} {n cap m : Nat} {xs : List Nat} (h : Own w B e k (.slice a n cap) xs) (hm : m ≤ xs.length) : Own w B e k (.slice a m cap) (xs.take m) := by
  have hl : (xs.take m).length = m := by rw [List.length_take]; omega
  refine ⟨by rw [vals_len]; omega, ?_⟩
  rw [hl]
  rcases h.2 with ⟨hv, h0⟩ | ⟨g, c, cur, hv, h0, hgg, h1, h2, h3, h4⟩
  · simp at hv; obtain ⟨rfl, rfl, rfl⟩ := hv; have : m = 0 := by omega
    subst this; exact .inl ⟨rfl, rfl⟩
  · simp only [Value.slice.injEq] at hv; obtain ⟨rfl, rfl, rfl⟩ := hv
    refine .inr ⟨g, cap, cur, rfl, h0, hgg, by omega, h2, h3, ?_⟩
    rw [← vals_take, ← h4, List.take_take]; congr 1; omega
/-- Behind 'append' of one element. -/
theorem Own.appended {w wr w1 : World} {B : Nat} {e : TypeId} {k : IntKind} {v v' : Value} {l : List Nat} {x : Nat} {o : Obj} (h : Own wr B e k v l) (hb : Below B w wr) (hB : B ≤ wr.heap.size)
    (h1 : w1.ownsRow B e 1 v' (l.length + 1) (vals k l ++ [.int k (x : Int)])) (hg : (wr.alloc o).grownBy w1 v.ownBlock) : Own w1 B e k v' (l ++ [x]) ∧ Below B w w1 := by
  constructor
  · unfold Own; rw [vals_snoc] at h1; rw [List.length_append]; exact h1
  · exact (hb.alloc hB o).grown hg (by simp; omega) (fun q hq => (World.ownsRow.lt h q hq).1)
theorem Own.raw {w : World} {B : Nat} {e : TypeId} {k : IntKind} {v : Value} {l : List Nat} (h : Own w B e k v l) : w.ownsRow B e 1 v l.length (vals k l) := h
theorem one_cell (k : IntKind) (x : Int) : ∀ u ∈ [Value.int k x], u.oneCell' = true := by intro u hu; simp at hu; subst hu; rfl
theorem Own.shape {w : World} {B : Nat} {e : TypeId} {k : IntKind} {v : Value} {xs : List Nat} (h : Own w B e k v xs) : ∃ a cap, v = .slice a xs.length cap := by
  rcases h.2 with ⟨hv, h0⟩ | ⟨g, cap, cur, hv, _⟩
  · exact ⟨none, 0, by rw [hv, h0]⟩
  · exact ⟨_, cap, hv⟩
theorem Sl.shape {w : World} {k : IntKind} {v : Value} {xs : List Nat} (h : Sl w k v xs) : ∃ a cap, v = .slice a xs.length cap := by
  rcases h with ⟨hv, h0⟩ | ⟨b, off, cap, hv, _⟩
  · exact ⟨none, 0, by rw [hv, h0]; rfl⟩
  · exact ⟨_, cap, hv⟩
end Go.Proofs.YtlmfppjphblemaaGreatDoor
