/- Slices of one-cell values and matrices of strings: what can be read, and what is the call's own. What the strings of a computation stand for, as long as no number was too long. The value that a string is read as, as an element of the semiring. -/
import Derived.Test.YtlmfppjphblemaaGreatDoorCom
import Derived.Deep.OwnRows
import Derived.Deep.AppendLies
import Derived.Test.YtlmfppjphblemaaGreatDoorC1
import Derived.Test.YtlmfppjphblemaaGreatDoorMX
import Derived.Test.YtlmfppjphblemaaGreatDoorMR4
namespace Go.Proofs.YtlmfppjphblemaaGreatDoor
open Go Go.RowKit Go.Deep
set_option maxRecDepth 100000

/-! ### What becomes of the world -/
theorem gb_refl (w : World) (z : Option Nat) : w.grownBy w z := ⟨rfl, rfl, rfl, Nat.le_refl _, fun _ _ _ => rfl⟩
theorem gb_trans {a b c : World} {z : Option Nat} (h : a.grownBy b z) (k : b.grownBy c z) : a.grownBy c z :=
  ⟨k.os.trans h.os, k.tape.trans h.tape, k.output.trans h.output, Nat.le_trans h.size k.size, fun q hq hz => (k.block q (Nat.lt_of_lt_of_le hq h.size) hz).trans (h.block q hq hz)⟩
theorem gb_below {w w' : World} (h : Below w.heap.size w w') (z : Option Nat) : w.grownBy w' z := ⟨h.os, h.tape, h.output, h.size, fun q hq _ => h.block q hq⟩
theorem gb_none {w w' : World} (h : w.grownBy w' none) : Below w.heap.size w w' := ⟨h.os, h.tape, h.output, h.size, fun q hq => h.block q hq (by simp)⟩
theorem gb_drewN {a w : World} {z : Option Nat} (h : a.grownBy w z) (n : Nat) : a.grownBy (w.drewN n) z := gb_trans h ⟨rfl, rfl, rfl, Nat.le_refl _, fun _ _ _ => rfl⟩
/-- A store into z, or into what is new. -/
theorem gb_set {a w : World} {z : Option Nat} (h : a.grownBy w z) {p : Addr} (hp : some p.block = z ∨ a.heap.size ≤ p.block) (v : Value) : a.grownBy (w.setCell p v) z :=
  ⟨h.os, h.tape, h.output, by rw [nblk_setCell]; exact h.size, fun q hq hz => by
    rw [blk_setCell_other _ _ _ _ (by rcases hp with e | e; exact fun e2 => hz (by rw [e2, e]); omega)]; exact h.block q hq hz⟩
/-! ### What can be read -/
/-- A slice of n one-cell values, not in block z. -/
def Rd (z : Option Nat) (w : World) (v : Value) (n : Nat) (f : Nat → Value) : Prop :=
  (n = 0 ∧ ∃ a cap, v = .slice a 0 cap ∧ cap ≤ maxLen) ∨ ∃ b off cap, v = .slice (some ⟨b, off, none⟩) n cap ∧ (b < w.heap.size ∧ some b ≠ z) ∧ n ≤ cap ∧ cap ≤ maxLen ∧ ∀ i, i < n → w.cell? ⟨b, off + i, none⟩ = some (f i)
theorem Rd.kept {z : Option Nat} {w w' : World} {v : Value} {n : Nat} {f : Nat → Value} (h : Rd z w v n f) (hb : w.grownBy w' z) : Rd z w' v n f := by
  rcases h with h | ⟨b, off, cap, hv, h1, h2, h3, h4⟩
  · exact .inl h
  · exact .inr ⟨b, off, cap, hv, ⟨Nat.lt_of_lt_of_le h1.1 hb.size, h1.2⟩, h2, h3, fun i hi => (hb.cell_far ⟨b, off + i, none⟩ h1.1 h1.2).trans (h4 i hi)⟩
theorem Rd.open {z : Option Nat} {w : World} {v : Value} {n : Nat} {f : Nat → Value} (h : Rd z w v n f) : ∃ a cap b off, v = .slice a n cap ∧ (0 < n → a = some ⟨b, off, none⟩) ∧ n ≤ cap ∧ cap ≤ maxLen ∧
    (0 < n → b < w.heap.size ∧ some b ≠ z) ∧ ∀ i, i < n → w.cell? ⟨b, off + i, none⟩ = some (f i) := by
  rcases h with ⟨rfl, a, cap, hv, hm⟩ | ⟨b, off, cap, hv, h1, h2, h3, h4⟩
  · exact ⟨a, cap, 0, 0, hv, by simp, by simp, hm, by simp, by simp⟩
  · exact ⟨_, cap, b, off, hv, fun _ => rfl, h2, h3, fun _ => h1, h4⟩
theorem Rd.congr {z : Option Nat} {w : World} {v : Value} {n : Nat} {f g : Nat → Value} (h : Rd z w v n f) (e : ∀ i, i < n → f i = g i) : Rd z w v n g := by
  rcases h with h | ⟨b, off, cap, hv, h1, h2, h3, h4⟩
  · exact .inl h
  · exact .inr ⟨b, off, cap, hv, h1, h2, h3, fun i hi => by rw [h4 i hi, e i hi]⟩
theorem Rd.shape {z : Option Nat} {w : World} {v : Value} {n : Nat} {f : Nat → Value} (h : Rd z w v n f) : ∃ a cap, v = .slice a n cap := by
  obtain ⟨a, cap, _, _, hv, _⟩ := h.open; exact ⟨a, cap, hv⟩
theorem Rd.any {z : Option Nat} {w : World} {v : Value} {n : Nat} {f : Nat → Value} (h : Rd z w v n f) : Rd none w v n f := by
  rcases h with h | ⟨b, off, cap, hv, h1, h2⟩
  · exact .inl h
  · exact .inr ⟨b, off, cap, hv, ⟨h1.1, by simp⟩, h2⟩
theorem Rd.far {k : Nat} {z : Option Nat} {w : World} {v : Value} {n : Nat} {f : Nat → Value} (h : Rd z w v n f) (hk : w.heap.size ≤ k) : Rd (some k) w v n f := by
  rcases h with h | ⟨b, off, cap, hv, h1, h2⟩
  · exact .inl h
  · exact .inr ⟨b, off, cap, hv, ⟨h1.1, by simp; omega⟩, h2⟩
/-- A slice of strings. -/
def Ss (z : Option Nat) (w : World) (v : Value) (n : Nat) (X : Nat → ByteArray) : Prop := Rd z w v n fun i => .string (X i)
/-- A slice of slices of strings. -/
def Mt (z : Option Nat) (w : World) (v : Value) (n : Nat) (L : Nat → Nat) (X : Nat → Nat → ByteArray) : Prop := ∃ R, Rd z w v n R ∧ ∀ i, i < n → Ss z w (R i) (L i) (X i)
section
variable {z : Option Nat} {w w' : World} {v : Value} {n : Nat} {L L' : Nat → Nat} {X X' : Nat → Nat → ByteArray}
theorem Mt.kept (h : Mt z w v n L X) (hb : w.grownBy w' z) : Mt z w' v n L X := by
  obtain ⟨R, h1, h2⟩ := h
  exact ⟨R, h1.kept hb, fun i hi => Rd.kept (h2 i hi) hb⟩
theorem Mt.any (h : Mt z w v n L X) : Mt none w v n L X := by
  obtain ⟨R, h1, h2⟩ := h
  exact ⟨R, h1.any, fun i hi => Rd.any (h2 i hi)⟩
theorem Mt.far {k : Nat} (h : Mt z w v n L X) (hk : w.heap.size ≤ k) : Mt (some k) w v n L X := by
  obtain ⟨R, h1, h2⟩ := h
  exact ⟨R, h1.far hk, fun i hi => Rd.far (h2 i hi) hk⟩
theorem Mt.congr (h : Mt z w v n L X) (hL : ∀ i, i < n → L i = L' i) (hX : ∀ i j, i < n → j < L i → X i j = X' i j) : Mt z w v n L' X' := by
  obtain ⟨R, h1, h2⟩ := h
  exact ⟨R, h1, fun i hi => by rw [← hL i hi]; exact Rd.congr (h2 i hi) fun j hj => by rw [hX i j hi hj]⟩
theorem Mt.shape (h : Mt z w v n L X) : ∃ a cap, v = .slice a n cap := by
  obtain ⟨R, h1, _⟩ := h; exact h1.shape
/-- All that a walk wants of a matrix that it reads. -/
theorem Mt.open (h : Mt z w v n L X) :
    ∃ a cap b off, ∃ (A : Nat → Option Addr) (C B O : Nat → Nat), v = .slice a n cap ∧ (0 < n → a = some ⟨b, off, none⟩) ∧ n ≤ cap ∧ cap ≤ maxLen ∧ (0 < n → b < w.heap.size ∧ some b ≠ z) ∧
      ∀ i, i < n → w.cell? ⟨b, off + i, none⟩ = some (.slice (A i) (L i) (C i)) ∧ L i ≤ C i ∧ C i ≤ maxLen ∧ (0 < L i → A i = some ⟨B i, O i, none⟩) ∧ (0 < L i → B i < w.heap.size ∧ some (B i) ≠ z) ∧ Ss z w (.slice (A i) (L i) (C i)) (L i) (X i) ∧
        ∀ j, j < L i → w.cell? ⟨B i, O i + j, none⟩ = some (.string (X i j)) := by
  obtain ⟨R, h1, h2⟩ := h
  obtain ⟨a, cap, b, off, hv, ha, hc, hm, hb, hcell⟩ := h1.open
  classical
  have hall : ∀ i, ∃ t : Option Addr × Nat × Nat × Nat, i < n → R i = .slice t.1 (L i) t.2.1 ∧ (0 < L i → t.1 = some ⟨t.2.2.1, t.2.2.2, none⟩) ∧ L i ≤ t.2.1 ∧ t.2.1 ≤ maxLen ∧ (0 < L i → t.2.2.1 < w.heap.size ∧ some t.2.2.1 ≠ z) ∧
      ∀ j, j < L i → w.cell? ⟨t.2.2.1, t.2.2.2 + j, none⟩ = some (.string (X i j)) := fun i => by
    by_cases hi : i < n
    · obtain ⟨a', c', b', o', k1, k2, k3, k4, k5, k6⟩ := Rd.open (h2 i hi)
      exact ⟨(a', c', b', o'), fun _ => ⟨k1, k2, k3, k4, k5, k6⟩⟩
    · exact ⟨(none, 0, 0, 0), fun h => absurd h hi⟩
  refine ⟨a, cap, b, off, fun i => (Classical.choose (hall i)).1, fun i => (Classical.choose (hall i)).2.1, fun i => (Classical.choose (hall i)).2.2.1, fun i => (Classical.choose (hall i)).2.2.2, hv, ha, hc, hm, hb, fun i hi => ?_⟩
  obtain ⟨k1, k2, k3, k4, k5, k6⟩ := Classical.choose_spec (hall i) hi
  refine ⟨by rw [hcell i hi, k1], k3, k4, k2, k5, ?_, k6⟩
  rw [← k1]; exact h2 i hi
end

/-! ### What is one's own -/
def strs (n : Nat) (X : Nat → ByteArray) : List Value := (List.range n).map fun j => .string (X j)
theorem strs_len (n : Nat) (X : Nat → ByteArray) : (strs n X).length = n := by simp [strs]
theorem strs_get (n : Nat) (X : Nat → ByteArray) (i : Nat) (h : i < n) : (strs n X)[i]? = some (.string (X i)) := by simp [strs, h]
theorem strs_snoc (n : Nat) (X : Nat → ByteArray) : strs n X ++ [.string (X n)] = strs (n + 1) X := by simp [strs, List.range_succ]
theorem strs_congr {n : Nat} {X Y : Nat → ByteArray} (h : ∀ i, i < n → X i = Y i) : strs n X = strs n Y := by
  unfold strs; exact List.map_congr_left fun i hi => by rw [h i (List.mem_range.1 hi)]
/-- An own slice of strings: in a block from B on. -/
def OwS (w : World) (B : Nat) (e : TypeId) (v : Value) (n : Nat) (X : Nat → ByteArray) : Prop := w.ownsRow B e 1 v n (strs n X)
theorem OwS.nil (w : World) (B : Nat) (e : TypeId) (X : Nat → ByteArray) : OwS w B e (.slice none 0 0) 0 X := World.ownsRow_nil w B e 1
theorem OwS.congr {w : World} {B : Nat} {e : TypeId} {v : Value} {n : Nat} {X Y : Nat → ByteArray} (h : OwS w B e v n X) (hx : ∀ i, i < n → X i = Y i) : OwS w B e v n Y := by
  unfold OwS; rw [← strs_congr hx]; exact h
theorem OwS.ss {w : World} {B : Nat} {e : TypeId} {v : Value} {n : Nat} {X : Nat → ByteArray} {z : Option Nat} (h : OwS w B e v n X) (hz : ∀ k, z = some k → k < B) : Ss z w v n X := by
  rcases h.2 with ⟨hv, h0⟩ | ⟨g, cap, cur, hv, hB, hg, h1, h2, h3, h4⟩
  · exact .inl ⟨h0, none, 0, hv, Nat.zero_le _⟩
  · refine .inr ⟨g, 0, cap, hv, ⟨(Array.getElem?_eq_some_iff.1 hg).1, fun e => by have := hz g e.symm; omega⟩, h1, h2, fun i hi => ?_⟩
    subst hv
    have := World.ownsRow.cells h (g := g) rfl i _ (strs_get n X i hi)
    rw [Addr.add_lit] at this
    exact this
theorem OwS.kept {w w' : World} {B : Nat} {e : TypeId} {v : Value} {n : Nat} {X : Nat → ByteArray} {z : Option Nat} (h : OwS w B e v n X) (hb : w.grownBy w' z) (hz : ∀ k, z = some k → k < B) : OwS w' B e v n X :=
  World.ownsRow.kept h hb (by
    cases hv : v.ownBlock with
    | none => exact .inl rfl
    | some k => exact .inr (fun e => by have := (World.ownsRow.lt h k hv).1; have := hz k e.symm; omega))
theorem one_str (x : ByteArray) : ∀ u ∈ [Value.string x], u.oneCell' = true := by intro u hu; simp at hu; subst hu; rfl
theorem str_cells (n : Nat) (X : Nat → ByteArray) : ∀ u ∈ strs n X, u.oneCell' = true := by
  intro u hu; simp [strs] at hu; obtain ⟨_, _, rfl⟩ := hu; rfl
/-- A store into an own row. -/
theorem OwS.set {w : World} {B : Nat} {e : TypeId} {g n cap : Nat} {X : Nat → ByteArray} (h : OwS w B e (.slice (some ⟨g, 0, none⟩) n cap) n X) {i : Nat} (hi : i < n) (x : ByteArray) :
    OwS (w.setCell ⟨g, i, none⟩ (.string x)) B e (.slice (some ⟨g, 0, none⟩) n cap) n (fun j => if j = i then x else X j) := by
  refine ⟨by rw [strs_len, Nat.mul_one], ?_⟩
  rcases h.2 with ⟨hv, _⟩ | ⟨g', cap', cur, hv, h0, hgg, h1, h2, h3, h4⟩
  · cases hv
  · cases hv
    refine .inr ⟨g, cap, cur.setIfInBounds i (.string x), rfl, h0, by simp [World.setCell, Array.getElem?_modify, hgg], h1, h2, by simpa using h3, ?_⟩
    rw [Nat.mul_one] at h3 h4 ⊢
    refine List.ext_getElem? fun j => ?_
    by_cases hj : j < n
    · rw [strs_get _ _ _ hj, List.getElem?_take_of_lt hj, Array.getElem?_toList, Array.getElem?_setIfInBounds]
      by_cases e : i = j
      · subst e; rw [if_pos rfl, if_pos (by omega), if_pos rfl]
      · rw [if_neg e, if_neg (fun h => e h.symm)]
        have := strs_get n X j hj
        rw [← h4, List.getElem?_take_of_lt hj, Array.getElem?_toList] at this
        exact this
    · rw [List.getElem?_eq_none (by rw [List.length_take]; omega), List.getElem?_eq_none (by rw [strs_len]; omega)]

/-! ### All blocks below B are as they were, but z -/
structure Gr (B : Nat) (z : Option Nat) (w w' : World) : Prop where
  os : w'.os = w.os
  tape : w'.tape = w.tape
  output : w'.output = w.output
  size : w.heap.size ≤ w'.heap.size
  block : ∀ q, q < B → some q ≠ z → w'.heap[q]? = w.heap[q]?
namespace Gr
variable {B : Nat} {z : Option Nat} {w w' w2 : World}
theorem refl (B : Nat) (z : Option Nat) (w : World) : Gr B z w w := ⟨rfl, rfl, rfl, Nat.le_refl _, fun _ _ _ => rfl⟩
theorem trans (h : Gr B z w w') (k : Gr B z w' w2) : Gr B z w w2 := ⟨k.os.trans h.os, k.tape.trans h.tape, k.output.trans h.output, Nat.le_trans h.size k.size, fun q hq hz => (k.block q hq hz).trans (h.block q hq hz)⟩
theorem of (h : w.grownBy w' z) (hB : B ≤ w.heap.size) : Gr B z w w' := ⟨h.os, h.tape, h.output, h.size, fun q hq hz => h.block q (by omega) hz⟩
theorem gb (h : Gr w.heap.size z w w') : w.grownBy w' z := ⟨h.os, h.tape, h.output, h.size, h.block⟩
theorem mono {B' : Nat} (h : Gr B z w w') (hB : B' ≤ B) : Gr B' z w w' := ⟨h.os, h.tape, h.output, h.size, fun q hq hz => h.block q (by omega) hz⟩
/-- .. and a callee's doing, which turned only z or what lies from B on. -/
theorem more {r : Option Nat} (h : Gr B z w w') (hg : w'.grownBy w2 r) (hB : B ≤ w'.heap.size) (hr : ∀ k, r = some k → z = some k ∨ B ≤ k) : Gr B z w w2 :=
  h.trans ⟨hg.os, hg.tape, hg.output, hg.size, fun q hq hz => hg.block q (by omega) (fun e => by
    rcases hr q e.symm with e2 | e2
    · exact hz e2.symm
    · omega)⟩
theorem set (h : Gr B z w w') {p : Addr} (hp : some p.block = z ∨ B ≤ p.block) (v : Value) : Gr B z w (w'.setCell p v) :=
  h.trans ⟨rfl, rfl, rfl, by rw [nblk_setCell]; exact Nat.le_refl _, fun q hq hz => blk_setCell_other _ _ _ _ (by
    rcases hp with e | e
    · intro e2; exact hz (by rw [e2, e])
    · omega)⟩
theorem alloc (h : Gr B z w w') (hB : B ≤ w'.heap.size) (o : Obj) : Gr B z w (w'.alloc o) := h.more (World.grownBy_alloc w' o z) hB (fun _ e => .inl e)
theorem drew (h : Gr B z w w') : Gr B z w w'.drew := ⟨h.os, h.tape, h.output, h.size, h.block⟩
theorem drewN (h : Gr B z w w') (n : Nat) : Gr B z w (w'.drewN n) := h.trans ⟨rfl, rfl, rfl, Nat.le_refl _, fun _ _ _ => rfl⟩
end Gr

/-- An own matrix: the table of its rows in block g, the rows in blocks of their own, none of them fenced off (Z). -/
structure OM (w : World) (Z : Nat → Prop) (B : Nat) (eR eT : TypeId) (g n : Nat) (R : Nat → Value) (L : Nat → Nat) (X : Nat → Nat → ByteArray) : Prop where
  top : w.rowIs g eT n R
  base : B ≤ g
  zg : ¬ Z g
  zlt : ∀ b, Z b → b < w.heap.size
  row : ∀ i, i < n → OwS w B eR (R i) (L i) (X i)
  far : ∀ i, i < n → ∀ b, (R i).ownBlock = some b → b ≠ g ∧ ¬ Z b
  apart : ∀ i j, i < n → j < n → i ≠ j → ∀ b, (R i).ownBlock = some b → (R j).ownBlock ≠ some b

namespace OM
variable {w w' : World} {Z : Nat → Prop} {B : Nat} {eR eT : TypeId} {g n : Nat} {R : Nat → Value} {L : Nat → Nat} {X : Nat → Nat → ByteArray}
theorem kept {z : Option Nat} (h : OM w Z B eR eT g n R L X) (hb : w.grownBy w' z) (hz : ∀ k, z = some k → k < B) : OM w' Z B eR eT g n R L X :=
  ⟨h.top.of_block (hb.block g h.top.lt (fun e => by have := hz g e.symm; have := h.base; omega)), h.base, h.zg, fun b hb' => Nat.lt_of_lt_of_le (h.zlt b hb') hb.size, fun i hi => (h.row i hi).kept hb hz, h.far, h.apart⟩
theorem congr {X' : Nat → Nat → ByteArray} (h : OM w Z B eR eT g n R L X) (hx : ∀ i j, i < n → j < L i → X i j = X' i j) : OM w Z B eR eT g n R L X' :=
  ⟨h.top, h.base, h.zg, h.zlt, fun i hi => (h.row i hi).congr fun j hj => hx i j hi hj, h.far, h.apart⟩
theorem congrL {L' : Nat → Nat} (h : OM w Z B eR eT g n R L X) (hl : ∀ i, i < n → L i = L' i) : OM w Z B eR eT g n R L' X :=
  ⟨h.top, h.base, h.zg, h.zlt, fun i hi => by rw [← hl i hi]; exact h.row i hi, h.far, h.apart⟩
/-- Behind make. -/
theorem made (w : World) (Z : Nat → Prop) (hZ : ∀ b, Z b → b < w.heap.size) (B : Nat) (hB : B ≤ w.heap.size) (eR eT : TypeId) (n : Nat) (X : Nat → Nat → ByteArray) :
    OM (w.alloc (.cells (madeCells #[.slice none 0 0] n) eT)) Z B eR eT w.heap.size n (fun _ => .slice none 0 0) (fun _ => 0) X :=
  ⟨World.rowIs_made w _ n eT, hB, fun h => Nat.lt_irrefl _ (hZ _ h), fun b h => by have := hZ b h; simp; omega, fun i _ => OwS.nil _ _ _ _, fun i _ b h => by simp [Value.ownBlock] at h, fun i j _ _ _ b h => by simp [Value.ownBlock] at h⟩
/-- A block that is made now is fenced off. -/
theorem fence (h : OM w Z B eR eT g n R L X) (o : Obj) : OM (w.alloc o) (fun b => b = w.heap.size) B eR eT g n R L X := by
  have h2 := h.kept (World.grownBy_alloc w o none) (by simp)
  exact ⟨h2.top, h2.base, fun e => by have := h.top.lt; omega, fun b e => by subst e; simp, h2.row, fun i hi b hb => ⟨(h.far i hi b hb).1, fun e => by have := (World.ownsRow.lt (h.row i hi) b hb).2; omega⟩, h2.apart⟩
theorem cell (h : OM w Z B eR eT g n R L X) {i : Nat} (hi : i < n) : w.cell? ⟨g, i, none⟩ = some (R i) := h.top.cell hi
theorem frozen (h : OM w Z B eR eT g n R L X) (i : Nat) : w.frozen? ⟨g, i, none⟩ = false := h.top.frozen i
theorem lt (h : OM w Z B eR eT g n R L X) : g < w.heap.size := h.top.lt
theorem rowLt (h : OM w Z B eR eT g n R L X) {i : Nat} (hi : i < n) : ∀ k, (R i).ownBlock = some k → B ≤ k ∧ k < w.heap.size := World.ownsRow.lt (h.row i hi)
/-- A row that is not empty. -/
theorem form (h : OM w Z B eR eT g n R L X) {i : Nat} (hi : i < n) (hl : 0 < L i) : ∃ b cap, R i = .slice (some ⟨b, 0, none⟩) (L i) cap ∧ B ≤ b ∧ b < w.heap.size ∧ b ≠ g ∧ ¬ Z b ∧ L i ≤ cap ∧ cap ≤ maxLen ∧
    (∀ j, w.frozen? ⟨b, j, none⟩ = false) ∧ ∀ j, j < L i → w.cell? ⟨b, j, none⟩ = some (.string (X i j)) := by
  have hr := h.row i hi
  rcases hr.2 with ⟨_, h0⟩ | ⟨b, cap, cur, hv, hb, hg, h1, h2, h3, h4⟩
  · omega
  · have hf := h.far i hi b (by rw [hv]; rfl)
    refine ⟨b, cap, hv, hb, (Array.getElem?_eq_some_iff.1 hg).1, hf.1, hf.2, h1, h2, fun j => by simp [World.frozen?, hg], fun j hj => ?_⟩
    rw [hv] at hr
    have := World.ownsRow.cells hr (g := b) rfl j _ (strs_get (L i) (X i) j hj)
    rw [Addr.add_lit, Nat.zero_add] at this
    exact this
/-- A row as a slice, empty or not. -/
theorem shape (h : OM w Z B eR eT g n R L X) {i : Nat} (hi : i < n) : ∃ a cap, R i = .slice a (L i) cap := (Rd.shape ((h.row i hi).ss (z := none) (by simp)))
/-- Something was appended to row i, and the new slice stored. -/
theorem appended (h : OM w Z B eR eT g n R L X) {i : Nat} (hi : i < n) {wa w1 : World} (ha : w.grownBy wa none) {g' m cap : Nat} {Y : Nat → ByteArray}
    (hown : w1.ownsRow B eR 1 (.slice (some ⟨g', 0, none⟩) m cap) m (strs m Y)) (hg : wa.grownBy w1 (R i).ownBlock) (hat : (R i).ownBlock = some g' ∨ g' = wa.heap.size) :
    OM (w1.setCell ⟨g, i, none⟩ (.slice (some ⟨g', 0, none⟩) m cap)) Z B eR eT g n (fun k => if k = i then .slice (some ⟨g', 0, none⟩) m cap else R k) (fun k => if k = i then m else L k) (fun k => if k = i then Y else X k) := by
  have hsz := ha.size
  have hgl := h.lt
  have hg'g : g' ≠ g ∧ ¬ Z g' := by
    rcases hat with e | e
    · exact h.far i hi g' e
    · exact ⟨by omega, fun e2 => by have := h.zlt _ e2; omega⟩
  have htop : w1.rowIs g eT n R := (h.top.of_block (ha.block g hgl (by simp))).of_block (hg.block g (by omega) (fun e => (h.far i hi g e.symm).1 rfl))
  refine ⟨(htop.set i _), h.base, h.zg, fun b hb => ?_, fun k hk => ?_, fun k hk b hb => ?_, fun k l hk hl hkl b hb => ?_⟩
  · rw [nblk_setCell]; have := h.zlt b hb; have := hg.size; omega
  · by_cases e : k = i
    · subst e
      simp only [if_pos]
      exact World.ownsRow.kept hown ⟨rfl, rfl, rfl, by simp, fun q _ hq => blk_setCell_other _ _ _ _ (by show q ≠ g; intro e; exact hq (by rw [e]))⟩ (row := some g) (.inr (by simp [Value.ownBlock]; exact hg'g.1))
    · simp only [if_neg e]
      have h0 : OwS wa B eR (R k) (L k) (X k) := (h.row k hk).kept ha (by simp)
      have h1 : w1.ownsRow B eR 1 (R k) (L k) (strs (L k) (X k)) := World.ownsRow.kept h0 hg (by
        cases hb : (R k).ownBlock with
        | none => exact .inl rfl
        | some b => exact .inr (fun e2 => h.apart k i hk hi e b hb e2.symm))
      exact World.ownsRow.kept h1 ⟨rfl, rfl, rfl, by simp, fun q _ hq => blk_setCell_other _ _ _ _ (by show q ≠ g; intro e; exact hq (by rw [e]))⟩ (row := some g) (by
        cases hb : (R k).ownBlock with
        | none => exact .inl rfl
        | some b => exact .inr (fun e2 => (h.far k hk b hb).1 (Option.some.inj e2)))
  · by_cases e : k = i
    · subst e
      simp only [if_pos] at hb
      simp [Value.ownBlock] at hb; subst hb; exact hg'g
    · simp only [if_neg e] at hb; exact h.far k hk b hb
  · by_cases e : k = i
    · subst e
      simp only [if_pos] at hb
      simp only [if_neg (fun e : l = k => hkl e.symm)]
      simp [Value.ownBlock] at hb; subst hb
      rcases hat with e2 | e2
      · exact h.apart k l hk hl hkl _ e2
      · intro e3; have := (h.rowLt hl _ e3).2; omega
    · simp only [if_neg e] at hb
      by_cases e2 : l = i
      · subst e2
        simp only [if_pos]
        simp [Value.ownBlock]
        intro e3; subst e3
        rcases hat with e4 | e4
        · exact h.apart k l hk hl hkl _ hb e4
        · have := (h.rowLt hk _ hb).2; omega
      · simp only [if_neg e2]; exact h.apart k l hk hl hkl b hb
/-- A store into row i. -/
theorem stored (h : OM w Z B eR eT g n R L X) {i j b cap : Nat} (hi : i < n) (hj : j < L i) (hR : R i = .slice (some ⟨b, 0, none⟩) (L i) cap) (x : ByteArray) :
    OM (w.setCell ⟨b, j, none⟩ (.string x)) Z B eR eT g n R L (fun k l => if k = i ∧ l = j then x else X k l) := by
  have hbg := (h.far i hi b (by rw [hR]; rfl)).1
  refine ⟨h.top.setOther (by show g ≠ b; exact fun e => hbg e.symm) _, h.base, h.zg, fun b hb => by rw [nblk_setCell]; exact h.zlt b hb, fun k hk => ?_, h.far, h.apart⟩
  by_cases e : k = i
  · subst e
    have := h.row k hk
    rw [hR] at this ⊢
    exact (this.set hj x).congr fun l _ => by simp
  · refine OwS.congr (World.ownsRow.kept (h.row k hk) ⟨rfl, rfl, rfl, by simp, fun q _ hq => blk_setCell_other _ _ _ _ (by show q ≠ b; intro e; exact hq (by rw [e]))⟩ (row := some b) (by
      cases hb : (R k).ownBlock with
      | none => exact .inl rfl
      | some b' => exact .inr (fun e2 => h.apart k i hk hi e b' hb (by rw [hR, Value.ownBlock]; exact e2.symm)))) fun l _ => by simp [e]
/-- A store elsewhere: into a block that is fenced off or lies below. -/
theorem other (h : OM w Z B eR eT g n R L X) {p : Addr} (hp : Z p.block ∨ p.block < B) (v : Value) : OM (w.setCell p v) Z B eR eT g n R L X := by
  have hg : ∀ b, (b = g ∨ ∃ i, i < n ∧ (R i).ownBlock = some b) → b ≠ p.block := by
    intro b hb e; subst e
    rcases hb with rfl | ⟨i, hi, e⟩
    · rcases hp with h1 | h1
      · exact h.zg h1
      · have := h.base; omega
    · rcases hp with h1 | h1
      · exact (h.far i hi _ e).2 h1
      · have := (h.rowLt hi _ e).1; omega
  refine ⟨h.top.setOther (hg g (.inl rfl)) _, h.base, h.zg, fun b hb => by rw [nblk_setCell]; exact h.zlt b hb, fun k hk => ?_, h.far, h.apart⟩
  exact World.ownsRow.kept (h.row k hk) ⟨rfl, rfl, rfl, by simp, fun q _ hq => blk_setCell_other _ _ _ _ (by intro e; exact hq (by rw [e]))⟩ (row := some p.block) (by
    cases hb : (R k).ownBlock with
    | none => exact .inl rfl
    | some b => exact .inr (fun e => by cases e; exact hg _ (.inr ⟨k, hk, hb⟩) rfl))
/-- It can be read. -/
theorem mt {z : Option Nat} (h : OM w Z B eR eT g n R L X) (hn : n ≤ maxLen) (hz : ∀ k, z = some k → k < B ∨ Z k) : Mt z w (.slice (some ⟨g, 0, none⟩) n n) n L X := by
  refine ⟨R, .inr ⟨g, 0, n, rfl, ⟨h.lt, fun e => ?_⟩, Nat.le_refl _, hn, fun i hi => by rw [Nat.zero_add]; exact h.cell hi⟩, fun i hi => ?_⟩
  · rcases hz g e.symm with h1 | h1
    · have := h.base; omega
    · exact h.zg h1
  · have hr := h.row i hi
    rcases hr.2 with ⟨hv, h0⟩ | ⟨b, cap, cur, hv, hb, hg, h1, h2, h3, h4⟩
    · exact .inl ⟨h0, none, 0, hv, Nat.zero_le _⟩
    · refine .inr ⟨b, 0, cap, hv, ⟨(Array.getElem?_eq_some_iff.1 hg).1, fun e => ?_⟩, h1, h2, fun j hj => ?_⟩
      · rcases hz b e.symm with h5 | h5
        · omega
        · exact (h.far i hi b (by rw [hv]; rfl)).2 h5
      · rw [hv] at hr
        have := World.ownsRow.cells hr (g := b) rfl j _ (strs_get (L i) (X i) j hj)
        rw [Addr.add_lit] at this
        exact this
end OM
end Go.Proofs.YtlmfppjphblemaaGreatDoor

namespace Go.Proofs.YtlmfppjphblemaaGreatDoor
open Go Go.RowKit
set_option maxRecDepth 100000

/-- The string s stands for x, unless there was an error (e). -/
def Is (k : KK) (e : Nat) (s : ByteArray) (x : RK k) : Prop := s.size ≤ 100000 ∧ (e = 0 → s = vtxt x.1 ∧ fitV x.1)
/-- The error: none, or that a number is too long; none where F holds. -/
def Er (F : Prop) (e : Nat) : Prop := (e = 0 ∨ e = 2) ∧ (F → e = 0)
/-- The error behind an operation: the first one is kept. -/
def kpE (e : Nat) (r : ByteArray × Nat) : Nat := if r.2 ≠ 0 ∧ e = 0 then r.2 else e
theorem kpE_zero {e : Nat} {r : ByteArray × Nat} (h : kpE e r = 0) : e = 0 ∧ r.2 = 0 := by
  unfold kpE at h; split at h
  · rename_i h2; exact absurd h h2.1
  · rename_i h2; subst h; exact ⟨rfl, by simpa using h2⟩
theorem Is.size {k : KK} {e : Nat} {s : ByteArray} {x : RK k} (h : Is k e s x) : s.size ≤ 100000 := h.1
theorem Is.mono {k : KK} {e e' : Nat} {s : ByteArray} {x : RK k} (h : Is k e s x) (he : e' = 0 → e = 0) : Is k e' s x := ⟨h.1, fun h0 => h.2 (he h0)⟩
theorem Is.vprs {k : KK} {s : ByteArray} {x : RK k} (h : Is k 0 s x) : vprs k.1 s = some x.1 := by
  obtain ⟨h1, h2⟩ := h.2 rfl; rw [h1]; exact vprs_txt h2 x.2
theorem limV_cases (v : V) : (fitV v ∧ limV v = (vtxt v, 0)) ∨ (¬ fitV v ∧ (limV v).2 = 2) := by
  by_cases h : fitV v
  · exact .inl ⟨h, limV_fit h⟩
  · right; refine ⟨h, ?_⟩
    cases v with
    | inf => exact absurd trivial h
    | low => exact absurd trivial h
    | fin q => show (limR q).2 = 2; unfold limR; rw [if_neg (show ¬ fitQ q from h)]
/-- What one operation does: its result stands for the exact value. -/
theorem op_step {k : KK} {e : Nat} {F : Prop} {r : ByteArray × Nat} {z : RK k} {u : ByteArray} (hr : e = 0 → r = limV z.1) (he : Er F e) (hF : F → fitV z.1) (hu : u.size ≤ 100000) (hk : kpE e r = 0 → u = r.1) :
    Is k (kpE e r) u z ∧ Er F (kpE e r) ∧ (kpE e r = 0 → e = 0) := by
  refine ⟨⟨hu, fun h0 => ?_⟩, ⟨?_, fun hf => ?_⟩, fun h0 => (kpE_zero h0).1⟩
  · obtain ⟨h1, h2⟩ := kpE_zero h0
    have h3 := hk h0
    rcases limV_cases z.1 with ⟨hf, hl⟩ | ⟨_, hl⟩
    · rw [h3, hr h1, hl]; exact ⟨rfl, hf⟩
    · rw [hr h1] at h2; omega
  · unfold kpE; split
    · rename_i h
      rcases limV_cases z.1 with ⟨_, hl⟩ | ⟨_, hl⟩
      · rw [hr h.2, hl] at h; exact absurd rfl h.1
      · rw [hr h.2]; exact .inr hl
    · exact he.1
  · have h0 := he.2 hf
    rcases limV_cases z.1 with ⟨_, hl⟩ | ⟨hn, _⟩
    · unfold kpE; rw [hr h0, hl, if_neg (by simp)]; exact h0
    · exact absurd (hF hf) hn
theorem plus_lim {k : KK} {e : Nat} {a b : ByteArray} {x y : RK k} (ha : Is k e a x) (hb : Is k e b y) (h0 : e = 0) : plusF k.1 a b = limV (x + y).1 := by
  subst h0; unfold plusF; rw [ha.vprs, hb.vprs]; rfl
theorem times_lim {k : KK} {e : Nat} {a b : ByteArray} {x y : RK k} (ha : Is k e a x) (hb : Is k e b y) (h0 : e = 0) : timesF k.1 a b = limV (x * y).1 := by
  subst h0; unfold timesF; rw [ha.vprs, hb.vprs]; rfl
theorem star_lim {k : KK} {e : Nat} {a : ByteArray} {x : RK k} (ha : Is k e a x) (h0 : e = 0) : starF k.1 a = limV (CSR.star x).1 := by
  subst h0; unfold starF; rw [ha.vprs]; rfl
theorem zero_fit (k : KK) : fitV (CSR.zero : RK k).1 := (szV_zero k.1 (k := 1) (by omega)).fit (by omega)
theorem one_fit (k : KK) : fitV (CSR.one : RK k).1 := (szV_one k.1 (k := 1) (by omega)).fit (by omega)
theorem Is.zero (k : KK) (e : Nat) : Is k e (zeroF k.1) CSR.zero := ⟨zeroF_size k.1, fun _ => ⟨zeroF_eq k.2, zero_fit k⟩⟩
theorem Is.one (k : KK) (e : Nat) : Is k e (oneF k.1) CSR.one := ⟨oneF_size k.1, fun _ => ⟨oneF_eq k.2, one_fit k⟩⟩
theorem Is.eq_zero {k : KK} {s : ByteArray} {x : RK k} (h : Is k 0 s x) : s = zeroF k.1 ↔ x = CSR.zero := by
  obtain ⟨h1, h2⟩ := h.2 rfl
  obtain ⟨z1, z2⟩ := (Is.zero k 0).2 rfl
  constructor
  · intro e; rw [h1, z1] at e; exact RK.ext (vtxt_inj h2 z2 e)
  · intro e; rw [h1, z1, e]
theorem Is.eq {k : KK} {s t : ByteArray} {x y : RK k} (h : Is k 0 s x) (h' : Is k 0 t y) (e : x = y) : s = t := by
  rw [(h.2 rfl).1, (h'.2 rfl).1, e]
/-- A string that is a value. -/
theorem Is.of_valid {k : KK} {s : ByteArray} (h : validF k.1 s = true) (hs : s.size ≤ 100000) (e : Nat) : ∃ x : RK k, Is k e s x := by
  obtain ⟨v, hv⟩ := valid_some h
  obtain ⟨h1, h2⟩ := vprs_some.1 hv
  exact ⟨⟨v, h2⟩, hs, fun _ => rdV_some h1⟩

/-! ### The table of powers of ten lies below B -/
def TabB (B : Nat) (w : World) : Prop := ∀ w', Below B w w' → Tab w'
theorem TabB.tab {B : Nat} {w : World} (h : TabB B w) : Tab w := h w (Below.refl _ _)
theorem TabB.of {w : World} (h : Tab w) : TabB w.heap.size w := fun _ hb => h.below hb (Nat.le_refl _)
theorem TabB.kept {B : Nat} {w w' : World} {z : Option Nat} (h : TabB B w) (hg : w.grownBy w' z) (hz : ∀ k, z = some k → B ≤ k) (hB : B ≤ w.heap.size) : TabB B w' := fun w2 hb =>
  h w2 (Below.trans ⟨hg.os, hg.tape, hg.output, hg.size, fun q hq => hg.block q (by omega) (fun e => by have := hz q e.symm; omega)⟩ hb)
end Go.Proofs.YtlmfppjphblemaaGreatDoor

namespace Go.Proofs.YtlmfppjphblemaaGreatDoor
open Go Go.RowKit
set_option maxRecDepth 100000

def wval (k : KK) (s : ByteArray) : RK k := match h : vprs k.1 s with
  | some v => ⟨v, (vprs_some.1 h).2⟩
  | none => CSR.zero
theorem Is.val {k : KK} {s : ByteArray} {x : RK k} (h : Is k 0 s x) : wval k s = x := by
  have hv := h.vprs
  unfold wval
  split
  · rename_i v h2
    rw [hv] at h2; cases h2; rfl
  · rename_i h2
    rw [hv] at h2; cases h2
theorem valid_sz {k : Int} {s : ByteArray} (h : validF k s = true) : s.size ≤ 802 := by
  obtain ⟨v, hv⟩ := valid_some h
  obtain ⟨h1, h2⟩ := rdV_some (vprs_some.1 hv).1
  have := limV_size v
  rw [limV_fit h2] at this
  rw [h1]; exact this
theorem wval_is {k : KK} {s : ByteArray} (h : validF k.1 s = true) : Is k 0 s (wval k s) := by
  obtain ⟨x, hx⟩ := Is.of_valid h (by have := valid_sz h; omega) 0
  rw [hx.val]; exact hx
theorem wt_valid {k : Int} {s : ByteArray} (h : weightF k s = true) : validF k s = true := by
  obtain ⟨v, h1, h2⟩ := weight_some h
  unfold validF
  rw [vprs_some.2 ⟨h1, wtV_ok h2⟩]; rfl
end Go.Proofs.YtlmfppjphblemaaGreatDoor
