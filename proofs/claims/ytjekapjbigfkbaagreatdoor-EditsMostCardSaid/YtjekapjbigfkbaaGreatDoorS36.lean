/- Parts of a proof: LE0 AppS. -/
import Derived.Test.YtjekapjbigfkbaaGreatDoorS35
import Derived.Deep.Upon
namespace Go.Proofs.YtjekapjbigfkbaaGreatDoor
open Go Go.RowKit Go.Deep
set_option maxRecDepth 100000
set_option linter.unusedSimpArgs false
def cosR (M : EM) (na : Nat) (x : Nat → Int) (nb : Nat) (y : Nat → Int) (W : ByteArray) (E : Int) : Prop := (VE M ∧ isWord na x = true ∧ isWord nb y = true ∧ W = (costC ⟨M, na, x, nb, y⟩).1 ∧ E = ((costC ⟨M, na, x, nb, y⟩).2 : Int)) ∨ (¬ (VE M ∧ isWord na x = true ∧ isWord nb y = true) ∧ W = ⟨#[]⟩ ∧ E = 1)
theorem CosE.val {M : EM} {na nb : Nat} {x y : Nat → Int} {w w' : World} {rr : Ending} (h : CosE M na x nb y w rr w') : ∃ W E, rr = .returned (.tuple #[.string W, .int .i64 E]) ∧ cosR M na x nb y W E ∧ Below w.heap.size w w' := by
  obtain ⟨hb, ⟨h1, h2, h3, h4⟩ | ⟨h1, h2⟩⟩ := h
  · exact ⟨_, _, h4, .inl ⟨h1, h2, h3, rfl, rfl⟩, hb⟩
  · exact ⟨_, _, h2, .inr ⟨h1, rfl, rfl⟩, hb⟩
theorem cosR.eq {M : EM} {na nb : Nat} {x y : Nat → Int} {W W' : ByteArray} {E E' : Int} (h : cosR M na x nb y W E) (h' : cosR M na x nb y W' E') : W = W' ∧ E = E' := by
  rcases h with ⟨a1, a2, a3, a4, a5⟩ | ⟨a1, a2, a3⟩ <;> rcases h' with ⟨b1, b2, b3, b4, b5⟩ | ⟨b1, b2, b3⟩
  · exact ⟨a4.trans b4.symm, a5.trans b5.symm⟩
  · exact absurd ⟨a1, a2, a3⟩ b1
  · exact absurd ⟨b1, b2, b3⟩ a1
  · exact ⟨a2.trans b2.symm, a3.trans b3.symm⟩
theorem row_eds {w : World} {B : Nat} {sv : Value} {M : EM} {F T : Nat → Value} (h : w.ownsRow B 50 3 sv M.n (cat (ed3 M F T) M.n)) (hf : ∀ i, i < M.n → Si none w (F i) (M.e i).nf (M.e i).f) (ht : ∀ i, i < M.n → Si none w (T i) (M.e i).nt (M.e i).t) : EdS none w sv M := by
  rcases h.2 with ⟨hv, h0⟩ | ⟨g, cap, cur, hv, hB, hg, h1, h2, h3, h4⟩
  · exact .inl ⟨h0, none, 0, by rw [hv], Nat.zero_le _⟩
  · refine .inr ⟨g, 0, cap, F, T, hv, ⟨(Array.getElem?_eq_some_iff.1 hg).1, by simp⟩, h1, h2, fun i hi => ?_⟩
    rw [hv] at h
    have hc : ∀ j, j < 3 → ∀ u, (ed3 M F T i)[j]? = some u → w.cell? ⟨g, i * 3 + j, none⟩ = some u := fun j hj u hu => row_cell h ((cat_get (ed3_len M F T) hj hi).trans hu)
    rw [Nat.zero_add]
    exact ⟨hc 0 (by omega) _ rfl, hc 1 (by omega) _ rfl, hc 2 (by omega) _ rfl, hf i hi, ht i hi⟩
theorem cosR.ok {M : EM} {na nb : Nat} {x y : Nat → Int} {W : ByteArray} {E : Int} (h : cosR M na x nb y W E) (h0 : E = 0) : VE M ∧ isWord na x = true ∧ isWord nb y = true ∧ ∃ o, IsCost ⟨M, na, x, nb, y⟩ o ∧ fitO o ∧ W = costT o := by
  rcases h with ⟨a1, a2, a3, a4, a5⟩ | ⟨_, _, a3⟩
  · rcases costC_spec (P := ⟨M, na, x, nb, y⟩) a1.m0 a1.ok with ⟨o, h1, h2, h3⟩ | ⟨_, h3⟩
    · rw [h3] at a4; exact ⟨a1, a2, a3, o, h1, h2, a4⟩
    · rw [h3] at a5; subst a5; cases h0
  · subst a3; cases h0
theorem cosR.val {M : EM} {na nb : Nat} {x y : Nat → Int} {W : ByteArray} {E : Int} (h : cosR M na x nb y W E) (hv : VE M) (hx : isWord na x = true) (hy : isWord nb y = true) : E = 0 ∨ (E = 2 ∧ TooL ⟨M, na, x, nb, y⟩) := by
  rcases h with ⟨a1, a2, a3, a4, a5⟩ | ⟨h, _⟩
  · rcases costC_spec (P := ⟨M, na, x, nb, y⟩) a1.m0 a1.ok with ⟨o, h1, h2, h3⟩ | ⟨h1, h3⟩
    · rw [h3] at a5; exact .inl a5
    · rw [h3] at a5; exact .inr ⟨a5, h1⟩
  · exact absurd ⟨hv, hx, hy⟩ h
end Go.Proofs.YtjekapjbigfkbaaGreatDoor

namespace Go.Proofs.YtjekapjbigfkbaaGreatDoor
open Go Go.RowKit Go.Deep
set_option maxRecDepth 100000
set_option linter.unusedSimpArgs false
theorem row_new (w : World) {B : Nat} (hB : B ≤ w.heap.size) (e : TypeId) (s : Nat) : (w.alloc (.cells #[] e)).ownsRow B e s (.slice (some ⟨w.heap.size, 0, none⟩) 0 0) 0 [] :=
  ⟨by simp, .inr ⟨w.heap.size, 0, #[], rfl, hB, heap_alloc_new w _, Nat.le_refl _, Nat.zero_le _, by simp, by simp⟩⟩
end Go.Proofs.YtjekapjbigfkbaaGreatDoor
