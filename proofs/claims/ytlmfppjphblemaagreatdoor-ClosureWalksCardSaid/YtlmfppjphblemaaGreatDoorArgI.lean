/- Arguments: a slice of integers that came in. -/
import Derived.Test.YtlmfppjphblemaaGreatDoorArgM
namespace Go.Proofs.YtlmfppjphblemaaGreatDoor
open Go Go.RowKit Go.Deep Go.ChangeShapes Go.WideShapes
set_option maxRecDepth 100000

theorem arg_ints {H : Type} {enc : TypeId × Value → H} {W : World} {held : Bool} {fuel : Nat} {v : Value} {x : DataW H × List MemPlace} (h : DataW.trod enc Tryz.prog W 0 (fun _ => true) held fuel 57 [v] = some x) :
    ∃ (n : Nat) (wk : Nat → Int), Rd none W v n fun i => .int .i64 (wk i) := by
  rcases open_slice1 Tryz.underlying57 (by kernel_rfl) h with ⟨hc, _⟩ | ⟨a, len, cap, m, n', V, D, Pl, hc, _, hl, hm, hmm, _, hx⟩
  · simp only [List.cons.injEq, and_true] at hc
    exact ⟨0, fun _ => 0, .inl ⟨rfl, none, 0, hc, Nat.zero_le _⟩⟩
  · simp only [List.cons.injEq, and_true] at hc
    simp only [if_true] at hmm
    subst hmm
    classical
    have hall : ∀ i, ∃ z : Int, i < m → V i = .int .i64 z := fun i => by
      by_cases hi : i < m
      · obtain ⟨z, hz, _⟩ := DataW.trod_int Tryz.underlying3 (hx i hi).2
        exact ⟨z, fun _ => by simpa using hz⟩
      · exact ⟨0, fun h => absurd h hi⟩
    refine ⟨len, fun i => Classical.choose (hall i), ?_⟩
    by_cases h0 : len = 0
    · subst h0; exact .inl ⟨rfl, some a, m, hc, hm⟩
    · have c0 := (hx 0 (by omega)).1
      have hs : a.spot = none := by simpa [Addr.add] using World.cell?_spot c0
      obtain ⟨b, off, sp⟩ := a
      simp only at hs; subst hs
      refine .inr ⟨b, off, m, hc, ⟨?_, by simp⟩, hl, hm, fun j hj => ?_⟩
      · have := World.block_lt_of_cell? _ _ c0
        rw [Addr.add_lit] at this; exact this
      · have := (hx j (by omega)).1
        rw [Addr.add_lit, Classical.choose_spec (hall j) (by omega)] at this; exact this
end Go.Proofs.YtlmfppjphblemaaGreatDoor
