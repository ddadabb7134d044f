/- Arguments: a slice of slices of strings, and a slice of integers, that came in. -/
import Derived.Test.YtlmfppjphblemaaGreatDoorC2
import Derived.Deep.Slices
import Derived.SliceStrings
import Derived.ChangeSlices
namespace Go.Proofs.YtlmfppjphblemaaGreatDoor
open Go Go.RowKit Go.Deep Go.ChangeShapes Go.WideShapes
set_option maxRecDepth 100000

theorem arg_ss {H : Type} {enc : TypeId × Value → H} {W : World} {held : Bool} {fuel : Nat} {v : Value} {x : DataW H × List MemPlace} (h : DataW.trod enc Tryz.prog W 0 (fun _ => true) held fuel 33 [v] = some x) :
    ∃ n X, Ss none W v n X ∧ ∀ j, (X j).size ≤ maxLen := by
  rcases open_strings Tryz.underlying33 Tryz.underlying9 (by kernel_rfl) h with ⟨hc, _⟩ | ⟨a, len, cap, ss, hc, _, hl, hm, hlen, _, hcell, hsz⟩
  · simp only [List.cons.injEq, and_true] at hc
    exact ⟨0, fun _ => ⟨#[]⟩, .inl ⟨rfl, none, 0, hc, Nat.zero_le _⟩, fun _ => Nat.zero_le _⟩
  · simp only [List.cons.injEq, and_true] at hc
    simp only [if_true] at hlen
    have hX : ∀ j, (ss.getD j ByteArray.empty).size ≤ maxLen := fun j => by
      by_cases hj : j < ss.length
      · rw [List.getD, List.getElem?_eq_getElem hj]; exact hsz _ (List.getElem_mem hj)
      · rw [List.getD, List.getElem?_eq_none (by omega)]; exact Nat.zero_le _
    refine ⟨len, fun j => ss.getD j ByteArray.empty, ?_, hX⟩
    by_cases h0 : len = 0
    · subst h0; exact .inl ⟨rfl, some a, cap, hc, hm⟩
    · have c0 := hcell 0 (by omega)
      have hs : a.spot = none := by simpa [Addr.add] using World.cell?_spot c0
      obtain ⟨b, off, sp⟩ := a
      simp only at hs; subst hs
      refine .inr ⟨b, off, cap, hc, ⟨?_, by simp⟩, hl, hm, fun j hj => ?_⟩
      · have := World.block_lt_of_cell? _ _ c0
        rw [Addr.add_lit] at this; exact this
      · have := hcell j (by omega)
        rw [Addr.add_lit] at this; exact this
theorem arg_mt {H : Type} {enc : TypeId × Value → H} {W : World} {held : Bool} {fuel : Nat} {v : Value} {x : DataW H × List MemPlace} (h : DataW.trod enc Tryz.prog W 0 (fun _ => true) held fuel 22 [v] = some x) :
    ∃ n L X, Mt none W v n L X ∧ ∀ i j, (X i j).size ≤ maxLen := by
  rcases open_slice1 Tryz.underlying22 (by kernel_rfl) h with ⟨hc, _⟩ | ⟨a, len, cap, m, n', V, D, Pl, hc, _, hl, hm, hmm, _, hx⟩
  · simp only [List.cons.injEq, and_true] at hc
    exact ⟨0, fun _ => 0, fun _ _ => ⟨#[]⟩, ⟨fun _ => .nilIface, .inl ⟨rfl, none, 0, hc, Nat.zero_le _⟩, fun i hi => absurd hi (Nat.not_lt_zero _)⟩, fun _ _ => Nat.zero_le _⟩
  · simp only [List.cons.injEq, and_true] at hc
    simp only [if_true] at hmm
    subst hmm
    classical
    have hall : ∀ i, ∃ t : Nat × (Nat → ByteArray), (i < m → Ss none W (V i) t.1 t.2) ∧ ∀ j, (t.2 j).size ≤ maxLen := fun i => by
      by_cases hi : i < m
      · obtain ⟨n, X, h1, h2⟩ := arg_ss (hx i hi).2
        exact ⟨(n, X), fun _ => h1, h2⟩
      · exact ⟨(0, fun _ => ⟨#[]⟩), fun h => absurd h hi, fun _ => Nat.zero_le _⟩
    refine ⟨len, fun i => (Classical.choose (hall i)).1, fun i => (Classical.choose (hall i)).2, ⟨V, ?_, fun i hi => (Classical.choose_spec (hall i)).1 (by omega)⟩, fun i j => (Classical.choose_spec (hall i)).2 j⟩
    by_cases h0 : len = 0
    · subst h0; exact .inl ⟨rfl, some a, m, hc, hm⟩
    · have c0 := (hx 0 (by omega)).1
      have hs : a.spot = none := by simpa [Addr.add] using World.cell?_spot c0
      obtain ⟨b, off, sp⟩ := a
      simp only at hs; subst hs
      refine .inr ⟨b, off, m, hc, ⟨?_, by simp⟩, hl, hm, fun j hj => ?_⟩
      · have := World.block_lt_of_cell? _ _ c0
        rw [Addr.add_lit] at this; exact this
      · have := (hx j (by omega)).1
        rw [Addr.add_lit] at this; exact this
end Go.Proofs.YtlmfppjphblemaaGreatDoor
