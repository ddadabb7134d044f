/- Parts of a proof: ArgI ArgE ArgD. -/
import Derived.Test.YtjekapjbigfkbaaGreatDoorS38
import Derived.Test.YtjekapjbigfkbaaGreatDoorS18
import Derived.Deep.Strs
namespace Go.Proofs.YtjekapjbigfkbaaGreatDoor
open Go Go.RowKit Go.Deep Go.ChangeShapes Go.WideShapes
set_option maxRecDepth 100000
theorem arg_ints {H : Type} {enc : TypeId × Value → H} {W : World} {held : Bool} {fuel : Nat} {v : Value} {x : DataW H × List MemPlace} (h : DataW.trod enc Tryz.prog W 0 (fun _ => true) held fuel 27 [v] = some x) :
    ∃ (n : Nat) (wk : Nat → Int), Rd none W v n fun i => .int .i64 (wk i) := by
  rcases open_slice1 Tryz.underlying27 (by kernel_rfl) h with ⟨hc, _⟩ | ⟨a, len, cap, m, n', V, D, Pl, hc, _, hl, hm, hmm, _, hx⟩
  · simp only [List.cons.injEq, and_true] at hc
    exact ⟨0, fun _ => 0, .inl ⟨rfl, none, 0, hc, Nat.zero_le _⟩⟩
  · simp only [List.cons.injEq, and_true] at hc
    simp only [if_true] at hmm
    subst hmm
    classical
    have hall : ∀ i, ∃ z : Int, i < m → V i = .int .i64 z := fun i => by
      by_cases hi : i < m
      · obtain ⟨z, hz, _⟩ := DataW.trod_int Tryz.underlying3 (hx i hi).2
        exact ⟨z, fun _ => by simpa using hz⟩
      · exact ⟨0, fun h => absurd h hi⟩
    refine ⟨len, fun i => Classical.choose (hall i), ?_⟩
    by_cases h0 : len = 0
    · subst h0; exact .inl ⟨rfl, some a, m, hc, hm⟩
    · have c0 := (hx 0 (by omega)).1
      have hs : a.spot = none := by simpa [Addr.add] using World.cell?_spot c0
      obtain ⟨b, off, sp⟩ := a
      simp only at hs; subst hs
      refine .inr ⟨b, off, m, hc, ⟨?_, by simp⟩, hl, hm, fun j hj => ?_⟩
      · have := World.block_lt_of_cell? _ _ c0
        rw [Addr.add_lit] at this; exact this
      · have := (hx j (by omega)).1
        rw [Addr.add_lit, Classical.choose_spec (hall j) (by omega)] at this; exact this
end Go.Proofs.YtjekapjbigfkbaaGreatDoor

namespace Go.Proofs.YtjekapjbigfkbaaGreatDoor
open Go Go.RowKit Go.Deep Go.ChangeShapes Go.WideShapes Go.Joins
set_option maxRecDepth 100000
theorem arg_is {H : Type} {enc : TypeId × Value → H} {W : World} {held : Bool} {fuel : Nat} {v : Value} {x : DataW H × List MemPlace} (h : DataW.trod enc Tryz.prog W 0 (fun _ => true) held fuel 27 [v] = some x) :
    ∃ (n : Nat) (wk : Nat → Int), Si none W v n wk ∧ ∀ b, (∀ m ∈ x.1.weights Tryz.prog 27, m ≤ b) → n ≤ b := by
  rcases open_slice1 Tryz.underlying27 (by kernel_rfl) h with ⟨hc, _⟩ | ⟨a, len, cap, m, n', V, D, Pl, hc, _, hl, hm, hmm, hxx, hx⟩
  · simp only [List.cons.injEq, and_true] at hc
    exact ⟨0, fun _ => 0, .inl ⟨rfl, none, 0, hc, Nat.zero_le _⟩, fun _ _ => Nat.zero_le _⟩
  · simp only [List.cons.injEq, and_true] at hc
    simp only [if_true] at hmm
    subst hmm
    classical
    have hall : ∀ i, ∃ z : Int, i < m → V i = .int .i64 z := fun i => by
      by_cases hi : i < m
      · obtain ⟨z, hz, _⟩ := DataW.trod_int Tryz.underlying3 (hx i hi).2
        exact ⟨z, fun _ => by simpa using hz⟩
      · exact ⟨0, fun h => absurd h hi⟩
    refine ⟨len, fun i => Classical.choose (hall i), ?_, fun b hb => ?_⟩
    · by_cases h0 : len = 0
      · subst h0; exact .inl ⟨rfl, some a, m, hc, hm⟩
      · have c0 := (hx 0 (by omega)).1
        have hs : a.spot = none := by simpa [Addr.add] using World.cell?_spot c0
        obtain ⟨b, off, sp⟩ := a
        simp only at hs; subst hs
        refine .inr ⟨b, off, m, hc, ⟨?_, by simp⟩, hl, hm, fun j hj => ?_⟩
        · have := World.block_lt_of_cell? _ _ c0
          rw [Addr.add_lit] at this; exact this
        · have := (hx j (by omega)).1
          rw [Addr.add_lit, Classical.choose_spec (hall j) (by omega)] at this; exact this
    · rw [hxx] at hb
      have := slice_weight Tryz.underlying27 (by decide +kernel) hb
      simpa using this
theorem arg_eds {H : Type} {enc : TypeId × Value → H} {W : World} {held : Bool} {fuel : Nat} {v : Value} {x : DataW H × List MemPlace} (h : DataW.trod enc Tryz.prog W 0 (fun _ => true) held fuel 22 [v] = some x)
    (hw : ∀ m ∈ x.1.weights Tryz.prog 22, m ≤ reachBytes) : ∃ (n : Nat) (e : Nat → ED), (∀ mo, EdS none W v ⟨n, e, mo⟩) ∧ n ≤ reachBytes ∧ ∀ i, (e i).nf ≤ reachBytes ∧ (e i).nt ≤ reachBytes ∧ (e i).w.size ≤ maxLen := by
  rcases open_slice Tryz.underlying22 h with ⟨hc, _⟩ | ⟨a, len, cap, m, n', D, Pl, hc, _, hl, hm, hmm, hxx, hx⟩
  · simp only [List.cons.injEq, and_true] at hc
    exact ⟨0, fun _ => ⟨0, fun _ => 0, 0, fun _ => 0, ⟨#[]⟩⟩, fun _ => .inl ⟨rfl, none, 0, hc, Nat.zero_le _⟩, Nat.zero_le _, fun _ => ⟨Nat.zero_le _, Nat.zero_le _, Nat.zero_le _⟩⟩
  · simp only [List.cons.injEq, and_true] at hc
    simp only [if_true] at hmm
    subst hmm
    have c3 : Tryz.prog.cellsOf 50 = 3 := by kernel_rfl
    have ci : Tryz.prog.cellsOf 27 = 1 := by kernel_rfl
    have cs : Tryz.prog.cellsOf 9 = 1 := by kernel_rfl
    classical
    have hlen : len ≤ reachBytes := by
      rw [hxx] at hw
      have := slice_weight Tryz.underlying22 (by decide +kernel) hw
      simpa using this
    have hall : ∀ i, ∃ t : ED × Value × Value, (t.1.nf ≤ reachBytes ∧ t.1.nt ≤ reachBytes ∧ t.1.w.size ≤ maxLen) ∧ (i < len → W.cell? (a.add (i * 3)) = some t.2.1 ∧ W.cell? (a.add (i * 3 + 1)) = some t.2.2 ∧ W.cell? (a.add (i * 3 + 2)) = some (.string t.1.w) ∧ Si none W t.2.1 t.1.nf t.1.f ∧ Si none W t.2.2 t.1.nt t.1.t) := fun i => by
      by_cases hi : i < len
      · obtain ⟨cs', h1, h2⟩ := hx i (by omega)
        rw [c3] at h1
        obtain ⟨_, hlen', hcell⟩ := World.cells?_some h1
        obtain ⟨y0, y1, y2, k, hy, _, g0, g1, g2⟩ := trod_struct3 Tryz.underlying50 h2
        match cs', hlen' with
        | [v0, v1, v2], _ =>
          simp only [ci, cs, List.drop_zero, List.drop_succ_cons, List.take_succ_cons, List.take_zero] at g0 g1 g2
          have hwi : ∀ q, q ∈ (DataW.agg [y0.1, y1.1, y2.1] : DataW H).weights Tryz.prog 50 → q ≤ reachBytes := fun q hq => hw q (by
            rw [hxx]
            refine weights_part Tryz.underlying22 (List.mem_map.2 ⟨i, List.mem_range.2 hi, rfl⟩) ?_
            have hD : D i = .agg [y0.1, y1.1, y2.1] := congrArg Prod.fst hy
            rw [hD]; exact hq)
          obtain ⟨nf, xf, s0, b0⟩ := arg_is g0
          obtain ⟨nt, xt, s1, b1⟩ := arg_is g1
          obtain ⟨z2, e2, _, hsz⟩ := DataW.trod_string Tryz.underlying9 g2
          obtain rfl : v2 = .string z2 := by simpa using e2
          have k0 := hcell 0 (by omega)
          have k1 := hcell 1 (by omega)
          have k2 := hcell 2 (by omega)
          rw [add_add] at k0 k1 k2
          refine ⟨(⟨nf, xf, nt, xt, z2⟩, v0, v1), ⟨b0 _ fun q hq => hwi q ?_, b1 _ fun q hq => hwi q ?_, hsz⟩, fun _ => ⟨by simpa using k0, by simpa using k1, by simpa using k2, s0, s1⟩⟩
          · simp only [DataW.weights, Tryz.underlying50, DataW.weightsEach, List.map_cons, List.mem_append, List.map_nil]
            exact .inl hq
          · simp only [DataW.weights, Tryz.underlying50, DataW.weightsEach, List.map_cons, List.mem_append, List.map_nil]
            exact .inr (.inl hq)
      · exact ⟨(⟨0, fun _ => 0, 0, fun _ => 0, ⟨#[]⟩⟩, .nilIface, .nilIface), ⟨Nat.zero_le _, Nat.zero_le _, Nat.zero_le _⟩, fun h => absurd h hi⟩
    obtain ⟨T, hT⟩ : ∃ T : Nat → ED × Value × Value, ∀ i, ((T i).1.nf ≤ reachBytes ∧ (T i).1.nt ≤ reachBytes ∧ (T i).1.w.size ≤ maxLen) ∧ (i < len → W.cell? (a.add (i * 3)) = some (T i).2.1 ∧ W.cell? (a.add (i * 3 + 1)) = some (T i).2.2 ∧ W.cell? (a.add (i * 3 + 2)) = some (.string (T i).1.w) ∧ Si none W (T i).2.1 (T i).1.nf (T i).1.f ∧ Si none W (T i).2.2 (T i).1.nt (T i).1.t) :=
      ⟨fun i => Classical.choose (hall i), fun i => Classical.choose_spec (hall i)⟩
    refine ⟨len, fun i => (T i).1, fun mo => ?_, hlen, fun i => (hT i).1⟩
    by_cases h0 : len = 0
    · subst h0; exact .inl ⟨rfl, some a, m, hc, hm⟩
    · have c0 := ((hT 0).2 (by omega)).1
      have hs : a.spot = none := by simpa [Addr.add] using World.cell?_spot c0
      obtain ⟨b, off, sp⟩ := a
      simp only at hs; subst hs
      refine .inr ⟨b, off, m, fun i => (T i).2.1, fun i => (T i).2.2, hc, ⟨?_, by simp⟩, hl, hm, fun j hj => ?_⟩
      · have := World.block_lt_of_cell? _ _ c0
        rw [Addr.add_lit] at this; exact this
      · obtain ⟨k0, k1, k2, k3, k4⟩ := (hT j).2 hj
        rw [Addr.add_lit] at k0 k1 k2
        exact ⟨k0, by rw [Nat.add_assoc]; exact k1, by rw [Nat.add_assoc]; exact k2, k3, k4⟩
theorem esz_of {n : Nat} {e : Nat → ED} {mo : Int} (hn : n ≤ reachBytes) (he : ∀ i, (e i).nf ≤ reachBytes ∧ (e i).nt ≤ reachBytes ∧ (e i).w.size ≤ maxLen) (hm : -9223372036854775808 ≤ mo ∧ mo ≤ 9223372036854775807) : ESz ⟨n, e, mo⟩ := by
  have hR : reachBytes ≤ 140737488355328 := by decide
  refine ⟨by show ((n : Nat) : Int) ≤ _; omega, fun i => ?_, fun i => ?_, fun i => ?_, hm.1, hm.2⟩
  · have := (he i).1; show (((e i).nf : Nat) : Int) ≤ _; omega
  · have := (he i).2.1; show (((e i).nt : Nat) : Int) ≤ _; omega
  · have := (he i).2.2; unfold maxLen at this; show (((e i).w.size : Nat) : Int) ≤ _; omega
theorem arg_em {H : Type} {enc : TypeId × Value → H} {W : World} {r : Reach} {b0 : Nat} {held : Bool} {v : Value} {d : DataW H} {p : List MemPlace} (hv : Value.okWide Tryz.prog W r b0 24 v) (h : DataW.Trod enc Tryz.prog W 0 (fun _ => true) held 24 v d p)
    (hw : ∀ m ∈ d.weights Tryz.prog 24, m ≤ reachBytes) : ∃ M, Em none W v M ∧ ESz M := by
  obtain ⟨v0, v1, y0, y1, n, rfl, rfl, rfl, t0, t1⟩ := open_agg2 Tryz.underlying24 (by kernel_rfl) (by kernel_rfl) hv h
  obtain ⟨z1, e1, _, w1⟩ := DataW.trod_int Tryz.underlying3 t1
  obtain rfl : v1 = .int .i64 z1 := by simpa using e1
  have hwf : -9223372036854775808 ≤ z1 ∧ z1 ≤ 9223372036854775807 := by
    simp [Lit.wf, IntKind.min, IntKind.max, IntKind.signed, IntKind.bits] at w1
    omega
  obtain ⟨n, e, h1, h2, h3⟩ := arg_eds t0 fun m hm => hw m (by
    simp only [DataW.weights, Tryz.underlying24, DataW.weightsEach, List.map_cons, List.mem_append, List.map_nil]
    exact .inl hm)
  exact ⟨⟨n, e, z1⟩, ⟨_, rfl, h1 z1⟩, esz_of h2 h3 hwf⟩
end Go.Proofs.YtjekapjbigfkbaaGreatDoor

namespace Go.Proofs.YtjekapjbigfkbaaGreatDoor
open Go Go.RowKit Go.Deep Go.ChangeShapes Go.WideShapes Go.Joins
set_option maxRecDepth 100000
theorem arg_ed {H : Type} {enc : TypeId × Value → H} {W : World} {r : Reach} {b0 : Nat} {held : Bool} {v : Value} {d : DataW H} {p : List MemPlace} (hv : Value.okWide Tryz.prog W r b0 50 v) (h : DataW.Trod enc Tryz.prog W 0 (fun _ => true) held 50 v d p)
    (hw : ∀ m ∈ d.weights Tryz.prog 50, m ≤ reachBytes) : ∃ D : ED, (∃ F T, v = .agg #[F, T, .string D.w] ∧ Si none W F D.nf D.f ∧ Si none W T D.nt D.t) ∧ ((D.nf : Int) ≤ 4611686018427387903 ∧ (D.nt : Int) ≤ 4611686018427387903 ∧ (D.w.size : Int) ≤ 9223372036854775807) := by
  obtain ⟨v0, v1, v2, y0, y1, y2, n, rfl, rfl, rfl, t0, t1, t2⟩ := open_agg3 Tryz.underlying50 (by kernel_rfl) (by kernel_rfl) hv h
  have hR : reachBytes ≤ 140737488355328 := by decide
  have hml : maxLen ≤ 9223372036854775807 := by decide
  obtain ⟨nf, xf, s0, b0'⟩ := arg_is t0
  obtain ⟨nt, xt, s1, b1⟩ := arg_is t1
  obtain ⟨z2, e2, _, hsz⟩ := DataW.trod_string Tryz.underlying9 t2
  obtain rfl : v2 = .string z2 := by simpa using e2
  have h0 : nf ≤ reachBytes := b0' _ fun q hq => hw q (by
    simp only [DataW.weights, Tryz.underlying50, DataW.weightsEach, List.map_cons, List.mem_append, List.map_nil]
    exact .inl hq)
  have h1 : nt ≤ reachBytes := b1 _ fun q hq => hw q (by
    simp only [DataW.weights, Tryz.underlying50, DataW.weightsEach, List.map_cons, List.mem_append, List.map_nil]
    exact .inr (.inl hq))
  exact ⟨⟨nf, xf, nt, xt, z2⟩, ⟨v0, v1, rfl, s0, s1⟩, by show (nf : Int) ≤ _; omega, by show (nt : Int) ≤ _; omega, by show ((z2.size : Nat) : Int) ≤ _; omega⟩
end Go.Proofs.YtjekapjbigfkbaaGreatDoor
