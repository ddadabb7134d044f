/- Arguments: a slice of slices of strings, and a slice of integers, that came in. Arguments: a machine that came in. -/
import Derived.Test.YtlmfppjphblemaaGreatDoorC2
import Derived.Deep.Slices
import Derived.SliceStrings
import Derived.ChangeSlices
import Derived.Test.YtlmfppjphblemaaGreatDoorC7
import Derived.Lib.SmallJoins
import Derived.Deep.SlicePairs
import Derived.SizedLaws
namespace Go.Proofs.YtlmfppjphblemaaGreatDoor
open Go Go.RowKit Go.Deep Go.ChangeShapes Go.WideShapes
set_option maxRecDepth 100000

end Go.Proofs.YtlmfppjphblemaaGreatDoor

namespace Go.Proofs.YtlmfppjphblemaaGreatDoor
open Go Go.RowKit Go.Deep Go.ChangeShapes Go.WideShapes Go.Joins
set_option maxRecDepth 100000

theorem weightsAll_mem {H : Type} {P : Program} {e : TypeId} {d : DataW H} {n : Nat} : ∀ {ds : List (DataW H)}, d ∈ ds → n ∈ d.weights P e → n ∈ DataW.weightsAll P e ds
  | d0 :: r, h, hn => by
    simp only [DataW.weightsAll, List.mem_append]
    rcases List.mem_cons.1 h with rfl | h
    · exact .inl hn
    · exact .inr (weightsAll_mem h hn)
theorem slice_weight {H : Type} {t e : TypeId} {el sp : List (DataW H)} (hu : Tryz.prog.underlying t = some (.slice e)) (hB : 1 ≤ Tryz.prog.bytesOf e) {b : Nat} (hb : ∀ m ∈ (DataW.slice el sp).weights Tryz.prog t, m ≤ b) : el.length ≤ b := by
  have h := hb ((el.length + sp.length) * Tryz.prog.bytesOf e) (by simp [DataW.weights, hu])
  have := Nat.le_mul_of_pos_right (el.length + sp.length) hB
  omega
theorem weights_part {H : Type} {t e : TypeId} {el sp : List (DataW H)} {d : DataW H} {m : Nat} (hu : Tryz.prog.underlying t = some (.slice e)) (hd : d ∈ el) (hm : m ∈ d.weights Tryz.prog e) : m ∈ (DataW.slice el sp).weights Tryz.prog t := by
  simp only [DataW.weights, hu, List.mem_cons, List.mem_append]
  exact .inr (.inl (weightsAll_mem hd hm))

theorem arg_arcs {H : Type} {enc : TypeId × Value → H} {W : World} {held : Bool} {fuel : Nat} {v : Value} {x : DataW H × List MemPlace} (h : DataW.trod enc Tryz.prog W 0 (fun _ => true) held fuel 51 [v] = some x) :
    ∃ (n : Nat) (fi fo ft : Nat → Int) (fw : Nat → ByteArray), (∀ (D : MD) (i : Nat), D.na i = n → D.ain i = fi → D.aout i = fo → D.aw i = fw → D.ato i = ft → ArS none W v D i) ∧ (∀ j, (fw j).size ≤ maxLen) ∧
      ∀ b, (∀ m ∈ x.1.weights Tryz.prog 51, m ≤ b) → n ≤ b := by
  rcases open_slice Tryz.underlying51 h with ⟨hc, _⟩ | ⟨a, len, cap, m, n', D, Pl, hc, _, hl, hm, hmm, hxx, hx⟩
  · simp only [List.cons.injEq, and_true] at hc
    exact ⟨0, fun _ => 0, fun _ => 0, fun _ => 0, fun _ => ⟨#[]⟩, fun D i h0 _ _ _ _ => .inl ⟨h0, none, 0, hc, Nat.zero_le _⟩, fun _ => Nat.zero_le _, fun _ _ => Nat.zero_le _⟩
  · simp only [List.cons.injEq, and_true] at hc
    simp only [if_true] at hmm
    subst hmm
    have c4 : Tryz.prog.cellsOf 56 = 4 := by kernel_rfl
    have ci : Tryz.prog.cellsOf 3 = 1 := by kernel_rfl
    have cs : Tryz.prog.cellsOf 9 = 1 := by kernel_rfl
    classical
    have hall : ∀ i, ∃ t : Int × Int × ByteArray × Int, t.2.2.1.size ≤ maxLen ∧ (i < m → W.cell? (a.add (i * 4)) = some (.int .i64 t.1) ∧ W.cell? (a.add (i * 4 + 1)) = some (.int .i64 t.2.1) ∧ W.cell? (a.add (i * 4 + 2)) = some (.string t.2.2.1) ∧ W.cell? (a.add (i * 4 + 3)) = some (.int .i64 t.2.2.2)) := fun i => by
      by_cases hi : i < m
      · obtain ⟨cs', h1, h2⟩ := hx i hi
        rw [c4] at h1
        obtain ⟨_, hlen, hcell⟩ := World.cells?_some h1
        obtain ⟨y0, y1, y2, y3, k, _, _, g0, g1, g2, g3⟩ := trod_struct4 Tryz.underlying56 h2
        match cs', hlen with
        | [v0, v1, v2, v3], _ =>
          simp only [ci, cs, List.drop_zero, List.drop_succ_cons, List.take_succ_cons, List.take_zero] at g0 g1 g2 g3
          obtain ⟨z0, e0, _⟩ := DataW.trod_int Tryz.underlying3 g0
          obtain ⟨z1, e1, _⟩ := DataW.trod_int Tryz.underlying3 g1
          obtain ⟨z2, e2, _, hsz⟩ := DataW.trod_string Tryz.underlying9 g2
          obtain ⟨z3, e3, _⟩ := DataW.trod_int Tryz.underlying3 g3
          obtain rfl : v0 = .int .i64 z0 := by simpa using e0
          obtain rfl : v1 = .int .i64 z1 := by simpa using e1
          obtain rfl : v2 = .string z2 := by simpa using e2
          obtain rfl : v3 = .int .i64 z3 := by simpa using e3
          have k0 := hcell 0 (by omega)
          have k1 := hcell 1 (by omega)
          have k2 := hcell 2 (by omega)
          have k3 := hcell 3 (by omega)
          rw [add_add] at k0 k1 k2 k3
          exact ⟨(z0, z1, z2, z3), hsz, fun _ => ⟨by simpa using k0, by simpa using k1, by simpa using k2, by simpa using k3⟩⟩
      · exact ⟨(0, 0, ⟨#[]⟩, 0), Nat.zero_le _, fun h => absurd h hi⟩
    obtain ⟨T, hT⟩ : ∃ T : Nat → Int × Int × ByteArray × Int, ∀ i, (T i).2.2.1.size ≤ maxLen ∧ (i < m → W.cell? (a.add (i * 4)) = some (.int .i64 (T i).1) ∧ W.cell? (a.add (i * 4 + 1)) = some (.int .i64 (T i).2.1) ∧ W.cell? (a.add (i * 4 + 2)) = some (.string (T i).2.2.1) ∧ W.cell? (a.add (i * 4 + 3)) = some (.int .i64 (T i).2.2.2)) :=
      ⟨fun i => Classical.choose (hall i), fun i => Classical.choose_spec (hall i)⟩
    refine ⟨len, fun i => (T i).1, fun i => (T i).2.1, fun i => (T i).2.2.2, fun i => (T i).2.2.1, fun D i hn h1 h2 h3 h4 => ?_, fun j => (hT j).1, fun b hb => ?_⟩
    · by_cases h0 : len = 0
      · rw [h0] at hn hc; exact .inl ⟨hn, some a, m, hc, hm⟩
      · have c0 := ((hT 0).2 (by omega)).1
        have hs : a.spot = none := by simpa [Addr.add] using World.cell?_spot c0
        obtain ⟨b, off, sp⟩ := a
        simp only at hs; subst hs
        refine .inr ⟨b, off, m, by rw [hn]; exact hc, ⟨?_, by simp⟩, by rw [hn]; exact hl, hm, fun j hj => ?_⟩
        · have := World.block_lt_of_cell? _ _ c0
          rw [Addr.add_lit] at this; exact this
        · rw [hn] at hj
          obtain ⟨k0, k1, k2, k3⟩ := (hT j).2 (by omega)
          rw [Addr.add_lit] at k0 k1 k2 k3
          rw [h1, h2, h3, h4]
          exact ⟨k0, by rw [Nat.add_assoc]; exact k1, by rw [Nat.add_assoc]; exact k2, by rw [Nat.add_assoc]; exact k3⟩
    · rw [hxx] at hb
      have := slice_weight Tryz.underlying51 (by decide +kernel) hb
      simpa using this

theorem arg_ma {H : Type} {enc : TypeId × Value → H} {W : World} {r : Reach} {b0 : Nat} {held : Bool} {v : Value} {d : DataW H} {p : List MemPlace} (hv : Value.okWide Tryz.prog W r b0 31 v) (h : DataW.Trod enc Tryz.prog W 0 (fun _ => true) held 31 v d p)
    (hw : ∀ m ∈ d.weights Tryz.prog 31, m ≤ reachBytes) : ∃ D, Ma none W v D ∧ MSz D := by
  obtain ⟨v0, v1, v2, v3, y0, y1, y2, y3, n, rfl, rfl, rfl, t0, t1, t2, t3⟩ := open_agg4 Tryz.underlying31 (by kernel_rfl) (by kernel_rfl) hv h
  obtain ⟨z0, e0, _, w0⟩ := DataW.trod_int Tryz.underlying3 t0
  obtain ⟨z1, e1, _, w1⟩ := DataW.trod_int Tryz.underlying3 t1
  obtain ⟨z2, e2, _, w2⟩ := DataW.trod_string Tryz.underlying9 t2
  obtain rfl : v0 = .int .i64 z0 := by simpa using e0
  obtain rfl : v1 = .int .i64 z1 := by simpa using e1
  obtain rfl : v2 = .string z2 := by simpa using e2
  have hw3 : ∀ m ∈ y3.1.weights Tryz.prog 29, m ≤ reachBytes := fun m hm => hw m (by
    simp only [DataW.weights, Tryz.underlying31, DataW.weightsEach, List.map_cons, List.mem_append, List.map_nil]
    exact .inr (.inr (.inr (.inl hm))))
  have hwf : -9223372036854775808 ≤ z0 ∧ z0 ≤ 9223372036854775807 := by
    simp [Lit.wf, IntKind.min, IntKind.max, IntKind.signed, IntKind.bits] at w0
    omega
  have hR : reachBytes ≤ 140737488355328 := by decide
  rcases open_slice_pairs Tryz.underlying29 Tryz.underlying53 (by kernel_rfl) rfl rfl (by kernel_rfl) (by kernel_rfl) t3 with ⟨hc, _⟩ | ⟨a, len, cap, m, n', V0, V1, D0, D1, P0, P1, hc, _, hl, hm, hmm, hxx, hx⟩
  · simp only [List.cons.injEq, and_true] at hc
    exact ⟨{ kind := z0, start := z1, lead := z2, n := 0, fin := fun _ => ⟨#[]⟩, na := fun _ => 0, ain := fun _ _ => 0, aout := fun _ _ => 0, aw := fun _ _ => ⟨#[]⟩, ato := fun _ _ => 0 }, ⟨_, rfl, .inl ⟨rfl, none, 0, hc, Nat.zero_le _⟩⟩,
      ⟨w2, fun _ => Nat.zero_le _, fun _ _ => Nat.zero_le _, fun _ => Nat.zero_le _, Nat.zero_le _, hwf⟩⟩
  · simp only [List.cons.injEq, and_true] at hc
    simp only [if_true] at hmm
    subst hmm
    classical
    have hall : ∀ i, ∃ t : ByteArray × Nat × (Nat → Int) × (Nat → Int) × (Nat → Int) × (Nat → ByteArray), t.1.size ≤ maxLen ∧ (∀ j, (t.2.2.2.2.2 j).size ≤ maxLen) ∧ t.2.1 ≤ reachBytes ∧
        (i < len → V0 i = .string t.1 ∧ ∀ (D : MD) (j : Nat), D.na j = t.2.1 → D.ain j = t.2.2.1 → D.aout j = t.2.2.2.1 → D.aw j = t.2.2.2.2.2 → D.ato j = t.2.2.2.2.1 → ArS none W (V1 i) D j) := fun i => by
      by_cases hi : i < len
      · obtain ⟨_, _, g0, g1⟩ := hx i (by omega)
        obtain ⟨s, e, _, hs⟩ := DataW.trod_string Tryz.underlying9 g0
        obtain ⟨na, fi, fo, ft, fw, h1, h2, h3⟩ := arg_arcs g1
        refine ⟨(s, na, fi, fo, ft, fw), hs, h2, h3 _ fun q hq => hw3 q ?_, fun _ => ⟨by simpa using e, h1⟩⟩
        rw [hxx]
        refine weights_part Tryz.underlying29 (List.mem_map.2 ⟨i, List.mem_range.2 hi, rfl⟩) ?_
        simp only [DataW.weights, Tryz.underlying53, DataW.weightsEach, List.map_cons, List.mem_append, List.map_nil]
        exact .inr (.inl hq)
      · exact ⟨(⟨#[]⟩, 0, fun _ => 0, fun _ => 0, fun _ => 0, fun _ => ⟨#[]⟩), Nat.zero_le _, fun _ => Nat.zero_le _, Nat.zero_le _, fun h => absurd h hi⟩
    have hlen : len ≤ reachBytes := by
      rw [hxx] at hw3
      have := slice_weight Tryz.underlying29 (by decide +kernel) hw3
      simpa using this
    refine ⟨{ kind := z0, start := z1, lead := z2, n := len, fin := fun i => (Classical.choose (hall i)).1, na := fun i => (Classical.choose (hall i)).2.1, ain := fun i => (Classical.choose (hall i)).2.2.1, aout := fun i => (Classical.choose (hall i)).2.2.2.1, aw := fun i => (Classical.choose (hall i)).2.2.2.2.2, ato := fun i => (Classical.choose (hall i)).2.2.2.2.1 }, ⟨_, rfl, ?_⟩,
      ⟨w2, fun i => (Classical.choose_spec (hall i)).1, fun i => (Classical.choose_spec (hall i)).2.1, fun i => Nat.le_trans (Classical.choose_spec (hall i)).2.2.1 hR, Nat.le_trans hlen hR, hwf⟩⟩
    by_cases h0 : len = 0
    · subst h0; exact .inl ⟨rfl, some a, m, hc, hm⟩
    · have c0 := (hx 0 (by omega)).1
      have hs : a.spot = none := by simpa [Addr.add] using World.cell?_spot c0
      obtain ⟨b, off, sp⟩ := a
      simp only at hs; subst hs
      refine .inr ⟨b, off, m, V1, hc, ⟨?_, by simp⟩, hl, hm, fun j hj => ?_⟩
      · have := World.block_lt_of_cell? _ _ c0
        rw [Addr.add_lit] at this; exact this
      · obtain ⟨k0, k1, _, _⟩ := hx j (by have : j < len := hj; omega)
        obtain ⟨u1, u2⟩ := (Classical.choose_spec (hall j)).2.2.2 hj
        rw [Addr.add_lit] at k0 k1
        rw [u1] at k0
        exact ⟨k0, by rw [Nat.add_assoc]; exact k1, u2 _ j rfl rfl rfl rfl rfl⟩
end Go.Proofs.YtlmfppjphblemaaGreatDoor
