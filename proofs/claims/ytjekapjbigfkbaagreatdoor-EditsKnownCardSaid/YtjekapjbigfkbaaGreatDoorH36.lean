/- Parts of a proof: LEk. -/
import Derived.Test.YtjekapjbigfkbaaGreatDoorH35
namespace Go.Proofs.YtjekapjbigfkbaaGreatDoor
open Go Go.RowKit Go.Deep
set_option maxRecDepth 100000
set_option linter.unusedSimpArgs false
def x13 : Nat → Int := fun i => if i = 0 then 1 else 3
def x21 : Nat → Int := fun i => if i = 0 then 2 else 1
def wantK : EM := ⟨4, fun i => if i = 0 then ⟨1, fun _ => 1, 0, fun _ => 0, ⟨#[49]⟩⟩ else if i = 1 then ⟨1, fun _ => 2, 0, fun _ => 0, ⟨#[49]⟩⟩ else if i = 2 then ⟨2, x12, 2, x21, ⟨#[50]⟩⟩ else ⟨2, x21, 2, x12, ⟨#[50]⟩⟩, 6⟩
def simK : EM := simE 2 x12 ⟨#[]⟩ ⟨#[49]⟩ ⟨#[]⟩ ⟨#[50]⟩ 6
theorem simK_n : simK.n = 4 := by decide +kernel
theorem simK_most : simK.most = 6 := by decide +kernel
theorem simK_ok : okS 2 x12 ⟨#[]⟩ ⟨#[49]⟩ ⟨#[]⟩ ⟨#[50]⟩ 6 = true := by decide +kernel
theorem simK_R : simR 2 x12 ⟨#[]⟩ ⟨#[49]⟩ ⟨#[]⟩ ⟨#[50]⟩ 6 = (simK, 0) := by
  unfold simR
  rw [if_neg (by rw [simK_ok]; simp), if_neg (by rw [show (simE 2 x12 ⟨#[]⟩ ⟨#[49]⟩ ⟨#[]⟩ ⟨#[50]⟩ 6).n = 4 from simK_n]; omega)]; rfl
theorem simK_eq : ∀ i, i < 4 → (simK.e i).w = (wantK.e i).w ∧ ((simK.e i).nf = (wantK.e i).nf ∧ ∀ k, k < (wantK.e i).nf → (wantK.e i).f k = (simK.e i).f k) ∧ (simK.e i).nt = (wantK.e i).nt ∧ ∀ k, k < (wantK.e i).nt → (wantK.e i).t k = (simK.e i).t k := by decide +kernel
theorem simK_sz : ESz simK := simE_sz nil_sm (by unfold smS; decide) nil_sm (by unfold smS; decide) (by omega) (by omega)
theorem simK_a : simR 2 (fun _ => 1) ⟨#[]⟩ ⟨#[]⟩ ⟨#[]⟩ ⟨#[]⟩ 1 = (zeroE, 1) := simR_no (by decide +kernel)
theorem simK_b : simR 0 (fun _ => 0) ⟨#[45, 49]⟩ ⟨#[]⟩ ⟨#[]⟩ ⟨#[]⟩ 0 = (zeroE, 1) := simR_no (by decide +kernel)
theorem ek_out : ¬ InSg modelM 2 := fun h => by
  have h1 := ((h 1 (by decide)).2 0 (by decide)).2
  exact absurd (show (3 : Int) ≤ 2 from h1) (by omega)
theorem ek1 : lcostC ⟨modelM, 1, fun _ => 1, 1, fun _ => 2⟩ = ⟨#[49]⟩ := by decide +kernel
theorem ek2 : lcostC ⟨modelM, 2, x12, 1, fun _ => 3⟩ = ⟨#[49]⟩ := by decide +kernel
theorem ek3 : lcostC ⟨modelM, 2, x12, 2, fun _ => 3⟩ = ⟨#[105, 110, 102]⟩ := by decide +kernel
theorem ek4 : lcostC ⟨modelM, 1, fun _ => 3, 2, x13⟩ = ⟨#[50]⟩ := by decide +kernel
theorem ek5 : lcostC ⟨modelM, 1, fun _ => 1, 2, x12⟩ = ⟨#[51]⟩ := by decide +kernel
theorem ek6 : lcostC ⟨modelM, 2, x12, 2, fun _ => 2⟩ = ⟨#[49]⟩ := by decide +kernel
set_option maxHeartbeats 16000000 in
theorem editsKnown_any (w : World) (ht : Tab w) : Calls Tryz.prog 8 #[] w (TrueB w) := by
  have HTB := Lib.hid ht; clear ht
  go_enter Tryz.func8, Tryz.ntmps8
  go_wp2_with fail
  refine (model_any w).mono ?_
  rintro rr w1 ⟨hb1, sv1, rfl, hs1⟩
  have HB1 := Lib.hid hb1; clear hb1
  obtain ⟨a1, c1, _, _, _, _, _, _, hv1, _⟩ := hs1.open
  rw [show modelM.n = 3 from rfl] at hv1
  subst hv1
  rw [show modelM.most = 2 from rfl]
  obtain ⟨LW2, hLW2⟩ : ∃ L, L = [Obj.cells #[.slice a1 3 c1, .int .i64 2] 24] := ⟨_, rfl⟩
  obtain ⟨W2, hW2⟩ : ∃ W, W = (w1.alloc (Obj.cells #[.slice a1 3 c1, .int .i64 2] 24)) := ⟨_, rfl⟩
  have hAW2 : W2 = allocs w1 LW2 := by rw [hW2, hLW2]; rfl
  have bW2_0 : W2.heap[w1.heap.size + 0]? = some (Obj.cells #[.slice a1 3 c1, .int .i64 2] 24) := by rw [hAW2]; exact allocs_get LW2 w1 (i := 0) (by rw [hLW2]; rfl)
  have hbW2 : Below w1.heap.size w1 W2 := by rw [hAW2]; exact allocs_below LW2 w1 w1 w1.heap.size (Below.refl _ _) (Nat.le_refl _)
  clear hAW2 hLW2
  have HC := Lib.hid (compile_any (sg := 2) W2 (⟨_, rfl, hs1.kept (gb_below hbW2 none)⟩ : Em none W2 (.agg #[.slice a1 3 c1, .int .i64 2]) modelM) modelM_sz (HTB.out.below (HB1.out.trans (hbW2.mono HB1.out.size)) (Nat.le_refl _)))
  have HS1 := Lib.hid hs1; clear hs1
  have HB2 := Lib.hid (HB1.out.trans (hbW2.mono HB1.out.size))
  have HW1 := Lib.hid hbW2
  have HX2 := Lib.hid (show BxE W2 w1.heap.size (.slice a1 3 c1) 2 from bW2_0)
  clear bW2_0 hbW2 LW2
  go_wp2_with fail
  rw [← hW2]
  clear hW2
  refine HC.out.mono ?_
  rintro rr w3 ⟨hb3, hr⟩
  obtain rfl : rr = .returned (.tuple #[.agg #[.int .i64 0, .int .i64 0, .string ⟨#[]⟩, .slice none 0 0], .int .i64 1]) := by
    rcases hr with ⟨_, h⟩ | ⟨_, _, _, h, _⟩
    · exact h
    · exact absurd h ek_out
  have HB3 := Lib.hid (HB2.out.trans (hb3.mono HB2.out.size))
  have HW3 := Lib.hid (HW1.out.trans (hb3.mono HW1.out.size))
  have HX3 := Lib.hid (show BxE w3 w1.heap.size (.slice a1 3 c1) 2 from (hb3.block _ (lt_of_block HX2.out)).trans HX2.out)
  clear hb3 hr HC HB2 HX2 HW1
  obtain ⟨LW4, hLW4⟩ : ∃ L, L = [Obj.cells #[.int .i64 0, .int .i64 0, .string ⟨#[]⟩, .slice none 0 0] 36, Obj.cells #[.int .i64 1, .int .i64 1] 3] := ⟨_, rfl⟩
  obtain ⟨W4, hW4⟩ : ∃ W, W = ((w3.alloc (Obj.cells #[.int .i64 0, .int .i64 0, .string ⟨#[]⟩, .slice none 0 0] 36)).alloc (Obj.cells #[.int .i64 1, .int .i64 1] 3)) := ⟨_, rfl⟩
  have hAW4 : W4 = allocs w3 LW4 := by rw [hW4, hLW4]; rfl
  have bW4_0 : W4.heap[w3.heap.size + 0]? = some (Obj.cells #[.int .i64 0, .int .i64 0, .string ⟨#[]⟩, .slice none 0 0] 36) := by rw [hAW4]; exact allocs_get LW4 w3 (i := 0) (by rw [hLW4]; rfl)
  have bW4_1 : W4.heap[w3.heap.size + 1]? = some (Obj.cells #[.int .i64 1, .int .i64 1] 3) := by rw [hAW4]; exact allocs_get LW4 w3 (i := 1) (by rw [hLW4]; rfl)
  have hbW4 : Below w3.heap.size w3 W4 := by rw [hAW4]; exact allocs_below LW4 w3 w3 w3.heap.size (Below.refl _ _) (Nat.le_refl _)
  clear hAW4 hLW4
  have hsm := esimple_any ⟨#[]⟩ ⟨#[]⟩ ⟨#[]⟩ ⟨#[]⟩ 1 W4 (si_blk (x := fun _ => 1) bW4_1 two_ml (lt2 rfl rfl)) (by omega) (HTB.out.below (HB3.out.trans (hbW4.mono HB3.out.size)) (Nat.le_refl _)) (by unfold smS; decide) (by unfold smS; decide) (by unfold smS; decide) (by unfold smS; decide)
  rw [simK_a] at hsm
  have HSM := Lib.hid hsm; clear hsm
  have HB4 := Lib.hid (HB3.out.trans (hbW4.mono HB3.out.size))
  have HW4 := Lib.hid (HW3.out.trans (hbW4.mono HW3.out.size))
  have HX4 := Lib.hid (show BxE W4 w1.heap.size (.slice a1 3 c1) 2 from (hbW4.block _ (lt_of_block HX3.out)).trans HX3.out)
  clear bW4_0 bW4_1 hbW4 LW4
  clear HB3 HW3 HX3
  go_wp2_with fail
  rw [← hW4]
  clear hW4
  refine HSM.out.mono ?_
  rintro rr w5 ⟨hb5, sv5, rfl, hs5⟩
  have HB5 := Lib.hid (HB4.out.trans (hb5.mono HB4.out.size))
  have HW5 := Lib.hid (HW4.out.trans (hb5.mono HW4.out.size))
  have HX5 := Lib.hid (show BxE w5 w1.heap.size (.slice a1 3 c1) 2 from (hb5.block _ (lt_of_block HX4.out)).trans HX4.out)
  clear hb5 HSM HB4 HW4 HX4
  obtain ⟨a5, c5, _, _, _, _, _, _, hv5, _⟩ := hs5.open
  rw [show ((zeroE, 1) : EM × Nat).1.n = 0 from rfl] at hv5
  subst hv5
  rw [show ((zeroE, 1) : EM × Nat).1.most = 0 from rfl, show (((zeroE, 1) : EM × Nat).2 : Int) = 1 from rfl]
  clear hs5
  obtain ⟨LW6, hLW6⟩ : ∃ L, L = [Obj.cells #[.slice a5 0 c5, .int .i64 0] 24] := ⟨_, rfl⟩
  obtain ⟨W6, hW6⟩ : ∃ W, W = (w5.alloc (Obj.cells #[.slice a5 0 c5, .int .i64 0] 24)) := ⟨_, rfl⟩
  have hAW6 : W6 = allocs w5 LW6 := by rw [hW6, hLW6]; rfl
  have bW6_0 : W6.heap[w5.heap.size + 0]? = some (Obj.cells #[.slice a5 0 c5, .int .i64 0] 24) := by rw [hAW6]; exact allocs_get LW6 w5 (i := 0) (by rw [hLW6]; rfl)
  have hbW6 : Below w5.heap.size w5 W6 := by rw [hAW6]; exact allocs_below LW6 w5 w5 w5.heap.size (Below.refl _ _) (Nat.le_refl _)
  clear hAW6 hLW6
  have hsm := esimple_any ⟨#[45, 49]⟩ ⟨#[]⟩ ⟨#[]⟩ ⟨#[]⟩ 0 W6 (si_nil W6 (fun _ => 0)) (by omega) (HTB.out.below (HB5.out.trans (hbW6.mono HB5.out.size)) (Nat.le_refl _)) (by unfold smS; decide) (by unfold smS; decide) (by unfold smS; decide) (by unfold smS; decide)
  rw [simK_b] at hsm
  have HSM := Lib.hid hsm; clear hsm
  have HB6 := Lib.hid (HB5.out.trans (hbW6.mono HB5.out.size))
  have HW6 := Lib.hid (HW5.out.trans (hbW6.mono HW5.out.size))
  have HX6 := Lib.hid (show BxE W6 w1.heap.size (.slice a1 3 c1) 2 from (hbW6.block _ (lt_of_block HX5.out)).trans HX5.out)
  clear bW6_0 hbW6 LW6
  clear HB5 HW5 HX5
  go_wp2_with fail
  rw [← hW6]
  clear hW6
  refine HSM.out.mono ?_
  rintro rr w7 ⟨hb7, sv7, rfl, hs7⟩
  have HB7 := Lib.hid (HB6.out.trans (hb7.mono HB6.out.size))
  have HW7 := Lib.hid (HW6.out.trans (hb7.mono HW6.out.size))
  have HX7 := Lib.hid (show BxE w7 w1.heap.size (.slice a1 3 c1) 2 from (hb7.block _ (lt_of_block HX6.out)).trans HX6.out)
  clear hb7 HSM HB6 HW6 HX6
  obtain ⟨a7, c7, _, _, _, _, _, _, hv7, _⟩ := hs7.open
  rw [show ((zeroE, 1) : EM × Nat).1.n = 0 from rfl] at hv7
  subst hv7
  rw [show ((zeroE, 1) : EM × Nat).1.most = 0 from rfl, show (((zeroE, 1) : EM × Nat).2 : Int) = 1 from rfl]
  clear hs7
  obtain ⟨LW8, hLW8⟩ : ∃ L, L = [Obj.cells #[.slice a7 0 c7, .int .i64 0] 24, Obj.cells #[.int .i64 1, .int .i64 2] 3] := ⟨_, rfl⟩
  obtain ⟨W8, hW8⟩ : ∃ W, W = ((w7.alloc (Obj.cells #[.slice a7 0 c7, .int .i64 0] 24)).alloc (Obj.cells #[.int .i64 1, .int .i64 2] 3)) := ⟨_, rfl⟩
  have hAW8 : W8 = allocs w7 LW8 := by rw [hW8, hLW8]; rfl
  have bW8_0 : W8.heap[w7.heap.size + 0]? = some (Obj.cells #[.slice a7 0 c7, .int .i64 0] 24) := by rw [hAW8]; exact allocs_get LW8 w7 (i := 0) (by rw [hLW8]; rfl)
  have bW8_1 : W8.heap[w7.heap.size + 1]? = some (Obj.cells #[.int .i64 1, .int .i64 2] 3) := by rw [hAW8]; exact allocs_get LW8 w7 (i := 1) (by rw [hLW8]; rfl)
  have hbW8 : Below w7.heap.size w7 W8 := by rw [hAW8]; exact allocs_below LW8 w7 w7 w7.heap.size (Below.refl _ _) (Nat.le_refl _)
  clear hAW8 hLW8
  have hsm := esimple_any ⟨#[]⟩ ⟨#[49]⟩ ⟨#[]⟩ ⟨#[50]⟩ 6 W8 (si_blk (x := x12) bW8_1 two_ml (lt2 rfl rfl)) (by omega) (HTB.out.below (HB7.out.trans (hbW8.mono HB7.out.size)) (Nat.le_refl _)) (by unfold smS; decide) (by unfold smS; decide) (by unfold smS; decide) (by unfold smS; decide)
  rw [simK_R] at hsm
  have HSM := Lib.hid hsm; clear hsm
  have HB8 := Lib.hid (HB7.out.trans (hbW8.mono HB7.out.size))
  have HW8 := Lib.hid (HW7.out.trans (hbW8.mono HW7.out.size))
  have HX8 := Lib.hid (show BxE W8 w1.heap.size (.slice a1 3 c1) 2 from (hbW8.block _ (lt_of_block HX7.out)).trans HX7.out)
  clear bW8_0 bW8_1 hbW8 LW8
  clear HB7 HW7 HX7
  go_wp2_with fail
  rw [← hW8]
  clear hW8
  refine HSM.out.mono ?_
  rintro rr w9 ⟨hb9, sv9, rfl, hs9⟩
  have HB9 := Lib.hid (HB8.out.trans (hb9.mono HB8.out.size))
  have HW9 := Lib.hid (HW8.out.trans (hb9.mono HW8.out.size))
  have HX9 := Lib.hid (show BxE w9 w1.heap.size (.slice a1 3 c1) 2 from (hb9.block _ (lt_of_block HX8.out)).trans HX8.out)
  clear hb9 HSM HB8 HW8 HX8
  obtain ⟨a9, c9, _, _, _, _, _, _, hv9, _⟩ := hs9.open
  rw [show ((simK, 0) : EM × Nat).1.n = 4 from simK_n] at hv9
  subst hv9
  rw [show ((simK, 0) : EM × Nat).1.most = 6 from simK_most, show (((simK, 0) : EM × Nat).2 : Int) = 0 from rfl]
  obtain ⟨LW10, hLW10⟩ : ∃ L, L = [Obj.cells #[.slice a9 4 c9, .int .i64 6] 24, Obj.cells #[.int .i64 1] 3, Obj.cells #[.int .i64 2] 3, Obj.cells #[.int .i64 1, .int .i64 2] 3, Obj.cells #[.int .i64 2, .int .i64 1] 3, Obj.cells #[.int .i64 2, .int .i64 1] 3, Obj.cells #[.int .i64 1, .int .i64 2] 3, Obj.cells #[.slice (some ⟨w9.heap.size + 1, 0, none⟩) 1 1, .slice none 0 0, .string ⟨#[49]⟩, .slice (some ⟨w9.heap.size + 1 + 1, 0, none⟩) 1 1, .slice none 0 0, .string ⟨#[49]⟩, .slice (some ⟨w9.heap.size + 1 + 1 + 1, 0, none⟩) 2 2, .slice (some ⟨w9.heap.size + 1 + 1 + 1 + 1, 0, none⟩) 2 2, .string ⟨#[50]⟩, .slice (some ⟨w9.heap.size + 1 + 1 + 1 + 1 + 1, 0, none⟩) 2 2, .slice (some ⟨w9.heap.size + 1 + 1 + 1 + 1 + 1 + 1, 0, none⟩) 2 2, .string ⟨#[50]⟩] 50, Obj.cells #[.slice (some ⟨w9.heap.size + 1 + 1 + 1 + 1 + 1 + 1 + 1, 0, none⟩) 4 4, .int .i64 6] 24] := ⟨_, rfl⟩
  obtain ⟨W10, hW10⟩ : ∃ W, W = (((((((((w9.alloc (Obj.cells #[.slice a9 4 c9, .int .i64 6] 24)).alloc (Obj.cells #[.int .i64 1] 3)).alloc (Obj.cells #[.int .i64 2] 3)).alloc (Obj.cells #[.int .i64 1, .int .i64 2] 3)).alloc (Obj.cells #[.int .i64 2, .int .i64 1] 3)).alloc (Obj.cells #[.int .i64 2, .int .i64 1] 3)).alloc (Obj.cells #[.int .i64 1, .int .i64 2] 3)).alloc (Obj.cells #[.slice (some ⟨w9.heap.size + 1, 0, none⟩) 1 1, .slice none 0 0, .string ⟨#[49]⟩, .slice (some ⟨w9.heap.size + 1 + 1, 0, none⟩) 1 1, .slice none 0 0, .string ⟨#[49]⟩, .slice (some ⟨w9.heap.size + 1 + 1 + 1, 0, none⟩) 2 2, .slice (some ⟨w9.heap.size + 1 + 1 + 1 + 1, 0, none⟩) 2 2, .string ⟨#[50]⟩, .slice (some ⟨w9.heap.size + 1 + 1 + 1 + 1 + 1, 0, none⟩) 2 2, .slice (some ⟨w9.heap.size + 1 + 1 + 1 + 1 + 1 + 1, 0, none⟩) 2 2, .string ⟨#[50]⟩] 50)).alloc (Obj.cells #[.slice (some ⟨w9.heap.size + 1 + 1 + 1 + 1 + 1 + 1 + 1, 0, none⟩) 4 4, .int .i64 6] 24)) := ⟨_, rfl⟩
  have hAW10 : W10 = allocs w9 LW10 := by rw [hW10, hLW10]; rfl
  have bW10_0 : W10.heap[w9.heap.size + 0]? = some (Obj.cells #[.slice a9 4 c9, .int .i64 6] 24) := by rw [hAW10]; exact allocs_get LW10 w9 (i := 0) (by rw [hLW10]; rfl)
  have bW10_1 : W10.heap[w9.heap.size + 1]? = some (Obj.cells #[.int .i64 1] 3) := by rw [hAW10]; exact allocs_get LW10 w9 (i := 1) (by rw [hLW10]; rfl)
  have bW10_2 : W10.heap[w9.heap.size + 2]? = some (Obj.cells #[.int .i64 2] 3) := by rw [hAW10]; exact allocs_get LW10 w9 (i := 2) (by rw [hLW10]; rfl)
  have bW10_3 : W10.heap[w9.heap.size + 3]? = some (Obj.cells #[.int .i64 1, .int .i64 2] 3) := by rw [hAW10]; exact allocs_get LW10 w9 (i := 3) (by rw [hLW10]; rfl)
  have bW10_4 : W10.heap[w9.heap.size + 4]? = some (Obj.cells #[.int .i64 2, .int .i64 1] 3) := by rw [hAW10]; exact allocs_get LW10 w9 (i := 4) (by rw [hLW10]; rfl)
  have bW10_5 : W10.heap[w9.heap.size + 5]? = some (Obj.cells #[.int .i64 2, .int .i64 1] 3) := by rw [hAW10]; exact allocs_get LW10 w9 (i := 5) (by rw [hLW10]; rfl)
  have bW10_6 : W10.heap[w9.heap.size + 6]? = some (Obj.cells #[.int .i64 1, .int .i64 2] 3) := by rw [hAW10]; exact allocs_get LW10 w9 (i := 6) (by rw [hLW10]; rfl)
  have bW10_7 : W10.heap[w9.heap.size + 7]? = some (Obj.cells #[.slice (some ⟨w9.heap.size + 1, 0, none⟩) 1 1, .slice none 0 0, .string ⟨#[49]⟩, .slice (some ⟨w9.heap.size + 1 + 1, 0, none⟩) 1 1, .slice none 0 0, .string ⟨#[49]⟩, .slice (some ⟨w9.heap.size + 1 + 1 + 1, 0, none⟩) 2 2, .slice (some ⟨w9.heap.size + 1 + 1 + 1 + 1, 0, none⟩) 2 2, .string ⟨#[50]⟩, .slice (some ⟨w9.heap.size + 1 + 1 + 1 + 1 + 1, 0, none⟩) 2 2, .slice (some ⟨w9.heap.size + 1 + 1 + 1 + 1 + 1 + 1, 0, none⟩) 2 2, .string ⟨#[50]⟩] 50) := by rw [hAW10]; exact allocs_get LW10 w9 (i := 7) (by rw [hLW10]; rfl)
  have bW10_8 : W10.heap[w9.heap.size + 8]? = some (Obj.cells #[.slice (some ⟨w9.heap.size + 1 + 1 + 1 + 1 + 1 + 1 + 1, 0, none⟩) 4 4, .int .i64 6] 24) := by rw [hAW10]; exact allocs_get LW10 w9 (i := 8) (by rw [hLW10]; rfl)
  have hbW10 : Below w9.heap.size w9 W10 := by rw [hAW10]; exact allocs_below LW10 w9 w9 w9.heap.size (Below.refl _ _) (Nat.le_refl _)
  clear hAW10 hLW10
  have m0 : W10.cell? ⟨w1.heap.size, 0, none⟩ = some (.slice a1 3 c1) := (hbW10.cell (p := ⟨w1.heap.size, 0, none⟩) (lt_of_block HX9.out)).trans (cell_of HX9.out 0 rfl)
  have m1 : W10.cell? ⟨w1.heap.size, 1, none⟩ = some (.int .i64 2) := (hbW10.cell (p := ⟨w1.heap.size, 1, none⟩) (lt_of_block HX9.out)).trans (cell_of HX9.out 1 rfl)
  clear bW10_0 bW10_1 bW10_2 bW10_3 bW10_4 bW10_5 bW10_6 bW10_7 bW10_8 hbW10 LW10
  subst hW10
  obtain ⟨LW11, hLW11⟩ : ∃ L, L = [Obj.cells #[.slice a9 4 c9, .int .i64 6] 24, Obj.cells #[.int .i64 1] 3, Obj.cells #[.int .i64 2] 3, Obj.cells #[.int .i64 1, .int .i64 2] 3, Obj.cells #[.int .i64 2, .int .i64 1] 3, Obj.cells #[.int .i64 2, .int .i64 1] 3, Obj.cells #[.int .i64 1, .int .i64 2] 3, Obj.cells #[.slice (some ⟨w9.heap.size + 1, 0, none⟩) 1 1, .slice none 0 0, .string ⟨#[49]⟩, .slice (some ⟨w9.heap.size + 1 + 1, 0, none⟩) 1 1, .slice none 0 0, .string ⟨#[49]⟩, .slice (some ⟨w9.heap.size + 1 + 1 + 1, 0, none⟩) 2 2, .slice (some ⟨w9.heap.size + 1 + 1 + 1 + 1, 0, none⟩) 2 2, .string ⟨#[50]⟩, .slice (some ⟨w9.heap.size + 1 + 1 + 1 + 1 + 1, 0, none⟩) 2 2, .slice (some ⟨w9.heap.size + 1 + 1 + 1 + 1 + 1 + 1, 0, none⟩) 2 2, .string ⟨#[50]⟩] 50, Obj.cells #[.slice (some ⟨w9.heap.size + 1 + 1 + 1 + 1 + 1 + 1 + 1, 0, none⟩) 4 4, .int .i64 6] 24, Obj.cells #[.int .i64 1] 3, Obj.cells #[.int .i64 2] 3] := ⟨_, rfl⟩
  obtain ⟨W11, hW11⟩ : ∃ W, W = (((((((((((w9.alloc (Obj.cells #[.slice a9 4 c9, .int .i64 6] 24)).alloc (Obj.cells #[.int .i64 1] 3)).alloc (Obj.cells #[.int .i64 2] 3)).alloc (Obj.cells #[.int .i64 1, .int .i64 2] 3)).alloc (Obj.cells #[.int .i64 2, .int .i64 1] 3)).alloc (Obj.cells #[.int .i64 2, .int .i64 1] 3)).alloc (Obj.cells #[.int .i64 1, .int .i64 2] 3)).alloc (Obj.cells #[.slice (some ⟨w9.heap.size + 1, 0, none⟩) 1 1, .slice none 0 0, .string ⟨#[49]⟩, .slice (some ⟨w9.heap.size + 1 + 1, 0, none⟩) 1 1, .slice none 0 0, .string ⟨#[49]⟩, .slice (some ⟨w9.heap.size + 1 + 1 + 1, 0, none⟩) 2 2, .slice (some ⟨w9.heap.size + 1 + 1 + 1 + 1, 0, none⟩) 2 2, .string ⟨#[50]⟩, .slice (some ⟨w9.heap.size + 1 + 1 + 1 + 1 + 1, 0, none⟩) 2 2, .slice (some ⟨w9.heap.size + 1 + 1 + 1 + 1 + 1 + 1, 0, none⟩) 2 2, .string ⟨#[50]⟩] 50)).alloc (Obj.cells #[.slice (some ⟨w9.heap.size + 1 + 1 + 1 + 1 + 1 + 1 + 1, 0, none⟩) 4 4, .int .i64 6] 24)).alloc (Obj.cells #[.int .i64 1] 3)).alloc (Obj.cells #[.int .i64 2] 3)) := ⟨_, rfl⟩
  have hAW11 : W11 = allocs w9 LW11 := by rw [hW11, hLW11]; rfl
  have bW11_0 : W11.heap[w9.heap.size + 0]? = some (Obj.cells #[.slice a9 4 c9, .int .i64 6] 24) := by rw [hAW11]; exact allocs_get LW11 w9 (i := 0) (by rw [hLW11]; rfl)
  have bW11_1 : W11.heap[w9.heap.size + 1]? = some (Obj.cells #[.int .i64 1] 3) := by rw [hAW11]; exact allocs_get LW11 w9 (i := 1) (by rw [hLW11]; rfl)
  have bW11_2 : W11.heap[w9.heap.size + 2]? = some (Obj.cells #[.int .i64 2] 3) := by rw [hAW11]; exact allocs_get LW11 w9 (i := 2) (by rw [hLW11]; rfl)
  have bW11_3 : W11.heap[w9.heap.size + 3]? = some (Obj.cells #[.int .i64 1, .int .i64 2] 3) := by rw [hAW11]; exact allocs_get LW11 w9 (i := 3) (by rw [hLW11]; rfl)
  have bW11_4 : W11.heap[w9.heap.size + 4]? = some (Obj.cells #[.int .i64 2, .int .i64 1] 3) := by rw [hAW11]; exact allocs_get LW11 w9 (i := 4) (by rw [hLW11]; rfl)
  have bW11_5 : W11.heap[w9.heap.size + 5]? = some (Obj.cells #[.int .i64 2, .int .i64 1] 3) := by rw [hAW11]; exact allocs_get LW11 w9 (i := 5) (by rw [hLW11]; rfl)
  have bW11_6 : W11.heap[w9.heap.size + 6]? = some (Obj.cells #[.int .i64 1, .int .i64 2] 3) := by rw [hAW11]; exact allocs_get LW11 w9 (i := 6) (by rw [hLW11]; rfl)
  have bW11_7 : W11.heap[w9.heap.size + 7]? = some (Obj.cells #[.slice (some ⟨w9.heap.size + 1, 0, none⟩) 1 1, .slice none 0 0, .string ⟨#[49]⟩, .slice (some ⟨w9.heap.size + 1 + 1, 0, none⟩) 1 1, .slice none 0 0, .string ⟨#[49]⟩, .slice (some ⟨w9.heap.size + 1 + 1 + 1, 0, none⟩) 2 2, .slice (some ⟨w9.heap.size + 1 + 1 + 1 + 1, 0, none⟩) 2 2, .string ⟨#[50]⟩, .slice (some ⟨w9.heap.size + 1 + 1 + 1 + 1 + 1, 0, none⟩) 2 2, .slice (some ⟨w9.heap.size + 1 + 1 + 1 + 1 + 1 + 1, 0, none⟩) 2 2, .string ⟨#[50]⟩] 50) := by rw [hAW11]; exact allocs_get LW11 w9 (i := 7) (by rw [hLW11]; rfl)
  have bW11_8 : W11.heap[w9.heap.size + 8]? = some (Obj.cells #[.slice (some ⟨w9.heap.size + 1 + 1 + 1 + 1 + 1 + 1 + 1, 0, none⟩) 4 4, .int .i64 6] 24) := by rw [hAW11]; exact allocs_get LW11 w9 (i := 8) (by rw [hLW11]; rfl)
  have bW11_9 : W11.heap[w9.heap.size + 9]? = some (Obj.cells #[.int .i64 1] 3) := by rw [hAW11]; exact allocs_get LW11 w9 (i := 9) (by rw [hLW11]; rfl)
  have bW11_10 : W11.heap[w9.heap.size + 10]? = some (Obj.cells #[.int .i64 2] 3) := by rw [hAW11]; exact allocs_get LW11 w9 (i := 10) (by rw [hLW11]; rfl)
  have hbW11 : Below w9.heap.size w9 W11 := by rw [hAW11]; exact allocs_below LW11 w9 w9 w9.heap.size (Below.refl _ _) (Nat.le_refl _)
  clear hAW11 hLW11
  have hwant : EdS none W11 (.slice (some ⟨w9.heap.size + 1 + 1 + 1 + 1 + 1 + 1 + 1, 0, none⟩) 4 4) simK := by
    refine EdS.congr (M := wantK) (eds_blk (M := wantK) (F := fun i => if i = 0 then .slice (some ⟨w9.heap.size + 1, 0, none⟩) 1 1 else if i = 1 then .slice (some ⟨w9.heap.size + 1 + 1, 0, none⟩) 1 1 else if i = 2 then .slice (some ⟨w9.heap.size + 1 + 1 + 1, 0, none⟩) 2 2 else .slice (some ⟨w9.heap.size + 1 + 1 + 1 + 1 + 1, 0, none⟩) 2 2) (T := fun i => if i = 0 then .slice none 0 0 else if i = 1 then .slice none 0 0 else if i = 2 then .slice (some ⟨w9.heap.size + 1 + 1 + 1 + 1, 0, none⟩) 2 2 else .slice (some ⟨w9.heap.size + 1 + 1 + 1 + 1 + 1 + 1, 0, none⟩) 2 2) bW11_7 (by show 4 ≤ maxLen; unfold maxLen; omega) (lt4 ?_ ?_ ?_ ?_)) simK_n simK_eq
    · exact ⟨rfl, rfl, rfl, (si_blk (x := fun _ => 1) bW11_1 one_ml (lt1 rfl)), si_nil _ _⟩
    · exact ⟨rfl, rfl, rfl, (si_blk (x := fun _ => 2) bW11_2 one_ml (lt1 rfl)), si_nil _ _⟩
    · exact ⟨rfl, rfl, rfl, (si_blk (x := x12) bW11_3 two_ml (lt2 rfl rfl)), (si_blk (x := x21) bW11_4 two_ml (lt2 rfl rfl))⟩
    · exact ⟨rfl, rfl, rfl, (si_blk (x := x21) bW11_5 two_ml (lt2 rfl rfl)), (si_blk (x := x12) bW11_6 two_ml (lt2 rfl rfl))⟩
  have hsame := fun (W : World) (h : Below W11.heap.size W11 W) => rsame_any W ((hs9.kept (gb_below hbW11 none)).kept (gb_below h none)) (hwant.kept (gb_below h none)) simK_sz
  rw [show ((simK, 0) : EM × Nat).1.most = 6 from simK_most] at hsame
  have HSAME := Lib.hid hsame; clear hsame hwant hs9
  have HN := Lib.hid (show BxE W11 w9.heap.size (.slice a9 4 c9) 6 from bW11_0)
  have HWN := Lib.hid (show BxE W11 (w9.heap.size + 1 + 1 + 1 + 1 + 1 + 1 + 1 + 1) (.slice (some ⟨w9.heap.size + 1 + 1 + 1 + 1 + 1 + 1 + 1, 0, none⟩) 4 4) 6 from bW11_8)
  have HR11 := Lib.hid (Below.refl W11.heap.size W11)
  have HB11 := Lib.hid (HB9.out.trans (hbW11.mono HB9.out.size))
  have HW11 := Lib.hid (HW9.out.trans (hbW11.mono HW9.out.size))
  have HX11 := Lib.hid (show BxE W11 w1.heap.size (.slice a1 3 c1) 2 from (hbW11.block _ (lt_of_block HX9.out)).trans HX9.out)
  have hc := lcost_any W11 (⟨_, rfl, HS1.out.kept (gb_below HW11.out none)⟩ : Em none W11 (.agg #[.slice a1 3 c1, .int .i64 2]) modelM) modelM_sz (HTB.out.below HB11.out (Nat.le_refl _)) (si_blk (x := fun _ => 1) bW11_9 one_ml (lt1 rfl)) (si_blk (x := fun _ => 2) bW11_10 one_ml (lt1 rfl)) modelM_valid (by decide +kernel) (by decide +kernel)
  rw [ek1] at hc
  have HC := Lib.hid hc; clear hc
  clear bW11_0 bW11_1 bW11_2 bW11_3 bW11_4 bW11_5 bW11_6 bW11_7 bW11_8 bW11_9 bW11_10 hbW11 LW11
  clear HB9 HW9 HX9
  go_wp2_with fail
  rw [← hW11]
  clear hW11
  refine HC.out.mono ?_
  rintro rr w12 ⟨rfl, hb12⟩
  have HB12 := Lib.hid (HB11.out.trans (hb12.mono HB11.out.size))
  have HW12 := Lib.hid (HW11.out.trans (hb12.mono HW11.out.size))
  have HR12 := Lib.hid (HR11.out.trans (hb12.mono HR11.out.size))
  have HX12 := Lib.hid (show BxE w12 w1.heap.size (.slice a1 3 c1) 2 from (hb12.block _ (lt_of_block HX11.out)).trans HX11.out)
  clear hb12 HC HB11 HW11 HR11 HX11 m0 m1
  obtain ⟨LW13, hLW13⟩ : ∃ L, L = [Obj.cells #[.int .i64 1, .int .i64 2] 3, Obj.cells #[.int .i64 3] 3] := ⟨_, rfl⟩
  obtain ⟨W13, hW13⟩ : ∃ W, W = ((w12.alloc (Obj.cells #[.int .i64 1, .int .i64 2] 3)).alloc (Obj.cells #[.int .i64 3] 3)) := ⟨_, rfl⟩
  have hAW13 : W13 = allocs w12 LW13 := by rw [hW13, hLW13]; rfl
  have bW13_0 : W13.heap[w12.heap.size + 0]? = some (Obj.cells #[.int .i64 1, .int .i64 2] 3) := by rw [hAW13]; exact allocs_get LW13 w12 (i := 0) (by rw [hLW13]; rfl)
  have bW13_1 : W13.heap[w12.heap.size + 1]? = some (Obj.cells #[.int .i64 3] 3) := by rw [hAW13]; exact allocs_get LW13 w12 (i := 1) (by rw [hLW13]; rfl)
  have hbW13 : Below w12.heap.size w12 W13 := by rw [hAW13]; exact allocs_below LW13 w12 w12 w12.heap.size (Below.refl _ _) (Nat.le_refl _)
  clear hAW13 hLW13
  have m0 := cell_of HX12.out 0 rfl
  have m1 := cell_of HX12.out 1 rfl
  have HB13 := Lib.hid (HB12.out.trans (hbW13.mono HB12.out.size))
  have HW13 := Lib.hid (HW12.out.trans (hbW13.mono HW12.out.size))
  have HX13 := Lib.hid (show BxE W13 w1.heap.size (.slice a1 3 c1) 2 from (hbW13.block _ (lt_of_block HX12.out)).trans HX12.out)
  have HR13 := Lib.hid (HR12.out.trans (hbW13.mono HR12.out.size))
  have hc := lcost_any W13 (⟨_, rfl, HS1.out.kept (gb_below HW13.out none)⟩ : Em none W13 (.agg #[.slice a1 3 c1, .int .i64 2]) modelM) modelM_sz (HTB.out.below HB13.out (Nat.le_refl _)) (si_blk (x := x12) bW13_0 two_ml (lt2 rfl rfl)) (si_blk (x := fun _ => 3) bW13_1 one_ml (lt1 rfl)) modelM_valid (by decide +kernel) (by decide +kernel)
  rw [ek2] at hc
  have HC := Lib.hid hc; clear hc
  clear bW13_0 bW13_1 hbW13 LW13
  clear HB12 HW12 HX12 HR12
  go_wp2_with fail
  rw [← hW13]
  clear hW13
  refine HC.out.mono ?_
  rintro rr w14 ⟨rfl, hb14⟩
  have HB14 := Lib.hid (HB13.out.trans (hb14.mono HB13.out.size))
  have HW14 := Lib.hid (HW13.out.trans (hb14.mono HW13.out.size))
  have HR14 := Lib.hid (HR13.out.trans (hb14.mono HR13.out.size))
  have HX14 := Lib.hid (show BxE w14 w1.heap.size (.slice a1 3 c1) 2 from (hb14.block _ (lt_of_block HX13.out)).trans HX13.out)
  clear hb14 HC HB13 HW13 HR13 HX13
  clear m0 m1
  obtain ⟨LW15, hLW15⟩ : ∃ L, L = [Obj.cells #[.int .i64 1, .int .i64 2] 3, Obj.cells #[.int .i64 3, .int .i64 3] 3] := ⟨_, rfl⟩
  obtain ⟨W15, hW15⟩ : ∃ W, W = ((w14.alloc (Obj.cells #[.int .i64 1, .int .i64 2] 3)).alloc (Obj.cells #[.int .i64 3, .int .i64 3] 3)) := ⟨_, rfl⟩
  have hAW15 : W15 = allocs w14 LW15 := by rw [hW15, hLW15]; rfl
  have bW15_0 : W15.heap[w14.heap.size + 0]? = some (Obj.cells #[.int .i64 1, .int .i64 2] 3) := by rw [hAW15]; exact allocs_get LW15 w14 (i := 0) (by rw [hLW15]; rfl)
  have bW15_1 : W15.heap[w14.heap.size + 1]? = some (Obj.cells #[.int .i64 3, .int .i64 3] 3) := by rw [hAW15]; exact allocs_get LW15 w14 (i := 1) (by rw [hLW15]; rfl)
  have hbW15 : Below w14.heap.size w14 W15 := by rw [hAW15]; exact allocs_below LW15 w14 w14 w14.heap.size (Below.refl _ _) (Nat.le_refl _)
  clear hAW15 hLW15
  have m0 := cell_of HX14.out 0 rfl
  have m1 := cell_of HX14.out 1 rfl
  have HB15 := Lib.hid (HB14.out.trans (hbW15.mono HB14.out.size))
  have HW15 := Lib.hid (HW14.out.trans (hbW15.mono HW14.out.size))
  have HX15 := Lib.hid (show BxE W15 w1.heap.size (.slice a1 3 c1) 2 from (hbW15.block _ (lt_of_block HX14.out)).trans HX14.out)
  have HR15 := Lib.hid (HR14.out.trans (hbW15.mono HR14.out.size))
  have hc := lcost_any W15 (⟨_, rfl, HS1.out.kept (gb_below HW15.out none)⟩ : Em none W15 (.agg #[.slice a1 3 c1, .int .i64 2]) modelM) modelM_sz (HTB.out.below HB15.out (Nat.le_refl _)) (si_blk (x := x12) bW15_0 two_ml (lt2 rfl rfl)) (si_blk (x := fun _ => 3) bW15_1 two_ml (lt2 rfl rfl)) modelM_valid (by decide +kernel) (by decide +kernel)
  rw [ek3] at hc
  have HC := Lib.hid hc; clear hc
  clear bW15_0 bW15_1 hbW15 LW15
  clear HB14 HW14 HX14 HR14
  go_wp2_with fail
  rw [← hW15]
  clear hW15
  refine HC.out.mono ?_
  rintro rr w16 ⟨rfl, hb16⟩
  have HB16 := Lib.hid (HB15.out.trans (hb16.mono HB15.out.size))
  have HW16 := Lib.hid (HW15.out.trans (hb16.mono HW15.out.size))
  have HR16 := Lib.hid (HR15.out.trans (hb16.mono HR15.out.size))
  have HX16 := Lib.hid (show BxE w16 w1.heap.size (.slice a1 3 c1) 2 from (hb16.block _ (lt_of_block HX15.out)).trans HX15.out)
  clear hb16 HC HB15 HW15 HR15 HX15
  clear m0 m1
  obtain ⟨LW17, hLW17⟩ : ∃ L, L = [Obj.cells #[.int .i64 3] 3, Obj.cells #[.int .i64 1, .int .i64 3] 3] := ⟨_, rfl⟩
  obtain ⟨W17, hW17⟩ : ∃ W, W = ((w16.alloc (Obj.cells #[.int .i64 3] 3)).alloc (Obj.cells #[.int .i64 1, .int .i64 3] 3)) := ⟨_, rfl⟩
  have hAW17 : W17 = allocs w16 LW17 := by rw [hW17, hLW17]; rfl
  have bW17_0 : W17.heap[w16.heap.size + 0]? = some (Obj.cells #[.int .i64 3] 3) := by rw [hAW17]; exact allocs_get LW17 w16 (i := 0) (by rw [hLW17]; rfl)
  have bW17_1 : W17.heap[w16.heap.size + 1]? = some (Obj.cells #[.int .i64 1, .int .i64 3] 3) := by rw [hAW17]; exact allocs_get LW17 w16 (i := 1) (by rw [hLW17]; rfl)
  have hbW17 : Below w16.heap.size w16 W17 := by rw [hAW17]; exact allocs_below LW17 w16 w16 w16.heap.size (Below.refl _ _) (Nat.le_refl _)
  clear hAW17 hLW17
  have m0 := cell_of HX16.out 0 rfl
  have m1 := cell_of HX16.out 1 rfl
  have HB17 := Lib.hid (HB16.out.trans (hbW17.mono HB16.out.size))
  have HW17 := Lib.hid (HW16.out.trans (hbW17.mono HW16.out.size))
  have HX17 := Lib.hid (show BxE W17 w1.heap.size (.slice a1 3 c1) 2 from (hbW17.block _ (lt_of_block HX16.out)).trans HX16.out)
  have HR17 := Lib.hid (HR16.out.trans (hbW17.mono HR16.out.size))
  have hc := lcost_any W17 (⟨_, rfl, HS1.out.kept (gb_below HW17.out none)⟩ : Em none W17 (.agg #[.slice a1 3 c1, .int .i64 2]) modelM) modelM_sz (HTB.out.below HB17.out (Nat.le_refl _)) (si_blk (x := fun _ => 3) bW17_0 one_ml (lt1 rfl)) (si_blk (x := x13) bW17_1 two_ml (lt2 rfl rfl)) modelM_valid (by decide +kernel) (by decide +kernel)
  rw [ek4] at hc
  have HC := Lib.hid hc; clear hc
  clear bW17_0 bW17_1 hbW17 LW17
  clear HB16 HW16 HX16 HR16
  go_wp2_with fail
  rw [← hW17]
  clear hW17
  refine HC.out.mono ?_
  rintro rr w18 ⟨rfl, hb18⟩
  have HB18 := Lib.hid (HB17.out.trans (hb18.mono HB17.out.size))
  have HW18 := Lib.hid (HW17.out.trans (hb18.mono HW17.out.size))
  have HR18 := Lib.hid (HR17.out.trans (hb18.mono HR17.out.size))
  have HX18 := Lib.hid (show BxE w18 w1.heap.size (.slice a1 3 c1) 2 from (hb18.block _ (lt_of_block HX17.out)).trans HX17.out)
  clear hb18 HC HB17 HW17 HR17 HX17
  clear m0 m1
  obtain ⟨LW19, hLW19⟩ : ∃ L, L = [Obj.cells #[.int .i64 1] 3, Obj.cells #[.int .i64 1, .int .i64 2] 3] := ⟨_, rfl⟩
  obtain ⟨W19, hW19⟩ : ∃ W, W = ((w18.alloc (Obj.cells #[.int .i64 1] 3)).alloc (Obj.cells #[.int .i64 1, .int .i64 2] 3)) := ⟨_, rfl⟩
  have hAW19 : W19 = allocs w18 LW19 := by rw [hW19, hLW19]; rfl
  have bW19_0 : W19.heap[w18.heap.size + 0]? = some (Obj.cells #[.int .i64 1] 3) := by rw [hAW19]; exact allocs_get LW19 w18 (i := 0) (by rw [hLW19]; rfl)
  have bW19_1 : W19.heap[w18.heap.size + 1]? = some (Obj.cells #[.int .i64 1, .int .i64 2] 3) := by rw [hAW19]; exact allocs_get LW19 w18 (i := 1) (by rw [hLW19]; rfl)
  have hbW19 : Below w18.heap.size w18 W19 := by rw [hAW19]; exact allocs_below LW19 w18 w18 w18.heap.size (Below.refl _ _) (Nat.le_refl _)
  clear hAW19 hLW19
  have m0 := cell_of HX18.out 0 rfl
  have m1 := cell_of HX18.out 1 rfl
  have HB19 := Lib.hid (HB18.out.trans (hbW19.mono HB18.out.size))
  have HW19 := Lib.hid (HW18.out.trans (hbW19.mono HW18.out.size))
  have HX19 := Lib.hid (show BxE W19 w1.heap.size (.slice a1 3 c1) 2 from (hbW19.block _ (lt_of_block HX18.out)).trans HX18.out)
  have HR19 := Lib.hid (HR18.out.trans (hbW19.mono HR18.out.size))
  have hc := lcost_any W19 (⟨_, rfl, HS1.out.kept (gb_below HW19.out none)⟩ : Em none W19 (.agg #[.slice a1 3 c1, .int .i64 2]) modelM) modelM_sz (HTB.out.below HB19.out (Nat.le_refl _)) (si_blk (x := fun _ => 1) bW19_0 one_ml (lt1 rfl)) (si_blk (x := x12) bW19_1 two_ml (lt2 rfl rfl)) modelM_valid (by decide +kernel) (by decide +kernel)
  rw [ek5] at hc
  have HC := Lib.hid hc; clear hc
  clear bW19_0 bW19_1 hbW19 LW19
  clear HB18 HW18 HX18 HR18
  go_wp2_with fail
  rw [← hW19]
  clear hW19
  refine HC.out.mono ?_
  rintro rr w20 ⟨rfl, hb20⟩
  have HB20 := Lib.hid (HB19.out.trans (hb20.mono HB19.out.size))
  have HW20 := Lib.hid (HW19.out.trans (hb20.mono HW19.out.size))
  have HR20 := Lib.hid (HR19.out.trans (hb20.mono HR19.out.size))
  have HX20 := Lib.hid (show BxE w20 w1.heap.size (.slice a1 3 c1) 2 from (hb20.block _ (lt_of_block HX19.out)).trans HX19.out)
  clear hb20 HC HB19 HW19 HR19 HX19
  clear m0 m1
  obtain ⟨LW21, hLW21⟩ : ∃ L, L = [Obj.cells #[.int .i64 1, .int .i64 2] 3, Obj.cells #[.int .i64 2, .int .i64 2] 3] := ⟨_, rfl⟩
  obtain ⟨W21, hW21⟩ : ∃ W, W = ((w20.alloc (Obj.cells #[.int .i64 1, .int .i64 2] 3)).alloc (Obj.cells #[.int .i64 2, .int .i64 2] 3)) := ⟨_, rfl⟩
  have hAW21 : W21 = allocs w20 LW21 := by rw [hW21, hLW21]; rfl
  have bW21_0 : W21.heap[w20.heap.size + 0]? = some (Obj.cells #[.int .i64 1, .int .i64 2] 3) := by rw [hAW21]; exact allocs_get LW21 w20 (i := 0) (by rw [hLW21]; rfl)
  have bW21_1 : W21.heap[w20.heap.size + 1]? = some (Obj.cells #[.int .i64 2, .int .i64 2] 3) := by rw [hAW21]; exact allocs_get LW21 w20 (i := 1) (by rw [hLW21]; rfl)
  have hbW21 : Below w20.heap.size w20 W21 := by rw [hAW21]; exact allocs_below LW21 w20 w20 w20.heap.size (Below.refl _ _) (Nat.le_refl _)
  clear hAW21 hLW21
  have m0 := cell_of HX20.out 0 rfl
  have m1 := cell_of HX20.out 1 rfl
  have HB21 := Lib.hid (HB20.out.trans (hbW21.mono HB20.out.size))
  have HW21 := Lib.hid (HW20.out.trans (hbW21.mono HW20.out.size))
  have HX21 := Lib.hid (show BxE W21 w1.heap.size (.slice a1 3 c1) 2 from (hbW21.block _ (lt_of_block HX20.out)).trans HX20.out)
  have HR21 := Lib.hid (HR20.out.trans (hbW21.mono HR20.out.size))
  have hc := lcost_any W21 (⟨_, rfl, HS1.out.kept (gb_below HW21.out none)⟩ : Em none W21 (.agg #[.slice a1 3 c1, .int .i64 2]) modelM) modelM_sz (HTB.out.below HB21.out (Nat.le_refl _)) (si_blk (x := x12) bW21_0 two_ml (lt2 rfl rfl)) (si_blk (x := fun _ => 2) bW21_1 two_ml (lt2 rfl rfl)) modelM_valid (by decide +kernel) (by decide +kernel)
  rw [ek6] at hc
  have HC := Lib.hid hc; clear hc
  clear bW21_0 bW21_1 hbW21 LW21
  clear HB20 HW20 HX20 HR20
  go_wp2_with fail
  rw [← hW21]
  clear hW21
  refine HC.out.mono ?_
  rintro rr w22 ⟨rfl, hb22⟩
  have HB22 := Lib.hid (HB21.out.trans (hb22.mono HB21.out.size))
  have HW22 := Lib.hid (HW21.out.trans (hb22.mono HW21.out.size))
  have HR22 := Lib.hid (HR21.out.trans (hb22.mono HR21.out.size))
  have HX22 := Lib.hid (show BxE w22 w1.heap.size (.slice a1 3 c1) 2 from (hb22.block _ (lt_of_block HX21.out)).trans HX21.out)
  clear hb22 HC HB21 HW21 HR21 HX21
  clear m0 m1
  have hn := (HR22.out.block w9.heap.size (lt_of_block HN.out)).trans HN.out
  have hwn := (HR22.out.block (w9.heap.size + 1 + 1 + 1 + 1 + 1 + 1 + 1 + 1) (lt_of_block HWN.out)).trans HWN.out
  have n0 := cell_of hn 0 rfl
  have n1 := cell_of hn 1 rfl
  have p0 := cell_of hwn 0 rfl
  have p1 := cell_of hwn 1 rfl
  clear hn hwn
  have HSM := Lib.hid (HSAME.out w22 HR22.out)
  clear HSAME HN HWN
  go_wp2_with fail
  refine HSM.out.mono ?_
  rintro rr w23 ⟨rfl, hb23⟩
  have HB23 := Lib.hid (HB22.out.trans (hb23.mono HB22.out.size))
  clear hb23 n0 n1 p0 p1 HSM HB22
  have HEX := Lib.hid (example37_any w23 (HTB.out.below HB23.out (Nat.le_refl _)))
  go_wp2_with fail
  refine HEX.out.mono ?_
  rintro rr w24 ⟨rfl, hb24⟩
  have HB24 := Lib.hid (HB23.out.trans (hb24.mono HB23.out.size))
  clear hb24
  go_wp2_with fail
  go_ret
  exact ⟨rfl, HB24.out⟩
end Go.Proofs.YtjekapjbigfkbaaGreatDoor
