/- The walk of abugidalaw07.ClosureFinite. -/
import Derived.Test.YtlmfppjphblemaaGreatDoorW1
namespace Go.Proofs.YtlmfppjphblemaaGreatDoor
open Go Go.RowKit Go.Deep
set_option maxRecDepth 100000
set_option linter.unusedSimpArgs false

/-- Behind a function that builds a matrix of its own. -/
def OmL {k : KK} (sb n e : Nat) (C : Nat → Nat → RK k) (w : World) (r : Ending) (w' : World) : Prop :=
  ∃ g e' R Y, r = .returned (.slice (some ⟨g, 0, none⟩) n n) ∧ OM w' (fun _ => False) g 9 33 g n R (fun _ => n) Y ∧ w.heap.size ≤ g ∧ MatIs e' n Y C ∧ Er False e' ∧ (e' = 0 → e = 0) ∧ SumL w' sb k.1 e' ∧ sb < g ∧ w.grownBy w' (some sb)
set_option maxHeartbeats 8000000 in
theorem ones_om {k : KK} {n sb e : Nat} (w : World) (hn : n ≤ 9) (hs : SumL w sb k.1 e) (he : Er False e) :
    Calls Tryz.prog 30 #[.pointer (some ⟨sb, 0, none⟩), .int .i64 (n : Int)] w (OmL (k := k) sb n e CSR.eye w) := by
  have hmk2 := run_make_row' (P := Tryz.prog) 22 33 (.slice none 0 0) 24 Tryz.underlying22 info_strs rfl .i64 .i64 n (by omega) (by omega)
  have hst := Bld.start (n := n) hs he (fun _ _ => ⟨#[]⟩) (CSR.eye (R := RK k))
  have HST := Lib.hid hst; clear hst
  clear hs he
  go_enter Tryz.func30, Tryz.ntmps30
  go_wp2_with fail
  clear hmk2
  obtain ⟨gB, hgB⟩ : ∃ gB, gB = w.heap.size := ⟨_, rfl⟩
  rw [← hgB] at HST
  rw [← hgB]
  have HGB := Lib.hid hgB; clear hgB
  -- ████ for i
  go_loopw [6, 7] (fun i _ wr => ∃ (d e' : Nat) (R2 : Nat → Value) (Y : Nat → Nat → ByteArray), d ≤ n ∧ i = .int .i64 (d : Int) ∧ Bld w wr gB sb n e d 0 e' R2 Y (CSR.eye (R := RK k))) (fun i _ _ => n - (intOf i).toNat)
  case atStart => exact ⟨0, e, _, _, Nat.zero_le _, rfl, HST.out⟩
  case round =>
    obtain ⟨d, e', R2, Y, hd, rfl, hbl⟩ := hrel
    clear HST
    have HBL := Lib.hid hbl; clear hbl
    by_cases hlt : d < n
    · have hdz : (d : Int) < (n : Int) := by omega
      have hdz0 : (0 : Int) ≤ (d : Int) := by omega
      go_wp2_with fail
      -- ████ for j
      go_loopw [7] (fun i wr => ∃ (m e' : Nat) (R2 : Nat → Value) (Y : Nat → Nat → ByteArray), m ≤ n ∧ i = .int .i64 (m : Int) ∧ Bld w wr gB sb n e d m e' R2 Y (CSR.eye (R := RK k))) (fun i _ => n - (intOf i).toNat)
      case atStart => exact ⟨0, e', R2, Y, Nat.zero_le _, rfl, HBL.out⟩
      case round =>
        obtain ⟨m, e', R3, Y, hm2, rfl, hbl⟩ := hrel
        clear HBL
        have HBL := Lib.hid hbl; clear hbl
        by_cases hlt2 : m < n
        · have hmz : (m : Int) < (n : Int) := by omega
          have hmz0 : (0 : Int) ≤ (m : Int) := by omega
          obtain ⟨lv, hlv⟩ : ∃ lv, lv = R3 d := ⟨_, rfl⟩
          have s1 := HBL.out.om.cell hlt
          rw [← hlv] at s1
          have s2 := HBL.out.sum.c0
          have hsg := HBL.out.sg
          obtain ⟨i0, hi0, hz0, hz1, hz2⟩ := info_parts info_str
          have hgl := HBL.out.om.lt
          have nsg : some gB ≠ some sb := by simp; omega
          have HLV := Lib.hid hlv; clear hlv
          have hd1 := drew_gb wr (some sb)
          have hS0 : wr.drew.cell? ⟨gB, d, none⟩ = some lv ∧ wr.drew.cell? ⟨sb, 0, none⟩ = some (.int .i64 k.1) := ⟨s1, s2⟩
          by_cases hdm : d = m
          · have hg : ((d : Int) == (m : Int)) = true := by simp; omega
            have hcw : ∀ wk', Calls Tryz.prog 37 #[.int .i64 k.1] wk' (StrE (oneF k.1) wk') := fun wk' => semione_any k.1 wk'
            have hue : Is k e' (oneF k.1) (CSR.eye (R := RK k) d m) := by
              have h1 := Is.one k e'
              unfold CSR.eye; rw [if_pos hdm]; exact h1
            have HUE := Lib.hid hue; clear hue
            have HDM := Lib.hid hdm; clear hdm
            go_wp2_with fail
            refine region_heldK (fun wk' => wk'.cell? ⟨gB, d, none⟩ = some lv ∧ wk'.cell? ⟨sb, 0, none⟩ = some (.int .i64 k.1)) 14 (by kernel_rfl) ?_
            refine AnyK.take (i := 0) (v := ?v0) rfl (by kernel_rfl) (by kernel_rfl) (by kernel_rfl) (by kernel_rfl) (by kernel_rfl) (fun _ _ _ h => h) hS0 (Or.inl ⟨by kernel_rfl, ?hy0⟩) ?rest0
            case hy0 => rintro wk ⟨s1, s2⟩; go_simp; try with_reducible rfl
            try simp only [Act.put, List.setIfInBounds_toArray, List.set_cons_zero, List.set_cons_succ]
            refine AnyK.take (i := 1) (v := ?v1) rfl (by kernel_rfl) (by kernel_rfl) (by kernel_rfl) (by kernel_rfl) (by kernel_rfl) (fun _ _ _ h => h) hS0 (Or.inl ⟨by kernel_rfl, ?hy1⟩) ?rest1
            case hy1 => rintro wk ⟨s1, s2⟩; go_simp; try with_reducible rfl
            try simp only [Act.put, List.setIfInBounds_toArray, List.set_cons_zero, List.set_cons_succ]
            refine AnyK.take (i := 2) (v := ?v2) rfl (by kernel_rfl) (by kernel_rfl) (by kernel_rfl) (by kernel_rfl) (by kernel_rfl) (fun _ _ _ h => h) hS0 (Or.inl ⟨by kernel_rfl, ?hy2⟩) ?rest2
            case hy2 => rintro wk ⟨s1, s2⟩; go_simp; try with_reducible rfl
            try simp only [Act.put, List.setIfInBounds_toArray, List.set_cons_zero, List.set_cons_succ]
            refine AnyK.take (i := 3) (v := ?v3) rfl (by kernel_rfl) (by kernel_rfl) (by kernel_rfl) (by kernel_rfl) (by kernel_rfl) (fun _ _ _ h => h) hS0 (Or.inl ⟨by kernel_rfl, ?hy3⟩) ?rest3
            case hy3 => rintro wk ⟨s1, s2⟩; go_simp; try with_reducible rfl
            try simp only [Act.put, List.setIfInBounds_toArray, List.set_cons_zero, List.set_cons_succ]
            refine AnyK.take (i := 4) (v := ?v4) rfl (by kernel_rfl) (by kernel_rfl) (by kernel_rfl) (by kernel_rfl) (by kernel_rfl) (fun _ _ _ h => h) hS0 (Or.inl ⟨by kernel_rfl, ?hy4⟩) ?rest4
            case hy4 => rintro wk ⟨s1, s2⟩; go_simp; try with_reducible rfl
            try simp only [Act.put, List.setIfInBounds_toArray, List.set_cons_zero, List.set_cons_succ]
            refine AnyK.take (i := 5) (v := ?v5) rfl (by kernel_rfl) (by kernel_rfl) (by kernel_rfl) (by kernel_rfl) (by kernel_rfl) (fun _ _ _ h => h) hS0 (Or.inl ⟨by kernel_rfl, ?hy5⟩) ?rest5
            case hy5 => rintro wk ⟨s1, s2⟩; go_simp; try with_reducible rfl
            try simp only [Act.put, List.setIfInBounds_toArray, List.set_cons_zero, List.set_cons_succ]
            refine AnyK.take (i := 6) (v := ?v6) rfl (by kernel_rfl) (by kernel_rfl) (by kernel_rfl) (by kernel_rfl) (by kernel_rfl) (fun _ _ _ h => h) hS0 (Or.inl ⟨by kernel_rfl, ?hy6⟩) ?rest6
            case hy6 => rintro wk ⟨s1, s2⟩; go_simp; try with_reducible rfl
            try simp only [Act.put, List.setIfInBounds_toArray, List.set_cons_zero, List.set_cons_succ]
            refine AnyK.take (i := 7) (v := ?v7) rfl (by kernel_rfl) (by kernel_rfl) (by kernel_rfl) (by kernel_rfl) (by kernel_rfl) (fun _ _ _ h => h) hS0 (Or.inl ⟨by kernel_rfl, ?hy7⟩) ?rest7
            case hy7 => rintro wk ⟨s1, s2⟩; go_simp; try with_reducible rfl
            try simp only [Act.put, List.setIfInBounds_toArray, List.set_cons_zero, List.set_cons_succ]
            refine AnyK.take (i := 8) (v := ?v8) rfl (by kernel_rfl) (by kernel_rfl) (by kernel_rfl) (by kernel_rfl) (by kernel_rfl) (fun _ _ _ h => h) hS0 (Or.inl ⟨by kernel_rfl, ?hy8⟩) ?rest8
            case hy8 => rintro wk ⟨s1, s2⟩; go_simp; try with_reducible rfl
            try simp only [Act.put, List.setIfInBounds_toArray, List.set_cons_zero, List.set_cons_succ]
            refine AnyK.take (i := 9) (v := ?v9) rfl (by kernel_rfl) (by kernel_rfl) (by kernel_rfl) (by kernel_rfl) (by kernel_rfl) (fun _ _ _ h => h) hS0 (Or.inl ⟨by kernel_rfl, ?hy9⟩) ?rest9
            case hy9 => rintro wk ⟨s1, s2⟩; go_simp; try with_reducible rfl
            try simp only [Act.put, List.setIfInBounds_toArray, List.set_cons_zero, List.set_cons_succ]
            refine AnyK.one (i := 10) rfl (by kernel_rfl) (by rfl) (fun K hK => ?_)
            go_simp
            refine (hcw _).mono ?_
            rintro r w4 ⟨rfl, hb4⟩
            have hg4 : wr.grownBy w4 (some sb) := gb_trans hd1 (gb_below hb4 (some sb))
            have hs4 : SumL w4 sb k.1 e' := HBL.out.sum.drew.kept hb4
            have hS4 : w4.cell? ⟨gB, d, none⟩ = some lv ∧ w4.cell? ⟨sb, 0, none⟩ = some (.int .i64 k.1) := ⟨hg4.cell s1 nsg, hs4.c0⟩
            refine hK.out _ _ (.inr hS4) ?_
            clear hK K
            try simp only [Act.put, List.setIfInBounds_toArray, List.set_cons_zero, List.set_cons_succ]
            refine AnyK.one (i := 11) rfl (by kernel_rfl) (by rfl) (fun K hK => ?_)
            go_simp
            obtain ⟨wz, hwz⟩ : ∃ wz, wz = w4.alloc (.cells #[.string (oneF k.1)] 9) := ⟨_, rfl⟩
            have hga : w4.grownBy wz none := by rw [hwz]; exact World.grownBy_alloc w4 _ none
            have hza : wz.heap.size = w4.heap.size + 1 := by rw [hwz]; simp
            have hnew : wz.cell? ⟨w4.heap.size, 0, none⟩ = some (.string (oneF k.1)) := by rw [hwz]; exact cell_new w4 _ _ 0 _ rfl
            rw [← hwz]
            have HWZ := Lib.hid hwz; clear hwz
            have hSz := And.intro (hga.cell hS4.1 (by simp)) (hga.cell hS4.2 (by simp))
            refine hK.out _ _ (.inr hSz) ?_
            clear hK K
            try simp only [Act.put, List.setIfInBounds_toArray, List.set_cons_zero, List.set_cons_succ]
            have hrz := HBL.out.rowz hlt hg4 hga
            rw [← HLV.out] at hrz
            have hwsz : gB ≤ wz.heap.size := by have := hg4.size; omega
            refine AnyK.one (i := 12) rfl (by kernel_rfl) (by rfl) (fun K hK => ?_)
            refine wp_append_lies _ (.tmp 28) (.tmp 34) 33 rfl gB 9 i0 (.string ⟨#[]⟩) 1 16 Tryz.underlying33 hi0 hz0 hz1 hz2 rfl (by omega) lv m _ (by simp [Act.eval]) hrz ⟨w4.heap.size, 0, none⟩ 1 1 [.string (oneF k.1)] (by simp [Act.eval]) rfl (news1 hnew) (one_str _) (by omega) (by unfold maxLen; omega) (by omega) hwsz _ rfl ?_
            intro go cap' wa hown hgrow hat hlt'
            have hgrow' : wz.grownBy wa (R3 d).ownBlock := by rw [← HLV.out]; exact hgrow
            have hSa := And.intro (HBL.out.cellA hlt hgrow' (by first | exact Nat.le_refl _ | (apply Nat.le_of_lt; assumption)) (hSz.1)) (HBL.out.cellA hlt hgrow' (by first | exact Nat.le_refl _ | (apply Nat.le_of_lt; assumption)) (hSz.2))
            have hfa := HBL.out.frozenA hlt hg4 hga hgrow'
            refine hK.out _ _ (.inr hSa) ?_
            clear hK K
            try simp only [Act.put, List.setIfInBounds_toArray, List.set_cons_zero, List.set_cons_succ]
            refine AnyK.take (i := 13) (v := ?ve28_13) rfl (by kernel_rfl) (by kernel_rfl) (by kernel_rfl) (by kernel_rfl) (by kernel_rfl) (fun _ _ _ h => h) hSa (Or.inl ⟨by kernel_rfl, ?hye28_13⟩) ?reste28_13
            case hye28_13 => rintro wk ⟨s1, s2⟩; go_simp; try with_reducible rfl
            try simp only [Act.put, List.setIfInBounds_toArray, List.set_cons_zero, List.set_cons_succ]
            have g0 := hSa.1
            refine AnyK.one (i := 14) rfl (by kernel_rfl) (by rfl) (fun K hK => ?_)
            go_simp
            refine hK.out _ _ (.inl rfl) (AnyK.done (by kernel_rfl) ?_ _)
            clear hK K
            go_wp2_with fail
            go_roundw
            case rel =>
              obtain ⟨R4, h1⟩ := HBL.out.snoc (u := oneF k.1) hlt hg4 hs4 HBL.out.er (fun h => h) HUE.out hga hown (by rw [← HLV.out]; exact hgrow) (by rw [← HLV.out]; exact hat)
              exact ⟨m + 1, e', R4, _, by omega, by go_num, h1⟩
            case measure => simp [intOf]; omega
          · have hg : ((d : Int) == (m : Int)) = false := by simp; omega
            have hcw : ∀ wk', Calls Tryz.prog 33 #[.int .i64 k.1] wk' (StrE (zeroF k.1) wk') := fun wk' => semizero_any k.1 wk'
            have hue : Is k e' (zeroF k.1) (CSR.eye (R := RK k) d m) := by
              have h1 := Is.zero k e'
              unfold CSR.eye; rw [if_neg hdm]; exact h1
            have HUE := Lib.hid hue; clear hue
            have HDM := Lib.hid hdm; clear hdm
            go_wp2_with fail
            refine region_heldK (fun wk' => wk'.cell? ⟨gB, d, none⟩ = some lv ∧ wk'.cell? ⟨sb, 0, none⟩ = some (.int .i64 k.1)) 14 (by kernel_rfl) ?_
            refine AnyK.take (i := 0) (v := ?vz0) rfl (by kernel_rfl) (by kernel_rfl) (by kernel_rfl) (by kernel_rfl) (by kernel_rfl) (fun _ _ _ h => h) hS0 (Or.inl ⟨by kernel_rfl, ?hyz0⟩) ?restz0
            case hyz0 => rintro wk ⟨s1, s2⟩; go_simp; try with_reducible rfl
            try simp only [Act.put, List.setIfInBounds_toArray, List.set_cons_zero, List.set_cons_succ]
            refine AnyK.take (i := 1) (v := ?vz1) rfl (by kernel_rfl) (by kernel_rfl) (by kernel_rfl) (by kernel_rfl) (by kernel_rfl) (fun _ _ _ h => h) hS0 (Or.inl ⟨by kernel_rfl, ?hyz1⟩) ?restz1
            case hyz1 => rintro wk ⟨s1, s2⟩; go_simp; try with_reducible rfl
            try simp only [Act.put, List.setIfInBounds_toArray, List.set_cons_zero, List.set_cons_succ]
            refine AnyK.take (i := 2) (v := ?vz2) rfl (by kernel_rfl) (by kernel_rfl) (by kernel_rfl) (by kernel_rfl) (by kernel_rfl) (fun _ _ _ h => h) hS0 (Or.inl ⟨by kernel_rfl, ?hyz2⟩) ?restz2
            case hyz2 => rintro wk ⟨s1, s2⟩; go_simp; try with_reducible rfl
            try simp only [Act.put, List.setIfInBounds_toArray, List.set_cons_zero, List.set_cons_succ]
            refine AnyK.take (i := 3) (v := ?vz3) rfl (by kernel_rfl) (by kernel_rfl) (by kernel_rfl) (by kernel_rfl) (by kernel_rfl) (fun _ _ _ h => h) hS0 (Or.inl ⟨by kernel_rfl, ?hyz3⟩) ?restz3
            case hyz3 => rintro wk ⟨s1, s2⟩; go_simp; try with_reducible rfl
            try simp only [Act.put, List.setIfInBounds_toArray, List.set_cons_zero, List.set_cons_succ]
            refine AnyK.take (i := 4) (v := ?vz4) rfl (by kernel_rfl) (by kernel_rfl) (by kernel_rfl) (by kernel_rfl) (by kernel_rfl) (fun _ _ _ h => h) hS0 (Or.inl ⟨by kernel_rfl, ?hyz4⟩) ?restz4
            case hyz4 => rintro wk ⟨s1, s2⟩; go_simp; try with_reducible rfl
            try simp only [Act.put, List.setIfInBounds_toArray, List.set_cons_zero, List.set_cons_succ]
            refine AnyK.take (i := 5) (v := ?vz5) rfl (by kernel_rfl) (by kernel_rfl) (by kernel_rfl) (by kernel_rfl) (by kernel_rfl) (fun _ _ _ h => h) hS0 (Or.inl ⟨by kernel_rfl, ?hyz5⟩) ?restz5
            case hyz5 => rintro wk ⟨s1, s2⟩; go_simp; try with_reducible rfl
            try simp only [Act.put, List.setIfInBounds_toArray, List.set_cons_zero, List.set_cons_succ]
            refine AnyK.take (i := 6) (v := ?vz6) rfl (by kernel_rfl) (by kernel_rfl) (by kernel_rfl) (by kernel_rfl) (by kernel_rfl) (fun _ _ _ h => h) hS0 (Or.inl ⟨by kernel_rfl, ?hyz6⟩) ?restz6
            case hyz6 => rintro wk ⟨s1, s2⟩; go_simp; try with_reducible rfl
            try simp only [Act.put, List.setIfInBounds_toArray, List.set_cons_zero, List.set_cons_succ]
            refine AnyK.take (i := 7) (v := ?vz7) rfl (by kernel_rfl) (by kernel_rfl) (by kernel_rfl) (by kernel_rfl) (by kernel_rfl) (fun _ _ _ h => h) hS0 (Or.inl ⟨by kernel_rfl, ?hyz7⟩) ?restz7
            case hyz7 => rintro wk ⟨s1, s2⟩; go_simp; try with_reducible rfl
            try simp only [Act.put, List.setIfInBounds_toArray, List.set_cons_zero, List.set_cons_succ]
            refine AnyK.take (i := 8) (v := ?vz8) rfl (by kernel_rfl) (by kernel_rfl) (by kernel_rfl) (by kernel_rfl) (by kernel_rfl) (fun _ _ _ h => h) hS0 (Or.inl ⟨by kernel_rfl, ?hyz8⟩) ?restz8
            case hyz8 => rintro wk ⟨s1, s2⟩; go_simp; try with_reducible rfl
            try simp only [Act.put, List.setIfInBounds_toArray, List.set_cons_zero, List.set_cons_succ]
            refine AnyK.take (i := 9) (v := ?vz9) rfl (by kernel_rfl) (by kernel_rfl) (by kernel_rfl) (by kernel_rfl) (by kernel_rfl) (fun _ _ _ h => h) hS0 (Or.inl ⟨by kernel_rfl, ?hyz9⟩) ?restz9
            case hyz9 => rintro wk ⟨s1, s2⟩; go_simp; try with_reducible rfl
            try simp only [Act.put, List.setIfInBounds_toArray, List.set_cons_zero, List.set_cons_succ]
            refine AnyK.one (i := 10) rfl (by kernel_rfl) (by rfl) (fun K hK => ?_)
            go_simp
            refine (hcw _).mono ?_
            rintro r w4 ⟨rfl, hb4⟩
            have hg4 : wr.grownBy w4 (some sb) := gb_trans hd1 (gb_below hb4 (some sb))
            have hs4 : SumL w4 sb k.1 e' := HBL.out.sum.drew.kept hb4
            have hS4 : w4.cell? ⟨gB, d, none⟩ = some lv ∧ w4.cell? ⟨sb, 0, none⟩ = some (.int .i64 k.1) := ⟨hg4.cell s1 nsg, hs4.c0⟩
            refine hK.out _ _ (.inr hS4) ?_
            clear hK K
            try simp only [Act.put, List.setIfInBounds_toArray, List.set_cons_zero, List.set_cons_succ]
            refine AnyK.one (i := 11) rfl (by kernel_rfl) (by rfl) (fun K hK => ?_)
            go_simp
            obtain ⟨wz, hwz⟩ : ∃ wz, wz = w4.alloc (.cells #[.string (zeroF k.1)] 9) := ⟨_, rfl⟩
            have hga : w4.grownBy wz none := by rw [hwz]; exact World.grownBy_alloc w4 _ none
            have hza : wz.heap.size = w4.heap.size + 1 := by rw [hwz]; simp
            have hnew : wz.cell? ⟨w4.heap.size, 0, none⟩ = some (.string (zeroF k.1)) := by rw [hwz]; exact cell_new w4 _ _ 0 _ rfl
            rw [← hwz]
            have HWZ := Lib.hid hwz; clear hwz
            have hSz := And.intro (hga.cell hS4.1 (by simp)) (hga.cell hS4.2 (by simp))
            refine hK.out _ _ (.inr hSz) ?_
            clear hK K
            try simp only [Act.put, List.setIfInBounds_toArray, List.set_cons_zero, List.set_cons_succ]
            have hrz := HBL.out.rowz hlt hg4 hga
            rw [← HLV.out] at hrz
            have hwsz : gB ≤ wz.heap.size := by have := hg4.size; omega
            refine AnyK.one (i := 12) rfl (by kernel_rfl) (by rfl) (fun K hK => ?_)
            refine wp_append_lies _ (.tmp 42) (.tmp 48) 33 rfl gB 9 i0 (.string ⟨#[]⟩) 1 16 Tryz.underlying33 hi0 hz0 hz1 hz2 rfl (by omega) lv m _ (by simp [Act.eval]) hrz ⟨w4.heap.size, 0, none⟩ 1 1 [.string (zeroF k.1)] (by simp [Act.eval]) rfl (news1 hnew) (one_str _) (by omega) (by unfold maxLen; omega) (by omega) hwsz _ rfl ?_
            intro go cap' wa hown hgrow hat hlt'
            have hgrow' : wz.grownBy wa (R3 d).ownBlock := by rw [← HLV.out]; exact hgrow
            have hSa := And.intro (HBL.out.cellA hlt hgrow' (by first | exact Nat.le_refl _ | (apply Nat.le_of_lt; assumption)) (hSz.1)) (HBL.out.cellA hlt hgrow' (by first | exact Nat.le_refl _ | (apply Nat.le_of_lt; assumption)) (hSz.2))
            have hfa := HBL.out.frozenA hlt hg4 hga hgrow'
            refine hK.out _ _ (.inr hSa) ?_
            clear hK K
            try simp only [Act.put, List.setIfInBounds_toArray, List.set_cons_zero, List.set_cons_succ]
            refine AnyK.take (i := 13) (v := ?ve42_13) rfl (by kernel_rfl) (by kernel_rfl) (by kernel_rfl) (by kernel_rfl) (by kernel_rfl) (fun _ _ _ h => h) hSa (Or.inl ⟨by kernel_rfl, ?hye42_13⟩) ?reste42_13
            case hye42_13 => rintro wk ⟨s1, s2⟩; go_simp; try with_reducible rfl
            try simp only [Act.put, List.setIfInBounds_toArray, List.set_cons_zero, List.set_cons_succ]
            have g0 := hSa.1
            refine AnyK.one (i := 14) rfl (by kernel_rfl) (by rfl) (fun K hK => ?_)
            go_simp
            refine hK.out _ _ (.inl rfl) (AnyK.done (by kernel_rfl) ?_ _)
            clear hK K
            go_wp2_with fail
            go_roundw
            case rel =>
              obtain ⟨R4, h1⟩ := HBL.out.snoc (u := zeroF k.1) hlt hg4 hs4 HBL.out.er (fun h => h) HUE.out hga hown (by rw [← HLV.out]; exact hgrow) (by rw [← HLV.out]; exact hat)
              exact ⟨m + 1, e', R4, _, by omega, by go_num, h1⟩
            case measure => simp [intOf]; omega
        · have hmn : m = n := by omega
          have hgt2 : ¬ ((m : Int) < (n : Int)) := by omega
          have HMN := Lib.hid hmn; clear hmn
          go_wp2_with fail
          go_roundw
          case rel =>
            refine ⟨d + 1, e', R3, Y, by omega, by go_num, ?_⟩
            have h1 := HBL.out
            rw [HMN.out] at h1; exact h1.row
          case measure => simp [intOf]; omega
    · have hdn : d = n := by omega
      have hgt2 : ¬ ((d : Int) < (n : Int)) := by omega
      have HDN := Lib.hid hdn; clear hdn
      go_wp2_with fail
      go_ret
      have h1 := HBL.out
      rw [HDN.out] at h1
      exact ⟨gB, e', R2, Y, rfl, h1.om.congrL fun l hl => (by unfold LL; rw [if_pos hl]), h1.wg, (h1.done hn).2, h1.er, h1.mono, h1.sum, h1.sg, Gr.gb (by have h2 := h1.gr; rw [HGB.out] at h2; exact h2)⟩

theorem Rd.off {w : World} {v : Value} {n sb e : Nat} {kd : Int} {f : Nat → Value} (h : Rd none w v n f) (hs : SumL w sb kd e) (hf : ∀ i, i < n → (∀ t z, f i ≠ .int t z) ∧ ∀ b, f i ≠ .bool b) : Rd (some sb) w v n f := by
  rcases h with h | ⟨b, off, cap, hv, h1, h2, h3, h4⟩
  · exact .inl h
  · by_cases h0 : n = 0
    · subst h0; exact .inl ⟨rfl, _, cap, hv, h3⟩
    · refine .inr ⟨b, off, cap, hv, ⟨h1.1, fun e1 => ?_⟩, h2, h3, h4⟩
      have e2 : b = sb := Option.some.inj e1
      subst e2
      have h5 := h4 0 (by omega)
      have h6 := hf 0 (by omega)
      unfold SumL at hs
      simp only [World.cell?, hs] at h5
      rcases Nat.lt_or_ge (off + 0) 2 with h7 | h7
      · have : off + 0 = 0 ∨ off + 0 = 1 := by omega
        rcases this with h8 | h8
        · rw [h8] at h5; simp at h5; exact h6.1 _ _ h5.symm
        · rw [h8] at h5; simp at h5; exact h6.2 _ h5.symm
      · rw [Array.getElem?_eq_none (by simpa using h7)] at h5; cases h5
theorem Mt.off {w : World} {v : Value} {n sb e : Nat} {kd : Int} {L : Nat → Nat} {X : Nat → Nat → ByteArray} (h : Mt none w v n L X) (hs : SumL w sb kd e) : Mt (some sb) w v n L X := by
  obtain ⟨R, h1, h2⟩ := h
  refine ⟨R, Rd.off h1 hs fun i hi => ?_, fun i hi => Rd.off (h2 i hi) hs fun j _ => ⟨fun _ _ h => (by cases h), fun _ h => (by cases h)⟩⟩
  obtain ⟨a, cap, e⟩ := Rd.shape (h2 i hi)
  rw [e]
  exact ⟨fun _ _ h => (by cases h), fun _ h => (by cases h)⟩
/-- The strings of the matrix with zeros wherever the column is not greater than the row. -/
def upS (k : KK) (X : Nat → Nat → ByteArray) (i j : Nat) : ByteArray := if i < j then X i j else zeroF k.1

set_option maxHeartbeats 8000000 in
theorem closureFinite_any {k0 : Int} {n : Nat} {L : Nat → Nat} {X : Nat → Nat → ByteArray} {v : Value} (w : World) (hA : Mt none w v n L X) (hz : ∀ i j, (X i j).size ≤ maxLen) (ht : Tab w) :
    Calls Tryz.prog 7 #[.int .i64 k0, v] w (TrueE w) := by
  have hrd := ready_any (k0 := k0) w hA hz
  have HT := Lib.hid ht; clear ht
  have HZ := Lib.hid hz; clear hz
  have HMT := Lib.hid hA
  obtain ⟨a, cap, rfl⟩ := hA.shape
  clear hA
  have HRD := Lib.hid hrd; clear hrd
  go_enter Tryz.func7, Tryz.ntmps7
  go_wp2_with fail
  refine HRD.out.mono ?_
  rintro r w1 ⟨bb, rfl, hbb, hb1⟩
  have HB1 := Lib.hid hb1; clear hb1
  have HBB := Lib.hid hbb; clear hbb
  have hex : ∀ wk', Below w.heap.size w wk' → Calls Tryz.prog 11 #[] wk' (TrueE wk') := fun wk' hb => example_any wk' (HT.out.below hb (Nat.le_refl _))
  have HEX := Lib.hid hex; clear hex
  cases bb
  · go_wp2_with fail
    refine (HEX.out _ HB1.out).mono ?_
    rintro r w2 ⟨rfl, hb2⟩
    have HB2 := Lib.hid (HB1.out.trans (hb2.mono HB1.out.size)); clear hb2
    go_wp2_with fail
    go_ret
    exact ⟨rfl, HB2.out⟩
  · obtain ⟨hn9, hkd, hsq⟩ := HBB.out.1 rfl
    obtain ⟨k, rfl⟩ : ∃ k : KK, k.1 = k0 := ⟨⟨k0, by unfold kindB at hkd; simp at hkd; omega⟩, rfl⟩
    have HSQ := Lib.hid hsq; clear hsq
    have hnew := SumL.new w1 k.1
    have hbn : Below w1.heap.size w1 (w1.alloc (.cells #[.int .i64 k.1, .bool false] 45)) := (Below.refl _ _).alloc (Nat.le_refl _) _
    have hm1 : Mt none w1 (.slice a n cap) n (fun _ => n) X := (HMT.out.kept (gb_below HB1.out none)).congr (fun i hi => (HSQ.out i hi).1) (fun _ _ _ _ => rfl)
    obtain ⟨a1, cap1, b1, o1, A1, C1, BB1, O1, e1, ha1, hc1, hm1', hb1, hrow1⟩ := hm1.open
    cases e1
    clear hm1
    unfold maxLen at hm1'
    have HA1 := Lib.hid ha1; clear ha1
    have HBB1 := Lib.hid hb1; clear hb1
    have HR1 := Lib.hid hrow1; clear hrow1
    have HNEW := Lib.hid hnew; clear hnew
    have HBN := Lib.hid hbn; clear hbn
    have her : Er False 0 := ⟨.inl rfl, fun _ => rfl⟩
    go_wp2_with fail
    refine (ones_om (k := k) _ hn9 HNEW.out her).mono ?_
    rintro r w2 ⟨gB, e2, R2, Y2, rfl, hom, hwg, _, he2, _, hs2, hsg, hg2⟩
    have hg12 : w1.grownBy w2 (some w1.heap.size) := gb_trans (gb_below HBN.out _) hg2
    obtain ⟨sb, hsb⟩ : ∃ sb, sb = w1.heap.size := ⟨_, rfl⟩
    rw [← hsb] at hs2 hsg hg12
    rw [← hsb]
    have hwsb : w.heap.size ≤ sb := by rw [hsb]; exact HB1.out.size
    have hbw2 : Below w.heap.size w w2 := below_more HB1.out hg12 ⟨hwsb, Nat.le_refl _⟩
    have hcl : ∀ (wr : World) (ad : Addr) (x : Value), Below gB w2 wr → ad.block < w1.heap.size → w1.cell? ad = some x → wr.cell? ad = some x := fun wr ad x h1 h2 h3 =>
      (h1.cell (p := ad) (by omega)).trans (hg12.cell h3 (by simp; omega))
    have HBW2 := Lib.hid hbw2; clear hbw2
    have HCL := Lib.hid hcl; clear hcl
    have HSB := Lib.hid hsb; clear hsb HNEW HBN hg2 hwg hg12
    have HS2 := Lib.hid hs2; clear hs2
    have HE2 := Lib.hid he2; clear he2
    have HOM := Lib.hid hom; clear hom
    go_wp2_with fail
    -- ████ for i
    go_loopw [8, 9] (fun i _ wr => ∃ (d : Nat) (Y : Nat → Nat → ByteArray), d ≤ n ∧ i = .int .i64 (d : Int) ∧ OM wr (fun _ => False) gB 9 33 gB n R2 (fun _ => n) Y ∧ (∀ l j, l < n → j < n → l < d → Y l j = upS k X l j) ∧ Below gB w2 wr) (fun i _ _ => n - (intOf i).toNat)
    case atStart => exact ⟨0, Y2, Nat.zero_le _, rfl, HOM.out, fun _ _ _ _ h => by omega, Below.refl _ _⟩
    case round =>
      obtain ⟨d, Y, hd, rfl, hom, hy, hbw⟩ := hrel
      clear HOM
      have HOM := Lib.hid hom; clear hom
      have HY := Lib.hid hy; clear hy
      have HBW := Lib.hid hbw; clear hbw
      by_cases hlt : d < n
      · have hdz : (d : Int) < (n : Int) := by omega
        have hdz0 : (0 : Int) ≤ (d : Int) := by omega
        go_wp2_with fail
        -- ████ for j
        go_loopw [9] (fun i wr => ∃ (m : Nat) (Y : Nat → Nat → ByteArray), m ≤ n ∧ i = .int .i64 (m : Int) ∧ OM wr (fun _ => False) gB 9 33 gB n R2 (fun _ => n) Y ∧ (∀ l j, l < n → j < n → (l < d ∨ (l = d ∧ j < m)) → Y l j = upS k X l j) ∧ Below gB w2 wr) (fun i _ => n - (intOf i).toNat)
        case atStart => exact ⟨0, Y, Nat.zero_le _, rfl, HOM.out, fun l j hl hj h => HY.out l j hl hj (by omega), HBW.out⟩
        case round =>
          obtain ⟨m, Y, hm2, rfl, hom, hy, hbw⟩ := hrel
          clear HOM HY HBW
          have HOM := Lib.hid hom; clear hom
          have HY := Lib.hid hy; clear hy
          have HBW := Lib.hid hbw; clear hbw
          by_cases hlt2 : m < n
          · have hmz : (m : Int) < (n : Int) := by omega
            have hmz0 : (0 : Int) ≤ (m : Int) := by omega
            obtain ⟨rb, rc, hRb, hrB, hrl, hrg, _, hc3, hc4, hfr, hcr⟩ := HOM.out.form hlt (by omega)
            unfold maxLen at hc4
            have s1 := HOM.out.cell hlt
            rw [hRb] at s1
            have s2 := hcr m hlt2
            have rf := hfr m
            have HRB := Lib.hid hRb; clear hRb
            clear hfr hcr
            have hgl := HOM.out.lt
            have hcw := fun wk' => semizero_any k.1 wk'
            have hS0 : wr.drew.cell? ⟨gB, d, none⟩ = some (.slice (some ⟨rb, 0, none⟩) n rc) ∧ wr.drew.cell? ⟨rb, m, none⟩ = some (.string (Y d m)) := ⟨s1, s2⟩
            go_wp2_with fail
            refine region_heldK (fun wk' => wk'.cell? ⟨gB, d, none⟩ = some (.slice (some ⟨rb, 0, none⟩) n rc) ∧ wk'.cell? ⟨rb, m, none⟩ = some (.string (Y d m))) 8 (by kernel_rfl) ?_
            refine AnyK.take (i := 0) (v := ?vf0) rfl (by kernel_rfl) (by kernel_rfl) (by kernel_rfl) (by kernel_rfl) (by kernel_rfl) (fun _ _ _ h => h) hS0 (Or.inl ⟨by kernel_rfl, ?hyf0⟩) ?restf0
            case hyf0 => rintro wk ⟨s1, s2⟩; go_simp; try with_reducible rfl
            try simp only [Act.put, List.setIfInBounds_toArray, List.set_cons_zero, List.set_cons_succ]
            refine AnyK.take (i := 1) (v := ?vf1) rfl (by kernel_rfl) (by kernel_rfl) (by kernel_rfl) (by kernel_rfl) (by kernel_rfl) (fun _ _ _ h => h) hS0 (Or.inl ⟨by kernel_rfl, ?hyf1⟩) ?restf1
            case hyf1 => rintro wk ⟨s1, s2⟩; go_simp; try with_reducible rfl
            try simp only [Act.put, List.setIfInBounds_toArray, List.set_cons_zero, List.set_cons_succ]
            refine AnyK.take (i := 2) (v := ?vf2) rfl (by kernel_rfl) (by kernel_rfl) (by kernel_rfl) (by kernel_rfl) (by kernel_rfl) (fun _ _ _ h => h) hS0 (Or.inl ⟨by kernel_rfl, ?hyf2⟩) ?restf2
            case hyf2 => rintro wk ⟨s1, s2⟩; go_simp; try with_reducible rfl
            try simp only [Act.put, List.setIfInBounds_toArray, List.set_cons_zero, List.set_cons_succ]
            refine AnyK.take (i := 3) (v := ?vf3) rfl (by kernel_rfl) (by kernel_rfl) (by kernel_rfl) (by kernel_rfl) (by kernel_rfl) (fun _ _ _ h => h) hS0 (Or.inl ⟨by kernel_rfl, ?hyf3⟩) ?restf3
            case hyf3 => rintro wk ⟨s1, s2⟩; go_simp; try with_reducible rfl
            try simp only [Act.put, List.setIfInBounds_toArray, List.set_cons_zero, List.set_cons_succ]
            refine AnyK.take (i := 4) (v := ?vf4) rfl (by kernel_rfl) (by kernel_rfl) (by kernel_rfl) (by kernel_rfl) (by kernel_rfl) (fun _ _ _ h => h) hS0 (Or.inl ⟨by kernel_rfl, ?hyf4⟩) ?restf4
            case hyf4 => rintro wk ⟨s1, s2⟩; go_simp; try with_reducible rfl
            try simp only [Act.put, List.setIfInBounds_toArray, List.set_cons_zero, List.set_cons_succ]
            refine AnyK.take (i := 5) (v := ?vf5) rfl (by kernel_rfl) (by kernel_rfl) (by kernel_rfl) (by kernel_rfl) (by kernel_rfl) (fun _ _ _ h => h) hS0 (Or.inl ⟨by kernel_rfl, ?hyf5⟩) ?restf5
            case hyf5 => rintro wk ⟨s1, s2⟩; go_simp; try with_reducible rfl
            try simp only [Act.put, List.setIfInBounds_toArray, List.set_cons_zero, List.set_cons_succ]
            refine AnyK.one (i := 6) rfl (by kernel_rfl) (by rfl) (fun K hK => ?_)
            go_simp
            refine (hcw _).mono ?_
            rintro r w4 ⟨rfl, hb4⟩
            have hg4 : wr.grownBy w4 none := gb_trans (drew_gb wr none) (gb_below hb4 none)
            have hS4 : w4.cell? ⟨gB, d, none⟩ = some (.slice (some ⟨rb, 0, none⟩) n rc) ∧ w4.cell? ⟨rb, m, none⟩ = some (.string (Y d m)) := ⟨hg4.cell s1 (by simp), hg4.cell s2 (by simp)⟩
            refine hK.out _ _ (.inr hS4) ?_
            clear hK K
            try simp only [Act.put, List.setIfInBounds_toArray, List.set_cons_zero, List.set_cons_succ]
            refine AnyK.take (i := 7) (v := ?vf7) rfl (by kernel_rfl) (by kernel_rfl) (by kernel_rfl) (by kernel_rfl) (by kernel_rfl) (fun _ _ _ h => h) hS4 (Or.inl ⟨by kernel_rfl, ?hyf7⟩) ?restf7
            case hyf7 => rintro wk ⟨s1, s2⟩; go_simp; try with_reducible rfl
            try simp only [Act.put, List.setIfInBounds_toArray, List.set_cons_zero, List.set_cons_succ]
            have g0 := hS4.2
            have rf4 := (hg4.frozen_far ⟨rb, m, none⟩ hrl (by simp)).trans rf
            refine AnyK.one (i := 8) rfl (by kernel_rfl) (by rfl) (fun K hK => ?_)
            go_simp
            refine hK.out _ _ (.inl rfl) (AnyK.done (by kernel_rfl) ?_ _)
            clear hK K
            have hom2 := (HOM.out.kept hg4 (by simp)).stored hlt hlt2 HRB.out (zeroF k.1)
            have hwr : gB ≤ wr.heap.size := by omega
            have hbw2 : Below gB w2 (w4.setCell ⟨rb, m, none⟩ (.string (zeroF k.1))) := (HBW.out.trans ((gb_none hg4).mono hwr)).setCell hrB _
            clear hS4 hS0 g0 rf4 s1 s2 rf hg4 hb4
            obtain ⟨w5, hw5⟩ : ∃ w5, w5 = w4.setCell ⟨rb, m, none⟩ (.string (zeroF k.1)) := ⟨_, rfl⟩
            rw [← hw5] at hom2 hbw2
            rw [← hw5]
            clear hw5
            have HOM2 := Lib.hid hom2; clear hom2
            have HBW5 := Lib.hid hbw2; clear hbw2
            by_cases hgt : d < m
            · have hgz : (d : Int) < (m : Int) := by omega
              obtain ⟨rb2, rc2, hRb2, hrB2, hrl2, hrg2, _, _, _, hfr2, hcr2⟩ := HOM2.out.form hlt (by omega)
              have e2 := HRB.out.symm.trans hRb2
              simp only [Value.slice.injEq, Option.some.injEq, Addr.mk.injEq, and_true, true_and] at e2
              obtain ⟨e2, e3⟩ := e2
              subst e2 e3
              clear hRb2
              obtain ⟨y0, hy0⟩ : ∃ y0, w5.cell? ⟨rb, m, none⟩ = some (.string y0) := ⟨_, hcr2 m hlt2⟩
              have t1 := HOM2.out.cell hlt
              rw [HRB.out] at t1
              have rf5 := hfr2 m
              obtain rfl := HA1.out (by omega)
              obtain ⟨k1, _, k3, k4, k5, _, k7⟩ := HR1.out d hlt
              have k4' := k4 (by omega)
              have k5' := (k5 (by omega)).1
              rw [k4'] at k1
              unfold maxLen at k3
              have hcn : (C1 d : Int) ≤ 9223372036854775807 := by omega
              have t3 := HCL.out w5 ⟨b1, o1 + d, none⟩ _ HBW5.out (HBB1.out (by omega)).1 k1
              have t4 := HCL.out w5 ⟨BB1 d, O1 d + m, none⟩ _ HBW5.out k5' (k7 m hlt2)
              obtain ⟨x, hx⟩ : ∃ x, x = X d m := ⟨_, rfl⟩
              rw [← hx] at t4
              have HX := Lib.hid hx; clear hx
              clear k1 k4 k5 k7 k4' k5' hfr2 hcr2
              have hS0 : w5.drew.cell? ⟨gB, d, none⟩ = some (.slice (some ⟨rb, 0, none⟩) n rc) ∧ w5.drew.cell? ⟨rb, m, none⟩ = some (.string y0) ∧ w5.drew.cell? ⟨b1, o1 + d, none⟩ = some (.slice (some ⟨BB1 d, O1 d, none⟩) n (C1 d)) ∧ w5.drew.cell? ⟨BB1 d, O1 d + m, none⟩ = some (.string x) := ⟨t1, hy0, t3, t4⟩
              go_wp2_with fail
              refine region_heldK (fun wk' => wk'.cell? ⟨gB, d, none⟩ = some (.slice (some ⟨rb, 0, none⟩) n rc) ∧ wk'.cell? ⟨rb, m, none⟩ = some (.string y0) ∧ wk'.cell? ⟨b1, o1 + d, none⟩ = some (.slice (some ⟨BB1 d, O1 d, none⟩) n (C1 d)) ∧ wk'.cell? ⟨BB1 d, O1 d + m, none⟩ = some (.string x)) 13 (by kernel_rfl) ?_
              refine AnyK.take (i := 0) (v := ?vg0) rfl (by kernel_rfl) (by kernel_rfl) (by kernel_rfl) (by kernel_rfl) (by kernel_rfl) (fun _ _ _ h => h) hS0 (Or.inl ⟨by kernel_rfl, ?hyg0⟩) ?restg0
              case hyg0 => rintro wk ⟨s1, s2, s3, s4⟩; go_simp; try with_reducible rfl
              try simp only [Act.put, List.setIfInBounds_toArray, List.set_cons_zero, List.set_cons_succ]
              refine AnyK.take (i := 1) (v := ?vg1) rfl (by kernel_rfl) (by kernel_rfl) (by kernel_rfl) (by kernel_rfl) (by kernel_rfl) (fun _ _ _ h => h) hS0 (Or.inl ⟨by kernel_rfl, ?hyg1⟩) ?restg1
              case hyg1 => rintro wk ⟨s1, s2, s3, s4⟩; go_simp; try with_reducible rfl
              try simp only [Act.put, List.setIfInBounds_toArray, List.set_cons_zero, List.set_cons_succ]
              refine AnyK.take (i := 2) (v := ?vg2) rfl (by kernel_rfl) (by kernel_rfl) (by kernel_rfl) (by kernel_rfl) (by kernel_rfl) (fun _ _ _ h => h) hS0 (Or.inl ⟨by kernel_rfl, ?hyg2⟩) ?restg2
              case hyg2 => rintro wk ⟨s1, s2, s3, s4⟩; go_simp; try with_reducible rfl
              try simp only [Act.put, List.setIfInBounds_toArray, List.set_cons_zero, List.set_cons_succ]
              refine AnyK.take (i := 3) (v := ?vg3) rfl (by kernel_rfl) (by kernel_rfl) (by kernel_rfl) (by kernel_rfl) (by kernel_rfl) (fun _ _ _ h => h) hS0 (Or.inl ⟨by kernel_rfl, ?hyg3⟩) ?restg3
              case hyg3 => rintro wk ⟨s1, s2, s3, s4⟩; go_simp; try with_reducible rfl
              try simp only [Act.put, List.setIfInBounds_toArray, List.set_cons_zero, List.set_cons_succ]
              refine AnyK.take (i := 4) (v := ?vg4) rfl (by kernel_rfl) (by kernel_rfl) (by kernel_rfl) (by kernel_rfl) (by kernel_rfl) (fun _ _ _ h => h) hS0 (Or.inl ⟨by kernel_rfl, ?hyg4⟩) ?restg4
              case hyg4 => rintro wk ⟨s1, s2, s3, s4⟩; go_simp; try with_reducible rfl
              try simp only [Act.put, List.setIfInBounds_toArray, List.set_cons_zero, List.set_cons_succ]
              refine AnyK.take (i := 5) (v := ?vg5) rfl (by kernel_rfl) (by kernel_rfl) (by kernel_rfl) (by kernel_rfl) (by kernel_rfl) (fun _ _ _ h => h) hS0 (Or.inl ⟨by kernel_rfl, ?hyg5⟩) ?restg5
              case hyg5 => rintro wk ⟨s1, s2, s3, s4⟩; go_simp; try with_reducible rfl
              try simp only [Act.put, List.setIfInBounds_toArray, List.set_cons_zero, List.set_cons_succ]
              refine AnyK.take (i := 6) (v := ?vg6) rfl (by kernel_rfl) (by kernel_rfl) (by kernel_rfl) (by kernel_rfl) (by kernel_rfl) (fun _ _ _ h => h) hS0 (Or.inl ⟨by kernel_rfl, ?hyg6⟩) ?restg6
              case hyg6 => rintro wk ⟨s1, s2, s3, s4⟩; go_simp; try with_reducible rfl
              try simp only [Act.put, List.setIfInBounds_toArray, List.set_cons_zero, List.set_cons_succ]
              refine AnyK.take (i := 7) (v := ?vg7) rfl (by kernel_rfl) (by kernel_rfl) (by kernel_rfl) (by kernel_rfl) (by kernel_rfl) (fun _ _ _ h => h) hS0 (Or.inl ⟨by kernel_rfl, ?hyg7⟩) ?restg7
              case hyg7 => rintro wk ⟨s1, s2, s3, s4⟩; go_simp; try with_reducible rfl
              try simp only [Act.put, List.setIfInBounds_toArray, List.set_cons_zero, List.set_cons_succ]
              refine AnyK.take (i := 8) (v := ?vg8) rfl (by kernel_rfl) (by kernel_rfl) (by kernel_rfl) (by kernel_rfl) (by kernel_rfl) (fun _ _ _ h => h) hS0 (Or.inl ⟨by kernel_rfl, ?hyg8⟩) ?restg8
              case hyg8 => rintro wk ⟨s1, s2, s3, s4⟩; go_simp; try with_reducible rfl
              try simp only [Act.put, List.setIfInBounds_toArray, List.set_cons_zero, List.set_cons_succ]
              refine AnyK.take (i := 9) (v := ?vg9) rfl (by kernel_rfl) (by kernel_rfl) (by kernel_rfl) (by kernel_rfl) (by kernel_rfl) (fun _ _ _ h => h) hS0 (Or.inl ⟨by kernel_rfl, ?hyg9⟩) ?restg9
              case hyg9 => rintro wk ⟨s1, s2, s3, s4⟩; go_simp; try with_reducible rfl
              try simp only [Act.put, List.setIfInBounds_toArray, List.set_cons_zero, List.set_cons_succ]
              refine AnyK.take (i := 10) (v := ?vg10) rfl (by kernel_rfl) (by kernel_rfl) (by kernel_rfl) (by kernel_rfl) (by kernel_rfl) (fun _ _ _ h => h) hS0 (Or.inl ⟨by kernel_rfl, ?hyg10⟩) ?restg10
              case hyg10 => rintro wk ⟨s1, s2, s3, s4⟩; go_simp; try with_reducible rfl
              try simp only [Act.put, List.setIfInBounds_toArray, List.set_cons_zero, List.set_cons_succ]
              refine AnyK.take (i := 11) (v := ?vg11) rfl (by kernel_rfl) (by kernel_rfl) (by kernel_rfl) (by kernel_rfl) (by kernel_rfl) (fun _ _ _ h => h) hS0 (Or.inl ⟨by kernel_rfl, ?hyg11⟩) ?restg11
              case hyg11 => rintro wk ⟨s1, s2, s3, s4⟩; go_simp; try with_reducible rfl
              try simp only [Act.put, List.setIfInBounds_toArray, List.set_cons_zero, List.set_cons_succ]
              refine AnyK.take (i := 12) (v := ?vg12) rfl (by kernel_rfl) (by kernel_rfl) (by kernel_rfl) (by kernel_rfl) (by kernel_rfl) (fun _ _ _ h => h) hS0 (Or.inl ⟨by kernel_rfl, ?hyg12⟩) ?restg12
              case hyg12 => rintro wk ⟨s1, s2, s3, s4⟩; go_simp; try with_reducible rfl
              try simp only [Act.put, List.setIfInBounds_toArray, List.set_cons_zero, List.set_cons_succ]
              have g0 : w5.drew.cell? ⟨rb, m, none⟩ = some (.string y0) := hS0.2.1
              have rf5d : w5.drew.frozen? ⟨rb, m, none⟩ = false := rf5
              refine AnyK.one (i := 13) rfl (by kernel_rfl) (by rfl) (fun K hK => ?_)
              go_simp
              refine hK.out _ _ (.inl rfl) (AnyK.done (by kernel_rfl) ?_ _)
              clear hK K
              go_wp2_with fail
              go_roundw
              case rel =>
                have hom3 := (HOM2.out.kept (drew_gb w5 none) (by simp)).stored hlt hlt2 HRB.out x
                refine ⟨m + 1, _, by omega, by go_num, hom3, fun l j hl hj hlj => ?_, (HBW5.out.drew).setCell hrB _⟩
                by_cases e : l = d ∧ j = m
                · rw [if_pos e, e.1, e.2, HX.out]; unfold upS; rw [if_pos hgt]
                · rw [if_neg e, if_neg e]; exact HY.out l j hl hj (by omega)
              case measure => simp [intOf]; omega
            · have hgz : ¬ ((d : Int) < (m : Int)) := by omega
              go_wp2_with fail
              go_roundw
              case rel =>
                refine ⟨m + 1, _, by omega, by go_num, HOM2.out, fun l j hl hj hlj => ?_, HBW5.out⟩
                by_cases e : l = d ∧ j = m
                · rw [if_pos e, e.1, e.2]; unfold upS; rw [if_neg hgt]
                · rw [if_neg e]; exact HY.out l j hl hj (by omega)
              case measure => simp [intOf]; omega
          · have hmn : m = n := by omega
            have hgt2 : ¬ ((m : Int) < (n : Int)) := by omega
            have HMN := Lib.hid hmn; clear hmn
            go_wp2_with fail
            go_roundw
            case rel => exact ⟨d + 1, Y, by omega, by go_num, HOM.out, fun l j hl hj h => HY.out l j hl hj (by have := HMN.out; omega), HBW.out⟩
            case measure => simp [intOf]; omega
      · have hdn : d = n := by omega
        have hgt2 : ¬ ((d : Int) < (n : Int)) := by omega
        have HDN := Lib.hid hdn; clear hdn
        have homU : OM wr (fun _ => False) gB 9 33 gB n R2 (fun _ => n) (upS k X) := HOM.out.congr fun l j hl hj => HY.out l j hl hj (by have := HDN.out; omega)
        have hmu : Mt (some sb) wr (.slice (some ⟨gB, 0, none⟩) n n) n (fun _ => n) (upS k X) := homU.mt (by unfold maxLen; omega) (by intro j hj; cases hj; exact .inl hsg)
        have hsu : SumL wr sb k.1 e2 := by
          have h1 := HS2.out
          unfold SumL at *
          rw [HBW.out.block sb hsg]; exact h1
        have hzu : ∀ i j, (upS k X i j).size ≤ maxLen := fun i j => by
          unfold upS; split
          · exact HZ.out i j
          · have := (Is.zero k 0).1; unfold maxLen; omega
        have hqu : Sq k.1 n (fun _ => n) (upS k X) := fun i hi => ⟨rfl, fun j hj => by
          unfold upS; split
          · exact (HSQ.out i hi).2 j hj
          · exact (Is.zero k 0).valid⟩
        have hbw : Below w.heap.size w wr := HBW2.out.trans (HBW.out.mono (by have := HBW2.out.size; omega))
        have HBWR := Lib.hid hbw; clear hbw
        have hst := star_any (k0 := k.1) wr (by omega) hmu.any hzu (HT.out.below HBWR.out (Nat.le_refl _))
        have HST := Lib.hid hst; clear hst
        have HMU := Lib.hid hmu; clear hmu
        have HSU := Lib.hid hsu; clear hsu
        have HQU := Lib.hid hqu; clear hqu hzu homU
        go_wp2_with fail
        refine HST.out.mono ?_
        intro r w3 hr
        obtain ⟨hb3, k', hkk, hX, hr⟩ := hr.good (by omega) hkd HQU.out
        obtain rfl : k' = k := Subtype.ext hkk
        have HB3 := Lib.hid (HBWR.out.trans (hb3.mono HBWR.out.size))
        have HMU3 := Lib.hid (HMU.out.kept (gb_below hb3 _)); clear HMU
        have HSU3 := Lib.hid (HSU.out.kept hb3); clear HSU hb3 hkk HST
        have HX := Lib.hid hX; clear hX
        rcases hr with ⟨v3, Yb, rfl, hYb, hYs, _, _⟩ | rfl
        · obtain ⟨a3, cap3, rfl⟩ := hYb.shape
          have HYB := Lib.hid (hYb.off HSU3.out); clear hYb
          have HYS := Lib.hid hYs; clear hYs
          obtain ⟨M, hM⟩ : ∃ M : Nat → Nat → RK k', M = fun i j => wval k' (upS k' X i j) := ⟨_, rfl⟩
          rw [← hM] at HX HYS
          have hM0 : ∀ i j, j ≤ i → M i j = CSR.zero := fun i j hij => by
            rw [hM]
            show wval k' (upS k' X i j) = _
            unfold upS; rw [if_neg (by omega)]; exact (Is.zero k' 0).val
          have HM0 := Lib.hid hM0; clear hM0
          have hxm : ∀ e, MatIs e n (upS k' X) M := fun e => HX.out.mono (fun _ => rfl)
          have HXM := Lib.hid hxm; clear hxm
          have hgw : ∀ wk', w3.grownBy wk' (some sb) → Below w.heap.size w wk' := fun wk' hg => below_more HB3.out hg ⟨hwsb, Nat.le_refl _⟩
          have htb : ∀ wk', w3.grownBy wk' (some sb) → TabB w.heap.size wk' := fun wk' hg => (TabB.of HT.out).kept (z := none) (gb_below (hgw wk' hg) none) (by simp) (Nat.le_refl _)
          have HGW := Lib.hid hgw; clear hgw
          have HTB := Lib.hid htb; clear htb
          clear hM
          go_wp2_with fail
          refine (ones_any (k := k') w3 hn9 HSU3.out HE2.out).mono ?_
          rintro r w4 ⟨v4, e4, Y4, rfl, hm4, hi4, he4, _, hs4, hg4⟩
          have HG4 := Lib.hid hg4
          obtain ⟨a4, cap4, rfl⟩ := hm4.shape
          have HM4 := Lib.hid hm4; clear hm4
          have HI4 := Lib.hid hi4; clear hi4
          go_wp2_with fail
          refine (ones_any (k := k') w4 hn9 hs4 he4).mono ?_
          rintro r w5 ⟨v5, e5, Y5, rfl, hm5, hi5, he5, h54, hs5, hg5⟩
          have HG5 := Lib.hid (gb_trans HG4.out hg5)
          have HM4b := Lib.hid (HM4.out.kept hg5); clear HM4 hg5 hg4
          obtain ⟨a5, cap5, rfl⟩ := hm5.shape
          have HM5 := Lib.hid hm5; clear hm5
          have HI5 := Lib.hid hi5; clear hi5
          have HI4b := Lib.hid (HI4.out.mono h54); clear HI4 h54
          have HE5 := Lib.hid he5; clear he5 he4 hs4
          have HS5 := Lib.hid hs5; clear hs5
          go_wp2_with fail
          -- ████ for k := 1; k < n; k++
          go_loopw [12, 13, 14] (fun t p i wr => ∃ (c e : Nat) (at' ap : Option Addr) (ct cp : Nat) (Yt Yp : Nat → Nat → ByteArray), (c + 1 ≤ n ∨ c = 0) ∧ t = .slice at' n ct ∧ p = .slice ap n cp ∧ i = .int .i64 ((c + 1 : Nat) : Int) ∧
            Mt (some sb) wr (.slice at' n ct) n (fun _ => n) Yt ∧ MatIs e n Yt (CSR.tots M n c) ∧ Mt (some sb) wr (.slice ap n cp) n (fun _ => n) Yp ∧ MatIs e n Yp (CSR.pows M n c) ∧ Er False e ∧ SumL wr sb k'.1 e ∧ w3.grownBy wr (some sb)) (fun _ _ i _ => n - (intOf i).toNat)
          case atStart => exact ⟨0, e5, a4, a5, cap4, cap5, Y4, Y5, .inr rfl, rfl, rfl, rfl, HM4b.out, HI4b.out, HM5.out, HI5.out, HE5.out, HS5.out, HG5.out⟩
          case round =>
            obtain ⟨c, e, at', ap, ct, cp, Yt, Yp, hc, rfl, rfl, rfl, hmt, hit, hmp, hip, hE, hS, hG⟩ := hrel
            clear HM4b HI4b HM5 HI5 HE5 HS5 HG5
            have HMT' := Lib.hid hmt; clear hmt
            have HIT := Lib.hid hit; clear hit
            have HMP := Lib.hid hmp; clear hmp
            have HIP := Lib.hid hip; clear hip
            have HE := Lib.hid hE; clear hE
            have HS := Lib.hid hS; clear hS
            have HG := Lib.hid hG; clear hG
            by_cases hlt : c + 1 < n
            · have hcz : ((c + 1 : Nat) : Int) < (n : Int) := by omega
              go_wp2_with fail
              refine (product_any (B0 := w.heap.size) wr hn9 HS.out HE.out HMP.out (HMU3.out.kept HG.out) HIP.out (HXM.out e) (HTB.out _ HG.out) hwsb).mono ?_
              rintro r w6 ⟨v6, e6, Y6, rfl, hm6, hi6, he6, h6, hs6, hg6⟩
              have HG6 := Lib.hid (gb_trans HG.out hg6)
              obtain ⟨a6, cap6, rfl⟩ := hm6.shape
              have HMT6 := Lib.hid (HMT'.out.kept hg6); clear HMT' hg6
              have HM6 := Lib.hid hm6; clear hm6
              have HI6 := Lib.hid hi6; clear hi6
              have HIT6 := Lib.hid (HIT.out.mono h6); clear HIT h6
              go_wp2_with fail
              refine (added_any (B0 := w.heap.size) w6 hn9 hs6 he6 HMT6.out HM6.out HIT6.out HI6.out (HTB.out _ HG6.out) hwsb).mono ?_
              rintro r w7 ⟨v7, e7, Y7, rfl, hm7, hi7, he7, h7, hs7, hg7⟩
              have HG7 := Lib.hid (gb_trans HG6.out hg7)
              obtain ⟨a7, cap7, rfl⟩ := hm7.shape
              have HM6b := Lib.hid (HM6.out.kept hg7); clear HM6 hg7
              have HM7 := Lib.hid hm7; clear hm7
              have HI7 := Lib.hid hi7; clear hi7
              have HI6b := Lib.hid (HI6.out.mono h7); clear HI6 h7
              go_wp2_with fail
              go_roundw
              case rel => exact ⟨c + 1, e7, a7, a6, cap7, cap6, Y7, Y6, .inl (by omega), rfl, rfl, by go_num, HM7.out, HI7.out, HM6b.out, HI6b.out, he7, hs7, HG7.out⟩
              case measure => simp [intOf]; omega
            · have hcn : n - 1 = c := by omega
              have hgt : ¬ (((c + 1 : Nat) : Int) < (n : Int)) := by omega
              have HBF := Lib.hid (HGW.out _ HG.out)
              by_cases he0 : e = 0
              · subst he0
                have c1 := HS.out.c1 (b := false) (by simp)
                have hq1 := samem_any wr (HYB.out.kept HG.out).any HMT'.out.any True (by
                  simp only [true_iff, true_and]
                  intro i hi j hj
                  have h1 := HYS.out i j hi hj
                  have h2 := HIT.out i j hi hj
                  refine h1.eq h2 ?_
                  rw [CSR.starM_finite M HM0.out hi hj, hcn])
                have HQ1 := Lib.hid hq1; clear hq1 hcn
                go_wp2_with fail
                refine HQ1.out.mono ?_
                rintro r w10 ⟨bb, rfl, hbb, hb10⟩
                obtain rfl : bb = true := hbb.2 trivial
                clear hbb
                have HB10 := Lib.hid (HBF.out.trans (hb10.mono HBF.out.size)); clear hb10
                go_wp2_with fail
                refine (HEX.out _ HB10.out).mono ?_
                rintro r w12 ⟨rfl, hb12⟩
                have HF := Lib.hid (HB10.out.trans (hb12.mono HB10.out.size)); clear hb12
                go_wp2_with fail
                go_ret
                exact ⟨rfl, HF.out⟩
              · have c1 := HS.out.c1 (b := true) (by simp; exact he0)
                have HE0 := Lib.hid he0; clear he0 hcn
                go_wp2_with fail
                refine (HEX.out _ HBF.out).mono ?_
                rintro r w12 ⟨rfl, hb12⟩
                have HF := Lib.hid (HBF.out.trans (hb12.mono HBF.out.size)); clear hb12
                go_wp2_with fail
                go_ret
                exact ⟨rfl, HF.out⟩
        · go_wp2_with fail
          refine (HEX.out _ HB3.out).mono ?_
          rintro r w4 ⟨rfl, hb4⟩
          have HF := Lib.hid (HB3.out.trans (hb4.mono HB3.out.size)); clear hb4
          go_wp2_with fail
          go_ret
          exact ⟨rfl, HF.out⟩
end Go.Proofs.YtlmfppjphblemaaGreatDoor
