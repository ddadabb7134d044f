/- The walk of abugidalaw07.ClosureMoved. -/
import Derived.Test.YtlmfppjphblemaaGreatDoorLawM
namespace Go.Proofs.YtlmfppjphblemaaGreatDoor
open Go Go.RowKit Go.Deep
set_option maxRecDepth 100000
set_option linter.unusedSimpArgs false

set_option maxHeartbeats 8000000 in
theorem closureMoved_any {k0 p0 q0 : Int} {n : Nat} {L : Nat → Nat} {X : Nat → Nat → ByteArray} {v : Value} (w : World) (hA : Mt none w v n L X) (hz : ∀ i j, (X i j).size ≤ maxLen) (ht : Tab w) :
    Calls Tryz.prog 6 #[.int .i64 k0, v, .int .i64 p0, .int .i64 q0] w (TrueE w) := by
  have hrd := ready_any (k0 := k0) w hA hz
  have HT := Lib.hid ht; clear ht
  have HZ := Lib.hid hz; clear hz
  have HMT := Lib.hid hA
  obtain ⟨a, cap, rfl⟩ := hA.shape
  clear hA
  have HRD := Lib.hid hrd; clear hrd
  go_enter Tryz.func6, Tryz.ntmps6
  go_wp2_with fail
  refine HRD.out.mono ?_
  rintro r w1 ⟨bb, rfl, hbb, hb1⟩
  have HB1 := Lib.hid hb1; clear hb1
  have HBB := Lib.hid hbb; clear hbb
  have hex : ∀ wk', Below w.heap.size w wk' → Calls Tryz.prog 11 #[] wk' (TrueE wk') := fun wk' hb => example_any wk' (HT.out.below hb (Nat.le_refl _))
  have HEX := Lib.hid hex; clear hex
  cases bb
  · go_wp2_with fail
    refine (HEX.out _ HB1.out).mono ?_
    rintro r w2 ⟨rfl, hb2⟩
    have HB2 := Lib.hid (HB1.out.trans (hb2.mono HB1.out.size)); clear hb2
    go_wp2_with fail
    go_ret
    exact ⟨rfl, HB2.out⟩
  · obtain ⟨hn9, hkd, hsq⟩ := HBB.out.1 rfl
    by_cases hpq : (0 ≤ p0 ∧ p0 < (n : Int)) ∧ (0 ≤ q0 ∧ q0 < (n : Int))
    · obtain ⟨⟨hp0, hp1⟩, hq0, hq1⟩ := hpq
      obtain ⟨p, rfl⟩ : ∃ p : Nat, p0 = (p : Int) := ⟨p0.toNat, by omega⟩
      obtain ⟨q, rfl⟩ : ∃ q : Nat, q0 = (q : Int) := ⟨q0.toNat, by omega⟩
      have hp : p < n := by omega
      have hq : q < n := by omega
      have g1 : decide ((p : Int) < 0) = false := by simp
      have g2 : decide ((q : Int) < 0) = false := by simp
      have g3 : decide ((n : Int) ≤ (p : Int)) = false := by simp; omega
      have g4 : decide ((n : Int) ≤ (q : Int)) = false := by simp; omega
      have hmt1 := HMT.out.kept (gb_below HB1.out none)
      have hst := star_any (k0 := k0) w1 (by omega) hmt1 HZ.out (HT.out.below HB1.out (Nat.le_refl _))
      have HST := Lib.hid hst; clear hst hmt1
      have HSQ := Lib.hid hsq; clear hsq
      clear hp0 hp1 hq0 hq1
      go_wp2_with fail
      refine HST.out.mono ?_
      intro r w2 hr
      obtain ⟨hb2', k, rfl, hX, hr⟩ := hr.good (by omega) hkd HSQ.out
      have HB2 := Lib.hid (HB1.out.trans (hb2'.mono HB1.out.size)); clear hb2'
      have HX := Lib.hid hX; clear hX
      have hmv := moved_any w2 hn9 (HMT.out.kept (gb_below HB2.out none)) (fun i hi => (HSQ.out i hi).1) hp hq
      have HMV := Lib.hid hmv; clear hmv
      have HR := Lib.hid hr; clear hr
      obtain ⟨tv, te, hte⟩ : ∃ tv te, r = .returned (.tuple #[tv, .int .i64 te]) := by
        rcases HR.out with ⟨v, Y, h, _⟩ | h
        · exact ⟨_, _, h⟩
        · exact ⟨_, _, h⟩
      subst hte
      go_wp2_with fail
      refine HMV.out.mono ?_
      rintro r w3 ⟨mv, rfl, hmm, hb3⟩
      have HB23 := Lib.hid hb3
      have HB3 := Lib.hid (HB2.out.trans (hb3.mono HB2.out.size)); clear hb3
      have hsq' : Sq k.1 n (fun _ => n) (fun i j => X (CSR.swp p q i) (CSR.swp p q j)) := fun i hi => ⟨rfl, fun j hj => (HSQ.out _ (CSR.swp_lt hp hq hi)).2 _ (CSR.swp_lt hp hq hj)⟩
      have hst := star_any (k0 := k.1) w3 (by omega) hmm (fun i j => HZ.out _ _) (HT.out.below HB3.out (Nat.le_refl _))
      have HST3 := Lib.hid hst; clear hst
      have HSQ' := Lib.hid hsq'; clear hsq'
      have HMM := Lib.hid hmm; clear hmm
      go_wp2_with fail
      refine HST3.out.mono ?_
      intro r w4 hr
      obtain ⟨hb4', k', hkk, hX', hr'⟩ := hr.good (by omega) hkd HSQ'.out
      obtain rfl : k' = k := Subtype.ext hkk
      have HB34 := Lib.hid hb4'
      have HB4 := Lib.hid (HB3.out.trans (hb4'.mono HB3.out.size)); clear hb4' hkk hr
      have HX' := Lib.hid hX'; clear hX'
      rcases HR.out with ⟨tv', Y, hh, hY, hYs, hYq, hYz⟩ | hh
      · simp only [Ending.returned.injEq, Value.tuple.injEq, Array.mk.injEq, List.cons.injEq, and_true, Value.int.injEq, true_and] at hh
        obtain ⟨rfl, rfl⟩ := hh
        rcases hr' with ⟨v5, Z, rfl, hZ, hZs, hZq, hZz⟩ | rfl
        · have hgY : Mt none w4 tv n (fun _ => n) Y := hY.kept (gb_below (HB23.out.trans (HB34.out.mono HB23.out.size)) none)
          obtain ⟨a3, cap3, rfl⟩ := hY.shape
          obtain ⟨a5, cap5, rfl⟩ := hZ.shape
          have hmx := matrix_any (k0 := k'.1) w4 hgY hYz True (by simp only [true_iff]; exact ⟨hkd, hYq⟩)
          have HMX := Lib.hid hmx; clear hmx
          have HGY := Lib.hid hgY; clear hgY hY
          have HYS := Lib.hid hYs; clear hYs
          have HZS := Lib.hid hZs; clear hZs
          have HZM := Lib.hid hZ; clear hZ
          clear hYq hYz hZq hZz
          have hnn : ((n : Int) == (n : Int)) = true := by simp
          go_wp2_with fail
          refine HMX.out.mono ?_
          rintro r w5 ⟨bb, rfl, hbb, hb5⟩
          obtain rfl : bb = true := hbb.2 trivial
          clear hbb
          have HB45 := Lib.hid hb5
          have HB5 := Lib.hid (HB4.out.trans (hb5.mono HB4.out.size)); clear hb5
          have hmv := moved_any w5 hn9 (HGY.out.kept (gb_below HB45.out none)) (fun _ _ => rfl) hp hq
          have HMV5 := Lib.hid hmv; clear hmv
          go_wp2_with fail
          refine HMV5.out.mono ?_
          rintro r w6 ⟨mv6, rfl, hmm6, hb6⟩
          obtain ⟨a6, cap6, rfl⟩ := hmm6.shape
          have HB56 := Lib.hid hb6
          have HB6 := Lib.hid (HB5.out.trans (hb6.mono HB5.out.size)); clear hb6
          have hzm6 : Mt none w6 (.slice a5 n cap5) n (fun _ => n) Z := HZM.out.kept (gb_below (HB45.out.trans (HB56.out.mono HB45.out.size)) none)
          have hsm := samem_any w6 hmm6 hzm6 True (by
            simp only [true_iff, true_and]
            intro i hi
            intro j hj
            have h1 := HYS.out _ _ (CSR.swp_lt hp hq hi) (CSR.swp_lt hp hq hj)
            have h2 := HZS.out i j hi hj
            exact h1.eq h2 (CSR.starM_swp (fun i j => wval k' (X i j)) hp hq hi hj).symm)
          have HSM := Lib.hid hsm; clear hsm hmm6 hzm6
          go_wp2_with fail
          refine HSM.out.mono ?_
          rintro r w7 ⟨bb, rfl, hbb, hb7⟩
          obtain rfl : bb = true := hbb.2 trivial
          clear hbb
          have HB7 := Lib.hid (HB6.out.trans (hb7.mono HB6.out.size)); clear hb7
          go_wp2_with fail
          refine (HEX.out _ HB7.out).mono ?_
          rintro r w8 ⟨rfl, hb8⟩
          have HF := Lib.hid (HB7.out.trans (hb8.mono HB7.out.size)); clear hb8
          go_wp2_with fail
          go_ret
          exact ⟨rfl, HF.out⟩
        · go_wp2_with fail
          refine (HEX.out _ HB4.out).mono ?_
          rintro r w6 ⟨rfl, hb6⟩
          have HF := Lib.hid (HB4.out.trans (hb6.mono HB4.out.size)); clear hb6
          go_wp2_with fail
          go_ret
          exact ⟨rfl, HF.out⟩
      · simp only [Ending.returned.injEq, Value.tuple.injEq, Array.mk.injEq, List.cons.injEq, and_true, Value.int.injEq, true_and] at hh
        obtain ⟨rfl, rfl⟩ := hh
        obtain ⟨t2, te2, hte2⟩ : ∃ t2 te2, r = .returned (.tuple #[t2, .int .i64 te2]) := by
          rcases hr' with ⟨v, Z, h, _⟩ | h
          · exact ⟨_, _, h⟩
          · exact ⟨_, _, h⟩
        subst hte2
        clear hr'
        go_wp2_with fail
        refine (HEX.out _ HB4.out).mono ?_
        rintro r w6 ⟨rfl, hb6⟩
        have HF := Lib.hid (HB4.out.trans (hb6.mono HB4.out.size)); clear hb6
        go_wp2_with fail
        go_ret
        exact ⟨rfl, HF.out⟩
    · have hg : decide (p0 < 0) = true ∨ (decide (p0 < 0) = false ∧ decide (q0 < 0) = true) ∨ (decide (p0 < 0) = false ∧ decide (q0 < 0) = false ∧ decide ((n : Int) ≤ p0) = true) ∨ (decide (p0 < 0) = false ∧ decide (q0 < 0) = false ∧ decide ((n : Int) ≤ p0) = false ∧ decide ((n : Int) ≤ q0) = true) := by
        simp; omega
      clear hpq
      rcases hg with g1 | ⟨g1, g2⟩ | ⟨g1, g2, g3⟩ | ⟨g1, g2, g3, g4⟩
      all_goals
        go_wp2_with fail
        refine (HEX.out _ HB1.out).mono ?_
        rintro r w6 ⟨rfl, hb6⟩
        have HF := Lib.hid (HB1.out.trans (hb6.mono HB1.out.size)); clear hb6
        go_wp2_with fail
        go_ret
        exact ⟨rfl, HF.out⟩
end Go.Proofs.YtlmfppjphblemaaGreatDoor
