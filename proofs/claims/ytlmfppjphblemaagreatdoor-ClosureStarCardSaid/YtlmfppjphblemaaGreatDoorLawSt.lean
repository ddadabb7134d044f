/- The walk of abugidalaw07.ClosureStar. -/
import Derived.Test.YtlmfppjphblemaaGreatDoorL1
import Derived.Test.YtlmfppjphblemaaGreatDoorR7S
namespace Go.Proofs.YtlmfppjphblemaaGreatDoor
open Go Go.RowKit Go.Deep
set_option maxRecDepth 100000
set_option linter.unusedSimpArgs false

theorem tst_no {bb : Bool} (h : bb = true ↔ False) : bb = false := by
  cases bb with
  | false => rfl
  | true => exact (h.1 rfl).elim
set_option maxHeartbeats 8000000 in
theorem closureStar_any {k0 : Int} {n : Nat} {L : Nat → Nat} {X : Nat → Nat → ByteArray} {v : Value} (w : World) (hA : Mt none w v n L X) (hz : ∀ i j, (X i j).size ≤ maxLen) (ht : Tab w) :
    Calls Tryz.prog 3 #[.int .i64 k0, v] w (TrueE w) := by
  have HT := Lib.hid ht; clear ht
  have HZ := Lib.hid hz; clear hz
  have HMT := Lib.hid hA
  obtain ⟨a, cap, rfl⟩ := hA.shape
  clear hA
  have hex : ∀ wk', Below w.heap.size w wk' → Calls Tryz.prog 11 #[] wk' (TrueE wk') := fun wk' hb => example_any wk' (HT.out.below hb (Nat.le_refl _))
  have HEX := Lib.hid hex; clear hex
  by_cases h9 : n ≤ 9
  · have g1 : decide ((9 : Int) < (n : Int)) = false := by simp; omega
    have g3 : decide ((100 : Int) < (n : Int)) = false := by simp; omega
    have hst := star_any (k0 := k0) w (by omega) HMT.out HZ.out HT.out
    have HST := Lib.hid hst; clear hst
    go_enter Tryz.func3, Tryz.ntmps3
    go_wp2_with fail
    refine HST.out.mono ?_
    rintro r w2 ⟨hb2, hr⟩
    have HB2 := Lib.hid hb2; clear hb2
    rcases hr with ⟨hno, rfl⟩ | ⟨h60, _⟩ | ⟨_, k, M, rfl, hsq, hMe, hM, hr⟩
    · have hmx := matrix_any (k0 := k0) w2 (HMT.out.kept (gb_below HB2.out none)) HZ.out False (by simpa using hno)
      have HMX := Lib.hid hmx; clear hmx hno
      go_wp2_with fail
      refine HMX.out.mono ?_
      rintro r w3 ⟨bb, rfl, hbb, hb3⟩
      obtain rfl : bb = false := tst_no hbb
      clear hbb
      have HB3 := Lib.hid (HB2.out.trans (hb3.mono HB2.out.size)); clear hb3
      go_wp2_with fail
      refine (HEX.out _ HB3.out).mono ?_
      rintro r w6 ⟨rfl, hb6⟩
      have HF := Lib.hid (HB3.out.trans (hb6.mono HB3.out.size)); clear hb6
      go_wp2_with fail
      go_ret
      exact ⟨rfl, HF.out⟩
    · omega
    · have hkd : kindB k.1 = true := by unfold kindB; have := k.2; simp; omega
      have hmx := matrix_any (k0 := k.1) w2 (HMT.out.kept (gb_below HB2.out none)) HZ.out True (by simp only [true_iff]; exact ⟨hkd, hsq⟩)
      have HMX := Lib.hid hmx; clear hmx hkd
      have HSQ := Lib.hid hsq; clear hsq
      have HM := Lib.hid hM; clear hM
      rcases hr with ⟨v, Y, rfl, hY, hYM⟩ | ⟨rfl, hnf⟩
      · obtain ⟨a2, cap2, rfl⟩ := hY.shape
        have HY := Lib.hid hY; clear hY
        have HYM := Lib.hid hYM; clear hYM
        have HME := Lib.hid hMe; clear hMe
        go_wp2_with fail
        refine HMX.out.mono ?_
        rintro r w3 ⟨bb, rfl, hbb, hb3⟩
        obtain rfl : bb = true := hbb.2 trivial
        clear hbb
        have HB23 := Lib.hid hb3
        have HB3 := Lib.hid (HB2.out.trans (hb3.mono HB2.out.size)); clear hb3
        have hrs := rstar7_any7 (k := k) w3 (by omega) (HMT.out.kept (gb_below HB3.out none)) HZ.out HSQ.out
        have HRS := Lib.hid hrs; clear hrs
        go_wp2_with fail
        refine HRS.out.mono ?_
        rintro r w4 ⟨hb4, hr4⟩
        have HB34 := Lib.hid hb4
        have HB4 := Lib.hid (HB3.out.trans (hb4.mono HB3.out.size)); clear hb4
        rcases hr4 with rfl | ⟨v4, Z, rfl, _, hZ, hZM⟩
        · have g5 : decide ((n : Int) ≤ 60) = true := by simp; omega
          go_wp2_with fail
          refine (HEX.out _ HB4.out).mono ?_
          rintro r w6 ⟨rfl, hb6⟩
          have HF := Lib.hid (HB4.out.trans (hb6.mono HB4.out.size)); clear hb6
          go_wp2_with fail
          go_ret
          exact ⟨rfl, HF.out⟩
        · obtain ⟨a4, cap4, rfl⟩ := hZ.shape
          have hsm := samem_any w4 ((HY.out.kept (gb_below HB23.out none)).kept (gb_below HB34.out none)) hZ True (by
            simp only [true_iff]
            exact ⟨by first | rfl | trivial, fun i hi => ⟨by first | rfl | trivial, fun j hj => (HYM.out i j hi hj).eq (hZM i j hi hj) (by rw [HME.out])⟩⟩)
          have HSM := Lib.hid hsm; clear hsm hZ hZM
          go_wp2_with fail
          refine HSM.out.mono ?_
          rintro r w5 ⟨bb, rfl, hbb, hb5⟩
          obtain rfl : bb = true := hbb.2 trivial
          clear hbb
          have HB5 := Lib.hid (HB4.out.trans (hb5.mono HB4.out.size)); clear hb5
          go_wp2_with fail
          refine (HEX.out _ HB5.out).mono ?_
          rintro r w6 ⟨rfl, hb6⟩
          have HF := Lib.hid (HB5.out.trans (hb6.mono HB5.out.size)); clear hb6
          go_wp2_with fail
          go_ret
          exact ⟨rfl, HF.out⟩
      · have g6 : decide ((60 : Int) < (n : Int)) = false := by simp; omega
        go_wp2_with fail
        refine HMX.out.mono ?_
        rintro r w3 ⟨bb, rfl, hbb, hb3⟩
        obtain rfl : bb = true := hbb.2 trivial
        clear hbb
        have HB3 := Lib.hid (HB2.out.trans (hb3.mono HB2.out.size)); clear hb3
        have hli := little7_any (k0 := k.1) w3 (by omega) ((HMT.out.kept (gb_below HB3.out none)).congr (L' := fun _ => n) (fun i hi => (HSQ.out i hi).1) (fun _ _ _ _ => rfl)) HZ.out False (by
          simp only [false_iff]
          exact fun h => hnf (h.fit HM.out))
        have HLI := Lib.hid hli; clear hli hnf hMe
        go_wp2_with fail
        refine HLI.out.mono ?_
        rintro r w5 ⟨bb, rfl, hbb, hb5⟩
        obtain rfl : bb = false := tst_no hbb
        clear hbb
        have HB5 := Lib.hid (HB3.out.trans (hb5.mono HB3.out.size)); clear hb5
        go_wp2_with fail
        refine (HEX.out _ HB5.out).mono ?_
        rintro r w6 ⟨rfl, hb6⟩
        have HF := Lib.hid (HB5.out.trans (hb6.mono HB5.out.size)); clear hb6
        go_wp2_with fail
        go_ret
        exact ⟨rfl, HF.out⟩
  · have g1 : (9 : Int) < (n : Int) := by omega
    by_cases h60 : n ≤ 60
    · have g2 : (n : Int) ≤ 60 := by omega
      go_enter Tryz.func3, Tryz.ntmps3
      go_wp2_with fail
      refine (HEX.out _ (Below.refl _ _)).mono ?_
      rintro r w6 ⟨rfl, hb6⟩
      go_wp2_with fail
      go_ret
      exact ⟨rfl, hb6⟩
    · have g2 : decide ((n : Int) ≤ 60) = false := by simp; omega
      by_cases h100 : 100 < n
      · have g3 : (100 : Int) < (n : Int) := by omega
        go_enter Tryz.func3, Tryz.ntmps3
        go_wp2_with fail
        refine (HEX.out _ (Below.refl _ _)).mono ?_
        rintro r w6 ⟨rfl, hb6⟩
        go_wp2_with fail
        go_ret
        exact ⟨rfl, hb6⟩
      · have g3 : decide ((100 : Int) < (n : Int)) = false := by simp; omega
        have g6 : (60 : Int) < (n : Int) := by omega
        have hst := star_any (k0 := k0) w (by omega) HMT.out HZ.out HT.out
        have HST := Lib.hid hst; clear hst
        go_enter Tryz.func3, Tryz.ntmps3
        go_wp2_with fail
        refine HST.out.mono ?_
        rintro r w2 ⟨hb2, hr⟩
        have HB2 := Lib.hid hb2; clear hb2
        rcases hr with ⟨hno, rfl⟩ | ⟨_, hkd, hsq, rfl⟩ | ⟨h60', _⟩
        · have hmx := matrix_any (k0 := k0) w2 (HMT.out.kept (gb_below HB2.out none)) HZ.out False (by simpa using hno)
          have HMX := Lib.hid hmx; clear hmx hno
          go_wp2_with fail
          refine HMX.out.mono ?_
          rintro r w3 ⟨bb, rfl, hbb, hb3⟩
          obtain rfl : bb = false := tst_no hbb
          clear hbb
          have HB3 := Lib.hid (HB2.out.trans (hb3.mono HB2.out.size)); clear hb3
          go_wp2_with fail
          refine (HEX.out _ HB3.out).mono ?_
          rintro r w6 ⟨rfl, hb6⟩
          have HF := Lib.hid (HB3.out.trans (hb6.mono HB3.out.size)); clear hb6
          go_wp2_with fail
          go_ret
          exact ⟨rfl, HF.out⟩
        · have hmx := matrix_any (k0 := k0) w2 (HMT.out.kept (gb_below HB2.out none)) HZ.out True (by simp only [true_iff]; exact ⟨hkd, hsq⟩)
          have HMX := Lib.hid hmx; clear hmx hkd hsq
          go_wp2_with fail
          refine HMX.out.mono ?_
          rintro r w3 ⟨bb, rfl, hbb, hb3⟩
          obtain rfl : bb = true := hbb.2 trivial
          clear hbb
          have HB3 := Lib.hid (HB2.out.trans (hb3.mono HB2.out.size)); clear hb3
          go_wp2_with fail
          refine (HEX.out _ HB3.out).mono ?_
          rintro r w6 ⟨rfl, hb6⟩
          have HF := Lib.hid (HB3.out.trans (hb6.mono HB3.out.size)); clear hb6
          go_wp2_with fail
          go_ret
          exact ⟨rfl, HF.out⟩
        · omega
end Go.Proofs.YtlmfppjphblemaaGreatDoor
