/- The sizes of what semi's operations return; the small functions of the statements of chapter 04. -/
import Derived.Test.YtlcbdaconghcmaaGreatDoorSemX
import Derived.Test.YtlcbdaconghcmaaGreatDoorSemLaw
namespace Go.Proofs.YtlcbdaconghcmaaGreatDoor
open Go Go.RowKit
set_option maxRecDepth 100000

theorem limV_size (v : V) : (limV v).1.size ≤ 802 := by
  cases v with
  | inf => show 3 ≤ 802; omega
  | low => show 4 ≤ 802; omega
  | fin q => exact limR_size q
theorem argS_size : argS.1.size ≤ 802 := by show 0 ≤ 802; omega
theorem plusF_size (k : Int) (a b : ByteArray) : (plusF k a b).1.size ≤ 802 := by unfold plusF; split <;> first | exact limV_size _ | exact argS_size
theorem timesF_size (k : Int) (a b : ByteArray) : (timesF k a b).1.size ≤ 802 := by unfold timesF; split <;> first | exact limV_size _ | exact argS_size
theorem starF_size (k : Int) (a : ByteArray) : (starF k a).1.size ≤ 802 := by unfold starF; split <;> first | exact limV_size _ | exact argS_size
theorem overF_size (k : Int) (a b : ByteArray) : (overF k a b).1.size ≤ 802 := by
  unfold overF; split
  · split <;> first | exact limV_size _ | exact argS_size
  · exact argS_size
theorem sz_of {r : ByteArray × Nat} {s : ByteArray} {n : Nat} (h : r.1.size ≤ 802) (e : r = (s, n)) : s.size ≤ 100000 := by rw [e] at h; show s.size ≤ _; have : s.size ≤ 802 := h; omega
theorem zeroF_size (k : Int) : (zeroF k).size ≤ 100000 := by
  rcases kind_cases k with rfl | rfl | rfl | hk
  · rw [zeroF_1]; decide
  · rw [zeroF_2]; decide
  · rw [zeroF_3]; decide
  · rw [zeroF_no hk]; decide
theorem oneF_size (k : Int) : (oneF k).size ≤ 100000 := by
  rcases kind_cases k with rfl | rfl | rfl | hk
  · rw [oneF_1]; decide
  · rw [oneF_2]; decide
  · rw [oneF_3]; decide
  · rw [oneF_no hk]; decide
theorem lplus_ok (k : Int) (a b c : ByteArray) (w : World) (ha : a.size ≤ 100000) (hb : b.size ≤ 100000) (ht : Tab w) (h : plusF k a b = (c, 0)) :
    Calls Tryz.prog 32 #[.int .i64 k, .string a, .string b] w fun e w' => e = .returned (.tuple #[.string c, .bool true]) ∧ Below w.heap.size w w' := by
  have hc := semiplus_any k a b w ha hb ht
  unfold PairEnd at hc
  rw [h] at hc
  have HC := Lib.hid hc; clear hc ha hb ht h
  go_enter Tryz.func32, Tryz.ntmps32
  go_wp2_with fail
  refine HC.out.mono ?_
  rintro e w1 ⟨rfl, hb⟩
  have HB := Lib.hid hb; clear hb
  go_wp2_with fail
  go_ret2
  exact ⟨rfl, HB.out⟩
theorem ltimes_ok (k : Int) (a b c : ByteArray) (w : World) (ha : a.size ≤ 100000) (hb : b.size ≤ 100000) (ht : Tab w) (h : timesF k a b = (c, 0)) :
    Calls Tryz.prog 33 #[.int .i64 k, .string a, .string b] w fun e w' => e = .returned (.tuple #[.string c, .bool true]) ∧ Below w.heap.size w w' := by
  have hc := semitimes_any k a b w ha hb ht
  unfold PairEnd at hc
  rw [h] at hc
  have HC := Lib.hid hc; clear hc ha hb ht h
  go_enter Tryz.func33, Tryz.ntmps33
  go_wp2_with fail
  refine HC.out.mono ?_
  rintro e w1 ⟨rfl, hb⟩
  have HB := Lib.hid hb; clear hb
  go_wp2_with fail
  go_ret2
  exact ⟨rfl, HB.out⟩
def fitF (k : Int) (a b c : ByteArray) : Bool := decide (a.size ≤ 100) && decide (b.size ≤ 100) && decide (c.size ≤ 100) && validF k a && validF k b && validF k c
set_option maxHeartbeats 4000000 in
theorem fit_any (k : Int) (a b c : ByteArray) (w : World) (ht : Tab w) :
    Calls Tryz.prog 31 #[.int .i64 k, .agg #[.string a, .string b, .string c]] w (BoolE (fitF k a b c) w) := by
  have hb0 : Below w.heap.size w (w.alloc (.cells #[.string a, .string b, .string c] 34)) := (Below.refl _ _).alloc (Nat.le_refl _) _
  have HB0 := Lib.hid hb0; clear hb0
  have HT := Lib.hid ht; clear ht
  have S1 : ∀ (wx : World), Below w.heap.size w wx → Tab wx := fun wx h => HT.out.below h (Nat.le_refl _)
  have HS := Lib.hid S1; clear S1
  obtain ⟨R, hR⟩ : ∃ R, R = fitF k a b c := ⟨_, rfl⟩
  rw [← hR]
  have HR := Lib.hid hR; clear hR
  by_cases h1 : a.size ≤ 100
  · have g1 : (a.size : Int) ≤ 100 := by omega
    by_cases h2 : b.size ≤ 100
    · have g2 : (b.size : Int) ≤ 100 := by omega
      by_cases h3 : c.size ≤ 100
      · have g3 : (c.size : Int) ≤ 100 := by omega
        have hR : R = (validF k a && validF k b && validF k c) := by rw [HR.out]; unfold fitF; rw [decide_eq_true h1, decide_eq_true h2, decide_eq_true h3]; rfl
        have c1 := fun wx (h : Below w.heap.size w wx) => semivalid_any k a wx (by omega) (HS.out wx h)
        have c2 := fun wx (h : Below w.heap.size w wx) => semivalid_any k b wx (by omega) (HS.out wx h)
        have c3 := fun wx (h : Below w.heap.size w wx) => semivalid_any k c wx (by omega) (HS.out wx h)
        clear HR h1 h2 h3
        generalize validF k a = x at *
        generalize validF k b = y at *
        generalize validF k c = z at *
        have C1 := Lib.hid c1; clear c1
        have C2 := Lib.hid c2; clear c2
        have C3 := Lib.hid c3; clear c3
        subst hR
        go_enter Tryz.func31, Tryz.ntmps31
        go_wp2_with fail
        refine (C1.out _ HB0.out).mono ?_
        rintro e w1 ⟨rfl, hb⟩
        have HQ1 := Lib.hid (hb)
        have HB1 := Lib.hid (next_below HB0.out hb); clear hb
        have k1 := cell_kept HQ1.out 1
        simp only [List.getElem?_toArray, List.getElem?_cons_zero, List.getElem?_cons_succ] at k1
        cases x
        · -- no
          go_wp2_with fail
          go_ret
          exact ⟨rfl, HB1.out⟩
        · clear k1
          have k1 := cell_kept HQ1.out 1
          simp only [List.getElem?_toArray, List.getElem?_cons_zero, List.getElem?_cons_succ] at k1
          go_wp2_with fail
          refine (C2.out _ HB1.out).mono ?_
          rintro e w2 ⟨rfl, hb⟩
          have HQ2 := Lib.hid (next_below HQ1.out hb)
          have HB2 := Lib.hid (next_below HB1.out hb); clear hb
          have k2 := cell_kept HQ2.out 2
          simp only [List.getElem?_toArray, List.getElem?_cons_zero, List.getElem?_cons_succ] at k2
          cases y
          · -- no
            go_wp2_with fail
            go_ret
            exact ⟨rfl, HB2.out⟩
          · go_wp2_with fail
            refine (C3.out _ HB2.out).mono ?_
            rintro e w3 ⟨rfl, hb⟩
            have HQ3 := Lib.hid (next_below HQ2.out hb)
            have HB3 := Lib.hid (next_below HB2.out hb); clear hb
            go_wp2_with fail
            go_ret
            exact ⟨rfl, HB3.out⟩
      · have g4 : (100 : Int) < (c.size : Int) := by omega
        have hR : R = false := by rw [HR.out]; unfold fitF; rw [decide_eq_false h3]; simp
        subst hR
        clear HR h3
        go_enter Tryz.func31, Tryz.ntmps31
        go_wp2_with fail
        go_ret
        exact ⟨rfl, HB0.out⟩
    · have g4 : (100 : Int) < (b.size : Int) := by omega
      have hR : R = false := by rw [HR.out]; unfold fitF; rw [decide_eq_false h2]; simp
      subst hR
      clear HR h2
      go_enter Tryz.func31, Tryz.ntmps31
      go_wp2_with fail
      go_ret
      exact ⟨rfl, HB0.out⟩
  · have g4 : (100 : Int) < (a.size : Int) := by omega
    have hR : R = false := by rw [HR.out]; unfold fitF; rw [decide_eq_false h1]; simp
    subst hR
    clear HR h1
    go_enter Tryz.func31, Tryz.ntmps31
    go_wp2_with fail
    go_ret
    exact ⟨rfl, HB0.out⟩
end Go.Proofs.YtlcbdaconghcmaaGreatDoor
