/- The walk of the statement NatLaws: it returns true for all strings. -/
import Derived.Test.YtndfbnffielfaaaDoorLawsL
namespace Go.Proofs.YtndfbnffielfaaaDoor
open Go Go.RowKit

set_option maxRecDepth 100000 in
set_option maxHeartbeats 2000000 in
theorem natLaws_any (a b c : ByteArray) (w : World) (ha : a.size ≤ maxLen) (hb : b.size ≤ maxLen) (hc : c.size ≤ maxLen) (ht : Tab w) :
    Calls Tryd.prog 7 #[.string a, .string b, .string c] w (TrueEnd w) := by
  have HT := Lib.hid ht; clear ht
  have S1 : ∀ (wx : World), Below w.heap.size w wx → Tab wx := fun wx h => HT.out.below h (Nat.le_refl _)
  have HS := Lib.hid S1; clear S1
  have hca := addF_comm b a
  have hcm := mulF_comm b a
  obtain ⟨⟨s, e⟩, hs⟩ : ∃ r, r = addF a b := ⟨_, rfl⟩
  obtain ⟨⟨p, g⟩, hp⟩ : ∃ r, r = mulF a b := ⟨_, rfl⟩
  rw [← hs] at hca
  rw [← hp] at hcm
  have HSA := Lib.hid hs; clear hs
  have HPA := Lib.hid hp; clear hp
  have HCA := Lib.hid hca; clear hca
  have HCM := Lib.hid hcm; clear hcm
  go_enter Tryd.func7, Tryd.ntmps7
  go_wp2_with fail
  have hq1 := add_any a b w ha hb HT.out
  unfold PairEnd at hq1
  rw [← HSA.out] at hq1
  refine hq1.mono ?_
  clear hq1
  rintro e w1 ⟨rfl, hb1⟩
  have HB1 := Lib.hid (hb1); clear hb1
  go_wp2_with fail
  have hq2 := add_any b a w1 hb ha (HS.out w1 HB1.out)
  unfold PairEnd at hq2
  rw [HCA.out] at hq2
  refine hq2.mono ?_
  clear hq2
  rintro e w2 ⟨rfl, hb2⟩
  have HB2 := Lib.hid (HB1.out.trans (hb2.mono HB1.out.size)); clear hb2
  go_wp2_with fail
  have hq3 := mul_any a b w2 ha hb (HS.out w2 HB2.out)
  unfold PairEnd at hq3
  rw [← HPA.out] at hq3
  refine hq3.mono ?_
  clear hq3
  rintro e w3 ⟨rfl, hb3⟩
  have HB3 := Lib.hid (HB2.out.trans (hb3.mono HB2.out.size)); clear hb3
  go_wp2_with fail
  have hq4 := mul_any b a w3 hb ha (HS.out w3 HB3.out)
  unfold PairEnd at hq4
  rw [HCM.out] at hq4
  refine hq4.mono ?_
  clear hq4
  rintro e w4 ⟨rfl, hb4⟩
  have HB4 := Lib.hid (HB3.out.trans (hb4.mono HB3.out.size)); clear hb4
  by_cases he : e = 0
  · subst he
    have hss : s.size ≤ maxLen := by have := addF_size a b; rw [← HSA.out] at this; exact this
    have HSS := Lib.hid hss; clear hss
    obtain ⟨⟨l, i⟩, hl⟩ : ∃ r, r = mulF s c := ⟨_, rfl⟩
    obtain ⟨⟨x, j⟩, hx⟩ : ∃ r, r = mulF a c := ⟨_, rfl⟩
    obtain ⟨⟨y, k⟩, hy⟩ : ∃ r, r = mulF b c := ⟨_, rfl⟩
    have hxs : x.size ≤ maxLen := by have := mulF_size a c; rw [← hx] at this; exact this
    have hys : y.size ≤ maxLen := by have := mulF_size b c; rw [← hy] at this; exact this
    have HXS := Lib.hid hxs; clear hxs
    have HYS := Lib.hid hys; clear hys
    have HL := Lib.hid hl; clear hl
    have HX := Lib.hid hx; clear hx
    have HY := Lib.hid hy; clear hy
    go_wp2_with fail
    have hq5 := mul_any s c w4 HSS.out hc (HS.out w4 HB4.out)
    unfold PairEnd at hq5
    rw [← HL.out] at hq5
    refine hq5.mono ?_
    clear hq5
    rintro e w5 ⟨rfl, hb5⟩
    have HB5 := Lib.hid (HB4.out.trans (hb5.mono HB4.out.size)); clear hb5
    go_wp2_with fail
    have hq6 := mul_any a c w5 ha hc (HS.out w5 HB5.out)
    unfold PairEnd at hq6
    rw [← HX.out] at hq6
    refine hq6.mono ?_
    clear hq6
    rintro e w6 ⟨rfl, hb6⟩
    have HB6 := Lib.hid (HB5.out.trans (hb6.mono HB5.out.size)); clear hb6
    go_wp2_with fail
    have hq7 := mul_any b c w6 hb hc (HS.out w6 HB6.out)
    unfold PairEnd at hq7
    rw [← HY.out] at hq7
    refine hq7.mono ?_
    clear hq7
    rintro e w7 ⟨rfl, hb7⟩
    have HB7 := Lib.hid (HB6.out.trans (hb7.mono HB6.out.size)); clear hb7
    by_cases hi : i = 0
    · subst hi
      by_cases hj : j = 0
      · subst hj
        by_cases hk : k = 0
        · subst hk
          have hd := dist HSA.out.symm HL.out.symm HX.out.symm HY.out.symm
          have HD := Lib.hid hd; clear hd
          go_wp2_with fail
          have hq8 := add_any x y w7 HXS.out HYS.out (HS.out w7 HB7.out)
          unfold PairEnd at hq8
          rw [HD.out] at hq8
          refine hq8.mono ?_
          clear hq8
          rintro e w8 ⟨rfl, hb8⟩
          have HB8 := Lib.hid (HB7.out.trans (hb8.mono HB7.out.size)); clear hb8
          go_wp2_with fail
          have hq9 := example_any w8 (HS.out w8 HB8.out)
          refine hq9.mono ?_
          clear hq9
          rintro e w9 ⟨rfl, hb9⟩
          have HB9 := Lib.hid (HB8.out.trans (hb9.mono HB8.out.size)); clear hb9
          go_wp2_with fail
          go_ret
          exact ⟨rfl, HB9.out⟩
        · obtain ⟨hk1, hk2⟩ := ne_zero_b hk
          clear hk
          go_wp2_with fail
          have hq8 := example_any w7 (HS.out w7 HB7.out)
          refine hq8.mono ?_
          clear hq8
          rintro e w8 ⟨rfl, hb8⟩
          have HB8 := Lib.hid (HB7.out.trans (hb8.mono HB7.out.size)); clear hb8
          go_wp2_with fail
          go_ret
          exact ⟨rfl, HB8.out⟩
      · obtain ⟨hj1, hj2⟩ := ne_zero_b hj
        clear hj
        go_wp2_with fail
        have hq8 := example_any w7 (HS.out w7 HB7.out)
        refine hq8.mono ?_
        clear hq8
        rintro e w8 ⟨rfl, hb8⟩
        have HB8 := Lib.hid (HB7.out.trans (hb8.mono HB7.out.size)); clear hb8
        go_wp2_with fail
        go_ret
        exact ⟨rfl, HB8.out⟩
    · obtain ⟨hi1, hi2⟩ := ne_zero_b hi
      clear hi
      go_wp2_with fail
      have hq8 := example_any w7 (HS.out w7 HB7.out)
      refine hq8.mono ?_
      clear hq8
      rintro e w8 ⟨rfl, hb8⟩
      have HB8 := Lib.hid (HB7.out.trans (hb8.mono HB7.out.size)); clear hb8
      go_wp2_with fail
      go_ret
      exact ⟨rfl, HB8.out⟩
  · obtain ⟨he1, he2⟩ := ne_zero_b he
    clear he
    go_wp2_with fail
    have hq5 := example_any w4 (HS.out w4 HB4.out)
    refine hq5.mono ?_
    clear hq5
    rintro e w5 ⟨rfl, hb5⟩
    have HB5 := Lib.hid (HB4.out.trans (hb5.mono HB4.out.size)); clear hb5
    go_wp2_with fail
    go_ret
    exact ⟨rfl, HB5.out⟩
end Go.Proofs.YtndfbnffielfaaaDoor
