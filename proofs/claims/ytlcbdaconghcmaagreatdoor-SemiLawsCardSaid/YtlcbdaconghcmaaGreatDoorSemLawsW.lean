/- The walk of the statement SemiLaws: it returns true for all inputs. -/
import Derived.Test.YtlcbdaconghcmaaGreatDoorSemY
namespace Go.Proofs.YtlcbdaconghcmaaGreatDoor
open Go Go.RowKit
set_option maxRecDepth 100000

set_option maxHeartbeats 4000000 in
theorem semiLaws1 (k : Int) (a b c : ByteArray) (w : World) (ht : Tab w) (hf : fitF k a b c = false) : Calls Tryz.prog 7 #[.int .i64 k, .agg #[.string a, .string b, .string c]] w (TrueEnd4 w) := by
  have HT := Lib.hid ht; clear ht
  have S1 : ∀ (wx : World), Below w.heap.size w wx → Tab wx := fun wx h => HT.out.below h (Nat.le_refl _)
  have HS := Lib.hid S1; clear S1
  have hb0 : Below w.heap.size w (w.alloc (.cells #[.string a, .string b, .string c] 34)) := (Below.refl _ _).alloc (Nat.le_refl _) _
  have HB0 := Lib.hid hb0; clear hb0
  have HF := Lib.hid hf; clear hf
  go_enter Tryz.func7, Tryz.ntmps7
  go_wp2_with fail
  have hq1 := fit_any k a b c _ (HS.out _ HB0.out)
  unfold BoolE at hq1
  rw [HF.out] at hq1
  refine hq1.mono ?_
  clear hq1
  rintro e w1 ⟨rfl, hb⟩
  have HQ1 := Lib.hid hb
  have HB1 := Lib.hid (next_below HB0.out hb); clear hb
  go_wp2_with fail
  have hq2 := awake_any _ (HS.out _ HB1.out)
  refine hq2.mono ?_
  clear hq2
  rintro e w2 ⟨rfl, hb⟩
  have HB2 := Lib.hid (next_below HB1.out hb); clear hb
  go_wp2_with fail
  go_ret
  exact ⟨rfl, HB2.out⟩
theorem fit_parts {k : Int} {a b c : ByteArray} (h : fitF k a b c = true) : a.size ≤ 100 ∧ b.size ≤ 100 ∧ c.size ≤ 100 ∧ validF k a = true ∧ validF k b = true ∧ validF k c = true := by
  unfold fitF at h
  simp only [Bool.and_eq_true, decide_eq_true_eq] at h
  obtain ⟨⟨⟨⟨⟨h1, h2⟩, h3⟩, h4⟩, h5⟩, h6⟩ := h
  exact ⟨h1, h2, h3, h4, h5, h6⟩
set_option maxHeartbeats 4000000 in
theorem semiLaws2 (k : Int) (a b c : ByteArray) (w : World) (ht : Tab w) (hf : fitF k a b c = true) : Calls Tryz.prog 7 #[.int .i64 k, .agg #[.string a, .string b, .string c]] w (TrueEnd4 w) := by
  have HT := Lib.hid ht; clear ht
  have S1 : ∀ (wx : World), Below w.heap.size w wx → Tab wx := fun wx h => HT.out.below h (Nat.le_refl _)
  have HS := Lib.hid S1; clear S1
  have hb0 : Below w.heap.size w (w.alloc (.cells #[.string a, .string b, .string c] 34)) := (Below.refl _ _).alloc (Nat.le_refl _) _
  have HB0 := Lib.hid hb0; clear hb0
  obtain ⟨h1, h2, h3, h4, h5, h6⟩ := fit_parts hf
  obtain ⟨ab, bc, l, m, o, r, d, x, L⟩ := laws_hold h4 h5 h6 h1 h2 h3
  have za := Lib.hid (show a.size ≤ 100000 by omega)
  have zb := Lib.hid (show b.size ≤ 100000 by omega)
  have zc := Lib.hid (show c.size ≤ 100000 by omega)
  have zab := Lib.hid (sz_of (plusF_size k a b) L.p1)
  have zbc := Lib.hid (sz_of (plusF_size k b c) L.p3)
  have zm := Lib.hid (sz_of (timesF_size k a b) L.t1)
  have zo := Lib.hid (sz_of (timesF_size k b c) L.t3)
  have zx := Lib.hid (sz_of (timesF_size k a c) L.q2)
  have HL := Lib.hid L; clear L h1 h2 h3 h4 h5 h6
  have HF := Lib.hid hf; clear hf
  go_enter Tryz.func7, Tryz.ntmps7
  go_wp2_with fail
  have hq1 := fit_any k a b c _ (HS.out _ HB0.out)
  unfold BoolE at hq1
  rw [HF.out] at hq1
  refine hq1.mono ?_
  clear hq1
  rintro e w1 ⟨rfl, hb⟩
  have HQ1 := Lib.hid hb
  have HB1 := Lib.hid (next_below HB0.out hb); clear hb
  have k0 := cell_kept HQ1.out 0
  have k1 := cell_kept HQ1.out 1
  have k2 := cell_kept HQ1.out 2
  simp only [List.getElem?_toArray, List.getElem?_cons_zero, List.getElem?_cons_succ] at k0 k1 k2
  go_wp2_with fail
  go_quiet (fail)
  clear k0 k1 k2
  have HB2 := Lib.hid (below_drewN HB1.out nq)
  go_wp2_with fail
  have hq3 := lplus_ok k a b ab _ za.out zb.out (HS.out _ HB2.out) HL.out.p1
  refine hq3.mono ?_
  clear hq3
  rintro e w3 ⟨rfl, hb⟩
  have HB3 := Lib.hid (next_below HB2.out hb); clear hb
  go_wp2_with fail
  have hq4 := lplus_ok k b a ab _ zb.out za.out (HS.out _ HB3.out) HL.out.p2
  refine hq4.mono ?_
  clear hq4
  rintro e w4 ⟨rfl, hb⟩
  have HB4 := Lib.hid (next_below HB3.out hb); clear hb
  go_wp2_with fail
  have hq5 := lplus_ok k b c bc _ zb.out zc.out (HS.out _ HB4.out) HL.out.p3
  refine hq5.mono ?_
  clear hq5
  rintro e w5 ⟨rfl, hb⟩
  have HB5 := Lib.hid (next_below HB4.out hb); clear hb
  go_wp2_with fail
  have hq6 := lplus_ok k ab c l _ zab.out zc.out (HS.out _ HB5.out) HL.out.p4
  refine hq6.mono ?_
  clear hq6
  rintro e w6 ⟨rfl, hb⟩
  have HB6 := Lib.hid (next_below HB5.out hb); clear hb
  go_wp2_with fail
  have hq7 := lplus_ok k a bc l _ za.out zbc.out (HS.out _ HB6.out) HL.out.p5
  refine hq7.mono ?_
  clear hq7
  rintro e w7 ⟨rfl, hb⟩
  have HB7 := Lib.hid (next_below HB6.out hb); clear hb
  go_wp2_with fail
  have hq8 := ltimes_ok k a b m _ za.out zb.out (HS.out _ HB7.out) HL.out.t1
  refine hq8.mono ?_
  clear hq8
  rintro e w8 ⟨rfl, hb⟩
  have HB8 := Lib.hid (next_below HB7.out hb); clear hb
  go_wp2_with fail
  have hq9 := ltimes_ok k b a m _ zb.out za.out (HS.out _ HB8.out) HL.out.t2
  refine hq9.mono ?_
  clear hq9
  rintro e w9 ⟨rfl, hb⟩
  have HB9 := Lib.hid (next_below HB8.out hb); clear hb
  go_wp2_with fail
  have hq10 := ltimes_ok k b c o _ zb.out zc.out (HS.out _ HB9.out) HL.out.t3
  refine hq10.mono ?_
  clear hq10
  rintro e w10 ⟨rfl, hb⟩
  have HB10 := Lib.hid (next_below HB9.out hb); clear hb
  go_wp2_with fail
  have hq11 := ltimes_ok k m c r _ zm.out zc.out (HS.out _ HB10.out) HL.out.t4
  refine hq11.mono ?_
  clear hq11
  rintro e w11 ⟨rfl, hb⟩
  have HB11 := Lib.hid (next_below HB10.out hb); clear hb
  go_wp2_with fail
  have hq12 := ltimes_ok k a o r _ za.out zo.out (HS.out _ HB11.out) HL.out.t5
  refine hq12.mono ?_
  clear hq12
  rintro e w12 ⟨rfl, hb⟩
  have HB12 := Lib.hid (next_below HB11.out hb); clear hb
  go_wp2_with fail
  have hq13 := ltimes_ok k a bc d _ za.out zbc.out (HS.out _ HB12.out) HL.out.q1
  refine hq13.mono ?_
  clear hq13
  rintro e w13 ⟨rfl, hb⟩
  have HB13 := Lib.hid (next_below HB12.out hb); clear hb
  go_wp2_with fail
  have hq14 := ltimes_ok k a c x _ za.out zc.out (HS.out _ HB13.out) HL.out.q2
  refine hq14.mono ?_
  clear hq14
  rintro e w14 ⟨rfl, hb⟩
  have HB14 := Lib.hid (next_below HB13.out hb); clear hb
  go_wp2_with fail
  have hq15 := lplus_ok k m x d _ zm.out zx.out (HS.out _ HB14.out) HL.out.q3
  refine hq15.mono ?_
  clear hq15
  rintro e w15 ⟨rfl, hb⟩
  have HB15 := Lib.hid (next_below HB14.out hb); clear hb
  go_wp2_with fail
  have hq16 := semizero_any k w15
  unfold StrE at hq16
  refine hq16.mono ?_
  clear hq16
  rintro e w16 ⟨rfl, hb⟩
  have HB16 := Lib.hid (next_below HB15.out hb); clear hb
  go_wp2_with fail
  have hq17 := lplus_ok k a (zeroF k) a _ za.out (zeroF_size k) (HS.out _ HB16.out) HL.out.q4
  refine hq17.mono ?_
  clear hq17
  rintro e w17 ⟨rfl, hb⟩
  have HB17 := Lib.hid (next_below HB16.out hb); clear hb
  go_wp2_with fail
  have hq18 := semione_any k w17
  unfold StrE at hq18
  refine hq18.mono ?_
  clear hq18
  rintro e w18 ⟨rfl, hb⟩
  have HB18 := Lib.hid (next_below HB17.out hb); clear hb
  go_wp2_with fail
  have hq19 := ltimes_ok k a (oneF k) a _ za.out (oneF_size k) (HS.out _ HB18.out) HL.out.q5
  refine hq19.mono ?_
  clear hq19
  rintro e w19 ⟨rfl, hb⟩
  have HB19 := Lib.hid (next_below HB18.out hb); clear hb
  go_wp2_with fail
  have hq20 := semizero_any k w19
  unfold StrE at hq20
  refine hq20.mono ?_
  clear hq20
  rintro e w20 ⟨rfl, hb⟩
  have HB20 := Lib.hid (next_below HB19.out hb); clear hb
  go_wp2_with fail
  have hq21 := ltimes_ok k a (zeroF k) (zeroF k) _ za.out (zeroF_size k) (HS.out _ HB20.out) HL.out.q6
  refine hq21.mono ?_
  clear hq21
  rintro e w21 ⟨rfl, hb⟩
  have HB21 := Lib.hid (next_below HB20.out hb); clear hb
  go_wp2_with fail
  have hq22 := semizero_any k w21
  unfold StrE at hq22
  refine hq22.mono ?_
  clear hq22
  rintro e w22 ⟨rfl, hb⟩
  have HB22 := Lib.hid (next_below HB21.out hb); clear hb
  go_wp2_with fail
  have hq23 := awake_any _ (HS.out _ HB22.out)
  refine hq23.mono ?_
  clear hq23
  rintro e w23 ⟨rfl, hb⟩
  have HB23 := Lib.hid (next_below HB22.out hb); clear hb
  go_wp2_with fail
  go_ret
  exact ⟨rfl, HB23.out⟩
theorem semiLaws_any (k : Int) (a b c : ByteArray) (w : World) (ht : Tab w) : Calls Tryz.prog 7 #[.int .i64 k, .agg #[.string a, .string b, .string c]] w (TrueEnd4 w) := by
  cases hf : fitF k a b c with
  | false => exact semiLaws1 k a b c w ht hf
  | true => exact semiLaws2 k a b c w ht hf
end Go.Proofs.YtlcbdaconghcmaaGreatDoor
