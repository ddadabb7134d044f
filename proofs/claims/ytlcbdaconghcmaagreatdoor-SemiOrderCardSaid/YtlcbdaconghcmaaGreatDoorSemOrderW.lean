/- The walk of the statement SemiOrder: it returns true for all inputs. -/
import Derived.Test.YtlcbdaconghcmaaGreatDoorSemY
namespace Go.Proofs.YtlcbdaconghcmaaGreatDoor
open Go Go.RowKit
set_option maxRecDepth 100000

set_option maxHeartbeats 4000000 in
theorem semiOrder1 (k : Int) (a b c : ByteArray) (w : World) (ht : Tab w) (hf : fitF k a b c = false) : Calls Tryz.prog 9 #[.int .i64 k, .agg #[.string a, .string b, .string c]] w (TrueEnd4 w) := by
  have HT := Lib.hid ht; clear ht
  have S1 : ∀ (wx : World), Below w.heap.size w wx → Tab wx := fun wx h => HT.out.below h (Nat.le_refl _)
  have HS := Lib.hid S1; clear S1
  have hb0 : Below w.heap.size w (w.alloc (.cells #[.string a, .string b, .string c] 34)) := (Below.refl _ _).alloc (Nat.le_refl _) _
  have HB0 := Lib.hid hb0; clear hb0
  have HF := Lib.hid hf; clear hf
  go_enter Tryz.func9, Tryz.ntmps9
  go_wp2_with fail
  have hq1 := fit_any k a b c _ (HS.out _ HB0.out)
  unfold BoolE at hq1
  rw [HF.out] at hq1
  refine hq1.mono ?_
  clear hq1
  rintro e w1 ⟨rfl, hb⟩
  have HQ1 := Lib.hid hb
  have HB1 := Lib.hid (next_below HB0.out hb); clear hb
  go_wp2_with fail
  have hq2 := awake_any _ (HS.out _ HB1.out)
  refine hq2.mono ?_
  clear hq2
  rintro e w2 ⟨rfl, hb⟩
  have HB2 := Lib.hid (next_below HB1.out hb); clear hb
  go_wp2_with fail
  go_ret
  exact ⟨rfl, HB2.out⟩
theorem fit_parts' {k : Int} {a b c : ByteArray} (h : fitF k a b c = true) : a.size ≤ 100 ∧ b.size ≤ 100 ∧ c.size ≤ 100 ∧ validF k a = true ∧ validF k b = true ∧ validF k c = true := by
  unfold fitF at h
  simp only [Bool.and_eq_true, decide_eq_true_eq] at h
  obtain ⟨⟨⟨⟨⟨h1, h2⟩, h3⟩, h4⟩, h5⟩, h6⟩ := h
  exact ⟨h1, h2, h3, h4, h5, h6⟩
set_option maxHeartbeats 4000000 in
theorem semiOrder2 (k : Int) (a b c : ByteArray) (w : World) (ht : Tab w) (hf : fitF k a b c = true) (s x y : ByteArray) (O : Order k a b c s x y (-1)) (hz : betterF k b c ≤ 0) (hk : k = 2) : Calls Tryz.prog 9 #[.int .i64 k, .agg #[.string a, .string b, .string c]] w (TrueEnd4 w) := by
  have HT := Lib.hid ht; clear ht
  have S1 : ∀ (wx : World), Below w.heap.size w wx → Tab wx := fun wx h => HT.out.below h (Nat.le_refl _)
  have HS := Lib.hid S1; clear S1
  have hb0 : Below w.heap.size w (w.alloc (.cells #[.string a, .string b, .string c] 34)) := (Below.refl _ _).alloc (Nat.le_refl _) _
  have HB0 := Lib.hid hb0; clear hb0
  obtain ⟨h1, h2, h3, _, _, _⟩ := fit_parts' hf
  have za := Lib.hid (show a.size ≤ 100000 by omega)
  have zb := Lib.hid (show b.size ≤ 100000 by omega)
  have zc := Lib.hid (show c.size ≤ 100000 by omega)
  clear h1 h2 h3
  have zx := Lib.hid (sz_of (timesF_size k a c) O.xe)
  have zy := Lib.hid (sz_of (timesF_size k b c) O.ye)
  have hab : (a.toList == b.toList) = false := by rw [beq_eq_false_iff_ne]; exact ne_toList (fun e => absurd (O.eq.2 e) (by decide))
  obtain ⟨z1, hz1⟩ : ∃ z, z = betterF k b c := ⟨_, rfl⟩
  have g1 : decide (z1 ≤ 0) = true := by rw [hz1]; exact decide_eq_true hz
  have gz1 : z1 ≤ 0 := by rw [hz1]; exact hz
  obtain ⟨z2, hz2⟩ : ∃ z, z = betterF k a c := ⟨_, rfl⟩
  have gz2 : z2 ≤ 0 := by rw [hz2]; exact O.tr (by decide) hz
  have g2 : decide (0 < z2) = false := by rw [decide_eq_false_iff_not]; omega
  obtain ⟨z3, hz3⟩ : ∃ z, z = betterF k x y := ⟨_, rfl⟩
  have gz3 : z3 ≤ 0 := by rw [hz3]; exact O.xy (by decide)
  have HZ3 := Lib.hid hz3; clear hz3
  have HZ1 := Lib.hid hz1; clear hz1 hz
  have HZ2 := Lib.hid hz2; clear hz2
  have SE := Lib.hid O.se
  subst hk
  have OO := Lib.hid O; clear O
  have HF := Lib.hid hf; clear hf
  go_enter Tryz.func9, Tryz.ntmps9
  go_wp2_with fail
  have hq1 := fit_any 2 a b c _ (HS.out _ HB0.out)
  unfold BoolE at hq1
  rw [HF.out] at hq1
  refine hq1.mono ?_
  clear hq1
  rintro e w1 ⟨rfl, hb⟩
  have HQ1 := Lib.hid hb
  have HB1 := Lib.hid (next_below HB0.out hb); clear hb
  have k0 := cell_kept HQ1.out 0
  have k1 := cell_kept HQ1.out 1
  have k2 := cell_kept HQ1.out 2
  simp only [List.getElem?_toArray, List.getElem?_cons_zero, List.getElem?_cons_succ] at k0 k1 k2
  go_wp2_with fail
  go_quiet (fail)
  clear k0 k1 k2
  have HB2 := Lib.hid (below_drewN HB1.out nq)
  go_wp2_with fail
  have hq3 := semibetter_any 2 a b _ za.out zb.out (HS.out _ HB2.out)
  unfold IntEnd at hq3
  rw [OO.out.pe] at hq3
  refine hq3.mono ?_
  clear hq3
  rintro e w3 ⟨rfl, hb⟩
  have HB3 := Lib.hid (next_below HB2.out hb); clear hb
  go_wp2_with fail
  have hq4 := semibetter_any 2 b a _ zb.out za.out (HS.out _ HB3.out)
  unfold IntEnd at hq4
  rw [OO.out.sw] at hq4
  refine hq4.mono ?_
  clear hq4
  rintro e w4 ⟨rfl, hb⟩
  have HB4 := Lib.hid (next_below HB3.out hb); clear hb
  go_wp2_with fail
  have hq5 := semibetter_any 2 b c _ zb.out zc.out (HS.out _ HB4.out)
  unfold IntEnd at hq5
  rw [← HZ1.out] at hq5
  refine hq5.mono ?_
  clear hq5
  rintro e w5 ⟨rfl, hb⟩
  have HB5 := Lib.hid (next_below HB4.out hb); clear hb
  go_wp2_with fail
  have hq6 := semibetter_any 2 a c _ za.out zc.out (HS.out _ HB5.out)
  unfold IntEnd at hq6
  rw [← HZ2.out] at hq6
  refine hq6.mono ?_
  clear hq6
  rintro e w6 ⟨rfl, hb⟩
  have HB6 := Lib.hid (next_below HB5.out hb); clear hb
  go_wp2_with fail
  have hq7 := semiplus_any 2 a b _ za.out zb.out (HS.out _ HB6.out)
  unfold PairEnd at hq7
  rw [OO.out.se] at hq7
  refine hq7.mono ?_
  clear hq7
  rintro e w7 ⟨rfl, hb⟩
  have HB7 := Lib.hid (next_below HB6.out hb); clear hb
  go_wp2_with fail
  have hq8 := semitimes_any 2 a c _ za.out zc.out (HS.out _ HB7.out)
  unfold PairEnd at hq8
  rw [OO.out.xe] at hq8
  refine hq8.mono ?_
  clear hq8
  rintro e w8 ⟨rfl, hb⟩
  have HB8 := Lib.hid (next_below HB7.out hb); clear hb
  go_wp2_with fail
  have hq9 := semitimes_any 2 b c _ zb.out zc.out (HS.out _ HB8.out)
  unfold PairEnd at hq9
  rw [OO.out.ye] at hq9
  refine hq9.mono ?_
  clear hq9
  rintro e w9 ⟨rfl, hb⟩
  have HB9 := Lib.hid (next_below HB8.out hb); clear hb
  go_wp2_with fail
  have hq10 := semibetter_any 2 x y _ zx.out zy.out (HS.out _ HB9.out)
  unfold IntEnd at hq10
  rw [← HZ3.out] at hq10
  refine hq10.mono ?_
  clear hq10
  rintro e w10 ⟨rfl, hb⟩
  have HB10 := Lib.hid (next_below HB9.out hb); clear hb
  go_wp2_with fail
  have hq11 := awake_any _ (HS.out _ HB10.out)
  refine hq11.mono ?_
  clear hq11
  rintro e w11 ⟨rfl, hb⟩
  have HB11 := Lib.hid (next_below HB10.out hb); clear hb
  go_wp2_with fail
  go_ret
  exact ⟨rfl, HB11.out⟩
set_option maxHeartbeats 4000000 in
theorem semiOrder3 (k : Int) (a b c : ByteArray) (w : World) (ht : Tab w) (hf : fitF k a b c = true) (s x y : ByteArray) (O : Order k a b c s x y (-1)) (hz : betterF k b c ≤ 0) (hk : k ≠ 2) : Calls Tryz.prog 9 #[.int .i64 k, .agg #[.string a, .string b, .string c]] w (TrueEnd4 w) := by
  have HT := Lib.hid ht; clear ht
  have S1 : ∀ (wx : World), Below w.heap.size w wx → Tab wx := fun wx h => HT.out.below h (Nat.le_refl _)
  have HS := Lib.hid S1; clear S1
  have hb0 : Below w.heap.size w (w.alloc (.cells #[.string a, .string b, .string c] 34)) := (Below.refl _ _).alloc (Nat.le_refl _) _
  have HB0 := Lib.hid hb0; clear hb0
  obtain ⟨h1, h2, h3, _, _, _⟩ := fit_parts' hf
  have za := Lib.hid (show a.size ≤ 100000 by omega)
  have zb := Lib.hid (show b.size ≤ 100000 by omega)
  have zc := Lib.hid (show c.size ≤ 100000 by omega)
  clear h1 h2 h3
  have zx := Lib.hid (sz_of (timesF_size k a c) O.xe)
  have zy := Lib.hid (sz_of (timesF_size k b c) O.ye)
  have hab : (a.toList == b.toList) = false := by rw [beq_eq_false_iff_ne]; exact ne_toList (fun e => absurd (O.eq.2 e) (by decide))
  obtain ⟨z1, hz1⟩ : ∃ z, z = betterF k b c := ⟨_, rfl⟩
  have g1 : decide (z1 ≤ 0) = true := by rw [hz1]; exact decide_eq_true hz
  have gz1 : z1 ≤ 0 := by rw [hz1]; exact hz
  obtain ⟨z2, hz2⟩ : ∃ z, z = betterF k a c := ⟨_, rfl⟩
  have gz2 : z2 ≤ 0 := by rw [hz2]; exact O.tr (by decide) hz
  have g2 : decide (0 < z2) = false := by rw [decide_eq_false_iff_not]; omega
  obtain ⟨z3, hz3⟩ : ∃ z, z = betterF k x y := ⟨_, rfl⟩
  have gz3 : z3 ≤ 0 := by rw [hz3]; exact O.xy (by decide)
  have HZ3 := Lib.hid hz3; clear hz3
  have HZ1 := Lib.hid hz1; clear hz1 hz
  have HZ2 := Lib.hid hz2; clear hz2
  have hs : s = a := O.s1 hk (by decide)
  subst hs
  have hk2 : (k != 2) = true := by rw [bne_iff_ne]; exact hk
  clear hk
  have OO := Lib.hid O; clear O
  have HF := Lib.hid hf; clear hf
  go_enter Tryz.func9, Tryz.ntmps9
  go_wp2_with fail
  have hq1 := fit_any k s b c _ (HS.out _ HB0.out)
  unfold BoolE at hq1
  rw [HF.out] at hq1
  refine hq1.mono ?_
  clear hq1
  rintro e w1 ⟨rfl, hb⟩
  have HQ1 := Lib.hid hb
  have HB1 := Lib.hid (next_below HB0.out hb); clear hb
  have k0 := cell_kept HQ1.out 0
  have k1 := cell_kept HQ1.out 1
  have k2 := cell_kept HQ1.out 2
  simp only [List.getElem?_toArray, List.getElem?_cons_zero, List.getElem?_cons_succ] at k0 k1 k2
  go_wp2_with fail
  go_quiet (fail)
  clear k0 k1 k2
  have HB2 := Lib.hid (below_drewN HB1.out nq)
  go_wp2_with fail
  have hq3 := semibetter_any k s b _ za.out zb.out (HS.out _ HB2.out)
  unfold IntEnd at hq3
  rw [OO.out.pe] at hq3
  refine hq3.mono ?_
  clear hq3
  rintro e w3 ⟨rfl, hb⟩
  have HB3 := Lib.hid (next_below HB2.out hb); clear hb
  go_wp2_with fail
  have hq4 := semibetter_any k b s _ zb.out za.out (HS.out _ HB3.out)
  unfold IntEnd at hq4
  rw [OO.out.sw] at hq4
  refine hq4.mono ?_
  clear hq4
  rintro e w4 ⟨rfl, hb⟩
  have HB4 := Lib.hid (next_below HB3.out hb); clear hb
  go_wp2_with fail
  have hq5 := semibetter_any k b c _ zb.out zc.out (HS.out _ HB4.out)
  unfold IntEnd at hq5
  rw [← HZ1.out] at hq5
  refine hq5.mono ?_
  clear hq5
  rintro e w5 ⟨rfl, hb⟩
  have HB5 := Lib.hid (next_below HB4.out hb); clear hb
  go_wp2_with fail
  have hq6 := semibetter_any k s c _ za.out zc.out (HS.out _ HB5.out)
  unfold IntEnd at hq6
  rw [← HZ2.out] at hq6
  refine hq6.mono ?_
  clear hq6
  rintro e w6 ⟨rfl, hb⟩
  have HB6 := Lib.hid (next_below HB5.out hb); clear hb
  go_wp2_with fail
  have hq7 := semiplus_any k s b _ za.out zb.out (HS.out _ HB6.out)
  unfold PairEnd at hq7
  rw [OO.out.se] at hq7
  refine hq7.mono ?_
  clear hq7
  rintro e w7 ⟨rfl, hb⟩
  have HB7 := Lib.hid (next_below HB6.out hb); clear hb
  go_wp2_with fail
  have hq8 := semitimes_any k s c _ za.out zc.out (HS.out _ HB7.out)
  unfold PairEnd at hq8
  rw [OO.out.xe] at hq8
  refine hq8.mono ?_
  clear hq8
  rintro e w8 ⟨rfl, hb⟩
  have HB8 := Lib.hid (next_below HB7.out hb); clear hb
  go_wp2_with fail
  have hq9 := semitimes_any k b c _ zb.out zc.out (HS.out _ HB8.out)
  unfold PairEnd at hq9
  rw [OO.out.ye] at hq9
  refine hq9.mono ?_
  clear hq9
  rintro e w9 ⟨rfl, hb⟩
  have HB9 := Lib.hid (next_below HB8.out hb); clear hb
  go_wp2_with fail
  have hq10 := semibetter_any k x y _ zx.out zy.out (HS.out _ HB9.out)
  unfold IntEnd at hq10
  rw [← HZ3.out] at hq10
  refine hq10.mono ?_
  clear hq10
  rintro e w10 ⟨rfl, hb⟩
  have HB10 := Lib.hid (next_below HB9.out hb); clear hb
  go_wp2_with fail
  have hq11 := awake_any _ (HS.out _ HB10.out)
  refine hq11.mono ?_
  clear hq11
  rintro e w11 ⟨rfl, hb⟩
  have HB11 := Lib.hid (next_below HB10.out hb); clear hb
  go_wp2_with fail
  go_ret
  exact ⟨rfl, HB11.out⟩
set_option maxHeartbeats 4000000 in
theorem semiOrder4 (k : Int) (a b c : ByteArray) (w : World) (ht : Tab w) (hf : fitF k a b c = true) (s x y : ByteArray) (O : Order k a b c s x y (-1)) (hz : ¬ betterF k b c ≤ 0) (hk : k = 2) : Calls Tryz.prog 9 #[.int .i64 k, .agg #[.string a, .string b, .string c]] w (TrueEnd4 w) := by
  have HT := Lib.hid ht; clear ht
  have S1 : ∀ (wx : World), Below w.heap.size w wx → Tab wx := fun wx h => HT.out.below h (Nat.le_refl _)
  have HS := Lib.hid S1; clear S1
  have hb0 : Below w.heap.size w (w.alloc (.cells #[.string a, .string b, .string c] 34)) := (Below.refl _ _).alloc (Nat.le_refl _) _
  have HB0 := Lib.hid hb0; clear hb0
  obtain ⟨h1, h2, h3, _, _, _⟩ := fit_parts' hf
  have za := Lib.hid (show a.size ≤ 100000 by omega)
  have zb := Lib.hid (show b.size ≤ 100000 by omega)
  have zc := Lib.hid (show c.size ≤ 100000 by omega)
  clear h1 h2 h3
  have zx := Lib.hid (sz_of (timesF_size k a c) O.xe)
  have zy := Lib.hid (sz_of (timesF_size k b c) O.ye)
  have hab : (a.toList == b.toList) = false := by rw [beq_eq_false_iff_ne]; exact ne_toList (fun e => absurd (O.eq.2 e) (by decide))
  obtain ⟨z1, hz1⟩ : ∃ z, z = betterF k b c := ⟨_, rfl⟩
  have g1 : decide (z1 ≤ 0) = false := by rw [hz1]; exact decide_eq_false hz
  obtain ⟨z3, hz3⟩ : ∃ z, z = betterF k x y := ⟨_, rfl⟩
  have gz3 : z3 ≤ 0 := by rw [hz3]; exact O.xy (by decide)
  have HZ3 := Lib.hid hz3; clear hz3
  have HZ1 := Lib.hid hz1; clear hz1 hz
  have SE := Lib.hid O.se
  subst hk
  have OO := Lib.hid O; clear O
  have HF := Lib.hid hf; clear hf
  go_enter Tryz.func9, Tryz.ntmps9
  go_wp2_with fail
  have hq1 := fit_any 2 a b c _ (HS.out _ HB0.out)
  unfold BoolE at hq1
  rw [HF.out] at hq1
  refine hq1.mono ?_
  clear hq1
  rintro e w1 ⟨rfl, hb⟩
  have HQ1 := Lib.hid hb
  have HB1 := Lib.hid (next_below HB0.out hb); clear hb
  have k0 := cell_kept HQ1.out 0
  have k1 := cell_kept HQ1.out 1
  have k2 := cell_kept HQ1.out 2
  simp only [List.getElem?_toArray, List.getElem?_cons_zero, List.getElem?_cons_succ] at k0 k1 k2
  go_wp2_with fail
  go_quiet (fail)
  clear k0 k1 k2
  have HB2 := Lib.hid (below_drewN HB1.out nq)
  go_wp2_with fail
  have hq3 := semibetter_any 2 a b _ za.out zb.out (HS.out _ HB2.out)
  unfold IntEnd at hq3
  rw [OO.out.pe] at hq3
  refine hq3.mono ?_
  clear hq3
  rintro e w3 ⟨rfl, hb⟩
  have HB3 := Lib.hid (next_below HB2.out hb); clear hb
  go_wp2_with fail
  have hq4 := semibetter_any 2 b a _ zb.out za.out (HS.out _ HB3.out)
  unfold IntEnd at hq4
  rw [OO.out.sw] at hq4
  refine hq4.mono ?_
  clear hq4
  rintro e w4 ⟨rfl, hb⟩
  have HB4 := Lib.hid (next_below HB3.out hb); clear hb
  go_wp2_with fail
  have hq5 := semibetter_any 2 b c _ zb.out zc.out (HS.out _ HB4.out)
  unfold IntEnd at hq5
  rw [← HZ1.out] at hq5
  refine hq5.mono ?_
  clear hq5
  rintro e w5 ⟨rfl, hb⟩
  have HB5 := Lib.hid (next_below HB4.out hb); clear hb
  go_wp2_with fail
  have hq6 := semiplus_any 2 a b _ za.out zb.out (HS.out _ HB5.out)
  unfold PairEnd at hq6
  rw [OO.out.se] at hq6
  refine hq6.mono ?_
  clear hq6
  rintro e w6 ⟨rfl, hb⟩
  have HB6 := Lib.hid (next_below HB5.out hb); clear hb
  go_wp2_with fail
  have hq7 := semitimes_any 2 a c _ za.out zc.out (HS.out _ HB6.out)
  unfold PairEnd at hq7
  rw [OO.out.xe] at hq7
  refine hq7.mono ?_
  clear hq7
  rintro e w7 ⟨rfl, hb⟩
  have HB7 := Lib.hid (next_below HB6.out hb); clear hb
  go_wp2_with fail
  have hq8 := semitimes_any 2 b c _ zb.out zc.out (HS.out _ HB7.out)
  unfold PairEnd at hq8
  rw [OO.out.ye] at hq8
  refine hq8.mono ?_
  clear hq8
  rintro e w8 ⟨rfl, hb⟩
  have HB8 := Lib.hid (next_below HB7.out hb); clear hb
  go_wp2_with fail
  have hq9 := semibetter_any 2 x y _ zx.out zy.out (HS.out _ HB8.out)
  unfold IntEnd at hq9
  rw [← HZ3.out] at hq9
  refine hq9.mono ?_
  clear hq9
  rintro e w9 ⟨rfl, hb⟩
  have HB9 := Lib.hid (next_below HB8.out hb); clear hb
  go_wp2_with fail
  have hq10 := awake_any _ (HS.out _ HB9.out)
  refine hq10.mono ?_
  clear hq10
  rintro e w10 ⟨rfl, hb⟩
  have HB10 := Lib.hid (next_below HB9.out hb); clear hb
  go_wp2_with fail
  go_ret
  exact ⟨rfl, HB10.out⟩
set_option maxHeartbeats 4000000 in
theorem semiOrder5 (k : Int) (a b c : ByteArray) (w : World) (ht : Tab w) (hf : fitF k a b c = true) (s x y : ByteArray) (O : Order k a b c s x y (-1)) (hz : ¬ betterF k b c ≤ 0) (hk : k ≠ 2) : Calls Tryz.prog 9 #[.int .i64 k, .agg #[.string a, .string b, .string c]] w (TrueEnd4 w) := by
  have HT := Lib.hid ht; clear ht
  have S1 : ∀ (wx : World), Below w.heap.size w wx → Tab wx := fun wx h => HT.out.below h (Nat.le_refl _)
  have HS := Lib.hid S1; clear S1
  have hb0 : Below w.heap.size w (w.alloc (.cells #[.string a, .string b, .string c] 34)) := (Below.refl _ _).alloc (Nat.le_refl _) _
  have HB0 := Lib.hid hb0; clear hb0
  obtain ⟨h1, h2, h3, _, _, _⟩ := fit_parts' hf
  have za := Lib.hid (show a.size ≤ 100000 by omega)
  have zb := Lib.hid (show b.size ≤ 100000 by omega)
  have zc := Lib.hid (show c.size ≤ 100000 by omega)
  clear h1 h2 h3
  have zx := Lib.hid (sz_of (timesF_size k a c) O.xe)
  have zy := Lib.hid (sz_of (timesF_size k b c) O.ye)
  have hab : (a.toList == b.toList) = false := by rw [beq_eq_false_iff_ne]; exact ne_toList (fun e => absurd (O.eq.2 e) (by decide))
  obtain ⟨z1, hz1⟩ : ∃ z, z = betterF k b c := ⟨_, rfl⟩
  have g1 : decide (z1 ≤ 0) = false := by rw [hz1]; exact decide_eq_false hz
  obtain ⟨z3, hz3⟩ : ∃ z, z = betterF k x y := ⟨_, rfl⟩
  have gz3 : z3 ≤ 0 := by rw [hz3]; exact O.xy (by decide)
  have HZ3 := Lib.hid hz3; clear hz3
  have HZ1 := Lib.hid hz1; clear hz1 hz
  have hs : s = a := O.s1 hk (by decide)
  subst hs
  have hk2 : (k != 2) = true := by rw [bne_iff_ne]; exact hk
  clear hk
  have OO := Lib.hid O; clear O
  have HF := Lib.hid hf; clear hf
  go_enter Tryz.func9, Tryz.ntmps9
  go_wp2_with fail
  have hq1 := fit_any k s b c _ (HS.out _ HB0.out)
  unfold BoolE at hq1
  rw [HF.out] at hq1
  refine hq1.mono ?_
  clear hq1
  rintro e w1 ⟨rfl, hb⟩
  have HQ1 := Lib.hid hb
  have HB1 := Lib.hid (next_below HB0.out hb); clear hb
  have k0 := cell_kept HQ1.out 0
  have k1 := cell_kept HQ1.out 1
  have k2 := cell_kept HQ1.out 2
  simp only [List.getElem?_toArray, List.getElem?_cons_zero, List.getElem?_cons_succ] at k0 k1 k2
  go_wp2_with fail
  go_quiet (fail)
  clear k0 k1 k2
  have HB2 := Lib.hid (below_drewN HB1.out nq)
  go_wp2_with fail
  have hq3 := semibetter_any k s b _ za.out zb.out (HS.out _ HB2.out)
  unfold IntEnd at hq3
  rw [OO.out.pe] at hq3
  refine hq3.mono ?_
  clear hq3
  rintro e w3 ⟨rfl, hb⟩
  have HB3 := Lib.hid (next_below HB2.out hb); clear hb
  go_wp2_with fail
  have hq4 := semibetter_any k b s _ zb.out za.out (HS.out _ HB3.out)
  unfold IntEnd at hq4
  rw [OO.out.sw] at hq4
  refine hq4.mono ?_
  clear hq4
  rintro e w4 ⟨rfl, hb⟩
  have HB4 := Lib.hid (next_below HB3.out hb); clear hb
  go_wp2_with fail
  have hq5 := semibetter_any k b c _ zb.out zc.out (HS.out _ HB4.out)
  unfold IntEnd at hq5
  rw [← HZ1.out] at hq5
  refine hq5.mono ?_
  clear hq5
  rintro e w5 ⟨rfl, hb⟩
  have HB5 := Lib.hid (next_below HB4.out hb); clear hb
  go_wp2_with fail
  have hq6 := semiplus_any k s b _ za.out zb.out (HS.out _ HB5.out)
  unfold PairEnd at hq6
  rw [OO.out.se] at hq6
  refine hq6.mono ?_
  clear hq6
  rintro e w6 ⟨rfl, hb⟩
  have HB6 := Lib.hid (next_below HB5.out hb); clear hb
  go_wp2_with fail
  have hq7 := semitimes_any k s c _ za.out zc.out (HS.out _ HB6.out)
  unfold PairEnd at hq7
  rw [OO.out.xe] at hq7
  refine hq7.mono ?_
  clear hq7
  rintro e w7 ⟨rfl, hb⟩
  have HB7 := Lib.hid (next_below HB6.out hb); clear hb
  go_wp2_with fail
  have hq8 := semitimes_any k b c _ zb.out zc.out (HS.out _ HB7.out)
  unfold PairEnd at hq8
  rw [OO.out.ye] at hq8
  refine hq8.mono ?_
  clear hq8
  rintro e w8 ⟨rfl, hb⟩
  have HB8 := Lib.hid (next_below HB7.out hb); clear hb
  go_wp2_with fail
  have hq9 := semibetter_any k x y _ zx.out zy.out (HS.out _ HB8.out)
  unfold IntEnd at hq9
  rw [← HZ3.out] at hq9
  refine hq9.mono ?_
  clear hq9
  rintro e w9 ⟨rfl, hb⟩
  have HB9 := Lib.hid (next_below HB8.out hb); clear hb
  go_wp2_with fail
  have hq10 := awake_any _ (HS.out _ HB9.out)
  refine hq10.mono ?_
  clear hq10
  rintro e w10 ⟨rfl, hb⟩
  have HB10 := Lib.hid (next_below HB9.out hb); clear hb
  go_wp2_with fail
  go_ret
  exact ⟨rfl, HB10.out⟩
set_option maxHeartbeats 4000000 in
theorem semiOrder6 (k : Int) (a b c : ByteArray) (w : World) (ht : Tab w) (hf : fitF k a b c = true) (s x y : ByteArray) (O : Order k a b c s x y (0)) (hz : betterF k b c ≤ 0) (hk : k = 2) : Calls Tryz.prog 9 #[.int .i64 k, .agg #[.string a, .string b, .string c]] w (TrueEnd4 w) := by
  have HT := Lib.hid ht; clear ht
  have S1 : ∀ (wx : World), Below w.heap.size w wx → Tab wx := fun wx h => HT.out.below h (Nat.le_refl _)
  have HS := Lib.hid S1; clear S1
  have hb0 : Below w.heap.size w (w.alloc (.cells #[.string a, .string b, .string c] 34)) := (Below.refl _ _).alloc (Nat.le_refl _) _
  have HB0 := Lib.hid hb0; clear hb0
  obtain ⟨h1, h2, h3, _, _, _⟩ := fit_parts' hf
  have za := Lib.hid (show a.size ≤ 100000 by omega)
  have zb := Lib.hid (show b.size ≤ 100000 by omega)
  have zc := Lib.hid (show c.size ≤ 100000 by omega)
  clear h1 h2 h3
  have zx := Lib.hid (sz_of (timesF_size k a c) O.xe)
  have zy := Lib.hid (sz_of (timesF_size k b c) O.ye)
  have hab : a = b := O.eq.1 rfl
  subst hab
  obtain ⟨z1, hz1⟩ : ∃ z, z = betterF k a c := ⟨_, rfl⟩
  have g1 : decide (z1 ≤ 0) = true := by rw [hz1]; exact decide_eq_true hz
  have gz1 : z1 ≤ 0 := by rw [hz1]; exact hz
  obtain ⟨z2, hz2⟩ : ∃ z, z = betterF k a c := ⟨_, rfl⟩
  have gz2 : z2 ≤ 0 := by rw [hz2]; exact O.tr (by decide) hz
  have g2 : decide (0 < z2) = false := by rw [decide_eq_false_iff_not]; omega
  obtain ⟨z3, hz3⟩ : ∃ z, z = betterF k x y := ⟨_, rfl⟩
  have gz3 : z3 ≤ 0 := by rw [hz3]; exact O.xy (by decide)
  have HZ3 := Lib.hid hz3; clear hz3
  have HZ1 := Lib.hid hz1; clear hz1 hz
  have HZ2 := Lib.hid hz2; clear hz2
  have SE := Lib.hid O.se
  subst hk
  have OO := Lib.hid O; clear O
  have HF := Lib.hid hf; clear hf
  go_enter Tryz.func9, Tryz.ntmps9
  go_wp2_with fail
  have hq1 := fit_any 2 a a c _ (HS.out _ HB0.out)
  unfold BoolE at hq1
  rw [HF.out] at hq1
  refine hq1.mono ?_
  clear hq1
  rintro e w1 ⟨rfl, hb⟩
  have HQ1 := Lib.hid hb
  have HB1 := Lib.hid (next_below HB0.out hb); clear hb
  have k0 := cell_kept HQ1.out 0
  have k1 := cell_kept HQ1.out 1
  have k2 := cell_kept HQ1.out 2
  simp only [List.getElem?_toArray, List.getElem?_cons_zero, List.getElem?_cons_succ] at k0 k1 k2
  go_wp2_with fail
  go_quiet (fail)
  clear k0 k1 k2
  have HB2 := Lib.hid (below_drewN HB1.out nq)
  go_wp2_with fail
  have hq3 := semibetter_any 2 a a _ za.out za.out (HS.out _ HB2.out)
  unfold IntEnd at hq3
  rw [OO.out.pe] at hq3
  refine hq3.mono ?_
  clear hq3
  rintro e w3 ⟨rfl, hb⟩
  have HB3 := Lib.hid (next_below HB2.out hb); clear hb
  go_wp2_with fail
  have hq4 := semibetter_any 2 a a _ za.out za.out (HS.out _ HB3.out)
  unfold IntEnd at hq4
  rw [OO.out.sw] at hq4
  refine hq4.mono ?_
  clear hq4
  rintro e w4 ⟨rfl, hb⟩
  have HB4 := Lib.hid (next_below HB3.out hb); clear hb
  go_wp2_with fail
  have hq5 := semibetter_any 2 a c _ za.out zc.out (HS.out _ HB4.out)
  unfold IntEnd at hq5
  rw [← HZ1.out] at hq5
  refine hq5.mono ?_
  clear hq5
  rintro e w5 ⟨rfl, hb⟩
  have HB5 := Lib.hid (next_below HB4.out hb); clear hb
  go_wp2_with fail
  have hq6 := semibetter_any 2 a c _ za.out zc.out (HS.out _ HB5.out)
  unfold IntEnd at hq6
  rw [← HZ2.out] at hq6
  refine hq6.mono ?_
  clear hq6
  rintro e w6 ⟨rfl, hb⟩
  have HB6 := Lib.hid (next_below HB5.out hb); clear hb
  go_wp2_with fail
  have hq7 := semiplus_any 2 a a _ za.out za.out (HS.out _ HB6.out)
  unfold PairEnd at hq7
  rw [OO.out.se] at hq7
  refine hq7.mono ?_
  clear hq7
  rintro e w7 ⟨rfl, hb⟩
  have HB7 := Lib.hid (next_below HB6.out hb); clear hb
  go_wp2_with fail
  have hq8 := semitimes_any 2 a c _ za.out zc.out (HS.out _ HB7.out)
  unfold PairEnd at hq8
  rw [OO.out.xe] at hq8
  refine hq8.mono ?_
  clear hq8
  rintro e w8 ⟨rfl, hb⟩
  have HB8 := Lib.hid (next_below HB7.out hb); clear hb
  go_wp2_with fail
  have hq9 := semitimes_any 2 a c _ za.out zc.out (HS.out _ HB8.out)
  unfold PairEnd at hq9
  rw [OO.out.ye] at hq9
  refine hq9.mono ?_
  clear hq9
  rintro e w9 ⟨rfl, hb⟩
  have HB9 := Lib.hid (next_below HB8.out hb); clear hb
  go_wp2_with fail
  have hq10 := semibetter_any 2 x y _ zx.out zy.out (HS.out _ HB9.out)
  unfold IntEnd at hq10
  rw [← HZ3.out] at hq10
  refine hq10.mono ?_
  clear hq10
  rintro e w10 ⟨rfl, hb⟩
  have HB10 := Lib.hid (next_below HB9.out hb); clear hb
  go_wp2_with fail
  have hq11 := awake_any _ (HS.out _ HB10.out)
  refine hq11.mono ?_
  clear hq11
  rintro e w11 ⟨rfl, hb⟩
  have HB11 := Lib.hid (next_below HB10.out hb); clear hb
  go_wp2_with fail
  go_ret
  exact ⟨rfl, HB11.out⟩
set_option maxHeartbeats 4000000 in
theorem semiOrder7 (k : Int) (a b c : ByteArray) (w : World) (ht : Tab w) (hf : fitF k a b c = true) (s x y : ByteArray) (O : Order k a b c s x y (0)) (hz : betterF k b c ≤ 0) (hk : k ≠ 2) : Calls Tryz.prog 9 #[.int .i64 k, .agg #[.string a, .string b, .string c]] w (TrueEnd4 w) := by
  have HT := Lib.hid ht; clear ht
  have S1 : ∀ (wx : World), Below w.heap.size w wx → Tab wx := fun wx h => HT.out.below h (Nat.le_refl _)
  have HS := Lib.hid S1; clear S1
  have hb0 : Below w.heap.size w (w.alloc (.cells #[.string a, .string b, .string c] 34)) := (Below.refl _ _).alloc (Nat.le_refl _) _
  have HB0 := Lib.hid hb0; clear hb0
  obtain ⟨h1, h2, h3, _, _, _⟩ := fit_parts' hf
  have za := Lib.hid (show a.size ≤ 100000 by omega)
  have zb := Lib.hid (show b.size ≤ 100000 by omega)
  have zc := Lib.hid (show c.size ≤ 100000 by omega)
  clear h1 h2 h3
  have zx := Lib.hid (sz_of (timesF_size k a c) O.xe)
  have zy := Lib.hid (sz_of (timesF_size k b c) O.ye)
  have hab : a = b := O.eq.1 rfl
  subst hab
  obtain ⟨z1, hz1⟩ : ∃ z, z = betterF k a c := ⟨_, rfl⟩
  have g1 : decide (z1 ≤ 0) = true := by rw [hz1]; exact decide_eq_true hz
  have gz1 : z1 ≤ 0 := by rw [hz1]; exact hz
  obtain ⟨z2, hz2⟩ : ∃ z, z = betterF k a c := ⟨_, rfl⟩
  have gz2 : z2 ≤ 0 := by rw [hz2]; exact O.tr (by decide) hz
  have g2 : decide (0 < z2) = false := by rw [decide_eq_false_iff_not]; omega
  obtain ⟨z3, hz3⟩ : ∃ z, z = betterF k x y := ⟨_, rfl⟩
  have gz3 : z3 ≤ 0 := by rw [hz3]; exact O.xy (by decide)
  have HZ3 := Lib.hid hz3; clear hz3
  have HZ1 := Lib.hid hz1; clear hz1 hz
  have HZ2 := Lib.hid hz2; clear hz2
  have hs : s = a := O.s1 hk (by decide)
  subst hs
  have hk2 : (k != 2) = true := by rw [bne_iff_ne]; exact hk
  clear hk
  have OO := Lib.hid O; clear O
  have HF := Lib.hid hf; clear hf
  go_enter Tryz.func9, Tryz.ntmps9
  go_wp2_with fail
  have hq1 := fit_any k s s c _ (HS.out _ HB0.out)
  unfold BoolE at hq1
  rw [HF.out] at hq1
  refine hq1.mono ?_
  clear hq1
  rintro e w1 ⟨rfl, hb⟩
  have HQ1 := Lib.hid hb
  have HB1 := Lib.hid (next_below HB0.out hb); clear hb
  have k0 := cell_kept HQ1.out 0
  have k1 := cell_kept HQ1.out 1
  have k2 := cell_kept HQ1.out 2
  simp only [List.getElem?_toArray, List.getElem?_cons_zero, List.getElem?_cons_succ] at k0 k1 k2
  go_wp2_with fail
  go_quiet (fail)
  clear k0 k1 k2
  have HB2 := Lib.hid (below_drewN HB1.out nq)
  go_wp2_with fail
  have hq3 := semibetter_any k s s _ za.out za.out (HS.out _ HB2.out)
  unfold IntEnd at hq3
  rw [OO.out.pe] at hq3
  refine hq3.mono ?_
  clear hq3
  rintro e w3 ⟨rfl, hb⟩
  have HB3 := Lib.hid (next_below HB2.out hb); clear hb
  go_wp2_with fail
  have hq4 := semibetter_any k s s _ za.out za.out (HS.out _ HB3.out)
  unfold IntEnd at hq4
  rw [OO.out.sw] at hq4
  refine hq4.mono ?_
  clear hq4
  rintro e w4 ⟨rfl, hb⟩
  have HB4 := Lib.hid (next_below HB3.out hb); clear hb
  go_wp2_with fail
  have hq5 := semibetter_any k s c _ za.out zc.out (HS.out _ HB4.out)
  unfold IntEnd at hq5
  rw [← HZ1.out] at hq5
  refine hq5.mono ?_
  clear hq5
  rintro e w5 ⟨rfl, hb⟩
  have HB5 := Lib.hid (next_below HB4.out hb); clear hb
  go_wp2_with fail
  have hq6 := semibetter_any k s c _ za.out zc.out (HS.out _ HB5.out)
  unfold IntEnd at hq6
  rw [← HZ2.out] at hq6
  refine hq6.mono ?_
  clear hq6
  rintro e w6 ⟨rfl, hb⟩
  have HB6 := Lib.hid (next_below HB5.out hb); clear hb
  go_wp2_with fail
  have hq7 := semiplus_any k s s _ za.out za.out (HS.out _ HB6.out)
  unfold PairEnd at hq7
  rw [OO.out.se] at hq7
  refine hq7.mono ?_
  clear hq7
  rintro e w7 ⟨rfl, hb⟩
  have HB7 := Lib.hid (next_below HB6.out hb); clear hb
  go_wp2_with fail
  have hq8 := semitimes_any k s c _ za.out zc.out (HS.out _ HB7.out)
  unfold PairEnd at hq8
  rw [OO.out.xe] at hq8
  refine hq8.mono ?_
  clear hq8
  rintro e w8 ⟨rfl, hb⟩
  have HB8 := Lib.hid (next_below HB7.out hb); clear hb
  go_wp2_with fail
  have hq9 := semitimes_any k s c _ za.out zc.out (HS.out _ HB8.out)
  unfold PairEnd at hq9
  rw [OO.out.ye] at hq9
  refine hq9.mono ?_
  clear hq9
  rintro e w9 ⟨rfl, hb⟩
  have HB9 := Lib.hid (next_below HB8.out hb); clear hb
  go_wp2_with fail
  have hq10 := semibetter_any k x y _ zx.out zy.out (HS.out _ HB9.out)
  unfold IntEnd at hq10
  rw [← HZ3.out] at hq10
  refine hq10.mono ?_
  clear hq10
  rintro e w10 ⟨rfl, hb⟩
  have HB10 := Lib.hid (next_below HB9.out hb); clear hb
  go_wp2_with fail
  have hq11 := awake_any _ (HS.out _ HB10.out)
  refine hq11.mono ?_
  clear hq11
  rintro e w11 ⟨rfl, hb⟩
  have HB11 := Lib.hid (next_below HB10.out hb); clear hb
  go_wp2_with fail
  go_ret
  exact ⟨rfl, HB11.out⟩
set_option maxHeartbeats 4000000 in
theorem semiOrder8 (k : Int) (a b c : ByteArray) (w : World) (ht : Tab w) (hf : fitF k a b c = true) (s x y : ByteArray) (O : Order k a b c s x y (0)) (hz : ¬ betterF k b c ≤ 0) (hk : k = 2) : Calls Tryz.prog 9 #[.int .i64 k, .agg #[.string a, .string b, .string c]] w (TrueEnd4 w) := by
  have HT := Lib.hid ht; clear ht
  have S1 : ∀ (wx : World), Below w.heap.size w wx → Tab wx := fun wx h => HT.out.below h (Nat.le_refl _)
  have HS := Lib.hid S1; clear S1
  have hb0 : Below w.heap.size w (w.alloc (.cells #[.string a, .string b, .string c] 34)) := (Below.refl _ _).alloc (Nat.le_refl _) _
  have HB0 := Lib.hid hb0; clear hb0
  obtain ⟨h1, h2, h3, _, _, _⟩ := fit_parts' hf
  have za := Lib.hid (show a.size ≤ 100000 by omega)
  have zb := Lib.hid (show b.size ≤ 100000 by omega)
  have zc := Lib.hid (show c.size ≤ 100000 by omega)
  clear h1 h2 h3
  have zx := Lib.hid (sz_of (timesF_size k a c) O.xe)
  have zy := Lib.hid (sz_of (timesF_size k b c) O.ye)
  have hab : a = b := O.eq.1 rfl
  subst hab
  obtain ⟨z1, hz1⟩ : ∃ z, z = betterF k a c := ⟨_, rfl⟩
  have g1 : decide (z1 ≤ 0) = false := by rw [hz1]; exact decide_eq_false hz
  obtain ⟨z3, hz3⟩ : ∃ z, z = betterF k x y := ⟨_, rfl⟩
  have gz3 : z3 ≤ 0 := by rw [hz3]; exact O.xy (by decide)
  have HZ3 := Lib.hid hz3; clear hz3
  have HZ1 := Lib.hid hz1; clear hz1 hz
  have SE := Lib.hid O.se
  subst hk
  have OO := Lib.hid O; clear O
  have HF := Lib.hid hf; clear hf
  go_enter Tryz.func9, Tryz.ntmps9
  go_wp2_with fail
  have hq1 := fit_any 2 a a c _ (HS.out _ HB0.out)
  unfold BoolE at hq1
  rw [HF.out] at hq1
  refine hq1.mono ?_
  clear hq1
  rintro e w1 ⟨rfl, hb⟩
  have HQ1 := Lib.hid hb
  have HB1 := Lib.hid (next_below HB0.out hb); clear hb
  have k0 := cell_kept HQ1.out 0
  have k1 := cell_kept HQ1.out 1
  have k2 := cell_kept HQ1.out 2
  simp only [List.getElem?_toArray, List.getElem?_cons_zero, List.getElem?_cons_succ] at k0 k1 k2
  go_wp2_with fail
  go_quiet (fail)
  clear k0 k1 k2
  have HB2 := Lib.hid (below_drewN HB1.out nq)
  go_wp2_with fail
  have hq3 := semibetter_any 2 a a _ za.out za.out (HS.out _ HB2.out)
  unfold IntEnd at hq3
  rw [OO.out.pe] at hq3
  refine hq3.mono ?_
  clear hq3
  rintro e w3 ⟨rfl, hb⟩
  have HB3 := Lib.hid (next_below HB2.out hb); clear hb
  go_wp2_with fail
  have hq4 := semibetter_any 2 a a _ za.out za.out (HS.out _ HB3.out)
  unfold IntEnd at hq4
  rw [OO.out.sw] at hq4
  refine hq4.mono ?_
  clear hq4
  rintro e w4 ⟨rfl, hb⟩
  have HB4 := Lib.hid (next_below HB3.out hb); clear hb
  go_wp2_with fail
  have hq5 := semibetter_any 2 a c _ za.out zc.out (HS.out _ HB4.out)
  unfold IntEnd at hq5
  rw [← HZ1.out] at hq5
  refine hq5.mono ?_
  clear hq5
  rintro e w5 ⟨rfl, hb⟩
  have HB5 := Lib.hid (next_below HB4.out hb); clear hb
  go_wp2_with fail
  have hq6 := semiplus_any 2 a a _ za.out za.out (HS.out _ HB5.out)
  unfold PairEnd at hq6
  rw [OO.out.se] at hq6
  refine hq6.mono ?_
  clear hq6
  rintro e w6 ⟨rfl, hb⟩
  have HB6 := Lib.hid (next_below HB5.out hb); clear hb
  go_wp2_with fail
  have hq7 := semitimes_any 2 a c _ za.out zc.out (HS.out _ HB6.out)
  unfold PairEnd at hq7
  rw [OO.out.xe] at hq7
  refine hq7.mono ?_
  clear hq7
  rintro e w7 ⟨rfl, hb⟩
  have HB7 := Lib.hid (next_below HB6.out hb); clear hb
  go_wp2_with fail
  have hq8 := semitimes_any 2 a c _ za.out zc.out (HS.out _ HB7.out)
  unfold PairEnd at hq8
  rw [OO.out.ye] at hq8
  refine hq8.mono ?_
  clear hq8
  rintro e w8 ⟨rfl, hb⟩
  have HB8 := Lib.hid (next_below HB7.out hb); clear hb
  go_wp2_with fail
  have hq9 := semibetter_any 2 x y _ zx.out zy.out (HS.out _ HB8.out)
  unfold IntEnd at hq9
  rw [← HZ3.out] at hq9
  refine hq9.mono ?_
  clear hq9
  rintro e w9 ⟨rfl, hb⟩
  have HB9 := Lib.hid (next_below HB8.out hb); clear hb
  go_wp2_with fail
  have hq10 := awake_any _ (HS.out _ HB9.out)
  refine hq10.mono ?_
  clear hq10
  rintro e w10 ⟨rfl, hb⟩
  have HB10 := Lib.hid (next_below HB9.out hb); clear hb
  go_wp2_with fail
  go_ret
  exact ⟨rfl, HB10.out⟩
set_option maxHeartbeats 4000000 in
theorem semiOrder9 (k : Int) (a b c : ByteArray) (w : World) (ht : Tab w) (hf : fitF k a b c = true) (s x y : ByteArray) (O : Order k a b c s x y (0)) (hz : ¬ betterF k b c ≤ 0) (hk : k ≠ 2) : Calls Tryz.prog 9 #[.int .i64 k, .agg #[.string a, .string b, .string c]] w (TrueEnd4 w) := by
  have HT := Lib.hid ht; clear ht
  have S1 : ∀ (wx : World), Below w.heap.size w wx → Tab wx := fun wx h => HT.out.below h (Nat.le_refl _)
  have HS := Lib.hid S1; clear S1
  have hb0 : Below w.heap.size w (w.alloc (.cells #[.string a, .string b, .string c] 34)) := (Below.refl _ _).alloc (Nat.le_refl _) _
  have HB0 := Lib.hid hb0; clear hb0
  obtain ⟨h1, h2, h3, _, _, _⟩ := fit_parts' hf
  have za := Lib.hid (show a.size ≤ 100000 by omega)
  have zb := Lib.hid (show b.size ≤ 100000 by omega)
  have zc := Lib.hid (show c.size ≤ 100000 by omega)
  clear h1 h2 h3
  have zx := Lib.hid (sz_of (timesF_size k a c) O.xe)
  have zy := Lib.hid (sz_of (timesF_size k b c) O.ye)
  have hab : a = b := O.eq.1 rfl
  subst hab
  obtain ⟨z1, hz1⟩ : ∃ z, z = betterF k a c := ⟨_, rfl⟩
  have g1 : decide (z1 ≤ 0) = false := by rw [hz1]; exact decide_eq_false hz
  obtain ⟨z3, hz3⟩ : ∃ z, z = betterF k x y := ⟨_, rfl⟩
  have gz3 : z3 ≤ 0 := by rw [hz3]; exact O.xy (by decide)
  have HZ3 := Lib.hid hz3; clear hz3
  have HZ1 := Lib.hid hz1; clear hz1 hz
  have hs : s = a := O.s1 hk (by decide)
  subst hs
  have hk2 : (k != 2) = true := by rw [bne_iff_ne]; exact hk
  clear hk
  have OO := Lib.hid O; clear O
  have HF := Lib.hid hf; clear hf
  go_enter Tryz.func9, Tryz.ntmps9
  go_wp2_with fail
  have hq1 := fit_any k s s c _ (HS.out _ HB0.out)
  unfold BoolE at hq1
  rw [HF.out] at hq1
  refine hq1.mono ?_
  clear hq1
  rintro e w1 ⟨rfl, hb⟩
  have HQ1 := Lib.hid hb
  have HB1 := Lib.hid (next_below HB0.out hb); clear hb
  have k0 := cell_kept HQ1.out 0
  have k1 := cell_kept HQ1.out 1
  have k2 := cell_kept HQ1.out 2
  simp only [List.getElem?_toArray, List.getElem?_cons_zero, List.getElem?_cons_succ] at k0 k1 k2
  go_wp2_with fail
  go_quiet (fail)
  clear k0 k1 k2
  have HB2 := Lib.hid (below_drewN HB1.out nq)
  go_wp2_with fail
  have hq3 := semibetter_any k s s _ za.out za.out (HS.out _ HB2.out)
  unfold IntEnd at hq3
  rw [OO.out.pe] at hq3
  refine hq3.mono ?_
  clear hq3
  rintro e w3 ⟨rfl, hb⟩
  have HB3 := Lib.hid (next_below HB2.out hb); clear hb
  go_wp2_with fail
  have hq4 := semibetter_any k s s _ za.out za.out (HS.out _ HB3.out)
  unfold IntEnd at hq4
  rw [OO.out.sw] at hq4
  refine hq4.mono ?_
  clear hq4
  rintro e w4 ⟨rfl, hb⟩
  have HB4 := Lib.hid (next_below HB3.out hb); clear hb
  go_wp2_with fail
  have hq5 := semibetter_any k s c _ za.out zc.out (HS.out _ HB4.out)
  unfold IntEnd at hq5
  rw [← HZ1.out] at hq5
  refine hq5.mono ?_
  clear hq5
  rintro e w5 ⟨rfl, hb⟩
  have HB5 := Lib.hid (next_below HB4.out hb); clear hb
  go_wp2_with fail
  have hq6 := semiplus_any k s s _ za.out za.out (HS.out _ HB5.out)
  unfold PairEnd at hq6
  rw [OO.out.se] at hq6
  refine hq6.mono ?_
  clear hq6
  rintro e w6 ⟨rfl, hb⟩
  have HB6 := Lib.hid (next_below HB5.out hb); clear hb
  go_wp2_with fail
  have hq7 := semitimes_any k s c _ za.out zc.out (HS.out _ HB6.out)
  unfold PairEnd at hq7
  rw [OO.out.xe] at hq7
  refine hq7.mono ?_
  clear hq7
  rintro e w7 ⟨rfl, hb⟩
  have HB7 := Lib.hid (next_below HB6.out hb); clear hb
  go_wp2_with fail
  have hq8 := semitimes_any k s c _ za.out zc.out (HS.out _ HB7.out)
  unfold PairEnd at hq8
  rw [OO.out.ye] at hq8
  refine hq8.mono ?_
  clear hq8
  rintro e w8 ⟨rfl, hb⟩
  have HB8 := Lib.hid (next_below HB7.out hb); clear hb
  go_wp2_with fail
  have hq9 := semibetter_any k x y _ zx.out zy.out (HS.out _ HB8.out)
  unfold IntEnd at hq9
  rw [← HZ3.out] at hq9
  refine hq9.mono ?_
  clear hq9
  rintro e w9 ⟨rfl, hb⟩
  have HB9 := Lib.hid (next_below HB8.out hb); clear hb
  go_wp2_with fail
  have hq10 := awake_any _ (HS.out _ HB9.out)
  refine hq10.mono ?_
  clear hq10
  rintro e w10 ⟨rfl, hb⟩
  have HB10 := Lib.hid (next_below HB9.out hb); clear hb
  go_wp2_with fail
  go_ret
  exact ⟨rfl, HB10.out⟩
set_option maxHeartbeats 4000000 in
theorem semiOrder10 (k : Int) (a b c : ByteArray) (w : World) (ht : Tab w) (hf : fitF k a b c = true) (s x y : ByteArray) (O : Order k a b c s x y (1)) (hk : k = 2) : Calls Tryz.prog 9 #[.int .i64 k, .agg #[.string a, .string b, .string c]] w (TrueEnd4 w) := by
  have HT := Lib.hid ht; clear ht
  have S1 : ∀ (wx : World), Below w.heap.size w wx → Tab wx := fun wx h => HT.out.below h (Nat.le_refl _)
  have HS := Lib.hid S1; clear S1
  have hb0 : Below w.heap.size w (w.alloc (.cells #[.string a, .string b, .string c] 34)) := (Below.refl _ _).alloc (Nat.le_refl _) _
  have HB0 := Lib.hid hb0; clear hb0
  obtain ⟨h1, h2, h3, _, _, _⟩ := fit_parts' hf
  have za := Lib.hid (show a.size ≤ 100000 by omega)
  have zb := Lib.hid (show b.size ≤ 100000 by omega)
  have zc := Lib.hid (show c.size ≤ 100000 by omega)
  clear h1 h2 h3
  have zx := Lib.hid (sz_of (timesF_size k a c) O.xe)
  have zy := Lib.hid (sz_of (timesF_size k b c) O.ye)
  have hab : (a.toList == b.toList) = false := by rw [beq_eq_false_iff_ne]; exact ne_toList (fun e => absurd (O.eq.2 e) (by decide))
  have SE := Lib.hid O.se
  subst hk
  have OO := Lib.hid O; clear O
  have HF := Lib.hid hf; clear hf
  go_enter Tryz.func9, Tryz.ntmps9
  go_wp2_with fail
  have hq1 := fit_any 2 a b c _ (HS.out _ HB0.out)
  unfold BoolE at hq1
  rw [HF.out] at hq1
  refine hq1.mono ?_
  clear hq1
  rintro e w1 ⟨rfl, hb⟩
  have HQ1 := Lib.hid hb
  have HB1 := Lib.hid (next_below HB0.out hb); clear hb
  have k0 := cell_kept HQ1.out 0
  have k1 := cell_kept HQ1.out 1
  have k2 := cell_kept HQ1.out 2
  simp only [List.getElem?_toArray, List.getElem?_cons_zero, List.getElem?_cons_succ] at k0 k1 k2
  go_wp2_with fail
  go_quiet (fail)
  clear k0 k1 k2
  have HB2 := Lib.hid (below_drewN HB1.out nq)
  go_wp2_with fail
  have hq3 := semibetter_any 2 a b _ za.out zb.out (HS.out _ HB2.out)
  unfold IntEnd at hq3
  rw [OO.out.pe] at hq3
  refine hq3.mono ?_
  clear hq3
  rintro e w3 ⟨rfl, hb⟩
  have HB3 := Lib.hid (next_below HB2.out hb); clear hb
  go_wp2_with fail
  have hq4 := semibetter_any 2 b a _ zb.out za.out (HS.out _ HB3.out)
  unfold IntEnd at hq4
  rw [OO.out.sw] at hq4
  refine hq4.mono ?_
  clear hq4
  rintro e w4 ⟨rfl, hb⟩
  have HB4 := Lib.hid (next_below HB3.out hb); clear hb
  go_wp2_with fail
  have hq5 := semiplus_any 2 a b _ za.out zb.out (HS.out _ HB4.out)
  unfold PairEnd at hq5
  rw [OO.out.se] at hq5
  refine hq5.mono ?_
  clear hq5
  rintro e w5 ⟨rfl, hb⟩
  have HB5 := Lib.hid (next_below HB4.out hb); clear hb
  go_wp2_with fail
  have hq6 := semitimes_any 2 a c _ za.out zc.out (HS.out _ HB5.out)
  unfold PairEnd at hq6
  rw [OO.out.xe] at hq6
  refine hq6.mono ?_
  clear hq6
  rintro e w6 ⟨rfl, hb⟩
  have HB6 := Lib.hid (next_below HB5.out hb); clear hb
  go_wp2_with fail
  have hq7 := semitimes_any 2 b c _ zb.out zc.out (HS.out _ HB6.out)
  unfold PairEnd at hq7
  rw [OO.out.ye] at hq7
  refine hq7.mono ?_
  clear hq7
  rintro e w7 ⟨rfl, hb⟩
  have HB7 := Lib.hid (next_below HB6.out hb); clear hb
  go_wp2_with fail
  have hq8 := awake_any _ (HS.out _ HB7.out)
  refine hq8.mono ?_
  clear hq8
  rintro e w8 ⟨rfl, hb⟩
  have HB8 := Lib.hid (next_below HB7.out hb); clear hb
  go_wp2_with fail
  go_ret
  exact ⟨rfl, HB8.out⟩
set_option maxHeartbeats 4000000 in
theorem semiOrder11 (k : Int) (a b c : ByteArray) (w : World) (ht : Tab w) (hf : fitF k a b c = true) (s x y : ByteArray) (O : Order k a b c s x y (1)) (hk : k ≠ 2) : Calls Tryz.prog 9 #[.int .i64 k, .agg #[.string a, .string b, .string c]] w (TrueEnd4 w) := by
  have HT := Lib.hid ht; clear ht
  have S1 : ∀ (wx : World), Below w.heap.size w wx → Tab wx := fun wx h => HT.out.below h (Nat.le_refl _)
  have HS := Lib.hid S1; clear S1
  have hb0 : Below w.heap.size w (w.alloc (.cells #[.string a, .string b, .string c] 34)) := (Below.refl _ _).alloc (Nat.le_refl _) _
  have HB0 := Lib.hid hb0; clear hb0
  obtain ⟨h1, h2, h3, _, _, _⟩ := fit_parts' hf
  have za := Lib.hid (show a.size ≤ 100000 by omega)
  have zb := Lib.hid (show b.size ≤ 100000 by omega)
  have zc := Lib.hid (show c.size ≤ 100000 by omega)
  clear h1 h2 h3
  have zx := Lib.hid (sz_of (timesF_size k a c) O.xe)
  have zy := Lib.hid (sz_of (timesF_size k b c) O.ye)
  have hab : (a.toList == b.toList) = false := by rw [beq_eq_false_iff_ne]; exact ne_toList (fun e => absurd (O.eq.2 e) (by decide))
  have hs : s = b := O.s2 hk (by decide)
  subst hs
  have hk2 : (k != 2) = true := by rw [bne_iff_ne]; exact hk
  clear hk
  have OO := Lib.hid O; clear O
  have HF := Lib.hid hf; clear hf
  go_enter Tryz.func9, Tryz.ntmps9
  go_wp2_with fail
  have hq1 := fit_any k a s c _ (HS.out _ HB0.out)
  unfold BoolE at hq1
  rw [HF.out] at hq1
  refine hq1.mono ?_
  clear hq1
  rintro e w1 ⟨rfl, hb⟩
  have HQ1 := Lib.hid hb
  have HB1 := Lib.hid (next_below HB0.out hb); clear hb
  have k0 := cell_kept HQ1.out 0
  have k1 := cell_kept HQ1.out 1
  have k2 := cell_kept HQ1.out 2
  simp only [List.getElem?_toArray, List.getElem?_cons_zero, List.getElem?_cons_succ] at k0 k1 k2
  go_wp2_with fail
  go_quiet (fail)
  clear k0 k1 k2
  have HB2 := Lib.hid (below_drewN HB1.out nq)
  go_wp2_with fail
  have hq3 := semibetter_any k a s _ za.out zb.out (HS.out _ HB2.out)
  unfold IntEnd at hq3
  rw [OO.out.pe] at hq3
  refine hq3.mono ?_
  clear hq3
  rintro e w3 ⟨rfl, hb⟩
  have HB3 := Lib.hid (next_below HB2.out hb); clear hb
  go_wp2_with fail
  have hq4 := semibetter_any k s a _ zb.out za.out (HS.out _ HB3.out)
  unfold IntEnd at hq4
  rw [OO.out.sw] at hq4
  refine hq4.mono ?_
  clear hq4
  rintro e w4 ⟨rfl, hb⟩
  have HB4 := Lib.hid (next_below HB3.out hb); clear hb
  go_wp2_with fail
  have hq5 := semiplus_any k a s _ za.out zb.out (HS.out _ HB4.out)
  unfold PairEnd at hq5
  rw [OO.out.se] at hq5
  refine hq5.mono ?_
  clear hq5
  rintro e w5 ⟨rfl, hb⟩
  have HB5 := Lib.hid (next_below HB4.out hb); clear hb
  go_wp2_with fail
  have hq6 := semitimes_any k a c _ za.out zc.out (HS.out _ HB5.out)
  unfold PairEnd at hq6
  rw [OO.out.xe] at hq6
  refine hq6.mono ?_
  clear hq6
  rintro e w6 ⟨rfl, hb⟩
  have HB6 := Lib.hid (next_below HB5.out hb); clear hb
  go_wp2_with fail
  have hq7 := semitimes_any k s c _ zb.out zc.out (HS.out _ HB6.out)
  unfold PairEnd at hq7
  rw [OO.out.ye] at hq7
  refine hq7.mono ?_
  clear hq7
  rintro e w7 ⟨rfl, hb⟩
  have HB7 := Lib.hid (next_below HB6.out hb); clear hb
  go_wp2_with fail
  have hq8 := awake_any _ (HS.out _ HB7.out)
  refine hq8.mono ?_
  clear hq8
  rintro e w8 ⟨rfl, hb⟩
  have HB8 := Lib.hid (next_below HB7.out hb); clear hb
  go_wp2_with fail
  go_ret
  exact ⟨rfl, HB8.out⟩
theorem semiOrder_any (k : Int) (a b c : ByteArray) (w : World) (ht : Tab w) : Calls Tryz.prog 9 #[.int .i64 k, .agg #[.string a, .string b, .string c]] w (TrueEnd4 w) := by
  cases hf : fitF k a b c with
  | false => exact semiOrder1 k a b c w ht hf
  | true =>
    obtain ⟨h1, h2, h3, h4, h5, h6⟩ := fit_parts' hf
    obtain ⟨s, x, y, p, O⟩ := order_holds h4 h5 h6 h1 h2 h3
    have hp : p = -1 ∨ p = 0 ∨ p = 1 := by have := O.lo; have := O.hi; omega
    rcases hp with rfl | rfl | rfl
    · by_cases hz : betterF k b c ≤ 0
      · by_cases hk : k = 2
        · exact semiOrder2 k a b c w ht hf s x y O hz hk
        · exact semiOrder3 k a b c w ht hf s x y O hz hk
      · by_cases hk : k = 2
        · exact semiOrder4 k a b c w ht hf s x y O hz hk
        · exact semiOrder5 k a b c w ht hf s x y O hz hk
    · by_cases hz : betterF k b c ≤ 0
      · by_cases hk : k = 2
        · exact semiOrder6 k a b c w ht hf s x y O hz hk
        · exact semiOrder7 k a b c w ht hf s x y O hz hk
      · by_cases hk : k = 2
        · exact semiOrder8 k a b c w ht hf s x y O hz hk
        · exact semiOrder9 k a b c w ht hf s x y O hz hk
    · by_cases hk : k = 2
      · exact semiOrder10 k a b c w ht hf s x y O hk
      · exact semiOrder11 k a b c w ht hf s x y O hk
end Go.Proofs.YtlcbdaconghcmaaGreatDoor
