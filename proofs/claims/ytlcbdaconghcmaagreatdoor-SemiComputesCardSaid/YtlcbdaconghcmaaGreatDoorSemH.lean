/- The walks of semi's exported functions: Over. -/
import Derived.Test.YtlcbdaconghcmaaGreatDoorSemF
import Derived.Test.YtlcbdaconghcmaaGreatDoorSemLaw
namespace Go.Proofs.YtlcbdaconghcmaaGreatDoor
open Go Go.RowKit
set_option maxRecDepth 100000

theorem weight_v {k : Int} {a : ByteArray} (h : weightF k a = true) : ∃ x, rdV a = some (.fin x) ∧ a = txt x ∧ fitQ x ∧ wtV k (.fin x) := by
  obtain ⟨v, h1, h2⟩ := weight_some h
  obtain ⟨x, rfl, _⟩ := wtV_fin h2
  exact ⟨x, h1, (rdV_some h1).1, (rdV_some h1).2, h2⟩
theorem weight_iff {k : Int} {a : ByteArray} {v : V} (h : rdV a = some v) : weightF k a = decide (wtV k v) := by unfold weightF; rw [h]
theorem zero_rd {k : Int} (hk : k = 1 ∨ k = 2 ∨ k = 3) {a : ByteArray} (h : rdV a = some (zeroV k)) : a = zeroF k := by rw [zeroF_eq hk]; exact (rdV_some h).1
theorem overF_n2 {k : Int} {a b : ByteArray} (h : weightF k b = false) : overF k a b = (⟨#[]⟩, 1) := by
  unfold overF
  cases ha : rdV a with
  | none => rfl
  | some v =>
    cases hb : rdV b with
    | none => rfl
    | some u =>
      rw [weight_iff hb, decide_eq_false_iff_not] at h
      simp only; rw [if_neg (fun e => h e.2)]; rfl
theorem overF_n1 {k : Int} (hk : k = 1 ∨ k = 2 ∨ k = 3) {a b : ByteArray} (hz : a ≠ zeroF k) (h : weightF k a = false) : overF k a b = (⟨#[]⟩, 1) := by
  unfold overF
  cases ha : rdV a with
  | none => rfl
  | some v =>
    cases hb : rdV b with
    | none => rfl
    | some u =>
      rw [weight_iff ha, decide_eq_false_iff_not] at h
      simp only; rw [if_neg]
      · rfl
      · intro e
        rcases e.1 with e | e
        · subst e; exact hz (zero_rd hk ha)
        · exact h e
theorem overF_no {k : Int} (hk : k < 1 ∨ 3 < k) (a b : ByteArray) : overF k a b = (⟨#[]⟩, 1) := overF_n2 (weightF_no hk b)
theorem overF_zero {k : Int} (hk : k = 1 ∨ k = 2 ∨ k = 3) {b : ByteArray} (h : weightF k b = true) : overF k (zeroF k) b = (zeroF k, 0) := by
  obtain ⟨y, h1, _, _, h2⟩ := weight_v h
  unfold overF
  rw [zeroF_rd hk, h1]; simp only
  rw [if_pos ⟨.inl rfl, h2⟩]
  have : overV k (zeroV k) (.fin y) = zeroV k := by unfold overV; rw [if_pos rfl]
  rw [this, limV_fit ((szV_zero k (k := 1) (by omega)).fit (by omega)), zeroF_eq hk]
theorem overF_1 {a b : ByteArray} (ha : weightF 1 a = true) (hb : weightF 1 b = true) : overF 1 a b = qsubF a b := by
  obtain ⟨x, a1, a2, a3, a4⟩ := weight_v ha
  obtain ⟨y, b1, b2, b3, b4⟩ := weight_v hb
  unfold overF qsubF
  rw [a1, b1, a2, b2, prs_txt a3, prs_txt b3]; simp only
  rw [if_pos ⟨.inr a4, b4⟩]; rfl
theorem overF_23 {k : Int} (hk : k = 2 ∨ k = 3) {a b : ByteArray} (ha : weightF k a = true) (hb : weightF k b = true) : overF k a b = qdivF a b := by
  obtain ⟨x, a1, a2, a3, a4⟩ := weight_v ha
  obtain ⟨y, b1, b2, b3, b4⟩ := weight_v hb
  have hk1 : k ≠ 1 := by omega
  have px : 0 < x := by rcases a4 with h | h; exact absurd h hk1; exact h.2
  have py : 0 < y := by rcases b4 with h | h; exact absurd h hk1; exact h.2
  unfold overF qdivF
  rw [a1, b1, a2, b2, prs_txt a3, prs_txt b3]; simp only
  rw [if_pos ⟨.inr a4, b4⟩, if_neg (Rat.ne_of_gt py)]
  have : overV k (.fin x) (.fin y) = .fin (x / y) := by
    unfold overV
    rw [if_neg (by unfold zeroV; rw [if_neg hk1]; intro e; injection e with e; exact Rat.ne_of_gt px e)]
    simp [hk1]
  rw [this]; rfl
set_option maxHeartbeats 4000000 in
theorem sover_1 (a b : ByteArray) (w : World) (ha : a.size ≤ 100000) (hb : b.size ≤ 100000) (ht : Tab w) : Calls Tryz.prog 18 #[.int .i64 1, .string a, .string b] w (PairEnd (overF 1 a b) w) := by
  have c1 := fun wx (h : Below w.heap.size w wx) => weight1_fn a wx ha (ht.below h (Nat.le_refl _))
  have c2 := fun wx (h : Below w.heap.size w wx) => weight1_fn b wx hb (ht.below h (Nat.le_refl _))
  have c3 := fun wx (h : Below w.heap.size w wx) => qsub_any a b wx ha hb (ht.below h (Nat.le_refl _))
  by_cases hz : a = ⟨#[105, 110, 102]⟩
  · have az : (a.toList == [105, 110, 102]) = true := by rw [hz, Lib.toList_data]; rfl
    have hz' : a = zeroF 1 := by rw [zeroF_1]; exact hz
    cases h2 : weightF 1 b with
    | false =>
      rw [overF_n2 h2]; rw [h2] at c2; clear c1 c3 hz hz' h2 ha hb ht
      have c0 := of_1 w
      unfold OfEnd at c0
      unfold ring1 at *
      have C0 := Lib.hid c0; clear c0
      have C2 := Lib.hid c2; clear c2
      go_enter Tryz.func18, Tryz.ntmps18
      go_wp2_with fail
      refine C0.out.mono ?_
      rintro e w1 ⟨rfl, hb⟩
      have HB1 := Lib.hid (hb.alloc hb.size (.cells ring1 44)); clear hb
      go_wp2_with fail
      refine (C2.out _ HB1.out).mono ?_
      rintro e w2 ⟨rfl, hb⟩
      have HB2 := Lib.hid (next_below HB1.out hb); clear hb
      go_wp2_with fail
      go_ret2
      exact ⟨rfl, HB2.out⟩
    | true =>
      have hr : overF 1 a b = (a, 0) := by rw [hz']; exact overF_zero (by omega) h2
      rw [hr]; rw [h2] at c2; clear c1 c3 hz hz' h2 ha hb ht hr
      have c0 := of_1 w
      unfold OfEnd at c0
      unfold ring1 at *
      have C0 := Lib.hid c0; clear c0
      have C2 := Lib.hid c2; clear c2
      go_enter Tryz.func18, Tryz.ntmps18
      go_wp2_with fail
      refine C0.out.mono ?_
      rintro e w1 ⟨rfl, hb⟩
      have HB1 := Lib.hid (hb.alloc hb.size (.cells ring1 44)); clear hb
      go_wp2_with fail
      refine (C2.out _ HB1.out).mono ?_
      rintro e w2 ⟨rfl, hb⟩
      have HS2 := Lib.hid (hb)
      have HB2 := Lib.hid (next_below HB1.out hb); clear hb
      obtain ⟨q0, q1, q2, q3, q4, q5, q6, q7⟩ := ring_cells1 HS2.out
      go_wp2_with fail
      go_ret2
      exact ⟨rfl, HB2.out⟩
  · have az : (a.toList == [105, 110, 102]) = false := ne_list (l := [105, 110, 102]) hz
    have hz' : a ≠ zeroF 1 := by rw [zeroF_1]; exact hz
    cases h1 : weightF 1 a with
    | false =>
      rw [overF_n1 (by omega) hz' h1]; rw [h1] at c1; clear c2 c3 hz hz' h1 ha hb ht
      have c0 := of_1 w
      unfold OfEnd at c0
      unfold ring1 at *
      have C0 := Lib.hid c0; clear c0
      have C1 := Lib.hid c1; clear c1
      go_enter Tryz.func18, Tryz.ntmps18
      go_wp2_with fail
      refine C0.out.mono ?_
      rintro e w1 ⟨rfl, hb⟩
      have HB1 := Lib.hid (hb.alloc hb.size (.cells ring1 44)); clear hb
      go_wp2_with fail
      refine (C1.out _ HB1.out).mono ?_
      rintro e w2 ⟨rfl, hb⟩
      have HB2 := Lib.hid (next_below HB1.out hb); clear hb
      go_wp2_with fail
      go_ret2
      exact ⟨rfl, HB2.out⟩
    | true =>
      rw [h1] at c1
      cases h2 : weightF 1 b with
      | false =>
        rw [overF_n2 h2]; rw [h2] at c2; clear c3 hz hz' h1 h2 ha hb ht
        have c0 := of_1 w
        unfold OfEnd at c0
        unfold ring1 at *
        have C0 := Lib.hid c0; clear c0
        have C1 := Lib.hid c1; clear c1
        have C2 := Lib.hid c2; clear c2
        go_enter Tryz.func18, Tryz.ntmps18
        go_wp2_with fail
        refine C0.out.mono ?_
        rintro e w1 ⟨rfl, hb⟩
        have HB1 := Lib.hid (hb.alloc hb.size (.cells ring1 44)); clear hb
        go_wp2_with fail
        refine (C1.out _ HB1.out).mono ?_
        rintro e w2 ⟨rfl, hb⟩
        have HS2 := Lib.hid (hb)
        have HB2 := Lib.hid (next_below HB1.out hb); clear hb
        obtain ⟨q0, q1, q2, q3, q4, q5, q6, q7⟩ := ring_cells1 HS2.out
        go_wp2_with fail
        refine (C2.out _ HB2.out).mono ?_
        rintro e w3 ⟨rfl, hb⟩
        have HB3 := Lib.hid (next_below HB2.out hb); clear hb
        go_wp2_with fail
        go_ret2
        exact ⟨rfl, HB3.out⟩
      | true =>
        rw [← overF_1 h1 h2] at c3
        rw [h2] at c2
        generalize overF 1 a b = r at *
        obtain ⟨rs, rn⟩ := r
        clear hz hz' h1 h2 ha hb ht
        have c0 := of_1 w
        unfold OfEnd at c0
        unfold ring1 at *
        have C0 := Lib.hid c0; clear c0
        have C1 := Lib.hid c1; clear c1
        have C2 := Lib.hid c2; clear c2
        have C3 := Lib.hid c3; clear c3
        go_enter Tryz.func18, Tryz.ntmps18
        go_wp2_with fail
        refine C0.out.mono ?_
        rintro e w1 ⟨rfl, hb⟩
        have HB1 := Lib.hid (hb.alloc hb.size (.cells ring1 44)); clear hb
        go_wp2_with fail
        refine (C1.out _ HB1.out).mono ?_
        rintro e w2 ⟨rfl, hb⟩
        have HS2 := Lib.hid (hb)
        have HB2 := Lib.hid (next_below HB1.out hb); clear hb
        obtain ⟨q0, q1, q2, q3, q4, q5, q6, q7⟩ := ring_cells1 HS2.out
        go_wp2_with fail
        refine (C2.out _ HB2.out).mono ?_
        rintro e w3 ⟨rfl, hb⟩
        clear q0 q1 q2 q3 q4 q5 q6 q7
        have HS3 := Lib.hid (next_below HS2.out hb)
        have HB3 := Lib.hid (next_below HB2.out hb); clear hb
        obtain ⟨q0, q1, q2, q3, q4, q5, q6, q7⟩ := ring_cells1 HS3.out
        go_wp2_with fail
        refine (C3.out _ HB3.out).mono ?_
        rintro e w4 ⟨rfl, hb⟩
        have HB4 := Lib.hid (next_below HB3.out hb); clear hb
        go_wp2_with fail
        go_ret2
        exact ⟨rfl, HB4.out⟩
set_option maxHeartbeats 4000000 in
theorem sover_2 (a b : ByteArray) (w : World) (ha : a.size ≤ 100000) (hb : b.size ≤ 100000) (ht : Tab w) : Calls Tryz.prog 18 #[.int .i64 2, .string a, .string b] w (PairEnd (overF 2 a b) w) := by
  have c1 := fun wx (h : Below w.heap.size w wx) => weight2_fn a wx ha (ht.below h (Nat.le_refl _))
  have c2 := fun wx (h : Below w.heap.size w wx) => weight2_fn b wx hb (ht.below h (Nat.le_refl _))
  have c3 := fun wx (h : Below w.heap.size w wx) => qdiv_any a b wx ha hb (ht.below h (Nat.le_refl _))
  by_cases hz : a = ⟨#[48]⟩
  · have az : (a.toList == [48]) = true := by rw [hz, Lib.toList_data]; rfl
    have hz' : a = zeroF 2 := by rw [zeroF_2]; exact hz
    cases h2 : weightF 2 b with
    | false =>
      rw [overF_n2 h2]; rw [h2] at c2; clear c1 c3 hz hz' h2 ha hb ht
      have c0 := of_2 w
      unfold OfEnd at c0
      unfold ring2 at *
      have C0 := Lib.hid c0; clear c0
      have C2 := Lib.hid c2; clear c2
      go_enter Tryz.func18, Tryz.ntmps18
      go_wp2_with fail
      refine C0.out.mono ?_
      rintro e w1 ⟨rfl, hb⟩
      have HB1 := Lib.hid (hb.alloc hb.size (.cells ring2 44)); clear hb
      go_wp2_with fail
      refine (C2.out _ HB1.out).mono ?_
      rintro e w2 ⟨rfl, hb⟩
      have HB2 := Lib.hid (next_below HB1.out hb); clear hb
      go_wp2_with fail
      go_ret2
      exact ⟨rfl, HB2.out⟩
    | true =>
      have hr : overF 2 a b = (a, 0) := by rw [hz']; exact overF_zero (by omega) h2
      rw [hr]; rw [h2] at c2; clear c1 c3 hz hz' h2 ha hb ht hr
      have c0 := of_2 w
      unfold OfEnd at c0
      unfold ring2 at *
      have C0 := Lib.hid c0; clear c0
      have C2 := Lib.hid c2; clear c2
      go_enter Tryz.func18, Tryz.ntmps18
      go_wp2_with fail
      refine C0.out.mono ?_
      rintro e w1 ⟨rfl, hb⟩
      have HB1 := Lib.hid (hb.alloc hb.size (.cells ring2 44)); clear hb
      go_wp2_with fail
      refine (C2.out _ HB1.out).mono ?_
      rintro e w2 ⟨rfl, hb⟩
      have HS2 := Lib.hid (hb)
      have HB2 := Lib.hid (next_below HB1.out hb); clear hb
      obtain ⟨q0, q1, q2, q3, q4, q5, q6, q7⟩ := ring_cells2 HS2.out
      go_wp2_with fail
      go_ret2
      exact ⟨rfl, HB2.out⟩
  · have az : (a.toList == [48]) = false := ne_list (l := [48]) hz
    have hz' : a ≠ zeroF 2 := by rw [zeroF_2]; exact hz
    cases h1 : weightF 2 a with
    | false =>
      rw [overF_n1 (by omega) hz' h1]; rw [h1] at c1; clear c2 c3 hz hz' h1 ha hb ht
      have c0 := of_2 w
      unfold OfEnd at c0
      unfold ring2 at *
      have C0 := Lib.hid c0; clear c0
      have C1 := Lib.hid c1; clear c1
      go_enter Tryz.func18, Tryz.ntmps18
      go_wp2_with fail
      refine C0.out.mono ?_
      rintro e w1 ⟨rfl, hb⟩
      have HB1 := Lib.hid (hb.alloc hb.size (.cells ring2 44)); clear hb
      go_wp2_with fail
      refine (C1.out _ HB1.out).mono ?_
      rintro e w2 ⟨rfl, hb⟩
      have HB2 := Lib.hid (next_below HB1.out hb); clear hb
      go_wp2_with fail
      go_ret2
      exact ⟨rfl, HB2.out⟩
    | true =>
      rw [h1] at c1
      cases h2 : weightF 2 b with
      | false =>
        rw [overF_n2 h2]; rw [h2] at c2; clear c3 hz hz' h1 h2 ha hb ht
        have c0 := of_2 w
        unfold OfEnd at c0
        unfold ring2 at *
        have C0 := Lib.hid c0; clear c0
        have C1 := Lib.hid c1; clear c1
        have C2 := Lib.hid c2; clear c2
        go_enter Tryz.func18, Tryz.ntmps18
        go_wp2_with fail
        refine C0.out.mono ?_
        rintro e w1 ⟨rfl, hb⟩
        have HB1 := Lib.hid (hb.alloc hb.size (.cells ring2 44)); clear hb
        go_wp2_with fail
        refine (C1.out _ HB1.out).mono ?_
        rintro e w2 ⟨rfl, hb⟩
        have HS2 := Lib.hid (hb)
        have HB2 := Lib.hid (next_below HB1.out hb); clear hb
        obtain ⟨q0, q1, q2, q3, q4, q5, q6, q7⟩ := ring_cells2 HS2.out
        go_wp2_with fail
        refine (C2.out _ HB2.out).mono ?_
        rintro e w3 ⟨rfl, hb⟩
        have HB3 := Lib.hid (next_below HB2.out hb); clear hb
        go_wp2_with fail
        go_ret2
        exact ⟨rfl, HB3.out⟩
      | true =>
        rw [← overF_23 (k := 2) (by omega) h1 h2] at c3
        rw [h2] at c2
        generalize overF 2 a b = r at *
        obtain ⟨rs, rn⟩ := r
        clear hz hz' h1 h2 ha hb ht
        have c0 := of_2 w
        unfold OfEnd at c0
        unfold ring2 at *
        have C0 := Lib.hid c0; clear c0
        have C1 := Lib.hid c1; clear c1
        have C2 := Lib.hid c2; clear c2
        have C3 := Lib.hid c3; clear c3
        go_enter Tryz.func18, Tryz.ntmps18
        go_wp2_with fail
        refine C0.out.mono ?_
        rintro e w1 ⟨rfl, hb⟩
        have HB1 := Lib.hid (hb.alloc hb.size (.cells ring2 44)); clear hb
        go_wp2_with fail
        refine (C1.out _ HB1.out).mono ?_
        rintro e w2 ⟨rfl, hb⟩
        have HS2 := Lib.hid (hb)
        have HB2 := Lib.hid (next_below HB1.out hb); clear hb
        obtain ⟨q0, q1, q2, q3, q4, q5, q6, q7⟩ := ring_cells2 HS2.out
        go_wp2_with fail
        refine (C2.out _ HB2.out).mono ?_
        rintro e w3 ⟨rfl, hb⟩
        clear q0 q1 q2 q3 q4 q5 q6 q7
        have HS3 := Lib.hid (next_below HS2.out hb)
        have HB3 := Lib.hid (next_below HB2.out hb); clear hb
        obtain ⟨q0, q1, q2, q3, q4, q5, q6, q7⟩ := ring_cells2 HS3.out
        go_wp2_with fail
        refine (C3.out _ HB3.out).mono ?_
        rintro e w4 ⟨rfl, hb⟩
        have HB4 := Lib.hid (next_below HB3.out hb); clear hb
        go_wp2_with fail
        go_ret2
        exact ⟨rfl, HB4.out⟩
set_option maxHeartbeats 4000000 in
theorem sover_3 (a b : ByteArray) (w : World) (ha : a.size ≤ 100000) (hb : b.size ≤ 100000) (ht : Tab w) : Calls Tryz.prog 18 #[.int .i64 3, .string a, .string b] w (PairEnd (overF 3 a b) w) := by
  have c1 := fun wx (h : Below w.heap.size w wx) => weight3_fn a wx ha (ht.below h (Nat.le_refl _))
  have c2 := fun wx (h : Below w.heap.size w wx) => weight3_fn b wx hb (ht.below h (Nat.le_refl _))
  have c3 := fun wx (h : Below w.heap.size w wx) => qdiv_any a b wx ha hb (ht.below h (Nat.le_refl _))
  by_cases hz : a = ⟨#[48]⟩
  · have az : (a.toList == [48]) = true := by rw [hz, Lib.toList_data]; rfl
    have hz' : a = zeroF 3 := by rw [zeroF_3]; exact hz
    cases h2 : weightF 3 b with
    | false =>
      rw [overF_n2 h2]; rw [h2] at c2; clear c1 c3 hz hz' h2 ha hb ht
      have c0 := of_3 w
      unfold OfEnd at c0
      unfold ring3 at *
      have C0 := Lib.hid c0; clear c0
      have C2 := Lib.hid c2; clear c2
      go_enter Tryz.func18, Tryz.ntmps18
      go_wp2_with fail
      refine C0.out.mono ?_
      rintro e w1 ⟨rfl, hb⟩
      have HB1 := Lib.hid (hb.alloc hb.size (.cells ring3 44)); clear hb
      go_wp2_with fail
      refine (C2.out _ HB1.out).mono ?_
      rintro e w2 ⟨rfl, hb⟩
      have HB2 := Lib.hid (next_below HB1.out hb); clear hb
      go_wp2_with fail
      go_ret2
      exact ⟨rfl, HB2.out⟩
    | true =>
      have hr : overF 3 a b = (a, 0) := by rw [hz']; exact overF_zero (by omega) h2
      rw [hr]; rw [h2] at c2; clear c1 c3 hz hz' h2 ha hb ht hr
      have c0 := of_3 w
      unfold OfEnd at c0
      unfold ring3 at *
      have C0 := Lib.hid c0; clear c0
      have C2 := Lib.hid c2; clear c2
      go_enter Tryz.func18, Tryz.ntmps18
      go_wp2_with fail
      refine C0.out.mono ?_
      rintro e w1 ⟨rfl, hb⟩
      have HB1 := Lib.hid (hb.alloc hb.size (.cells ring3 44)); clear hb
      go_wp2_with fail
      refine (C2.out _ HB1.out).mono ?_
      rintro e w2 ⟨rfl, hb⟩
      have HS2 := Lib.hid (hb)
      have HB2 := Lib.hid (next_below HB1.out hb); clear hb
      obtain ⟨q0, q1, q2, q3, q4, q5, q6, q7⟩ := ring_cells3 HS2.out
      go_wp2_with fail
      go_ret2
      exact ⟨rfl, HB2.out⟩
  · have az : (a.toList == [48]) = false := ne_list (l := [48]) hz
    have hz' : a ≠ zeroF 3 := by rw [zeroF_3]; exact hz
    cases h1 : weightF 3 a with
    | false =>
      rw [overF_n1 (by omega) hz' h1]; rw [h1] at c1; clear c2 c3 hz hz' h1 ha hb ht
      have c0 := of_3 w
      unfold OfEnd at c0
      unfold ring3 at *
      have C0 := Lib.hid c0; clear c0
      have C1 := Lib.hid c1; clear c1
      go_enter Tryz.func18, Tryz.ntmps18
      go_wp2_with fail
      refine C0.out.mono ?_
      rintro e w1 ⟨rfl, hb⟩
      have HB1 := Lib.hid (hb.alloc hb.size (.cells ring3 44)); clear hb
      go_wp2_with fail
      refine (C1.out _ HB1.out).mono ?_
      rintro e w2 ⟨rfl, hb⟩
      have HB2 := Lib.hid (next_below HB1.out hb); clear hb
      go_wp2_with fail
      go_ret2
      exact ⟨rfl, HB2.out⟩
    | true =>
      rw [h1] at c1
      cases h2 : weightF 3 b with
      | false =>
        rw [overF_n2 h2]; rw [h2] at c2; clear c3 hz hz' h1 h2 ha hb ht
        have c0 := of_3 w
        unfold OfEnd at c0
        unfold ring3 at *
        have C0 := Lib.hid c0; clear c0
        have C1 := Lib.hid c1; clear c1
        have C2 := Lib.hid c2; clear c2
        go_enter Tryz.func18, Tryz.ntmps18
        go_wp2_with fail
        refine C0.out.mono ?_
        rintro e w1 ⟨rfl, hb⟩
        have HB1 := Lib.hid (hb.alloc hb.size (.cells ring3 44)); clear hb
        go_wp2_with fail
        refine (C1.out _ HB1.out).mono ?_
        rintro e w2 ⟨rfl, hb⟩
        have HS2 := Lib.hid (hb)
        have HB2 := Lib.hid (next_below HB1.out hb); clear hb
        obtain ⟨q0, q1, q2, q3, q4, q5, q6, q7⟩ := ring_cells3 HS2.out
        go_wp2_with fail
        refine (C2.out _ HB2.out).mono ?_
        rintro e w3 ⟨rfl, hb⟩
        have HB3 := Lib.hid (next_below HB2.out hb); clear hb
        go_wp2_with fail
        go_ret2
        exact ⟨rfl, HB3.out⟩
      | true =>
        rw [← overF_23 (k := 3) (by omega) h1 h2] at c3
        rw [h2] at c2
        generalize overF 3 a b = r at *
        obtain ⟨rs, rn⟩ := r
        clear hz hz' h1 h2 ha hb ht
        have c0 := of_3 w
        unfold OfEnd at c0
        unfold ring3 at *
        have C0 := Lib.hid c0; clear c0
        have C1 := Lib.hid c1; clear c1
        have C2 := Lib.hid c2; clear c2
        have C3 := Lib.hid c3; clear c3
        go_enter Tryz.func18, Tryz.ntmps18
        go_wp2_with fail
        refine C0.out.mono ?_
        rintro e w1 ⟨rfl, hb⟩
        have HB1 := Lib.hid (hb.alloc hb.size (.cells ring3 44)); clear hb
        go_wp2_with fail
        refine (C1.out _ HB1.out).mono ?_
        rintro e w2 ⟨rfl, hb⟩
        have HS2 := Lib.hid (hb)
        have HB2 := Lib.hid (next_below HB1.out hb); clear hb
        obtain ⟨q0, q1, q2, q3, q4, q5, q6, q7⟩ := ring_cells3 HS2.out
        go_wp2_with fail
        refine (C2.out _ HB2.out).mono ?_
        rintro e w3 ⟨rfl, hb⟩
        clear q0 q1 q2 q3 q4 q5 q6 q7
        have HS3 := Lib.hid (next_below HS2.out hb)
        have HB3 := Lib.hid (next_below HB2.out hb); clear hb
        obtain ⟨q0, q1, q2, q3, q4, q5, q6, q7⟩ := ring_cells3 HS3.out
        go_wp2_with fail
        refine (C3.out _ HB3.out).mono ?_
        rintro e w4 ⟨rfl, hb⟩
        have HB4 := Lib.hid (next_below HB3.out hb); clear hb
        go_wp2_with fail
        go_ret2
        exact ⟨rfl, HB4.out⟩
theorem sover_no (k : Int) (a b : ByteArray) (w : World) (hk : k < 1 ∨ 3 < k) : Calls Tryz.prog 18 #[.int .i64 k, .string a, .string b] w (PairEnd (overF k a b) w) := by
  rw [overF_no hk]
  have c0 := of_no k w hk
  unfold OfEnd at c0
  unfold ring0 at *
  have C0 := Lib.hid c0; clear c0
  go_enter Tryz.func18, Tryz.ntmps18
  go_wp2_with fail
  refine C0.out.mono ?_
  rintro e w1 ⟨rfl, hb⟩
  have HB1 := Lib.hid (hb.alloc hb.size (.cells ring0 44)); clear hb
  go_wp2_with fail
  go_ret2
  exact ⟨rfl, HB1.out⟩
theorem semiover_any (k : Int) (a b : ByteArray) (w : World) (ha : a.size ≤ 100000) (hb : b.size ≤ 100000) (ht : Tab w) : Calls Tryz.prog 18 #[.int .i64 k, .string a, .string b] w (PairEnd (overF k a b) w) := by
  rcases kind_cases k with rfl | rfl | rfl | hk
  · exact sover_1 a b w ha hb ht
  · exact sover_2 a b w ha hb ht
  · exact sover_3 a b w ha hb ht
  · exact sover_no k a b w hk
end Go.Proofs.YtlcbdaconghcmaaGreatDoor
