/- The walk of abugidaref04.compare. The walks of abugidaref04: Kind, Valid, Weight, Zero, One, Better, Plus. The walks of abugidaref04: Times, Star, Over. -/
import Derived.Test.YtlmfppjphblemaaGreatDoorMS1
import Derived.Test.YtlmfppjphblemaaGreatDoorMR3
import Derived.Test.YtlmfppjphblemaaGreatDoorSemG
import Derived.Test.YtlmfppjphblemaaGreatDoorSemH
namespace Go.Proofs.YtlmfppjphblemaaGreatDoor
open Go Go.RowKit
set_option maxRecDepth 100000

set_option maxHeartbeats 4000000 in
theorem rcompare4_any (v u : V) (w : World) (hv : fitV v) (hu : fitV u) : Calls Tryz.prog 107 #[.string (vtxt v), .string (vtxt u)] w (IntEnd (cmpV v u) w) := by
  have run : ∀ (a b : ByteArray) (z : Int) (h0 : z = 0 ∧ a = b ∨ a ≠ b) (c : a ≠ b → a ≠ infS → a ≠ lowS → b ≠ infS → b ≠ lowS → Calls Tryz.prog 66 #[.string a, .string b] w (IntEnd z w))
      (hz : a ≠ b → ((a = lowS ∨ b = infS) ∧ z = -1) ∨ (a ≠ lowS ∧ b ≠ infS ∧ (b = lowS ∨ a = infS) ∧ z = 1) ∨ (a ≠ lowS ∧ b ≠ infS ∧ b ≠ lowS ∧ a ≠ infS)),
      Calls Tryz.prog 107 #[.string a, .string b] w (IntEnd z w) := by
    intro a b z h0 c hz
    rcases h0 with ⟨rfl, rfl⟩ | h0
    · clear c hz
      go_enter Tryz.func107, Tryz.ntmps107
      go_wp2
      go_ret
      exact ⟨rfl, Below.refl _ _⟩
    · have hne : (a.toList == b.toList) = false := by rw [beq_eq_false_iff_ne]; exact ne_toList h0
      have al : ∀ s : ByteArray, s ≠ lowS → (s.toList == [45, 105, 110, 102]) = false := fun s h => ne_list (l := [45, 105, 110, 102]) h
      have ai : ∀ s : ByteArray, s ≠ infS → (s.toList == [105, 110, 102]) = false := fun s h => ne_list (l := [105, 110, 102]) h
      have AL := Lib.hid al; clear al
      have AI := Lib.hid ai; clear ai
      rcases hz h0 with ⟨h1, rfl⟩ | ⟨h1, h2, h3, rfl⟩ | ⟨h1, h2, h3, h4⟩
      · clear c hz
        by_cases h1' : a = lowS
        · have e1 : (a.toList == [45, 105, 110, 102]) = true := by rw [h1', lowS_list]; rfl
          clear h0 h1 h1'
          go_enter Tryz.func107, Tryz.ntmps107
          go_wp2
          go_ret
          exact ⟨rfl, Below.refl _ _⟩
        · have e1 := AL.out a h1'
          have e2 : (b.toList == [105, 110, 102]) = true := by rw [h1.resolve_left h1', infS_list]; rfl
          clear h0 h1 h1'
          go_enter Tryz.func107, Tryz.ntmps107
          go_wp2
          go_ret
          exact ⟨rfl, Below.refl _ _⟩
      · clear c hz
        have e1 := AL.out a h1
        have e2 := AI.out b h2
        by_cases h3' : b = lowS
        · have e3 : (b.toList == [45, 105, 110, 102]) = true := by rw [h3', lowS_list]; rfl
          cases e4 : (a.toList == [105, 110, 102])
          all_goals
            clear h0 h1 h2 h3 h3'
            go_enter Tryz.func107, Tryz.ntmps107
            go_wp2
            go_ret
            exact ⟨rfl, Below.refl _ _⟩
        · have e3 := AL.out b h3'
          have e4 : (a.toList == [105, 110, 102]) = true := by rw [h3.resolve_left h3', infS_list]; rfl
          clear h0 h1 h2 h3 h3'
          go_enter Tryz.func107, Tryz.ntmps107
          go_wp2
          go_ret
          exact ⟨rfl, Below.refl _ _⟩
      · have e1 := AL.out a h1
        have e2 := AI.out b h2
        have e3 := AL.out b h3
        have e4 := AI.out a h4
        have C := Lib.hid (c h0 h4 h1 h2 h3); clear c hz h0 h1 h2 h3 h4
        go_enter Tryz.func107, Tryz.ntmps107
        go_wp2_with fail
        refine C.out.mono ?_
        rintro e w1 ⟨rfl, hb⟩
        have HB := Lib.hid hb; clear hb
        go_wp2
        go_ret
        exact ⟨rfl, HB.out⟩
  refine run _ _ _ ?_ ?_ ?_
  · by_cases h : v = u
    · subst h; exact .inl ⟨(cmpV_zero v v).2 rfl, rfl⟩
    · exact .inr (fun e => h (vtxt_inj hv hu e))
  · intro _ h1 h2 h3 h4
    cases v with
    | inf => exact absurd rfl h1
    | low => exact absurd rfl h2
    | fin x =>
      cases u with
      | inf => exact absurd rfl h3
      | low => exact absurd rfl h4
      | fin y =>
        have hc := scmp_any (txt x) (txt y) w (by have := txt_size hv; omega) (by have := txt_size hu; omega)
        rw [qcmpF_txt hv hu] at hc; exact hc
  · intro h
    have il : infS ≠ lowS := by decide
    have fi : ∀ q : Rat, fitQ q → txt q ≠ infS := fun q hq e => by have := txt_ne_inf hq; rw [e, infS_list] at this; simp at this
    have fl : ∀ q : Rat, fitQ q → txt q ≠ lowS := fun q hq e => by have := txt_ne_low hq; rw [e, lowS_list] at this; simp at this
    cases v with
    | inf =>
      cases u with
      | inf => exact absurd rfl h
      | low => exact .inr (.inl ⟨il, Ne.symm il, .inl rfl, rfl⟩)
      | fin y => exact .inr (.inl ⟨il, fi y hu, .inr rfl, rfl⟩)
    | low =>
      cases u with
      | inf => exact .inl ⟨.inl rfl, rfl⟩
      | low => exact absurd rfl h
      | fin y => exact .inl ⟨.inl rfl, rfl⟩
    | fin x =>
      cases u with
      | inf => exact .inl ⟨.inr rfl, rfl⟩
      | low => exact .inr (.inl ⟨fl x hv, Ne.symm il, .inl rfl, rfl⟩)
      | fin y => exact .inr (.inr ⟨fl x hv, fi y hu, fl y hu, fi x hv⟩)
end Go.Proofs.YtlmfppjphblemaaGreatDoor

namespace Go.Proofs.YtlmfppjphblemaaGreatDoor
open Go Go.RowKit
set_option maxRecDepth 100000

theorem kind1 : kindB 1 = true := rfl
theorem kind2 : kindB 2 = true := rfl
theorem kind3 : kindB 3 = true := rfl
theorem rkind_any (k : Int) (w : World) : Calls Tryz.prog 41 #[.int .i64 k] w fun e w' => e = .returned (.bool (kindB k)) ∧ w = w' := by
  rcases kind_cases k with rfl | rfl | rfl | hk
  · rw [kind1]
    go_enter Tryz.func41, Tryz.ntmps41
    go_wp2_with fail
    go_ret
    exact ⟨rfl, rfl⟩
  · rw [kind2]
    go_enter Tryz.func41, Tryz.ntmps41
    go_wp2_with fail
    go_ret
    exact ⟨rfl, rfl⟩
  · rw [kind3]
    go_enter Tryz.func41, Tryz.ntmps41
    go_wp2_with fail
    go_ret
    exact ⟨rfl, rfl⟩
  · rw [kind_no hk]
    rcases hk with hk | hk
    · have h1 : decide (1 ≤ k) = false := by rw [decide_eq_false_iff_not]; omega
      clear hk
      go_enter Tryz.func41, Tryz.ntmps41
      go_wp2_with fail
      go_ret
      exact ⟨rfl, rfl⟩
    · have h1 : decide (1 ≤ k) = true := by rw [decide_eq_true_eq]; omega
      have h2 : decide (k ≤ 3) = false := by rw [decide_eq_false_iff_not]; omega
      have h3 : (1 : Int) ≤ k := by omega
      clear hk
      go_enter Tryz.func41, Tryz.ntmps41
      go_wp2_with fail
      go_ret
      exact ⟨rfl, rfl⟩
set_option maxHeartbeats 2000000 in
theorem r4valid_1 (a : ByteArray) (w : World) (ha : a.size ≤ 9223372036854775807) : Calls Tryz.prog 42 #[.int .i64 1, .string a] w (BoolE (validF 1 a) w) := by
  by_cases h1 : a = infS
  · have e1 : (a.toList == [105, 110, 102]) = true := by rw [h1, infS_list]; rfl
    have hr : validF 1 a = true := by rw [h1]; exact validF_inf (by omega)
    rw [hr]; clear hr h1 ha
    go_enter Tryz.func42, Tryz.ntmps42
    go_wp2_with fail
    refine (rkind_any _ _).mono ?_
    rintro e wk ⟨rfl, rfl⟩
    rw [kind1]
    go_wp2_with fail
    go_ret
    exact ⟨rfl, Below.refl _ _⟩
  · have e1 : (a.toList == [105, 110, 102]) = false := ne_list (l := [105, 110, 102]) h1
    by_cases h2 : a = lowS
    · have e2 : (a.toList == [45, 105, 110, 102]) = true := by rw [h2, lowS_list]; rfl
      have hr : validF 1 a = true := by rw [h2]; exact validF_low1
      rw [hr]; clear hr h1 h2 ha
      go_enter Tryz.func42, Tryz.ntmps42
      go_wp2_with fail
      refine (rkind_any _ _).mono ?_
      rintro e wk ⟨rfl, rfl⟩
      rw [kind1]
      go_wp2_with fail
      go_ret
      exact ⟨rfl, Below.refl _ _⟩
    · have e2 : (a.toList == [45, 105, 110, 102]) = false := ne_list (l := [45, 105, 110, 102]) h2
      have c1 := fun wx => svalid_any a wx ha
      rw [validF_1 h1 h2]
      generalize (prs a).isSome = o at *
      clear h1 h2
      have C1 := Lib.hid c1; clear c1 ha
      cases o
      all_goals
        go_enter Tryz.func42, Tryz.ntmps42
        go_wp2_with fail
        refine (rkind_any _ _).mono ?_
        rintro e wk ⟨rfl, rfl⟩
        rw [kind1]
        go_wp2_with fail
        have hq1 := C1.out w
        refine hq1.mono ?_
        clear hq1
        rintro e w1 ⟨rfl, hb⟩
        have HB1 := Lib.hid (hb); clear hb
        go_wp2_with fail
        go_ret
        exact ⟨rfl, HB1.out⟩
set_option maxHeartbeats 2000000 in
theorem r4valid_2 (a : ByteArray) (w : World) (ha : a.size ≤ 9223372036854775807) : Calls Tryz.prog 42 #[.int .i64 2, .string a] w (BoolE (validF 2 a) w) := by
  by_cases h1 : a = infS
  · have e1 : (a.toList == [105, 110, 102]) = true := by rw [h1, infS_list]; rfl
    have hr : validF 2 a = true := by rw [h1]; exact validF_inf (by omega)
    rw [hr]; clear hr h1 ha
    go_enter Tryz.func42, Tryz.ntmps42
    go_wp2_with fail
    refine (rkind_any _ _).mono ?_
    rintro e wk ⟨rfl, rfl⟩
    rw [kind2]
    go_wp2_with fail
    go_ret
    exact ⟨rfl, Below.refl _ _⟩
  · have e1 : (a.toList == [105, 110, 102]) = false := ne_list (l := [105, 110, 102]) h1
    by_cases h2 : a = lowS
    · have e2 : (a.toList == [45, 105, 110, 102]) = true := by rw [h2, lowS_list]; rfl
      have hr : validF 2 a = false := by rw [h2]; decide +kernel
      rw [hr]; clear hr h1 h2 ha
      go_enter Tryz.func42, Tryz.ntmps42
      go_wp2_with fail
      refine (rkind_any _ _).mono ?_
      rintro e wk ⟨rfl, rfl⟩
      rw [kind2]
      go_wp2_with fail
      go_ret
      exact ⟨rfl, Below.refl _ _⟩
    · have e2 : (a.toList == [45, 105, 110, 102]) = false := ne_list (l := [45, 105, 110, 102]) h2
      have c1 := fun wx => svalid_any a wx ha
      rw [validF_23 (by omega) h1]
      clear h1 h2
      cases hp : prs a with
      | none =>
        have hr : natB a = false := by unfold natB; rw [hp]
        rw [hr]; rw [hp] at c1; simp only [Option.isSome] at c1
        have C1 := Lib.hid c1; clear c1 ha hp hr
        go_enter Tryz.func42, Tryz.ntmps42
        go_wp2_with fail
        refine (rkind_any _ _).mono ?_
        rintro e wk ⟨rfl, rfl⟩
        rw [kind2]
        go_wp2_with fail
        have hq1 := C1.out w
        refine hq1.mono ?_
        clear hq1
        rintro e w1 ⟨rfl, hb⟩
        have HB1 := Lib.hid (hb); clear hb
        go_wp2_with fail
        go_ret
        exact ⟨rfl, HB1.out⟩
      | some q =>
        have hr : natB a = decide (0 ≤ q) := by unfold natB; rw [hp]
        have c2 := fun wx => scmp_any a ⟨#[48]⟩ wx ha (by decide)
        rw [qcmpF_zero hp] at c2
        rw [hr]; rw [hp] at c1; simp only [Option.isSome] at c1
        have hd : (decide (0 ≤ q) = decide (0 ≤ cmpQ q 0)) := by
          rcases cmpQ_cases q 0 with ⟨h, e⟩ | ⟨h, e⟩ | ⟨h, e⟩ <;> rw [e]
          · rw [decide_eq_decide]; simp; exact Rat.not_le.2 h
          · subst h; rfl
          · rw [decide_eq_decide]; simp; exact Rat.le_of_lt h
        rw [hd]
        have hz : cmpQ q 0 = -1 ∨ cmpQ q 0 = 0 ∨ cmpQ q 0 = 1 := by rcases cmpQ_cases q 0 with ⟨h, e⟩ | ⟨h, e⟩ | ⟨h, e⟩ <;> simp [e]
        generalize cmpQ q 0 = z at *
        have C1 := Lib.hid c1; clear c1
        have C2 := Lib.hid c2; clear c2 ha hp hr hd
        rcases hz with rfl | rfl | rfl
        all_goals
          go_enter Tryz.func42, Tryz.ntmps42
          go_wp2_with fail
          refine (rkind_any _ _).mono ?_
          rintro e wk ⟨rfl, rfl⟩
          rw [kind2]
          go_wp2_with fail
          have hq1 := C1.out w
          refine hq1.mono ?_
          clear hq1
          rintro e w1 ⟨rfl, hb⟩
          have HB1 := Lib.hid (hb); clear hb
          go_wp2_with fail
          have hq2 := C2.out w1
          refine hq2.mono ?_
          clear hq2
          rintro e w2 ⟨rfl, hb⟩
          have HB2 := Lib.hid (next_below HB1.out hb); clear hb
          go_wp2_with fail
          go_ret
          exact ⟨rfl, HB2.out⟩
set_option maxHeartbeats 2000000 in
theorem r4valid_3 (a : ByteArray) (w : World) (ha : a.size ≤ 9223372036854775807) : Calls Tryz.prog 42 #[.int .i64 3, .string a] w (BoolE (validF 3 a) w) := by
  by_cases h1 : a = infS
  · have e1 : (a.toList == [105, 110, 102]) = true := by rw [h1, infS_list]; rfl
    have hr : validF 3 a = true := by rw [h1]; exact validF_inf (by omega)
    rw [hr]; clear hr h1 ha
    go_enter Tryz.func42, Tryz.ntmps42
    go_wp2_with fail
    refine (rkind_any _ _).mono ?_
    rintro e wk ⟨rfl, rfl⟩
    rw [kind3]
    go_wp2_with fail
    go_ret
    exact ⟨rfl, Below.refl _ _⟩
  · have e1 : (a.toList == [105, 110, 102]) = false := ne_list (l := [105, 110, 102]) h1
    by_cases h2 : a = lowS
    · have e2 : (a.toList == [45, 105, 110, 102]) = true := by rw [h2, lowS_list]; rfl
      have hr : validF 3 a = false := by rw [h2]; decide +kernel
      rw [hr]; clear hr h1 h2 ha
      go_enter Tryz.func42, Tryz.ntmps42
      go_wp2_with fail
      refine (rkind_any _ _).mono ?_
      rintro e wk ⟨rfl, rfl⟩
      rw [kind3]
      go_wp2_with fail
      go_ret
      exact ⟨rfl, Below.refl _ _⟩
    · have e2 : (a.toList == [45, 105, 110, 102]) = false := ne_list (l := [45, 105, 110, 102]) h2
      have c1 := fun wx => svalid_any a wx ha
      rw [validF_23 (by omega) h1]
      clear h1 h2
      cases hp : prs a with
      | none =>
        have hr : natB a = false := by unfold natB; rw [hp]
        rw [hr]; rw [hp] at c1; simp only [Option.isSome] at c1
        have C1 := Lib.hid c1; clear c1 ha hp hr
        go_enter Tryz.func42, Tryz.ntmps42
        go_wp2_with fail
        refine (rkind_any _ _).mono ?_
        rintro e wk ⟨rfl, rfl⟩
        rw [kind3]
        go_wp2_with fail
        have hq1 := C1.out w
        refine hq1.mono ?_
        clear hq1
        rintro e w1 ⟨rfl, hb⟩
        have HB1 := Lib.hid (hb); clear hb
        go_wp2_with fail
        go_ret
        exact ⟨rfl, HB1.out⟩
      | some q =>
        have hr : natB a = decide (0 ≤ q) := by unfold natB; rw [hp]
        have c2 := fun wx => scmp_any a ⟨#[48]⟩ wx ha (by decide)
        rw [qcmpF_zero hp] at c2
        rw [hr]; rw [hp] at c1; simp only [Option.isSome] at c1
        have hd : (decide (0 ≤ q) = decide (0 ≤ cmpQ q 0)) := by
          rcases cmpQ_cases q 0 with ⟨h, e⟩ | ⟨h, e⟩ | ⟨h, e⟩ <;> rw [e]
          · rw [decide_eq_decide]; simp; exact Rat.not_le.2 h
          · subst h; rfl
          · rw [decide_eq_decide]; simp; exact Rat.le_of_lt h
        rw [hd]
        have hz : cmpQ q 0 = -1 ∨ cmpQ q 0 = 0 ∨ cmpQ q 0 = 1 := by rcases cmpQ_cases q 0 with ⟨h, e⟩ | ⟨h, e⟩ | ⟨h, e⟩ <;> simp [e]
        generalize cmpQ q 0 = z at *
        have C1 := Lib.hid c1; clear c1
        have C2 := Lib.hid c2; clear c2 ha hp hr hd
        rcases hz with rfl | rfl | rfl
        all_goals
          go_enter Tryz.func42, Tryz.ntmps42
          go_wp2_with fail
          refine (rkind_any _ _).mono ?_
          rintro e wk ⟨rfl, rfl⟩
          rw [kind3]
          go_wp2_with fail
          have hq1 := C1.out w
          refine hq1.mono ?_
          clear hq1
          rintro e w1 ⟨rfl, hb⟩
          have HB1 := Lib.hid (hb); clear hb
          go_wp2_with fail
          have hq2 := C2.out w1
          refine hq2.mono ?_
          clear hq2
          rintro e w2 ⟨rfl, hb⟩
          have HB2 := Lib.hid (next_below HB1.out hb); clear hb
          go_wp2_with fail
          go_ret
          exact ⟨rfl, HB2.out⟩
theorem r4valid_no (k : Int) (a : ByteArray) (w : World) (hk : k < 1 ∨ 3 < k) : Calls Tryz.prog 42 #[.int .i64 k, .string a] w (BoolE (validF k a) w) := by
  rw [validF_no hk]
  have HK := Lib.hid (kind_no hk); clear hk
  go_enter Tryz.func42, Tryz.ntmps42
  go_wp2_with fail
  refine (rkind_any _ _).mono ?_
  rintro e wk ⟨rfl, rfl⟩
  rw [HK.out]
  go_wp2_with fail
  go_ret
  exact ⟨rfl, Below.refl _ _⟩
theorem r4valid_any (k : Int) (a : ByteArray) (w : World) (ha : a.size ≤ 9223372036854775807) : Calls Tryz.prog 42 #[.int .i64 k, .string a] w (BoolE (validF k a) w) := by
  rcases kind_cases k with rfl | rfl | rfl | hk
  · exact r4valid_1 a w ha
  · exact r4valid_2 a w ha
  · exact r4valid_3 a w ha
  · exact r4valid_no k a w hk
theorem weight_valid (k : Int) (a : ByteArray) : weightF k a = (validF k a && !(a.toList == [105, 110, 102]) && !(a.toList == [45, 105, 110, 102]) && (k == 1 || !(a.toList == [48]))) := by
  cases hr : rdV a with
  | none =>
    have h1 : validF k a = false := by unfold validF vprs; rw [hr]; rfl
    have h2 : weightF k a = false := by unfold weightF; rw [hr]
    rw [h1, h2]; rfl
  | some v =>
    obtain ⟨ea, fa⟩ := rdV_some hr
    have h1 : validF k a = decide (okV k v) := by
      unfold validF vprs; rw [hr]
      cases h : decide (okV k v) <;> simp [Option.filter, h]
    have h2 : weightF k a = decide (wtV k v) := by unfold weightF; rw [hr]
    rw [h1, h2, ea, v_inf fa, v_low fa, v_zero fa]
    rw [Bool.eq_iff_iff]
    simp only [Bool.and_eq_true, Bool.or_eq_true, Bool.not_eq_true', decide_eq_true_eq, decide_eq_false_iff_not, beq_iff_eq]
    cases v with
    | inf => simp [wtV]
    | low => simp [wtV]
    | fin q =>
      simp only [wtV, okV, V.fin.injEq]
      constructor
      · intro h
        rcases h with h | ⟨h, hp⟩
        · exact ⟨⟨⟨.inl h, by simp⟩, by simp⟩, .inl h⟩
        · exact ⟨⟨⟨.inr ⟨h, Rat.le_of_lt hp⟩, by simp⟩, by simp⟩, .inr (Rat.ne_of_gt hp)⟩
      · rintro ⟨⟨⟨h, _⟩, _⟩, h'⟩
        by_cases hk : k = 1
        · exact .inl hk
        · right
          rcases h with h | ⟨h, hp⟩
          · exact absurd h hk
          · refine ⟨h, Rat.lt_of_le_of_ne hp (Ne.symm (h'.resolve_left hk))⟩
set_option maxHeartbeats 2000000 in
theorem r4weight_1 (a : ByteArray) (w : World) (ha : a.size ≤ 9223372036854775807) : Calls Tryz.prog 51 #[.int .i64 1, .string a] w (BoolE (weightF 1 a) w) := by
  have c1 := fun wx => r4valid_any 1 a wx ha
  rw [weight_valid]
  generalize validF 1 a = o at *
  have C1 := Lib.hid c1; clear c1 ha
  cases o
  · simp only [Bool.false_and]
    go_enter Tryz.func51, Tryz.ntmps51
    go_wp2_with fail
    have hq1 := C1.out w
    refine hq1.mono ?_
    clear hq1
    rintro e w1 ⟨rfl, hb⟩
    have HB1 := Lib.hid (hb); clear hb
    go_wp2_with fail
    go_ret
    exact ⟨rfl, HB1.out⟩
  · cases e1 : (a.toList == [105, 110, 102])
    · cases e2 : (a.toList == [45, 105, 110, 102])
      · simp only [show ((1 : Int) == 1) = true from rfl, Bool.not_false, Bool.true_and, Bool.true_or]
        go_enter Tryz.func51, Tryz.ntmps51
        go_wp2_with fail
        have hq1 := C1.out w
        refine hq1.mono ?_
        clear hq1
        rintro e w1 ⟨rfl, hb⟩
        have HB1 := Lib.hid (hb); clear hb
        go_wp2_with fail
        go_ret
        exact ⟨rfl, HB1.out⟩
      · simp only [Bool.not_true, Bool.and_false, Bool.false_and]
        go_enter Tryz.func51, Tryz.ntmps51
        go_wp2_with fail
        have hq1 := C1.out w
        refine hq1.mono ?_
        clear hq1
        rintro e w1 ⟨rfl, hb⟩
        have HB1 := Lib.hid (hb); clear hb
        go_wp2_with fail
        go_ret
        exact ⟨rfl, HB1.out⟩
    · simp only [Bool.not_true, Bool.and_false, Bool.false_and]
      go_enter Tryz.func51, Tryz.ntmps51
      go_wp2_with fail
      have hq1 := C1.out w
      refine hq1.mono ?_
      clear hq1
      rintro e w1 ⟨rfl, hb⟩
      have HB1 := Lib.hid (hb); clear hb
      go_wp2_with fail
      go_ret
      exact ⟨rfl, HB1.out⟩
set_option maxHeartbeats 2000000 in
theorem r4weight_2 (a : ByteArray) (w : World) (ha : a.size ≤ 9223372036854775807) : Calls Tryz.prog 51 #[.int .i64 2, .string a] w (BoolE (weightF 2 a) w) := by
  have c1 := fun wx => r4valid_any 2 a wx ha
  rw [weight_valid]
  generalize validF 2 a = o at *
  have C1 := Lib.hid c1; clear c1 ha
  cases o
  · simp only [Bool.false_and]
    go_enter Tryz.func51, Tryz.ntmps51
    go_wp2_with fail
    have hq1 := C1.out w
    refine hq1.mono ?_
    clear hq1
    rintro e w1 ⟨rfl, hb⟩
    have HB1 := Lib.hid (hb); clear hb
    go_wp2_with fail
    go_ret
    exact ⟨rfl, HB1.out⟩
  · cases e1 : (a.toList == [105, 110, 102])
    · cases e2 : (a.toList == [45, 105, 110, 102])
      · simp only [show ((2 : Int) == 1) = false from rfl, Bool.not_false, Bool.true_and, Bool.false_or]
        cases e3 : (a.toList == [48])
        all_goals
          go_enter Tryz.func51, Tryz.ntmps51
          go_wp2_with fail
          have hq1 := C1.out w
          refine hq1.mono ?_
          clear hq1
          rintro e w1 ⟨rfl, hb⟩
          have HB1 := Lib.hid (hb); clear hb
          go_wp2_with fail
          go_ret
          exact ⟨rfl, HB1.out⟩
      · simp only [Bool.not_true, Bool.and_false, Bool.false_and]
        go_enter Tryz.func51, Tryz.ntmps51
        go_wp2_with fail
        have hq1 := C1.out w
        refine hq1.mono ?_
        clear hq1
        rintro e w1 ⟨rfl, hb⟩
        have HB1 := Lib.hid (hb); clear hb
        go_wp2_with fail
        go_ret
        exact ⟨rfl, HB1.out⟩
    · simp only [Bool.not_true, Bool.and_false, Bool.false_and]
      go_enter Tryz.func51, Tryz.ntmps51
      go_wp2_with fail
      have hq1 := C1.out w
      refine hq1.mono ?_
      clear hq1
      rintro e w1 ⟨rfl, hb⟩
      have HB1 := Lib.hid (hb); clear hb
      go_wp2_with fail
      go_ret
      exact ⟨rfl, HB1.out⟩
set_option maxHeartbeats 2000000 in
theorem r4weight_3 (a : ByteArray) (w : World) (ha : a.size ≤ 9223372036854775807) : Calls Tryz.prog 51 #[.int .i64 3, .string a] w (BoolE (weightF 3 a) w) := by
  have c1 := fun wx => r4valid_any 3 a wx ha
  rw [weight_valid]
  generalize validF 3 a = o at *
  have C1 := Lib.hid c1; clear c1 ha
  cases o
  · simp only [Bool.false_and]
    go_enter Tryz.func51, Tryz.ntmps51
    go_wp2_with fail
    have hq1 := C1.out w
    refine hq1.mono ?_
    clear hq1
    rintro e w1 ⟨rfl, hb⟩
    have HB1 := Lib.hid (hb); clear hb
    go_wp2_with fail
    go_ret
    exact ⟨rfl, HB1.out⟩
  · cases e1 : (a.toList == [105, 110, 102])
    · cases e2 : (a.toList == [45, 105, 110, 102])
      · simp only [show ((3 : Int) == 1) = false from rfl, Bool.not_false, Bool.true_and, Bool.false_or]
        cases e3 : (a.toList == [48])
        all_goals
          go_enter Tryz.func51, Tryz.ntmps51
          go_wp2_with fail
          have hq1 := C1.out w
          refine hq1.mono ?_
          clear hq1
          rintro e w1 ⟨rfl, hb⟩
          have HB1 := Lib.hid (hb); clear hb
          go_wp2_with fail
          go_ret
          exact ⟨rfl, HB1.out⟩
      · simp only [Bool.not_true, Bool.and_false, Bool.false_and]
        go_enter Tryz.func51, Tryz.ntmps51
        go_wp2_with fail
        have hq1 := C1.out w
        refine hq1.mono ?_
        clear hq1
        rintro e w1 ⟨rfl, hb⟩
        have HB1 := Lib.hid (hb); clear hb
        go_wp2_with fail
        go_ret
        exact ⟨rfl, HB1.out⟩
    · simp only [Bool.not_true, Bool.and_false, Bool.false_and]
      go_enter Tryz.func51, Tryz.ntmps51
      go_wp2_with fail
      have hq1 := C1.out w
      refine hq1.mono ?_
      clear hq1
      rintro e w1 ⟨rfl, hb⟩
      have HB1 := Lib.hid (hb); clear hb
      go_wp2_with fail
      go_ret
      exact ⟨rfl, HB1.out⟩
set_option maxHeartbeats 2000000 in
theorem r4weight_no (k : Int) (a : ByteArray) (w : World) (ha : a.size ≤ 9223372036854775807) (hk : k < 1 ∨ 3 < k) : Calls Tryz.prog 51 #[.int .i64 k, .string a] w (BoolE (weightF k a) w) := by
  have c1 := fun wx => r4valid_any k a wx ha
  rw [weightF_no hk]; rw [validF_no hk] at c1
  have C1 := Lib.hid c1; clear c1 ha hk
  go_enter Tryz.func51, Tryz.ntmps51
  go_wp2_with fail
  have hq1 := C1.out w
  refine hq1.mono ?_
  clear hq1
  rintro e w1 ⟨rfl, hb⟩
  have HB1 := Lib.hid (hb); clear hb
  go_wp2_with fail
  go_ret
  exact ⟨rfl, HB1.out⟩
theorem r4weight_any (k : Int) (a : ByteArray) (w : World) (ha : a.size ≤ 9223372036854775807) : Calls Tryz.prog 51 #[.int .i64 k, .string a] w (BoolE (weightF k a) w) := by
  rcases kind_cases k with rfl | rfl | rfl | hk
  · exact r4weight_1 a w ha
  · exact r4weight_2 a w ha
  · exact r4weight_3 a w ha
  · exact r4weight_no k a w ha hk
theorem r4zero_1 (w : World) : Calls Tryz.prog 43 #[.int .i64 1] w (StrE (zeroF 1) w) := by
  rw [zeroF_1]
  go_enter Tryz.func43, Tryz.ntmps43
  go_wp2_with fail
  refine (rkind_any _ _).mono ?_
  rintro e wk ⟨rfl, rfl⟩
  rw [kind1]
  go_wp2_with fail
  go_ret
  exact ⟨rfl, Below.refl _ _⟩
theorem r4zero_2 (w : World) : Calls Tryz.prog 43 #[.int .i64 2] w (StrE (zeroF 2) w) := by
  rw [zeroF_2]
  go_enter Tryz.func43, Tryz.ntmps43
  go_wp2_with fail
  refine (rkind_any _ _).mono ?_
  rintro e wk ⟨rfl, rfl⟩
  rw [kind2]
  go_wp2_with fail
  go_ret
  exact ⟨rfl, Below.refl _ _⟩
theorem r4zero_3 (w : World) : Calls Tryz.prog 43 #[.int .i64 3] w (StrE (zeroF 3) w) := by
  rw [zeroF_3]
  go_enter Tryz.func43, Tryz.ntmps43
  go_wp2_with fail
  refine (rkind_any _ _).mono ?_
  rintro e wk ⟨rfl, rfl⟩
  rw [kind3]
  go_wp2_with fail
  go_ret
  exact ⟨rfl, Below.refl _ _⟩
theorem r4zero_no (k : Int) (w : World) (hk : k < 1 ∨ 3 < k) : Calls Tryz.prog 43 #[.int .i64 k] w (StrE (zeroF k) w) := by
  rw [zeroF_no hk]
  have HK := Lib.hid (kind_no hk); clear hk
  go_enter Tryz.func43, Tryz.ntmps43
  go_wp2_with fail
  refine (rkind_any _ _).mono ?_
  rintro e wk ⟨rfl, rfl⟩
  rw [HK.out]
  go_wp2_with fail
  go_ret
  exact ⟨rfl, Below.refl _ _⟩
theorem r4zero_any (k : Int) (w : World) : Calls Tryz.prog 43 #[.int .i64 k] w (StrE (zeroF k) w) := by
  rcases kind_cases k with rfl | rfl | rfl | hk
  · exact r4zero_1 w
  · exact r4zero_2 w
  · exact r4zero_3 w
  · exact r4zero_no k w hk
theorem r4one_1 (w : World) : Calls Tryz.prog 69 #[.int .i64 1] w (StrE (oneF 1) w) := by
  rw [oneF_1]
  go_enter Tryz.func69, Tryz.ntmps69
  go_wp2_with fail
  refine (rkind_any _ _).mono ?_
  rintro e wk ⟨rfl, rfl⟩
  rw [kind1]
  go_wp2_with fail
  go_ret
  exact ⟨rfl, Below.refl _ _⟩
theorem r4one_2 (w : World) : Calls Tryz.prog 69 #[.int .i64 2] w (StrE (oneF 2) w) := by
  rw [oneF_2]
  go_enter Tryz.func69, Tryz.ntmps69
  go_wp2_with fail
  refine (rkind_any _ _).mono ?_
  rintro e wk ⟨rfl, rfl⟩
  rw [kind2]
  go_wp2_with fail
  go_ret
  exact ⟨rfl, Below.refl _ _⟩
theorem r4one_3 (w : World) : Calls Tryz.prog 69 #[.int .i64 3] w (StrE (oneF 3) w) := by
  rw [oneF_3]
  go_enter Tryz.func69, Tryz.ntmps69
  go_wp2_with fail
  refine (rkind_any _ _).mono ?_
  rintro e wk ⟨rfl, rfl⟩
  rw [kind3]
  go_wp2_with fail
  go_ret
  exact ⟨rfl, Below.refl _ _⟩
theorem r4one_no (k : Int) (w : World) (hk : k < 1 ∨ 3 < k) : Calls Tryz.prog 69 #[.int .i64 k] w (StrE (oneF k) w) := by
  rw [oneF_no hk]
  have HK := Lib.hid (kind_no hk); clear hk
  go_enter Tryz.func69, Tryz.ntmps69
  go_wp2_with fail
  refine (rkind_any _ _).mono ?_
  rintro e wk ⟨rfl, rfl⟩
  rw [HK.out]
  go_wp2_with fail
  go_ret
  exact ⟨rfl, Below.refl _ _⟩
theorem r4one_any (k : Int) (w : World) : Calls Tryz.prog 69 #[.int .i64 k] w (StrE (oneF k) w) := by
  rcases kind_cases k with rfl | rfl | rfl | hk
  · exact r4one_1 w
  · exact r4one_2 w
  · exact r4one_3 w
  · exact r4one_no k w hk
set_option maxHeartbeats 4000000 in
theorem r4better_1 (a b : ByteArray) (w : World) (ha : a.size ≤ 9223372036854775807) (hb : b.size ≤ 9223372036854775807) (h1 : validF 1 a = true) (h2 : validF 1 b = true) : Calls Tryz.prog 82 #[.int .i64 1, .string a, .string b] w (IntEnd (betterF 1 a b) w) := by
  have c1 := fun wx => r4valid_any 1 a wx ha
  have c2 := fun wx => r4valid_any 1 b wx hb
  rw [h1] at c1; rw [h2] at c2
  obtain ⟨v, pv, rv, ov, ea, fv'⟩ := valid_v h1
  obtain ⟨u, pu, ru, ou, eb, fu⟩ := valid_v h2
  have C1 := Lib.hid c1; clear c1
  have C2 := Lib.hid c2; clear c2
  have hr : betterF 1 a b = cmpV v u := by unfold betterF; rw [pv, pu]; rfl
  have c3 := fun wx => rcompare4_any v u wx fv' fu
  rw [← ea, ← eb, ← hr] at c3
  generalize betterF 1 a b = r at *
  have C3 := Lib.hid c3; clear c3 hr pv rv ov ea fv' pu ru ou eb fu ha hb h1 h2
  go_enter Tryz.func82, Tryz.ntmps82
  go_wp2_with fail
  have hq1 := C1.out w
  refine hq1.mono ?_
  clear hq1
  rintro e w1 ⟨rfl, hb⟩
  have HB1 := Lib.hid (hb); clear hb
  go_wp2_with fail
  have hq2 := C2.out w1
  refine hq2.mono ?_
  clear hq2
  rintro e w2 ⟨rfl, hb⟩
  have HB2 := Lib.hid (next_below HB1.out hb); clear hb
  go_wp2_with fail
  have hq3 := C3.out w2
  refine hq3.mono ?_
  clear hq3
  rintro e w3 ⟨rfl, hb⟩
  have HB3 := Lib.hid (next_below HB2.out hb); clear hb
  go_wp2_with fail
  go_ret
  exact ⟨rfl, HB3.out⟩
set_option maxHeartbeats 4000000 in
theorem r4better_2 (a b : ByteArray) (w : World) (ha : a.size ≤ 9223372036854775807) (hb : b.size ≤ 9223372036854775807) (h1 : validF 2 a = true) (h2 : validF 2 b = true) : Calls Tryz.prog 82 #[.int .i64 2, .string a, .string b] w (IntEnd (betterF 2 a b) w) := by
  have c1 := fun wx => r4valid_any 2 a wx ha
  have c2 := fun wx => r4valid_any 2 b wx hb
  rw [h1] at c1; rw [h2] at c2
  obtain ⟨v, pv, rv, ov, ea, fv'⟩ := valid_v h1
  obtain ⟨u, pu, ru, ou, eb, fu⟩ := valid_v h2
  have C1 := Lib.hid c1; clear c1
  have C2 := Lib.hid c2; clear c2
  have hr : betterF 2 a b = cmpV u v := by unfold betterF; rw [pv, pu]; rfl
  have c3 := fun wx => rcompare4_any u v wx fu fv'
  rw [← ea, ← eb, ← hr] at c3
  generalize betterF 2 a b = r at *
  have C3 := Lib.hid c3; clear c3 hr pv rv ov ea fv' pu ru ou eb fu ha hb h1 h2
  go_enter Tryz.func82, Tryz.ntmps82
  go_wp2_with fail
  have hq1 := C1.out w
  refine hq1.mono ?_
  clear hq1
  rintro e w1 ⟨rfl, hb⟩
  have HB1 := Lib.hid (hb); clear hb
  go_wp2_with fail
  have hq2 := C2.out w1
  refine hq2.mono ?_
  clear hq2
  rintro e w2 ⟨rfl, hb⟩
  have HB2 := Lib.hid (next_below HB1.out hb); clear hb
  go_wp2_with fail
  have hq3 := C3.out w2
  refine hq3.mono ?_
  clear hq3
  rintro e w3 ⟨rfl, hb⟩
  have HB3 := Lib.hid (next_below HB2.out hb); clear hb
  go_wp2_with fail
  go_ret
  exact ⟨rfl, HB3.out⟩
set_option maxHeartbeats 4000000 in
theorem r4better_3 (a b : ByteArray) (w : World) (ha : a.size ≤ 9223372036854775807) (hb : b.size ≤ 9223372036854775807) (h1 : validF 3 a = true) (h2 : validF 3 b = true) : Calls Tryz.prog 82 #[.int .i64 3, .string a, .string b] w (IntEnd (betterF 3 a b) w) := by
  have c1 := fun wx => r4valid_any 3 a wx ha
  have c2 := fun wx => r4valid_any 3 b wx hb
  rw [h1] at c1; rw [h2] at c2
  obtain ⟨v, pv, rv, ov, ea, fv'⟩ := valid_v h1
  obtain ⟨u, pu, ru, ou, eb, fu⟩ := valid_v h2
  have C1 := Lib.hid c1; clear c1
  have C2 := Lib.hid c2; clear c2
  have hr : betterF 3 a b = cmpV u v := by unfold betterF; rw [pv, pu]; rfl
  have c3 := fun wx => rcompare4_any u v wx fu fv'
  rw [← ea, ← eb, ← hr] at c3
  generalize betterF 3 a b = r at *
  have C3 := Lib.hid c3; clear c3 hr pv rv ov ea fv' pu ru ou eb fu ha hb h1 h2
  go_enter Tryz.func82, Tryz.ntmps82
  go_wp2_with fail
  have hq1 := C1.out w
  refine hq1.mono ?_
  clear hq1
  rintro e w1 ⟨rfl, hb⟩
  have HB1 := Lib.hid (hb); clear hb
  go_wp2_with fail
  have hq2 := C2.out w1
  refine hq2.mono ?_
  clear hq2
  rintro e w2 ⟨rfl, hb⟩
  have HB2 := Lib.hid (next_below HB1.out hb); clear hb
  go_wp2_with fail
  have hq3 := C3.out w2
  refine hq3.mono ?_
  clear hq3
  rintro e w3 ⟨rfl, hb⟩
  have HB3 := Lib.hid (next_below HB2.out hb); clear hb
  go_wp2_with fail
  go_ret
  exact ⟨rfl, HB3.out⟩
set_option maxHeartbeats 4000000 in
theorem r4better_n1 (k : Int) (a b : ByteArray) (w : World) (ha : a.size ≤ 9223372036854775807) (h1 : validF k a = false) : Calls Tryz.prog 82 #[.int .i64 k, .string a, .string b] w (IntEnd (betterF k a b) w) := by
  have c1 := fun wx => r4valid_any k a wx ha
  rw [h1] at c1
  rw [betterF_n1 h1]
  have C1 := Lib.hid c1; clear c1 h1 ha
  go_enter Tryz.func82, Tryz.ntmps82
  go_wp2_with fail
  have hq1 := C1.out w
  refine hq1.mono ?_
  clear hq1
  rintro e w1 ⟨rfl, hb⟩
  have HB1 := Lib.hid (hb); clear hb
  go_wp2_with fail
  go_ret
  exact ⟨rfl, HB1.out⟩
set_option maxHeartbeats 4000000 in
theorem r4better_n2 (k : Int) (a b : ByteArray) (w : World) (ha : a.size ≤ 9223372036854775807) (hb : b.size ≤ 9223372036854775807) (h1 : validF k a = true) (h2 : validF k b = false) : Calls Tryz.prog 82 #[.int .i64 k, .string a, .string b] w (IntEnd (betterF k a b) w) := by
  have c1 := fun wx => r4valid_any k a wx ha
  have c2 := fun wx => r4valid_any k b wx hb
  rw [h1] at c1; rw [h2] at c2
  rw [betterF_n2 h2]
  have C1 := Lib.hid c1; clear c1 h1 ha
  have C2 := Lib.hid c2; clear c2 h2 hb
  go_enter Tryz.func82, Tryz.ntmps82
  go_wp2_with fail
  have hq1 := C1.out w
  refine hq1.mono ?_
  clear hq1
  rintro e w1 ⟨rfl, hb⟩
  have HB1 := Lib.hid (hb); clear hb
  go_wp2_with fail
  have hq2 := C2.out w1
  refine hq2.mono ?_
  clear hq2
  rintro e w2 ⟨rfl, hb⟩
  have HB2 := Lib.hid (next_below HB1.out hb); clear hb
  go_wp2_with fail
  go_ret
  exact ⟨rfl, HB2.out⟩
theorem r4better_any (k : Int) (a b : ByteArray) (w : World) (ha : a.size ≤ 9223372036854775807) (hb : b.size ≤ 9223372036854775807) : Calls Tryz.prog 82 #[.int .i64 k, .string a, .string b] w (IntEnd (betterF k a b) w) := by
  cases h1 : validF k a with
  | false => exact r4better_n1 k a b w ha h1
  | true =>
    cases h2 : validF k b with
    | false => exact r4better_n2 k a b w ha hb h1 h2
    | true =>
      rcases kind_cases k with rfl | rfl | rfl | hk
      · exact r4better_1 a b w ha hb h1 h2
      · exact r4better_2 a b w ha hb h1 h2
      · exact r4better_3 a b w ha hb h1 h2
      · rw [validF_no hk] at h1; simp at h1
set_option maxHeartbeats 4000000 in
theorem r4plus_1 (a b : ByteArray) (w : World) (ha : a.size ≤ 9223372036854775807) (hb : b.size ≤ 9223372036854775807) (h1 : validF 1 a = true) (h2 : validF 1 b = true) : Calls Tryz.prog 72 #[.int .i64 1, .string a, .string b] w (PairEnd (plusF 1 a b) w) := by
  have c1 := fun wx => r4valid_any 1 a wx ha
  have c2 := fun wx => r4valid_any 1 b wx hb
  rw [h1] at c1; rw [h2] at c2
  obtain ⟨v, pv, rv, ov, ea, fv'⟩ := valid_v h1
  obtain ⟨u, pu, ru, ou, eb, fu⟩ := valid_v h2
  have C1 := Lib.hid c1; clear c1
  have C2 := Lib.hid c2; clear c2
  have hr : plusF 1 a b = (if betterF 1 b a < 0 then b else a, 0) := by
    have e1 : betterF 1 b a = betterV 1 u v := by unfold betterF; rw [pu, pv]
    have e2 : plusV 1 v u = if betterV 1 u v < 0 then u else v := by
      unfold plusV betterV
      have := cmpV_swap v u
      simp only [show ((1 : Int) = 2) = False from by simp, if_true, if_false]
      by_cases h : 0 < cmpV v u
      · rw [if_pos h, if_pos (by omega)]
      · rw [if_neg h, if_neg (by omega)]
    unfold plusF; rw [pv, pu]; simp only; rw [e1, e2]
    by_cases h : betterV 1 u v < 0
    · rw [if_pos h, if_pos h, limV_fit fu, ← eb]
    · rw [if_neg h, if_neg h, limV_fit fv', ← ea]
  rw [hr]
  have c3 := fun wx => r4better_any 1 b a wx hb ha
  have hz : betterF 1 b a < 0 ∨ 0 ≤ betterF 1 b a := by omega
  generalize betterF 1 b a = z at *
  have C3 := Lib.hid c3; clear c3 hr pv rv ov ea fv' pu ru ou eb fu ha hb h1 h2
  rcases hz with hz | hz
  · rw [if_pos hz]
    go_enter Tryz.func72, Tryz.ntmps72
    go_wp2_with fail
    have hq1 := C1.out w
    refine hq1.mono ?_
    clear hq1
    rintro e w1 ⟨rfl, hb⟩
    have HB1 := Lib.hid (hb); clear hb
    go_wp2_with fail
    have hq2 := C2.out w1
    refine hq2.mono ?_
    clear hq2
    rintro e w2 ⟨rfl, hb⟩
    have HB2 := Lib.hid (next_below HB1.out hb); clear hb
    go_wp2_with fail
    have hq3 := C3.out w2
    refine hq3.mono ?_
    clear hq3
    rintro e w3 ⟨rfl, hb⟩
    have HB3 := Lib.hid (next_below HB2.out hb); clear hb
    go_wp2_with fail
    go_ret2
    exact ⟨rfl, HB3.out⟩
  · rw [if_neg (by omega)]
    go_enter Tryz.func72, Tryz.ntmps72
    go_wp2_with fail
    have hq1 := C1.out w
    refine hq1.mono ?_
    clear hq1
    rintro e w1 ⟨rfl, hb⟩
    have HB1 := Lib.hid (hb); clear hb
    go_wp2_with fail
    have hq2 := C2.out w1
    refine hq2.mono ?_
    clear hq2
    rintro e w2 ⟨rfl, hb⟩
    have HB2 := Lib.hid (next_below HB1.out hb); clear hb
    go_wp2_with fail
    have hq3 := C3.out w2
    refine hq3.mono ?_
    clear hq3
    rintro e w3 ⟨rfl, hb⟩
    have HB3 := Lib.hid (next_below HB2.out hb); clear hb
    go_wp2_with fail
    go_ret2
    exact ⟨rfl, HB3.out⟩
set_option maxHeartbeats 4000000 in
theorem r4plus_2 (a b : ByteArray) (w : World) (ha : a.size ≤ 9223372036854775807) (hb : b.size ≤ 9223372036854775807) (h1 : validF 2 a = true) (h2 : validF 2 b = true) : Calls Tryz.prog 72 #[.int .i64 2, .string a, .string b] w (PairEnd (plusF 2 a b) w) := by
  have c1 := fun wx => r4valid_any 2 a wx ha
  have c2 := fun wx => r4valid_any 2 b wx hb
  rw [h1] at c1; rw [h2] at c2
  obtain ⟨v, pv, rv, ov, ea, fv'⟩ := valid_v h1
  obtain ⟨u, pu, ru, ou, eb, fu⟩ := valid_v h2
  have C1 := Lib.hid c1; clear c1
  have C2 := Lib.hid c2; clear c2
  have hr : plusF 2 a b = limV (addV v u) := by unfold plusF; rw [pv, pu, ← plusV2]
  have l1 : v ≠ .low := okV_low ov (by decide)
  have l2 : u ≠ .low := okV_low ou (by decide)
  have ai := v_inf fv'; have bi := v_inf fu
  rw [← ea] at ai; rw [← eb] at bi
  rw [hr]
  clear hr pv rv ov pu ru ou h1 h2
  cases v with
  | low => exact absurd rfl l1
  | inf =>
    have hr : limV (addV .inf u) = (⟨#[105, 110, 102]⟩, 0) := by cases u <;> rfl
    rw [hr]
    simp only [decide_true] at ai
    clear hr ea fv' eb fu ha hb l1 l2 bi
    go_enter Tryz.func72, Tryz.ntmps72
    go_wp2_with fail
    have hq1 := C1.out w
    refine hq1.mono ?_
    clear hq1
    rintro e w1 ⟨rfl, hb⟩
    have HB1 := Lib.hid (hb); clear hb
    go_wp2_with fail
    have hq2 := C2.out w1
    refine hq2.mono ?_
    clear hq2
    rintro e w2 ⟨rfl, hb⟩
    have HB2 := Lib.hid (next_below HB1.out hb); clear hb
    go_wp2_with fail
    go_ret2
    exact ⟨rfl, HB2.out⟩
  | fin x =>
    have ai : (a.toList == [105, 110, 102]) = false := by rw [ai]; rfl
    cases u with
    | low => exact absurd rfl l2
    | inf =>
      have hr : limV (addV (.fin x) .inf) = (⟨#[105, 110, 102]⟩, 0) := rfl
      rw [hr]
      simp only [decide_true] at bi
      clear hr ea fv' eb fu ha hb l1 l2
      go_enter Tryz.func72, Tryz.ntmps72
      go_wp2_with fail
      have hq1 := C1.out w
      refine hq1.mono ?_
      clear hq1
      rintro e w1 ⟨rfl, hb⟩
      have HB1 := Lib.hid (hb); clear hb
      go_wp2_with fail
      have hq2 := C2.out w1
      refine hq2.mono ?_
      clear hq2
      rintro e w2 ⟨rfl, hb⟩
      have HB2 := Lib.hid (next_below HB1.out hb); clear hb
      go_wp2_with fail
      go_ret2
      exact ⟨rfl, HB2.out⟩
    | fin y =>
      have bi : (b.toList == [105, 110, 102]) = false := by rw [bi]; rfl
      have hr : limV (addV (.fin x) (.fin y)) = qaddF a b := by
        rw [ea, eb]; show limR (x + y) = qaddF (txt x) (txt y)
        unfold qaddF; rw [prs_txt fv', prs_txt fu]
      rw [hr]
      have c3 := fun wx => sadd_any a b wx ha hb
      generalize qaddF a b = r at *
      obtain ⟨rs, rn⟩ := r
      have C3 := Lib.hid c3; clear c3 hr ea fv' eb fu ha hb l1 l2
      go_enter Tryz.func72, Tryz.ntmps72
      go_wp2_with fail
      have hq1 := C1.out w
      refine hq1.mono ?_
      clear hq1
      rintro e w1 ⟨rfl, hb⟩
      have HB1 := Lib.hid (hb); clear hb
      go_wp2_with fail
      have hq2 := C2.out w1
      refine hq2.mono ?_
      clear hq2
      rintro e w2 ⟨rfl, hb⟩
      have HB2 := Lib.hid (next_below HB1.out hb); clear hb
      go_wp2_with fail
      have hq3 := C3.out w2
      refine hq3.mono ?_
      clear hq3
      rintro e w3 ⟨rfl, hb⟩
      have HB3 := Lib.hid (next_below HB2.out hb); clear hb
      go_wp2_with fail
      go_ret2
      exact ⟨rfl, HB3.out⟩
set_option maxHeartbeats 4000000 in
theorem r4plus_3 (a b : ByteArray) (w : World) (ha : a.size ≤ 9223372036854775807) (hb : b.size ≤ 9223372036854775807) (h1 : validF 3 a = true) (h2 : validF 3 b = true) : Calls Tryz.prog 72 #[.int .i64 3, .string a, .string b] w (PairEnd (plusF 3 a b) w) := by
  have c1 := fun wx => r4valid_any 3 a wx ha
  have c2 := fun wx => r4valid_any 3 b wx hb
  rw [h1] at c1; rw [h2] at c2
  obtain ⟨v, pv, rv, ov, ea, fv'⟩ := valid_v h1
  obtain ⟨u, pu, ru, ou, eb, fu⟩ := valid_v h2
  have C1 := Lib.hid c1; clear c1
  have C2 := Lib.hid c2; clear c2
  have hr : plusF 3 a b = (if betterF 3 b a < 0 then b else a, 0) := by
    have e1 : betterF 3 b a = betterV 3 u v := by unfold betterF; rw [pu, pv]
    have e2 : plusV 3 v u = if betterV 3 u v < 0 then u else v := by
      unfold plusV betterV
      have := cmpV_swap v u
      simp only [show ((3 : Int) = 2) = False from by simp, show ((3 : Int) = 1) = False from by simp, if_false]

    unfold plusF; rw [pv, pu]; simp only; rw [e1, e2]
    by_cases h : betterV 3 u v < 0
    · rw [if_pos h, if_pos h, limV_fit fu, ← eb]
    · rw [if_neg h, if_neg h, limV_fit fv', ← ea]
  rw [hr]
  have c3 := fun wx => r4better_any 3 b a wx hb ha
  have hz : betterF 3 b a < 0 ∨ 0 ≤ betterF 3 b a := by omega
  generalize betterF 3 b a = z at *
  have C3 := Lib.hid c3; clear c3 hr pv rv ov ea fv' pu ru ou eb fu ha hb h1 h2
  rcases hz with hz | hz
  · rw [if_pos hz]
    go_enter Tryz.func72, Tryz.ntmps72
    go_wp2_with fail
    have hq1 := C1.out w
    refine hq1.mono ?_
    clear hq1
    rintro e w1 ⟨rfl, hb⟩
    have HB1 := Lib.hid (hb); clear hb
    go_wp2_with fail
    have hq2 := C2.out w1
    refine hq2.mono ?_
    clear hq2
    rintro e w2 ⟨rfl, hb⟩
    have HB2 := Lib.hid (next_below HB1.out hb); clear hb
    go_wp2_with fail
    have hq3 := C3.out w2
    refine hq3.mono ?_
    clear hq3
    rintro e w3 ⟨rfl, hb⟩
    have HB3 := Lib.hid (next_below HB2.out hb); clear hb
    go_wp2_with fail
    go_ret2
    exact ⟨rfl, HB3.out⟩
  · rw [if_neg (by omega)]
    go_enter Tryz.func72, Tryz.ntmps72
    go_wp2_with fail
    have hq1 := C1.out w
    refine hq1.mono ?_
    clear hq1
    rintro e w1 ⟨rfl, hb⟩
    have HB1 := Lib.hid (hb); clear hb
    go_wp2_with fail
    have hq2 := C2.out w1
    refine hq2.mono ?_
    clear hq2
    rintro e w2 ⟨rfl, hb⟩
    have HB2 := Lib.hid (next_below HB1.out hb); clear hb
    go_wp2_with fail
    have hq3 := C3.out w2
    refine hq3.mono ?_
    clear hq3
    rintro e w3 ⟨rfl, hb⟩
    have HB3 := Lib.hid (next_below HB2.out hb); clear hb
    go_wp2_with fail
    go_ret2
    exact ⟨rfl, HB3.out⟩
set_option maxHeartbeats 4000000 in
theorem r4plus_n1 (k : Int) (a b : ByteArray) (w : World) (ha : a.size ≤ 9223372036854775807) (h1 : validF k a = false) : Calls Tryz.prog 72 #[.int .i64 k, .string a, .string b] w (PairEnd (plusF k a b) w) := by
  have c1 := fun wx => r4valid_any k a wx ha
  rw [h1] at c1
  rw [plusF_n1 h1]
  have C1 := Lib.hid c1; clear c1 h1 ha
  go_enter Tryz.func72, Tryz.ntmps72
  go_wp2_with fail
  have hq1 := C1.out w
  refine hq1.mono ?_
  clear hq1
  rintro e w1 ⟨rfl, hb⟩
  have HB1 := Lib.hid (hb); clear hb
  go_wp2_with fail
  go_ret2
  exact ⟨rfl, HB1.out⟩
set_option maxHeartbeats 4000000 in
theorem r4plus_n2 (k : Int) (a b : ByteArray) (w : World) (ha : a.size ≤ 9223372036854775807) (hb : b.size ≤ 9223372036854775807) (h1 : validF k a = true) (h2 : validF k b = false) : Calls Tryz.prog 72 #[.int .i64 k, .string a, .string b] w (PairEnd (plusF k a b) w) := by
  have c1 := fun wx => r4valid_any k a wx ha
  have c2 := fun wx => r4valid_any k b wx hb
  rw [h1] at c1; rw [h2] at c2
  rw [plusF_n2 h2]
  have C1 := Lib.hid c1; clear c1 h1 ha
  have C2 := Lib.hid c2; clear c2 h2 hb
  go_enter Tryz.func72, Tryz.ntmps72
  go_wp2_with fail
  have hq1 := C1.out w
  refine hq1.mono ?_
  clear hq1
  rintro e w1 ⟨rfl, hb⟩
  have HB1 := Lib.hid (hb); clear hb
  go_wp2_with fail
  have hq2 := C2.out w1
  refine hq2.mono ?_
  clear hq2
  rintro e w2 ⟨rfl, hb⟩
  have HB2 := Lib.hid (next_below HB1.out hb); clear hb
  go_wp2_with fail
  go_ret2
  exact ⟨rfl, HB2.out⟩
theorem r4plus_any (k : Int) (a b : ByteArray) (w : World) (ha : a.size ≤ 9223372036854775807) (hb : b.size ≤ 9223372036854775807) : Calls Tryz.prog 72 #[.int .i64 k, .string a, .string b] w (PairEnd (plusF k a b) w) := by
  cases h1 : validF k a with
  | false => exact r4plus_n1 k a b w ha h1
  | true =>
    cases h2 : validF k b with
    | false => exact r4plus_n2 k a b w ha hb h1 h2
    | true =>
      rcases kind_cases k with rfl | rfl | rfl | hk
      · exact r4plus_1 a b w ha hb h1 h2
      · exact r4plus_2 a b w ha hb h1 h2
      · exact r4plus_3 a b w ha hb h1 h2
      · rw [validF_no hk] at h1; simp at h1
end Go.Proofs.YtlmfppjphblemaaGreatDoor

namespace Go.Proofs.YtlmfppjphblemaaGreatDoor
open Go Go.RowKit
set_option maxRecDepth 100000

set_option maxHeartbeats 4000000 in
theorem r4times_1 (a b : ByteArray) (w : World) (ha : a.size ≤ 9223372036854775807) (hb : b.size ≤ 9223372036854775807) (h1 : validF 1 a = true) (h2 : validF 1 b = true) : Calls Tryz.prog 74 #[.int .i64 1, .string a, .string b] w (PairEnd (timesF 1 a b) w) := by
  have c1 := fun wx => r4valid_any 1 a wx ha
  have c2 := fun wx => r4valid_any 1 b wx hb
  rw [h1] at c1; rw [h2] at c2
  obtain ⟨v, pv, rv, ov, ea, fv'⟩ := valid_v h1
  obtain ⟨u, pu, ru, ou, eb, fu⟩ := valid_v h2
  have C1 := Lib.hid c1; clear c1
  have C2 := Lib.hid c2; clear c2
  have ai := v_inf fv'; have al := v_low fv'; have az := v_zero fv'
  have bi := v_inf fu; have bl := v_low fu; have bz := v_zero fu
  rw [← ea] at ai al az; rw [← eb] at bi bl bz
  have hr : timesF 1 a b = limV (timesV 1 v u) := by unfold timesF; rw [pv, pu]
  have c4 := fun wx => r4zero_any 1 wx
  rw [zeroF_1] at c4
  have C4 := Lib.hid c4; clear c4
  by_cases v1 : v = .inf
  · subst v1
    simp only [decide_true] at ai
    clear al az bi bl bz
    have ht : timesV 1 .inf u = .inf := by rw [times1]
    rw [ht, limV_inf] at hr; clear ht
    rw [hr]; clear hr pv rv ov ea fv' pu ru ou eb fu ha hb h1 h2
    go_enter Tryz.func74, Tryz.ntmps74
    go_wp2_with fail
    have hq1 := C1.out w
    refine hq1.mono ?_
    clear hq1
    rintro e w1 ⟨rfl, hb⟩
    have HB1 := Lib.hid (hb); clear hb
    go_wp2_with fail
    have hq2 := C2.out w1
    refine hq2.mono ?_
    clear hq2
    rintro e w2 ⟨rfl, hb⟩
    have HB2 := Lib.hid (next_below HB1.out hb); clear hb
    go_wp2_with fail
    have hq3 := C4.out w2
    refine hq3.mono ?_
    clear hq3
    rintro e w3 ⟨rfl, hb⟩
    have HB3 := Lib.hid (next_below HB2.out hb); clear hb
    go_wp2_with fail
    go_ret2
    exact ⟨rfl, HB3.out⟩
  · rw [decide_eq_false v1] at ai
    by_cases u1 : u = .inf
    · subst u1
      simp only [decide_true] at bi
      clear al az bl bz
      have ht : timesV 1 v .inf = .inf := by rw [times1]; cases v <;> first | rfl | exact absurd rfl v1
      rw [ht, limV_inf] at hr; clear ht v1
      rw [hr]; clear hr pv rv ov ea fv' pu ru ou eb fu ha hb h1 h2
      go_enter Tryz.func74, Tryz.ntmps74
      go_wp2_with fail
      have hq1 := C1.out w
      refine hq1.mono ?_
      clear hq1
      rintro e w1 ⟨rfl, hb⟩
      have HB1 := Lib.hid (hb); clear hb
      go_wp2_with fail
      have hq2 := C2.out w1
      refine hq2.mono ?_
      clear hq2
      rintro e w2 ⟨rfl, hb⟩
      have HB2 := Lib.hid (next_below HB1.out hb); clear hb
      go_wp2_with fail
      have hq3 := C4.out w2
      refine hq3.mono ?_
      clear hq3
      rintro e w3 ⟨rfl, hb⟩
      have HB3 := Lib.hid (next_below HB2.out hb); clear hb
      go_wp2_with fail
      go_ret2
      exact ⟨rfl, HB3.out⟩
    · rw [decide_eq_false u1] at bi
      by_cases v2 : v = .low
      · subst v2
        simp only [decide_true] at al
        clear az bl bz
        have ht : timesV 1 .low u = .low := by rw [times1]; cases u <;> first | rfl | exact absurd rfl u1
        rw [ht, limV_low] at hr; clear ht v1 u1
        rw [hr]; clear hr pv rv ov ea fv' pu ru ou eb fu ha hb h1 h2
        go_enter Tryz.func74, Tryz.ntmps74
        go_wp2_with fail
        have hq1 := C1.out w
        refine hq1.mono ?_
        clear hq1
        rintro e w1 ⟨rfl, hb⟩
        have HB1 := Lib.hid (hb); clear hb
        go_wp2_with fail
        have hq2 := C2.out w1
        refine hq2.mono ?_
        clear hq2
        rintro e w2 ⟨rfl, hb⟩
        have HB2 := Lib.hid (next_below HB1.out hb); clear hb
        go_wp2_with fail
        have hq3 := C4.out w2
        refine hq3.mono ?_
        clear hq3
        rintro e w3 ⟨rfl, hb⟩
        have HB3 := Lib.hid (next_below HB2.out hb); clear hb
        go_wp2_with fail
        go_ret2
        exact ⟨rfl, HB3.out⟩
      · rw [decide_eq_false v2] at al
        by_cases u2 : u = .low
        · subst u2
          simp only [decide_true] at bl
          clear az bz
          have ht : timesV 1 v .low = .low := by rw [times1]; cases v <;> first | rfl | exact absurd rfl v1
          rw [ht, limV_low] at hr; clear ht v1 u1 v2
          rw [hr]; clear hr pv rv ov ea fv' pu ru ou eb fu ha hb h1 h2
          go_enter Tryz.func74, Tryz.ntmps74
          go_wp2_with fail
          have hq1 := C1.out w
          refine hq1.mono ?_
          clear hq1
          rintro e w1 ⟨rfl, hb⟩
          have HB1 := Lib.hid (hb); clear hb
          go_wp2_with fail
          have hq2 := C2.out w1
          refine hq2.mono ?_
          clear hq2
          rintro e w2 ⟨rfl, hb⟩
          have HB2 := Lib.hid (next_below HB1.out hb); clear hb
          go_wp2_with fail
          have hq3 := C4.out w2
          refine hq3.mono ?_
          clear hq3
          rintro e w3 ⟨rfl, hb⟩
          have HB3 := Lib.hid (next_below HB2.out hb); clear hb
          go_wp2_with fail
          go_ret2
          exact ⟨rfl, HB3.out⟩
        · rw [decide_eq_false u2] at bl
          clear az bz
          cases v with
          | inf => exact absurd rfl v1
          | low => exact absurd rfl v2
          | fin x =>
            cases u with
            | inf => exact absurd rfl u1
            | low => exact absurd rfl u2
            | fin y =>
              have e3 : limV (timesV 1 (.fin x) (.fin y)) = qaddF a b := by
                rw [show timesV 1 (.fin x) (.fin y) = .fin (x + y) from by rw [times1], ea, eb]
                show limR (x + y) = qaddF (txt x) (txt y)
                unfold qaddF; rw [prs_txt fv', prs_txt fu]
              rw [hr, e3]
              have c3 := fun wx => sadd_any a b wx ha hb
              generalize qaddF a b = r at *
              obtain ⟨rs, rn⟩ := r
              have C3 := Lib.hid c3; clear c3 e3 hr pv rv ov ea fv' pu ru ou eb fu ha hb h1 h2 v1 u1 v2 u2
              go_enter Tryz.func74, Tryz.ntmps74
              go_wp2_with fail
              have hq1 := C1.out w
              refine hq1.mono ?_
              clear hq1
              rintro e w1 ⟨rfl, hb⟩
              have HB1 := Lib.hid (hb); clear hb
              go_wp2_with fail
              have hq2 := C2.out w1
              refine hq2.mono ?_
              clear hq2
              rintro e w2 ⟨rfl, hb⟩
              have HB2 := Lib.hid (next_below HB1.out hb); clear hb
              go_wp2_with fail
              have hq3 := C4.out w2
              refine hq3.mono ?_
              clear hq3
              rintro e w3 ⟨rfl, hb⟩
              have HB3 := Lib.hid (next_below HB2.out hb); clear hb
              go_wp2_with fail
              have hq4 := C3.out w3
              refine hq4.mono ?_
              clear hq4
              rintro e w4 ⟨rfl, hb⟩
              have HB4 := Lib.hid (next_below HB3.out hb); clear hb
              go_wp2_with fail
              go_ret2
              exact ⟨rfl, HB4.out⟩
set_option maxHeartbeats 4000000 in
theorem r4times_2 (a b : ByteArray) (w : World) (ha : a.size ≤ 9223372036854775807) (hb : b.size ≤ 9223372036854775807) (h1 : validF 2 a = true) (h2 : validF 2 b = true) : Calls Tryz.prog 74 #[.int .i64 2, .string a, .string b] w (PairEnd (timesF 2 a b) w) := by
  have c1 := fun wx => r4valid_any 2 a wx ha
  have c2 := fun wx => r4valid_any 2 b wx hb
  rw [h1] at c1; rw [h2] at c2
  obtain ⟨v, pv, rv, ov, ea, fv'⟩ := valid_v h1
  obtain ⟨u, pu, ru, ou, eb, fu⟩ := valid_v h2
  have C1 := Lib.hid c1; clear c1
  have C2 := Lib.hid c2; clear c2
  have ai := v_inf fv'; have al := v_low fv'; have az := v_zero fv'
  have bi := v_inf fu; have bl := v_low fu; have bz := v_zero fu
  rw [← ea] at ai al az; rw [← eb] at bi bl bz
  have hr : timesF 2 a b = limV (timesV 2 v u) := by unfold timesF; rw [pv, pu]
  have c4 := fun wx => r4zero_any 2 wx
  rw [zeroF_2] at c4
  have C4 := Lib.hid c4; clear c4
  have l1 : v ≠ .low := okV_low ov (by decide)
  have l2 : u ≠ .low := okV_low ou (by decide)
  rw [decide_eq_false l1] at al
  rw [decide_eq_false l2] at bl
  by_cases v1 : v = .fin 0
  · subst v1
    simp only [decide_true] at az
    clear ai al bi bl bz
    have ht : timesV 2 (.fin 0) u = .fin 0 := by rw [times23 (by decide) l1 l2, zero_mulV]
    rw [ht, limV_zero] at hr; clear ht l1 l2
    rw [hr]; clear hr pv rv ov ea fv' pu ru ou eb fu ha hb h1 h2
    go_enter Tryz.func74, Tryz.ntmps74
    go_wp2_with fail
    have hq1 := C1.out w
    refine hq1.mono ?_
    clear hq1
    rintro e w1 ⟨rfl, hb⟩
    have HB1 := Lib.hid (hb); clear hb
    go_wp2_with fail
    have hq2 := C2.out w1
    refine hq2.mono ?_
    clear hq2
    rintro e w2 ⟨rfl, hb⟩
    have HB2 := Lib.hid (next_below HB1.out hb); clear hb
    go_wp2_with fail
    have hq3 := C4.out w2
    refine hq3.mono ?_
    clear hq3
    rintro e w3 ⟨rfl, hb⟩
    have HB3 := Lib.hid (next_below HB2.out hb); clear hb
    go_wp2_with fail
    go_ret2
    exact ⟨rfl, HB3.out⟩
  · rw [decide_eq_false v1] at az
    by_cases u1 : u = .fin 0
    · subst u1
      simp only [decide_true] at bz
      clear ai al bi bl
      have ht : timesV 2 v (.fin 0) = .fin 0 := by rw [times23 (by decide) l1 l2, mulV_zero]
      rw [ht, limV_zero] at hr; clear ht l1 l2 v1
      rw [hr]; clear hr pv rv ov ea fv' pu ru ou eb fu ha hb h1 h2
      go_enter Tryz.func74, Tryz.ntmps74
      go_wp2_with fail
      have hq1 := C1.out w
      refine hq1.mono ?_
      clear hq1
      rintro e w1 ⟨rfl, hb⟩
      have HB1 := Lib.hid (hb); clear hb
      go_wp2_with fail
      have hq2 := C2.out w1
      refine hq2.mono ?_
      clear hq2
      rintro e w2 ⟨rfl, hb⟩
      have HB2 := Lib.hid (next_below HB1.out hb); clear hb
      go_wp2_with fail
      have hq3 := C4.out w2
      refine hq3.mono ?_
      clear hq3
      rintro e w3 ⟨rfl, hb⟩
      have HB3 := Lib.hid (next_below HB2.out hb); clear hb
      go_wp2_with fail
      go_ret2
      exact ⟨rfl, HB3.out⟩
    · rw [decide_eq_false u1] at bz
      by_cases v2 : v = .inf
      · subst v2
        simp only [decide_true] at ai
        clear al bi bl
        have ht : timesV 2 .inf u = .inf := by rw [times23 (by decide) l1 l2]; unfold mulV; rw [if_neg (fun e => e.elim v1 u1)]
        rw [ht, limV_inf] at hr; clear ht l1 l2 v1 u1
        rw [hr]; clear hr pv rv ov ea fv' pu ru ou eb fu ha hb h1 h2
        go_enter Tryz.func74, Tryz.ntmps74
        go_wp2_with fail
        have hq1 := C1.out w
        refine hq1.mono ?_
        clear hq1
        rintro e w1 ⟨rfl, hb⟩
        have HB1 := Lib.hid (hb); clear hb
        go_wp2_with fail
        have hq2 := C2.out w1
        refine hq2.mono ?_
        clear hq2
        rintro e w2 ⟨rfl, hb⟩
        have HB2 := Lib.hid (next_below HB1.out hb); clear hb
        go_wp2_with fail
        have hq3 := C4.out w2
        refine hq3.mono ?_
        clear hq3
        rintro e w3 ⟨rfl, hb⟩
        have HB3 := Lib.hid (next_below HB2.out hb); clear hb
        go_wp2_with fail
        go_ret2
        exact ⟨rfl, HB3.out⟩
      · rw [decide_eq_false v2] at ai
        by_cases u2 : u = .inf
        · subst u2
          simp only [decide_true] at bi
          clear al bl
          have ht : timesV 2 v .inf = .inf := by rw [times23 (by decide) l1 l2]; unfold mulV; rw [if_neg (fun e => e.elim v1 u1)]; cases v <;> rfl
          rw [ht, limV_inf] at hr; clear ht l1 l2 v1 u1 v2
          rw [hr]; clear hr pv rv ov ea fv' pu ru ou eb fu ha hb h1 h2
          go_enter Tryz.func74, Tryz.ntmps74
          go_wp2_with fail
          have hq1 := C1.out w
          refine hq1.mono ?_
          clear hq1
          rintro e w1 ⟨rfl, hb⟩
          have HB1 := Lib.hid (hb); clear hb
          go_wp2_with fail
          have hq2 := C2.out w1
          refine hq2.mono ?_
          clear hq2
          rintro e w2 ⟨rfl, hb⟩
          have HB2 := Lib.hid (next_below HB1.out hb); clear hb
          go_wp2_with fail
          have hq3 := C4.out w2
          refine hq3.mono ?_
          clear hq3
          rintro e w3 ⟨rfl, hb⟩
          have HB3 := Lib.hid (next_below HB2.out hb); clear hb
          go_wp2_with fail
          go_ret2
          exact ⟨rfl, HB3.out⟩
        · rw [decide_eq_false u2] at bi
          cases v with
          | inf => exact absurd rfl v2
          | low => exact absurd rfl l1
          | fin x =>
            cases u with
            | inf => exact absurd rfl u2
            | low => exact absurd rfl l2
            | fin y =>
              have e3 : limV (timesV 2 (.fin x) (.fin y)) = qmulF a b := by
                rw [show timesV 2 (.fin x) (.fin y) = .fin (x * y) from by rw [times23 (by decide) l1 l2, mulV_fin], ea, eb]
                show limR (x * y) = qmulF (txt x) (txt y)
                unfold qmulF; rw [prs_txt fv', prs_txt fu]
              rw [hr, e3]
              have c3 := fun wx => smul_any a b wx ha hb
              generalize qmulF a b = r at *
              obtain ⟨rs, rn⟩ := r
              have C3 := Lib.hid c3; clear c3 e3 hr pv rv ov ea fv' pu ru ou eb fu ha hb h1 h2 v1 u1 v2 u2 l1 l2
              go_enter Tryz.func74, Tryz.ntmps74
              go_wp2_with fail
              have hq1 := C1.out w
              refine hq1.mono ?_
              clear hq1
              rintro e w1 ⟨rfl, hb⟩
              have HB1 := Lib.hid (hb); clear hb
              go_wp2_with fail
              have hq2 := C2.out w1
              refine hq2.mono ?_
              clear hq2
              rintro e w2 ⟨rfl, hb⟩
              have HB2 := Lib.hid (next_below HB1.out hb); clear hb
              go_wp2_with fail
              have hq3 := C4.out w2
              refine hq3.mono ?_
              clear hq3
              rintro e w3 ⟨rfl, hb⟩
              have HB3 := Lib.hid (next_below HB2.out hb); clear hb
              go_wp2_with fail
              have hq4 := C3.out w3
              refine hq4.mono ?_
              clear hq4
              rintro e w4 ⟨rfl, hb⟩
              have HB4 := Lib.hid (next_below HB3.out hb); clear hb
              go_wp2_with fail
              go_ret2
              exact ⟨rfl, HB4.out⟩
set_option maxHeartbeats 4000000 in
theorem r4times_3 (a b : ByteArray) (w : World) (ha : a.size ≤ 9223372036854775807) (hb : b.size ≤ 9223372036854775807) (h1 : validF 3 a = true) (h2 : validF 3 b = true) : Calls Tryz.prog 74 #[.int .i64 3, .string a, .string b] w (PairEnd (timesF 3 a b) w) := by
  have c1 := fun wx => r4valid_any 3 a wx ha
  have c2 := fun wx => r4valid_any 3 b wx hb
  rw [h1] at c1; rw [h2] at c2
  obtain ⟨v, pv, rv, ov, ea, fv'⟩ := valid_v h1
  obtain ⟨u, pu, ru, ou, eb, fu⟩ := valid_v h2
  have C1 := Lib.hid c1; clear c1
  have C2 := Lib.hid c2; clear c2
  have ai := v_inf fv'; have al := v_low fv'; have az := v_zero fv'
  have bi := v_inf fu; have bl := v_low fu; have bz := v_zero fu
  rw [← ea] at ai al az; rw [← eb] at bi bl bz
  have hr : timesF 3 a b = limV (timesV 3 v u) := by unfold timesF; rw [pv, pu]
  have c4 := fun wx => r4zero_any 3 wx
  rw [zeroF_3] at c4
  have C4 := Lib.hid c4; clear c4
  have l1 : v ≠ .low := okV_low ov (by decide)
  have l2 : u ≠ .low := okV_low ou (by decide)
  rw [decide_eq_false l1] at al
  rw [decide_eq_false l2] at bl
  by_cases v1 : v = .fin 0
  · subst v1
    simp only [decide_true] at az
    clear ai al bi bl bz
    have ht : timesV 3 (.fin 0) u = .fin 0 := by rw [times23 (by decide) l1 l2, zero_mulV]
    rw [ht, limV_zero] at hr; clear ht l1 l2
    rw [hr]; clear hr pv rv ov ea fv' pu ru ou eb fu ha hb h1 h2
    go_enter Tryz.func74, Tryz.ntmps74
    go_wp2_with fail
    have hq1 := C1.out w
    refine hq1.mono ?_
    clear hq1
    rintro e w1 ⟨rfl, hb⟩
    have HB1 := Lib.hid (hb); clear hb
    go_wp2_with fail
    have hq2 := C2.out w1
    refine hq2.mono ?_
    clear hq2
    rintro e w2 ⟨rfl, hb⟩
    have HB2 := Lib.hid (next_below HB1.out hb); clear hb
    go_wp2_with fail
    have hq3 := C4.out w2
    refine hq3.mono ?_
    clear hq3
    rintro e w3 ⟨rfl, hb⟩
    have HB3 := Lib.hid (next_below HB2.out hb); clear hb
    go_wp2_with fail
    go_ret2
    exact ⟨rfl, HB3.out⟩
  · rw [decide_eq_false v1] at az
    by_cases u1 : u = .fin 0
    · subst u1
      simp only [decide_true] at bz
      clear ai al bi bl
      have ht : timesV 3 v (.fin 0) = .fin 0 := by rw [times23 (by decide) l1 l2, mulV_zero]
      rw [ht, limV_zero] at hr; clear ht l1 l2 v1
      rw [hr]; clear hr pv rv ov ea fv' pu ru ou eb fu ha hb h1 h2
      go_enter Tryz.func74, Tryz.ntmps74
      go_wp2_with fail
      have hq1 := C1.out w
      refine hq1.mono ?_
      clear hq1
      rintro e w1 ⟨rfl, hb⟩
      have HB1 := Lib.hid (hb); clear hb
      go_wp2_with fail
      have hq2 := C2.out w1
      refine hq2.mono ?_
      clear hq2
      rintro e w2 ⟨rfl, hb⟩
      have HB2 := Lib.hid (next_below HB1.out hb); clear hb
      go_wp2_with fail
      have hq3 := C4.out w2
      refine hq3.mono ?_
      clear hq3
      rintro e w3 ⟨rfl, hb⟩
      have HB3 := Lib.hid (next_below HB2.out hb); clear hb
      go_wp2_with fail
      go_ret2
      exact ⟨rfl, HB3.out⟩
    · rw [decide_eq_false u1] at bz
      by_cases v2 : v = .inf
      · subst v2
        simp only [decide_true] at ai
        clear al bi bl
        have ht : timesV 3 .inf u = .inf := by rw [times23 (by decide) l1 l2]; unfold mulV; rw [if_neg (fun e => e.elim v1 u1)]
        rw [ht, limV_inf] at hr; clear ht l1 l2 v1 u1
        rw [hr]; clear hr pv rv ov ea fv' pu ru ou eb fu ha hb h1 h2
        go_enter Tryz.func74, Tryz.ntmps74
        go_wp2_with fail
        have hq1 := C1.out w
        refine hq1.mono ?_
        clear hq1
        rintro e w1 ⟨rfl, hb⟩
        have HB1 := Lib.hid (hb); clear hb
        go_wp2_with fail
        have hq2 := C2.out w1
        refine hq2.mono ?_
        clear hq2
        rintro e w2 ⟨rfl, hb⟩
        have HB2 := Lib.hid (next_below HB1.out hb); clear hb
        go_wp2_with fail
        have hq3 := C4.out w2
        refine hq3.mono ?_
        clear hq3
        rintro e w3 ⟨rfl, hb⟩
        have HB3 := Lib.hid (next_below HB2.out hb); clear hb
        go_wp2_with fail
        go_ret2
        exact ⟨rfl, HB3.out⟩
      · rw [decide_eq_false v2] at ai
        by_cases u2 : u = .inf
        · subst u2
          simp only [decide_true] at bi
          clear al bl
          have ht : timesV 3 v .inf = .inf := by rw [times23 (by decide) l1 l2]; unfold mulV; rw [if_neg (fun e => e.elim v1 u1)]; cases v <;> rfl
          rw [ht, limV_inf] at hr; clear ht l1 l2 v1 u1 v2
          rw [hr]; clear hr pv rv ov ea fv' pu ru ou eb fu ha hb h1 h2
          go_enter Tryz.func74, Tryz.ntmps74
          go_wp2_with fail
          have hq1 := C1.out w
          refine hq1.mono ?_
          clear hq1
          rintro e w1 ⟨rfl, hb⟩
          have HB1 := Lib.hid (hb); clear hb
          go_wp2_with fail
          have hq2 := C2.out w1
          refine hq2.mono ?_
          clear hq2
          rintro e w2 ⟨rfl, hb⟩
          have HB2 := Lib.hid (next_below HB1.out hb); clear hb
          go_wp2_with fail
          have hq3 := C4.out w2
          refine hq3.mono ?_
          clear hq3
          rintro e w3 ⟨rfl, hb⟩
          have HB3 := Lib.hid (next_below HB2.out hb); clear hb
          go_wp2_with fail
          go_ret2
          exact ⟨rfl, HB3.out⟩
        · rw [decide_eq_false u2] at bi
          cases v with
          | inf => exact absurd rfl v2
          | low => exact absurd rfl l1
          | fin x =>
            cases u with
            | inf => exact absurd rfl u2
            | low => exact absurd rfl l2
            | fin y =>
              have e3 : limV (timesV 3 (.fin x) (.fin y)) = qmulF a b := by
                rw [show timesV 3 (.fin x) (.fin y) = .fin (x * y) from by rw [times23 (by decide) l1 l2, mulV_fin], ea, eb]
                show limR (x * y) = qmulF (txt x) (txt y)
                unfold qmulF; rw [prs_txt fv', prs_txt fu]
              rw [hr, e3]
              have c3 := fun wx => smul_any a b wx ha hb
              generalize qmulF a b = r at *
              obtain ⟨rs, rn⟩ := r
              have C3 := Lib.hid c3; clear c3 e3 hr pv rv ov ea fv' pu ru ou eb fu ha hb h1 h2 v1 u1 v2 u2 l1 l2
              go_enter Tryz.func74, Tryz.ntmps74
              go_wp2_with fail
              have hq1 := C1.out w
              refine hq1.mono ?_
              clear hq1
              rintro e w1 ⟨rfl, hb⟩
              have HB1 := Lib.hid (hb); clear hb
              go_wp2_with fail
              have hq2 := C2.out w1
              refine hq2.mono ?_
              clear hq2
              rintro e w2 ⟨rfl, hb⟩
              have HB2 := Lib.hid (next_below HB1.out hb); clear hb
              go_wp2_with fail
              have hq3 := C4.out w2
              refine hq3.mono ?_
              clear hq3
              rintro e w3 ⟨rfl, hb⟩
              have HB3 := Lib.hid (next_below HB2.out hb); clear hb
              go_wp2_with fail
              have hq4 := C3.out w3
              refine hq4.mono ?_
              clear hq4
              rintro e w4 ⟨rfl, hb⟩
              have HB4 := Lib.hid (next_below HB3.out hb); clear hb
              go_wp2_with fail
              go_ret2
              exact ⟨rfl, HB4.out⟩
set_option maxHeartbeats 4000000 in
theorem r4times_n1 (k : Int) (a b : ByteArray) (w : World) (ha : a.size ≤ 9223372036854775807) (h1 : validF k a = false) : Calls Tryz.prog 74 #[.int .i64 k, .string a, .string b] w (PairEnd (timesF k a b) w) := by
  have c1 := fun wx => r4valid_any k a wx ha
  rw [h1] at c1
  rw [timesF_n1 h1]
  have C1 := Lib.hid c1; clear c1 h1 ha
  go_enter Tryz.func74, Tryz.ntmps74
  go_wp2_with fail
  have hq1 := C1.out w
  refine hq1.mono ?_
  clear hq1
  rintro e w1 ⟨rfl, hb⟩
  have HB1 := Lib.hid (hb); clear hb
  go_wp2_with fail
  go_ret2
  exact ⟨rfl, HB1.out⟩
set_option maxHeartbeats 4000000 in
theorem r4times_n2 (k : Int) (a b : ByteArray) (w : World) (ha : a.size ≤ 9223372036854775807) (hb : b.size ≤ 9223372036854775807) (h1 : validF k a = true) (h2 : validF k b = false) : Calls Tryz.prog 74 #[.int .i64 k, .string a, .string b] w (PairEnd (timesF k a b) w) := by
  have c1 := fun wx => r4valid_any k a wx ha
  have c2 := fun wx => r4valid_any k b wx hb
  rw [h1] at c1; rw [h2] at c2
  rw [timesF_n2 h2]
  have C1 := Lib.hid c1; clear c1 h1 ha
  have C2 := Lib.hid c2; clear c2 h2 hb
  go_enter Tryz.func74, Tryz.ntmps74
  go_wp2_with fail
  have hq1 := C1.out w
  refine hq1.mono ?_
  clear hq1
  rintro e w1 ⟨rfl, hb⟩
  have HB1 := Lib.hid (hb); clear hb
  go_wp2_with fail
  have hq2 := C2.out w1
  refine hq2.mono ?_
  clear hq2
  rintro e w2 ⟨rfl, hb⟩
  have HB2 := Lib.hid (next_below HB1.out hb); clear hb
  go_wp2_with fail
  go_ret2
  exact ⟨rfl, HB2.out⟩
theorem r4times_any (k : Int) (a b : ByteArray) (w : World) (ha : a.size ≤ 9223372036854775807) (hb : b.size ≤ 9223372036854775807) : Calls Tryz.prog 74 #[.int .i64 k, .string a, .string b] w (PairEnd (timesF k a b) w) := by
  cases h1 : validF k a with
  | false => exact r4times_n1 k a b w ha h1
  | true =>
    cases h2 : validF k b with
    | false => exact r4times_n2 k a b w ha hb h1 h2
    | true =>
      rcases kind_cases k with rfl | rfl | rfl | hk
      · exact r4times_1 a b w ha hb h1 h2
      · exact r4times_2 a b w ha hb h1 h2
      · exact r4times_3 a b w ha hb h1 h2
      · rw [validF_no hk] at h1; simp at h1
set_option maxHeartbeats 4000000 in
theorem r4star_n (k : Int) (a : ByteArray) (w : World) (ha : a.size ≤ 9223372036854775807) (h1 : validF k a = false) : Calls Tryz.prog 81 #[.int .i64 k, .string a] w (PairEnd (starF k a) w) := by
  have c1 := fun wx => r4valid_any k a wx ha
  rw [h1] at c1
  rw [starF_n h1]
  have C1 := Lib.hid c1; clear c1 h1 ha
  go_enter Tryz.func81, Tryz.ntmps81
  go_wp2_with fail
  have hq1 := C1.out w
  refine hq1.mono ?_
  clear hq1
  rintro e w1 ⟨rfl, hb⟩
  have HB1 := Lib.hid (hb); clear hb
  go_wp2_with fail
  go_ret2
  exact ⟨rfl, HB1.out⟩
set_option maxHeartbeats 4000000 in
theorem r4star_1 (a : ByteArray) (w : World) (ha : a.size ≤ 9223372036854775807) (h1 : validF 1 a = true) : Calls Tryz.prog 81 #[.int .i64 1, .string a] w (PairEnd (starF 1 a) w) := by
  have c1 := fun wx => r4valid_any 1 a wx ha
  rw [h1] at c1
  obtain ⟨v, pv, rv, ov, ea, fv'⟩ := valid_v h1
  have c2 := fun wx => r4one_any 1 wx
  rw [oneF_1] at c2
  have c3 := fun wx => rcompare4_any v (.fin 0) wx fv' fit_zero
  have hr : starF 1 a = limV (if 0 ≤ cmpV v (.fin 0) then .fin 0 else .low) := by unfold starF; rw [pv]; rfl
  have hl : limV (if 0 ≤ cmpV v (.fin 0) then .fin 0 else .low) = (if 0 ≤ cmpV v (.fin 0) then ⟨#[48]⟩ else ⟨#[45, 105, 110, 102]⟩, 0) := by
    split
    · exact (limR_fit fit_zero).trans (by rw [txt_zero])
    · rfl
  rw [hr, hl]
  change ∀ wx, Calls _ _ #[_, .string (txt 0)] wx _ at c3
  rw [txt_zero, ← ea] at c3
  have hz := cmpV_range v (.fin 0)
  generalize cmpV v (.fin 0) = z at *
  have C1 := Lib.hid c1; clear c1
  have C2 := Lib.hid c2; clear c2
  have C3 := Lib.hid c3; clear c3 hr hl pv rv ov ea fv' ha h1
  rcases hz with rfl | rfl | rfl
  · change Calls _ _ _ _ (PairEnd (⟨#[45, 105, 110, 102]⟩, 0) w)
    go_enter Tryz.func81, Tryz.ntmps81
    go_wp2_with fail
    have hq1 := C1.out w
    refine hq1.mono ?_
    clear hq1
    rintro e w1 ⟨rfl, hb⟩
    have HB1 := Lib.hid (hb); clear hb
    go_wp2_with fail
    have hq2 := C2.out w1
    refine hq2.mono ?_
    clear hq2
    rintro e w2 ⟨rfl, hb⟩
    have HB2 := Lib.hid (next_below HB1.out hb); clear hb
    go_wp2_with fail
    have hq3 := C3.out w2
    refine hq3.mono ?_
    clear hq3
    rintro e w3 ⟨rfl, hb⟩
    have HB3 := Lib.hid (next_below HB2.out hb); clear hb
    go_wp2_with fail
    go_ret2
    exact ⟨rfl, HB3.out⟩
  · change Calls _ _ _ _ (PairEnd (⟨#[48]⟩, 0) w)
    go_enter Tryz.func81, Tryz.ntmps81
    go_wp2_with fail
    have hq1 := C1.out w
    refine hq1.mono ?_
    clear hq1
    rintro e w1 ⟨rfl, hb⟩
    have HB1 := Lib.hid (hb); clear hb
    go_wp2_with fail
    have hq2 := C2.out w1
    refine hq2.mono ?_
    clear hq2
    rintro e w2 ⟨rfl, hb⟩
    have HB2 := Lib.hid (next_below HB1.out hb); clear hb
    go_wp2_with fail
    have hq3 := C3.out w2
    refine hq3.mono ?_
    clear hq3
    rintro e w3 ⟨rfl, hb⟩
    have HB3 := Lib.hid (next_below HB2.out hb); clear hb
    go_wp2_with fail
    go_ret2
    exact ⟨rfl, HB3.out⟩
  · change Calls _ _ _ _ (PairEnd (⟨#[48]⟩, 0) w)
    go_enter Tryz.func81, Tryz.ntmps81
    go_wp2_with fail
    have hq1 := C1.out w
    refine hq1.mono ?_
    clear hq1
    rintro e w1 ⟨rfl, hb⟩
    have HB1 := Lib.hid (hb); clear hb
    go_wp2_with fail
    have hq2 := C2.out w1
    refine hq2.mono ?_
    clear hq2
    rintro e w2 ⟨rfl, hb⟩
    have HB2 := Lib.hid (next_below HB1.out hb); clear hb
    go_wp2_with fail
    have hq3 := C3.out w2
    refine hq3.mono ?_
    clear hq3
    rintro e w3 ⟨rfl, hb⟩
    have HB3 := Lib.hid (next_below HB2.out hb); clear hb
    go_wp2_with fail
    go_ret2
    exact ⟨rfl, HB3.out⟩
set_option maxHeartbeats 4000000 in
theorem r4star_3 (a : ByteArray) (w : World) (ha : a.size ≤ 9223372036854775807) (h1 : validF 3 a = true) : Calls Tryz.prog 81 #[.int .i64 3, .string a] w (PairEnd (starF 3 a) w) := by
  have c1 := fun wx => r4valid_any 3 a wx ha
  rw [h1] at c1
  obtain ⟨v, pv, rv, ov, ea, fv'⟩ := valid_v h1
  have c2 := fun wx => r4one_any 3 wx
  rw [oneF_3] at c2
  have c3 := fun wx => rcompare4_any v (.fin 1) wx fv' fit_one
  have hr : starF 3 a = limV (if cmpV v (.fin 1) ≤ 0 then .fin 1 else .inf) := by unfold starF; rw [pv]; rfl
  have hl : limV (if cmpV v (.fin 1) ≤ 0 then .fin 1 else .inf) = (if cmpV v (.fin 1) ≤ 0 then ⟨#[49]⟩ else ⟨#[105, 110, 102]⟩, 0) := by
    split
    · exact (limR_fit fit_one).trans (by rw [txt_one])
    · rfl
  rw [hr, hl]
  change ∀ wx, Calls _ _ #[_, .string (txt 1)] wx _ at c3
  rw [txt_one, ← ea] at c3
  have hz := cmpV_range v (.fin 1)
  generalize cmpV v (.fin 1) = z at *
  have C1 := Lib.hid c1; clear c1
  have C2 := Lib.hid c2; clear c2
  have C3 := Lib.hid c3; clear c3 hr hl pv rv ov ea fv' ha h1
  rcases hz with rfl | rfl | rfl
  · change Calls _ _ _ _ (PairEnd (⟨#[49]⟩, 0) w)
    go_enter Tryz.func81, Tryz.ntmps81
    go_wp2_with fail
    have hq1 := C1.out w
    refine hq1.mono ?_
    clear hq1
    rintro e w1 ⟨rfl, hb⟩
    have HB1 := Lib.hid (hb); clear hb
    go_wp2_with fail
    have hq2 := C2.out w1
    refine hq2.mono ?_
    clear hq2
    rintro e w2 ⟨rfl, hb⟩
    have HB2 := Lib.hid (next_below HB1.out hb); clear hb
    go_wp2_with fail
    have hq3 := C3.out w2
    refine hq3.mono ?_
    clear hq3
    rintro e w3 ⟨rfl, hb⟩
    have HB3 := Lib.hid (next_below HB2.out hb); clear hb
    go_wp2_with fail
    go_ret2
    exact ⟨rfl, HB3.out⟩
  · change Calls _ _ _ _ (PairEnd (⟨#[49]⟩, 0) w)
    go_enter Tryz.func81, Tryz.ntmps81
    go_wp2_with fail
    have hq1 := C1.out w
    refine hq1.mono ?_
    clear hq1
    rintro e w1 ⟨rfl, hb⟩
    have HB1 := Lib.hid (hb); clear hb
    go_wp2_with fail
    have hq2 := C2.out w1
    refine hq2.mono ?_
    clear hq2
    rintro e w2 ⟨rfl, hb⟩
    have HB2 := Lib.hid (next_below HB1.out hb); clear hb
    go_wp2_with fail
    have hq3 := C3.out w2
    refine hq3.mono ?_
    clear hq3
    rintro e w3 ⟨rfl, hb⟩
    have HB3 := Lib.hid (next_below HB2.out hb); clear hb
    go_wp2_with fail
    go_ret2
    exact ⟨rfl, HB3.out⟩
  · change Calls _ _ _ _ (PairEnd (⟨#[105, 110, 102]⟩, 0) w)
    go_enter Tryz.func81, Tryz.ntmps81
    go_wp2_with fail
    have hq1 := C1.out w
    refine hq1.mono ?_
    clear hq1
    rintro e w1 ⟨rfl, hb⟩
    have HB1 := Lib.hid (hb); clear hb
    go_wp2_with fail
    have hq2 := C2.out w1
    refine hq2.mono ?_
    clear hq2
    rintro e w2 ⟨rfl, hb⟩
    have HB2 := Lib.hid (next_below HB1.out hb); clear hb
    go_wp2_with fail
    have hq3 := C3.out w2
    refine hq3.mono ?_
    clear hq3
    rintro e w3 ⟨rfl, hb⟩
    have HB3 := Lib.hid (next_below HB2.out hb); clear hb
    go_wp2_with fail
    go_ret2
    exact ⟨rfl, HB3.out⟩
set_option maxHeartbeats 4000000 in
theorem r4star_2 (a : ByteArray) (w : World) (ha : a.size ≤ 9223372036854775807) (h1 : validF 2 a = true) : Calls Tryz.prog 81 #[.int .i64 2, .string a] w (PairEnd (starF 2 a) w) := by
  have c1 := fun wx => r4valid_any 2 a wx ha
  rw [h1] at c1
  obtain ⟨v, pv, rv, ov, ea, fv'⟩ := valid_v h1
  have c2 := fun wx => r4one_any 2 wx
  rw [oneF_2] at c2
  have c3 := fun wx => rcompare4_any v (.fin 1) wx fv' fit_one
  have hr : starF 2 a = limV (starV 2 v) := by unfold starF; rw [pv]
  rw [hr]
  change ∀ wx, Calls _ _ #[_, .string (txt 1)] wx _ at c3
  rw [txt_one, ← ea] at c3
  have C1 := Lib.hid c1; clear c1
  have C2 := Lib.hid c2; clear c2
  rcases okV23 ov (by decide) with rfl | ⟨x, rfl, hx⟩
  · have hs : limV (starV 2 .inf) = (⟨#[105, 110, 102]⟩, 0) := rfl
    have hz : cmpV .inf (.fin 1) = 1 := rfl
    rw [hs]; rw [hz] at c3
    have C3 := Lib.hid c3; clear c3 hr hs hz pv rv ov ea fv' ha h1
    go_enter Tryz.func81, Tryz.ntmps81
    go_wp2_with fail
    have hq1 := C1.out w
    refine hq1.mono ?_
    clear hq1
    rintro e w1 ⟨rfl, hb⟩
    have HB1 := Lib.hid (hb); clear hb
    go_wp2_with fail
    have hq2 := C2.out w1
    refine hq2.mono ?_
    clear hq2
    rintro e w2 ⟨rfl, hb⟩
    have HB2 := Lib.hid (next_below HB1.out hb); clear hb
    go_wp2_with fail
    have hq3 := C3.out w2
    refine hq3.mono ?_
    clear hq3
    rintro e w3 ⟨rfl, hb⟩
    have HB3 := Lib.hid (next_below HB2.out hb); clear hb
    go_wp2_with fail
    go_ret2
    exact ⟨rfl, HB3.out⟩
  · have hs : starV 2 (.fin x) = if 0 ≤ cmpQ x 1 then .inf else .fin (1 / (1 - x)) := rfl
    have hc : cmpV (.fin x) (.fin 1) = cmpQ x 1 := rfl
    rw [hc] at c3
    rcases cmpQ_cases x 1 with ⟨h, e⟩ | h
    · have hf := fit_sub1 fv' hx h
      have hd : 1 - x ≠ 0 := Rat.ne_of_gt ((Rat.lt_iff_sub_pos x 1).1 h)
      have hr2 : limV (starV 2 (.fin x)) = limR (1 / (1 - x)) := by rw [hs, e]; rfl
      have z2 := txt_size hf
      have c4 := fun wx => ssub_any ⟨#[49]⟩ a wx (by decide) ha
      have c5 := fun wx => sdiv_any ⟨#[49]⟩ (txt (1 - x)) wx (by decide) (by omega)
      have e2 : qsubF ⟨#[49]⟩ a = (txt (1 - x), 0) := by rw [ea]; show qsubF ⟨#[49]⟩ (txt x) = _; unfold qsubF; rw [prs_one, prs_txt fv']; exact limR_fit hf
      have e3 : qdivF ⟨#[49]⟩ (txt (1 - x)) = limR (1 / (1 - x)) := by unfold qdivF; rw [prs_one, prs_txt hf]; exact if_neg hd
      rw [e2] at c4; rw [e3] at c5; rw [e] at c3; rw [hr2]
      generalize limR (1 / (1 - x)) = lr at *
      obtain ⟨ls, ln⟩ := lr
      generalize txt (1 - x) = b at *
      have C3 := Lib.hid c3; clear c3
      have C4 := Lib.hid c4; clear c4
      have C5 := Lib.hid c5; clear c5 hr hr2 hs hc h e hf hd z2 e2 e3 pv rv ov ea fv' ha h1 hx
      go_enter Tryz.func81, Tryz.ntmps81
      go_wp2_with fail
      have hq1 := C1.out w
      refine hq1.mono ?_
      clear hq1
      rintro e w1 ⟨rfl, hb⟩
      have HB1 := Lib.hid (hb); clear hb
      go_wp2_with fail
      have hq2 := C2.out w1
      refine hq2.mono ?_
      clear hq2
      rintro e w2 ⟨rfl, hb⟩
      have HB2 := Lib.hid (next_below HB1.out hb); clear hb
      go_wp2_with fail
      have hq3 := C3.out w2
      refine hq3.mono ?_
      clear hq3
      rintro e w3 ⟨rfl, hb⟩
      have HB3 := Lib.hid (next_below HB2.out hb); clear hb
      go_wp2_with fail
      have hq4 := C4.out w3
      refine hq4.mono ?_
      clear hq4
      rintro e w4 ⟨rfl, hb⟩
      have HB4 := Lib.hid (next_below HB3.out hb); clear hb
      go_wp2_with fail
      have hq5 := C5.out w4
      refine hq5.mono ?_
      clear hq5
      rintro e w5 ⟨rfl, hb⟩
      have HB5 := Lib.hid (next_below HB4.out hb); clear hb
      go_wp2_with fail
      go_ret2
      exact ⟨rfl, HB5.out⟩
    · have hge : 0 ≤ cmpQ x 1 := by rcases h with ⟨_, e⟩ | ⟨_, e⟩ <;> rw [e] <;> decide
      have hr2 : limV (starV 2 (.fin x)) = (⟨#[105, 110, 102]⟩, 0) := by rw [hs, if_pos hge]; rfl
      rw [hr2]
      generalize cmpQ x 1 = z at *
      have C3 := Lib.hid c3; clear c3 hr hr2 hs hc h pv rv ov ea fv' ha h1 hx
      go_enter Tryz.func81, Tryz.ntmps81
      go_wp2_with fail
      have hq1 := C1.out w
      refine hq1.mono ?_
      clear hq1
      rintro e w1 ⟨rfl, hb⟩
      have HB1 := Lib.hid (hb); clear hb
      go_wp2_with fail
      have hq2 := C2.out w1
      refine hq2.mono ?_
      clear hq2
      rintro e w2 ⟨rfl, hb⟩
      have HB2 := Lib.hid (next_below HB1.out hb); clear hb
      go_wp2_with fail
      have hq3 := C3.out w2
      refine hq3.mono ?_
      clear hq3
      rintro e w3 ⟨rfl, hb⟩
      have HB3 := Lib.hid (next_below HB2.out hb); clear hb
      go_wp2_with fail
      go_ret2
      exact ⟨rfl, HB3.out⟩
theorem r4star_any (k : Int) (a : ByteArray) (w : World) (ha : a.size ≤ 9223372036854775807) : Calls Tryz.prog 81 #[.int .i64 k, .string a] w (PairEnd (starF k a) w) := by
  cases h1 : validF k a with
  | false => exact r4star_n k a w ha h1
  | true =>
    rcases kind_cases k with rfl | rfl | rfl | hk
    · exact r4star_1 a w ha h1
    · exact r4star_2 a w ha h1
    · exact r4star_3 a w ha h1
    · rw [validF_no hk] at h1; simp at h1
end Go.Proofs.YtlmfppjphblemaaGreatDoor
