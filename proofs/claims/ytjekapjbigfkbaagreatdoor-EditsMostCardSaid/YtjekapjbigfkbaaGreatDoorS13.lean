/- Parts of a proof: MS2. -/
import Derived.Test.YtjekapjbigfkbaaGreatDoorS12
namespace Go.Proofs.YtjekapjbigfkbaaGreatDoor
open Go Go.RowKit
set_option maxRecDepth 100000
theorem txt_zero : txt 0 = ⟨#[48]⟩ := ((txt_prs prs_zero).1).symm
theorem fit_zero : fitQ 0 := (txt_prs prs_zero).2
theorem prs_one : prs ⟨#[49]⟩ = some 1 := by
  have : txt 1 = ⟨#[49]⟩ := by unfold txt txtL; rw [show negQ 1 = false from rfl, show (1 : Rat).num.natAbs = 1 from rfl, show (1 : Rat).den = 1 from rfl, dec_one]; rfl
  rw [← this]; exact prs_txt (by unfold fitQ; rw [show (1 : Rat).num.natAbs = 1 from rfl, show (1 : Rat).den = 1 from rfl, dec_one]; decide)
theorem txt_one : txt 1 = ⟨#[49]⟩ := ((txt_prs prs_one).1).symm
def natB (a : ByteArray) : Bool := match prs a with | some q => decide (0 ≤ q) | none => false
def posB (a : ByteArray) : Bool := match prs a with | some q => decide (0 < q) | none => false
theorem qcmpF_zero {a : ByteArray} {q : Rat} (h : prs a = some q) : qcmpF a ⟨#[48]⟩ = cmpQ q 0 := by unfold qcmpF; rw [h, prs_zero]
theorem weightF_1 (a : ByteArray) : weightF 1 a = (prs a).isSome := by
  unfold weightF rdV
  by_cases h1 : a = infS
  · rw [if_pos h1, h1, prs_inf]; rfl
  · rw [if_neg h1]
    by_cases h2 : a = lowS
    · rw [if_pos h2, h2, prs_low]; rfl
    · rw [if_neg h2]
      cases prs a with
      | none => rfl
      | some q => simp [wtV]
theorem weightF_23 {k : Int} (hk : k = 2 ∨ k = 3) (a : ByteArray) : weightF k a = posB a := by
  unfold weightF rdV posB
  by_cases h1 : a = infS
  · rw [if_pos h1, h1, prs_inf]; rfl
  · rw [if_neg h1]
    by_cases h2 : a = lowS
    · rw [if_pos h2, h2, prs_low]; rfl
    · rw [if_neg h2]
      cases prs a with
      | none => rfl
      | some q =>
        show decide (wtV k (.fin q)) = decide (0 < q)
        rw [decide_eq_decide]
        constructor
        · intro h; rcases h with h | h
          · omega
          · exact h.2
        · intro h; exact .inr ⟨hk, h⟩
theorem validF_inf {k : Int} (hk : k = 1 ∨ k = 2 ∨ k = 3) : validF k infS = true := by
  have : vprs k infS = some .inf := vprs_some.2 ⟨by simp [rdV], by unfold okV; omega⟩
  unfold validF; rw [this]; rfl
theorem validF_low1 : validF 1 lowS = true := by
  have : vprs 1 lowS = some .low := vprs_some.2 ⟨by simp [rdV, show lowS ≠ infS by decide], rfl⟩
  unfold validF; rw [this]; rfl
theorem validF_1 {a : ByteArray} (h1 : a ≠ infS) (h2 : a ≠ lowS) : validF 1 a = (prs a).isSome := by
  unfold validF vprs rdV
  rw [if_neg h1, if_neg h2]
  cases prs a with
  | none => rfl
  | some q => simp [okV]
theorem validF_23 {k : Int} (hk : k = 2 ∨ k = 3) {a : ByteArray} (h1 : a ≠ infS) : validF k a = natB a := by
  unfold validF vprs rdV natB
  rw [if_neg h1]
  by_cases h2 : a = lowS
  · rw [if_pos h2, h2, prs_low]
    have : decide (okV k .low) = false := by rw [decide_eq_false_iff_not]; intro h; change k = 1 at h; omega
    simp [Option.filter, this]
  · rw [if_neg h2]
    cases prs a with
    | none => rfl
    | some q =>
      have : decide (okV k (.fin q)) = decide (0 ≤ q) := by
        rw [decide_eq_decide]
        constructor
        · intro h; rcases h with h | h
          · omega
          · exact h.2
        · intro h; exact .inr ⟨hk, h⟩
      simp only [Option.map_some, Option.filter, this]
      cases decide (0 ≤ q) <;> rfl
def BoolE (b : Bool) (w : World) (e : Ending) (w' : World) : Prop := e = .returned (.bool b) ∧ Below w.heap.size w w'
theorem ratvalid_any (a : ByteArray) (w : World) (ha : a.size ≤ 9223372036854775807) (ht : Tab w) : Calls Tryz.prog 91 #[.string a] w (BoolE (prs a).isSome w) := qvalid_any a w ha ht
theorem natural_any (a : ByteArray) (w : World) (ha : a.size ≤ 9223372036854775807) (ht : Tab w) : Calls Tryz.prog 160 #[.string a] w (BoolE (natB a) w) := by
  have c1 := qvalid_any a w ha ht
  have c2 := fun wx (h : Below w.heap.size w wx) => qcmp_any a ⟨#[48]⟩ wx ha (by decide) (ht.below h (Nat.le_refl _))
  cases h1 : prs a with
  | none =>
    have hr : natB a = false := by unfold natB; rw [h1]
    rw [hr]; rw [h1] at c1; simp only [Option.isSome] at c1
    have C1 := Lib.hid c1; clear c1 c2 h1 hr ha ht
    go_enter Tryz.func160, Tryz.ntmps160
    go_wp2_with fail
    refine C1.out.mono ?_
    rintro e w1 ⟨rfl, hb⟩
    have HB1 := Lib.hid hb; clear hb
    go_wp2_with fail
    go_ret
    exact ⟨rfl, HB1.out⟩
  | some q =>
    have hr : natB a = decide (0 ≤ q) := by unfold natB; rw [h1]
    rw [qcmpF_zero h1] at c2
    rw [hr]; rw [h1] at c1; simp only [Option.isSome] at c1
    have C1 := Lib.hid c1; clear c1
    have hd : (decide (0 ≤ q) = decide (0 ≤ cmpQ q 0)) := by
      rcases cmpQ_cases q 0 with ⟨h, e⟩ | ⟨h, e⟩ | ⟨h, e⟩ <;> rw [e]
      · rw [decide_eq_decide]; simp; exact Rat.not_le.2 h
      · subst h; rfl
      · rw [decide_eq_decide]; simp; exact Rat.le_of_lt h
    rw [hd]
    have hz : cmpQ q 0 = -1 ∨ cmpQ q 0 = 0 ∨ cmpQ q 0 = 1 := by rcases cmpQ_cases q 0 with ⟨h, e⟩ | ⟨h, e⟩ | ⟨h, e⟩ <;> simp [e]
    generalize cmpQ q 0 = z at *
    have C2 := Lib.hid c2; clear c2 h1 hr ha ht hd
    rcases hz with rfl | rfl | rfl
    all_goals
      go_enter Tryz.func160, Tryz.ntmps160
      go_wp2_with fail
      refine C1.out.mono ?_
      rintro e w1 ⟨rfl, hb⟩
      have HB1 := Lib.hid hb; clear hb
      go_wp2_with fail
      refine (C2.out _ HB1.out).mono ?_
      rintro e w2 ⟨rfl, hb⟩
      have HB2 := Lib.hid (HB1.out.trans (hb.mono HB1.out.size)); clear hb
      go_wp2_with fail
      go_ret
      exact ⟨rfl, HB2.out⟩
theorem positive_any (a : ByteArray) (w : World) (ha : a.size ≤ 9223372036854775807) (ht : Tab w) : Calls Tryz.prog 161 #[.string a] w (BoolE (posB a) w) := by
  have c1 := qvalid_any a w ha ht
  have c2 := fun wx (h : Below w.heap.size w wx) => qcmp_any a ⟨#[48]⟩ wx ha (by decide) (ht.below h (Nat.le_refl _))
  cases h1 : prs a with
  | none =>
    have hr : posB a = false := by unfold posB; rw [h1]
    rw [hr]; rw [h1] at c1; simp only [Option.isSome] at c1
    have C1 := Lib.hid c1; clear c1 c2 h1 hr ha ht
    go_enter Tryz.func161, Tryz.ntmps161
    go_wp2_with fail
    refine C1.out.mono ?_
    rintro e w1 ⟨rfl, hb⟩
    have HB1 := Lib.hid hb; clear hb
    go_wp2_with fail
    go_ret
    exact ⟨rfl, HB1.out⟩
  | some q =>
    have hr : posB a = decide (0 < q) := by unfold posB; rw [h1]
    rw [qcmpF_zero h1] at c2
    rw [hr]; rw [h1] at c1; simp only [Option.isSome] at c1
    have C1 := Lib.hid c1; clear c1
    have hd : (decide (0 < q) = decide (0 < cmpQ q 0)) := by
      rcases cmpQ_cases q 0 with ⟨h, e⟩ | ⟨h, e⟩ | ⟨h, e⟩ <;> rw [e]
      · rw [decide_eq_decide]; simp; exact Rat.not_lt.2 (Rat.le_of_lt h)
      · subst h; rfl
      · rw [decide_eq_decide]; simp; exact h
    rw [hd]
    have hz : cmpQ q 0 = -1 ∨ cmpQ q 0 = 0 ∨ cmpQ q 0 = 1 := by rcases cmpQ_cases q 0 with ⟨h, e⟩ | ⟨h, e⟩ | ⟨h, e⟩ <;> simp [e]
    generalize cmpQ q 0 = z at *
    have C2 := Lib.hid c2; clear c2 h1 hr ha ht hd
    rcases hz with rfl | rfl | rfl
    all_goals
      go_enter Tryz.func161, Tryz.ntmps161
      go_wp2_with fail
      refine C1.out.mono ?_
      rintro e w1 ⟨rfl, hb⟩
      have HB1 := Lib.hid hb; clear hb
      go_wp2_with fail
      refine (C2.out _ HB1.out).mono ?_
      rintro e w2 ⟨rfl, hb⟩
      have HB2 := Lib.hid (HB1.out.trans (hb.mono HB1.out.size)); clear hb
      go_wp2_with fail
      go_ret
      exact ⟨rfl, HB2.out⟩
set_option maxHeartbeats 2000000 in
theorem valid1_any (a : ByteArray) (w : World) (ha : a.size ≤ 9223372036854775807) (ht : Tab w) : Calls Tryz.prog 74 #[.agg ring1, .string a] w (BoolE (validF 1 a) w) := by
  have hb0 : Below w.heap.size w (w.alloc (.cells ring1 116)) := (Below.refl _ _).alloc (Nat.le_refl _) _
  have c1 := fun wx (h : Below w.heap.size w wx) => ratvalid_any a wx ha (ht.below h (Nat.le_refl _))
  have C1 := Lib.hid c1; clear c1 ha ht
  have HB0 := Lib.hid hb0; clear hb0
  unfold ring1 at HB0 ⊢
  by_cases h1 : a = infS
  · have e1 : (a.toList == [105, 110, 102]) = true := by rw [h1, infS_list]; rfl
    have hr : validF 1 a = true := by rw [h1]; exact validF_inf (by omega)
    rw [hr]; clear hr h1
    go_enter Tryz.func74, Tryz.ntmps74
    go_wp2_with fail
    go_ret
    exact ⟨rfl, HB0.out⟩
  · have e1 : (a.toList == [105, 110, 102]) = false := ne_list (l := [105, 110, 102]) h1
    by_cases h2 : a = lowS
    · have e2 : (a.toList == [45, 105, 110, 102]) = true := by rw [h2, lowS_list]; rfl
      have hr : validF 1 a = true := by rw [h2]; exact validF_low1
      rw [hr]; clear hr h1 h2
      go_enter Tryz.func74, Tryz.ntmps74
      go_wp2_with fail
      go_ret
      exact ⟨rfl, HB0.out⟩
    · have e2 : (a.toList == [45, 105, 110, 102]) = false := ne_list (l := [45, 105, 110, 102]) h2
      rw [validF_1 h1 h2]; clear h1 h2
      go_enter Tryz.func74, Tryz.ntmps74
      go_wp2_with fail
      refine (C1.out _ HB0.out).mono ?_
      rintro e w1 ⟨rfl, hb⟩
      have HB1 := Lib.hid (next_below HB0.out hb); clear hb
      go_wp2_with fail
      go_ret
      exact ⟨rfl, HB1.out⟩
set_option maxHeartbeats 2000000 in
theorem valid2_any (a : ByteArray) (w : World) (ha : a.size ≤ 9223372036854775807) (ht : Tab w) : Calls Tryz.prog 74 #[.agg ring2, .string a] w (BoolE (validF 2 a) w) := by
  have hb0 : Below w.heap.size w (w.alloc (.cells ring2 116)) := (Below.refl _ _).alloc (Nat.le_refl _) _
  have c1 := fun wx (h : Below w.heap.size w wx) => natural_any a wx ha (ht.below h (Nat.le_refl _))
  have C1 := Lib.hid c1; clear c1 ha ht
  have HB0 := Lib.hid hb0; clear hb0
  unfold ring2 at HB0 ⊢
  by_cases h1 : a = infS
  · have e1 : (a.toList == [105, 110, 102]) = true := by rw [h1, infS_list]; rfl
    have hr : validF 2 a = true := by rw [h1]; exact validF_inf (by omega)
    rw [hr]; clear hr h1
    go_enter Tryz.func74, Tryz.ntmps74
    go_wp2_with fail
    go_ret
    exact ⟨rfl, HB0.out⟩
  · have e1 : (a.toList == [105, 110, 102]) = false := ne_list (l := [105, 110, 102]) h1
    rw [validF_23 (by omega) h1]; clear h1
    cases e2 : (a.toList == [45, 105, 110, 102])
    all_goals
      go_enter Tryz.func74, Tryz.ntmps74
      go_wp2_with fail
      refine (C1.out _ HB0.out).mono ?_
      rintro e w1 ⟨rfl, hb⟩
      have HB1 := Lib.hid (next_below HB0.out hb); clear hb
      go_wp2_with fail
      go_ret
      exact ⟨rfl, HB1.out⟩
set_option maxHeartbeats 2000000 in
theorem valid3_any (a : ByteArray) (w : World) (ha : a.size ≤ 9223372036854775807) (ht : Tab w) : Calls Tryz.prog 74 #[.agg ring3, .string a] w (BoolE (validF 3 a) w) := by
  have hb0 : Below w.heap.size w (w.alloc (.cells ring3 116)) := (Below.refl _ _).alloc (Nat.le_refl _) _
  have c1 := fun wx (h : Below w.heap.size w wx) => natural_any a wx ha (ht.below h (Nat.le_refl _))
  have C1 := Lib.hid c1; clear c1 ha ht
  have HB0 := Lib.hid hb0; clear hb0
  unfold ring3 at HB0 ⊢
  by_cases h1 : a = infS
  · have e1 : (a.toList == [105, 110, 102]) = true := by rw [h1, infS_list]; rfl
    have hr : validF 3 a = true := by rw [h1]; exact validF_inf (by omega)
    rw [hr]; clear hr h1
    go_enter Tryz.func74, Tryz.ntmps74
    go_wp2_with fail
    go_ret
    exact ⟨rfl, HB0.out⟩
  · have e1 : (a.toList == [105, 110, 102]) = false := ne_list (l := [105, 110, 102]) h1
    rw [validF_23 (by omega) h1]; clear h1
    cases e2 : (a.toList == [45, 105, 110, 102])
    all_goals
      go_enter Tryz.func74, Tryz.ntmps74
      go_wp2_with fail
      refine (C1.out _ HB0.out).mono ?_
      rintro e w1 ⟨rfl, hb⟩
      have HB1 := Lib.hid (next_below HB0.out hb); clear hb
      go_wp2_with fail
      go_ret
      exact ⟨rfl, HB1.out⟩
theorem cell_kept {w wk : World} {c : Array Value} {t : TypeId} (h : Below (w.alloc (.cells c t)).heap.size (w.alloc (.cells c t)) wk) (i : Nat) : wk.cell? ⟨w.heap.size, i, none⟩ = c[i]? := by
  have hlt : w.heap.size < (w.alloc (.cells c t)).heap.size := by simp
  exact (h.cell (p := ⟨w.heap.size, i, none⟩) hlt).trans (cell_of_row _ _ i c t (0, 0) (heap_alloc_last w _))
set_option maxHeartbeats 2000000 in
theorem choose1_any (v u : V) (w : World) (hv : fitV v) (hu : fitV u) (ht : Tab w) : Calls Tryz.prog 155 #[.agg ring1, .string (vtxt v), .string (vtxt u)] w (PairEnd (limV (plusV 1 v u)) w) := by
  have hb0 : Below w.heap.size w (w.alloc (.cells ring1 116)) := (Below.refl _ _).alloc (Nat.le_refl _) _
  have c1 := fun wx (h : Below w.heap.size w wx) => vcompare_any v u wx hv hu (ht.below h (Nat.le_refl _))
  have hp : plusV 1 v u = if 0 < cmpV v u then u else v := by unfold plusV; rfl
  rw [hp]
  have hl : limV (if 0 < cmpV v u then u else v) = (if 0 < cmpV v u then vtxt u else vtxt v, 0) := by split <;> (rw [limV_fit]; assumption)
  rw [hl]
  have hz := cmpV_range v u
  generalize cmpV v u = z at *
  have C1 := Lib.hid c1; clear c1 ht hp hl
  have HB0 := Lib.hid hb0; clear hb0
  unfold ring1 at HB0 ⊢
  generalize vtxt v = a at *
  generalize vtxt u = b at *
  clear hv hu
  rcases hz with rfl | rfl | rfl
  · change Calls _ _ _ _ (PairEnd (a, 0) w)
    go_enter Tryz.func155, Tryz.ntmps155
    go_wp2_with fail
    refine (C1.out _ HB0.out).mono ?_
    rintro e w1 ⟨rfl, hb⟩
    have HS1 := Lib.hid hb
    have HB1 := Lib.hid (next_below HB0.out hb); clear hb
    have k2 := cell_kept HS1.out 2
    go_wp2_with fail
    go_ret2
    exact ⟨rfl, HB1.out⟩
  · change Calls _ _ _ _ (PairEnd (a, 0) w)
    go_enter Tryz.func155, Tryz.ntmps155
    go_wp2_with fail
    refine (C1.out _ HB0.out).mono ?_
    rintro e w1 ⟨rfl, hb⟩
    have HS1 := Lib.hid hb
    have HB1 := Lib.hid (next_below HB0.out hb); clear hb
    have k2 := cell_kept HS1.out 2
    go_wp2_with fail
    go_ret2
    exact ⟨rfl, HB1.out⟩
  · change Calls _ _ _ _ (PairEnd (b, 0) w)
    go_enter Tryz.func155, Tryz.ntmps155
    go_wp2_with fail
    refine (C1.out _ HB0.out).mono ?_
    rintro e w1 ⟨rfl, hb⟩
    have HS1 := Lib.hid hb
    have HB1 := Lib.hid (next_below HB0.out hb); clear hb
    have k2 := cell_kept HS1.out 2
    go_wp2_with fail
    go_ret2
    exact ⟨rfl, HB1.out⟩
set_option maxHeartbeats 2000000 in
theorem choose3_any (v u : V) (w : World) (hv : fitV v) (hu : fitV u) (ht : Tab w) : Calls Tryz.prog 155 #[.agg ring3, .string (vtxt v), .string (vtxt u)] w (PairEnd (limV (plusV 3 v u)) w) := by
  have hb0 : Below w.heap.size w (w.alloc (.cells ring3 116)) := (Below.refl _ _).alloc (Nat.le_refl _) _
  have c1 := fun wx (h : Below w.heap.size w wx) => vcompare_any v u wx hv hu (ht.below h (Nat.le_refl _))
  have hp : plusV 3 v u = if cmpV v u < 0 then u else v := by unfold plusV; rfl
  rw [hp]
  have hl : limV (if cmpV v u < 0 then u else v) = (if cmpV v u < 0 then vtxt u else vtxt v, 0) := by split <;> (rw [limV_fit]; assumption)
  rw [hl]
  have hz := cmpV_range v u
  generalize cmpV v u = z at *
  have C1 := Lib.hid c1; clear c1 ht hp hl
  have HB0 := Lib.hid hb0; clear hb0
  unfold ring3 at HB0 ⊢
  generalize vtxt v = a at *
  generalize vtxt u = b at *
  clear hv hu
  rcases hz with rfl | rfl | rfl
  · change Calls _ _ _ _ (PairEnd (b, 0) w)
    go_enter Tryz.func155, Tryz.ntmps155
    go_wp2_with fail
    refine (C1.out _ HB0.out).mono ?_
    rintro e w1 ⟨rfl, hb⟩
    have HS1 := Lib.hid hb
    have HB1 := Lib.hid (next_below HB0.out hb); clear hb
    have k2 := cell_kept HS1.out 2
    go_wp2_with fail
    go_ret2
    exact ⟨rfl, HB1.out⟩
  · change Calls _ _ _ _ (PairEnd (a, 0) w)
    go_enter Tryz.func155, Tryz.ntmps155
    go_wp2_with fail
    refine (C1.out _ HB0.out).mono ?_
    rintro e w1 ⟨rfl, hb⟩
    have HS1 := Lib.hid hb
    have HB1 := Lib.hid (next_below HB0.out hb); clear hb
    have k2 := cell_kept HS1.out 2
    go_wp2_with fail
    go_ret2
    exact ⟨rfl, HB1.out⟩
  · change Calls _ _ _ _ (PairEnd (a, 0) w)
    go_enter Tryz.func155, Tryz.ntmps155
    go_wp2_with fail
    refine (C1.out _ HB0.out).mono ?_
    rintro e w1 ⟨rfl, hb⟩
    have HS1 := Lib.hid hb
    have HB1 := Lib.hid (next_below HB0.out hb); clear hb
    have k2 := cell_kept HS1.out 2
    go_wp2_with fail
    go_ret2
    exact ⟨rfl, HB1.out⟩
set_option maxHeartbeats 2000000 in
theorem sum_any (v u : V) (w : World) (hv : fitV v) (hu : fitV u) (lv : v ≠ .low) (lu : u ≠ .low) (ht : Tab w) : Calls Tryz.prog 157 #[.agg ring2, .string (vtxt v), .string (vtxt u)] w (PairEnd (limV (plusV 2 v u)) w) := by
  have hb0 : Below w.heap.size w (w.alloc (.cells ring2 116)) := (Below.refl _ _).alloc (Nat.le_refl _) _
  rw [plusV2]
  cases v with
  | low => exact absurd rfl lv
  | inf =>
    have hr : limV (addV .inf u) = (infS, 0) := by cases u <;> rfl
    rw [hr]
    have e1 : ((vtxt .inf).toList == [105, 110, 102]) = true := by show (infS.toList == _) = _; rw [infS_list]; rfl
    generalize vtxt .inf = a at *
    generalize vtxt u = b at *
    have HB0 := Lib.hid hb0; clear hb0 hv hu lv lu ht hr
    unfold ring2 at HB0 ⊢
    unfold infS
    go_enter Tryz.func157, Tryz.ntmps157
    go_wp2_with fail
    go_ret2
    exact ⟨rfl, HB0.out⟩
  | fin x =>
    have e1 : ((vtxt (.fin x)).toList == [105, 110, 102]) = false := txt_ne_inf hv
    cases u with
    | low => exact absurd rfl lu
    | inf =>
      have hr : limV (addV (.fin x) .inf) = (infS, 0) := rfl
      rw [hr]
      have e2 : ((vtxt .inf).toList == [105, 110, 102]) = true := by show (infS.toList == _) = _; rw [infS_list]; rfl
      generalize vtxt .inf = b at *
      generalize vtxt (.fin x) = a at *
      have HB0 := Lib.hid hb0; clear hb0 hv hu lv lu ht hr
      unfold ring2 at HB0 ⊢
      unfold infS
      go_enter Tryz.func157, Tryz.ntmps157
      go_wp2_with fail
      go_ret2
      exact ⟨rfl, HB0.out⟩
    | fin y =>
      have e2 : ((vtxt (.fin y)).toList == [105, 110, 102]) = false := txt_ne_inf hu
      have hz1 := txt_size hv
      have hz2 := txt_size hu
      have c1 := fun wx (h : Below w.heap.size w wx) => qadd_any (txt x) (txt y) wx (by omega) (by omega) (ht.below h (Nat.le_refl _))
      have hr : qaddF (txt x) (txt y) = limV (addV (.fin x) (.fin y)) := by unfold qaddF; rw [prs_txt hv, prs_txt hu]; rfl
      rw [hr] at c1
      change Calls _ _ #[_, .string (txt x), .string (txt y)] _ _
      change ((txt x).toList == _) = _ at e1
      change ((txt y).toList == _) = _ at e2
      generalize limV (addV (.fin x) (.fin y)) = lr at *
      obtain ⟨ls, ln⟩ := lr
      generalize txt x = a at *
      generalize txt y = b at *
      have C1 := Lib.hid c1; clear c1
      have HB0 := Lib.hid hb0; clear hb0 hv hu lv lu ht hr hz1 hz2
      unfold ring2 at HB0 ⊢
      go_enter Tryz.func157, Tryz.ntmps157
      go_wp2_with fail
      refine (C1.out _ HB0.out).mono ?_
      rintro e w1 ⟨rfl, hb⟩
      have HB1 := Lib.hid (next_below HB0.out hb); clear hb
      go_wp2_with fail
      go_ret2
      exact ⟨rfl, HB1.out⟩
end Go.Proofs.YtjekapjbigfkbaaGreatDoor
namespace Go.Proofs.YtjekapjbigfkbaaGreatDoor
open Go Go.RowKit
set_option maxRecDepth 100000
theorem vprs_no {k : Int} (hk : k < 1 ∨ 3 < k) (a : ByteArray) : vprs k a = none := by
  cases h : vprs k a with
  | none => rfl
  | some v => have := okV_kind (vprs_some.1 h).2; omega
theorem validF_no {k : Int} (hk : k < 1 ∨ 3 < k) (a : ByteArray) : validF k a = false := by unfold validF; rw [vprs_no hk]; rfl
theorem wtV_kind' {k : Int} {v : V} (h : wtV k v) : k = 1 ∨ k = 2 ∨ k = 3 := by cases v <;> simp only [wtV] at h <;> omega
theorem weightF_no {k : Int} (hk : k < 1 ∨ 3 < k) (a : ByteArray) : weightF k a = false := by
  unfold weightF
  cases rdV a with
  | none => rfl
  | some v => show decide (wtV k v) = false; rw [decide_eq_false_iff_not]; intro h; have := wtV_kind' h; omega
theorem kind_no {k : Int} (hk : k < 1 ∨ 3 < k) : kindB k = false := by unfold kindB; rw [Bool.and_eq_false_iff]; simp; omega
theorem kind_cases (k : Int) : k = 1 ∨ k = 2 ∨ k = 3 ∨ (k < 1 ∨ 3 < k) := by omega
theorem valid_v {k : Int} {a : ByteArray} (h : validF k a = true) : ∃ v, vprs k a = some v ∧ rdV a = some v ∧ okV k v ∧ a = vtxt v ∧ fitV v := by
  unfold validF at h
  obtain ⟨v, hv⟩ := Option.isSome_iff_exists.1 h
  obtain ⟨h1, h2⟩ := vprs_some.1 hv
  exact ⟨v, hv, h1, h2, rdV_some h1⟩
theorem valid_n {k : Int} {a : ByteArray} (h : validF k a = false) : vprs k a = none := by
  unfold validF at h
  cases hv : vprs k a with
  | none => rfl
  | some v => rw [hv] at h; simp at h
theorem plusF_n1 {k : Int} {a b : ByteArray} (h : validF k a = false) : plusF k a b = (⟨#[]⟩, 1) := by unfold plusF; rw [valid_n h]; rfl
theorem plusF_n2 {k : Int} {a b : ByteArray} (h : validF k b = false) : plusF k a b = (⟨#[]⟩, 1) := by unfold plusF; rw [valid_n h]; cases vprs k a <;> rfl
theorem timesF_n1 {k : Int} {a b : ByteArray} (h : validF k a = false) : timesF k a b = (⟨#[]⟩, 1) := by unfold timesF; rw [valid_n h]; rfl
theorem timesF_n2 {k : Int} {a b : ByteArray} (h : validF k b = false) : timesF k a b = (⟨#[]⟩, 1) := by unfold timesF; rw [valid_n h]; cases vprs k a <;> rfl
theorem betterF_n1 {k : Int} {a b : ByteArray} (h : validF k a = false) : betterF k a b = 0 := by unfold betterF; rw [valid_n h]
theorem betterF_n2 {k : Int} {a b : ByteArray} (h : validF k b = false) : betterF k a b = 0 := by unfold betterF; rw [valid_n h]; cases vprs k a <;> rfl
theorem ring_cells1 {w wk : World} (h : Below (w.alloc (.cells #[.string ⟨#[105, 110, 102]⟩, .string ⟨#[48]⟩, .bool true, fv 155, fv 34, fv 156, fv 91, fv 91] 116)).heap.size (w.alloc (.cells #[.string ⟨#[105, 110, 102]⟩, .string ⟨#[48]⟩, .bool true, fv 155, fv 34, fv 156, fv 91, fv 91] 116)) wk) :
    wk.cell? ⟨w.heap.size, 0, none⟩ = some (.string ⟨#[105, 110, 102]⟩) ∧ wk.cell? ⟨w.heap.size, 1, none⟩ = some (.string ⟨#[48]⟩) ∧ wk.cell? ⟨w.heap.size, 2, none⟩ = some (.bool true) ∧ wk.cell? ⟨w.heap.size, 3, none⟩ = some (fv 155) ∧ wk.cell? ⟨w.heap.size, 4, none⟩ = some (fv 34) ∧ wk.cell? ⟨w.heap.size, 5, none⟩ = some (fv 156) ∧ wk.cell? ⟨w.heap.size, 6, none⟩ = some (fv 91) ∧ wk.cell? ⟨w.heap.size, 7, none⟩ = some (fv 91) :=
  ⟨(cell_kept h 0).trans rfl, (cell_kept h 1).trans rfl, (cell_kept h 2).trans rfl, (cell_kept h 3).trans rfl, (cell_kept h 4).trans rfl, (cell_kept h 5).trans rfl, (cell_kept h 6).trans rfl, (cell_kept h 7).trans rfl⟩
theorem ring_cells2 {w wk : World} (h : Below (w.alloc (.cells #[.string ⟨#[48]⟩, .string ⟨#[49]⟩, .bool false, fv 157, fv 158, fv 159, fv 160, fv 161] 116)).heap.size (w.alloc (.cells #[.string ⟨#[48]⟩, .string ⟨#[49]⟩, .bool false, fv 157, fv 158, fv 159, fv 160, fv 161] 116)) wk) :
    wk.cell? ⟨w.heap.size, 0, none⟩ = some (.string ⟨#[48]⟩) ∧ wk.cell? ⟨w.heap.size, 1, none⟩ = some (.string ⟨#[49]⟩) ∧ wk.cell? ⟨w.heap.size, 2, none⟩ = some (.bool false) ∧ wk.cell? ⟨w.heap.size, 3, none⟩ = some (fv 157) ∧ wk.cell? ⟨w.heap.size, 4, none⟩ = some (fv 158) ∧ wk.cell? ⟨w.heap.size, 5, none⟩ = some (fv 159) ∧ wk.cell? ⟨w.heap.size, 6, none⟩ = some (fv 160) ∧ wk.cell? ⟨w.heap.size, 7, none⟩ = some (fv 161) :=
  ⟨(cell_kept h 0).trans rfl, (cell_kept h 1).trans rfl, (cell_kept h 2).trans rfl, (cell_kept h 3).trans rfl, (cell_kept h 4).trans rfl, (cell_kept h 5).trans rfl, (cell_kept h 6).trans rfl, (cell_kept h 7).trans rfl⟩
theorem ring_cells3 {w wk : World} (h : Below (w.alloc (.cells #[.string ⟨#[48]⟩, .string ⟨#[49]⟩, .bool false, fv 155, fv 158, fv 162, fv 160, fv 161] 116)).heap.size (w.alloc (.cells #[.string ⟨#[48]⟩, .string ⟨#[49]⟩, .bool false, fv 155, fv 158, fv 162, fv 160, fv 161] 116)) wk) :
    wk.cell? ⟨w.heap.size, 0, none⟩ = some (.string ⟨#[48]⟩) ∧ wk.cell? ⟨w.heap.size, 1, none⟩ = some (.string ⟨#[49]⟩) ∧ wk.cell? ⟨w.heap.size, 2, none⟩ = some (.bool false) ∧ wk.cell? ⟨w.heap.size, 3, none⟩ = some (fv 155) ∧ wk.cell? ⟨w.heap.size, 4, none⟩ = some (fv 158) ∧ wk.cell? ⟨w.heap.size, 5, none⟩ = some (fv 162) ∧ wk.cell? ⟨w.heap.size, 6, none⟩ = some (fv 160) ∧ wk.cell? ⟨w.heap.size, 7, none⟩ = some (fv 161) :=
  ⟨(cell_kept h 0).trans rfl, (cell_kept h 1).trans rfl, (cell_kept h 2).trans rfl, (cell_kept h 3).trans rfl, (cell_kept h 4).trans rfl, (cell_kept h 5).trans rfl, (cell_kept h 6).trans rfl, (cell_kept h 7).trans rfl⟩
theorem weight1_fn (a : ByteArray) (w : World) (ha : a.size ≤ 9223372036854775807) (ht : Tab w) : Calls Tryz.prog 91 #[.string a] w (BoolE (weightF 1 a) w) := by
  rw [weightF_1]; exact ratvalid_any a w ha ht
theorem sweight_1 (a : ByteArray) (w : World) (ha : a.size ≤ 9223372036854775807) (ht : Tab w) : Calls Tryz.prog 121 #[.int .i64 1, .string a] w (BoolE (weightF 1 a) w) := by
  have c1 := fun wx (h : Below w.heap.size w wx) => weight1_fn a wx ha (ht.below h (Nat.le_refl _))
  generalize weightF 1 a = z at *
  have c0 := of_1 w
  unfold OfEnd at c0
  unfold ring1 at *
  have C0 := Lib.hid c0; clear c0
  have C1 := Lib.hid c1; clear c1 ha ht
  go_enter Tryz.func121, Tryz.ntmps121
  go_wp2_with fail
  refine C0.out.mono ?_
  rintro e w1 ⟨rfl, hb⟩
  have HB1 := Lib.hid (hb.alloc hb.size (.cells ring1 116)); clear hb
  go_wp2_with fail
  refine (C1.out _ HB1.out).mono ?_
  rintro e w2 ⟨rfl, hb⟩
  have HB2 := Lib.hid (next_below HB1.out hb); clear hb
  go_wp2_with fail
  go_ret
  exact ⟨rfl, HB2.out⟩
theorem weight2_fn (a : ByteArray) (w : World) (ha : a.size ≤ 9223372036854775807) (ht : Tab w) : Calls Tryz.prog 161 #[.string a] w (BoolE (weightF 2 a) w) := by
  rw [weightF_23 (k := 2) (by omega)]; exact positive_any a w ha ht
theorem sweight_2 (a : ByteArray) (w : World) (ha : a.size ≤ 9223372036854775807) (ht : Tab w) : Calls Tryz.prog 121 #[.int .i64 2, .string a] w (BoolE (weightF 2 a) w) := by
  have c1 := fun wx (h : Below w.heap.size w wx) => weight2_fn a wx ha (ht.below h (Nat.le_refl _))
  generalize weightF 2 a = z at *
  have c0 := of_2 w
  unfold OfEnd at c0
  unfold ring2 at *
  have C0 := Lib.hid c0; clear c0
  have C1 := Lib.hid c1; clear c1 ha ht
  go_enter Tryz.func121, Tryz.ntmps121
  go_wp2_with fail
  refine C0.out.mono ?_
  rintro e w1 ⟨rfl, hb⟩
  have HB1 := Lib.hid (hb.alloc hb.size (.cells ring2 116)); clear hb
  go_wp2_with fail
  refine (C1.out _ HB1.out).mono ?_
  rintro e w2 ⟨rfl, hb⟩
  have HB2 := Lib.hid (next_below HB1.out hb); clear hb
  go_wp2_with fail
  go_ret
  exact ⟨rfl, HB2.out⟩
theorem weight3_fn (a : ByteArray) (w : World) (ha : a.size ≤ 9223372036854775807) (ht : Tab w) : Calls Tryz.prog 161 #[.string a] w (BoolE (weightF 3 a) w) := by
  rw [weightF_23 (k := 3) (by omega)]; exact positive_any a w ha ht
theorem sweight_3 (a : ByteArray) (w : World) (ha : a.size ≤ 9223372036854775807) (ht : Tab w) : Calls Tryz.prog 121 #[.int .i64 3, .string a] w (BoolE (weightF 3 a) w) := by
  have c1 := fun wx (h : Below w.heap.size w wx) => weight3_fn a wx ha (ht.below h (Nat.le_refl _))
  generalize weightF 3 a = z at *
  have c0 := of_3 w
  unfold OfEnd at c0
  unfold ring3 at *
  have C0 := Lib.hid c0; clear c0
  have C1 := Lib.hid c1; clear c1 ha ht
  go_enter Tryz.func121, Tryz.ntmps121
  go_wp2_with fail
  refine C0.out.mono ?_
  rintro e w1 ⟨rfl, hb⟩
  have HB1 := Lib.hid (hb.alloc hb.size (.cells ring3 116)); clear hb
  go_wp2_with fail
  refine (C1.out _ HB1.out).mono ?_
  rintro e w2 ⟨rfl, hb⟩
  have HB2 := Lib.hid (next_below HB1.out hb); clear hb
  go_wp2_with fail
  go_ret
  exact ⟨rfl, HB2.out⟩
theorem sweight_no (k : Int) (a : ByteArray) (w : World) (hk : k < 1 ∨ 3 < k) : Calls Tryz.prog 121 #[.int .i64 k, .string a] w (BoolE (weightF k a) w) := by
  rw [weightF_no hk]
  have c0 := of_no k w hk
  unfold OfEnd at c0
  unfold ring0 at *
  have C0 := Lib.hid c0; clear c0
  go_enter Tryz.func121, Tryz.ntmps121
  go_wp2_with fail
  refine C0.out.mono ?_
  rintro e w1 ⟨rfl, hb⟩
  have HB1 := Lib.hid (hb.alloc hb.size (.cells ring0 116)); clear hb
  go_wp2_with fail
  go_ret
  exact ⟨rfl, HB1.out⟩
theorem semiweight_any (k : Int) (a : ByteArray) (w : World) (ha : a.size ≤ 9223372036854775807) (ht : Tab w) : Calls Tryz.prog 121 #[.int .i64 k, .string a] w (BoolE (weightF k a) w) := by
  rcases kind_cases k with rfl | rfl | rfl | hk
  · exact sweight_1 a w ha ht
  · exact sweight_2 a w ha ht
  · exact sweight_3 a w ha ht
  · exact sweight_no k a w hk
theorem zeroF_1 : zeroF 1 = ⟨#[105, 110, 102]⟩ := rfl
theorem semizero_1 (w : World) : Calls Tryz.prog 125 #[.int .i64 1] w (StrE (zeroF 1) w) := by
  rw [zeroF_1]
  have c0 := of_1 w
  unfold OfEnd at c0
  unfold ring1 at *
  have C0 := Lib.hid c0; clear c0
  go_enter Tryz.func125, Tryz.ntmps125
  go_wp2_with fail
  refine C0.out.mono ?_
  rintro e w1 ⟨rfl, hb⟩
  have HB1 := Lib.hid (hb.alloc hb.size (.cells ring1 116)); clear hb
  go_wp2_with fail
  go_ret
  exact ⟨rfl, HB1.out⟩
theorem zeroF_2 : zeroF 2 = ⟨#[48]⟩ := txt_zero
theorem semizero_2 (w : World) : Calls Tryz.prog 125 #[.int .i64 2] w (StrE (zeroF 2) w) := by
  rw [zeroF_2]
  have c0 := of_2 w
  unfold OfEnd at c0
  unfold ring2 at *
  have C0 := Lib.hid c0; clear c0
  go_enter Tryz.func125, Tryz.ntmps125
  go_wp2_with fail
  refine C0.out.mono ?_
  rintro e w1 ⟨rfl, hb⟩
  have HB1 := Lib.hid (hb.alloc hb.size (.cells ring2 116)); clear hb
  go_wp2_with fail
  go_ret
  exact ⟨rfl, HB1.out⟩
theorem zeroF_3 : zeroF 3 = ⟨#[48]⟩ := txt_zero
theorem semizero_3 (w : World) : Calls Tryz.prog 125 #[.int .i64 3] w (StrE (zeroF 3) w) := by
  rw [zeroF_3]
  have c0 := of_3 w
  unfold OfEnd at c0
  unfold ring3 at *
  have C0 := Lib.hid c0; clear c0
  go_enter Tryz.func125, Tryz.ntmps125
  go_wp2_with fail
  refine C0.out.mono ?_
  rintro e w1 ⟨rfl, hb⟩
  have HB1 := Lib.hid (hb.alloc hb.size (.cells ring3 116)); clear hb
  go_wp2_with fail
  go_ret
  exact ⟨rfl, HB1.out⟩
theorem zeroF_no {k : Int} (hk : k < 1 ∨ 3 < k) : zeroF k = ⟨#[]⟩ := by unfold zeroF; rw [kind_no hk]; rfl
theorem semizero_no (k : Int) (w : World) (hk : k < 1 ∨ 3 < k) : Calls Tryz.prog 125 #[.int .i64 k] w (StrE (zeroF k) w) := by
  rw [zeroF_no hk]
  have c0 := of_no k w hk
  unfold OfEnd at c0
  unfold ring0 at *
  have C0 := Lib.hid c0; clear c0
  go_enter Tryz.func125, Tryz.ntmps125
  go_wp2_with fail
  refine C0.out.mono ?_
  rintro e w1 ⟨rfl, hb⟩
  have HB1 := Lib.hid (hb.alloc hb.size (.cells ring0 116)); clear hb
  go_wp2_with fail
  go_ret
  exact ⟨rfl, HB1.out⟩
theorem semizero_any (k : Int) (w : World) : Calls Tryz.prog 125 #[.int .i64 k] w (StrE (zeroF k) w) := by
  rcases kind_cases k with rfl | rfl | rfl | hk
  · exact semizero_1 w
  · exact semizero_2 w
  · exact semizero_3 w
  · exact semizero_no k w hk
theorem oneF_1 : oneF 1 = ⟨#[48]⟩ := txt_zero
theorem semione_1 (w : World) : Calls Tryz.prog 49 #[.int .i64 1] w (StrE (oneF 1) w) := by
  rw [oneF_1]
  have c0 := of_1 w
  unfold OfEnd at c0
  unfold ring1 at *
  have C0 := Lib.hid c0; clear c0
  go_enter Tryz.func49, Tryz.ntmps49
  go_wp2_with fail
  refine C0.out.mono ?_
  rintro e w1 ⟨rfl, hb⟩
  have HB1 := Lib.hid (hb.alloc hb.size (.cells ring1 116)); clear hb
  go_wp2_with fail
  go_ret
  exact ⟨rfl, HB1.out⟩
theorem oneF_2 : oneF 2 = ⟨#[49]⟩ := txt_one
theorem semione_2 (w : World) : Calls Tryz.prog 49 #[.int .i64 2] w (StrE (oneF 2) w) := by
  rw [oneF_2]
  have c0 := of_2 w
  unfold OfEnd at c0
  unfold ring2 at *
  have C0 := Lib.hid c0; clear c0
  go_enter Tryz.func49, Tryz.ntmps49
  go_wp2_with fail
  refine C0.out.mono ?_
  rintro e w1 ⟨rfl, hb⟩
  have HB1 := Lib.hid (hb.alloc hb.size (.cells ring2 116)); clear hb
  go_wp2_with fail
  go_ret
  exact ⟨rfl, HB1.out⟩
theorem oneF_3 : oneF 3 = ⟨#[49]⟩ := txt_one
theorem semione_3 (w : World) : Calls Tryz.prog 49 #[.int .i64 3] w (StrE (oneF 3) w) := by
  rw [oneF_3]
  have c0 := of_3 w
  unfold OfEnd at c0
  unfold ring3 at *
  have C0 := Lib.hid c0; clear c0
  go_enter Tryz.func49, Tryz.ntmps49
  go_wp2_with fail
  refine C0.out.mono ?_
  rintro e w1 ⟨rfl, hb⟩
  have HB1 := Lib.hid (hb.alloc hb.size (.cells ring3 116)); clear hb
  go_wp2_with fail
  go_ret
  exact ⟨rfl, HB1.out⟩
theorem oneF_no {k : Int} (hk : k < 1 ∨ 3 < k) : oneF k = ⟨#[]⟩ := by unfold oneF; rw [kind_no hk]; rfl
theorem semione_no (k : Int) (w : World) (hk : k < 1 ∨ 3 < k) : Calls Tryz.prog 49 #[.int .i64 k] w (StrE (oneF k) w) := by
  rw [oneF_no hk]
  have c0 := of_no k w hk
  unfold OfEnd at c0
  unfold ring0 at *
  have C0 := Lib.hid c0; clear c0
  go_enter Tryz.func49, Tryz.ntmps49
  go_wp2_with fail
  refine C0.out.mono ?_
  rintro e w1 ⟨rfl, hb⟩
  have HB1 := Lib.hid (hb.alloc hb.size (.cells ring0 116)); clear hb
  go_wp2_with fail
  go_ret
  exact ⟨rfl, HB1.out⟩
theorem semione_any (k : Int) (w : World) : Calls Tryz.prog 49 #[.int .i64 k] w (StrE (oneF k) w) := by
  rcases kind_cases k with rfl | rfl | rfl | hk
  · exact semione_1 w
  · exact semione_2 w
  · exact semione_3 w
  · exact semione_no k w hk
set_option maxHeartbeats 4000000 in
theorem splus_1 (a b : ByteArray) (w : World) (ha : a.size ≤ 9223372036854775807) (hb : b.size ≤ 9223372036854775807) (ht : Tab w) : Calls Tryz.prog 164 #[.int .i64 1, .string a, .string b] w (PairEnd (plusF 1 a b) w) := by
  have c1 := fun wx (h : Below w.heap.size w wx) => valid1_any a wx ha (ht.below h (Nat.le_refl _))
  have c2 := fun wx (h : Below w.heap.size w wx) => valid1_any b wx hb (ht.below h (Nat.le_refl _))
  cases h1 : validF 1 a with
  | false =>
    rw [plusF_n1 h1]; rw [h1] at c1; clear h1 c2 ha hb ht
    have c0 := of_1 w
    unfold OfEnd at c0
    unfold ring1 at *
    have C0 := Lib.hid c0; clear c0
    have C1 := Lib.hid c1; clear c1
    go_enter Tryz.func164, Tryz.ntmps164
    go_wp2_with fail
    refine C0.out.mono ?_
    rintro e w1 ⟨rfl, hb⟩
    have HB1 := Lib.hid (hb.alloc hb.size (.cells ring1 116)); clear hb
    go_wp2_with fail
    refine (C1.out _ HB1.out).mono ?_
    rintro e w2 ⟨rfl, hb⟩
    have HB2 := Lib.hid (next_below HB1.out hb); clear hb
    go_wp2_with fail
    go_ret2
    exact ⟨rfl, HB2.out⟩
  | true =>
    cases h2 : validF 1 b with
    | false =>
      rw [plusF_n2 h2]; rw [h1] at c1; rw [h2] at c2; clear h1 h2 ha hb ht
      have c0 := of_1 w
      unfold OfEnd at c0
      unfold ring1 at *
      have C0 := Lib.hid c0; clear c0
      have C1 := Lib.hid c1; clear c1
      have C2 := Lib.hid c2; clear c2
      go_enter Tryz.func164, Tryz.ntmps164
      go_wp2_with fail
      refine C0.out.mono ?_
      rintro e w1 ⟨rfl, hb⟩
      have HB1 := Lib.hid (hb.alloc hb.size (.cells ring1 116)); clear hb
      go_wp2_with fail
      refine (C1.out _ HB1.out).mono ?_
      rintro e w2 ⟨rfl, hb⟩
      have HS2 := Lib.hid (hb)
      have HB2 := Lib.hid (next_below HB1.out hb); clear hb
      obtain ⟨q0, q1, q2, q3, q4, q5, q6, q7⟩ := ring_cells1 HS2.out
      go_wp2_with fail
      refine (C2.out _ HB2.out).mono ?_
      rintro e w3 ⟨rfl, hb⟩
      have HB3 := Lib.hid (next_below HB2.out hb); clear hb
      go_wp2_with fail
      go_ret2
      exact ⟨rfl, HB3.out⟩
    | true =>
      rw [h1] at c1; rw [h2] at c2
      obtain ⟨v, pv, rv, ov, ea, fv'⟩ := valid_v h1
      obtain ⟨u, pu, ru, ou, eb, fu⟩ := valid_v h2
      clear h1 h2
      have hr : plusF 1 a b = limV (plusV 1 v u) := by unfold plusF; rw [pv, pu]
      have c3 := fun wx (h : Below w.heap.size w wx) => choose1_any v u wx fv' fu (ht.below h (Nat.le_refl _))
      rw [← ea, ← eb, ← hr] at c3
      generalize plusF 1 a b = r at *
      obtain ⟨rs, rn⟩ := r
      clear hr pv rv ov ea fv' pu ru ou eb fu ha hb ht
      have c0 := of_1 w
      unfold OfEnd at c0
      unfold ring1 at *
      have C0 := Lib.hid c0; clear c0
      have C1 := Lib.hid c1; clear c1
      have C2 := Lib.hid c2; clear c2
      have C3 := Lib.hid c3; clear c3
      go_enter Tryz.func164, Tryz.ntmps164
      go_wp2_with fail
      refine C0.out.mono ?_
      rintro e w1 ⟨rfl, hb⟩
      have HB1 := Lib.hid (hb.alloc hb.size (.cells ring1 116)); clear hb
      go_wp2_with fail
      refine (C1.out _ HB1.out).mono ?_
      rintro e w2 ⟨rfl, hb⟩
      have HS2 := Lib.hid (hb)
      have HB2 := Lib.hid (next_below HB1.out hb); clear hb
      obtain ⟨q0, q1, q2, q3, q4, q5, q6, q7⟩ := ring_cells1 HS2.out
      go_wp2_with fail
      refine (C2.out _ HB2.out).mono ?_
      rintro e w3 ⟨rfl, hb⟩
      clear q0 q1 q2 q3 q4 q5 q6 q7
      have HS3 := Lib.hid (next_below HS2.out hb)
      have HB3 := Lib.hid (next_below HB2.out hb); clear hb
      obtain ⟨q0, q1, q2, q3, q4, q5, q6, q7⟩ := ring_cells1 HS3.out
      go_wp2_with fail
      refine (C3.out _ HB3.out).mono ?_
      rintro e w4 ⟨rfl, hb⟩
      have HB4 := Lib.hid (next_below HB3.out hb); clear hb
      go_wp2_with fail
      go_ret2
      exact ⟨rfl, HB4.out⟩
set_option maxHeartbeats 4000000 in
theorem splus_2 (a b : ByteArray) (w : World) (ha : a.size ≤ 9223372036854775807) (hb : b.size ≤ 9223372036854775807) (ht : Tab w) : Calls Tryz.prog 164 #[.int .i64 2, .string a, .string b] w (PairEnd (plusF 2 a b) w) := by
  have c1 := fun wx (h : Below w.heap.size w wx) => valid2_any a wx ha (ht.below h (Nat.le_refl _))
  have c2 := fun wx (h : Below w.heap.size w wx) => valid2_any b wx hb (ht.below h (Nat.le_refl _))
  cases h1 : validF 2 a with
  | false =>
    rw [plusF_n1 h1]; rw [h1] at c1; clear h1 c2 ha hb ht
    have c0 := of_2 w
    unfold OfEnd at c0
    unfold ring2 at *
    have C0 := Lib.hid c0; clear c0
    have C1 := Lib.hid c1; clear c1
    go_enter Tryz.func164, Tryz.ntmps164
    go_wp2_with fail
    refine C0.out.mono ?_
    rintro e w1 ⟨rfl, hb⟩
    have HB1 := Lib.hid (hb.alloc hb.size (.cells ring2 116)); clear hb
    go_wp2_with fail
    refine (C1.out _ HB1.out).mono ?_
    rintro e w2 ⟨rfl, hb⟩
    have HB2 := Lib.hid (next_below HB1.out hb); clear hb
    go_wp2_with fail
    go_ret2
    exact ⟨rfl, HB2.out⟩
  | true =>
    cases h2 : validF 2 b with
    | false =>
      rw [plusF_n2 h2]; rw [h1] at c1; rw [h2] at c2; clear h1 h2 ha hb ht
      have c0 := of_2 w
      unfold OfEnd at c0
      unfold ring2 at *
      have C0 := Lib.hid c0; clear c0
      have C1 := Lib.hid c1; clear c1
      have C2 := Lib.hid c2; clear c2
      go_enter Tryz.func164, Tryz.ntmps164
      go_wp2_with fail
      refine C0.out.mono ?_
      rintro e w1 ⟨rfl, hb⟩
      have HB1 := Lib.hid (hb.alloc hb.size (.cells ring2 116)); clear hb
      go_wp2_with fail
      refine (C1.out _ HB1.out).mono ?_
      rintro e w2 ⟨rfl, hb⟩
      have HS2 := Lib.hid (hb)
      have HB2 := Lib.hid (next_below HB1.out hb); clear hb
      obtain ⟨q0, q1, q2, q3, q4, q5, q6, q7⟩ := ring_cells2 HS2.out
      go_wp2_with fail
      refine (C2.out _ HB2.out).mono ?_
      rintro e w3 ⟨rfl, hb⟩
      have HB3 := Lib.hid (next_below HB2.out hb); clear hb
      go_wp2_with fail
      go_ret2
      exact ⟨rfl, HB3.out⟩
    | true =>
      rw [h1] at c1; rw [h2] at c2
      obtain ⟨v, pv, rv, ov, ea, fv'⟩ := valid_v h1
      obtain ⟨u, pu, ru, ou, eb, fu⟩ := valid_v h2
      clear h1 h2
      have hr : plusF 2 a b = limV (plusV 2 v u) := by unfold plusF; rw [pv, pu]
      have c3 := fun wx (h : Below w.heap.size w wx) => sum_any v u wx fv' fu (okV_low ov (by decide)) (okV_low ou (by decide)) (ht.below h (Nat.le_refl _))
      rw [← ea, ← eb, ← hr] at c3
      generalize plusF 2 a b = r at *
      obtain ⟨rs, rn⟩ := r
      clear hr pv rv ov ea fv' pu ru ou eb fu ha hb ht
      have c0 := of_2 w
      unfold OfEnd at c0
      unfold ring2 at *
      have C0 := Lib.hid c0; clear c0
      have C1 := Lib.hid c1; clear c1
      have C2 := Lib.hid c2; clear c2
      have C3 := Lib.hid c3; clear c3
      go_enter Tryz.func164, Tryz.ntmps164
      go_wp2_with fail
      refine C0.out.mono ?_
      rintro e w1 ⟨rfl, hb⟩
      have HB1 := Lib.hid (hb.alloc hb.size (.cells ring2 116)); clear hb
      go_wp2_with fail
      refine (C1.out _ HB1.out).mono ?_
      rintro e w2 ⟨rfl, hb⟩
      have HS2 := Lib.hid (hb)
      have HB2 := Lib.hid (next_below HB1.out hb); clear hb
      obtain ⟨q0, q1, q2, q3, q4, q5, q6, q7⟩ := ring_cells2 HS2.out
      go_wp2_with fail
      refine (C2.out _ HB2.out).mono ?_
      rintro e w3 ⟨rfl, hb⟩
      clear q0 q1 q2 q3 q4 q5 q6 q7
      have HS3 := Lib.hid (next_below HS2.out hb)
      have HB3 := Lib.hid (next_below HB2.out hb); clear hb
      obtain ⟨q0, q1, q2, q3, q4, q5, q6, q7⟩ := ring_cells2 HS3.out
      go_wp2_with fail
      refine (C3.out _ HB3.out).mono ?_
      rintro e w4 ⟨rfl, hb⟩
      have HB4 := Lib.hid (next_below HB3.out hb); clear hb
      go_wp2_with fail
      go_ret2
      exact ⟨rfl, HB4.out⟩
set_option maxHeartbeats 4000000 in
theorem splus_3 (a b : ByteArray) (w : World) (ha : a.size ≤ 9223372036854775807) (hb : b.size ≤ 9223372036854775807) (ht : Tab w) : Calls Tryz.prog 164 #[.int .i64 3, .string a, .string b] w (PairEnd (plusF 3 a b) w) := by
  have c1 := fun wx (h : Below w.heap.size w wx) => valid3_any a wx ha (ht.below h (Nat.le_refl _))
  have c2 := fun wx (h : Below w.heap.size w wx) => valid3_any b wx hb (ht.below h (Nat.le_refl _))
  cases h1 : validF 3 a with
  | false =>
    rw [plusF_n1 h1]; rw [h1] at c1; clear h1 c2 ha hb ht
    have c0 := of_3 w
    unfold OfEnd at c0
    unfold ring3 at *
    have C0 := Lib.hid c0; clear c0
    have C1 := Lib.hid c1; clear c1
    go_enter Tryz.func164, Tryz.ntmps164
    go_wp2_with fail
    refine C0.out.mono ?_
    rintro e w1 ⟨rfl, hb⟩
    have HB1 := Lib.hid (hb.alloc hb.size (.cells ring3 116)); clear hb
    go_wp2_with fail
    refine (C1.out _ HB1.out).mono ?_
    rintro e w2 ⟨rfl, hb⟩
    have HB2 := Lib.hid (next_below HB1.out hb); clear hb
    go_wp2_with fail
    go_ret2
    exact ⟨rfl, HB2.out⟩
  | true =>
    cases h2 : validF 3 b with
    | false =>
      rw [plusF_n2 h2]; rw [h1] at c1; rw [h2] at c2; clear h1 h2 ha hb ht
      have c0 := of_3 w
      unfold OfEnd at c0
      unfold ring3 at *
      have C0 := Lib.hid c0; clear c0
      have C1 := Lib.hid c1; clear c1
      have C2 := Lib.hid c2; clear c2
      go_enter Tryz.func164, Tryz.ntmps164
      go_wp2_with fail
      refine C0.out.mono ?_
      rintro e w1 ⟨rfl, hb⟩
      have HB1 := Lib.hid (hb.alloc hb.size (.cells ring3 116)); clear hb
      go_wp2_with fail
      refine (C1.out _ HB1.out).mono ?_
      rintro e w2 ⟨rfl, hb⟩
      have HS2 := Lib.hid (hb)
      have HB2 := Lib.hid (next_below HB1.out hb); clear hb
      obtain ⟨q0, q1, q2, q3, q4, q5, q6, q7⟩ := ring_cells3 HS2.out
      go_wp2_with fail
      refine (C2.out _ HB2.out).mono ?_
      rintro e w3 ⟨rfl, hb⟩
      have HB3 := Lib.hid (next_below HB2.out hb); clear hb
      go_wp2_with fail
      go_ret2
      exact ⟨rfl, HB3.out⟩
    | true =>
      rw [h1] at c1; rw [h2] at c2
      obtain ⟨v, pv, rv, ov, ea, fv'⟩ := valid_v h1
      obtain ⟨u, pu, ru, ou, eb, fu⟩ := valid_v h2
      clear h1 h2
      have hr : plusF 3 a b = limV (plusV 3 v u) := by unfold plusF; rw [pv, pu]
      have c3 := fun wx (h : Below w.heap.size w wx) => choose3_any v u wx fv' fu (ht.below h (Nat.le_refl _))
      rw [← ea, ← eb, ← hr] at c3
      generalize plusF 3 a b = r at *
      obtain ⟨rs, rn⟩ := r
      clear hr pv rv ov ea fv' pu ru ou eb fu ha hb ht
      have c0 := of_3 w
      unfold OfEnd at c0
      unfold ring3 at *
      have C0 := Lib.hid c0; clear c0
      have C1 := Lib.hid c1; clear c1
      have C2 := Lib.hid c2; clear c2
      have C3 := Lib.hid c3; clear c3
      go_enter Tryz.func164, Tryz.ntmps164
      go_wp2_with fail
      refine C0.out.mono ?_
      rintro e w1 ⟨rfl, hb⟩
      have HB1 := Lib.hid (hb.alloc hb.size (.cells ring3 116)); clear hb
      go_wp2_with fail
      refine (C1.out _ HB1.out).mono ?_
      rintro e w2 ⟨rfl, hb⟩
      have HS2 := Lib.hid (hb)
      have HB2 := Lib.hid (next_below HB1.out hb); clear hb
      obtain ⟨q0, q1, q2, q3, q4, q5, q6, q7⟩ := ring_cells3 HS2.out
      go_wp2_with fail
      refine (C2.out _ HB2.out).mono ?_
      rintro e w3 ⟨rfl, hb⟩
      clear q0 q1 q2 q3 q4 q5 q6 q7
      have HS3 := Lib.hid (next_below HS2.out hb)
      have HB3 := Lib.hid (next_below HB2.out hb); clear hb
      obtain ⟨q0, q1, q2, q3, q4, q5, q6, q7⟩ := ring_cells3 HS3.out
      go_wp2_with fail
      refine (C3.out _ HB3.out).mono ?_
      rintro e w4 ⟨rfl, hb⟩
      have HB4 := Lib.hid (next_below HB3.out hb); clear hb
      go_wp2_with fail
      go_ret2
      exact ⟨rfl, HB4.out⟩
theorem splus_no (k : Int) (a b : ByteArray) (w : World) (hk : k < 1 ∨ 3 < k) : Calls Tryz.prog 164 #[.int .i64 k, .string a, .string b] w (PairEnd (plusF k a b) w) := by
  rw [plusF_n1 (validF_no hk a)]
  have c0 := of_no k w hk
  unfold OfEnd at c0
  unfold ring0 at *
  have C0 := Lib.hid c0; clear c0
  go_enter Tryz.func164, Tryz.ntmps164
  go_wp2_with fail
  refine C0.out.mono ?_
  rintro e w1 ⟨rfl, hb⟩
  have HB1 := Lib.hid (hb.alloc hb.size (.cells ring0 116)); clear hb
  go_wp2_with fail
  go_ret2
  exact ⟨rfl, HB1.out⟩
theorem semiplus_any (k : Int) (a b : ByteArray) (w : World) (ha : a.size ≤ 9223372036854775807) (hb : b.size ≤ 9223372036854775807) (ht : Tab w) : Calls Tryz.prog 164 #[.int .i64 k, .string a, .string b] w (PairEnd (plusF k a b) w) := by
  rcases kind_cases k with rfl | rfl | rfl | hk
  · exact splus_1 a b w ha hb ht
  · exact splus_2 a b w ha hb ht
  · exact splus_3 a b w ha hb ht
  · exact splus_no k a b w hk
end Go.Proofs.YtjekapjbigfkbaaGreatDoor
