/- Parts of a proof: SemF SemH SemG MX MR1. -/
import Derived.Test.YtjekapjbigfkbaaGreatDoorS13
import Derived.Test.YtjekapjbigfkbaaGreatDoorS01
import Derived.LoopN
import Derived.Test.YtjekapjbigfkbaaGreatDoorS05
import Derived.Test.YtjekapjbigfkbaaGreatDoorS06
import Derived.Test.YtjekapjbigfkbaaGreatDoorS08
import Derived.Test.YtjekapjbigfkbaaGreatDoorS09
namespace Go.Proofs.YtjekapjbigfkbaaGreatDoor
open Go Go.RowKit
set_option maxRecDepth 100000
set_option maxHeartbeats 4000000 in
theorem sbetter_1 (a b : ByteArray) (w : World) (ha : a.size ≤ 9223372036854775807) (hb : b.size ≤ 9223372036854775807) (ht : Tab w) : Calls Tryz.prog 35 #[.int .i64 1, .string a, .string b] w (IntEnd (betterF 1 a b) w) := by
  have c1 := fun wx (h : Below w.heap.size w wx) => valid1_any a wx ha (ht.below h (Nat.le_refl _))
  have c2 := fun wx (h : Below w.heap.size w wx) => valid1_any b wx hb (ht.below h (Nat.le_refl _))
  cases h1 : validF 1 a with
  | false =>
    rw [betterF_n1 h1]; rw [h1] at c1; clear h1 c2 ha hb ht
    have c0 := of_1 w
    unfold OfEnd at c0
    unfold ring1 at *
    have C0 := Lib.hid c0; clear c0
    have C1 := Lib.hid c1; clear c1
    go_enter Tryz.func35, Tryz.ntmps35
    go_wp2_with fail
    refine C0.out.mono ?_
    rintro e w1 ⟨rfl, hb⟩
    have HB1 := Lib.hid (hb.alloc hb.size (.cells ring1 116)); clear hb
    go_wp2_with fail
    refine (C1.out _ HB1.out).mono ?_
    rintro e w2 ⟨rfl, hb⟩
    have HB2 := Lib.hid (next_below HB1.out hb); clear hb
    go_wp2_with fail
    go_ret
    exact ⟨rfl, HB2.out⟩
  | true =>
    cases h2 : validF 1 b with
    | false =>
      rw [betterF_n2 h2]; rw [h1] at c1; rw [h2] at c2; clear h1 h2 ha hb ht
      have c0 := of_1 w
      unfold OfEnd at c0
      unfold ring1 at *
      have C0 := Lib.hid c0; clear c0
      have C1 := Lib.hid c1; clear c1
      have C2 := Lib.hid c2; clear c2
      go_enter Tryz.func35, Tryz.ntmps35
      go_wp2_with fail
      refine C0.out.mono ?_
      rintro e w1 ⟨rfl, hb⟩
      have HB1 := Lib.hid (hb.alloc hb.size (.cells ring1 116)); clear hb
      go_wp2_with fail
      refine (C1.out _ HB1.out).mono ?_
      rintro e w2 ⟨rfl, hb⟩
      have HS2 := Lib.hid (hb)
      have HB2 := Lib.hid (next_below HB1.out hb); clear hb
      obtain ⟨q0, q1, q2, q3, q4, q5, q6, q7⟩ := ring_cells1 HS2.out
      go_wp2_with fail
      refine (C2.out _ HB2.out).mono ?_
      rintro e w3 ⟨rfl, hb⟩
      have HB3 := Lib.hid (next_below HB2.out hb); clear hb
      go_wp2_with fail
      go_ret
      exact ⟨rfl, HB3.out⟩
    | true =>
      rw [h1] at c1; rw [h2] at c2
      obtain ⟨v, pv, rv, ov, ea, fv'⟩ := valid_v h1
      obtain ⟨u, pu, ru, ou, eb, fu⟩ := valid_v h2
      clear h1 h2
      have hr : betterF 1 a b = cmpV v u := by unfold betterF; rw [pv, pu]; rfl
      have c3 := fun wx (h : Below w.heap.size w wx) => vcompare_any v u wx fv' fu (ht.below h (Nat.le_refl _))
      rw [← ea, ← eb, ← hr] at c3
      generalize betterF 1 a b = r at *
      clear hr pv rv ov ea fv' pu ru ou eb fu ha hb ht
      have c0 := of_1 w
      unfold OfEnd at c0
      unfold ring1 at *
      have C0 := Lib.hid c0; clear c0
      have C1 := Lib.hid c1; clear c1
      have C2 := Lib.hid c2; clear c2
      have C3 := Lib.hid c3; clear c3
      go_enter Tryz.func35, Tryz.ntmps35
      go_wp2_with fail
      refine C0.out.mono ?_
      rintro e w1 ⟨rfl, hb⟩
      have HB1 := Lib.hid (hb.alloc hb.size (.cells ring1 116)); clear hb
      go_wp2_with fail
      refine (C1.out _ HB1.out).mono ?_
      rintro e w2 ⟨rfl, hb⟩
      have HS2 := Lib.hid (hb)
      have HB2 := Lib.hid (next_below HB1.out hb); clear hb
      obtain ⟨q0, q1, q2, q3, q4, q5, q6, q7⟩ := ring_cells1 HS2.out
      go_wp2_with fail
      refine (C2.out _ HB2.out).mono ?_
      rintro e w3 ⟨rfl, hb⟩
      clear q0 q1 q2 q3 q4 q5 q6 q7
      have HS3 := Lib.hid (next_below HS2.out hb)
      have HB3 := Lib.hid (next_below HB2.out hb); clear hb
      obtain ⟨q0, q1, q2, q3, q4, q5, q6, q7⟩ := ring_cells1 HS3.out
      go_wp2_with fail
      refine (C3.out _ HB3.out).mono ?_
      rintro e w4 ⟨rfl, hb⟩
      have HB4 := Lib.hid (next_below HB3.out hb); clear hb
      go_wp2_with fail
      go_ret
      exact ⟨rfl, HB4.out⟩
end Go.Proofs.YtjekapjbigfkbaaGreatDoor

namespace Go.Proofs.YtjekapjbigfkbaaGreatDoor
open Go Go.RowKit
set_option maxRecDepth 100000
end Go.Proofs.YtjekapjbigfkbaaGreatDoor

namespace Go.Proofs.YtjekapjbigfkbaaGreatDoor
open Go Go.RowKit
set_option maxRecDepth 100000
theorem index3a0 (w : World) : (Instr.index 119 (.agg #[.string ⟨#[105, 110, 102]⟩, .string ⟨#[105, 110, 102]⟩, .string ⟨#[45, 105, 110, 102]⟩]) (.int .i64 0)).run Tryz.prog w = .ok (.string ⟨#[105, 110, 102]⟩) w := by kernel_rfl
theorem index3a1 (w : World) : (Instr.index 119 (.agg #[.string ⟨#[105, 110, 102]⟩, .string ⟨#[105, 110, 102]⟩, .string ⟨#[45, 105, 110, 102]⟩]) (.int .i64 1)).run Tryz.prog w = .ok (.string ⟨#[105, 110, 102]⟩) w := by kernel_rfl
theorem index3a2 (w : World) : (Instr.index 119 (.agg #[.string ⟨#[105, 110, 102]⟩, .string ⟨#[105, 110, 102]⟩, .string ⟨#[45, 105, 110, 102]⟩]) (.int .i64 2)).run Tryz.prog w = .ok (.string ⟨#[45, 105, 110, 102]⟩) w := by kernel_rfl
theorem index3b0 (w : World) : (Instr.index 119 (.agg #[.string ⟨#[48]⟩, .string ⟨#[105, 110, 102]⟩, .string ⟨#[45, 105, 110, 102]⟩]) (.int .i64 0)).run Tryz.prog w = .ok (.string ⟨#[48]⟩) w := by kernel_rfl
theorem index3b1 (w : World) : (Instr.index 119 (.agg #[.string ⟨#[48]⟩, .string ⟨#[105, 110, 102]⟩, .string ⟨#[45, 105, 110, 102]⟩]) (.int .i64 1)).run Tryz.prog w = .ok (.string ⟨#[105, 110, 102]⟩) w := by kernel_rfl
theorem index3b2 (w : World) : (Instr.index 119 (.agg #[.string ⟨#[48]⟩, .string ⟨#[105, 110, 102]⟩, .string ⟨#[45, 105, 110, 102]⟩]) (.int .i64 2)).run Tryz.prog w = .ok (.string ⟨#[45, 105, 110, 102]⟩) w := by kernel_rfl
theorem v_inf {v : V} (h : fitV v) : ((vtxt v).toList == [105, 110, 102]) = decide (v = .inf) := by
  cases v with
  | inf => show (infS.toList == _) = _; rw [infS_list]; rfl
  | low => show (lowS.toList == _) = _; rw [lowS_list]; rfl
  | fin q => show ((txt q).toList == _) = _; rw [txt_ne_inf h]; rfl
theorem v_low {v : V} (h : fitV v) : ((vtxt v).toList == [45, 105, 110, 102]) = decide (v = .low) := by
  cases v with
  | inf => show (infS.toList == _) = _; rw [infS_list]; rfl
  | low => show (lowS.toList == _) = _; rw [lowS_list]; rfl
  | fin q => show ((txt q).toList == _) = _; rw [txt_ne_low h]; rfl
theorem v_zero {v : V} (h : fitV v) : ((vtxt v).toList == [48]) = decide (v = .fin 0) := by
  cases v with
  | inf => show (infS.toList == _) = _; rw [infS_list]; rfl
  | low => show (lowS.toList == _) = _; rw [lowS_list]; rfl
  | fin q =>
    show ((txt q).toList == _) = _
    by_cases h0 : q = 0
    · subst h0; rw [txt_zero, Lib.toList_data]; simp
    · rw [decide_eq_false (fun e => h0 (by injection e))]
      exact ne_list (l := [48]) (fun e => h0 (txt_inj h fit_zero (e.trans txt_zero.symm)))
theorem limV_inf : limV .inf = (⟨#[105, 110, 102]⟩, 0) := rfl
theorem limV_low : limV .low = (⟨#[45, 105, 110, 102]⟩, 0) := rfl
theorem limV_zero : limV (.fin 0) = (⟨#[48]⟩, 0) := (limR_fit fit_zero).trans (by rw [txt_zero])
set_option maxHeartbeats 4000000 in
theorem stimes_1 (a b : ByteArray) (w : World) (ha : a.size ≤ 9223372036854775807) (hb : b.size ≤ 9223372036854775807) (ht : Tab w) : Calls Tryz.prog 37 #[.int .i64 1, .string a, .string b] w (PairEnd (timesF 1 a b) w) := by
  have c1 := fun wx (h : Below w.heap.size w wx) => valid1_any a wx ha (ht.below h (Nat.le_refl _))
  have c2 := fun wx (h : Below w.heap.size w wx) => valid1_any b wx hb (ht.below h (Nat.le_refl _))
  cases h1 : validF 1 a with
  | false =>
    rw [timesF_n1 h1]; rw [h1] at c1; clear h1 c2 ha hb ht
    have c0 := of_1 w
    unfold OfEnd at c0
    unfold ring1 at *
    have C0 := Lib.hid c0; clear c0
    have C1 := Lib.hid c1; clear c1
    go_enter Tryz.func37, Tryz.ntmps37
    go_wp2_with fail
    refine C0.out.mono ?_
    rintro e w1 ⟨rfl, hb⟩
    have HB1 := Lib.hid (hb.alloc hb.size (.cells ring1 116)); clear hb
    go_wp2_with fail
    refine (C1.out _ HB1.out).mono ?_
    rintro e w2 ⟨rfl, hb⟩
    have HB2 := Lib.hid (next_below HB1.out hb); clear hb
    go_wp2_with fail
    go_ret2
    exact ⟨rfl, HB2.out⟩
  | true =>
    cases h2 : validF 1 b with
    | false =>
      rw [timesF_n2 h2]; rw [h1] at c1; rw [h2] at c2; clear h1 h2 ha hb ht
      have c0 := of_1 w
      unfold OfEnd at c0
      unfold ring1 at *
      have C0 := Lib.hid c0; clear c0
      have C1 := Lib.hid c1; clear c1
      have C2 := Lib.hid c2; clear c2
      go_enter Tryz.func37, Tryz.ntmps37
      go_wp2_with fail
      refine C0.out.mono ?_
      rintro e w1 ⟨rfl, hb⟩
      have HB1 := Lib.hid (hb.alloc hb.size (.cells ring1 116)); clear hb
      go_wp2_with fail
      refine (C1.out _ HB1.out).mono ?_
      rintro e w2 ⟨rfl, hb⟩
      have HS2 := Lib.hid (hb)
      have HB2 := Lib.hid (next_below HB1.out hb); clear hb
      obtain ⟨q0, q1, q2, q3, q4, q5, q6, q7⟩ := ring_cells1 HS2.out
      go_wp2_with fail
      refine (C2.out _ HB2.out).mono ?_
      rintro e w3 ⟨rfl, hb⟩
      have HB3 := Lib.hid (next_below HB2.out hb); clear hb
      go_wp2_with fail
      go_ret2
      exact ⟨rfl, HB3.out⟩
    | true =>
      rw [h1] at c1; rw [h2] at c2
      obtain ⟨v, pv, rv, ov, ea, fv'⟩ := valid_v h1
      obtain ⟨u, pu, ru, ou, eb, fu⟩ := valid_v h2
      clear h1 h2
      have hr : timesF 1 a b = limV (timesV 1 v u) := by unfold timesF; rw [pv, pu]
      have x0 := index3a0
      have x1 := index3a1
      have x2 := index3a2
      have ai := v_inf fv'; have al := v_low fv'; have az := v_zero fv'
      have bi := v_inf fu; have bl := v_low fu; have bz := v_zero fu
      rw [← ea] at ai al az; rw [← eb] at bi bl bz
      have c0 := of_1 w
      unfold OfEnd at c0
      unfold ring1 at *
      have C0 := Lib.hid c0; clear c0
      have C1 := Lib.hid c1; clear c1
      have C2 := Lib.hid c2; clear c2
      rw [hr]
      obtain ⟨r, hrr⟩ : ∃ r, r = limV (timesV 1 v u) := ⟨_, rfl⟩
      rw [← hrr]
      obtain ⟨rs, rn⟩ := r
      have HRR := Lib.hid hrr; clear hrr
      have HX := Lib.hid (And.intro x0 (And.intro x1 x2)); clear x0 x1 x2
      have HAA := Lib.hid (And.intro ai (And.intro al az)); clear ai al az
      have HBB := Lib.hid (And.intro bi (And.intro bl bz)); clear bi bl bz
      have EA := Lib.hid ea; have EB := Lib.hid eb; have FA := Lib.hid fv'; have FB := Lib.hid fu; have OV := Lib.hid ov; have OU := Lib.hid ou
      clear hr pv rv ov ea fv' pu ru ou eb fu ha hb
      have HT := Lib.hid ht; clear ht
      go_enter Tryz.func37, Tryz.ntmps37
      go_wp2_with fail
      refine C0.out.mono ?_
      rintro e w1 ⟨rfl, hb⟩
      have HB1 := Lib.hid (hb.alloc hb.size (.cells ring1 116)); clear hb
      go_wp2_with fail
      refine (C1.out _ HB1.out).mono ?_
      rintro e w2 ⟨rfl, hb⟩
      have HS2 := Lib.hid (hb)
      have HB2 := Lib.hid (next_below HB1.out hb); clear hb
      obtain ⟨q0, q1, q2, q3, q4, q5, q6, q7⟩ := ring_cells1 HS2.out
      go_wp2_with fail
      refine (C2.out _ HB2.out).mono ?_
      rintro e w3 ⟨rfl, hb⟩
      clear q0 q1 q2 q3 q4 q5 q6 q7
      have HS3 := Lib.hid (next_below HS2.out hb)
      have HB3 := Lib.hid (next_below HB2.out hb); clear hb
      obtain ⟨q0, q1, q2, q3, q4, q5, q6, q7⟩ := ring_cells1 HS3.out
      go_wp2_with fail
      obtain ⟨x0, x1, x2⟩ := HX.out
      obtain ⟨ai, al, az⟩ := HAA.out
      obtain ⟨bi, bl, bz⟩ := HBB.out
      by_cases v1 : v = .inf
      · subst v1
        simp only [decide_true] at ai
        clear al az bi bl bz
        have hv2 : rs = ⟨#[105, 110, 102]⟩ ∧ rn = 0 := by
          have := HRR.out
          rw [show timesV 1 _ _ = .inf from by rw [times1], limV_inf] at this
          injection this with e1 e2; exact ⟨e1, e2⟩
        obtain ⟨rfl, rfl⟩ := hv2
        refine wp_loop_rounds 4 ?_
        rw [rounds_succ]; go_wp2_with fail
        go_ret2
        exact ⟨rfl, HB3.out⟩
      · rw [decide_eq_false v1] at ai
        by_cases u1 : u = .inf
        · subst u1
          simp only [decide_true] at bi
          clear al az bl bz
          have hv2 : rs = ⟨#[105, 110, 102]⟩ ∧ rn = 0 := by
            have := HRR.out
            rw [show timesV 1 _ _ = .inf from by rw [times1]; cases v <;> first | rfl | exact absurd rfl v1, limV_inf] at this
            injection this with e1 e2; exact ⟨e1, e2⟩
          obtain ⟨rfl, rfl⟩ := hv2
          refine wp_loop_rounds 4 ?_
          rw [rounds_succ]; go_wp2_with fail
          go_ret2
          exact ⟨rfl, HB3.out⟩
        · rw [decide_eq_false u1] at bi
          by_cases v2 : v = .low
          · subst v2
            simp only [decide_true] at al
            clear az bl bz
            have hv2 : rs = ⟨#[45, 105, 110, 102]⟩ ∧ rn = 0 := by
              have := HRR.out
              rw [show timesV 1 _ _ = .low from by rw [times1]; cases u <;> first | rfl | exact absurd rfl u1, limV_low] at this
              injection this with e1 e2; exact ⟨e1, e2⟩
            obtain ⟨rfl, rfl⟩ := hv2
            refine wp_loop_rounds 4 ?_
            rw [rounds_succ]; go_wp2_with fail
            rw [rounds_succ]; go_wp2_with fail
            rw [rounds_succ]; go_wp2_with fail
            go_ret2
            exact ⟨rfl, HB3.out⟩
          · rw [decide_eq_false v2] at al
            by_cases u2 : u = .low
            · subst u2
              simp only [decide_true] at bl
              clear az bz
              have hv2 : rs = ⟨#[45, 105, 110, 102]⟩ ∧ rn = 0 := by
                have := HRR.out
                rw [show timesV 1 _ _ = .low from by rw [times1]; cases v <;> first | rfl | exact absurd rfl v1, limV_low] at this
                injection this with e1 e2; exact ⟨e1, e2⟩
              obtain ⟨rfl, rfl⟩ := hv2
              refine wp_loop_rounds 4 ?_
              rw [rounds_succ]; go_wp2_with fail
              rw [rounds_succ]; go_wp2_with fail
              rw [rounds_succ]; go_wp2_with fail
              go_ret2
              exact ⟨rfl, HB3.out⟩
            · rw [decide_eq_false u2] at bl
              clear az bz
              cases v with
              | inf => exact absurd rfl v1
              | low => exact absurd rfl v2
              | fin x =>
                cases u with
                | inf => exact absurd rfl u1
                | low => exact absurd rfl u2
                | fin y =>
                  have za : a.size ≤ 9223372036854775807 := by have := txt_size FA.out; rw [EA.out]; show (txt x).size ≤ _; omega
                  have zb : b.size ≤ 9223372036854775807 := by have := txt_size FB.out; rw [EB.out]; show (txt y).size ≤ _; omega
                  have c3 := fun wx (h : Below w.heap.size w wx) => qadd_any a b wx za zb (HT.out.below h (Nat.le_refl _))
                  have e3 : qaddF a b = (rs, rn) := by
                    rw [HRR.out, times1, EA.out, EB.out]
                    show qaddF (txt x) (txt y) = _
                    unfold qaddF; rw [prs_txt FA.out, prs_txt FB.out]; rfl
                  rw [e3] at c3
                  have C3 := Lib.hid c3; clear c3 e3 za zb
                  refine wp_loop_rounds 4 ?_
                  rw [rounds_succ]; go_wp2_with fail
                  rw [rounds_succ]; go_wp2_with fail
                  rw [rounds_succ]; go_wp2_with fail
                  rw [rounds_succ]; go_wp2_with fail
                  go_wp2_with fail
                  refine (C3.out _ HB3.out).mono ?_
                  rintro e w4 ⟨rfl, hb⟩
                  have HB4 := Lib.hid (next_below HB3.out hb); clear hb
                  go_wp2_with fail
                  go_ret2
                  exact ⟨rfl, HB4.out⟩
set_option maxHeartbeats 4000000 in
theorem stimes_2 (a b : ByteArray) (w : World) (ha : a.size ≤ 9223372036854775807) (hb : b.size ≤ 9223372036854775807) (ht : Tab w) : Calls Tryz.prog 37 #[.int .i64 2, .string a, .string b] w (PairEnd (timesF 2 a b) w) := by
  have c1 := fun wx (h : Below w.heap.size w wx) => valid2_any a wx ha (ht.below h (Nat.le_refl _))
  have c2 := fun wx (h : Below w.heap.size w wx) => valid2_any b wx hb (ht.below h (Nat.le_refl _))
  cases h1 : validF 2 a with
  | false =>
    rw [timesF_n1 h1]; rw [h1] at c1; clear h1 c2 ha hb ht
    have c0 := of_2 w
    unfold OfEnd at c0
    unfold ring2 at *
    have C0 := Lib.hid c0; clear c0
    have C1 := Lib.hid c1; clear c1
    go_enter Tryz.func37, Tryz.ntmps37
    go_wp2_with fail
    refine C0.out.mono ?_
    rintro e w1 ⟨rfl, hb⟩
    have HB1 := Lib.hid (hb.alloc hb.size (.cells ring2 116)); clear hb
    go_wp2_with fail
    refine (C1.out _ HB1.out).mono ?_
    rintro e w2 ⟨rfl, hb⟩
    have HB2 := Lib.hid (next_below HB1.out hb); clear hb
    go_wp2_with fail
    go_ret2
    exact ⟨rfl, HB2.out⟩
  | true =>
    cases h2 : validF 2 b with
    | false =>
      rw [timesF_n2 h2]; rw [h1] at c1; rw [h2] at c2; clear h1 h2 ha hb ht
      have c0 := of_2 w
      unfold OfEnd at c0
      unfold ring2 at *
      have C0 := Lib.hid c0; clear c0
      have C1 := Lib.hid c1; clear c1
      have C2 := Lib.hid c2; clear c2
      go_enter Tryz.func37, Tryz.ntmps37
      go_wp2_with fail
      refine C0.out.mono ?_
      rintro e w1 ⟨rfl, hb⟩
      have HB1 := Lib.hid (hb.alloc hb.size (.cells ring2 116)); clear hb
      go_wp2_with fail
      refine (C1.out _ HB1.out).mono ?_
      rintro e w2 ⟨rfl, hb⟩
      have HS2 := Lib.hid (hb)
      have HB2 := Lib.hid (next_below HB1.out hb); clear hb
      obtain ⟨q0, q1, q2, q3, q4, q5, q6, q7⟩ := ring_cells2 HS2.out
      go_wp2_with fail
      refine (C2.out _ HB2.out).mono ?_
      rintro e w3 ⟨rfl, hb⟩
      have HB3 := Lib.hid (next_below HB2.out hb); clear hb
      go_wp2_with fail
      go_ret2
      exact ⟨rfl, HB3.out⟩
    | true =>
      rw [h1] at c1; rw [h2] at c2
      obtain ⟨v, pv, rv, ov, ea, fv'⟩ := valid_v h1
      obtain ⟨u, pu, ru, ou, eb, fu⟩ := valid_v h2
      clear h1 h2
      have hr : timesF 2 a b = limV (timesV 2 v u) := by unfold timesF; rw [pv, pu]
      have x0 := index3b0
      have x1 := index3b1
      have x2 := index3b2
      have ai := v_inf fv'; have al := v_low fv'; have az := v_zero fv'
      have bi := v_inf fu; have bl := v_low fu; have bz := v_zero fu
      rw [← ea] at ai al az; rw [← eb] at bi bl bz
      have c0 := of_2 w
      unfold OfEnd at c0
      unfold ring2 at *
      have C0 := Lib.hid c0; clear c0
      have C1 := Lib.hid c1; clear c1
      have C2 := Lib.hid c2; clear c2
      rw [hr]
      obtain ⟨r, hrr⟩ : ∃ r, r = limV (timesV 2 v u) := ⟨_, rfl⟩
      rw [← hrr]
      obtain ⟨rs, rn⟩ := r
      have HRR := Lib.hid hrr; clear hrr
      have HX := Lib.hid (And.intro x0 (And.intro x1 x2)); clear x0 x1 x2
      have HAA := Lib.hid (And.intro ai (And.intro al az)); clear ai al az
      have HBB := Lib.hid (And.intro bi (And.intro bl bz)); clear bi bl bz
      have EA := Lib.hid ea; have EB := Lib.hid eb; have FA := Lib.hid fv'; have FB := Lib.hid fu; have OV := Lib.hid ov; have OU := Lib.hid ou
      clear hr pv rv ov ea fv' pu ru ou eb fu ha hb
      have HT := Lib.hid ht; clear ht
      go_enter Tryz.func37, Tryz.ntmps37
      go_wp2_with fail
      refine C0.out.mono ?_
      rintro e w1 ⟨rfl, hb⟩
      have HB1 := Lib.hid (hb.alloc hb.size (.cells ring2 116)); clear hb
      go_wp2_with fail
      refine (C1.out _ HB1.out).mono ?_
      rintro e w2 ⟨rfl, hb⟩
      have HS2 := Lib.hid (hb)
      have HB2 := Lib.hid (next_below HB1.out hb); clear hb
      obtain ⟨q0, q1, q2, q3, q4, q5, q6, q7⟩ := ring_cells2 HS2.out
      go_wp2_with fail
      refine (C2.out _ HB2.out).mono ?_
      rintro e w3 ⟨rfl, hb⟩
      clear q0 q1 q2 q3 q4 q5 q6 q7
      have HS3 := Lib.hid (next_below HS2.out hb)
      have HB3 := Lib.hid (next_below HB2.out hb); clear hb
      obtain ⟨q0, q1, q2, q3, q4, q5, q6, q7⟩ := ring_cells2 HS3.out
      go_wp2_with fail
      obtain ⟨x0, x1, x2⟩ := HX.out
      obtain ⟨ai, al, az⟩ := HAA.out
      obtain ⟨bi, bl, bz⟩ := HBB.out
      have l1 : v ≠ .low := okV_low OV.out (by decide)
      have l2 : u ≠ .low := okV_low OU.out (by decide)
      rw [decide_eq_false l1] at al
      rw [decide_eq_false l2] at bl
      by_cases v1 : v = .fin 0
      · subst v1
        simp only [decide_true] at az
        clear ai al bi bl bz
        have hv2 : rs = ⟨#[48]⟩ ∧ rn = 0 := by
          have := HRR.out
          rw [show timesV 2 _ _ = .fin 0 from by rw [times23 (by decide) l1 l2, zero_mulV], limV_zero] at this
          injection this with e1 e2; exact ⟨e1, e2⟩
        obtain ⟨rfl, rfl⟩ := hv2
        refine wp_loop_rounds 4 ?_
        rw [rounds_succ]; go_wp2_with fail
        go_ret2
        exact ⟨rfl, HB3.out⟩
      · rw [decide_eq_false v1] at az
        by_cases u1 : u = .fin 0
        · subst u1
          simp only [decide_true] at bz
          clear ai al bi bl
          have hv2 : rs = ⟨#[48]⟩ ∧ rn = 0 := by
            have := HRR.out
            rw [show timesV 2 _ _ = .fin 0 from by rw [times23 (by decide) l1 l2, mulV_zero], limV_zero] at this
            injection this with e1 e2; exact ⟨e1, e2⟩
          obtain ⟨rfl, rfl⟩ := hv2
          refine wp_loop_rounds 4 ?_
          rw [rounds_succ]; go_wp2_with fail
          go_ret2
          exact ⟨rfl, HB3.out⟩
        · rw [decide_eq_false u1] at bz
          by_cases v2 : v = .inf
          · subst v2
            simp only [decide_true] at ai
            clear al bi bl
            have hv2 : rs = ⟨#[105, 110, 102]⟩ ∧ rn = 0 := by
              have := HRR.out
              rw [show timesV 2 _ _ = .inf from by rw [times23 (by decide) l1 l2]; unfold mulV; rw [if_neg (fun e => e.elim v1 u1)], limV_inf] at this
              injection this with e1 e2; exact ⟨e1, e2⟩
            obtain ⟨rfl, rfl⟩ := hv2
            refine wp_loop_rounds 4 ?_
            rw [rounds_succ]; go_wp2_with fail
            rw [rounds_succ]; go_wp2_with fail
            go_ret2
            exact ⟨rfl, HB3.out⟩
          · rw [decide_eq_false v2] at ai
            by_cases u2 : u = .inf
            · subst u2
              simp only [decide_true] at bi
              clear al bl
              have hv2 : rs = ⟨#[105, 110, 102]⟩ ∧ rn = 0 := by
                have := HRR.out
                rw [show timesV 2 _ _ = .inf from by rw [times23 (by decide) l1 l2]; unfold mulV; rw [if_neg (fun e => e.elim v1 u1)]; cases v <;> rfl, limV_inf] at this
                injection this with e1 e2; exact ⟨e1, e2⟩
              obtain ⟨rfl, rfl⟩ := hv2
              refine wp_loop_rounds 4 ?_
              rw [rounds_succ]; go_wp2_with fail
              rw [rounds_succ]; go_wp2_with fail
              go_ret2
              exact ⟨rfl, HB3.out⟩
            · rw [decide_eq_false u2] at bi
              cases v with
              | inf => exact absurd rfl v2
              | low => exact absurd rfl l1
              | fin x =>
                cases u with
                | inf => exact absurd rfl u2
                | low => exact absurd rfl l2
                | fin y =>
                  have za : a.size ≤ 9223372036854775807 := by have := txt_size FA.out; rw [EA.out]; show (txt x).size ≤ _; omega
                  have zb : b.size ≤ 9223372036854775807 := by have := txt_size FB.out; rw [EB.out]; show (txt y).size ≤ _; omega
                  have c3 := fun wx (h : Below w.heap.size w wx) => qmul_any a b wx za zb (HT.out.below h (Nat.le_refl _))
                  have e3 : qmulF a b = (rs, rn) := by
                    rw [HRR.out, times23 (by decide) l1 l2, mulV_fin, EA.out, EB.out]
                    show qmulF (txt x) (txt y) = _
                    unfold qmulF; rw [prs_txt FA.out, prs_txt FB.out]; rfl
                  rw [e3] at c3
                  have C3 := Lib.hid c3; clear c3 e3 za zb
                  refine wp_loop_rounds 4 ?_
                  rw [rounds_succ]; go_wp2_with fail
                  rw [rounds_succ]; go_wp2_with fail
                  rw [rounds_succ]; go_wp2_with fail
                  rw [rounds_succ]; go_wp2_with fail
                  go_wp2_with fail
                  refine (C3.out _ HB3.out).mono ?_
                  rintro e w4 ⟨rfl, hb⟩
                  have HB4 := Lib.hid (next_below HB3.out hb); clear hb
                  go_wp2_with fail
                  go_ret2
                  exact ⟨rfl, HB4.out⟩
set_option maxHeartbeats 4000000 in
theorem stimes_3 (a b : ByteArray) (w : World) (ha : a.size ≤ 9223372036854775807) (hb : b.size ≤ 9223372036854775807) (ht : Tab w) : Calls Tryz.prog 37 #[.int .i64 3, .string a, .string b] w (PairEnd (timesF 3 a b) w) := by
  have c1 := fun wx (h : Below w.heap.size w wx) => valid3_any a wx ha (ht.below h (Nat.le_refl _))
  have c2 := fun wx (h : Below w.heap.size w wx) => valid3_any b wx hb (ht.below h (Nat.le_refl _))
  cases h1 : validF 3 a with
  | false =>
    rw [timesF_n1 h1]; rw [h1] at c1; clear h1 c2 ha hb ht
    have c0 := of_3 w
    unfold OfEnd at c0
    unfold ring3 at *
    have C0 := Lib.hid c0; clear c0
    have C1 := Lib.hid c1; clear c1
    go_enter Tryz.func37, Tryz.ntmps37
    go_wp2_with fail
    refine C0.out.mono ?_
    rintro e w1 ⟨rfl, hb⟩
    have HB1 := Lib.hid (hb.alloc hb.size (.cells ring3 116)); clear hb
    go_wp2_with fail
    refine (C1.out _ HB1.out).mono ?_
    rintro e w2 ⟨rfl, hb⟩
    have HB2 := Lib.hid (next_below HB1.out hb); clear hb
    go_wp2_with fail
    go_ret2
    exact ⟨rfl, HB2.out⟩
  | true =>
    cases h2 : validF 3 b with
    | false =>
      rw [timesF_n2 h2]; rw [h1] at c1; rw [h2] at c2; clear h1 h2 ha hb ht
      have c0 := of_3 w
      unfold OfEnd at c0
      unfold ring3 at *
      have C0 := Lib.hid c0; clear c0
      have C1 := Lib.hid c1; clear c1
      have C2 := Lib.hid c2; clear c2
      go_enter Tryz.func37, Tryz.ntmps37
      go_wp2_with fail
      refine C0.out.mono ?_
      rintro e w1 ⟨rfl, hb⟩
      have HB1 := Lib.hid (hb.alloc hb.size (.cells ring3 116)); clear hb
      go_wp2_with fail
      refine (C1.out _ HB1.out).mono ?_
      rintro e w2 ⟨rfl, hb⟩
      have HS2 := Lib.hid (hb)
      have HB2 := Lib.hid (next_below HB1.out hb); clear hb
      obtain ⟨q0, q1, q2, q3, q4, q5, q6, q7⟩ := ring_cells3 HS2.out
      go_wp2_with fail
      refine (C2.out _ HB2.out).mono ?_
      rintro e w3 ⟨rfl, hb⟩
      have HB3 := Lib.hid (next_below HB2.out hb); clear hb
      go_wp2_with fail
      go_ret2
      exact ⟨rfl, HB3.out⟩
    | true =>
      rw [h1] at c1; rw [h2] at c2
      obtain ⟨v, pv, rv, ov, ea, fv'⟩ := valid_v h1
      obtain ⟨u, pu, ru, ou, eb, fu⟩ := valid_v h2
      clear h1 h2
      have hr : timesF 3 a b = limV (timesV 3 v u) := by unfold timesF; rw [pv, pu]
      have x0 := index3b0
      have x1 := index3b1
      have x2 := index3b2
      have ai := v_inf fv'; have al := v_low fv'; have az := v_zero fv'
      have bi := v_inf fu; have bl := v_low fu; have bz := v_zero fu
      rw [← ea] at ai al az; rw [← eb] at bi bl bz
      have c0 := of_3 w
      unfold OfEnd at c0
      unfold ring3 at *
      have C0 := Lib.hid c0; clear c0
      have C1 := Lib.hid c1; clear c1
      have C2 := Lib.hid c2; clear c2
      rw [hr]
      obtain ⟨r, hrr⟩ : ∃ r, r = limV (timesV 3 v u) := ⟨_, rfl⟩
      rw [← hrr]
      obtain ⟨rs, rn⟩ := r
      have HRR := Lib.hid hrr; clear hrr
      have HX := Lib.hid (And.intro x0 (And.intro x1 x2)); clear x0 x1 x2
      have HAA := Lib.hid (And.intro ai (And.intro al az)); clear ai al az
      have HBB := Lib.hid (And.intro bi (And.intro bl bz)); clear bi bl bz
      have EA := Lib.hid ea; have EB := Lib.hid eb; have FA := Lib.hid fv'; have FB := Lib.hid fu; have OV := Lib.hid ov; have OU := Lib.hid ou
      clear hr pv rv ov ea fv' pu ru ou eb fu ha hb
      have HT := Lib.hid ht; clear ht
      go_enter Tryz.func37, Tryz.ntmps37
      go_wp2_with fail
      refine C0.out.mono ?_
      rintro e w1 ⟨rfl, hb⟩
      have HB1 := Lib.hid (hb.alloc hb.size (.cells ring3 116)); clear hb
      go_wp2_with fail
      refine (C1.out _ HB1.out).mono ?_
      rintro e w2 ⟨rfl, hb⟩
      have HS2 := Lib.hid (hb)
      have HB2 := Lib.hid (next_below HB1.out hb); clear hb
      obtain ⟨q0, q1, q2, q3, q4, q5, q6, q7⟩ := ring_cells3 HS2.out
      go_wp2_with fail
      refine (C2.out _ HB2.out).mono ?_
      rintro e w3 ⟨rfl, hb⟩
      clear q0 q1 q2 q3 q4 q5 q6 q7
      have HS3 := Lib.hid (next_below HS2.out hb)
      have HB3 := Lib.hid (next_below HB2.out hb); clear hb
      obtain ⟨q0, q1, q2, q3, q4, q5, q6, q7⟩ := ring_cells3 HS3.out
      go_wp2_with fail
      obtain ⟨x0, x1, x2⟩ := HX.out
      obtain ⟨ai, al, az⟩ := HAA.out
      obtain ⟨bi, bl, bz⟩ := HBB.out
      have l1 : v ≠ .low := okV_low OV.out (by decide)
      have l2 : u ≠ .low := okV_low OU.out (by decide)
      rw [decide_eq_false l1] at al
      rw [decide_eq_false l2] at bl
      by_cases v1 : v = .fin 0
      · subst v1
        simp only [decide_true] at az
        clear ai al bi bl bz
        have hv2 : rs = ⟨#[48]⟩ ∧ rn = 0 := by
          have := HRR.out
          rw [show timesV 3 _ _ = .fin 0 from by rw [times23 (by decide) l1 l2, zero_mulV], limV_zero] at this
          injection this with e1 e2; exact ⟨e1, e2⟩
        obtain ⟨rfl, rfl⟩ := hv2
        refine wp_loop_rounds 4 ?_
        rw [rounds_succ]; go_wp2_with fail
        go_ret2
        exact ⟨rfl, HB3.out⟩
      · rw [decide_eq_false v1] at az
        by_cases u1 : u = .fin 0
        · subst u1
          simp only [decide_true] at bz
          clear ai al bi bl
          have hv2 : rs = ⟨#[48]⟩ ∧ rn = 0 := by
            have := HRR.out
            rw [show timesV 3 _ _ = .fin 0 from by rw [times23 (by decide) l1 l2, mulV_zero], limV_zero] at this
            injection this with e1 e2; exact ⟨e1, e2⟩
          obtain ⟨rfl, rfl⟩ := hv2
          refine wp_loop_rounds 4 ?_
          rw [rounds_succ]; go_wp2_with fail
          go_ret2
          exact ⟨rfl, HB3.out⟩
        · rw [decide_eq_false u1] at bz
          by_cases v2 : v = .inf
          · subst v2
            simp only [decide_true] at ai
            clear al bi bl
            have hv2 : rs = ⟨#[105, 110, 102]⟩ ∧ rn = 0 := by
              have := HRR.out
              rw [show timesV 3 _ _ = .inf from by rw [times23 (by decide) l1 l2]; unfold mulV; rw [if_neg (fun e => e.elim v1 u1)], limV_inf] at this
              injection this with e1 e2; exact ⟨e1, e2⟩
            obtain ⟨rfl, rfl⟩ := hv2
            refine wp_loop_rounds 4 ?_
            rw [rounds_succ]; go_wp2_with fail
            rw [rounds_succ]; go_wp2_with fail
            go_ret2
            exact ⟨rfl, HB3.out⟩
          · rw [decide_eq_false v2] at ai
            by_cases u2 : u = .inf
            · subst u2
              simp only [decide_true] at bi
              clear al bl
              have hv2 : rs = ⟨#[105, 110, 102]⟩ ∧ rn = 0 := by
                have := HRR.out
                rw [show timesV 3 _ _ = .inf from by rw [times23 (by decide) l1 l2]; unfold mulV; rw [if_neg (fun e => e.elim v1 u1)]; cases v <;> rfl, limV_inf] at this
                injection this with e1 e2; exact ⟨e1, e2⟩
              obtain ⟨rfl, rfl⟩ := hv2
              refine wp_loop_rounds 4 ?_
              rw [rounds_succ]; go_wp2_with fail
              rw [rounds_succ]; go_wp2_with fail
              go_ret2
              exact ⟨rfl, HB3.out⟩
            · rw [decide_eq_false u2] at bi
              cases v with
              | inf => exact absurd rfl v2
              | low => exact absurd rfl l1
              | fin x =>
                cases u with
                | inf => exact absurd rfl u2
                | low => exact absurd rfl l2
                | fin y =>
                  have za : a.size ≤ 9223372036854775807 := by have := txt_size FA.out; rw [EA.out]; show (txt x).size ≤ _; omega
                  have zb : b.size ≤ 9223372036854775807 := by have := txt_size FB.out; rw [EB.out]; show (txt y).size ≤ _; omega
                  have c3 := fun wx (h : Below w.heap.size w wx) => qmul_any a b wx za zb (HT.out.below h (Nat.le_refl _))
                  have e3 : qmulF a b = (rs, rn) := by
                    rw [HRR.out, times23 (by decide) l1 l2, mulV_fin, EA.out, EB.out]
                    show qmulF (txt x) (txt y) = _
                    unfold qmulF; rw [prs_txt FA.out, prs_txt FB.out]; rfl
                  rw [e3] at c3
                  have C3 := Lib.hid c3; clear c3 e3 za zb
                  refine wp_loop_rounds 4 ?_
                  rw [rounds_succ]; go_wp2_with fail
                  rw [rounds_succ]; go_wp2_with fail
                  rw [rounds_succ]; go_wp2_with fail
                  rw [rounds_succ]; go_wp2_with fail
                  go_wp2_with fail
                  refine (C3.out _ HB3.out).mono ?_
                  rintro e w4 ⟨rfl, hb⟩
                  have HB4 := Lib.hid (next_below HB3.out hb); clear hb
                  go_wp2_with fail
                  go_ret2
                  exact ⟨rfl, HB4.out⟩
theorem stimes_no (k : Int) (a b : ByteArray) (w : World) (hk : k < 1 ∨ 3 < k) : Calls Tryz.prog 37 #[.int .i64 k, .string a, .string b] w (PairEnd (timesF k a b) w) := by
  rw [timesF_n1 (validF_no hk a)]
  have c0 := of_no k w hk
  unfold OfEnd at c0
  unfold ring0 at *
  have C0 := Lib.hid c0; clear c0
  go_enter Tryz.func37, Tryz.ntmps37
  go_wp2_with fail
  refine C0.out.mono ?_
  rintro e w1 ⟨rfl, hb⟩
  have HB1 := Lib.hid (hb.alloc hb.size (.cells ring0 116)); clear hb
  go_wp2_with fail
  go_ret2
  exact ⟨rfl, HB1.out⟩
theorem semitimes_any (k : Int) (a b : ByteArray) (w : World) (ha : a.size ≤ 9223372036854775807) (hb : b.size ≤ 9223372036854775807) (ht : Tab w) : Calls Tryz.prog 37 #[.int .i64 k, .string a, .string b] w (PairEnd (timesF k a b) w) := by
  rcases kind_cases k with rfl | rfl | rfl | hk
  · exact stimes_1 a b w ha hb ht
  · exact stimes_2 a b w ha hb ht
  · exact stimes_3 a b w ha hb ht
  · exact stimes_no k a b w hk
end Go.Proofs.YtjekapjbigfkbaaGreatDoor

namespace Go.Proofs.YtjekapjbigfkbaaGreatDoor
open Go Go.RowKit
set_option maxRecDepth 100000
end Go.Proofs.YtjekapjbigfkbaaGreatDoor
namespace Go.Proofs.YtjekapjbigfkbaaGreatDoor
open Go Go.RowKit
set_option maxRecDepth 100000
theorem zeroF_size (k : Int) : (zeroF k).size ≤ 100000 := by
  rcases kind_cases k with rfl | rfl | rfl | hk
  · rw [zeroF_1]; decide
  · rw [zeroF_2]; decide
  · rw [zeroF_3]; decide
  · rw [zeroF_no hk]; decide
theorem oneF_size (k : Int) : (oneF k).size ≤ 100000 := by
  rcases kind_cases k with rfl | rfl | rfl | hk
  · rw [oneF_1]; decide
  · rw [oneF_2]; decide
  · rw [oneF_3]; decide
  · rw [oneF_no hk]; decide
end Go.Proofs.YtjekapjbigfkbaaGreatDoor

namespace Go.Proofs.YtjekapjbigfkbaaGreatDoor
open Go Go.RowKit
set_option maxRecDepth 100000
end Go.Proofs.YtjekapjbigfkbaaGreatDoor
namespace Go.Proofs.YtjekapjbigfkbaaGreatDoor
open Go Go.RowKit
set_option maxRecDepth 100000
def dval : List Nat → Nat | [] => 0 | x :: xs => x + 10 * dval xs
def Dig (xs : List Nat) : Prop := ∀ i, nth xs i < 10
theorem dig_take {xs : List Nat} (h : Dig xs) (k : Nat) : Dig (xs.take k) := fun i => by
  by_cases h1 : i < k
  · rw [nth_take _ _ _ h1]; exact h i
  · rw [nth_out _ _ (by rw [List.length_take]; omega)]; omega
theorem dval_append (xs ys : List Nat) : dval (xs ++ ys) = dval xs + 10 ^ xs.length * dval ys := by
  induction xs with
  | nil => simp [dval]
  | cons x xs ih => simp only [List.cons_append, dval, ih, List.length_cons, Nat.pow_succ]; rw [Nat.mul_add, Nat.mul_comm (10 ^ xs.length) 10, Nat.mul_assoc]; omega
theorem dval_snoc (xs : List Nat) (x : Nat) : dval (xs ++ [x]) = dval xs + 10 ^ xs.length * x := by rw [dval_append]; simp [dval]
theorem dval_take_succ (xs : List Nat) (k : Nat) : dval (xs.take (k + 1)) = dval (xs.take k) + 10 ^ k * nth xs k := by
  by_cases h : k < xs.length
  · rw [take_snocN xs k h, dval_snoc, List.length_take, Nat.min_eq_left (by omega)]
  · rw [List.take_of_length_le (by omega), List.take_of_length_le (by omega), nth_out xs k (by omega)]; simp
theorem dval_zero {xs : List Nat} (h : ∀ i, nth xs i = 0) : dval xs = 0 := by
  induction xs with
  | nil => rfl
  | cons x xs ih => simp only [dval]; rw [ih (fun i => h (i + 1)), show x = 0 from h 0]
theorem dval_lt {xs : List Nat} (h : Dig xs) : dval xs < 10 ^ xs.length := by
  induction xs with
  | nil => simp [dval]
  | cons x xs ih =>
    have h1 := h 0
    rw [nth_cons_zero] at h1
    have := ih (fun i => h (i + 1))
    simp only [dval, List.length_cons, Nat.pow_succ]; omega
def byteOf (d : Nat) : UInt8 := UInt8.ofNat (48 + d)
theorem byteOf_toNat {d : Nat} (h : d < 10) : (byteOf d).toNat = 48 + d := u8n (by omega)
def bytesOf (xs : List Nat) : List UInt8 := xs.reverse.map byteOf
end Go.Proofs.YtjekapjbigfkbaaGreatDoor
namespace Go.Proofs.YtjekapjbigfkbaaGreatDoor
open Go Go.RowKit
set_option maxRecDepth 100000
end Go.Proofs.YtjekapjbigfkbaaGreatDoor
namespace Go.Proofs.YtjekapjbigfkbaaGreatDoor
open Go Go.RowKit
set_option maxRecDepth 100000
end Go.Proofs.YtjekapjbigfkbaaGreatDoor
namespace Go.Proofs.YtjekapjbigfkbaaGreatDoor
open Go Go.RowKit
set_option maxRecDepth 100000
end Go.Proofs.YtjekapjbigfkbaaGreatDoor
