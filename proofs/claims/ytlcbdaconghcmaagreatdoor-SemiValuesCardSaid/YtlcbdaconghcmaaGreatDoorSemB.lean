/- The walk of semi.of: the semiring of a kind. -/
import Derived.Test.YtlcbdaconghcmaaGreatDoorSemA
namespace Go.Proofs.YtlcbdaconghcmaaGreatDoor
open Go Go.RowKit
set_option maxRecDepth 100000

theorem below_setCells' {B b : Nat} {a : World} : ∀ {w : World}, Below B a w → B ≤ b → ∀ (vs : List Value) (o : Nat), Below B a (w.setCells b o vs)
  | _, h, _, [], _ => h
  | _, h, hB, v :: vs, o => below_setCells' (h.setCell (p := ⟨b, o, none⟩) hB v) hB vs (o + 1)
theorem of_gen (k : Int) (RV R : Array Value) (w : World) (hk0 : 1 ≤ k) (hk3 : k ≤ 3) (hsz : R.size = 8) (h1 : R.all (·.oneCell') = true) (hr : ∀ wx, Calls Tryz.prog 47 #[] wx fun e w' => e = .returned (.agg RV) ∧ Below wx.heap.size wx w')
    (hx : ∀ w, (Instr.index 50 (.agg RV) (.int .i64 k)).run Tryz.prog w = .ok (.agg R) w) : Calls Tryz.prog 34 #[.int .i64 k] w (OfEnd R true w) := by
  have hi : (Tryz.prog.info? 44).map (·.size) = some R.size := by rw [hsz]; kernel_rfl
  have HI := Lib.hid hi; clear hi
  have H1 := Lib.hid h1; clear h1
  have HR := Lib.hid hr; clear hr
  have HS := Lib.hid hsz; clear hsz
  have hk1 : decide (k < 1) = false := by rw [decide_eq_false_iff_not]; omega
  have hk2 : decide (3 < k) = false := by rw [decide_eq_false_iff_not]; omega
  have hb0 : Below w.heap.size w (w.alloc (.cells ring0 44)) := (Below.refl _ _).alloc (Nat.le_refl _) _
  have HB0 := Lib.hid hb0; clear hb0
  go_enter Tryz.func34, Tryz.ntmps34
  go_wp2_with fail
  refine (HR.out _).mono ?_
  rintro e w1 ⟨rfl, hb1⟩
  have HB1 := Lib.hid hb1; clear hb1
  have ht := there8 rfl HB1.out
  rw [← HS.out] at ht
  have HT := Lib.hid ht; clear ht
  go_wp2_with (refine wpList_store_mid rfl 44 (.tmp 2) (.tmp 13) rfl w.heap.size 0 R rfl rfl HT.out HI.out H1.out ?_)
  have hrng := World.rangeAt_setCells_same w1 w.heap.size 0 R.toList (by rw [Array.length_toList]; exact HT.out)
  have hres := results_cell8 (fn := Tryz.f34) rfl #[.int .i64 k, undef, .pointer (some ⟨w.heap.size, 0, none⟩), .bool true, .int .i64 k, .bool false, .bool false, .int .i64 k, .bool false, .bool false, undef, .agg RV, .int .i64 k, .agg R] _ w.heap.size R.toList (.bool true) rfl rfl (by rw [Array.length_toList]; exact HS.out) hrng
  rw [Array.toArray_toList] at hres
  exact bodyPost_ret hres rfl ⟨rfl, below_setCells' (HB0.out.trans (HB1.out.mono HB0.out.size)) (Nat.le_refl _) _ _⟩
theorem index_1 (w : World) : (Instr.index 50 (.agg ringsV) (.int .i64 1)).run Tryz.prog w = .ok (.agg ring1) w := by kernel_rfl
theorem of_1 (w : World) : Calls Tryz.prog 34 #[.int .i64 1] w (OfEnd ring1 true w) :=
  of_gen 1 ringsV ring1 w (by decide) (by decide) rfl (by decide +kernel) rings_any index_1
theorem index_2 (w : World) : (Instr.index 50 (.agg ringsV) (.int .i64 2)).run Tryz.prog w = .ok (.agg ring2) w := by kernel_rfl
theorem of_2 (w : World) : Calls Tryz.prog 34 #[.int .i64 2] w (OfEnd ring2 true w) :=
  of_gen 2 ringsV ring2 w (by decide) (by decide) rfl (by decide +kernel) rings_any index_2
theorem index_3 (w : World) : (Instr.index 50 (.agg ringsV) (.int .i64 3)).run Tryz.prog w = .ok (.agg ring3) w := by kernel_rfl
theorem of_3 (w : World) : Calls Tryz.prog 34 #[.int .i64 3] w (OfEnd ring3 true w) :=
  of_gen 3 ringsV ring3 w (by decide) (by decide) rfl (by decide +kernel) rings_any index_3
def ringV (k : Int) : Array Value := if k = 1 then ring1 else if k = 2 then ring2 else if k = 3 then ring3 else ring0
theorem of_any (k : Int) (w : World) : Calls Tryz.prog 34 #[.int .i64 k] w (OfEnd (ringV k) (kindB k) w) := by
  by_cases h : k < 1 ∨ 3 < k
  · have e1 : ringV k = ring0 := by unfold ringV; rw [if_neg (by omega), if_neg (by omega), if_neg (by omega)]
    have e2 : kindB k = false := by unfold kindB; rw [Bool.and_eq_false_iff]; simp; omega
    rw [e1, e2]; exact of_no k w h
  · have : k = 1 ∨ k = 2 ∨ k = 3 := by omega
    rcases this with rfl | rfl | rfl
    · exact of_1 w
    · exact of_2 w
    · exact of_3 w
end Go.Proofs.YtlcbdaconghcmaaGreatDoor
