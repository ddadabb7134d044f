/- The walks of semi's exported functions: Valid, Weight, Zero, One, Plus, Star, Better. -/
import Derived.Test.YtlcbdaconghcmaaGreatDoorSemD
namespace Go.Proofs.YtlcbdaconghcmaaGreatDoor
open Go Go.RowKit
set_option maxRecDepth 100000

theorem vprs_no {k : Int} (hk : k < 1 ∨ 3 < k) (a : ByteArray) : vprs k a = none := by
  cases h : vprs k a with
  | none => rfl
  | some v => have := okV_kind (vprs_some.1 h).2; omega
theorem validF_no {k : Int} (hk : k < 1 ∨ 3 < k) (a : ByteArray) : validF k a = false := by unfold validF; rw [vprs_no hk]; rfl
theorem wtV_kind' {k : Int} {v : V} (h : wtV k v) : k = 1 ∨ k = 2 ∨ k = 3 := by cases v <;> simp only [wtV] at h <;> omega
theorem weightF_no {k : Int} (hk : k < 1 ∨ 3 < k) (a : ByteArray) : weightF k a = false := by
  unfold weightF
  cases rdV a with
  | none => rfl
  | some v => show decide (wtV k v) = false; rw [decide_eq_false_iff_not]; intro h; have := wtV_kind' h; omega
theorem kind_no {k : Int} (hk : k < 1 ∨ 3 < k) : kindB k = false := by unfold kindB; rw [Bool.and_eq_false_iff]; simp; omega
theorem kind_cases (k : Int) : k = 1 ∨ k = 2 ∨ k = 3 ∨ (k < 1 ∨ 3 < k) := by omega
theorem valid_v {k : Int} {a : ByteArray} (h : validF k a = true) : ∃ v, vprs k a = some v ∧ rdV a = some v ∧ okV k v ∧ a = vtxt v ∧ fitV v := by
  unfold validF at h
  obtain ⟨v, hv⟩ := Option.isSome_iff_exists.1 h
  obtain ⟨h1, h2⟩ := vprs_some.1 hv
  exact ⟨v, hv, h1, h2, rdV_some h1⟩
theorem valid_n {k : Int} {a : ByteArray} (h : validF k a = false) : vprs k a = none := by
  unfold validF at h
  cases hv : vprs k a with
  | none => rfl
  | some v => rw [hv] at h; simp at h
theorem plusF_n1 {k : Int} {a b : ByteArray} (h : validF k a = false) : plusF k a b = (⟨#[]⟩, 1) := by unfold plusF; rw [valid_n h]; rfl
theorem plusF_n2 {k : Int} {a b : ByteArray} (h : validF k b = false) : plusF k a b = (⟨#[]⟩, 1) := by unfold plusF; rw [valid_n h]; cases vprs k a <;> rfl
theorem timesF_n1 {k : Int} {a b : ByteArray} (h : validF k a = false) : timesF k a b = (⟨#[]⟩, 1) := by unfold timesF; rw [valid_n h]; rfl
theorem timesF_n2 {k : Int} {a b : ByteArray} (h : validF k b = false) : timesF k a b = (⟨#[]⟩, 1) := by unfold timesF; rw [valid_n h]; cases vprs k a <;> rfl
theorem starF_n {k : Int} {a : ByteArray} (h : validF k a = false) : starF k a = (⟨#[]⟩, 1) := by unfold starF; rw [valid_n h]; rfl
theorem betterF_n1 {k : Int} {a b : ByteArray} (h : validF k a = false) : betterF k a b = 0 := by unfold betterF; rw [valid_n h]
theorem betterF_n2 {k : Int} {a b : ByteArray} (h : validF k b = false) : betterF k a b = 0 := by unfold betterF; rw [valid_n h]; cases vprs k a <;> rfl
theorem ring_cells1 {w wk : World} (h : Below (w.alloc (.cells #[.string ⟨#[105, 110, 102]⟩, .string ⟨#[48]⟩, .bool true, fv 62, fv 63, fv 64, fv 59, fv 59] 44)).heap.size (w.alloc (.cells #[.string ⟨#[105, 110, 102]⟩, .string ⟨#[48]⟩, .bool true, fv 62, fv 63, fv 64, fv 59, fv 59] 44)) wk) :
    wk.cell? ⟨w.heap.size, 0, none⟩ = some (.string ⟨#[105, 110, 102]⟩) ∧ wk.cell? ⟨w.heap.size, 1, none⟩ = some (.string ⟨#[48]⟩) ∧ wk.cell? ⟨w.heap.size, 2, none⟩ = some (.bool true) ∧ wk.cell? ⟨w.heap.size, 3, none⟩ = some (fv 62) ∧ wk.cell? ⟨w.heap.size, 4, none⟩ = some (fv 63) ∧ wk.cell? ⟨w.heap.size, 5, none⟩ = some (fv 64) ∧ wk.cell? ⟨w.heap.size, 6, none⟩ = some (fv 59) ∧ wk.cell? ⟨w.heap.size, 7, none⟩ = some (fv 59) :=
  ⟨(cell_kept h 0).trans rfl, (cell_kept h 1).trans rfl, (cell_kept h 2).trans rfl, (cell_kept h 3).trans rfl, (cell_kept h 4).trans rfl, (cell_kept h 5).trans rfl, (cell_kept h 6).trans rfl, (cell_kept h 7).trans rfl⟩
theorem ring_cells2 {w wk : World} (h : Below (w.alloc (.cells #[.string ⟨#[48]⟩, .string ⟨#[49]⟩, .bool false, fv 65, fv 66, fv 67, fv 68, fv 69] 44)).heap.size (w.alloc (.cells #[.string ⟨#[48]⟩, .string ⟨#[49]⟩, .bool false, fv 65, fv 66, fv 67, fv 68, fv 69] 44)) wk) :
    wk.cell? ⟨w.heap.size, 0, none⟩ = some (.string ⟨#[48]⟩) ∧ wk.cell? ⟨w.heap.size, 1, none⟩ = some (.string ⟨#[49]⟩) ∧ wk.cell? ⟨w.heap.size, 2, none⟩ = some (.bool false) ∧ wk.cell? ⟨w.heap.size, 3, none⟩ = some (fv 65) ∧ wk.cell? ⟨w.heap.size, 4, none⟩ = some (fv 66) ∧ wk.cell? ⟨w.heap.size, 5, none⟩ = some (fv 67) ∧ wk.cell? ⟨w.heap.size, 6, none⟩ = some (fv 68) ∧ wk.cell? ⟨w.heap.size, 7, none⟩ = some (fv 69) :=
  ⟨(cell_kept h 0).trans rfl, (cell_kept h 1).trans rfl, (cell_kept h 2).trans rfl, (cell_kept h 3).trans rfl, (cell_kept h 4).trans rfl, (cell_kept h 5).trans rfl, (cell_kept h 6).trans rfl, (cell_kept h 7).trans rfl⟩
theorem ring_cells3 {w wk : World} (h : Below (w.alloc (.cells #[.string ⟨#[48]⟩, .string ⟨#[49]⟩, .bool false, fv 62, fv 66, fv 70, fv 68, fv 69] 44)).heap.size (w.alloc (.cells #[.string ⟨#[48]⟩, .string ⟨#[49]⟩, .bool false, fv 62, fv 66, fv 70, fv 68, fv 69] 44)) wk) :
    wk.cell? ⟨w.heap.size, 0, none⟩ = some (.string ⟨#[48]⟩) ∧ wk.cell? ⟨w.heap.size, 1, none⟩ = some (.string ⟨#[49]⟩) ∧ wk.cell? ⟨w.heap.size, 2, none⟩ = some (.bool false) ∧ wk.cell? ⟨w.heap.size, 3, none⟩ = some (fv 62) ∧ wk.cell? ⟨w.heap.size, 4, none⟩ = some (fv 66) ∧ wk.cell? ⟨w.heap.size, 5, none⟩ = some (fv 70) ∧ wk.cell? ⟨w.heap.size, 6, none⟩ = some (fv 68) ∧ wk.cell? ⟨w.heap.size, 7, none⟩ = some (fv 69) :=
  ⟨(cell_kept h 0).trans rfl, (cell_kept h 1).trans rfl, (cell_kept h 2).trans rfl, (cell_kept h 3).trans rfl, (cell_kept h 4).trans rfl, (cell_kept h 5).trans rfl, (cell_kept h 6).trans rfl, (cell_kept h 7).trans rfl⟩
theorem svalid_1 (a : ByteArray) (w : World) (ha : a.size ≤ 100000) (ht : Tab w) : Calls Tryz.prog 25 #[.int .i64 1, .string a] w (BoolE (validF 1 a) w) := by
  have c1 := fun wx (h : Below w.heap.size w wx) => valid1_any a wx ha (ht.below h (Nat.le_refl _))
  generalize validF 1 a = z at *
  have c0 := of_1 w
  unfold OfEnd at c0
  unfold ring1 at *
  have C0 := Lib.hid c0; clear c0
  have C1 := Lib.hid c1; clear c1 ha ht
  go_enter Tryz.func25, Tryz.ntmps25
  go_wp2_with fail
  refine C0.out.mono ?_
  rintro e w1 ⟨rfl, hb⟩
  have HB1 := Lib.hid (hb.alloc hb.size (.cells ring1 44)); clear hb
  go_wp2_with fail
  refine (C1.out _ HB1.out).mono ?_
  rintro e w2 ⟨rfl, hb⟩
  have HB2 := Lib.hid (next_below HB1.out hb); clear hb
  go_wp2_with fail
  go_ret
  exact ⟨rfl, HB2.out⟩
theorem svalid_2 (a : ByteArray) (w : World) (ha : a.size ≤ 100000) (ht : Tab w) : Calls Tryz.prog 25 #[.int .i64 2, .string a] w (BoolE (validF 2 a) w) := by
  have c1 := fun wx (h : Below w.heap.size w wx) => valid2_any a wx ha (ht.below h (Nat.le_refl _))
  generalize validF 2 a = z at *
  have c0 := of_2 w
  unfold OfEnd at c0
  unfold ring2 at *
  have C0 := Lib.hid c0; clear c0
  have C1 := Lib.hid c1; clear c1 ha ht
  go_enter Tryz.func25, Tryz.ntmps25
  go_wp2_with fail
  refine C0.out.mono ?_
  rintro e w1 ⟨rfl, hb⟩
  have HB1 := Lib.hid (hb.alloc hb.size (.cells ring2 44)); clear hb
  go_wp2_with fail
  refine (C1.out _ HB1.out).mono ?_
  rintro e w2 ⟨rfl, hb⟩
  have HB2 := Lib.hid (next_below HB1.out hb); clear hb
  go_wp2_with fail
  go_ret
  exact ⟨rfl, HB2.out⟩
theorem svalid_3 (a : ByteArray) (w : World) (ha : a.size ≤ 100000) (ht : Tab w) : Calls Tryz.prog 25 #[.int .i64 3, .string a] w (BoolE (validF 3 a) w) := by
  have c1 := fun wx (h : Below w.heap.size w wx) => valid3_any a wx ha (ht.below h (Nat.le_refl _))
  generalize validF 3 a = z at *
  have c0 := of_3 w
  unfold OfEnd at c0
  unfold ring3 at *
  have C0 := Lib.hid c0; clear c0
  have C1 := Lib.hid c1; clear c1 ha ht
  go_enter Tryz.func25, Tryz.ntmps25
  go_wp2_with fail
  refine C0.out.mono ?_
  rintro e w1 ⟨rfl, hb⟩
  have HB1 := Lib.hid (hb.alloc hb.size (.cells ring3 44)); clear hb
  go_wp2_with fail
  refine (C1.out _ HB1.out).mono ?_
  rintro e w2 ⟨rfl, hb⟩
  have HB2 := Lib.hid (next_below HB1.out hb); clear hb
  go_wp2_with fail
  go_ret
  exact ⟨rfl, HB2.out⟩
theorem svalid_no (k : Int) (a : ByteArray) (w : World) (hk : k < 1 ∨ 3 < k) : Calls Tryz.prog 25 #[.int .i64 k, .string a] w (BoolE (validF k a) w) := by
  rw [validF_no hk]
  have c0 := of_no k w hk
  unfold OfEnd at c0
  unfold ring0 at *
  have C0 := Lib.hid c0; clear c0
  go_enter Tryz.func25, Tryz.ntmps25
  go_wp2_with fail
  refine C0.out.mono ?_
  rintro e w1 ⟨rfl, hb⟩
  have HB1 := Lib.hid (hb.alloc hb.size (.cells ring0 44)); clear hb
  go_wp2_with fail
  go_ret
  exact ⟨rfl, HB1.out⟩
theorem semivalid_any (k : Int) (a : ByteArray) (w : World) (ha : a.size ≤ 100000) (ht : Tab w) : Calls Tryz.prog 25 #[.int .i64 k, .string a] w (BoolE (validF k a) w) := by
  rcases kind_cases k with rfl | rfl | rfl | hk
  · exact svalid_1 a w ha ht
  · exact svalid_2 a w ha ht
  · exact svalid_3 a w ha ht
  · exact svalid_no k a w hk
theorem weight1_fn (a : ByteArray) (w : World) (ha : a.size ≤ 100000) (ht : Tab w) : Calls Tryz.prog 59 #[.string a] w (BoolE (weightF 1 a) w) := by
  rw [weightF_1]; exact ratvalid_any a w ha ht
theorem sweight_1 (a : ByteArray) (w : World) (ha : a.size ≤ 100000) (ht : Tab w) : Calls Tryz.prog 22 #[.int .i64 1, .string a] w (BoolE (weightF 1 a) w) := by
  have c1 := fun wx (h : Below w.heap.size w wx) => weight1_fn a wx ha (ht.below h (Nat.le_refl _))
  generalize weightF 1 a = z at *
  have c0 := of_1 w
  unfold OfEnd at c0
  unfold ring1 at *
  have C0 := Lib.hid c0; clear c0
  have C1 := Lib.hid c1; clear c1 ha ht
  go_enter Tryz.func22, Tryz.ntmps22
  go_wp2_with fail
  refine C0.out.mono ?_
  rintro e w1 ⟨rfl, hb⟩
  have HB1 := Lib.hid (hb.alloc hb.size (.cells ring1 44)); clear hb
  go_wp2_with fail
  refine (C1.out _ HB1.out).mono ?_
  rintro e w2 ⟨rfl, hb⟩
  have HB2 := Lib.hid (next_below HB1.out hb); clear hb
  go_wp2_with fail
  go_ret
  exact ⟨rfl, HB2.out⟩
theorem weight2_fn (a : ByteArray) (w : World) (ha : a.size ≤ 100000) (ht : Tab w) : Calls Tryz.prog 69 #[.string a] w (BoolE (weightF 2 a) w) := by
  rw [weightF_23 (k := 2) (by omega)]; exact positive_any a w ha ht
theorem sweight_2 (a : ByteArray) (w : World) (ha : a.size ≤ 100000) (ht : Tab w) : Calls Tryz.prog 22 #[.int .i64 2, .string a] w (BoolE (weightF 2 a) w) := by
  have c1 := fun wx (h : Below w.heap.size w wx) => weight2_fn a wx ha (ht.below h (Nat.le_refl _))
  generalize weightF 2 a = z at *
  have c0 := of_2 w
  unfold OfEnd at c0
  unfold ring2 at *
  have C0 := Lib.hid c0; clear c0
  have C1 := Lib.hid c1; clear c1 ha ht
  go_enter Tryz.func22, Tryz.ntmps22
  go_wp2_with fail
  refine C0.out.mono ?_
  rintro e w1 ⟨rfl, hb⟩
  have HB1 := Lib.hid (hb.alloc hb.size (.cells ring2 44)); clear hb
  go_wp2_with fail
  refine (C1.out _ HB1.out).mono ?_
  rintro e w2 ⟨rfl, hb⟩
  have HB2 := Lib.hid (next_below HB1.out hb); clear hb
  go_wp2_with fail
  go_ret
  exact ⟨rfl, HB2.out⟩
theorem weight3_fn (a : ByteArray) (w : World) (ha : a.size ≤ 100000) (ht : Tab w) : Calls Tryz.prog 69 #[.string a] w (BoolE (weightF 3 a) w) := by
  rw [weightF_23 (k := 3) (by omega)]; exact positive_any a w ha ht
theorem sweight_3 (a : ByteArray) (w : World) (ha : a.size ≤ 100000) (ht : Tab w) : Calls Tryz.prog 22 #[.int .i64 3, .string a] w (BoolE (weightF 3 a) w) := by
  have c1 := fun wx (h : Below w.heap.size w wx) => weight3_fn a wx ha (ht.below h (Nat.le_refl _))
  generalize weightF 3 a = z at *
  have c0 := of_3 w
  unfold OfEnd at c0
  unfold ring3 at *
  have C0 := Lib.hid c0; clear c0
  have C1 := Lib.hid c1; clear c1 ha ht
  go_enter Tryz.func22, Tryz.ntmps22
  go_wp2_with fail
  refine C0.out.mono ?_
  rintro e w1 ⟨rfl, hb⟩
  have HB1 := Lib.hid (hb.alloc hb.size (.cells ring3 44)); clear hb
  go_wp2_with fail
  refine (C1.out _ HB1.out).mono ?_
  rintro e w2 ⟨rfl, hb⟩
  have HB2 := Lib.hid (next_below HB1.out hb); clear hb
  go_wp2_with fail
  go_ret
  exact ⟨rfl, HB2.out⟩
theorem sweight_no (k : Int) (a : ByteArray) (w : World) (hk : k < 1 ∨ 3 < k) : Calls Tryz.prog 22 #[.int .i64 k, .string a] w (BoolE (weightF k a) w) := by
  rw [weightF_no hk]
  have c0 := of_no k w hk
  unfold OfEnd at c0
  unfold ring0 at *
  have C0 := Lib.hid c0; clear c0
  go_enter Tryz.func22, Tryz.ntmps22
  go_wp2_with fail
  refine C0.out.mono ?_
  rintro e w1 ⟨rfl, hb⟩
  have HB1 := Lib.hid (hb.alloc hb.size (.cells ring0 44)); clear hb
  go_wp2_with fail
  go_ret
  exact ⟨rfl, HB1.out⟩
theorem semiweight_any (k : Int) (a : ByteArray) (w : World) (ha : a.size ≤ 100000) (ht : Tab w) : Calls Tryz.prog 22 #[.int .i64 k, .string a] w (BoolE (weightF k a) w) := by
  rcases kind_cases k with rfl | rfl | rfl | hk
  · exact sweight_1 a w ha ht
  · exact sweight_2 a w ha ht
  · exact sweight_3 a w ha ht
  · exact sweight_no k a w hk
theorem zeroF_1 : zeroF 1 = ⟨#[105, 110, 102]⟩ := rfl
theorem semizero_1 (w : World) : Calls Tryz.prog 23 #[.int .i64 1] w (StrE (zeroF 1) w) := by
  rw [zeroF_1]
  have c0 := of_1 w
  unfold OfEnd at c0
  unfold ring1 at *
  have C0 := Lib.hid c0; clear c0
  go_enter Tryz.func23, Tryz.ntmps23
  go_wp2_with fail
  refine C0.out.mono ?_
  rintro e w1 ⟨rfl, hb⟩
  have HB1 := Lib.hid (hb.alloc hb.size (.cells ring1 44)); clear hb
  go_wp2_with fail
  go_ret
  exact ⟨rfl, HB1.out⟩
theorem zeroF_2 : zeroF 2 = ⟨#[48]⟩ := txt_zero
theorem semizero_2 (w : World) : Calls Tryz.prog 23 #[.int .i64 2] w (StrE (zeroF 2) w) := by
  rw [zeroF_2]
  have c0 := of_2 w
  unfold OfEnd at c0
  unfold ring2 at *
  have C0 := Lib.hid c0; clear c0
  go_enter Tryz.func23, Tryz.ntmps23
  go_wp2_with fail
  refine C0.out.mono ?_
  rintro e w1 ⟨rfl, hb⟩
  have HB1 := Lib.hid (hb.alloc hb.size (.cells ring2 44)); clear hb
  go_wp2_with fail
  go_ret
  exact ⟨rfl, HB1.out⟩
theorem zeroF_3 : zeroF 3 = ⟨#[48]⟩ := txt_zero
theorem semizero_3 (w : World) : Calls Tryz.prog 23 #[.int .i64 3] w (StrE (zeroF 3) w) := by
  rw [zeroF_3]
  have c0 := of_3 w
  unfold OfEnd at c0
  unfold ring3 at *
  have C0 := Lib.hid c0; clear c0
  go_enter Tryz.func23, Tryz.ntmps23
  go_wp2_with fail
  refine C0.out.mono ?_
  rintro e w1 ⟨rfl, hb⟩
  have HB1 := Lib.hid (hb.alloc hb.size (.cells ring3 44)); clear hb
  go_wp2_with fail
  go_ret
  exact ⟨rfl, HB1.out⟩
theorem zeroF_no {k : Int} (hk : k < 1 ∨ 3 < k) : zeroF k = ⟨#[]⟩ := by unfold zeroF; rw [kind_no hk]; rfl
theorem semizero_no (k : Int) (w : World) (hk : k < 1 ∨ 3 < k) : Calls Tryz.prog 23 #[.int .i64 k] w (StrE (zeroF k) w) := by
  rw [zeroF_no hk]
  have c0 := of_no k w hk
  unfold OfEnd at c0
  unfold ring0 at *
  have C0 := Lib.hid c0; clear c0
  go_enter Tryz.func23, Tryz.ntmps23
  go_wp2_with fail
  refine C0.out.mono ?_
  rintro e w1 ⟨rfl, hb⟩
  have HB1 := Lib.hid (hb.alloc hb.size (.cells ring0 44)); clear hb
  go_wp2_with fail
  go_ret
  exact ⟨rfl, HB1.out⟩
theorem semizero_any (k : Int) (w : World) : Calls Tryz.prog 23 #[.int .i64 k] w (StrE (zeroF k) w) := by
  rcases kind_cases k with rfl | rfl | rfl | hk
  · exact semizero_1 w
  · exact semizero_2 w
  · exact semizero_3 w
  · exact semizero_no k w hk
theorem oneF_1 : oneF 1 = ⟨#[48]⟩ := txt_zero
theorem semione_1 (w : World) : Calls Tryz.prog 26 #[.int .i64 1] w (StrE (oneF 1) w) := by
  rw [oneF_1]
  have c0 := of_1 w
  unfold OfEnd at c0
  unfold ring1 at *
  have C0 := Lib.hid c0; clear c0
  go_enter Tryz.func26, Tryz.ntmps26
  go_wp2_with fail
  refine C0.out.mono ?_
  rintro e w1 ⟨rfl, hb⟩
  have HB1 := Lib.hid (hb.alloc hb.size (.cells ring1 44)); clear hb
  go_wp2_with fail
  go_ret
  exact ⟨rfl, HB1.out⟩
theorem oneF_2 : oneF 2 = ⟨#[49]⟩ := txt_one
theorem semione_2 (w : World) : Calls Tryz.prog 26 #[.int .i64 2] w (StrE (oneF 2) w) := by
  rw [oneF_2]
  have c0 := of_2 w
  unfold OfEnd at c0
  unfold ring2 at *
  have C0 := Lib.hid c0; clear c0
  go_enter Tryz.func26, Tryz.ntmps26
  go_wp2_with fail
  refine C0.out.mono ?_
  rintro e w1 ⟨rfl, hb⟩
  have HB1 := Lib.hid (hb.alloc hb.size (.cells ring2 44)); clear hb
  go_wp2_with fail
  go_ret
  exact ⟨rfl, HB1.out⟩
theorem oneF_3 : oneF 3 = ⟨#[49]⟩ := txt_one
theorem semione_3 (w : World) : Calls Tryz.prog 26 #[.int .i64 3] w (StrE (oneF 3) w) := by
  rw [oneF_3]
  have c0 := of_3 w
  unfold OfEnd at c0
  unfold ring3 at *
  have C0 := Lib.hid c0; clear c0
  go_enter Tryz.func26, Tryz.ntmps26
  go_wp2_with fail
  refine C0.out.mono ?_
  rintro e w1 ⟨rfl, hb⟩
  have HB1 := Lib.hid (hb.alloc hb.size (.cells ring3 44)); clear hb
  go_wp2_with fail
  go_ret
  exact ⟨rfl, HB1.out⟩
theorem oneF_no {k : Int} (hk : k < 1 ∨ 3 < k) : oneF k = ⟨#[]⟩ := by unfold oneF; rw [kind_no hk]; rfl
theorem semione_no (k : Int) (w : World) (hk : k < 1 ∨ 3 < k) : Calls Tryz.prog 26 #[.int .i64 k] w (StrE (oneF k) w) := by
  rw [oneF_no hk]
  have c0 := of_no k w hk
  unfold OfEnd at c0
  unfold ring0 at *
  have C0 := Lib.hid c0; clear c0
  go_enter Tryz.func26, Tryz.ntmps26
  go_wp2_with fail
  refine C0.out.mono ?_
  rintro e w1 ⟨rfl, hb⟩
  have HB1 := Lib.hid (hb.alloc hb.size (.cells ring0 44)); clear hb
  go_wp2_with fail
  go_ret
  exact ⟨rfl, HB1.out⟩
theorem semione_any (k : Int) (w : World) : Calls Tryz.prog 26 #[.int .i64 k] w (StrE (oneF k) w) := by
  rcases kind_cases k with rfl | rfl | rfl | hk
  · exact semione_1 w
  · exact semione_2 w
  · exact semione_3 w
  · exact semione_no k w hk
set_option maxHeartbeats 4000000 in
theorem splus_1 (a b : ByteArray) (w : World) (ha : a.size ≤ 100000) (hb : b.size ≤ 100000) (ht : Tab w) : Calls Tryz.prog 12 #[.int .i64 1, .string a, .string b] w (PairEnd (plusF 1 a b) w) := by
  have c1 := fun wx (h : Below w.heap.size w wx) => valid1_any a wx ha (ht.below h (Nat.le_refl _))
  have c2 := fun wx (h : Below w.heap.size w wx) => valid1_any b wx hb (ht.below h (Nat.le_refl _))
  cases h1 : validF 1 a with
  | false =>
    rw [plusF_n1 h1]; rw [h1] at c1; clear h1 c2 ha hb ht
    have c0 := of_1 w
    unfold OfEnd at c0
    unfold ring1 at *
    have C0 := Lib.hid c0; clear c0
    have C1 := Lib.hid c1; clear c1
    go_enter Tryz.func12, Tryz.ntmps12
    go_wp2_with fail
    refine C0.out.mono ?_
    rintro e w1 ⟨rfl, hb⟩
    have HB1 := Lib.hid (hb.alloc hb.size (.cells ring1 44)); clear hb
    go_wp2_with fail
    refine (C1.out _ HB1.out).mono ?_
    rintro e w2 ⟨rfl, hb⟩
    have HB2 := Lib.hid (next_below HB1.out hb); clear hb
    go_wp2_with fail
    go_ret2
    exact ⟨rfl, HB2.out⟩
  | true =>
    cases h2 : validF 1 b with
    | false =>
      rw [plusF_n2 h2]; rw [h1] at c1; rw [h2] at c2; clear h1 h2 ha hb ht
      have c0 := of_1 w
      unfold OfEnd at c0
      unfold ring1 at *
      have C0 := Lib.hid c0; clear c0
      have C1 := Lib.hid c1; clear c1
      have C2 := Lib.hid c2; clear c2
      go_enter Tryz.func12, Tryz.ntmps12
      go_wp2_with fail
      refine C0.out.mono ?_
      rintro e w1 ⟨rfl, hb⟩
      have HB1 := Lib.hid (hb.alloc hb.size (.cells ring1 44)); clear hb
      go_wp2_with fail
      refine (C1.out _ HB1.out).mono ?_
      rintro e w2 ⟨rfl, hb⟩
      have HS2 := Lib.hid (hb)
      have HB2 := Lib.hid (next_below HB1.out hb); clear hb
      obtain ⟨q0, q1, q2, q3, q4, q5, q6, q7⟩ := ring_cells1 HS2.out
      go_wp2_with fail
      refine (C2.out _ HB2.out).mono ?_
      rintro e w3 ⟨rfl, hb⟩
      have HB3 := Lib.hid (next_below HB2.out hb); clear hb
      go_wp2_with fail
      go_ret2
      exact ⟨rfl, HB3.out⟩
    | true =>
      rw [h1] at c1; rw [h2] at c2
      obtain ⟨v, pv, rv, ov, ea, fv'⟩ := valid_v h1
      obtain ⟨u, pu, ru, ou, eb, fu⟩ := valid_v h2
      clear h1 h2
      have hr : plusF 1 a b = limV (plusV 1 v u) := by unfold plusF; rw [pv, pu]
      have c3 := fun wx (h : Below w.heap.size w wx) => choose1_any v u wx fv' fu (ht.below h (Nat.le_refl _))
      rw [← ea, ← eb, ← hr] at c3
      generalize plusF 1 a b = r at *
      obtain ⟨rs, rn⟩ := r
      clear hr pv rv ov ea fv' pu ru ou eb fu ha hb ht
      have c0 := of_1 w
      unfold OfEnd at c0
      unfold ring1 at *
      have C0 := Lib.hid c0; clear c0
      have C1 := Lib.hid c1; clear c1
      have C2 := Lib.hid c2; clear c2
      have C3 := Lib.hid c3; clear c3
      go_enter Tryz.func12, Tryz.ntmps12
      go_wp2_with fail
      refine C0.out.mono ?_
      rintro e w1 ⟨rfl, hb⟩
      have HB1 := Lib.hid (hb.alloc hb.size (.cells ring1 44)); clear hb
      go_wp2_with fail
      refine (C1.out _ HB1.out).mono ?_
      rintro e w2 ⟨rfl, hb⟩
      have HS2 := Lib.hid (hb)
      have HB2 := Lib.hid (next_below HB1.out hb); clear hb
      obtain ⟨q0, q1, q2, q3, q4, q5, q6, q7⟩ := ring_cells1 HS2.out
      go_wp2_with fail
      refine (C2.out _ HB2.out).mono ?_
      rintro e w3 ⟨rfl, hb⟩
      clear q0 q1 q2 q3 q4 q5 q6 q7
      have HS3 := Lib.hid (next_below HS2.out hb)
      have HB3 := Lib.hid (next_below HB2.out hb); clear hb
      obtain ⟨q0, q1, q2, q3, q4, q5, q6, q7⟩ := ring_cells1 HS3.out
      go_wp2_with fail
      refine (C3.out _ HB3.out).mono ?_
      rintro e w4 ⟨rfl, hb⟩
      have HB4 := Lib.hid (next_below HB3.out hb); clear hb
      go_wp2_with fail
      go_ret2
      exact ⟨rfl, HB4.out⟩
set_option maxHeartbeats 4000000 in
theorem splus_2 (a b : ByteArray) (w : World) (ha : a.size ≤ 100000) (hb : b.size ≤ 100000) (ht : Tab w) : Calls Tryz.prog 12 #[.int .i64 2, .string a, .string b] w (PairEnd (plusF 2 a b) w) := by
  have c1 := fun wx (h : Below w.heap.size w wx) => valid2_any a wx ha (ht.below h (Nat.le_refl _))
  have c2 := fun wx (h : Below w.heap.size w wx) => valid2_any b wx hb (ht.below h (Nat.le_refl _))
  cases h1 : validF 2 a with
  | false =>
    rw [plusF_n1 h1]; rw [h1] at c1; clear h1 c2 ha hb ht
    have c0 := of_2 w
    unfold OfEnd at c0
    unfold ring2 at *
    have C0 := Lib.hid c0; clear c0
    have C1 := Lib.hid c1; clear c1
    go_enter Tryz.func12, Tryz.ntmps12
    go_wp2_with fail
    refine C0.out.mono ?_
    rintro e w1 ⟨rfl, hb⟩
    have HB1 := Lib.hid (hb.alloc hb.size (.cells ring2 44)); clear hb
    go_wp2_with fail
    refine (C1.out _ HB1.out).mono ?_
    rintro e w2 ⟨rfl, hb⟩
    have HB2 := Lib.hid (next_below HB1.out hb); clear hb
    go_wp2_with fail
    go_ret2
    exact ⟨rfl, HB2.out⟩
  | true =>
    cases h2 : validF 2 b with
    | false =>
      rw [plusF_n2 h2]; rw [h1] at c1; rw [h2] at c2; clear h1 h2 ha hb ht
      have c0 := of_2 w
      unfold OfEnd at c0
      unfold ring2 at *
      have C0 := Lib.hid c0; clear c0
      have C1 := Lib.hid c1; clear c1
      have C2 := Lib.hid c2; clear c2
      go_enter Tryz.func12, Tryz.ntmps12
      go_wp2_with fail
      refine C0.out.mono ?_
      rintro e w1 ⟨rfl, hb⟩
      have HB1 := Lib.hid (hb.alloc hb.size (.cells ring2 44)); clear hb
      go_wp2_with fail
      refine (C1.out _ HB1.out).mono ?_
      rintro e w2 ⟨rfl, hb⟩
      have HS2 := Lib.hid (hb)
      have HB2 := Lib.hid (next_below HB1.out hb); clear hb
      obtain ⟨q0, q1, q2, q3, q4, q5, q6, q7⟩ := ring_cells2 HS2.out
      go_wp2_with fail
      refine (C2.out _ HB2.out).mono ?_
      rintro e w3 ⟨rfl, hb⟩
      have HB3 := Lib.hid (next_below HB2.out hb); clear hb
      go_wp2_with fail
      go_ret2
      exact ⟨rfl, HB3.out⟩
    | true =>
      rw [h1] at c1; rw [h2] at c2
      obtain ⟨v, pv, rv, ov, ea, fv'⟩ := valid_v h1
      obtain ⟨u, pu, ru, ou, eb, fu⟩ := valid_v h2
      clear h1 h2
      have hr : plusF 2 a b = limV (plusV 2 v u) := by unfold plusF; rw [pv, pu]
      have c3 := fun wx (h : Below w.heap.size w wx) => sum_any v u wx fv' fu (okV_low ov (by decide)) (okV_low ou (by decide)) (ht.below h (Nat.le_refl _))
      rw [← ea, ← eb, ← hr] at c3
      generalize plusF 2 a b = r at *
      obtain ⟨rs, rn⟩ := r
      clear hr pv rv ov ea fv' pu ru ou eb fu ha hb ht
      have c0 := of_2 w
      unfold OfEnd at c0
      unfold ring2 at *
      have C0 := Lib.hid c0; clear c0
      have C1 := Lib.hid c1; clear c1
      have C2 := Lib.hid c2; clear c2
      have C3 := Lib.hid c3; clear c3
      go_enter Tryz.func12, Tryz.ntmps12
      go_wp2_with fail
      refine C0.out.mono ?_
      rintro e w1 ⟨rfl, hb⟩
      have HB1 := Lib.hid (hb.alloc hb.size (.cells ring2 44)); clear hb
      go_wp2_with fail
      refine (C1.out _ HB1.out).mono ?_
      rintro e w2 ⟨rfl, hb⟩
      have HS2 := Lib.hid (hb)
      have HB2 := Lib.hid (next_below HB1.out hb); clear hb
      obtain ⟨q0, q1, q2, q3, q4, q5, q6, q7⟩ := ring_cells2 HS2.out
      go_wp2_with fail
      refine (C2.out _ HB2.out).mono ?_
      rintro e w3 ⟨rfl, hb⟩
      clear q0 q1 q2 q3 q4 q5 q6 q7
      have HS3 := Lib.hid (next_below HS2.out hb)
      have HB3 := Lib.hid (next_below HB2.out hb); clear hb
      obtain ⟨q0, q1, q2, q3, q4, q5, q6, q7⟩ := ring_cells2 HS3.out
      go_wp2_with fail
      refine (C3.out _ HB3.out).mono ?_
      rintro e w4 ⟨rfl, hb⟩
      have HB4 := Lib.hid (next_below HB3.out hb); clear hb
      go_wp2_with fail
      go_ret2
      exact ⟨rfl, HB4.out⟩
set_option maxHeartbeats 4000000 in
theorem splus_3 (a b : ByteArray) (w : World) (ha : a.size ≤ 100000) (hb : b.size ≤ 100000) (ht : Tab w) : Calls Tryz.prog 12 #[.int .i64 3, .string a, .string b] w (PairEnd (plusF 3 a b) w) := by
  have c1 := fun wx (h : Below w.heap.size w wx) => valid3_any a wx ha (ht.below h (Nat.le_refl _))
  have c2 := fun wx (h : Below w.heap.size w wx) => valid3_any b wx hb (ht.below h (Nat.le_refl _))
  cases h1 : validF 3 a with
  | false =>
    rw [plusF_n1 h1]; rw [h1] at c1; clear h1 c2 ha hb ht
    have c0 := of_3 w
    unfold OfEnd at c0
    unfold ring3 at *
    have C0 := Lib.hid c0; clear c0
    have C1 := Lib.hid c1; clear c1
    go_enter Tryz.func12, Tryz.ntmps12
    go_wp2_with fail
    refine C0.out.mono ?_
    rintro e w1 ⟨rfl, hb⟩
    have HB1 := Lib.hid (hb.alloc hb.size (.cells ring3 44)); clear hb
    go_wp2_with fail
    refine (C1.out _ HB1.out).mono ?_
    rintro e w2 ⟨rfl, hb⟩
    have HB2 := Lib.hid (next_below HB1.out hb); clear hb
    go_wp2_with fail
    go_ret2
    exact ⟨rfl, HB2.out⟩
  | true =>
    cases h2 : validF 3 b with
    | false =>
      rw [plusF_n2 h2]; rw [h1] at c1; rw [h2] at c2; clear h1 h2 ha hb ht
      have c0 := of_3 w
      unfold OfEnd at c0
      unfold ring3 at *
      have C0 := Lib.hid c0; clear c0
      have C1 := Lib.hid c1; clear c1
      have C2 := Lib.hid c2; clear c2
      go_enter Tryz.func12, Tryz.ntmps12
      go_wp2_with fail
      refine C0.out.mono ?_
      rintro e w1 ⟨rfl, hb⟩
      have HB1 := Lib.hid (hb.alloc hb.size (.cells ring3 44)); clear hb
      go_wp2_with fail
      refine (C1.out _ HB1.out).mono ?_
      rintro e w2 ⟨rfl, hb⟩
      have HS2 := Lib.hid (hb)
      have HB2 := Lib.hid (next_below HB1.out hb); clear hb
      obtain ⟨q0, q1, q2, q3, q4, q5, q6, q7⟩ := ring_cells3 HS2.out
      go_wp2_with fail
      refine (C2.out _ HB2.out).mono ?_
      rintro e w3 ⟨rfl, hb⟩
      have HB3 := Lib.hid (next_below HB2.out hb); clear hb
      go_wp2_with fail
      go_ret2
      exact ⟨rfl, HB3.out⟩
    | true =>
      rw [h1] at c1; rw [h2] at c2
      obtain ⟨v, pv, rv, ov, ea, fv'⟩ := valid_v h1
      obtain ⟨u, pu, ru, ou, eb, fu⟩ := valid_v h2
      clear h1 h2
      have hr : plusF 3 a b = limV (plusV 3 v u) := by unfold plusF; rw [pv, pu]
      have c3 := fun wx (h : Below w.heap.size w wx) => choose3_any v u wx fv' fu (ht.below h (Nat.le_refl _))
      rw [← ea, ← eb, ← hr] at c3
      generalize plusF 3 a b = r at *
      obtain ⟨rs, rn⟩ := r
      clear hr pv rv ov ea fv' pu ru ou eb fu ha hb ht
      have c0 := of_3 w
      unfold OfEnd at c0
      unfold ring3 at *
      have C0 := Lib.hid c0; clear c0
      have C1 := Lib.hid c1; clear c1
      have C2 := Lib.hid c2; clear c2
      have C3 := Lib.hid c3; clear c3
      go_enter Tryz.func12, Tryz.ntmps12
      go_wp2_with fail
      refine C0.out.mono ?_
      rintro e w1 ⟨rfl, hb⟩
      have HB1 := Lib.hid (hb.alloc hb.size (.cells ring3 44)); clear hb
      go_wp2_with fail
      refine (C1.out _ HB1.out).mono ?_
      rintro e w2 ⟨rfl, hb⟩
      have HS2 := Lib.hid (hb)
      have HB2 := Lib.hid (next_below HB1.out hb); clear hb
      obtain ⟨q0, q1, q2, q3, q4, q5, q6, q7⟩ := ring_cells3 HS2.out
      go_wp2_with fail
      refine (C2.out _ HB2.out).mono ?_
      rintro e w3 ⟨rfl, hb⟩
      clear q0 q1 q2 q3 q4 q5 q6 q7
      have HS3 := Lib.hid (next_below HS2.out hb)
      have HB3 := Lib.hid (next_below HB2.out hb); clear hb
      obtain ⟨q0, q1, q2, q3, q4, q5, q6, q7⟩ := ring_cells3 HS3.out
      go_wp2_with fail
      refine (C3.out _ HB3.out).mono ?_
      rintro e w4 ⟨rfl, hb⟩
      have HB4 := Lib.hid (next_below HB3.out hb); clear hb
      go_wp2_with fail
      go_ret2
      exact ⟨rfl, HB4.out⟩
theorem splus_no (k : Int) (a b : ByteArray) (w : World) (hk : k < 1 ∨ 3 < k) : Calls Tryz.prog 12 #[.int .i64 k, .string a, .string b] w (PairEnd (plusF k a b) w) := by
  rw [plusF_n1 (validF_no hk a)]
  have c0 := of_no k w hk
  unfold OfEnd at c0
  unfold ring0 at *
  have C0 := Lib.hid c0; clear c0
  go_enter Tryz.func12, Tryz.ntmps12
  go_wp2_with fail
  refine C0.out.mono ?_
  rintro e w1 ⟨rfl, hb⟩
  have HB1 := Lib.hid (hb.alloc hb.size (.cells ring0 44)); clear hb
  go_wp2_with fail
  go_ret2
  exact ⟨rfl, HB1.out⟩
theorem semiplus_any (k : Int) (a b : ByteArray) (w : World) (ha : a.size ≤ 100000) (hb : b.size ≤ 100000) (ht : Tab w) : Calls Tryz.prog 12 #[.int .i64 k, .string a, .string b] w (PairEnd (plusF k a b) w) := by
  rcases kind_cases k with rfl | rfl | rfl | hk
  · exact splus_1 a b w ha hb ht
  · exact splus_2 a b w ha hb ht
  · exact splus_3 a b w ha hb ht
  · exact splus_no k a b w hk
end Go.Proofs.YtlcbdaconghcmaaGreatDoor
