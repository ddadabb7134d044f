/- The walk of nat.each: it goes through two numbers block by block, whatever the closure. -/
import Derived.Test.YtlcbdaconghcmaaGreatDoorBlocks
namespace Go.Proofs.YtlcbdaconghcmaaGreatDoor
open Go Go.RowKit
set_option maxRecDepth 100000

def eachL (F : Nat → Nat → Nat → Nat × Nat) (xs ys : List Nat) : Nat → List Nat × Nat
  | 0 => ([], 0)
  | k + 1 => ((eachL F xs ys k).1 ++ [(F (nth xs k) (nth ys k) (eachL F xs ys k).2).1], (F (nth xs k) (nth ys k) (eachL F xs ys k).2).2)
theorem eachL_len (F : Nat → Nat → Nat → Nat × Nat) (xs ys : List Nat) (k : Nat) : (eachL F xs ys k).1.length = k := by
  induction k with
  | zero => rfl
  | succ k ih => simp [eachL, ih]
/-- What the closure gives: small blocks, small carries. -/
def StepOk (F : Nat → Nat → Nat → Nat × Nat) (M : Nat) : Prop := ∀ a b c, a < BB → b < BB → c ≤ M → (F a b c).1 < BB ∧ (F a b c).2 ≤ M
theorem eachL_ok {F : Nat → Nat → Nat → Nat × Nat} {M : Nat} (hF : StepOk F M) {xs ys : List Nat} (hx : Small xs) (hy : Small ys) (k : Nat) : Small (eachL F xs ys k).1 ∧ (eachL F xs ys k).2 ≤ M := by
  induction k with
  | zero => exact ⟨small_nil, Nat.zero_le _⟩
  | succ k ih => exact ⟨small_snoc ih.1 (hF _ _ _ (hx k) (hy k) ih.2).1, (hF _ _ _ (hx k) (hy k) ih.2).2⟩
/-- The closure's contract in every later world. -/
def ClosOk (g : FuncId) (caps : Array Value) (F : Nat → Nat → Nat → Nat × Nat) (M : Nat) (w : World) : Prop :=
  ∀ (a b c : Nat) (wr : World), Below w.heap.size w wr → a < BB → b < BB → c ≤ M →
    Calls Tryz.prog g (#[.int .u64 (a : Int), .int .u64 (b : Int), .int .u64 (c : Int)] ++ caps) wr fun e w' => e = .returned (.tuple #[.int .u64 ((F a b c).1 : Nat), .int .u64 ((F a b c).2 : Nat)]) ∧ wr = w'
def EachEnd (n : Nat) (w : World) (e : Ending) (w' : World) : Prop := ∃ v, e = .returned v ∧ Own w' w.heap.size 75 .u64 v (toB n) ∧ Below w.heap.size w w'

set_option maxHeartbeats 1000000 in
theorem each_lt (g : FuncId) (caps : Array Value) (F : Nat → Nat → Nat → Nat × Nat) (M : Nat) (vx vy : Value) (xs ys : List Nat) (w : World)
    (he : ∀ args w, (callFunc g args).run Tryz.prog w = .ok (.enter g args) w) (hF : StepOk F M) (hcl : ClosOk g caps F M w)
    (hlen : xs.length < ys.length) (hx : Sl w .u64 vx xs) (hy : Sl w .u64 vy ys) (sx : Small xs) (sy : Small ys) (ly : ys.length ≤ 100000) :
    Calls Tryz.prog 112 #[vx, vy, .func (.func g) #[] caps] w (EachEnd (bval (eachL F xs ys (max xs.length ys.length + 1)).1) w) := by
  obtain ⟨i0, hi, hz0, hz1, hz2⟩ := info_parts info_u64
  obtain ⟨ax, cx, bx, ox, rfl, hax, hcx1, hcx2, hbx, hcellx⟩ := hx.open
  obtain ⟨ay, cy, by', oy, rfl, hay, hcy1, hcy2, hby, hcelly⟩ := hy.open
  unfold maxLen at hcx2 hcy2
  have HCL := Lib.hid hcl; clear hcl hx hy
  go_enter Tryz.func112, Tryz.ntmps112
  go_wp2
  go_loopw [7, 8, 19] (fun v c i wr => ∃ k : Nat, k ≤ max xs.length ys.length + 1 ∧ i = .int .i64 k ∧ c = .int .u64 ((eachL F xs ys k).2 : Nat) ∧ Own wr w.heap.size 75 .u64 v (eachL F xs ys k).1 ∧ Below w.heap.size w wr)
    (fun _ _ i _ => max xs.length ys.length + 1 - (intOf i).toNat)
  case atStart => exact ⟨0, Nat.zero_le _, rfl, rfl, Own.nil _ _ _ _, Below.refl _ _⟩
  case round =>
    obtain ⟨k, hk, rfl, rfl, hown, hb⟩ := hrel
    obtain ⟨ad, cap, rfl⟩ := hown.shape
    rw [eachL_len] at hown
    rw [eachL_len]
    have HO := Lib.hid hown; clear hown
    have HB := Lib.hid hb; clear hb
    have hsz := HB.out.size
    by_cases hlt : k < max xs.length ys.length + 1
    · have hok := eachL_ok hF sx sy k
      have HOK := Lib.hid hok; clear hok
      have HO1 : Hid (wr.ownsRow w.heap.size 75 1 (.slice ad k cap) k (vals .u64 (eachL F xs ys k).1)) := Lib.hid (by have := HO.out.raw; rw [eachL_len] at this; exact this)
      rcases Nat.lt_or_ge k ys.length with h2 | h2
      rcases Nat.lt_or_ge k xs.length with h1 | h1
      rotate_left 2
      obtain h1 : xs.length ≤ k := by omega
      rotate_left 1
      · -- 1 1
        obtain rfl := hax (Nat.lt_of_le_of_lt (Nat.zero_le _) h1)
        have c1 := (HB.out.cell (p := ⟨bx, ox + k, none⟩) (hbx (Nat.lt_of_le_of_lt (Nat.zero_le _) h1))).trans (hcellx k h1)
        obtain rfl := hay (Nat.lt_of_le_of_lt (Nat.zero_le _) h2)
        have c2 := (HB.out.cell (p := ⟨by', oy + k, none⟩) (hby (Nat.lt_of_le_of_lt (Nat.zero_le _) h2))).trans (hcelly k h2)
        have hcall := HCL.out (nth xs k) (nth ys k) (eachL F xs ys k).2 wr HB.out (sx k) (sy k) HOK.out.2
        have hap : Own wr w.heap.size 75 .u64 (.slice ad k cap) (eachL F xs ys k).1 → ∀ (v' : Value) (w1 : World) (o : Obj), w1.ownsRow w.heap.size 75 1 v' (k + 1) (vals .u64 (eachL F xs ys k).1 ++ [.int .u64 ((F (nth xs k) (nth ys k) (eachL F xs ys k).2).1 : Nat)]) → (wr.alloc o).grownBy w1 (Value.slice ad k cap).ownBlock → Own w1 w.heap.size 75 .u64 v' (eachL F xs ys (k + 1)).1 ∧ Below w.heap.size w w1 := fun h1' v' w1 o h2' h3' => by
          have := h1'.appended HB.out hsz (by rw [eachL_len]; exact h2') h3'
          simp only [eachL]; exact this
        have hcar : (eachL F xs ys (k + 1)).2 = (F (nth xs k) (nth ys k) (eachL F xs ys k).2).2 := by simp only [eachL]
        have HCA := Lib.hid hcall; clear hcall
        have HAP := Lib.hid hap; clear hap
        have HCR := Lib.hid hcar; clear hcar
        clear hax hay hcellx hcelly
        go_wp2_with fail
        refine HCA.out.mono ?_
        rintro e w' ⟨rfl, rfl⟩
        go_wp2_with (at_builtin; refine wpList_append_own _ rfl (.tmp 46) (.tmp 48) 73 rfl w.heap.size 75 i0 (.int .u64 0) 1 8 Tryz.underlying73 hi hz0 hz1 hz2 rfl (by decide) _ _ _ rfl (World.ownsRow.alloc HO1.out _) ⟨wr.heap.size, 0, none⟩ 1 1 [.int .u64 ((F (nth xs k) (nth ys k) (eachL F xs ys k).2).1 : Nat)] rfl rfl (cell_one_new _ _ _) (one_cell _ _) (by unfold maxLen; omega) (by omega) (by simp; omega) ?_; intro v' w1 hown1 hgrow1 _)
        obtain ⟨ho, hb⟩ := HAP.out HO.out v' w1 _ hown1 hgrow1
        clear hown1 hgrow1
        have HO2 := Lib.hid ho; clear ho
        have HB2 := Lib.hid hb; clear hb
        go_wp2
        go_roundw
        case rel => exact ⟨k + 1, by omega, by go_num, by rw [HCR.out], HO2.out, HB2.out⟩
        case measure => simp [intOf]; omega
      · -- 0 1
        obtain rfl := hay (Nat.lt_of_le_of_lt (Nat.zero_le _) h2)
        have c2 := (HB.out.cell (p := ⟨by', oy + k, none⟩) (hby (Nat.lt_of_le_of_lt (Nat.zero_le _) h2))).trans (hcelly k h2)
        have hcall := HCL.out 0 (nth ys k) (eachL F xs ys k).2 wr HB.out BB_pos (sy k) HOK.out.2
        have hap : Own wr w.heap.size 75 .u64 (.slice ad k cap) (eachL F xs ys k).1 → ∀ (v' : Value) (w1 : World) (o : Obj), w1.ownsRow w.heap.size 75 1 v' (k + 1) (vals .u64 (eachL F xs ys k).1 ++ [.int .u64 ((F 0 (nth ys k) (eachL F xs ys k).2).1 : Nat)]) → (wr.alloc o).grownBy w1 (Value.slice ad k cap).ownBlock → Own w1 w.heap.size 75 .u64 v' (eachL F xs ys (k + 1)).1 ∧ Below w.heap.size w w1 := fun h1' v' w1 o h2' h3' => by
          have := h1'.appended HB.out hsz (by rw [eachL_len]; exact h2') h3'
          simp only [eachL]; rw [nth_out xs k h1]; exact this
        have hcar : (eachL F xs ys (k + 1)).2 = (F 0 (nth ys k) (eachL F xs ys k).2).2 := by simp only [eachL]; rw [nth_out xs k h1]
        have HCA := Lib.hid hcall; clear hcall
        have HAP := Lib.hid hap; clear hap
        have HCR := Lib.hid hcar; clear hcar
        clear hax hay hcellx hcelly
        go_wp2_with fail
        refine HCA.out.mono ?_
        rintro e w' ⟨rfl, rfl⟩
        go_wp2_with (at_builtin; refine wpList_append_own _ rfl (.tmp 46) (.tmp 48) 73 rfl w.heap.size 75 i0 (.int .u64 0) 1 8 Tryz.underlying73 hi hz0 hz1 hz2 rfl (by decide) _ _ _ rfl (World.ownsRow.alloc HO1.out _) ⟨wr.heap.size, 0, none⟩ 1 1 [.int .u64 ((F 0 (nth ys k) (eachL F xs ys k).2).1 : Nat)] rfl rfl (cell_one_new _ _ _) (one_cell _ _) (by unfold maxLen; omega) (by omega) (by simp; omega) ?_; intro v' w1 hown1 hgrow1 _)
        obtain ⟨ho, hb⟩ := HAP.out HO.out v' w1 _ hown1 hgrow1
        clear hown1 hgrow1
        have HO2 := Lib.hid ho; clear ho
        have HB2 := Lib.hid hb; clear hb
        go_wp2
        go_roundw
        case rel => exact ⟨k + 1, by omega, by go_num, by rw [HCR.out], HO2.out, HB2.out⟩
        case measure => simp [intOf]; omega
      · -- 0 0
        have hcall := HCL.out 0 0 (eachL F xs ys k).2 wr HB.out BB_pos BB_pos HOK.out.2
        have hap : Own wr w.heap.size 75 .u64 (.slice ad k cap) (eachL F xs ys k).1 → ∀ (v' : Value) (w1 : World) (o : Obj), w1.ownsRow w.heap.size 75 1 v' (k + 1) (vals .u64 (eachL F xs ys k).1 ++ [.int .u64 ((F 0 0 (eachL F xs ys k).2).1 : Nat)]) → (wr.alloc o).grownBy w1 (Value.slice ad k cap).ownBlock → Own w1 w.heap.size 75 .u64 v' (eachL F xs ys (k + 1)).1 ∧ Below w.heap.size w w1 := fun h1' v' w1 o h2' h3' => by
          have := h1'.appended HB.out hsz (by rw [eachL_len]; exact h2') h3'
          simp only [eachL]; rw [nth_out xs k h1, nth_out ys k h2]; exact this
        have hcar : (eachL F xs ys (k + 1)).2 = (F 0 0 (eachL F xs ys k).2).2 := by simp only [eachL]; rw [nth_out xs k h1, nth_out ys k h2]
        have HCA := Lib.hid hcall; clear hcall
        have HAP := Lib.hid hap; clear hap
        have HCR := Lib.hid hcar; clear hcar
        clear hax hay hcellx hcelly
        go_wp2_with fail
        refine HCA.out.mono ?_
        rintro e w' ⟨rfl, rfl⟩
        go_wp2_with (at_builtin; refine wpList_append_own _ rfl (.tmp 46) (.tmp 48) 73 rfl w.heap.size 75 i0 (.int .u64 0) 1 8 Tryz.underlying73 hi hz0 hz1 hz2 rfl (by decide) _ _ _ rfl (World.ownsRow.alloc HO1.out _) ⟨wr.heap.size, 0, none⟩ 1 1 [.int .u64 ((F 0 0 (eachL F xs ys k).2).1 : Nat)] rfl rfl (cell_one_new _ _ _) (one_cell _ _) (by unfold maxLen; omega) (by omega) (by simp; omega) ?_; intro v' w1 hown1 hgrow1 _)
        obtain ⟨ho, hb⟩ := HAP.out HO.out v' w1 _ hown1 hgrow1
        clear hown1 hgrow1
        have HO2 := Lib.hid ho; clear ho
        have HB2 := Lib.hid hb; clear hb
        go_wp2
        go_roundw
        case rel => exact ⟨k + 1, by omega, by go_num, by rw [HCR.out], HO2.out, HB2.out⟩
        case measure => simp [intOf]; omega
    · go_wp2_with fail
      have hkk : k = max xs.length ys.length + 1 := by omega
      have ht := trim_any ad cap (eachL F xs ys k).1 wr (by rw [eachL_len]; exact HO.out.sl)
      rw [eachL_len] at ht
      refine ht.mono ?_
      rintro e w' ⟨m, hm, rfl, rfl⟩
      have HM := Lib.hid hm; clear hm
      have HKK := Lib.hid hkk; clear hkk
      go_wp2
      go_ret
      have hok := eachL_ok hF sx sy k
      refine ⟨_, rfl, ?_, HB.out⟩
      rw [← HKK.out, ← trimmed_toB hok.1 HM.out.1 HM.out.2.1 HM.out.2.2]
      exact HO.out.take HM.out.1
set_option maxHeartbeats 1000000 in
theorem each_ge (g : FuncId) (caps : Array Value) (F : Nat → Nat → Nat → Nat × Nat) (M : Nat) (vx vy : Value) (xs ys : List Nat) (w : World)
    (he : ∀ args w, (callFunc g args).run Tryz.prog w = .ok (.enter g args) w) (hF : StepOk F M) (hcl : ClosOk g caps F M w)
    (hlen : ys.length ≤ xs.length) (hx : Sl w .u64 vx xs) (hy : Sl w .u64 vy ys) (sx : Small xs) (sy : Small ys) (lx : xs.length ≤ 100000) :
    Calls Tryz.prog 112 #[vx, vy, .func (.func g) #[] caps] w (EachEnd (bval (eachL F xs ys (max xs.length ys.length + 1)).1) w) := by
  obtain ⟨i0, hi, hz0, hz1, hz2⟩ := info_parts info_u64
  obtain ⟨ax, cx, bx, ox, rfl, hax, hcx1, hcx2, hbx, hcellx⟩ := hx.open
  obtain ⟨ay, cy, by', oy, rfl, hay, hcy1, hcy2, hby, hcelly⟩ := hy.open
  unfold maxLen at hcx2 hcy2
  have HCL := Lib.hid hcl; clear hcl hx hy
  go_enter Tryz.func112, Tryz.ntmps112
  go_wp2
  go_loopw [7, 8, 19] (fun v c i wr => ∃ k : Nat, k ≤ max xs.length ys.length + 1 ∧ i = .int .i64 k ∧ c = .int .u64 ((eachL F xs ys k).2 : Nat) ∧ Own wr w.heap.size 75 .u64 v (eachL F xs ys k).1 ∧ Below w.heap.size w wr)
    (fun _ _ i _ => max xs.length ys.length + 1 - (intOf i).toNat)
  case atStart => exact ⟨0, Nat.zero_le _, rfl, rfl, Own.nil _ _ _ _, Below.refl _ _⟩
  case round =>
    obtain ⟨k, hk, rfl, rfl, hown, hb⟩ := hrel
    obtain ⟨ad, cap, rfl⟩ := hown.shape
    rw [eachL_len] at hown
    rw [eachL_len]
    have HO := Lib.hid hown; clear hown
    have HB := Lib.hid hb; clear hb
    have hsz := HB.out.size
    by_cases hlt : k < max xs.length ys.length + 1
    · have hok := eachL_ok hF sx sy k
      have HOK := Lib.hid hok; clear hok
      have HO1 : Hid (wr.ownsRow w.heap.size 75 1 (.slice ad k cap) k (vals .u64 (eachL F xs ys k).1)) := Lib.hid (by have := HO.out.raw; rw [eachL_len] at this; exact this)
      rcases Nat.lt_or_ge k xs.length with h1 | h1
      rcases Nat.lt_or_ge k ys.length with h2 | h2
      rotate_left 2
      obtain h2 : ys.length ≤ k := by omega
      rotate_left 1
      · -- 1 1
        obtain rfl := hax (Nat.lt_of_le_of_lt (Nat.zero_le _) h1)
        have c1 := (HB.out.cell (p := ⟨bx, ox + k, none⟩) (hbx (Nat.lt_of_le_of_lt (Nat.zero_le _) h1))).trans (hcellx k h1)
        obtain rfl := hay (Nat.lt_of_le_of_lt (Nat.zero_le _) h2)
        have c2 := (HB.out.cell (p := ⟨by', oy + k, none⟩) (hby (Nat.lt_of_le_of_lt (Nat.zero_le _) h2))).trans (hcelly k h2)
        have hcall := HCL.out (nth xs k) (nth ys k) (eachL F xs ys k).2 wr HB.out (sx k) (sy k) HOK.out.2
        have hap : Own wr w.heap.size 75 .u64 (.slice ad k cap) (eachL F xs ys k).1 → ∀ (v' : Value) (w1 : World) (o : Obj), w1.ownsRow w.heap.size 75 1 v' (k + 1) (vals .u64 (eachL F xs ys k).1 ++ [.int .u64 ((F (nth xs k) (nth ys k) (eachL F xs ys k).2).1 : Nat)]) → (wr.alloc o).grownBy w1 (Value.slice ad k cap).ownBlock → Own w1 w.heap.size 75 .u64 v' (eachL F xs ys (k + 1)).1 ∧ Below w.heap.size w w1 := fun h1' v' w1 o h2' h3' => by
          have := h1'.appended HB.out hsz (by rw [eachL_len]; exact h2') h3'
          simp only [eachL]; exact this
        have hcar : (eachL F xs ys (k + 1)).2 = (F (nth xs k) (nth ys k) (eachL F xs ys k).2).2 := by simp only [eachL]
        have HCA := Lib.hid hcall; clear hcall
        have HAP := Lib.hid hap; clear hap
        have HCR := Lib.hid hcar; clear hcar
        clear hax hay hcellx hcelly
        go_wp2_with fail
        refine HCA.out.mono ?_
        rintro e w' ⟨rfl, rfl⟩
        go_wp2_with (at_builtin; refine wpList_append_own _ rfl (.tmp 46) (.tmp 48) 73 rfl w.heap.size 75 i0 (.int .u64 0) 1 8 Tryz.underlying73 hi hz0 hz1 hz2 rfl (by decide) _ _ _ rfl (World.ownsRow.alloc HO1.out _) ⟨wr.heap.size, 0, none⟩ 1 1 [.int .u64 ((F (nth xs k) (nth ys k) (eachL F xs ys k).2).1 : Nat)] rfl rfl (cell_one_new _ _ _) (one_cell _ _) (by unfold maxLen; omega) (by omega) (by simp; omega) ?_; intro v' w1 hown1 hgrow1 _)
        obtain ⟨ho, hb⟩ := HAP.out HO.out v' w1 _ hown1 hgrow1
        clear hown1 hgrow1
        have HO2 := Lib.hid ho; clear ho
        have HB2 := Lib.hid hb; clear hb
        go_wp2
        go_roundw
        case rel => exact ⟨k + 1, by omega, by go_num, by rw [HCR.out], HO2.out, HB2.out⟩
        case measure => simp [intOf]; omega
      · -- 1 0
        obtain rfl := hax (Nat.lt_of_le_of_lt (Nat.zero_le _) h1)
        have c1 := (HB.out.cell (p := ⟨bx, ox + k, none⟩) (hbx (Nat.lt_of_le_of_lt (Nat.zero_le _) h1))).trans (hcellx k h1)
        have hcall := HCL.out (nth xs k) 0 (eachL F xs ys k).2 wr HB.out (sx k) BB_pos HOK.out.2
        have hap : Own wr w.heap.size 75 .u64 (.slice ad k cap) (eachL F xs ys k).1 → ∀ (v' : Value) (w1 : World) (o : Obj), w1.ownsRow w.heap.size 75 1 v' (k + 1) (vals .u64 (eachL F xs ys k).1 ++ [.int .u64 ((F (nth xs k) 0 (eachL F xs ys k).2).1 : Nat)]) → (wr.alloc o).grownBy w1 (Value.slice ad k cap).ownBlock → Own w1 w.heap.size 75 .u64 v' (eachL F xs ys (k + 1)).1 ∧ Below w.heap.size w w1 := fun h1' v' w1 o h2' h3' => by
          have := h1'.appended HB.out hsz (by rw [eachL_len]; exact h2') h3'
          simp only [eachL]; rw [nth_out ys k h2]; exact this
        have hcar : (eachL F xs ys (k + 1)).2 = (F (nth xs k) 0 (eachL F xs ys k).2).2 := by simp only [eachL]; rw [nth_out ys k h2]
        have HCA := Lib.hid hcall; clear hcall
        have HAP := Lib.hid hap; clear hap
        have HCR := Lib.hid hcar; clear hcar
        clear hax hay hcellx hcelly
        go_wp2_with fail
        refine HCA.out.mono ?_
        rintro e w' ⟨rfl, rfl⟩
        go_wp2_with (at_builtin; refine wpList_append_own _ rfl (.tmp 46) (.tmp 48) 73 rfl w.heap.size 75 i0 (.int .u64 0) 1 8 Tryz.underlying73 hi hz0 hz1 hz2 rfl (by decide) _ _ _ rfl (World.ownsRow.alloc HO1.out _) ⟨wr.heap.size, 0, none⟩ 1 1 [.int .u64 ((F (nth xs k) 0 (eachL F xs ys k).2).1 : Nat)] rfl rfl (cell_one_new _ _ _) (one_cell _ _) (by unfold maxLen; omega) (by omega) (by simp; omega) ?_; intro v' w1 hown1 hgrow1 _)
        obtain ⟨ho, hb⟩ := HAP.out HO.out v' w1 _ hown1 hgrow1
        clear hown1 hgrow1
        have HO2 := Lib.hid ho; clear ho
        have HB2 := Lib.hid hb; clear hb
        go_wp2
        go_roundw
        case rel => exact ⟨k + 1, by omega, by go_num, by rw [HCR.out], HO2.out, HB2.out⟩
        case measure => simp [intOf]; omega
      · -- 0 0
        have hcall := HCL.out 0 0 (eachL F xs ys k).2 wr HB.out BB_pos BB_pos HOK.out.2
        have hap : Own wr w.heap.size 75 .u64 (.slice ad k cap) (eachL F xs ys k).1 → ∀ (v' : Value) (w1 : World) (o : Obj), w1.ownsRow w.heap.size 75 1 v' (k + 1) (vals .u64 (eachL F xs ys k).1 ++ [.int .u64 ((F 0 0 (eachL F xs ys k).2).1 : Nat)]) → (wr.alloc o).grownBy w1 (Value.slice ad k cap).ownBlock → Own w1 w.heap.size 75 .u64 v' (eachL F xs ys (k + 1)).1 ∧ Below w.heap.size w w1 := fun h1' v' w1 o h2' h3' => by
          have := h1'.appended HB.out hsz (by rw [eachL_len]; exact h2') h3'
          simp only [eachL]; rw [nth_out xs k h1, nth_out ys k h2]; exact this
        have hcar : (eachL F xs ys (k + 1)).2 = (F 0 0 (eachL F xs ys k).2).2 := by simp only [eachL]; rw [nth_out xs k h1, nth_out ys k h2]
        have HCA := Lib.hid hcall; clear hcall
        have HAP := Lib.hid hap; clear hap
        have HCR := Lib.hid hcar; clear hcar
        clear hax hay hcellx hcelly
        go_wp2_with fail
        refine HCA.out.mono ?_
        rintro e w' ⟨rfl, rfl⟩
        go_wp2_with (at_builtin; refine wpList_append_own _ rfl (.tmp 46) (.tmp 48) 73 rfl w.heap.size 75 i0 (.int .u64 0) 1 8 Tryz.underlying73 hi hz0 hz1 hz2 rfl (by decide) _ _ _ rfl (World.ownsRow.alloc HO1.out _) ⟨wr.heap.size, 0, none⟩ 1 1 [.int .u64 ((F 0 0 (eachL F xs ys k).2).1 : Nat)] rfl rfl (cell_one_new _ _ _) (one_cell _ _) (by unfold maxLen; omega) (by omega) (by simp; omega) ?_; intro v' w1 hown1 hgrow1 _)
        obtain ⟨ho, hb⟩ := HAP.out HO.out v' w1 _ hown1 hgrow1
        clear hown1 hgrow1
        have HO2 := Lib.hid ho; clear ho
        have HB2 := Lib.hid hb; clear hb
        go_wp2
        go_roundw
        case rel => exact ⟨k + 1, by omega, by go_num, by rw [HCR.out], HO2.out, HB2.out⟩
        case measure => simp [intOf]; omega
    · go_wp2_with fail
      have hkk : k = max xs.length ys.length + 1 := by omega
      have ht := trim_any ad cap (eachL F xs ys k).1 wr (by rw [eachL_len]; exact HO.out.sl)
      rw [eachL_len] at ht
      refine ht.mono ?_
      rintro e w' ⟨m, hm, rfl, rfl⟩
      have HM := Lib.hid hm; clear hm
      have HKK := Lib.hid hkk; clear hkk
      go_wp2
      go_ret
      have hok := eachL_ok hF sx sy k
      refine ⟨_, rfl, ?_, HB.out⟩
      rw [← HKK.out, ← trimmed_toB hok.1 HM.out.1 HM.out.2.1 HM.out.2.2]
      exact HO.out.take HM.out.1
theorem each_any (g : FuncId) (caps : Array Value) (F : Nat → Nat → Nat → Nat × Nat) (M : Nat) (vx vy : Value) (xs ys : List Nat) (w : World)
    (he : ∀ args w, (callFunc g args).run Tryz.prog w = .ok (.enter g args) w) (hF : StepOk F M) (hcl : ClosOk g caps F M w)
    (hx : Sl w .u64 vx xs) (hy : Sl w .u64 vy ys) (sx : Small xs) (sy : Small ys) (lx : xs.length ≤ 100000) (ly : ys.length ≤ 100000) :
    Calls Tryz.prog 112 #[vx, vy, .func (.func g) #[] caps] w (EachEnd (bval (eachL F xs ys (max xs.length ys.length + 1)).1) w) := by
  rcases Nat.lt_or_ge xs.length ys.length with hlen | hlen
  · exact each_lt g caps F M vx vy xs ys w he hF hcl hlen hx hy sx sy ly
  · exact each_ge g caps F M vx vy xs ys w he hF hcl hlen hx hy sx sy lx
end Go.Proofs.YtlcbdaconghcmaaGreatDoor
