/- The walks of abugidaref02.limited, Add, less and Sub. -/
import Derived.Test.YtndfbnffielfaaaDoorRCmp
namespace Go.Proofs.YtndfbnffielfaaaDoor
open Go Go.RowKit

theorem rlimited_any (n : Nat) (w : World) :
    Calls Tryd.prog 35 #[.string (str (dec n))] w fun e w' => e = .returned (.tuple #[.string (limS n).1, .int .i64 ((limS n).2 : Int)]) ∧ w = w' := by
  have hsz := str_size (dec n)
  by_cases h : (dec n).length ≤ 1000
  · have hr : limS n = (str (dec n), 0) := by unfold limS; rw [if_pos h]
    have hg : ((str (dec n)).size : Int) ≤ 1000 := by omega
    have HR := Lib.hid hr; clear hr h hsz
    go_enter Tryd.func35, Tryd.ntmps35
    go_wp2_with fail
    go_ret2
    exact ⟨ret_si (by rw [HR.out]) (by rw [HR.out]; rfl), rfl⟩
  · have hr : limS n = (str [], 2) := by unfold limS; rw [if_neg h]
    have hg : (1000 : Int) < ((str (dec n)).size : Int) := by omega
    have HR := Lib.hid hr; clear hr h hsz
    go_enter Tryd.func35, Tryd.ntmps35
    go_wp2_with fail
    go_ret2
    exact ⟨ret_si (by rw [HR.out]; rfl) (by rw [HR.out]; rfl), rfl⟩

/-- The sum's digits so far, and the carry. -/
def AddI (xs ys l : List Nat) (k c : Nat) : Prop := dval l + 10 ^ k * c = dval (xs.take k) + dval (ys.take k) ∧ Dig l ∧ l.length = k ∧ c ≤ 1
theorem addI_step {xs ys l : List Nat} {k c a b : Nat} (h : AddI xs ys l k c) (ha : a = nth xs k) (hb : b = nth ys k) (h1 : a < 10) (h2 : b < 10) : AddI xs ys (l ++ [(a + b + c) % 10]) (k + 1) ((a + b + c) / 10) := by
  obtain ⟨h3, h4, h5, h6⟩ := h
  refine ⟨?_, dig_snoc h4 (by omega), by rw [List.length_append, h5]; rfl, by omega⟩
  rw [dval_snoc, h5, dval_take_succ, dval_take_succ, ← ha, ← hb, Nat.pow_succ, Nat.mul_assoc]
  have e := Nat.mod_add_div (a + b + c) 10
  have e2 : 10 ^ k * ((a + b + c) % 10) + 10 ^ k * (10 * ((a + b + c) / 10)) = 10 ^ k * a + 10 ^ k * b + 10 ^ k * c := by
    rw [← Nat.mul_add, e, Nat.mul_add, Nat.mul_add]
  omega
theorem addI_end {xs ys l : List Nat} {k c : Nat} (h : AddI xs ys l k c) (hx : Dig xs) (hy : Dig ys) (h1 : xs.length < k) (h2 : ys.length < k) : dval l = dval xs + dval ys := by
  obtain ⟨h3, h4, h5, h6⟩ := h
  rw [List.take_of_length_le (by omega), List.take_of_length_le (by omega)] at h3
  obtain ⟨j, rfl⟩ : ∃ j, k = j + 1 := ⟨k - 1, by omega⟩
  have b1 : dval xs < 10 ^ j := Nat.lt_of_lt_of_le (dval_lt hx) (Nat.pow_le_pow_right (by omega) (by omega))
  have b2 : dval ys < 10 ^ j := Nat.lt_of_lt_of_le (dval_lt hy) (Nat.pow_le_pow_right (by omega) (by omega))
  rw [Nat.pow_succ] at h3
  have : c = 0 := by
    rcases Nat.eq_zero_or_pos c with h | h
    · exact h
    · have : 10 ^ j * 10 * 1 ≤ 10 ^ j * 10 * c := Nat.mul_le_mul_left _ h
      omega
  subst this
  omega
/-- The difference's digits so far, and the borrow. -/
def LessI (xs ys l : List Nat) (k c : Nat) : Prop := dval l + dval (ys.take k) = dval (xs.take k) + 10 ^ k * c ∧ Dig l ∧ l.length = k ∧ c ≤ 1
theorem lessI_step {xs ys l : List Nat} {k c a b d c' : Nat} (h : LessI xs ys l k c) (ha : a = nth xs k) (hb : b = nth ys k) (hd : d < 10) (he : d + b + c = a + 10 * c') (hc' : c' ≤ 1) : LessI xs ys (l ++ [d]) (k + 1) c' := by
  obtain ⟨h3, h4, h5, h6⟩ := h
  refine ⟨?_, dig_snoc h4 hd, by rw [List.length_append, h5]; rfl, hc'⟩
  rw [dval_snoc, h5, dval_take_succ, dval_take_succ, ← ha, ← hb, Nat.pow_succ, Nat.mul_assoc]
  have e2 : 10 ^ k * d + 10 ^ k * b + 10 ^ k * c = 10 ^ k * a + 10 ^ k * (10 * c') := by
    rw [← Nat.mul_add, ← Nat.mul_add, he, Nat.mul_add]
  omega
theorem lessI_end {xs ys l : List Nat} {c : Nat} (h : LessI xs ys l xs.length c) (hl : ys.length ≤ xs.length) (hv : dval ys ≤ dval xs) : dval l = dval xs - dval ys ∧ Dig l ∧ l.length = xs.length := by
  obtain ⟨h3, h4, h5, h6⟩ := h
  rw [List.take_of_length_le (by omega), List.take_of_length_le (by omega)] at h3
  have b1 := dval_lt h4
  rw [h5] at b1
  have : c = 0 := by
    rcases Nat.eq_zero_or_pos c with h | h
    · exact h
    · have : 10 ^ xs.length * 1 ≤ 10 ^ xs.length * c := Nat.mul_le_mul_left _ h
      omega
  subst this
  exact ⟨by omega, h4, h5⟩

set_option maxHeartbeats 2000000 in
theorem rless_any (vx vy : Value) (xs ys : List Nat) (w : World) (hx : Sl w .i64 vx xs) (hy : Sl w .i64 vy ys) (dx : Dig xs) (dy : Dig ys) (hl : ys.length ≤ xs.length) (hv : dval ys ≤ dval xs) (hlx : xs.length ≤ 100000) :
    Calls Tryd.prog 41 #[vx, vy] w fun e w' => ∃ ls, dval ls = dval xs - dval ys ∧ Dig ls ∧ ls.length = xs.length ∧ ListEnd ls w e w' := by
  obtain ⟨i0, hi, hz0, hz1, hz2⟩ := info_parts info_int
  obtain ⟨ax, cx, rfl⟩ := hx.shape
  obtain ⟨ay, cy, rfl⟩ := hy.shape
  have HX := Lib.hid hx; clear hx
  have HY := Lib.hid hy; clear hy
  have HDX := Lib.hid dx; clear dx
  have HDY := Lib.hid dy; clear dy
  have HLL := Lib.hid hl; clear hl
  have HV := Lib.hid hv; clear hv
  go_enter Tryd.func41, Tryd.ntmps41
  go_wp2_with fail
  go_loopw [5, 6, 7] (fun v c i wr => ∃ (k cn : Nat) (l : List Nat), k ≤ xs.length ∧ i = .int .i64 (k : Int) ∧ c = .int .i64 (cn : Int) ∧ LessI xs ys l k cn ∧ Own wr w.heap.size 3 .i64 v l ∧ Below w.heap.size w wr) (fun _ _ i _ => xs.length - (intOf i).toNat)
  case atStart => exact ⟨0, 0, [], Nat.zero_le _, rfl, rfl, ⟨by simp [dval], dig_nil, rfl, by omega⟩, Own.nil _ _ _ _, Below.refl _ _⟩
  case round =>
    obtain ⟨k, cn, l, hk, rfl, rfl, hinv, hown, hb⟩ := hrel
    have hlk : l.length = k := hinv.2.2.1
    have hc1 : (cn : Int) ≤ 1 := by have := hinv.2.2.2; omega
    have HINV := Lib.hid hinv; clear hinv
    obtain ⟨ad, cap, rfl⟩ := hown.shape
    rw [hlk] at hown ⊢
    have HO := Lib.hid hown; clear hown
    have HB := Lib.hid hb; clear hb
    have hsz := HB.out.size
    have HLK := Lib.hid hlk
    clear hlk
    by_cases hlt : k < xs.length
    · obtain ⟨a, ha⟩ : ∃ a, a = nth xs k := ⟨_, rfl⟩
      obtain ⟨b, hb⟩ : ∃ b, b = nth ys k := ⟨_, rfl⟩
      have ha9 : (a : Int) ≤ 9 := by have := HDX.out k; rw [← ha] at this; omega
      have hb9 : (b : Int) ≤ 9 := by have := HDY.out k; rw [← hb] at this; omega
      have HA := Lib.hid ha; clear ha
      have HBB := Lib.hid hb; clear hb
      have hraw : wr.ownsRow w.heap.size 3 1 (.slice ad k cap) k (vals .i64 l) := by have := HO.out.raw; rwa [HLK.out] at this
      have HRAW := Lib.hid hraw; clear hraw
      by_cases hlow : a < b + cn
      · have hg : decide (((a : Int) - (b : Int) - (cn : Int)) < 0) = true := decide_eq_true (by omega)
        have hce : ((a : Int) - (b : Int) - (cn : Int) + 10) = (((a + 10 - b - cn) : Nat) : Int) := by omega
        have HCE := Lib.hid hce; clear hce
        have HLOW := Lib.hid hlow; clear hlow
        go_wp2_with fail
        have q1 := rat_any _ xs k wr (HX.out.below HB.out (Nat.le_refl _)) (by omega)
        rw [← HA.out] at q1
        refine q1.mono ?_
        clear q1
        rintro e w0 ⟨rfl, rfl⟩
        go_wp2_with fail
        have q2 := rat_any _ ys k wr (HY.out.below HB.out (Nat.le_refl _)) (by omega)
        rw [← HBB.out] at q2
        refine q2.mono ?_
        clear q2
        rintro e w0 ⟨rfl, rfl⟩
        go_wp2_with (at_builtin; refine wpList_append_own _ rfl (.tmp 28) (.tmp 30) 41 rfl w.heap.size 3 i0 (.int .i64 0) 1 8 Tryd.underlying41 hi hz0 hz1 hz2 rfl (by decide) _ _ _ rfl (World.ownsRow.alloc HRAW.out _) ⟨wr.heap.size, 0, none⟩ 1 1 [.int .i64 ((a : Int) - (b : Int) - (cn : Int) + 10)] rfl rfl (cell_one_new _ _ _) (one_cell _ _) (by unfold maxLen; omega) (by omega) (by simp; omega) ?_; intro v' w1 hown1 hgrow1 _)
        rw [HCE.out] at hown1
        obtain ⟨ho, hb⟩ := HO.out.appended HB.out hsz (by rw [HLK.out]; exact hown1) hgrow1
        clear hown1 hgrow1
        have HO1 := Lib.hid ho; clear ho
        have HB1 := Lib.hid hb; clear hb
        try go_wp2_with fail
        go_roundw
        case rel => exact ⟨k + 1, 1, l ++ [(a + 10 - b - cn)], by omega, by go_num, rfl, lessI_step HINV.out HA.out HBB.out (by have := HLOW.out; omega) (by have := HLOW.out; omega) (by omega), HO1.out, HB1.out⟩
        case measure => simp [intOf]; omega
      · have hg : decide (((a : Int) - (b : Int) - (cn : Int)) < 0) = false := decide_eq_false (by omega)
        have hce : ((a : Int) - (b : Int) - (cn : Int)) = (((a - b - cn) : Nat) : Int) := by omega
        have HCE := Lib.hid hce; clear hce
        have HLOW := Lib.hid hlow; clear hlow
        go_wp2_with fail
        have q1 := rat_any _ xs k wr (HX.out.below HB.out (Nat.le_refl _)) (by omega)
        rw [← HA.out] at q1
        refine q1.mono ?_
        clear q1
        rintro e w0 ⟨rfl, rfl⟩
        go_wp2_with fail
        have q2 := rat_any _ ys k wr (HY.out.below HB.out (Nat.le_refl _)) (by omega)
        rw [← HBB.out] at q2
        refine q2.mono ?_
        clear q2
        rintro e w0 ⟨rfl, rfl⟩
        go_wp2_with (at_builtin; refine wpList_append_own _ rfl (.tmp 28) (.tmp 30) 41 rfl w.heap.size 3 i0 (.int .i64 0) 1 8 Tryd.underlying41 hi hz0 hz1 hz2 rfl (by decide) _ _ _ rfl (World.ownsRow.alloc HRAW.out _) ⟨wr.heap.size, 0, none⟩ 1 1 [.int .i64 ((a : Int) - (b : Int) - (cn : Int))] rfl rfl (cell_one_new _ _ _) (one_cell _ _) (by unfold maxLen; omega) (by omega) (by simp; omega) ?_; intro v' w1 hown1 hgrow1 _)
        rw [HCE.out] at hown1
        obtain ⟨ho, hb⟩ := HO.out.appended HB.out hsz (by rw [HLK.out]; exact hown1) hgrow1
        clear hown1 hgrow1
        have HO1 := Lib.hid ho; clear ho
        have HB1 := Lib.hid hb; clear hb
        try go_wp2_with fail
        go_roundw
        case rel => exact ⟨k + 1, 0, l ++ [(a - b - cn)], by omega, by go_num, rfl, lessI_step HINV.out HA.out HBB.out (by have := HLOW.out; omega) (by have := HLOW.out; omega) (by omega), HO1.out, HB1.out⟩
        case measure => simp [intOf]; omega
    · have hkk : k = xs.length := by omega
      have hi := HINV.out
      rw [hkk] at hi
      obtain ⟨e1, e2, e3⟩ := lessI_end hi HLL.out HV.out
      have E1 := Lib.hid e1
      have E2 := Lib.hid e2
      have E3 := Lib.hid e3
      clear e1 e2 e3 hi hkk
      go_wp2_with fail
      go_ret
      exact ⟨l, E1.out, E2.out, E3.out, _, rfl, HO.out, HB.out⟩
set_option maxHeartbeats 4000000 in
theorem radd_any (s t : ByteArray) (w : World) (hs : s.size ≤ maxLen) (ht : t.size ≤ maxLen) :
    Calls Tryd.prog 15 #[.string s, .string t] w (PairEnd (addF s t) w) := by
  have c1 := fun w => rvalid_any s w hs
  have c2 := fun w => rvalid_any t w ht
  clear hs ht
  cases h1 : vld s with
  | false =>
    have hr : addF s t = (str [], 1) := by unfold addF; rw [h1]; rfl
    rw [hr]; unfold vld at h1; rw [h1] at c1; clear hr h1 c2
    have C1 := Lib.hid c1; clear c1
    go_enter Tryd.func15, Tryd.ntmps15
    go_wp2_with fail
    refine (C1.out _).mono ?_
    rintro e w' ⟨rfl, rfl⟩
    go_wp2
    go_ret2
    exact ⟨rfl, Below.refl _ _⟩
  | true =>
    cases h2 : vld t with
    | false =>
      have hr : addF s t = (str [], 1) := by unfold addF; rw [h1, h2]; rfl
      rw [hr]; unfold vld at h1 h2; rw [h1] at c1; rw [h2] at c2; clear hr h1 h2
      have C1 := Lib.hid c1; clear c1
      have C2 := Lib.hid c2; clear c2
      go_enter Tryd.func15, Tryd.ntmps15
      go_wp2_with fail
      refine (C1.out _).mono ?_
      rintro e w' ⟨rfl, rfl⟩
      go_wp2_with fail
      refine (C2.out _).mono ?_
      rintro e w' ⟨rfl, rfl⟩
      go_wp2
      go_ret2
      exact ⟨rfl, Below.refl _ _⟩
    | true =>
      rw [show validL (bts s) = true from h1] at c1; rw [show validL (bts t) = true from h2] at c2
      have C1 := Lib.hid c1; clear c1
      have C2 := Lib.hid c2; clear c2
      have H1 := Lib.hid h1; clear h1
      have H2 := Lib.hid h2; clear h2
      have hr : addF s t = limS (val s + val t) := by unfold addF; rw [H1.out, H2.out]; rfl
      rw [hr]; clear hr
      have d1 := fun w => rdigits_any s w (by have := vld_size H1.out; omega) (valid_parts H1.out).2.2.2
      have D1 := Lib.hid d1; clear d1
      have d2 := fun w => rdigits_any t w (by have := vld_size H2.out; omega) (valid_parts H2.out).2.2.2
      have D2 := Lib.hid d2; clear d2
      have o1 := digL_ok (valid_parts H1.out).2.2.2
      have o2 := digL_ok (valid_parts H2.out).2.2.2
      have hx1 := (vld_size H1.out).2
      have hy1 := (vld_size H2.out).2
      have n1 := digL_len (bts s)
      have n2 := digL_len (bts t)
      rw [bts_len] at n1 n2
      obtain ⟨xs, hxs⟩ : ∃ xs, xs = digL (bts s) := ⟨_, rfl⟩
      obtain ⟨ys, hys⟩ : ∃ ys, ys = digL (bts t) := ⟨_, rfl⟩
      rw [← hxs] at o1 n1
      rw [← hys] at o2 n2
      have hlx : xs.length ≤ 1000 := by omega
      have hly : ys.length ≤ 1000 := by omega
      have O1 := Lib.hid o1; clear o1
      have O2 := Lib.hid o2; clear o2
      have XS := Lib.hid hxs; clear hxs
      have YS := Lib.hid hys; clear hys
      clear hx1 hy1 n1 n2
      go_enter Tryd.func15, Tryd.ntmps15
      go_wp2_with fail
      refine (C1.out _).mono ?_
      rintro e w' ⟨rfl, rfl⟩
      go_wp2_with fail
      refine (C2.out _).mono ?_
      rintro e w' ⟨rfl, rfl⟩
      go_wp2_with fail
      refine (D1.out w).mono ?_
      rintro e w1 ⟨v1, rfl, ho1, hb1⟩
      rw [← XS.out] at ho1
      obtain ⟨ax, cx, rfl⟩ := ho1.shape
      have HO1 := Lib.hid ho1; clear ho1
      have HB1 := Lib.hid hb1; clear hb1
      have hz1 := HB1.out.size
      go_wp2_with fail
      refine (D2.out w1).mono ?_
      rintro e w2 ⟨v2, rfl, ho2, hb2⟩
      rw [← YS.out] at ho2
      obtain ⟨ay, cy, rfl⟩ := ho2.shape
      have HO2 := Lib.hid ho2; clear ho2
      have hb12 := HB1.out.trans (hb2.mono hz1)
      have hx2 := HO1.out.sl.below hb2 (Nat.le_refl _)
      have HB2 := Lib.hid hb12; clear hb12 hb2
      have hz2 := HB2.out.size
      have HX := Lib.hid hx2; clear hx2
      have hy2 := HO2.out.sl
      have HY := Lib.hid hy2; clear hy2
      go_wp2_with fail
      obtain ⟨i0, hi, hz0, hz1', hz2'⟩ := info_parts info_int
      go_loopw [8, 9, 10] (fun v c i wr => ∃ (k cn : Nat) (l : List Nat), k ≤ max xs.length ys.length + 1 ∧ i = .int .i64 (k : Int) ∧ c = .int .i64 (cn : Int) ∧ AddI xs ys l k cn ∧ Own wr w2.heap.size 3 .i64 v l ∧ Below w2.heap.size w2 wr) (fun _ _ i _ => max xs.length ys.length + 1 - (intOf i).toNat)
      case atStart => exact ⟨0, 0, [], Nat.zero_le _, rfl, rfl, ⟨by simp [dval], dig_nil, rfl, by omega⟩, Own.nil _ _ _ _, Below.refl _ _⟩
      case round =>
        obtain ⟨k, cn, l, hk, rfl, rfl, hinv, hown, hb⟩ := hrel
        have hlk : l.length = k := hinv.2.2.1
        have hc1 : (cn : Int) ≤ 1 := by have := hinv.2.2.2; omega
        have HINV := Lib.hid hinv; clear hinv
        have hk1001 : k ≤ 1001 := by omega
        have HK := Lib.hid hk; clear hk
        obtain ⟨ad, cap, rfl⟩ := hown.shape
        rw [hlk] at hown ⊢
        have HO := Lib.hid hown; clear hown
        have HB := Lib.hid hb; clear hb
        have hsz := HB.out.size
        have HLK := Lib.hid hlk
        clear hlk
        by_cases hlt : k ≤ xs.length ∨ k ≤ ys.length
        · obtain ⟨a, ha⟩ : ∃ a, a = nth xs k := ⟨_, rfl⟩
          obtain ⟨b, hb⟩ : ∃ b, b = nth ys k := ⟨_, rfl⟩
          have ha9 : (a : Int) ≤ 9 := by have := O1.out.1 k; rw [← ha] at this; omega
          have hb9 : (b : Int) ≤ 9 := by have := O2.out.1 k; rw [← hb] at this; omega
          have HA := Lib.hid ha; clear ha
          have HBB := Lib.hid hb; clear hb
          have hraw : wr.ownsRow w2.heap.size 3 1 (.slice ad k cap) k (vals .i64 l) := by have := HO.out.raw; rwa [HLK.out] at this
          have HRAW := Lib.hid hraw; clear hraw
          have HLT := Lib.hid hlt
          have hce : (((a : Int) + (b : Int) + (cn : Int)) % 10) = (((a + b + cn) % 10 : Nat) : Int) := by omega
          have HCE := Lib.hid hce; clear hce
          by_cases hlx2 : k ≤ xs.length
          · clear hlt
            go_wp2_with fail
            have q1 := rat_any _ xs k wr (HX.out.below HB.out (Nat.le_refl _)) (by omega)
            rw [← HA.out] at q1
            refine q1.mono ?_
            clear q1
            rintro e w0 ⟨rfl, rfl⟩
            go_wp2_with fail
            have q2 := rat_any _ ys k wr (HY.out.below HB.out (Nat.le_refl _)) (by omega)
            rw [← HBB.out] at q2
            refine q2.mono ?_
            clear q2
            rintro e w0 ⟨rfl, rfl⟩
            go_wp2_with (at_builtin; refine wpList_append_own _ rfl (.tmp 45) (.tmp 48) 41 rfl w2.heap.size 3 i0 (.int .i64 0) 1 8 Tryd.underlying41 hi hz0 hz1' hz2' rfl (by decide) _ _ _ rfl (World.ownsRow.alloc HRAW.out _) ⟨wr.heap.size, 0, none⟩ 1 1 [.int .i64 (((a : Int) + (b : Int) + (cn : Int)) % 10)] rfl rfl (cell_one_new _ _ _) (one_cell _ _) (by unfold maxLen; omega) (by omega) (by simp; omega) ?_; intro v' w1' hown1 hgrow1 _)
            rw [HCE.out] at hown1
            obtain ⟨ho, hb⟩ := HO.out.appended HB.out hsz (by rw [HLK.out]; exact hown1) hgrow1
            clear hown1 hgrow1
            have HO3 := Lib.hid ho; clear ho
            have HB3 := Lib.hid hb; clear hb
            try go_wp2_with fail
            go_roundw
            case rel => exact ⟨k + 1, (a + b + cn) / 10, l ++ [(a + b + cn) % 10], by have := HLT.out; omega, by go_num, by go_num, addI_step HINV.out HA.out HBB.out (by omega) (by omega), HO3.out, HB3.out⟩
            case measure => have := HLT.out; have := HK.out; simp [intOf]; omega
          · have hlty : k ≤ ys.length := by omega
            have hg : decide ((k : Int) ≤ (xs.length : Int)) = false := decide_eq_false (by omega)
            clear hlt
            go_wp2_with fail
            have q1 := rat_any _ xs k wr (HX.out.below HB.out (Nat.le_refl _)) (by omega)
            rw [← HA.out] at q1
            refine q1.mono ?_
            clear q1
            rintro e w0 ⟨rfl, rfl⟩
            go_wp2_with fail
            have q2 := rat_any _ ys k wr (HY.out.below HB.out (Nat.le_refl _)) (by omega)
            rw [← HBB.out] at q2
            refine q2.mono ?_
            clear q2
            rintro e w0 ⟨rfl, rfl⟩
            go_wp2_with (at_builtin; refine wpList_append_own _ rfl (.tmp 45) (.tmp 48) 41 rfl w2.heap.size 3 i0 (.int .i64 0) 1 8 Tryd.underlying41 hi hz0 hz1' hz2' rfl (by decide) _ _ _ rfl (World.ownsRow.alloc HRAW.out _) ⟨wr.heap.size, 0, none⟩ 1 1 [.int .i64 (((a : Int) + (b : Int) + (cn : Int)) % 10)] rfl rfl (cell_one_new _ _ _) (one_cell _ _) (by unfold maxLen; omega) (by omega) (by simp; omega) ?_; intro v' w1' hown1 hgrow1 _)
            rw [HCE.out] at hown1
            obtain ⟨ho, hb⟩ := HO.out.appended HB.out hsz (by rw [HLK.out]; exact hown1) hgrow1
            clear hown1 hgrow1
            have HO3 := Lib.hid ho; clear ho
            have HB3 := Lib.hid hb; clear hb
            try go_wp2_with fail
            go_roundw
            case rel => exact ⟨k + 1, (a + b + cn) / 10, l ++ [(a + b + cn) % 10], by have := HLT.out; omega, by go_num, by go_num, addI_step HINV.out HA.out HBB.out (by omega) (by omega), HO3.out, HB3.out⟩
            case measure => have := HLT.out; have := HK.out; simp [intOf]; omega
        · have hg : decide ((k : Int) ≤ (xs.length : Int)) = false := decide_eq_false (by omega)
          have hg2 : decide ((k : Int) ≤ (ys.length : Int)) = false := decide_eq_false (by omega)
          have hg3 : xs.length < k := by omega
          have hg4 : ys.length < k := by omega
          have hsum := addI_end HINV.out O1.out.1 O2.out.1 (by omega) (by omega)
          rw [O1.out.2, O2.out.2] at hsum
          have hsum' : dval l = val s + val t := hsum
          clear hsum
          have HSUM := Lib.hid hsum'; clear hsum'
          have HLT := Lib.hid hlt; clear hlt
          go_wp2_with fail
          have q3 := rtext_any _ l wr HO.out.sl HINV.out.2.1 (by rw [HLK.out]; omega)
          rw [HSUM.out] at q3
          refine q3.mono ?_
          clear q3
          rintro e w4 ⟨rfl, hb4⟩
          have hb5 := HB2.out.trans ((HB.out.mono hz2).trans (hb4.mono (by omega)))
          have HB5 := Lib.hid hb5; clear hb5 hb4
          go_wp2_with fail
          refine (rlimited_any (val s + val t) w4).mono ?_
          rintro e w5 ⟨rfl, rfl⟩
          go_wp2_with fail
          go_ret2
          exact ⟨rfl, HB5.out⟩
set_option maxHeartbeats 4000000 in
theorem rsub_any (s t : ByteArray) (w : World) (hs : s.size ≤ maxLen) (ht : t.size ≤ maxLen) :
    Calls Tryd.prog 17 #[.string s, .string t] w (PairEnd (subF s t) w) := by
  have c1 := fun w => rvalid_any s w hs
  have c2 := fun w => rvalid_any t w ht
  clear hs ht
  cases h1 : vld s with
  | false =>
    have hr : subF s t = (str [], 1) := by unfold subF; rw [h1]; rfl
    rw [hr]; unfold vld at h1; rw [h1] at c1; clear hr h1 c2
    have C1 := Lib.hid c1; clear c1
    go_enter Tryd.func17, Tryd.ntmps17
    go_wp2_with fail
    refine (C1.out _).mono ?_
    rintro e w' ⟨rfl, rfl⟩
    go_wp2
    go_ret2
    exact ⟨rfl, Below.refl _ _⟩
  | true =>
    cases h2 : vld t with
    | false =>
      have hr : subF s t = (str [], 1) := by unfold subF; rw [h1, h2]; rfl
      rw [hr]; unfold vld at h1 h2; rw [h1] at c1; rw [h2] at c2; clear hr h1 h2
      have C1 := Lib.hid c1; clear c1
      have C2 := Lib.hid c2; clear c2
      go_enter Tryd.func17, Tryd.ntmps17
      go_wp2_with fail
      refine (C1.out _).mono ?_
      rintro e w' ⟨rfl, rfl⟩
      go_wp2_with fail
      refine (C2.out _).mono ?_
      rintro e w' ⟨rfl, rfl⟩
      go_wp2
      go_ret2
      exact ⟨rfl, Below.refl _ _⟩
    | true =>
      rw [show validL (bts s) = true from h1] at c1; rw [show validL (bts t) = true from h2] at c2
      have C1 := Lib.hid c1; clear c1
      have C2 := Lib.hid c2; clear c2
      have H1 := Lib.hid h1; clear h1
      have H2 := Lib.hid h2; clear h2
      have hc := fun w => rcompare_any (val s) (val t) w (by have := fits_val H1.out; unfold fits at this; omega)
      rw [sd_val H1.out, sd_val H2.out] at hc
      have d1 := fun w => rdigits_any s w (by have := vld_size H1.out; omega) (valid_parts H1.out).2.2.2
      have D1 := Lib.hid d1; clear d1
      have d2 := fun w => rdigits_any t w (by have := vld_size H2.out; omega) (valid_parts H2.out).2.2.2
      have D2 := Lib.hid d2; clear d2
      have o1 := digL_ok (valid_parts H1.out).2.2.2
      have o2 := digL_ok (valid_parts H2.out).2.2.2
      have hx1 := (vld_size H1.out).2
      have hy1 := (vld_size H2.out).2
      have n1 := digL_len (bts s)
      have n2 := digL_len (bts t)
      rw [bts_len] at n1 n2
      obtain ⟨xs, hxs⟩ : ∃ xs, xs = digL (bts s) := ⟨_, rfl⟩
      obtain ⟨ys, hys⟩ : ∃ ys, ys = digL (bts t) := ⟨_, rfl⟩
      rw [← hxs] at o1 n1
      rw [← hys] at o2 n2
      have hlx : xs.length ≤ 1000 := by omega
      have hly : ys.length ≤ 1000 := by omega
      have O1 := Lib.hid o1; clear o1
      have O2 := Lib.hid o2; clear o2
      have XS := Lib.hid hxs; clear hxs
      have YS := Lib.hid hys; clear hys
      clear hx1 hy1 n1 n2
      have hge : cmpN (val s) (val t) = if val s < val t then -1 else if val t < val s then 1 else 0 := rfl
      clear hge
      have HC := Lib.hid hc; clear hc
      by_cases hlt : val s < val t
      · have hr : subF s t = (str [], 4) := by unfold subF; rw [H1.out, H2.out, if_pos hlt]; rfl
        rw [hr]; clear hr
        have hcn := cmpN_lt hlt
        have HCN := Lib.hid hcn; clear hcn hlt
        go_enter Tryd.func17, Tryd.ntmps17
        go_wp2_with fail
        refine (C1.out _).mono ?_
        rintro e w' ⟨rfl, rfl⟩
        go_wp2_with fail
        refine (C2.out _).mono ?_
        rintro e w' ⟨rfl, rfl⟩
        go_wp2_with fail
        have q0 := HC.out w
        unfold CmpEnd at q0
        rw [HCN.out] at q0
        refine q0.mono ?_
        clear q0
        rintro e w0 ⟨rfl, hb0⟩
        have HB0 := Lib.hid hb0; clear hb0
        go_wp2_with fail
        go_ret2
        exact ⟨rfl, HB0.out⟩
      · have hr : subF s t = (str (dec (val s - val t)), 0) := by unfold subF; rw [H1.out, H2.out, if_neg hlt]; rfl
        rw [hr]; clear hr
        have hcn : (0 : Int) ≤ cmpN (val s) (val t) := by unfold cmpN; rw [if_neg hlt]; split <;> decide
        obtain ⟨cc, hcc⟩ : ∃ cc, cc = cmpN (val s) (val t) := ⟨_, rfl⟩
        rw [← hcc] at hcn
        have HCC := Lib.hid hcc; clear hcc
        have hdl : ys.length ≤ xs.length := by
          rw [YS.out, XS.out, digL_len, digL_len]
          have e1 : bts s = dec (val s) := by unfold val; rw [dec_num H1.out]
          have e2 : bts t = dec (val t) := by unfold val; rw [dec_num H2.out]
          rw [e1, e2]
          rcases Nat.lt_or_ge (dec (val s)).length (dec (val t)).length with h | h
          · exact absurd (dec_lt_len h) hlt
          · exact h
        have hdv : dval ys ≤ dval xs := by rw [O1.out.2, O2.out.2]; exact Nat.le_of_not_lt hlt
        have hds : dval xs - dval ys = val s - val t := by rw [O1.out.2, O2.out.2]; rfl
        have HDL := Lib.hid hdl; clear hdl
        have HDV := Lib.hid hdv; clear hdv
        have HDS := Lib.hid hds; clear hds hlt
        go_enter Tryd.func17, Tryd.ntmps17
        go_wp2_with fail
        refine (C1.out _).mono ?_
        rintro e w' ⟨rfl, rfl⟩
        go_wp2_with fail
        refine (C2.out _).mono ?_
        rintro e w' ⟨rfl, rfl⟩
        go_wp2_with fail
        have q0 := HC.out w
        unfold CmpEnd at q0
        rw [← HCC.out] at q0
        refine q0.mono ?_
        clear q0
        rintro e w0 ⟨rfl, hb0⟩
        have HB0 := Lib.hid hb0; clear hb0
        have hz0 := HB0.out.size
        go_wp2_with fail
        refine (D1.out w0).mono ?_
        rintro e w1 ⟨v1, rfl, ho1, hb1⟩
        rw [← XS.out] at ho1
        obtain ⟨ax, cx, rfl⟩ := ho1.shape
        have HO1 := Lib.hid ho1; clear ho1
        have hb01 := HB0.out.trans (hb1.mono hz0)
        have HB1 := Lib.hid hb01; clear hb01 hb1
        have hz1 := HB1.out.size
        go_wp2_with fail
        refine (D2.out w1).mono ?_
        rintro e w2 ⟨v2, rfl, ho2, hb2⟩
        rw [← YS.out] at ho2
        obtain ⟨ay, cy, rfl⟩ := ho2.shape
        have HO2 := Lib.hid ho2; clear ho2
        have hb12 := HB1.out.trans (hb2.mono hz1)
        have hx2 := HO1.out.sl.below hb2 (Nat.le_refl _)
        have HB2 := Lib.hid hb12; clear hb12 hb2
        have hz2 := HB2.out.size
        have HX := Lib.hid hx2; clear hx2
        go_wp2_with fail
        refine (rless_any _ _ xs ys w2 HX.out HO2.out.sl O1.out.1 O2.out.1 HDL.out HDV.out (by omega)).mono ?_
        rintro e w3 ⟨ls, hls1, hls2, hls3, v3, rfl, ho3, hb3⟩
        obtain ⟨al, cl, rfl⟩ := ho3.shape
        rw [HDS.out] at hls1
        have HL1 := Lib.hid hls1; clear hls1
        have HL2 := Lib.hid hls2; clear hls2
        have hls4 : ls.length ≤ 1000 := by omega
        clear hls3
        have HO3 := Lib.hid ho3; clear ho3
        have hb23 := HB2.out.trans (hb3.mono hz2)
        have HB3 := Lib.hid hb23; clear hb23 hb3
        have hz3 := HB3.out.size
        go_wp2_with fail
        have q3 := rtext_any _ ls w3 HO3.out.sl HL2.out (by omega)
        rw [HL1.out] at q3
        refine q3.mono ?_
        clear q3
        rintro e w4 ⟨rfl, hb4⟩
        have hb5 := HB3.out.trans (hb4.mono hz3)
        have HB5 := Lib.hid hb5; clear hb5 hb4
        go_wp2_with fail
        go_ret2
        exact ⟨rfl, HB5.out⟩
end Go.Proofs.YtndfbnffielfaaaDoor
