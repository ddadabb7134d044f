/- The walk of abugidaref02.Mul. -/
import Derived.Test.YtndfbnffielfaaaDoorRAdd
import Derived.Deep.QuietTactic
import Derived.BigQuiet
namespace Go.Proofs.YtndfbnffielfaaaDoor
open Go Go.RowKit

theorem dig_set {L : List Nat} (h : Dig L) (j v : Nat) (hv : v < 10) : Dig (L.set j v) := fun i => by
  by_cases hj : j < L.length
  · rw [nth_set L j v i hj]; split
    · exact hv
    · exact h i
  · rw [List.set_eq_of_length_le (by omega)]; exact h i
theorem dval_set (L : List Nat) : ∀ (j v : Nat), j < L.length → dval (L.set j v) + 10 ^ j * nth L j = dval L + 10 ^ j * v := by
  induction L with
  | nil => intro j v h; simp at h
  | cons x L ih =>
    intro j v h
    cases j with
    | zero => simp only [List.set_cons_zero, dval, nth_cons_zero, Nat.pow_zero]; omega
    | succ j =>
      have := ih j v (by simpa using h)
      simp only [List.set_cons_succ, dval, nth_cons_succ, Nat.pow_succ]
      have e : 10 * (dval (L.set j v) + 10 ^ j * nth L j) = 10 * (dval L + 10 ^ j * v) := by rw [this]
      rw [Nat.mul_add, Nat.mul_add, ← Nat.mul_assoc, ← Nat.mul_assoc, Nat.mul_comm 10 (10 ^ j)] at e
      omega
theorem nth_rep (k i : Nat) : nth (List.replicate k 0) i = 0 := by unfold nth; simp [List.getD_eq_getElem?_getD, List.getElem?_replicate]; split <;> rfl
structure MulIR (xs ys L : List Nat) (i k c : Nat) : Prop where
  dig : Dig L
  carry : c < 10
  len : L.length = xs.length + ys.length + 1
  val : dval L + 10 ^ (i + k) * c = dval (xs.take i) * dval ys + 10 ^ i * (nth xs i * dval (ys.take k))
structure MulOR (xs ys L : List Nat) (i : Nat) : Prop where
  dig : Dig L
  len : L.length = xs.length + ys.length + 1
  val : dval L = dval (xs.take i) * dval ys
theorem MulOR.start (xs ys : List Nat) : MulOR xs ys (List.replicate (xs.length + ys.length + 1) 0) 0 :=
  ⟨fun i => by rw [nth_rep]; omega, by simp, by rw [dval_zero (nth_rep _)]; simp [dval]⟩
theorem MulOR.inner {xs ys L : List Nat} {i : Nat} (h : MulOR xs ys L i) : MulIR xs ys L i 0 0 :=
  ⟨h.dig, by omega, h.len, by rw [h.val]; simp [dval]⟩
theorem mul_d_bound {l c x y : Nat} (h1 : l < 10) (h2 : c < 10) (h3 : x < 10) (h4 : y < 10) : l + x * y + c < 100 := by
  have : x * y ≤ 9 * 9 := Nat.mul_le_mul (by omega) (by omega)
  omega
theorem MulIR.step {xs ys L : List Nat} {i k c l x y : Nat} (h : MulIR xs ys L i k c) (hx : Dig xs) (hy : Dig ys) (hi : i < xs.length) (hk : k < ys.length + 1) (el : l = nth L (i + k)) (ex : x = nth xs i) (ey : y = nth ys k) :
    MulIR xs ys (L.set (i + k) ((l + x * y + c) % 10)) i (k + 1) ((l + x * y + c) / 10) := by
  have hb := mul_d_bound (h.dig (i + k)) h.carry (hx i) (hy k)
  have hlt : i + k < L.length := by rw [h.len]; omega
  have hset := dval_set L (i + k) ((l + x * y + c) % 10) hlt
  have hval := h.val
  have htk := dval_take_succ ys k
  rw [← el, ← ex, ← ey] at hb
  rw [← el] at hset
  rw [← ey] at htk
  rw [← ex] at hval
  generalize hp : l + x * y + c = p at *
  have hp2 : 10 ^ (i + k) * l + 10 ^ (i + k) * (x * y) + 10 ^ (i + k) * c = 10 ^ (i + k) * p := by rw [← hp, Nat.mul_add, Nat.mul_add]
  have hp3 : 10 ^ (i + k) * p = 10 ^ (i + k) * (p % 10) + 10 ^ (i + k) * 10 * (p / 10) := by
    rw [Nat.mul_assoc, ← Nat.mul_add, Nat.mod_add_div]
  refine ⟨dig_set h.dig _ _ (by omega), by omega, by simp [h.len], ?_⟩
  rw [htk, Nat.mul_add, Nat.mul_add, show i + (k + 1) = i + k + 1 by omega, Nat.pow_succ 10 (i + k), ← ex]
  have e : 10 ^ i * (x * (10 ^ k * y)) = 10 ^ (i + k) * (x * y) := by
    rw [Nat.pow_add, Nat.mul_left_comm x, Nat.mul_assoc]
  rw [e]
  omega
theorem MulIR.done {xs ys L : List Nat} {i c : Nat} (h : MulIR xs ys L i (ys.length + 1) c) (hx : Dig xs) (hy : Dig ys) (hi : i < xs.length) : MulOR xs ys L (i + 1) := by
  refine ⟨h.dig, h.len, ?_⟩
  have hval := h.val
  rw [List.take_of_length_le (by omega : ys.length ≤ ys.length + 1)] at hval
  have e : dval (xs.take i) * dval ys + 10 ^ i * (nth xs i * dval ys) = dval (xs.take (i + 1)) * dval ys := by
    rw [dval_take_succ, Nat.add_mul, Nat.mul_assoc]
  rw [e] at hval
  have h1 : dval (xs.take (i + 1)) < 10 ^ (i + 1) := by
    have := dval_lt (dig_take hx (i + 1)); rw [List.length_take, Nat.min_eq_left (by omega)] at this; exact this
  have h2 := dval_lt hy
  have h3 : dval (xs.take (i + 1)) * dval ys < 10 ^ (i + 1) * 10 ^ ys.length := by
    have h4 : dval (xs.take (i + 1)) * dval ys ≤ dval (xs.take (i + 1)) * 10 ^ ys.length := Nat.mul_le_mul_left _ (by omega)
    have h5 : dval (xs.take (i + 1)) * 10 ^ ys.length < 10 ^ (i + 1) * 10 ^ ys.length := Nat.mul_lt_mul_of_pos_right h1 (Nat.pow_pos (by omega))
    omega
  rw [← Nat.pow_add, show i + 1 + ys.length = i + (ys.length + 1) by omega] at h3
  rcases Nat.eq_zero_or_pos c with h0 | h0
  · subst h0; rw [Nat.mul_zero, Nat.add_zero] at hval; exact hval
  · have : 10 ^ (i + (ys.length + 1)) * 1 ≤ 10 ^ (i + (ys.length + 1)) * c := Nat.mul_le_mul_left _ h0
    omega
theorem MulOR.done {xs ys L : List Nat} (h : MulOR xs ys L xs.length) : dval L = dval xs * dval ys := by rw [h.val, List.take_length]
set_option maxRecDepth 100000 in
set_option maxHeartbeats 4000000 in
theorem rmul_any (s t : ByteArray) (w : World) (hs : s.size ≤ maxLen) (ht : t.size ≤ maxLen) :
    Calls Tryd.prog 19 #[.string s, .string t] w (PairEnd (mulF s t) w) := by
  have c1 := fun w => rvalid_any s w hs
  have c2 := fun w => rvalid_any t w ht
  clear hs ht
  cases h1 : vld s with
  | false =>
    have hr : mulF s t = (str [], 1) := by unfold mulF; rw [h1]; rfl
    rw [hr]; unfold vld at h1; rw [h1] at c1; clear hr h1 c2
    have C1 := Lib.hid c1; clear c1
    go_enter Tryd.func19, Tryd.ntmps19
    go_wp2_with fail
    refine (C1.out _).mono ?_
    rintro e w' ⟨rfl, rfl⟩
    go_wp2
    go_ret2
    exact ⟨rfl, Below.refl _ _⟩
  | true =>
    cases h2 : vld t with
    | false =>
      have hr : mulF s t = (str [], 1) := by unfold mulF; rw [h1, h2]; rfl
      rw [hr]; unfold vld at h1 h2; rw [h1] at c1; rw [h2] at c2; clear hr h1 h2
      have C1 := Lib.hid c1; clear c1
      have C2 := Lib.hid c2; clear c2
      go_enter Tryd.func19, Tryd.ntmps19
      go_wp2_with fail
      refine (C1.out _).mono ?_
      rintro e w' ⟨rfl, rfl⟩
      go_wp2_with fail
      refine (C2.out _).mono ?_
      rintro e w' ⟨rfl, rfl⟩
      go_wp2
      go_ret2
      exact ⟨rfl, Below.refl _ _⟩
    | true =>
      rw [show validL (bts s) = true from h1] at c1; rw [show validL (bts t) = true from h2] at c2
      have C1 := Lib.hid c1; clear c1
      have C2 := Lib.hid c2; clear c2
      have H1 := Lib.hid h1; clear h1
      have H2 := Lib.hid h2; clear h2
      have hr : mulF s t = limS (val s * val t) := by unfold mulF; rw [H1.out, H2.out]; rfl
      rw [hr]; clear hr
      have d1 := fun w => rdigits_any s w (by have := vld_size H1.out; omega) (valid_parts H1.out).2.2.2
      have D1 := Lib.hid d1; clear d1
      have d2 := fun w => rdigits_any t w (by have := vld_size H2.out; omega) (valid_parts H2.out).2.2.2
      have D2 := Lib.hid d2; clear d2
      have o1 := digL_ok (valid_parts H1.out).2.2.2
      have o2 := digL_ok (valid_parts H2.out).2.2.2
      have hx1 := (vld_size H1.out).2
      have hy1 := (vld_size H2.out).2
      have n1 := digL_len (bts s)
      have n2 := digL_len (bts t)
      rw [bts_len] at n1 n2
      obtain ⟨xs, hxs⟩ : ∃ xs, xs = digL (bts s) := ⟨_, rfl⟩
      obtain ⟨ys, hys⟩ : ∃ ys, ys = digL (bts t) := ⟨_, rfl⟩
      rw [← hxs] at o1 n1
      rw [← hys] at o2 n2
      have hlx : xs.length ≤ 1000 := by omega
      have hly : ys.length ≤ 1000 := by omega
      have O1 := Lib.hid o1; clear o1
      have O2 := Lib.hid o2; clear o2
      have XS := Lib.hid hxs; clear hxs
      have YS := Lib.hid hys; clear hys
      clear hx1 hy1 n1 n2
      go_enter Tryd.func19, Tryd.ntmps19
      go_wp2_with fail
      refine (C1.out _).mono ?_
      rintro e w' ⟨rfl, rfl⟩
      go_wp2_with fail
      refine (C2.out _).mono ?_
      rintro e w' ⟨rfl, rfl⟩
      go_wp2_with fail
      refine (D1.out w).mono ?_
      rintro e w1 ⟨v1, rfl, ho1, hb1⟩
      rw [← XS.out] at ho1
      obtain ⟨ax, cx, rfl⟩ := ho1.shape
      have HO1 := Lib.hid ho1; clear ho1
      have HB1 := Lib.hid hb1; clear hb1
      have hz1 := HB1.out.size
      go_wp2_with fail
      refine (D2.out w1).mono ?_
      rintro e w2 ⟨v2, rfl, ho2, hb2⟩
      rw [← YS.out] at ho2
      obtain ⟨ay, cy, rfl⟩ := ho2.shape
      have HO2 := Lib.hid ho2; clear ho2
      have hb12 := HB1.out.trans (hb2.mono hz1)
      have hx2 := HO1.out.sl.below hb2 (Nat.le_refl _)
      have HB2 := Lib.hid hb12; clear hb12 hb2
      have hz2 := HB2.out.size
      have HX := Lib.hid hx2; clear hx2
      have hy2 := HO2.out.sl
      have HY := Lib.hid hy2; clear hy2
      obtain ⟨i0, ih0, iz0, iz1, iz2⟩ := info_parts info_int
      obtain ⟨wm, hmk, hown, hgr⟩ := run_make_full w2 w.heap.size 41 3 i0 (.int .i64 0) 1 Tryd.underlying41 ih0 iz0 iz1 .i64 .i64 (xs.length + ys.length + 1) (by rw [iz2]; omega) (by unfold maxLen; omega) (by omega)
      rw [show ((xs.length + ys.length + 1 : Nat) : Int) = (xs.length : Int) + (ys.length : Int) + 1 by omega] at hmk
      have hbm2 : Below w2.heap.size w2 wm := (Below.refl _ _).grown hgr (Nat.le_refl _) (by simp)
      have hbm : Below w.heap.size w wm := HB2.out.trans ((Below.refl _ _).grown hgr (by omega) (by simp))
      have hL0 : Own wm w.heap.size 3 .i64 (.slice (some ⟨w2.heap.size, 0, none⟩) (xs.length + ys.length + 1) (xs.length + ys.length + 1)) (List.replicate (xs.length + ys.length + 1) 0) := by
        unfold Own
        rw [vals_replicate, List.length_replicate]
        have := hown
        rw [Nat.mul_one, show (Value.int .i64 0).cells = #[Value.int .i64 0] from rfl, toList_madeCells_one] at this
        exact this
      have HM := Lib.hid hbm; clear hbm
      have HM2 := Lib.hid hbm2; clear hbm2
      have HL0 := Lib.hid hL0; clear hL0 hown hgr
      obtain ⟨ax', cx', bx, ox, hsl, hax, hcx1, hcx2, hbx, hcellx⟩ := HX.out.open
      rw [Value.slice.injEq] at hsl
      obtain ⟨rfl, _, rfl⟩ := hsl
      unfold maxLen at hcx2
      have HCX := Lib.hid hcellx; clear hcellx
      have HAX := Lib.hid hax; clear hax
      have HBX := Lib.hid hbx; clear hbx
      go_wp2_with fail
      clear hmk
      go_loopw [9] (fun i wr => ∃ (k : Nat) (L : List Nat), k ≤ xs.length ∧ i = .int .i64 (k : Int) ∧ MulOR xs ys L k ∧ Own wr w.heap.size 3 .i64 (.slice (some ⟨w2.heap.size, 0, none⟩) (xs.length + ys.length + 1) (xs.length + ys.length + 1)) L ∧ Below w.heap.size w wr ∧ Below w2.heap.size w2 wr) (fun i _ => xs.length - (intOf i).toNat)
      case atStart => exact ⟨0, _, Nat.zero_le _, rfl, MulOR.start xs ys, HL0.out, HM.out, HM2.out⟩
      case round =>
        obtain ⟨i, L, hi1, rfl, hmo, hown, hbw, hbw2⟩ := hrel
        have HMO := Lib.hid hmo; clear hmo
        have HO := Lib.hid hown; clear hown
        have HBW := Lib.hid hbw; clear hbw
        have HBW2 := Lib.hid hbw2; clear hbw2
        obtain ⟨wo, rfl⟩ : ∃ wo : World, wo = wr := ⟨_, rfl⟩
        by_cases hlt : i < xs.length
        · obtain rfl := HAX.out (by omega)
          have hbx := HBX.out (by omega)
          go_wp2_with fail
          go_loopw [10, 11] (fun c q wr => ∃ (k cc : Nat) (L : List Nat), k ≤ ys.length + 1 ∧ q = .int .i64 (k : Int) ∧ c = .int .i64 (cc : Int) ∧ MulIR xs ys L i k cc ∧ Own wr w.heap.size 3 .i64 (.slice (some ⟨w2.heap.size, 0, none⟩) (xs.length + ys.length + 1) (xs.length + ys.length + 1)) L ∧ Below w.heap.size w wr ∧ Below w2.heap.size w2 wr) (fun _ q _ => ys.length + 1 - (intOf q).toNat)
          case atStart => exact ⟨0, 0, L, Nat.zero_le _, rfl, rfl, HMO.out.inner, HO.out, HBW.out, HBW2.out⟩
          case round =>
            obtain ⟨k, cc, L', hk1, rfl, rfl, hmi, hown, hbw, hbw2⟩ := hrel
            have HMI := Lib.hid hmi; clear hmi
            have HO' := Lib.hid hown; clear hown
            have HBW' := Lib.hid hbw; clear hbw
            have HBW2' := Lib.hid hbw2; clear hbw2
            by_cases hlt2 : k ≤ ys.length
            · have hlen := HMI.out.len
              have cl := HO'.out.cell hlen (i + k) (by omega)
              have fl := HO'.out.free hlen (i + k)
              have HLEN := Lib.hid hlen; clear hlen
              have c1 := (HBW2'.out.cell (p := ⟨bx, ox + i, none⟩) hbx).trans (HCX.out i hlt)
              obtain ⟨x, hx⟩ : ∃ x, x = nth xs i := ⟨_, rfl⟩
              obtain ⟨y, hy⟩ : ∃ y, y = nth ys k := ⟨_, rfl⟩
              obtain ⟨l, hl⟩ : ∃ l, l = nth L' (i + k) := ⟨_, rfl⟩
              rw [← hl] at cl
              rw [← hx] at c1
              have hstep := HMI.out.step O1.out.1 O2.out.1 hlt (by omega) hl hx hy
              have HST := Lib.hid hstep; clear hstep
              have hx9 : (x : Int) ≤ 9 := by have := O1.out.1 i; rw [← hx] at this; omega
              have hy9 : (y : Int) ≤ 9 := by have := O2.out.1 k; rw [← hy] at this; omega
              have hl9 : (l : Int) ≤ 9 := by have := HMI.out.dig (i + k); rw [← hl] at this; omega
              have hc9 : (cc : Int) ≤ 9 := by have := HMI.out.carry; omega
              have hmul : ((x : Int) * (y : Int)) = ((x * y : Nat) : Int) := by simp
              have hpn : x * y ≤ 9 * 9 := Nat.mul_le_mul (by omega) (by omega)
              have hp1 : (x : Int) * (y : Int) ≤ 81 := by rw [hmul]; omega
              have hp0 : 0 ≤ (x : Int) * (y : Int) := by rw [hmul]; omega
              have hce : (((l : Int) + (x : Int) * (y : Int) + (cc : Int)) % 10) = (((l + x * y + cc) % 10 : Nat) : Int) := by rw [hmul]; omega
              have hcd : (((l : Int) + (x : Int) * (y : Int) + (cc : Int)) / 10) = (((l + x * y + cc) / 10 : Nat) : Int) := by rw [hmul]; omega
              have HCE := Lib.hid hce; clear hce
              have hwd : wrap64 (((l : Int) + (x : Int) * (y : Int) + (cc : Int)).tdiv 10) = (((l + x * y + cc) / 10 : Nat) : Int) := by
                rw [Int.tdiv_eq_ediv_of_nonneg (by omega), hcd, ← IntWalk.i64_left, IntKind.wrap_i64]; omega
              have HWD := Lib.hid hwd; clear hwd
              clear hcd hmul hpn
              have HXX := Lib.hid hx; clear hx
              have HYY := Lib.hid hy; clear hy
              have HLX := Lib.hid hl; clear hl
              have hyw := HY.out.below HBW2'.out (Nat.le_refl _)
              have HYW := Lib.hid hyw; clear hyw
              have hi1000 : (i : Int) ≤ 1000 := by omega
              have hk1000 : (k : Int) ≤ 1000 := by omega
              have hw1 : IntKind.i64.wrap ((i : Int) + (k : Int)) = (i : Int) + (k : Int) := by rw [IntKind.wrap_i64]; omega
              have hw2 : IntKind.i64.wrap ((x : Int) * (y : Int)) = (x : Int) * (y : Int) := by rw [IntKind.wrap_i64]; omega
              have hw3 : IntKind.i64.wrap ((l : Int) + (x : Int) * (y : Int)) = (l : Int) + (x : Int) * (y : Int) := by rw [IntKind.wrap_i64]; omega
              have hw4 : IntKind.i64.wrap ((l : Int) + (x : Int) * (y : Int) + (cc : Int)) = (l : Int) + (x : Int) * (y : Int) + (cc : Int) := by rw [IntKind.wrap_i64]; omega
              clear hx9 hy9 hl9 hc9
              have hix0 : 0 ≤ (i : Int) + (k : Int) := by omega
              have hix1 : (i : Int) + (k : Int) < (xs.length : Int) + (ys.length : Int) + 1 := by omega
              have hix2 : ((i : Int) + (k : Int)).toNat = i + k := by omega
              go_wp2_with fail
              go_quiet ((go_at_call 34; exact Calls.quiet_of_same ((rat_any _ ys k _ (HYW.out.below (below_drewN (Below.refl _ wr) _) (Nat.le_refl _)) (by omega)).mono fun e w' h => ⟨by rw [h.1, ← HYY.out], h.2.symm⟩)))
              go_wp2
              go_roundw
              case rel =>
                have ho := (HO'.out.kept (below_drewN (Below.refl _ wr) nq) (Nat.le_refl _)).set HLEN.out (i + k) ((l + x * y + cc) % 10)
                exact ⟨k + 1, (l + x * y + cc) / 10, L'.set (i + k) ((l + x * y + cc) % 10), by omega, by go_num, by rw [HWD.out], HST.out, by rw [HCE.out]; exact ho, (below_drewN HBW'.out nq).setCell HO'.out.base.1 _, (below_drewN HBW2'.out nq).setCell (Nat.le_refl _) _⟩
              case measure => simp [intOf]; omega
            · have hkk : k = ys.length + 1 := by omega
              have HKK := Lib.hid hkk; clear hkk
              have hgt : ys.length < k := by omega
              go_wp2_with fail
              go_roundw
              case rel =>
                have h1 := HMI.out
                rw [HKK.out] at h1
                exact ⟨i + 1, L', by omega, by go_num, h1.done O1.out.1 O2.out.1 hlt, HO'.out, HBW'.out, HBW2'.out⟩
              case measure => simp [intOf]; omega
        · have hii : i = xs.length := by omega
          have hmo := HMO.out
          rw [hii] at hmo
          clear hii
          have hsum := hmo.done
          rw [O1.out.2, O2.out.2] at hsum
          have hsum' : dval L = val s * val t := hsum
          clear hsum
          have HSUM := Lib.hid hsum'; clear hsum'
          have hsz := HBW.out.size
          have q3 := rtext_any (.slice (some ⟨w2.heap.size, 0, none⟩) (xs.length + ys.length + 1) (xs.length + ys.length + 1)) L wo (by have := HO.out.sl; exact this) hmo.dig (by rw [hmo.len]; omega)
          rw [HSUM.out] at q3
          have Q3 := Lib.hid q3; clear q3 hmo
          go_wp2_with fail
          refine Q3.out.mono ?_
          rintro e w4 ⟨rfl, hb4⟩
          have hb5 := HBW.out.trans (hb4.mono hsz)
          have HB5 := Lib.hid hb5; clear hb5 hb4
          go_wp2_with fail
          refine (rlimited_any (val s * val t) w4).mono ?_
          rintro e w5 ⟨rfl, rfl⟩
          go_wp2_with fail
          go_ret2
          exact ⟨rfl, HB5.out⟩
end Go.Proofs.YtndfbnffielfaaaDoor
