/- Parts of a proof: MM. -/
import Derived.Test.YtjekapjbigfkbaaGreatDoorS05
import Derived.Deep.QuietTactic
import Derived.BigQuiet
namespace Go.Proofs.YtjekapjbigfkbaaGreatDoor
open Go Go.RowKit
set_option maxRecDepth 100000
theorem nth_set (L : List Nat) (j v i : Nat) (h : j < L.length) : nth (L.set j v) i = if i = j then v else nth L i := by
  unfold nth
  simp only [List.getD_eq_getElem?_getD, List.getElem?_set]
  by_cases e : j = i
  · subst e; simp [h]
  · rw [if_neg e, if_neg (fun e' => e e'.symm)]
theorem small_set {L : List Nat} (h : Small L) (j v : Nat) (hv : v < BB) : Small (L.set j v) := fun i => by
  by_cases hj : j < L.length
  · rw [nth_set L j v i hj]; split
    · exact hv
    · exact h i
  · rw [List.set_eq_of_length_le (by omega)]; exact h i
theorem bval_set (L : List Nat) : ∀ (j v : Nat), j < L.length → bval (L.set j v) + BB ^ j * nth L j = bval L + BB ^ j * v := by
  induction L with
  | nil => intro j v h; simp at h
  | cons x L ih =>
    intro j v h
    cases j with
    | zero => simp only [List.set_cons_zero, bval, nth_cons_zero, Nat.pow_zero]; omega
    | succ j =>
      have := ih j v (by simpa using h)
      simp only [List.set_cons_succ, bval, nth_cons_succ, Nat.pow_succ]
      have e : BB * (bval (L.set j v) + BB ^ j * nth L j) = BB * (bval L + BB ^ j * v) := by rw [this]
      rw [Nat.mul_add, Nat.mul_add, ← Nat.mul_assoc, ← Nat.mul_assoc, Nat.mul_comm BB (BB ^ j)] at e
      omega
theorem bval_replicate (k : Nat) : bval (List.replicate k 0) = 0 := bval_zero (fun i => by unfold nth; simp [List.getD_eq_getElem?_getD, List.getElem?_replicate]; split <;> rfl)
theorem small_replicate (k : Nat) : Small (List.replicate k 0) := fun i => by
  have : nth (List.replicate k 0) i = 0 := by unfold nth; simp [List.getD_eq_getElem?_getD, List.getElem?_replicate]; split <;> rfl
  rw [this]; exact BB_pos
structure MulIn (xs ys L : List Nat) (i k c : Nat) : Prop where
  small : Small L
  carry : c < BB
  len : L.length = xs.length + ys.length + 1
  val : bval L + BB ^ (i + k) * c = bval (xs.take i) * bval ys + BB ^ i * (nth xs i * bval (ys.take k))
structure MulOut (xs ys L : List Nat) (i : Nat) : Prop where
  small : Small L
  len : L.length = xs.length + ys.length + 1
  val : bval L = bval (xs.take i) * bval ys
theorem MulOut.start (xs ys : List Nat) : MulOut xs ys (List.replicate (xs.length + ys.length + 1) 0) 0 :=
  ⟨small_replicate _, by simp, by rw [bval_replicate]; simp [bval]⟩
theorem MulOut.inner {xs ys L : List Nat} {i : Nat} (h : MulOut xs ys L i) : MulIn xs ys L i 0 0 :=
  ⟨h.small, BB_pos, h.len, by rw [h.val]; simp [bval]⟩
theorem mul_p_bound {l c x y : Nat} (h1 : l < BB) (h2 : c < BB) (h3 : x < BB) (h4 : y < BB) : l + c + x * y < 1000000000 * 1000000000 := by
  rw [BB_val] at *
  have : x * y ≤ 999999999 * 999999999 := Nat.mul_le_mul (by omega) (by omega)
  omega
theorem MulIn.step {xs ys L : List Nat} {i k c : Nat} (h : MulIn xs ys L i k c) (hx : Small xs) (hy : Small ys) (hi : i < xs.length) (hk : k < ys.length + 1) :
    MulIn xs ys (L.set (i + k) ((nth L (i + k) + c + nth xs i * nth ys k) % 1000000000)) i (k + 1) ((nth L (i + k) + c + nth xs i * nth ys k) / 1000000000) := by
  have hb := mul_p_bound (h.small (i + k)) h.carry (hx i) (hy k)
  have hlt : i + k < L.length := by rw [h.len]; omega
  have hset := bval_set L (i + k) ((nth L (i + k) + c + nth xs i * nth ys k) % 1000000000) hlt
  have hval := h.val
  have htk := bval_take_succ ys k
  generalize hp : nth L (i + k) + c + nth xs i * nth ys k = p at *
  have hp2 : BB ^ (i + k) * nth L (i + k) + BB ^ (i + k) * c + BB ^ (i + k) * (nth xs i * nth ys k) = BB ^ (i + k) * p := by rw [← hp, Nat.mul_add, Nat.mul_add]
  have hp3 : BB ^ (i + k) * p = BB ^ (i + k) * (p % 1000000000) + BB ^ (i + k) * BB * (p / 1000000000) := by
    rw [Nat.mul_assoc, ← Nat.mul_add, BB_val, Nat.mod_add_div]
  refine ⟨small_set h.small _ _ (by rw [BB_val]; exact Nat.mod_lt _ (by omega)), by rw [BB_val]; omega, by simp [h.len], ?_⟩
  rw [htk, Nat.mul_add, Nat.mul_add, show i + (k + 1) = i + k + 1 by omega, Nat.pow_succ BB (i + k)]
  have e : BB ^ i * (nth xs i * (BB ^ k * nth ys k)) = BB ^ (i + k) * (nth xs i * nth ys k) := by
    rw [Nat.pow_add, Nat.mul_left_comm (nth xs i), Nat.mul_assoc]
  rw [e]
  omega
theorem MulIn.done {xs ys L : List Nat} {i c : Nat} (h : MulIn xs ys L i (ys.length + 1) c) (hx : Small xs) (hy : Small ys) (hi : i < xs.length) : MulOut xs ys L (i + 1) := by
  refine ⟨h.small, h.len, ?_⟩
  have hval := h.val
  rw [take_all (by omega : ys.length ≤ ys.length + 1)] at hval
  have e : bval (xs.take i) * bval ys + BB ^ i * (nth xs i * bval ys) = bval (xs.take (i + 1)) * bval ys := by
    rw [bval_take_succ, Nat.add_mul, Nat.mul_assoc]
  rw [e] at hval
  have h1 : bval (xs.take (i + 1)) < BB ^ (i + 1) := by
    have := bval_lt (small_take hx (i + 1)); rw [List.length_take, Nat.min_eq_left (by omega)] at this; exact this
  have h2 := bval_lt hy
  have h3 : bval (xs.take (i + 1)) * bval ys < BB ^ (i + 1) * BB ^ ys.length := by
    have h4 : bval (xs.take (i + 1)) * bval ys ≤ bval (xs.take (i + 1)) * BB ^ ys.length := Nat.mul_le_mul_left _ (by omega)
    have h5 : bval (xs.take (i + 1)) * BB ^ ys.length < BB ^ (i + 1) * BB ^ ys.length := Nat.mul_lt_mul_of_pos_right h1 (Nat.pow_pos BB_pos)
    omega
  rw [← Nat.pow_add, show i + 1 + ys.length = i + (ys.length + 1) by omega] at h3
  rcases Nat.eq_zero_or_pos c with h0 | h0
  · subst h0; rw [Nat.mul_zero, Nat.add_zero] at hval; exact hval
  · have : BB ^ (i + (ys.length + 1)) * 1 ≤ BB ^ (i + (ys.length + 1)) * c := Nat.mul_le_mul_left _ h0
    omega
theorem MulOut.done {xs ys L : List Nat} (h : MulOut xs ys L xs.length) : bval L = bval xs * bval ys := by rw [h.val, List.take_length]
theorem Own.set {w : World} {B : Nat} {e : TypeId} {k : IntKind} {g n cap : Nat} {L : List Nat} (h : Own w B e k (.slice (some ⟨g, 0, none⟩) n cap) L) (hn : L.length = n) (j v : Nat) :
    Own (w.setCell ⟨g, j, none⟩ (.int k (v : Int))) B e k (.slice (some ⟨g, 0, none⟩) n cap) (L.set j v) := by
  subst hn
  have := (World.ownsRow.stored h j (.int k (v : Int))).1
  have e1 : (vals k L).set j (.int k (v : Int)) = vals k (L.set j v) := by unfold vals; rw [List.map_set]
  rw [e1] at this
  unfold Own
  rw [List.length_set]; exact this
theorem Own.base {w : World} {B : Nat} {e : TypeId} {k : IntKind} {g n cap : Nat} {off : Nat} {L : List Nat} (h : Own w B e k (.slice (some ⟨g, off, none⟩) n cap) L) : B ≤ g ∧ g < w.heap.size := by
  have := World.ownsRow.lt h g (by simp [Value.ownBlock])
  exact this
theorem Own.cell {w : World} {B : Nat} {e : TypeId} {k : IntKind} {g n cap : Nat} {L : List Nat} (h : Own w B e k (.slice (some ⟨g, 0, none⟩) n cap) L) (hn : L.length = n) (j : Nat) (hj : j < n) : w.cell? ⟨g, j, none⟩ = some (.int k ((nth L j : Nat) : Int)) := by
  subst hn
  rw [World.ownsRow.cellAt h j (by omega), vals_get k L j hj]
theorem Own.free {w : World} {B : Nat} {e : TypeId} {k : IntKind} {g n cap : Nat} {L : List Nat} (h : Own w B e k (.slice (some ⟨g, 0, none⟩) n cap) L) (hn : L.length = n) (j : Nat) : w.frozen? ⟨g, j, none⟩ = false := by
  subst hn; exact World.ownsRow.frozenAt h j
theorem vals_replicate (k : IntKind) (n : Nat) : vals k (List.replicate n 0) = List.replicate n (.int k 0) := by simp [vals]
end Go.Proofs.YtjekapjbigfkbaaGreatDoor
namespace Go.Proofs.YtjekapjbigfkbaaGreatDoor
open Go Go.RowKit
set_option maxRecDepth 100000
set_option maxRecDepth 100000 in
set_option maxHeartbeats 2000000 in
theorem mul_any (s t : ByteArray) (w : World) (hs : s.size ≤ maxLen) (ht : t.size ≤ maxLen) (htab : Tab w) :
    Calls Tryz.prog 71 #[.string s, .string t] w (PairEnd (mulF s t) w) := by
  have HT := Lib.hid htab; clear htab
  have c1 := vld_any s w hs
  have c2 := vld_any t w ht
  clear hs ht
  cases h1 : vld s with
  | false =>
    have hr : mulF s t = (str [], 1) := by unfold mulF; rw [h1]; rfl
    rw [hr]; rw [h1] at c1; clear hr h1 c2 HT
    have C1 := Lib.hid c1; clear c1
    go_enter Tryz.func71, Tryz.ntmps71
    go_wp2_with fail
    refine C1.out.mono ?_
    rintro e w' ⟨rfl, rfl⟩
    go_wp2
    go_ret2
    exact ⟨rfl, Below.refl _ _⟩
  | true =>
    cases h2 : vld t with
    | false =>
      have hr : mulF s t = (str [], 1) := by unfold mulF; rw [h1, h2]; rfl
      rw [hr]; rw [h1] at c1; rw [h2] at c2; clear hr h1 h2 HT
      have C1 := Lib.hid c1; clear c1
      have C2 := Lib.hid c2; clear c2
      go_enter Tryz.func71, Tryz.ntmps71
      go_wp2_with fail
      refine C1.out.mono ?_
      rintro e w' ⟨rfl, rfl⟩
      go_wp2_with fail
      refine C2.out.mono ?_
      rintro e w' ⟨rfl, rfl⟩
      go_wp2
      go_ret2
      exact ⟨rfl, Below.refl _ _⟩
    | true =>
      rw [h1] at c1; rw [h2] at c2
      have C1 := Lib.hid c1; clear c1
      have C2 := Lib.hid c2; clear c2
      have lm := toB_len_val h1
      have ln := toB_len_val h2
      have b1 := blk_any s w h1
      have B1 := Lib.hid b1; clear b1
      have b2 := fun w => blk_any t w h2
      have B2 := Lib.hid b2; clear b2
      have H1 := Lib.hid h1; clear h1
      have H2 := Lib.hid h2; clear h2
      have hr : mulF s t = limS (val s * val t) := by unfold mulF; rw [H1.out, H2.out]; rfl
      rw [hr]; clear hr
      go_enter Tryz.func71, Tryz.ntmps71
      go_wp2_with fail
      refine C1.out.mono ?_
      rintro e w' ⟨rfl, rfl⟩
      go_wp2_with fail
      refine C2.out.mono ?_
      rintro e w' ⟨rfl, rfl⟩
      go_wp2_with fail
      refine B1.out.mono ?_
      rintro e w1 ⟨v1, rfl, ho1, hb1⟩
      have HO1 := Lib.hid ho1; clear ho1
      have HB1 := Lib.hid hb1; clear hb1
      have hz1 := HB1.out.size
      go_wp2_with fail
      refine (B2.out w1).mono ?_
      rintro e w2 ⟨v2, rfl, ho2, hb2⟩
      have HO2 := Lib.hid ho2; clear ho2
      have HB2 := Lib.hid hb2; clear hb2
      have hz2 := HB2.out.size
      have HS1 := Lib.hid (HO1.out.sl.below HB2.out (Nat.le_refl _))
      obtain ⟨i0, ih0, iz0, iz1, iz2⟩ := info_parts info_u64
      have hms := fun x => small_toB (val s) x
      have hsx : Small (toB (val s)) := small_toB _
      have hsy : Small (toB (val t)) := small_toB _
      obtain ⟨xs, hxs⟩ : ∃ xs, xs = toB (val s) := ⟨_, rfl⟩
      obtain ⟨ys, hys⟩ : ∃ ys, ys = toB (val t) := ⟨_, rfl⟩
      rw [← hxs] at HS1 lm hsx
      rw [← hys] at HO2 ln hsy
      have HX := Lib.hid hxs; clear hxs
      have HY := Lib.hid hys; clear hys
      have HSX := Lib.hid hsx; clear hsx
      have HSY := Lib.hid hsy; clear hsy
      clear hms HO1
      obtain ⟨ax, cx, bx, ox, rfl, hax, hcx1, hcx2, hbx, hcellx⟩ := HS1.out.open
      obtain ⟨ay, cy, by', oy, rfl, hay, hcy1, hcy2, hby, hcelly⟩ := HO2.out.sl.open
      unfold maxLen at hcx2 hcy2
      have HCX := Lib.hid hcellx; clear hcellx
      have HCY := Lib.hid hcelly; clear hcelly
      have HAX := Lib.hid hax; clear hax
      have HAY := Lib.hid hay; clear hay
      have HBX := Lib.hid hbx; clear hbx
      have HBY := Lib.hid hby; clear hby
      obtain ⟨wm, hmk, hown, hgr⟩ := run_make_full w2 w.heap.size 151 153 i0 (.int .u64 0) 1 Tryz.underlying151 ih0 iz0 iz1 .i64 .i64 (xs.length + ys.length + 1) (by rw [iz2]; omega) (by unfold maxLen; omega) (by omega)
      rw [show ((xs.length + ys.length + 1 : Nat) : Int) = (xs.length : Int) + (ys.length : Int) + 1 by omega] at hmk
      have hbm : Below w.heap.size w wm := HB1.out.trans ((HB2.out.mono hz1).trans ((Below.refl _ _).grown hgr (by omega) (by simp)))
      have hbm2 : Below w2.heap.size w2 wm := (Below.refl _ _).grown hgr (Nat.le_refl _) (by simp)
      have hL0 : Own wm w.heap.size 153 .u64 (.slice (some ⟨w2.heap.size, 0, none⟩) (xs.length + ys.length + 1) (xs.length + ys.length + 1)) (List.replicate (xs.length + ys.length + 1) 0) := by
        unfold Own
        rw [vals_replicate, List.length_replicate]
        have := hown
        rw [Nat.mul_one, show (Value.int .u64 0).cells = #[Value.int .u64 0] from rfl, toList_madeCells_one] at this
        exact this
      have HM := Lib.hid hbm; clear hbm
      have HM2 := Lib.hid hbm2; clear hbm2
      have HL0 := Lib.hid hL0; clear hL0 hown hgr
      go_wp2
      clear hmk
      go_loopw [34] (fun i wr => ∃ (k : Nat) (L : List Nat), k ≤ xs.length ∧ i = .int .i64 k ∧ MulOut xs ys L k ∧ Own wr w.heap.size 153 .u64 (.slice (some ⟨w2.heap.size, 0, none⟩) (xs.length + ys.length + 1) (xs.length + ys.length + 1)) L ∧ Below w.heap.size w wr ∧ Below w2.heap.size w2 wr)
        (fun i _ => xs.length - (intOf i).toNat)
      case atStart => exact ⟨0, _, Nat.zero_le _, rfl, MulOut.start xs ys, HL0.out, HM.out, HM2.out⟩
      case round =>
        obtain ⟨i, L, hi1, rfl, hmo, hown, hbw, hbw2⟩ := hrel
        have HMO := Lib.hid hmo; clear hmo
        have HO := Lib.hid hown; clear hown
        have HBW := Lib.hid hbw; clear hbw
        have HBW2 := Lib.hid hbw2; clear hbw2
        obtain ⟨wo, rfl⟩ : ∃ wo : World, wo = wr := ⟨_, rfl⟩
        by_cases hlt : i < xs.length
        · obtain rfl := HAX.out (by omega)
          have hbx := HBX.out (by omega)
          go_wp2
          go_loopw [10, 40] (fun c q wr => ∃ (k cc : Nat) (L : List Nat), k ≤ ys.length + 1 ∧ q = .int .i64 k ∧ c = .int .u64 cc ∧ MulIn xs ys L i k cc ∧ Own wr w.heap.size 153 .u64 (.slice (some ⟨w2.heap.size, 0, none⟩) (xs.length + ys.length + 1) (xs.length + ys.length + 1)) L ∧ Below w.heap.size w wr ∧ Below w2.heap.size w2 wr)
            (fun _ q _ => ys.length + 1 - (intOf q).toNat)
          case atStart => exact ⟨0, 0, L, Nat.zero_le _, rfl, rfl, HMO.out.inner, HO.out, HBW.out, HBW2.out⟩
          case round =>
            obtain ⟨k, cc, L', hk1, rfl, rfl, hmi, hown, hbw, hbw2⟩ := hrel
            have HMI := Lib.hid hmi; clear hmi
            have HO' := Lib.hid hown; clear hown
            have HBW' := Lib.hid hbw; clear hbw
            have HBW2' := Lib.hid hbw2; clear hbw2
            by_cases hlt2 : k < ys.length + 1
            · have hstep := HMI.out.step HSX.out HSY.out hlt hlt2
              have hlen := HMI.out.len
              have HST := Lib.hid hstep; clear hstep
              have cl := HO'.out.cell hlen (i + k) (by omega)
              have fl := HO'.out.free hlen (i + k)
              have hpb := mul_p_bound (HMI.out.small (i + k)) HMI.out.carry (HSX.out i) (HSY.out k)
              have HLEN := Lib.hid hlen; clear hlen
              rcases Nat.lt_or_ge k ys.length with hky | hky
              · obtain rfl := HAY.out (by omega)
                have hby := HBY.out (by omega)
                have c1 := (HBW2'.out.cell (p := ⟨bx, ox + i, none⟩) hbx).trans (HCX.out i hlt)
                have c2 := (HBW2'.out.cell (p := ⟨by', oy + k, none⟩) hby).trans (HCY.out k hky)
                have hmul : (((nth xs i : Nat) : Int) * ((nth ys k : Nat) : Int)) = ((nth xs i * nth ys k : Nat) : Int) := by simp
                have hpb2 : ((nth xs i : Nat) : Int) * ((nth ys k : Nat) : Int) ≤ 999999998000000001 := by
                  have h1 := HSX.out i
                  have h2 := HSY.out k
                  rw [BB_val] at h1 h2
                  have : nth xs i * nth ys k ≤ 999999999 * 999999999 := Nat.mul_le_mul (by omega) (by omega)
                  rw [hmul]; omega
                have hl9 : nth L' (i + k) ≤ 999999999 := by have := HMI.out.small (i + k); rw [BB_val] at this; omega
                have hc9 : cc ≤ 999999999 := by have := HMI.out.carry; rw [BB_val] at this; omega
                have hpb3 : 0 ≤ ((nth xs i : Nat) : Int) * ((nth ys k : Nat) : Int) := by rw [hmul]; omega
                have HMU := Lib.hid hmul; clear hmul hpb
                go_wp2_with fail
                go_quiet (fail)
                go_wp2
                go_roundw
                case rel =>
                  have em : ((nth L' (i + k) : Nat) : Int) + (cc : Int) + ((nth xs i : Nat) : Int) * ((nth ys k : Nat) : Int) = ((nth L' (i + k) + cc + nth xs i * nth ys k : Nat) : Int) := by rw [HMU.out]; omega
                  rw [em]
                  have ho := (HO'.out.kept (below_drewN (Below.refl _ wr) nq) (Nat.le_refl _)).set HLEN.out (i + k) ((nth L' (i + k) + cc + nth xs i * nth ys k) % 1000000000)
                  exact ⟨k + 1, _, _, by omega, by go_num, by go_num, HST.out, ho, (below_drewN HBW'.out nq).setCell HO'.out.base.1 _, (below_drewN HBW2'.out nq).setCell (Nat.le_refl _) _⟩
                case measure => simp [intOf]; omega
              · have hz : nth ys k = 0 := nth_out ys k hky
                have HST' := HST.out
                rw [hz, Nat.mul_zero, Nat.add_zero] at HST'
                rw [hz, Nat.mul_zero, Nat.add_zero] at hpb
                have HS2 := Lib.hid HST'; clear HST' hz HST
                go_wp2
                go_roundw
                case rel =>
                  have ho := HO'.out.set HLEN.out (i + k) ((nth L' (i + k) + cc) % 1000000000)
                  exact ⟨k + 1, _, _, by omega, by go_num, by go_num, HS2.out, ho, HBW'.out.setCell HO'.out.base.1 _, HBW2'.out.setCell (Nat.le_refl _) _⟩
                case measure => simp [intOf]; omega
            · have hkk : k = ys.length + 1 := by omega
              have HKK := Lib.hid hkk; clear hkk
              go_wp2
              go_roundw
              case rel =>
                have h1 := HMI.out
                rw [HKK.out] at h1
                exact ⟨i + 1, L', by omega, by go_num, h1.done HSX.out HSY.out hlt, HO'.out, HBW'.out, HBW2'.out⟩
              case measure => simp [intOf]; omega
        · have hii : i = xs.length := by omega
          have HII := Lib.hid hii; clear hii
          have hmo := HMO.out
          rw [HII.out] at hmo
          have hsz := HBW.out.size
          have htr := trim_any (some ⟨w2.heap.size, 0, none⟩) (xs.length + ys.length + 1) L wo (by rw [hmo.len]; exact HO.out.sl)
          rw [hmo.len] at htr
          have HMO' := Lib.hid hmo; clear hmo
          go_wp2_with fail
          refine htr.mono ?_
          rintro e w4 ⟨kk, hk, rfl, rfl⟩
          have HK := Lib.hid hk; clear hk
          have hb := HMO'.out.done
          have hprod : (toB (val s * val t)) = L.take kk := by
            rw [trimmed_toB HMO'.out.small HK.out.1 HK.out.2.1 HK.out.2.2, hb, HX.out, HY.out, bval_toB, bval_toB]
          have hkl : kk ≤ xs.length + ys.length + 1 := by have := HK.out.1; rw [HMO'.out.len] at this; exact this
          have hsl : Sl wo .u64 (.slice (some ⟨w2.heap.size, 0, none⟩) kk (xs.length + ys.length + 1)) (toB (val s * val t)) := by
            rw [hprod]; exact HO.out.sl.take (by rw [HMO'.out.len]; exact hkl)
          have hll : (toB (val s * val t)).length ≤ 100000 := by rw [hprod, List.length_take]; omega
          have hlim := limited_any _ (val s * val t) wo hsl hll (HT.out.below HBW.out (Nat.le_refl _))
          have HLM := Lib.hid hlim; clear hlim hsl hll hprod hb
          go_wp2_with fail
          refine HLM.out.mono ?_
          rintro e w5 ⟨rfl, hb5⟩
          have HB5 := Lib.hid hb5; clear hb5
          go_wp2
          go_ret2
          exact ⟨rfl, HBW.out.trans (HB5.out.mono hsz)⟩
end Go.Proofs.YtjekapjbigfkbaaGreatDoor
