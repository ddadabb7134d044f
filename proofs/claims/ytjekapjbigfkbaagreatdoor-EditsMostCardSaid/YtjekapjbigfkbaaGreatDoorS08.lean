/- Parts of a proof: ME. -/
import Derived.Test.YtjekapjbigfkbaaGreatDoorS07
import Derived.RegionTactic
import Derived.BigRegion
namespace Go.Proofs.YtjekapjbigfkbaaGreatDoor
open Go Go.RowKit
set_option maxRecDepth 100000
theorem bval_drop (xs : List Nat) (a : Nat) (h : a < xs.length) : bval (xs.drop a) = nth xs a + BB * bval (xs.drop (a + 1)) := by
  rw [List.drop_eq_getElem_cons h]; simp only [bval]; rw [nth_get xs a h]
theorem small_drop {xs : List Nat} (h : Small xs) (k : Nat) : Small (xs.drop k) := fun i => by rw [nth_drop]; exact h _
theorem nth_of_take {L L0 : List Nat} {k a : Nat} (h : L.take k = L0.take k) (ha : a < k) : nth L a = nth L0 a := by
  rw [← nth_take L k a ha, h, nth_take _ _ _ ha]
structure DvInv (L0 vs L qs : List Nat) (n a : Nat) : Prop where
  len : L.length = L0.length
  ql : qs.length + n = L0.length
  ale : a ≤ qs.length
  small : Small L
  sq : Small qs
  low : L.take a = L0.take a
  rem : bval (L.drop a) < bval vs
  val : bval (L0.drop a) = bval (qs.drop a) * bval vs + bval (L.drop a)
structure Div0 (L0 vs : List Nat) (n : Nat) : Prop where
  s0 : Small L0
  sv : Small vs
  n1 : 1 ≤ n
  lv : vs.length = n
  v1 : 1 ≤ nth vs (n - 1)
theorem DvInv.start {L0 vs : List Nat} {n : Nat} (h : Div0 L0 vs n) (hn : n ≤ L0.length) (hr : bval (L0.drop (L0.length - n)) < bval vs) :
    DvInv L0 vs L0 (List.replicate (L0.length - n) 0) n (L0.length - n) := by
  refine ⟨rfl, by simp; omega, by simp, h.s0, small_replicate _, rfl, hr, ?_⟩
  have e : (List.replicate (L0.length - n) 0).drop (L0.length - n) = [] := List.drop_of_length_le (by simp)
  rw [e]; simp [bval]
theorem DvInv.cut (L : List Nat) (n a : Nat) : L = L.take a ++ (L.drop a).take (n + 1) ++ L.drop (a + (n + 1)) := by
  rw [List.append_assoc, show L.drop (a + (n + 1)) = (L.drop a).drop (n + 1) by rw [List.drop_drop], List.take_append_drop, List.take_append_drop]
theorem DvInv.seg_len {L0 vs L qs : List Nat} {n a : Nat} (h : DvInv L0 vs L qs n (a + 1)) : ((L.drop a).take (n + 1)).length = n + 1 ∧ (L.take a).length = a := by
  have := h.len; have := h.ql; have := h.ale
  rw [List.length_take, List.length_drop, List.length_take]; omega
theorem DvInv.top {L0 vs L qs : List Nat} {n a : Nat} (h : DvInv L0 vs L qs n (a + 1)) : bval (L.drop a) < bval vs * BB := by
  have := h.len; have := h.ql; have := h.ale
  rw [bval_drop L a (by omega)]
  have h1 := h.small a
  have h2 : BB * (bval (L.drop (a + 1)) + 1) ≤ BB * bval vs := Nat.mul_le_mul_left _ h.rem
  rw [Nat.mul_add, Nat.mul_comm BB (bval vs)] at h2
  omega
theorem DvInv.high {L0 vs L qs : List Nat} {n a : Nat} (h0 : Div0 L0 vs n) (h : DvInv L0 vs L qs n (a + 1)) : bval (L.drop a) = bval ((L.drop a).take (n + 1)) ∧ bval (L.drop (a + (n + 1))) = 0 := by
  have hs := bval_append ((L.drop a).take (n + 1)) ((L.drop a).drop (n + 1))
  rw [List.take_append_drop, List.drop_drop, h.seg_len.1] at hs
  have ht := h.top
  have hv := bval_lt h0.sv
  rw [h0.lv] at hv
  have h1 : bval vs * BB < BB ^ (n + 1) := by rw [Nat.pow_succ]; exact Nat.mul_lt_mul_of_pos_right hv BB_pos
  rcases Nat.eq_zero_or_pos (bval (L.drop (a + (n + 1)))) with h2 | h2
  · rw [h2, Nat.mul_zero, Nat.add_zero] at hs; exact ⟨hs, h2⟩
  · have : BB ^ (n + 1) * 1 ≤ BB ^ (n + 1) * bval (L.drop (a + (n + 1))) := Nat.mul_le_mul_left _ h2
    omega
theorem DvInv.divIn {L0 vs L qs : List Nat} {n a : Nat} (h0 : Div0 L0 vs n) (h : DvInv L0 vs L qs n (a + 1)) : DivIn ((L.drop a).take (n + 1)) vs n :=
  ⟨small_take (small_drop h.small a) _, h0.sv, h0.n1, h.seg_len.1, h0.lv, h0.v1, by rw [← (h.high h0).1]; exact h.top⟩
theorem DvInv.step {L0 vs L qs us' : List Nat} {n a : Nat} (h0 : Div0 L0 vs n) (h : DvInv L0 vs L qs n (a + 1)) (hl : us'.length = n + 1) (hs : Small us')
    (hm : bval us' = bval ((L.drop a).take (n + 1)) % bval vs) :
    DvInv L0 vs (L.take a ++ us' ++ L.drop (a + (n + 1))) (qs.set a (bval ((L.drop a).take (n + 1)) / bval vs)) n a := by
  have hd := h.divIn h0
  have hh := h.high h0
  have hsl := h.seg_len
  have e1 := h.len; have e2 := h.ql; have e3 := h.ale
  have hdrop : (L.take a ++ us' ++ L.drop (a + (n + 1))).drop a = us' ++ L.drop (a + (n + 1)) := by
    rw [List.append_assoc]
    have := List.drop_left (l₁ := L.take a) (l₂ := us' ++ L.drop (a + (n + 1)))
    rwa [hsl.2] at this
  have hv : bval ((L.take a ++ us' ++ L.drop (a + (n + 1))).drop a) = bval us' := by rw [hdrop, bval_append, hh.2]; simp
  have hq : (qs.set a (bval ((L.drop a).take (n + 1)) / bval vs)).drop a = (bval ((L.drop a).take (n + 1)) / bval vs) :: qs.drop (a + 1) := by
    rw [List.drop_eq_getElem_cons (by simp; omega), List.drop_set, if_pos (by omega)]
    simp
  refine ⟨by simp [hl]; omega, by simp; omega, by simp; omega, ?_, small_set h.sq _ _ hd.qlt, ?_, ?_, ?_⟩
  · intro i
    by_cases h1 : i < a
    · rw [List.append_assoc, nth_append_left _ _ _ (by omega)]; exact small_take h.small a i
    · rw [List.append_assoc, nth_append_right _ _ _ (by omega)]
      by_cases h2 : i - (L.take a).length < us'.length
      · rw [nth_append_left _ _ _ h2]; exact hs _
      · rw [nth_append_right _ _ _ (by omega)]; exact small_drop h.small _ _
  · have e : (L.take a ++ us' ++ L.drop (a + (n + 1))).take a = L.take a := by
      rw [List.append_assoc]
      have := List.take_left (l₁ := L.take a) (l₂ := us' ++ L.drop (a + (n + 1)))
      rwa [hsl.2] at this
    rw [e]
    have := congrArg (List.take a) h.low
    rw [List.take_take, List.take_take, Nat.min_eq_left (by omega)] at this
    exact this
  · rw [hv, hm]; exact Nat.mod_lt _ hd.vpos'
  · rw [hv, hq, bval_drop L0 a (by omega), h.val]
    simp only [bval]
    have h1 := bval_drop L a (by omega)
    rw [hh.1] at h1
    have h2 : nth L a = nth L0 a := nth_of_take h.low (by omega)
    have h3 := Nat.div_add_mod (bval ((L.drop a).take (n + 1))) (bval vs)
    rw [← hm] at h3
    generalize bval ((L.drop a).take (n + 1)) / bval vs = qd at *
    generalize bval ((L.drop a).take (n + 1)) = U at *
    rw [Nat.mul_comm (bval vs) qd] at h3
    rw [Nat.add_mul, Nat.mul_add, ← Nat.mul_assoc]
    omega
theorem DvInv.done {L0 vs L qs : List Nat} {n : Nat} (h : DvInv L0 vs L qs n 0) : bval qs = bval L0 / bval vs ∧ bval L = bval L0 % bval vs := by
  have hv := h.val
  have hr := h.rem
  simp only [List.drop_zero] at hv hr
  rw [hv, Nat.add_comm, Nat.mul_comm]
  exact ⟨by rw [Nat.add_mul_div_left _ _ (by omega), Nat.div_eq_of_lt hr, Nat.zero_add], by rw [Nat.add_mul_mod_self_left, Nat.mod_eq_of_lt hr]⟩
structure DnInv (r0 L : List Nat) (k a lf : Nat) : Prop where
  len : L.length = r0.length
  ale : a ≤ r0.length
  small : Small L
  left : lf < k
  low : L.take a = r0.take a
  val : bval (r0.drop a) = k * bval (L.drop a) + lf
theorem DnInv.start {r0 : List Nat} {k : Nat} (hk : 1 ≤ k) (hs : Small r0) : DnInv r0 r0 k r0.length 0 :=
  ⟨rfl, Nat.le_refl _, hs, hk, rfl, by rw [List.drop_length]; simp [bval]⟩
theorem DnInv.bound {r0 L : List Nat} {k a lf : Nat} (h : DnInv r0 L k (a + 1) lf) (hs : Small r0) : lf * 1000000000 + nth r0 a < k * 1000000000 := by
  have h1 := hs a
  have h2 := h.left
  rw [BB_val] at h1
  have : (lf + 1) * 1000000000 ≤ k * 1000000000 := Nat.mul_le_mul_right _ h2
  omega
theorem DnInv.step {r0 L : List Nat} {k a lf : Nat} (h : DnInv r0 L k (a + 1) lf) (hk1 : 1 ≤ k) (hs : Small r0) :
    DnInv r0 (L.set a ((lf * 1000000000 + nth r0 a) / k)) k a ((lf * 1000000000 + nth r0 a) % k) := by
  have hb := h.bound hs
  have e1 := h.len; have e2 := h.ale
  have hx : (lf * 1000000000 + nth r0 a) / k < BB := by
    rw [BB_val]; exact Nat.div_lt_of_lt_mul hb
  refine ⟨by simp; exact e1, by omega, small_set h.small _ _ hx, Nat.mod_lt _ hk1, ?_, ?_⟩
  · rw [take_set]
    have := congrArg (List.take a) h.low
    rw [List.take_take, List.take_take, Nat.min_eq_left (by omega)] at this
    exact this
  · have hq : (L.set a ((lf * 1000000000 + nth r0 a) / k)).drop a = ((lf * 1000000000 + nth r0 a) / k) :: L.drop (a + 1) := by
      rw [List.drop_eq_getElem_cons (by simp; omega), List.drop_set, if_pos (by omega)]
      simp
    rw [hq, bval_drop r0 a (by omega), h.val]
    simp only [bval]
    have h3 := Nat.div_add_mod (lf * 1000000000 + nth r0 a) k
    generalize (lf * 1000000000 + nth r0 a) / k = qd at *
    rw [Nat.mul_add, Nat.mul_add, Nat.mul_left_comm BB k]
    have : BB * lf = lf * 1000000000 := by rw [BB_val, Nat.mul_comm]
    omega
theorem DnInv.done {r0 L : List Nat} {k lf : Nat} (h : DnInv r0 L k 0 lf) : bval L = bval r0 / k := by
  have hv := h.val
  simp only [List.drop_zero] at hv
  rw [hv, Nat.add_comm, Nat.add_mul_div_left _ _ (Nat.lt_of_le_of_lt (Nat.zero_le _) h.left), Nat.div_eq_of_lt h.left, Nat.zero_add]
theorem factor_fits {d : Nat} (hd : d ≠ 0) {k : Nat} (hk : k = 1000000000 / (nth (toB d) ((toB d).length - 1) + 1)) :
    1 ≤ k ∧ k < BB ∧ (toB (d * k)).length = (toB d).length := by
  have hn := toB_ne hd
  have ht := small_toB d ((toB d).length - 1)
  have ht0 := toB_top hd
  have h1 := bval_top1 (xs := toB d) rfl hn
  rw [bval_toB] at h1
  have h2 := take_lt (small_toB d) ((toB d).length - 1) (by omega)
  generalize hx : nth (toB d) ((toB d).length - 1) = x at *
  have hk1 : 1 ≤ k := by rw [hk, Nat.le_div_iff_mul_le (by omega)]; rw [BB_val] at ht; omega
  have hkx : k * (x + 1) ≤ BB := by rw [hk, BB_val]; exact Nat.div_mul_le_self _ _
  have hkb : k < BB := by
    have : k * 2 ≤ k * (x + 1) := Nat.mul_le_mul_left _ (by omega)
    omega
  refine ⟨hk1, hkb, ?_⟩
  apply Nat.le_antisymm
  · apply toB_len_le
    have h3 : d < BB ^ ((toB d).length - 1) * (x + 1) := by rw [Nat.mul_add]; omega
    have h4 : d * k < BB ^ ((toB d).length - 1) * (x + 1) * k := Nat.mul_lt_mul_of_pos_right h3 hk1
    have h5 : BB ^ ((toB d).length - 1) * ((x + 1) * k) ≤ BB ^ ((toB d).length - 1) * BB := Nat.mul_le_mul_left _ (by rw [Nat.mul_comm]; exact hkx)
    rw [← Nat.mul_assoc, ← pow_pred hn] at h5
    omega
  · exact toB_len_mono (by have : d * 1 ≤ d * k := Nat.mul_le_mul_left _ hk1
                           omega)
theorem pad_len {m k : Nat} (hk : k < BB) (hk1 : 1 ≤ k) : (toB m).length ≤ (toB (m * k)).length ∧ (toB (m * k)).length ≤ (toB m).length + 1 := by
  refine ⟨toB_len_mono (by have : m * 1 ≤ m * k := Nat.mul_le_mul_left _ hk1
                           omega), toB_len_le ?_⟩
  have h1 := bval_lt (small_toB m)
  rw [bval_toB] at h1
  rw [Nat.pow_succ]
  exact Nat.mul_lt_mul_of_lt_of_le h1 (by omega) BB_pos
theorem bval_snoc_zero (xs : List Nat) : bval (xs ++ [0]) = bval xs := by rw [bval_snoc]; simp
theorem bval_drop_eq (xs : List Nat) (j : Nat) (h : Small xs) : bval (xs.drop j) = bval xs / BB ^ j := by
  by_cases hj : j ≤ xs.length
  · have := bval_append (xs.take j) (xs.drop j)
    rw [List.take_append_drop, List.length_take, Nat.min_eq_left hj] at this
    rw [this, Nat.add_mul_div_left _ _ (Nat.pow_pos BB_pos), Nat.div_eq_of_lt (take_lt h j hj), Nat.zero_add]
  · rw [List.drop_of_length_le (by omega), Nat.div_eq_of_lt]
    · rfl
    · exact Nat.lt_of_lt_of_le (bval_lt h) (Nat.pow_le_pow_right BB_pos (by omega))
theorem first_rem {m d k : Nat} (hd : d ≠ 0) (hk1 : 1 ≤ k) (hle : (toB d).length ≤ (toB m).length) {L0 : List Nat} (hs : Small L0) (hv : bval L0 = m * k) (hl : L0.length = (toB m).length + 1) :
    bval (L0.drop (L0.length - (toB d).length)) < d * k := by
  rw [bval_drop_eq _ _ hs, hv, hl, Nat.div_lt_iff_lt_mul (Nat.pow_pos BB_pos)]
  have h1 := bval_lt (small_toB m)
  rw [bval_toB] at h1
  have h2 := toB_len_ge hd
  have hn := toB_ne hd
  have e : BB ^ (toB m).length = BB ^ ((toB d).length - 1) * BB ^ ((toB m).length + 1 - (toB d).length) := by rw [← Nat.pow_add]; congr 1; omega
  have h3 : BB ^ ((toB d).length - 1) * BB ^ ((toB m).length + 1 - (toB d).length) ≤ d * BB ^ ((toB m).length + 1 - (toB d).length) := Nat.mul_le_mul_right _ h2
  have h4 : m * k < d * BB ^ ((toB m).length + 1 - (toB d).length) * k := Nat.mul_lt_mul_of_pos_right (by omega) hk1
  rw [Nat.mul_right_comm] at h4
  exact h4
end Go.Proofs.YtjekapjbigfkbaaGreatDoor
namespace Go.Proofs.YtjekapjbigfkbaaGreatDoor
open Go Go.RowKit
set_option maxRecDepth 100000
def DivEnd (m d : Nat) (w : World) (e : Ending) (w' : World) : Prop :=
  ∃ vq vr, e = .returned (.tuple #[vq, vr]) ∧ Sl w' .u64 vq (toB (m / d)) ∧ Sl w' .u64 vr (toB (m % d)) ∧ Below w.heap.size w w'
theorem Own.keptBy {w w' : World} {B : Nat} {e : TypeId} {k : IntKind} {g n cap : Nat} {L : List Nat} {row : Option Nat} (h : Own w B e k (.slice (some ⟨g, 0, none⟩) n cap) L) (hg : w.grownBy w' row) (hne : some g ≠ row) : Own w' B e k (.slice (some ⟨g, 0, none⟩) n cap) L :=
  World.ownsRow.kept h hg (.inr (by simpa [Value.ownBlock] using hne))
theorem Own.some {w : World} {B : Nat} {e : TypeId} {k : IntKind} {v : Value} {L : List Nat} (h : Own w B e k v L) (hn : 1 ≤ L.length) : ∃ g cap, v = .slice (.some ⟨g, 0, none⟩) L.length cap ∧ B ≤ g ∧ g < w.heap.size ∧ L.length ≤ cap ∧ cap ≤ maxLen := by
  rcases h.2 with ⟨_, h0⟩ | ⟨g, cap, cur, hv, h1, hg, h2, h3, _⟩
  · omega
  · exact ⟨g, cap, hv, h1, (Array.getElem?_eq_some_iff.1 hg).1, h2, h3⟩
theorem divide_less (vx vy : Value) (m d : Nat) (w : World) (hx : Sl w .u64 vx (toB m)) (hy : Sl w .u64 vy (toB d)) (hlt : m < d) :
    Calls Tryz.prog 153 #[vx, vy] w (DivEnd m d w) := by
  have hcm := compare_any vx vy m d w hx hy
  unfold CmpEnd at hcm
  rw [cmpN_lt hlt] at hcm
  have HCM := Lib.hid hcm; clear hcm
  have HX := Lib.hid hx; clear hx hy
  have HLT := Lib.hid hlt; clear hlt
  go_enter Tryz.func153, Tryz.ntmps153
  go_wp2_with fail
  refine HCM.out.mono ?_
  rintro e w1 ⟨rfl, hb⟩
  have HB := Lib.hid hb; clear hb
  go_wp2_with fail
  go_ret2
  refine ⟨_, _, rfl, ?_, ?_, HB.out⟩
  · rw [Nat.div_eq_of_lt HLT.out]; exact Sl.nil _ _
  · rw [Nat.mod_eq_of_lt HLT.out]; exact HX.out.below HB.out (Nat.le_refl _)
set_option maxRecDepth 100000 in
set_option maxHeartbeats 4000000 in
theorem divide_ge (vx vy : Value) (m d : Nat) (w : World) (hx : Sl w .u64 vx (toB m)) (hy : Sl w .u64 vy (toB d)) (hd : d ≠ 0) (hle : d ≤ m) (lx : (toB m).length ≤ 50000) :
    Calls Tryz.prog 153 #[vx, vy] w (DivEnd m d w) := by
  have hcm := compare_any vx vy m d w hx hy
  unfold CmpEnd at hcm
  have hc0 : ∃ q : Int, cmpN m d = q ∧ 0 ≤ q := by
    rcases Nat.lt_or_ge d m with h | h
    · exact ⟨1, cmpN_gt h, by omega⟩
    · exact ⟨0, cmpN_eq (by omega), by omega⟩
  obtain ⟨q0, hq, hq0⟩ := hc0
  rw [hq] at hcm
  clear hq
  have hfac := factor_fits hd rfl
  obtain ⟨k, hk⟩ : ∃ k, k = 1000000000 / (nth (toB d) ((toB d).length - 1) + 1) := ⟨_, rfl⟩
  rw [← hk] at hfac
  obtain ⟨hk1, hkb, hvl⟩ := hfac
  have hdl := toB_ne hd
  have hml : (toB d).length ≤ (toB m).length := toB_len_mono hle
  have hpad := pad_len (m := m) hkb hk1
  have htop := small_toB d ((toB d).length - 1)
  rw [BB_val] at htop
  obtain ⟨ax, cx, rfl⟩ := hx.shape
  have HX := Lib.hid hx; clear hx
  have HY := Lib.hid hy
  obtain ⟨ay, cy, by', oy, rfl, hay, hcy1, hcy2, hby, hcelly⟩ := hy.open
  obtain rfl := hay hdl
  have hby' := hby hdl
  have cyl := hcelly ((toB d).length - 1) (by omega)
  have hltn : (((toB d).length : Int) - 1) < ((toB d).length : Int) := by omega
  have hn0 : 0 ≤ (((toB d).length : Int) - 1) := by omega
  unfold maxLen at hcy2
  have HCM := Lib.hid hcm; clear hcm
  have HK := Lib.hid hk; clear hk
  have HVL := Lib.hid hvl; clear hvl
  have HKB := Lib.hid hkb; clear hkb
  have HD := Lib.hid hd; clear hd
  clear hby hcelly hy
  go_enter Tryz.func153, Tryz.ntmps153
  go_wp2_with fail
  refine HCM.out.mono ?_
  rintro e w1 ⟨rfl, hb1⟩
  have cyl1 := (hb1.cell (p := ⟨by', oy + ((toB d).length - 1), none⟩) hby').trans cyl
  have HB1 := Lib.hid hb1; clear hb1
  have hz1 := HB1.out.size
  clear cyl
  go_wp2_with fail
  have ek : (1000000000 : Int) / (((nth (toB d) ((toB d).length - 1) : Nat) : Int) + 1) = (k : Int) := by rw [HK.out]; simp
  rw [ek]
  clear ek
  refine (scaled_any _ m k w1 HKB.out (HX.out.below HB1.out (Nat.le_refl _)) (by omega)).mono ?_
  rintro e w2 ⟨vu, rfl, hou, hb2⟩
  have HU := Lib.hid hou; clear hou
  have HB2 := Lib.hid hb2; clear hb2
  have hz2 := HB2.out.size
  go_wp2_with fail
  refine (scaled_any _ d k w2 HKB.out ((HY.out.below HB1.out (Nat.le_refl _)).below HB2.out (Nat.le_refl _)) (by omega)).mono ?_
  rintro e w3 ⟨vv, rfl, hov, hb3⟩
  have HB3 := Lib.hid hb3; clear hb3
  have hz3 := HB3.out.size
  have hu3 := (HU.out.kept HB3.out (Nat.le_refl _)).mono hz1
  obtain ⟨gv, cv, rfl, hgv1, hgv2, hcv1, hcv2⟩ := hov.some (by rw [HVL.out]; exact hdl)
  have hov' := hov.mono (show w.heap.size ≤ w2.heap.size by omega)
  rw [HVL.out] at hcv1
  rw [HVL.out]
  obtain ⟨gu, cu, hvu, hgu1, hgu2, hcu1, hcu2⟩ := HU.out.some (by omega)
  obtain rfl := hvu
  have HV3 := Lib.hid hov'; clear hov' hov
  have HU3 := Lib.hid hu3; clear hu3
  have HUV : Hid (gu ≠ gv) := Lib.hid (by omega)
  have HBB := Lib.hid (HB1.out.trans ((HB2.out.mono hz1).trans (HB3.out.mono (by omega))))
  obtain ⟨i0, ih0, iz0, iz1, iz2⟩ := info_parts info_u64
  obtain ⟨vs, hvs⟩ : ∃ vs, vs = toB (d * k) := ⟨_, rfl⟩
  rw [← hvs] at HV3
  have HVS := Lib.hid hvs; clear hvs
  obtain ⟨n, hn⟩ : ∃ n, n = (toB d).length := ⟨_, rfl⟩
  rw [← hn] at hdl hml htop hltn hn0 hcv1
  have HN := Lib.hid hn
  have HVN : Hid (vs.length = n) := Lib.hid (by rw [HVS.out, HVL.out]; exact hn.symm)
  rw [← hn]
  clear hn cyl1 hltn hn0
  obtain ⟨lx', hlx⟩ : ∃ l, l = (toB m).length := ⟨_, rfl⟩
  rw [← hlx] at lx hml hpad
  rw [← hlx]
  have HLX := Lib.hid hlx; clear hlx
  unfold maxLen at hcv2 hcu2
  go_wp2_with fail
  go_loopw [8] (fun v wr => ∃ (g cap : Nat) (L : List Nat), v = .slice (some ⟨g, 0, none⟩) L.length cap ∧ Own wr w.heap.size 153 .u64 (.slice (some ⟨g, 0, none⟩) L.length cap) L ∧ g ≠ gv ∧ Small L ∧ bval L = m * k ∧ lx' ≤ L.length ∧ L.length ≤ lx' + 1 ∧
      Own wr w.heap.size 153 .u64 (.slice (some ⟨gv, 0, none⟩) n cv) vs ∧ Below w.heap.size w wr) (fun v _ => lx' + 1 - lenV v)
  case atStart =>
    refine ⟨gu, cu, toB (m * k), rfl, HU3.out, HUV.out, small_toB _, bval_toB _, hpad.1, hpad.2, ?_, HBB.out⟩
    have := HV3.out
    rwa [HVN.out] at this
  case round =>
    obtain ⟨g, cap, L, rfl, hou, hne, hsl, hbv, hl1, hl2, hov, hbw⟩ := hrel
    have HO := Lib.hid hou; clear hou
    have HNE := Lib.hid hne; clear hne
    have HSL := Lib.hid hsl; clear hsl
    have HBV := Lib.hid hbv; clear hbv
    have HOV := Lib.hid hov; clear hov
    have HBW := Lib.hid hbw; clear hbw
    by_cases hlt : L.length ≤ lx'
    · have hzw := HBW.out.size
      have hoL : wr.ownsRow w.heap.size 153 1 (.slice (some ⟨g, 0, none⟩) L.length cap) L.length (vals .u64 L) := HO.out
      have HOL := Lib.hid hoL; clear hoL
      rcases Nat.lt_or_ge cap (L.length + 1) with hcap | hcap
      · go_wp2_with (at_builtin; refine wpList_append_grows _ rfl (.tmp 40) (.tmp 41) 151 rfl 153 i0 (.int .u64 0) 1 8 Tryz.underlying151 ih0 iz0 iz1 iz2 rfl (by decide) (some ⟨g, 0, none⟩) L.length cap (vals .u64 L) rfl (by intro h; cases h) (by rw [vals_len]; omega) (fun b hb => by cases hb; exact World.ownsRow.cells (World.ownsRow.alloc HOL.out _) rfl) ⟨wr.heap.size, 0, none⟩ 1 1 [.int .u64 0] rfl rfl (cell_one_new _ _ _) (one_cell _ _) hcap (by unfold maxLen; omega) (by omega) ?_; intro v5 w5 hown5 hgrow5)
        have ho5 : Own w5 (wr.heap.size + 1) 153 .u64 v5 (L ++ [0]) := by
          unfold Own
          rw [← vals_snoc, List.length_append]
          have e : (wr.alloc (.cells #[.int .u64 0] 153)).heap.size = wr.heap.size + 1 := by simp
          rw [e] at hown5; exact hown5
        obtain ⟨g5, cap5, rfl, hg51, hg52, _, _⟩ := ho5.some (by simp)
        have hb5 : Below wr.heap.size wr w5 := ((Below.refl _ wr).alloc (Nat.le_refl _) _).grown hgrow5 (by simp) (by simp)
        have hv5 := HOV.out.kept hb5 (Nat.le_refl _)
        have hgl := HOV.out.base.2
        have H5 := Lib.hid (ho5.mono (show w.heap.size ≤ wr.heap.size + 1 by omega)); clear ho5 hown5 hgrow5
        have HV5 := Lib.hid hv5; clear hv5
        have HB5 := Lib.hid hb5; clear hb5
        have HNE5 : Hid (g5 ≠ gv) := Lib.hid (by omega)
        go_wp2_with fail
        go_roundw
        case rel => exact ⟨g5, cap5, L ++ [0], rfl, H5.out, HNE5.out, small_snoc HSL.out BB_pos, by rw [bval_snoc_zero]; exact HBV.out, by simp; omega, by simp; omega, HV5.out, HBW.out.trans (HB5.out.mono hzw)⟩
        case measure => simp [lenV_slice]; omega
      · go_wp2_with (at_builtin; refine wpList_append_fits _ rfl (.tmp 40) (.tmp 41) 151 rfl w.heap.size 153 i0 1 Tryz.underlying151 ih0 iz1 g L.length cap (vals .u64 L) rfl (World.ownsRow.alloc HOL.out _) ⟨wr.heap.size, 0, none⟩ 1 1 [.int .u64 0] rfl rfl (cell_one_new _ _ _) (one_cell _ _) hcap ?_; intro w5 hown5 hgrow5)
        have ho5 : Own w5 w.heap.size 153 .u64 (.slice (some ⟨g, 0, none⟩) (L.length + 1) cap) (L ++ [0]) := by
          unfold Own
          rw [← vals_snoc, List.length_append]
          exact hown5
        have hg1 := HO.out.base.1
        have hb5 : Below w.heap.size w w5 := (HBW.out.alloc hzw _).grown hgrow5 (by simp; omega) (fun q hq => by cases hq; exact hg1)
        have hv5 : Own w5 w.heap.size 153 .u64 (.slice (some ⟨gv, 0, none⟩) n cv) vs :=
          Own.keptBy (HOV.out.kept ((Below.refl wr.heap.size wr).alloc (Nat.le_refl _) (.cells #[.int .u64 0] 153)) (Nat.le_refl _)) hgrow5 (by have := HNE.out; simp; omega)
        have H5 := Lib.hid ho5; clear ho5 hown5 hgrow5
        have HV5 := Lib.hid hv5; clear hv5
        have HB5 := Lib.hid hb5; clear hb5
        go_wp2_with fail
        go_roundw
        case rel => exact ⟨g, cap, L ++ [0], by simp, by rw [List.length_append]; exact H5.out, HNE.out, small_snoc HSL.out BB_pos, by rw [bval_snoc_zero]; exact HBV.out, by simp; omega, by simp; omega, HV5.out, HB5.out⟩
        case measure => simp [lenV_slice]; omega
    · have hLl : L.length = lx' + 1 := by omega
      have hzw := HBW.out.size
      have hgq1 := HO.out.base
      have hgq2 := HOV.out.base
      obtain ⟨lq, hlq⟩ : ∃ lq, lq = L.length - n := ⟨_, rfl⟩
      obtain ⟨wm, hmk, hown, hgr⟩ := run_make_full wr w.heap.size 151 153 i0 (.int .u64 0) 1 Tryz.underlying151 ih0 iz0 iz1 .i64 .i64 (L.length - n) (by rw [iz2]; omega) (by unfold maxLen; omega) hzw
      rw [show ((L.length - n : Nat) : Int) = (L.length : Int) - (n : Int) by omega, ← hlq] at hmk
      rw [← hlq] at hown
      obtain ⟨gq, hgq⟩ : ∃ gq, gq = wr.heap.size := ⟨_, rfl⟩
      rw [← hgq] at hmk hown
      have hbm : Below wr.heap.size wr wm := (Below.refl _ _).grown hgr (Nat.le_refl _) (by simp)
      have hQ0 : Own wm w.heap.size 153 .u64 (.slice (some ⟨gq, 0, none⟩) lq lq) (List.replicate lq 0) := by
        unfold Own
        rw [vals_replicate, List.length_replicate]
        have := hown
        rw [Nat.mul_one, show (Value.int .u64 0).cells = #[Value.int .u64 0] from rfl, toList_madeCells_one] at this
        exact this
      have hd0 : Div0 L vs n := ⟨HSL.out, by rw [HVS.out]; exact small_toB _, hdl, HVN.out, by
        have h := toB_top (n := d * k) (by have := HD.out; exact Nat.mul_ne_zero this (by omega))
        rw [← HVS.out, HVN.out] at h; omega⟩
      have hfr : bval (L.drop (L.length - n)) < bval vs := by
        have h := first_rem (m := m) HD.out hk1 (L0 := L) (by rw [← HN.out, ← HLX.out]; exact hml) HSL.out HBV.out (by rw [← HLX.out]; exact hLl)
        rw [← HN.out] at h
        rw [HVS.out, bval_toB]; exact h
      have hst : DvInv L vs L (List.replicate lq 0) n lq := by
        have h := DvInv.start hd0 (by omega) hfr
        rwa [← hlq] at h
      have hlqN : lq + n = lx' + 1 := by omega
      have HDS := Lib.hid hst; clear hst hfr
      have HD0 := Lib.hid hd0; clear hd0
      have HQ := Lib.hid hQ0; clear hQ0 hown
      have HUm := Lib.hid (HO.out.kept hbm (Nat.le_refl _))
      have HVm := Lib.hid (HOV.out.kept hbm (Nat.le_refl _))
      have HBm := Lib.hid (HBW.out.trans (hbm.mono hzw))
      have HGQ : Hid (gq ≠ g ∧ gq ≠ gv) := Lib.hid ⟨by omega, by omega⟩
      have HLL := Lib.hid hLl
      have hcapu : L.length ≤ cap ∧ cap ≤ maxLen := by
        obtain ⟨g', cap', h1, _, _, h2, h3⟩ := HO.out.some (by omega)
        simp only [Value.slice.injEq, true_and] at h1
        obtain ⟨_, rfl⟩ := h1
        exact ⟨h2, h3⟩
      obtain ⟨hcapu1, hcapu2⟩ := hcapu
      unfold maxLen at hcapu2
      clear hbm hgr hlq hgq hLl hgq1 hgq2
      go_wp2_with fail
      clear hmk
      go_loopw [50] (fun i wq => ∃ (j : Nat) (Lc qs : List Nat), j ≤ lq ∧ i = .int .i64 (j : Int) ∧ DvInv L vs Lc qs n (lq - j) ∧ Own wq w.heap.size 153 .u64 (.slice (some ⟨g, 0, none⟩) L.length cap) Lc ∧
          Own wq w.heap.size 153 .u64 (.slice (some ⟨gv, 0, none⟩) n cv) vs ∧ Own wq w.heap.size 153 .u64 (.slice (some ⟨gq, 0, none⟩) lq lq) qs ∧ Below w.heap.size w wq) (fun i _ => lq - (intOf i).toNat)
      case atStart => exact ⟨0, L, _, Nat.zero_le _, rfl, HDS.out, HUm.out, HVm.out, HQ.out, HBm.out⟩
      case round =>
        obtain ⟨j, Lc, qs, hj, rfl, hdi, hou, hov, hoq, hbw⟩ := hrel
        have HDI := Lib.hid hdi; clear hdi
        have HOu := Lib.hid hou; clear hou
        have HOv := Lib.hid hov; clear hov
        have HOq := Lib.hid hoq; clear hoq
        have HBw := Lib.hid hbw; clear hbw
        by_cases hlt : j < lq
        · obtain ⟨a, ha⟩ : ∃ a, a = lq - 1 - j := ⟨_, rfl⟩
          have hdi := HDI.out
          rw [show lq - j = a + 1 by omega] at hdi
          have hseg := hdi.seg_len
          have hlen := hdi.len
          have hql := hdi.ql
          have hcut := DvInv.cut Lc n a
          have hdig := digit_any w.heap.size g L.length cap (cap - a) gv 0 cv n (Lc.take a) ((Lc.drop a).take (n + 1)) (Lc.drop (a + (n + 1))) vs wr (by rw [← hcut]; exact hlen) (by rw [← hcut]; exact HOu.out) (hdi.divIn HD0.out) (by omega) HNE.out.symm
            (fun i hi => by rw [Nat.zero_add]; exact HOv.out.cell HVN.out i hi)
          rw [hseg.2] at hdig
          have HDG := Lib.hid hdig; clear hdig hcut
          have HDI' := Lib.hid hdi; clear hdi hseg hlen hql
          subst ha
          have hlx2 : lq - 1 - j < lq := by omega
          go_wp2_with fail
          rw [show lq - 1 - j + n + 1 - (lq - 1 - j) = n + 1 by omega]
          refine HDG.out.mono ?_
          rintro e w6 ⟨us', rfl, hul, hus, hum, hou6, hgr6⟩
          have hstep := HDI'.out.step HD0.out (by rw [hul]; exact HDI'.out.seg_len.1) hus hum
          have hq6 := HOq.out.keptBy hgr6 (by have := HGQ.out.1; simp; omega)
          have hv6 := HOv.out.keptBy hgr6 (by have := HNE.out; simp; omega)
          have hg1 := HOu.out.base.1
          have hgq3 := HOq.out.base.1
          have hb6 : Below w.heap.size w w6 := HBw.out.grown hgr6 (HBw.out.size) (fun q hq => by cases hq; exact hg1)
          have hqsl : qs.length = lq := by have h1 := HDI'.out.ql; omega
          have cq := hq6.cell hqsl (lq - 1 - j) hlx2
          have fq := hq6.free hqsl (lq - 1 - j)
          have hqs := hq6.set hqsl (lq - 1 - j) (bval ((Lc.drop (lq - 1 - j)).take (n + 1)) / bval vs)
          have hgq4 : w6.grownBy (w6.setCell ⟨gq, lq - 1 - j, none⟩ (.int .u64 ((bval ((Lc.drop (lq - 1 - j)).take (n + 1)) / bval vs : Nat) : Int))) (some gq) := grb_set (grb_refl _ _) _ _
          have hu7 := hou6.keptBy hgq4 (by have := HGQ.out.1; simp; omega)
          have hv7 := hv6.keptBy hgq4 (by have := HGQ.out.2; simp; omega)
          have hb7 := hb6.setCell (p := ⟨gq, lq - 1 - j, none⟩) hgq3 (.int .u64 ((bval ((Lc.drop (lq - 1 - j)).take (n + 1)) / bval vs : Nat) : Int))
          have HST := Lib.hid hstep
          have HU7 := Lib.hid hu7
          have HV7 := Lib.hid hv7
          have HQ7 := Lib.hid hqs
          have HB7 := Lib.hid hb7
          clear hstep hu7 hv7 hqs hb7 hgq4 hq6 hv6 hb6 hou6 hgr6 hum hus hul hqsl
          go_wp2_with fail
          go_roundw
          case rel => exact ⟨j + 1, _, _, by omega, by go_num, by rw [show lq - (j + 1) = lq - 1 - j by omega]; exact HST.out, HU7.out, HV7.out, HQ7.out, HB7.out⟩
          case measure => simp [intOf]; omega
        · have hjj : j = lq := by omega
          have hdi := HDI.out
          rw [hjj, Nat.sub_self] at hdi
          have hfin := hdi.done
          have hlen := hdi.len
          have htr := trim_any (some ⟨g, 0, none⟩) cap Lc wr (by rw [hlen]; exact HOu.out.sl)
          rw [hlen] at htr
          have HTR := Lib.hid htr; clear htr
          have HDI' := Lib.hid hdi; clear hdi
          have HFIN := Lib.hid hfin; clear hfin
          have HLEN := Lib.hid hlen; clear hlen HDI hjj
          go_wp2_with fail
          refine HTR.out.mono ?_
          rintro e w6 ⟨tt, htt, rfl, rfl⟩
          have HTT := Lib.hid htt; clear htt
          have htl : tt ≤ L.length := by have := HTT.out.1; rw [HLEN.out] at this; exact this
          obtain ⟨r0, hr0⟩ : ∃ r0, r0 = Lc.take tt := ⟨_, rfl⟩
          have hr0l : r0.length = tt := by rw [hr0, List.length_take, HLEN.out]; omega
          have hr0v : bval r0 = (m % d) * k := by
            rw [hr0, trimmed_bval HTT.out.2.1, HFIN.out.2, HBV.out, HVS.out, bval_toB, Nat.mul_mod_mul_right]
          have hr0s : Small r0 := by rw [hr0]; exact small_take HDI'.out.small _
          have hor : Own wr w.heap.size 153 .u64 (.slice (some ⟨g, 0, none⟩) tt cap) r0 := by
            rw [hr0]; exact HOu.out.take (by rw [HLEN.out]; exact htl)
          have hstart := DnInv.start hk1 hr0s
          rw [hr0l] at hstart
          have HDN := Lib.hid hstart; clear hstart
          have HR0L := Lib.hid hr0l; clear hr0l
          have HR0V := Lib.hid hr0v; clear hr0v
          have HR0S := Lib.hid hr0s; clear hr0s
          have HOR := Lib.hid hor; clear hor hr0
          have hk9 : (k : Int) ≤ 999999999 := by have := HKB.out; rw [BB_val] at this; omega
          obtain ⟨wo, rfl⟩ : ∃ wo : World, wo = wr := ⟨_, rfl⟩
          go_wp2_with fail
          go_loopw [12, 75] (fun lf i wq => ∃ (j2 lfN : Nat) (Lr : List Nat), j2 ≤ tt ∧ i = .int .i64 (j2 : Int) ∧ lf = .int .u64 (lfN : Int) ∧ DnInv r0 Lr k (tt - j2) lfN ∧ Own wq w.heap.size 153 .u64 (.slice (some ⟨g, 0, none⟩) tt cap) Lr ∧
              Own wq w.heap.size 153 .u64 (.slice (some ⟨gq, 0, none⟩) lq lq) qs ∧ Below w.heap.size w wq) (fun _ i _ => tt - (intOf i).toNat)
          case atStart => exact ⟨0, 0, r0, Nat.zero_le _, rfl, rfl, HDN.out, HOR.out, HOq.out, HBw.out⟩
          case round =>
            obtain ⟨j2, lfN, Lr, hj2, rfl, rfl, hdn, hor, hoq, hbw⟩ := hrel
            have HDN2 := Lib.hid hdn; clear hdn
            have HOR2 := Lib.hid hor; clear hor
            have HOQ2 := Lib.hid hoq; clear hoq
            have HBW2 := Lib.hid hbw; clear hbw
            by_cases hlt2 : j2 < tt
            · have hdn := HDN2.out
              rw [show tt - j2 = tt - 1 - j2 + 1 by omega] at hdn
              have hlen2 := hdn.len
              rw [HR0L.out] at hlen2
              have hle9 : (lfN : Int) ≤ 999999999 := by have h1 := hdn.left; have h2 := HKB.out; rw [BB_val] at h2; omega
              have hrs9 : ((nth r0 (tt - 1 - j2) : Nat) : Int) ≤ 999999999 := by have := HR0S.out (tt - 1 - j2); rw [BB_val] at this; omega
              have hcr := HOR2.out.cell hlen2 (tt - 1 - j2) (by omega)
              rw [nth_of_take hdn.low (by omega)] at hcr
              have hfr := HOR2.out.free hlen2 (tt - 1 - j2)
              have hk1' : (1 : Int) ≤ (k : Int) := by omega
              have hst2 := hdn.step hk1 HR0S.out
              have HST2 := Lib.hid hst2; clear hst2 hdn
              have HLN2 := Lib.hid hlen2; clear hlen2
              go_wp2_with fail
              go_region
              go_wp2_with fail
              go_roundw
              case rel =>
                have eq1 : ((lfN : Int) * 1000000000 + ((nth r0 (tt - 1 - j2) : Nat) : Int)) / (k : Int) = (((lfN * 1000000000 + nth r0 (tt - 1 - j2)) / k : Nat) : Int) := by simp
                have eq2 : ((lfN : Int) * 1000000000 + ((nth r0 (tt - 1 - j2) : Nat) : Int)) % (k : Int) = (((lfN * 1000000000 + nth r0 (tt - 1 - j2)) % k : Nat) : Int) := by simp
                rw [eq1, eq2]
                have hset := (HOR2.out.set HLN2.out (tt - 1 - j2) ((lfN * 1000000000 + nth r0 (tt - 1 - j2)) / k)).kept (Below.drew (Below.refl _ _)) (Nat.le_refl _)
                have hq2 := (HOQ2.out.keptBy (grb_set (g := g) (grb_refl wr _) (tt - 1 - j2) (.int .u64 (((lfN * 1000000000 + nth r0 (tt - 1 - j2)) / k : Nat) : Int))) (by have := HGQ.out.1; simp; omega)).kept (Below.drew (Below.refl _ _)) (Nat.le_refl _)
                exact ⟨j2 + 1, _, _, by omega, by go_num, rfl, by rw [show tt - (j2 + 1) = tt - 1 - j2 by omega]; exact HST2.out, hset, hq2, (HBW2.out.setCell HOR2.out.base.1 _).drew⟩
              case measure => simp [intOf]; omega
            · have hjj : j2 = tt := by omega
              have hdn := HDN2.out
              rw [hjj, Nat.sub_self] at hdn
              have hfin2 := hdn.done
              rw [HR0V.out, Nat.mul_div_cancel _ hk1] at hfin2
              have hlen2 := hdn.len
              rw [HR0L.out] at hlen2
              have hqsl : qs.length = lq := by have h1 := HDI'.out.ql; omega
              have htq := trim_any (some ⟨gq, 0, none⟩) lq qs wr (by rw [hqsl]; exact HOQ2.out.sl)
              rw [hqsl] at htq
              have htr2 := trim_any (some ⟨g, 0, none⟩) cap Lr wr (by rw [hlen2]; exact HOR2.out.sl)
              rw [hlen2] at htr2
              have HTQ := Lib.hid htq; clear htq
              have HTR2 := Lib.hid htr2; clear htr2
              have HLN2 := Lib.hid hlen2; clear hlen2
              have HQSL := Lib.hid hqsl; clear hqsl
              have HF2 := Lib.hid hfin2; clear hfin2
              have HDN3 := Lib.hid hdn; clear hdn hjj
              go_wp2_with fail
              refine HTQ.out.mono ?_
              rintro e w7 ⟨tq, htq, rfl, rfl⟩
              have HTQ2 := Lib.hid htq; clear htq
              go_wp2_with fail
              refine HTR2.out.mono ?_
              rintro e w8 ⟨tr, htr, rfl, rfl⟩
              have HTR3 := Lib.hid htr; clear htr
              go_wp2_with fail
              go_ret2
              refine ⟨_, _, rfl, ?_, ?_, HBW2.out⟩
              · have e : toB (m / d) = qs.take tq := by
                  rw [trimmed_toB HDI'.out.sq HTQ2.out.1 HTQ2.out.2.1 HTQ2.out.2.2, HFIN.out.1, HBV.out, HVS.out, bval_toB, Nat.mul_div_mul_right _ _ hk1]
                rw [e]
                exact HOQ2.out.sl.take HTQ2.out.1
              · have e : toB (m % d) = Lr.take tr := by
                  rw [trimmed_toB HDN3.out.small HTR3.out.1 HTR3.out.2.1 HTR3.out.2.2, HF2.out]
                rw [e]
                exact HOR2.out.sl.take HTR3.out.1
theorem divide_any (vx vy : Value) (m d : Nat) (w : World) (hx : Sl w .u64 vx (toB m)) (hy : Sl w .u64 vy (toB d)) (hd : d ≠ 0) (lx : (toB m).length ≤ 50000) :
    Calls Tryz.prog 153 #[vx, vy] w (DivEnd m d w) := by
  rcases Nat.lt_or_ge m d with h | h
  · exact divide_less vx vy m d w hx hy h
  · exact divide_ge vx vy m d w hx hy hd h lx
end Go.Proofs.YtjekapjbigfkbaaGreatDoor
