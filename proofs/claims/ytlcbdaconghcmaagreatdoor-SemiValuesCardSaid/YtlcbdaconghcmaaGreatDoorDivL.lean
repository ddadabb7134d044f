/- Long division in blocks: what the loops of nat.divide keep. No walk. -/
import Derived.Test.YtlcbdaconghcmaaGreatDoorDigit
namespace Go.Proofs.YtlcbdaconghcmaaGreatDoor
open Go Go.RowKit
set_option maxRecDepth 100000

theorem bval_drop (xs : List Nat) (a : Nat) (h : a < xs.length) : bval (xs.drop a) = nth xs a + BB * bval (xs.drop (a + 1)) := by
  rw [List.drop_eq_getElem_cons h]; simp only [bval]; rw [nth_get xs a h]
theorem small_drop {xs : List Nat} (h : Small xs) (k : Nat) : Small (xs.drop k) := fun i => by rw [nth_drop]; exact h _
theorem nth_of_take {L L0 : List Nat} {k a : Nat} (h : L.take k = L0.take k) (ha : a < k) : nth L a = nth L0 a := by
  rw [← nth_take L k a ha, h, nth_take _ _ _ ha]
structure DvInv (L0 vs L qs : List Nat) (n a : Nat) : Prop where
  len : L.length = L0.length
  ql : qs.length + n = L0.length
  ale : a ≤ qs.length
  small : Small L
  sq : Small qs
  low : L.take a = L0.take a
  rem : bval (L.drop a) < bval vs
  val : bval (L0.drop a) = bval (qs.drop a) * bval vs + bval (L.drop a)
/-- What is fixed: V has n blocks, the top one is not 0. -/
structure Div0 (L0 vs : List Nat) (n : Nat) : Prop where
  s0 : Small L0
  sv : Small vs
  n1 : 1 ≤ n
  lv : vs.length = n
  v1 : 1 ≤ nth vs (n - 1)
theorem DvInv.start {L0 vs : List Nat} {n : Nat} (h : Div0 L0 vs n) (hn : n ≤ L0.length) (hr : bval (L0.drop (L0.length - n)) < bval vs) :
    DvInv L0 vs L0 (List.replicate (L0.length - n) 0) n (L0.length - n) := by
  refine ⟨rfl, by simp; omega, by simp, h.s0, small_replicate _, rfl, hr, ?_⟩
  have e : (List.replicate (L0.length - n) 0).drop (L0.length - n) = [] := List.drop_of_length_le (by simp)
  rw [e]; simp [bval]
theorem DvInv.cut (L : List Nat) (n a : Nat) : L = L.take a ++ (L.drop a).take (n + 1) ++ L.drop (a + (n + 1)) := by
  rw [List.append_assoc, show L.drop (a + (n + 1)) = (L.drop a).drop (n + 1) by rw [List.drop_drop], List.take_append_drop, List.take_append_drop]
theorem DvInv.seg_len {L0 vs L qs : List Nat} {n a : Nat} (h : DvInv L0 vs L qs n (a + 1)) : ((L.drop a).take (n + 1)).length = n + 1 ∧ (L.take a).length = a := by
  have := h.len; have := h.ql; have := h.ale
  rw [List.length_take, List.length_drop, List.length_take]; omega
theorem DvInv.top {L0 vs L qs : List Nat} {n a : Nat} (h : DvInv L0 vs L qs n (a + 1)) : bval (L.drop a) < bval vs * BB := by
  have := h.len; have := h.ql; have := h.ale
  rw [bval_drop L a (by omega)]
  have h1 := h.small a
  have h2 : BB * (bval (L.drop (a + 1)) + 1) ≤ BB * bval vs := Nat.mul_le_mul_left _ h.rem
  rw [Nat.mul_add, Nat.mul_comm BB (bval vs)] at h2
  omega
theorem DvInv.high {L0 vs L qs : List Nat} {n a : Nat} (h0 : Div0 L0 vs n) (h : DvInv L0 vs L qs n (a + 1)) : bval (L.drop a) = bval ((L.drop a).take (n + 1)) ∧ bval (L.drop (a + (n + 1))) = 0 := by
  have hs := bval_append ((L.drop a).take (n + 1)) ((L.drop a).drop (n + 1))
  rw [List.take_append_drop, List.drop_drop, h.seg_len.1] at hs
  have ht := h.top
  have hv := bval_lt h0.sv
  rw [h0.lv] at hv
  have h1 : bval vs * BB < BB ^ (n + 1) := by rw [Nat.pow_succ]; exact Nat.mul_lt_mul_of_pos_right hv BB_pos
  rcases Nat.eq_zero_or_pos (bval (L.drop (a + (n + 1)))) with h2 | h2
  · rw [h2, Nat.mul_zero, Nat.add_zero] at hs; exact ⟨hs, h2⟩
  · have : BB ^ (n + 1) * 1 ≤ BB ^ (n + 1) * bval (L.drop (a + (n + 1))) := Nat.mul_le_mul_left _ h2
    omega
theorem DvInv.divIn {L0 vs L qs : List Nat} {n a : Nat} (h0 : Div0 L0 vs n) (h : DvInv L0 vs L qs n (a + 1)) : DivIn ((L.drop a).take (n + 1)) vs n :=
  ⟨small_take (small_drop h.small a) _, h0.sv, h0.n1, h.seg_len.1, h0.lv, h0.v1, by rw [← (h.high h0).1]; exact h.top⟩
theorem DvInv.step {L0 vs L qs us' : List Nat} {n a : Nat} (h0 : Div0 L0 vs n) (h : DvInv L0 vs L qs n (a + 1)) (hl : us'.length = n + 1) (hs : Small us')
    (hm : bval us' = bval ((L.drop a).take (n + 1)) % bval vs) :
    DvInv L0 vs (L.take a ++ us' ++ L.drop (a + (n + 1))) (qs.set a (bval ((L.drop a).take (n + 1)) / bval vs)) n a := by
  have hd := h.divIn h0
  have hh := h.high h0
  have hsl := h.seg_len
  have e1 := h.len; have e2 := h.ql; have e3 := h.ale
  have hdrop : (L.take a ++ us' ++ L.drop (a + (n + 1))).drop a = us' ++ L.drop (a + (n + 1)) := by
    rw [List.append_assoc]
    have := List.drop_left (l₁ := L.take a) (l₂ := us' ++ L.drop (a + (n + 1)))
    rwa [hsl.2] at this
  have hv : bval ((L.take a ++ us' ++ L.drop (a + (n + 1))).drop a) = bval us' := by rw [hdrop, bval_append, hh.2]; simp
  have hq : (qs.set a (bval ((L.drop a).take (n + 1)) / bval vs)).drop a = (bval ((L.drop a).take (n + 1)) / bval vs) :: qs.drop (a + 1) := by
    rw [List.drop_eq_getElem_cons (by simp; omega), List.drop_set, if_pos (by omega)]
    simp
  refine ⟨by simp [hl]; omega, by simp; omega, by simp; omega, ?_, small_set h.sq _ _ hd.qlt, ?_, ?_, ?_⟩
  · intro i
    by_cases h1 : i < a
    · rw [List.append_assoc, nth_append_left _ _ _ (by omega)]; exact small_take h.small a i
    · rw [List.append_assoc, nth_append_right _ _ _ (by omega)]
      by_cases h2 : i - (L.take a).length < us'.length
      · rw [nth_append_left _ _ _ h2]; exact hs _
      · rw [nth_append_right _ _ _ (by omega)]; exact small_drop h.small _ _
  · have e : (L.take a ++ us' ++ L.drop (a + (n + 1))).take a = L.take a := by
      rw [List.append_assoc]
      have := List.take_left (l₁ := L.take a) (l₂ := us' ++ L.drop (a + (n + 1)))
      rwa [hsl.2] at this
    rw [e]
    have := congrArg (List.take a) h.low
    rw [List.take_take, List.take_take, Nat.min_eq_left (by omega)] at this
    exact this
  · rw [hv, hm]; exact Nat.mod_lt _ hd.vpos'
  · rw [hv, hq, bval_drop L0 a (by omega), h.val]
    simp only [bval]
    have h1 := bval_drop L a (by omega)
    rw [hh.1] at h1
    have h2 : nth L a = nth L0 a := nth_of_take h.low (by omega)
    have h3 := Nat.div_add_mod (bval ((L.drop a).take (n + 1))) (bval vs)
    rw [← hm] at h3
    generalize bval ((L.drop a).take (n + 1)) / bval vs = qd at *
    generalize bval ((L.drop a).take (n + 1)) = U at *
    rw [Nat.mul_comm (bval vs) qd] at h3
    rw [Nat.add_mul, Nat.mul_add, ← Nat.mul_assoc]
    omega
theorem DvInv.done {L0 vs L qs : List Nat} {n : Nat} (h : DvInv L0 vs L qs n 0) : bval qs = bval L0 / bval vs ∧ bval L = bval L0 % bval vs := by
  have hv := h.val
  have hr := h.rem
  simp only [List.drop_zero] at hv hr
  rw [hv, Nat.add_comm, Nat.mul_comm]
  exact ⟨by rw [Nat.add_mul_div_left _ _ (by omega), Nat.div_eq_of_lt hr, Nat.zero_add], by rw [Nat.add_mul_mod_self_left, Nat.mod_eq_of_lt hr]⟩

/-- The remainder is divided by the factor, from the top block on. -/
structure DnInv (r0 L : List Nat) (k a lf : Nat) : Prop where
  len : L.length = r0.length
  ale : a ≤ r0.length
  small : Small L
  left : lf < k
  low : L.take a = r0.take a
  val : bval (r0.drop a) = k * bval (L.drop a) + lf
theorem DnInv.start {r0 : List Nat} {k : Nat} (hk : 1 ≤ k) (hs : Small r0) : DnInv r0 r0 k r0.length 0 :=
  ⟨rfl, Nat.le_refl _, hs, hk, rfl, by rw [List.drop_length]; simp [bval]⟩
theorem DnInv.bound {r0 L : List Nat} {k a lf : Nat} (h : DnInv r0 L k (a + 1) lf) (hs : Small r0) : lf * 1000000000 + nth r0 a < k * 1000000000 := by
  have h1 := hs a
  have h2 := h.left
  rw [BB_val] at h1
  have : (lf + 1) * 1000000000 ≤ k * 1000000000 := Nat.mul_le_mul_right _ h2
  omega
theorem DnInv.step {r0 L : List Nat} {k a lf : Nat} (h : DnInv r0 L k (a + 1) lf) (hk1 : 1 ≤ k) (hs : Small r0) :
    DnInv r0 (L.set a ((lf * 1000000000 + nth r0 a) / k)) k a ((lf * 1000000000 + nth r0 a) % k) := by
  have hb := h.bound hs
  have e1 := h.len; have e2 := h.ale
  have hx : (lf * 1000000000 + nth r0 a) / k < BB := by
    rw [BB_val]; exact Nat.div_lt_of_lt_mul hb
  refine ⟨by simp; exact e1, by omega, small_set h.small _ _ hx, Nat.mod_lt _ hk1, ?_, ?_⟩
  · rw [take_set]
    have := congrArg (List.take a) h.low
    rw [List.take_take, List.take_take, Nat.min_eq_left (by omega)] at this
    exact this
  · have hq : (L.set a ((lf * 1000000000 + nth r0 a) / k)).drop a = ((lf * 1000000000 + nth r0 a) / k) :: L.drop (a + 1) := by
      rw [List.drop_eq_getElem_cons (by simp; omega), List.drop_set, if_pos (by omega)]
      simp
    rw [hq, bval_drop r0 a (by omega), h.val]
    simp only [bval]
    have h3 := Nat.div_add_mod (lf * 1000000000 + nth r0 a) k
    generalize (lf * 1000000000 + nth r0 a) / k = qd at *
    rw [Nat.mul_add, Nat.mul_add, Nat.mul_left_comm BB k]
    have : BB * lf = lf * 1000000000 := by rw [BB_val, Nat.mul_comm]
    omega
theorem DnInv.done {r0 L : List Nat} {k lf : Nat} (h : DnInv r0 L k 0 lf) : bval L = bval r0 / k := by
  have hv := h.val
  simp only [List.drop_zero] at hv
  rw [hv, Nat.add_comm, Nat.add_mul_div_left _ _ (Nat.lt_of_le_of_lt (Nat.zero_le _) h.left), Nat.div_eq_of_lt h.left, Nat.zero_add]
/-- The factor: it keeps the number of blocks. -/
theorem factor_fits {d : Nat} (hd : d ≠ 0) {k : Nat} (hk : k = 1000000000 / (nth (toB d) ((toB d).length - 1) + 1)) :
    1 ≤ k ∧ k < BB ∧ (toB (d * k)).length = (toB d).length := by
  have hn := toB_ne hd
  have ht := small_toB d ((toB d).length - 1)
  have ht0 := toB_top hd
  have h1 := bval_top1 (xs := toB d) rfl hn
  rw [bval_toB] at h1
  have h2 := take_lt (small_toB d) ((toB d).length - 1) (by omega)
  generalize hx : nth (toB d) ((toB d).length - 1) = x at *
  have hk1 : 1 ≤ k := by rw [hk, Nat.le_div_iff_mul_le (by omega)]; rw [BB_val] at ht; omega
  have hkx : k * (x + 1) ≤ BB := by rw [hk, BB_val]; exact Nat.div_mul_le_self _ _
  have hkb : k < BB := by
    have : k * 2 ≤ k * (x + 1) := Nat.mul_le_mul_left _ (by omega)
    omega
  refine ⟨hk1, hkb, ?_⟩
  apply Nat.le_antisymm
  · apply toB_len_le
    have h3 : d < BB ^ ((toB d).length - 1) * (x + 1) := by rw [Nat.mul_add]; omega
    have h4 : d * k < BB ^ ((toB d).length - 1) * (x + 1) * k := Nat.mul_lt_mul_of_pos_right h3 hk1
    have h5 : BB ^ ((toB d).length - 1) * ((x + 1) * k) ≤ BB ^ ((toB d).length - 1) * BB := Nat.mul_le_mul_left _ (by rw [Nat.mul_comm]; exact hkx)
    rw [← Nat.mul_assoc, ← pow_pred hn] at h5
    omega
  · exact toB_len_mono (by have : d * 1 ≤ d * k := Nat.mul_le_mul_left _ hk1
                           omega)
/-- u with a block more fits what the loop begins with. -/
theorem pad_len {m k : Nat} (hk : k < BB) (hk1 : 1 ≤ k) : (toB m).length ≤ (toB (m * k)).length ∧ (toB (m * k)).length ≤ (toB m).length + 1 := by
  refine ⟨toB_len_mono (by have : m * 1 ≤ m * k := Nat.mul_le_mul_left _ hk1
                           omega), toB_len_le ?_⟩
  have h1 := bval_lt (small_toB m)
  rw [bval_toB] at h1
  rw [Nat.pow_succ]
  exact Nat.mul_lt_mul_of_lt_of_le h1 (by omega) BB_pos
theorem bval_snoc_zero (xs : List Nat) : bval (xs ++ [0]) = bval xs := by rw [bval_snoc]; simp
theorem bval_drop_eq (xs : List Nat) (j : Nat) (h : Small xs) : bval (xs.drop j) = bval xs / BB ^ j := by
  by_cases hj : j ≤ xs.length
  · have := bval_append (xs.take j) (xs.drop j)
    rw [List.take_append_drop, List.length_take, Nat.min_eq_left hj] at this
    rw [this, Nat.add_mul_div_left _ _ (Nat.pow_pos BB_pos), Nat.div_eq_of_lt (take_lt h j hj), Nat.zero_add]
  · rw [List.drop_of_length_le (by omega), Nat.div_eq_of_lt]
    · rfl
    · exact Nat.lt_of_lt_of_le (bval_lt h) (Nat.pow_le_pow_right BB_pos (by omega))
theorem first_rem {m d k : Nat} (hd : d ≠ 0) (hk1 : 1 ≤ k) (hle : (toB d).length ≤ (toB m).length) {L0 : List Nat} (hs : Small L0) (hv : bval L0 = m * k) (hl : L0.length = (toB m).length + 1) :
    bval (L0.drop (L0.length - (toB d).length)) < d * k := by
  rw [bval_drop_eq _ _ hs, hv, hl, Nat.div_lt_iff_lt_mul (Nat.pow_pos BB_pos)]
  have h1 := bval_lt (small_toB m)
  rw [bval_toB] at h1
  have h2 := toB_len_ge hd
  have hn := toB_ne hd
  have e : BB ^ (toB m).length = BB ^ ((toB d).length - 1) * BB ^ ((toB m).length + 1 - (toB d).length) := by rw [← Nat.pow_add]; congr 1; omega
  have h3 : BB ^ ((toB d).length - 1) * BB ^ ((toB m).length + 1 - (toB d).length) ≤ d * BB ^ ((toB m).length + 1 - (toB d).length) := Nat.mul_le_mul_right _ h2
  have h4 : m * k < d * BB ^ ((toB m).length + 1 - (toB d).length) * k := Nat.mul_lt_mul_of_pos_right (by omega) hk1
  rw [Nat.mul_right_comm] at h4
  exact h4
end Go.Proofs.YtlcbdaconghcmaaGreatDoor
