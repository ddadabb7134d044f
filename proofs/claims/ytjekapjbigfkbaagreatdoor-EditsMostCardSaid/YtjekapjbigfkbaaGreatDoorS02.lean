/- Parts of a proof: C1. -/
import Derived.Test.YtjekapjbigfkbaaGreatDoorS01
namespace Go.Proofs.YtjekapjbigfkbaaGreatDoor
set_option maxRecDepth 100000
class CSR (R : Type) where
  add : R → R → R
  mul : R → R → R
  zero : R
  one : R
  star : R → R
  add_comm : ∀ a b, add a b = add b a
  add_assoc : ∀ a b c, add (add a b) c = add a (add b c)
  add_zero : ∀ a, add a zero = a
  mul_comm : ∀ a b, mul a b = mul b a
  mul_assoc : ∀ a b c, mul (mul a b) c = mul a (mul b c)
  mul_one : ∀ a, mul a one = a
  mul_zero : ∀ a, mul a zero = zero
  mul_add : ∀ a b c, mul a (add b c) = add (mul a b) (mul a c)
  star_eq : ∀ a, star a = add one (mul a (star a))
  park : ∀ a b x c, x = add (add (mul a x) b) c → ∃ d, x = add (mul (star a) b) d
  anti : ∀ a b c d, b = add a c → a = add b d → a = b
namespace CSR
section
variable {R : Type} [CSR R]
instance instAdd : Add R := ⟨add⟩
instance instMul : Mul R := ⟨mul⟩
theorem aC (a b : R) : a + b = b + a := add_comm a b
theorem aA (a b c : R) : a + b + c = a + (b + c) := add_assoc a b c
theorem a0 (a : R) : a + zero = a := add_zero a
theorem z0 (a : R) : zero + a = a := by rw [aC, a0]
theorem mA (a b c : R) : a * b * c = a * (b * c) := mul_assoc a b c
theorem m1 (a : R) : a * one = a := mul_one a
theorem m0 (a : R) : a * zero = zero := mul_zero a
def le (a b : R) : Prop := ∃ c, b = a + c
theorem le_refl (a : R) : le a a := ⟨zero, (a0 a).symm⟩
theorem le_trans {a b c : R} (h : le a b) (k : le b c) : le a c := by
  obtain ⟨x, rfl⟩ := h; obtain ⟨y, rfl⟩ := k; exact ⟨x + y, aA ..⟩
def sum (f : Nat → R) : Nat → R
  | 0 => zero
  | n + 1 => sum f n + f n
def elim (p : Nat) (M : Nat → Nat → R) : Nat → Nat → R := fun i j => M i j + M i p * star (M p p) * M p j
def elims (M : Nat → Nat → R) : Nat → Nat → Nat → R
  | 0 => M
  | p + 1 => elim p (elims M p)
def eye (i j : Nat) : R := if i = j then one else zero
def starM (M : Nat → Nat → R) (n : Nat) : Nat → Nat → R := fun i j => elims M n i j + eye i j
end
end CSR
end Go.Proofs.YtjekapjbigfkbaaGreatDoor
namespace Go.Proofs.YtjekapjbigfkbaaGreatDoor
open Go
set_option maxRecDepth 100000
def KK : Type := { k : Int // k = 1 ∨ k = 2 ∨ k = 3 }
def RK (k : KK) : Type := { v : V // okV k.1 v }
theorem nle_of {k : Int} {u c : V} (hu : okV k u) (hc : okV k c) : if k = 1 then leV (plusV k u c) u else leV u (plusV k u c) := by
  rcases okV_kind hu with rfl | rfl | rfl
  · rw [if_pos rfl, plusV1]; unfold minV; split
    · exact leV_refl _
    · rcases leV_total u c with h | h
      · contradiction
      · exact h
  · rw [if_neg (by decide), plusV2]
    rcases okV23 hu (by decide) with rfl | ⟨x, rfl, hx⟩
    · exact trivial
    · rcases okV23 hc (by decide) with rfl | ⟨y, rfl, hy⟩
      · exact trivial
      · show x ≤ x + y
        have := Rat.add_le_add_left (c := x).2 hy
        rwa [Rat.add_zero] at this
  · rw [if_neg (by decide), plusV3]; unfold maxV; split
    · exact leV_refl _
    · rcases leV_total u c with h | h
      · exact h
      · contradiction
theorem nle_to {k : Int} {u v : V} (hu : okV k u) (hv : okV k v) (h : if k = 1 then leV v u else leV u v) : ∃ c, okV k c ∧ v = plusV k u c := by
  rcases okV_kind hu with rfl | rfl | rfl
  · rw [if_pos rfl] at h
    exact ⟨v, hv, by rw [plusV1, minV_ge h]⟩
  · rw [if_neg (by decide)] at h
    rcases okV23 hu (by decide) with rfl | ⟨x, rfl, hx⟩
    · refine ⟨.inf, okV_inf (.inr (.inl rfl)), ?_⟩
      rcases okV23 hv (by decide) with rfl | ⟨y, rfl, hy⟩
      · rfl
      · exact h.elim
    · rcases okV23 hv (by decide) with rfl | ⟨y, rfl, hy⟩
      · exact ⟨.inf, okV_inf (.inr (.inl rfl)), by rw [plusV2]; rfl⟩
      · refine ⟨.fin (y - x), .inr ⟨.inl rfl, (Rat.le_iff_sub_nonneg x y).1 h⟩, ?_⟩
        rw [plusV2]; show V.fin y = V.fin (x + (y - x)); congr 1
        rw [Rat.add_comm, Rat.sub_add_cancel]
  · rw [if_neg (by decide)] at h
    exact ⟨v, hv, by rw [plusV3, maxV_le h]⟩
theorem nle_iff' {k : Int} {a x b c : V} (ha : okV k a) (hx : okV k x) (hb : okV k b) (hc : okV k c) (h : x = plusV k (plusV k (timesV k a x) b) c) :
    (if k = 1 then leV x (timesV k a x) else leV (timesV k a x) x) ∧ (if k = 1 then leV x b else leV b x) := by
  have h1 : okV k (timesV k a x) := okV_times ha hx
  have ax := nle_of h1 (okV_plus hb hc)
  have bx := nle_of hb (okV_plus h1 hc)
  have e1 : plusV k (timesV k a x) (plusV k b c) = x := by rw [← plus_assoc' hb, ← h]
  have e2 : plusV k b (plusV k (timesV k a x) c) = x := by rw [← plus_assoc' h1, plus_comm' hb, ← h]
  rw [e1] at ax; rw [e2] at bx
  exact ⟨ax, bx⟩
theorem times_one_r {k : Int} {v : V} (hv : okV k v) (hk : k = 1 ∨ k = 2 ∨ k = 3) : timesV k (oneV k) v = v := by
  rw [times_comm' (okV_one hk) hv]; exact times_one' hv
theorem park1 {a x b : V} (ha : okV 1 a) (hx : okV 1 x) (hb : okV 1 b) (h1 : leV x (timesV 1 a x)) (h2 : leV x b) : leV x (timesV 1 (starV 1 a) b) := by
  have hs : starV 1 a = if 0 ≤ cmpV a (.fin 0) then .fin 0 else .low := rfl
  rw [hs]
  split
  · have : timesV 1 (.fin 0) b = b := times_one_r (k := 1) hb (.inl rfl)
    rw [this]; exact h2
  · rename_i hn
    have hlt : leV a (.fin 0) := (cmpV_le _ _).1 (by omega)
    cases b with
    | inf => cases x <;> trivial
    | low => rw [times1]; exact h2
    | fin q =>
      rw [times1]
      cases x with
      | low => trivial
      | inf => exact h2.elim
      | fin y =>
        exfalso
        rw [times1] at h1
        cases a with
        | inf => exact hlt.elim
        | low => exact h1.elim
        | fin r =>
          have hr : r ≤ 0 := hlt
          have hr' : r ≠ 0 := by intro e; subst e; exact hn (by decide +kernel)
          have hy : y ≤ r + y := h1
          have hz : r < 0 := Rat.lt_of_le_of_ne hr hr'
          have h3 := Rat.add_lt_add_right (c := y).2 hz
          rw [Rat.zero_add] at h3
          exact absurd hy (Rat.not_le.2 h3)
theorem park3 {a x b : V} (ha : okV 3 a) (hx : okV 3 x) (hb : okV 3 b) (h1 : leV (timesV 3 a x) x) (h2 : leV b x) : leV (timesV 3 (starV 3 a) b) x := by
  have hs : starV 3 a = if cmpV a (.fin 1) ≤ 0 then .fin 1 else .inf := rfl
  have n3 : (3 : Int) ≠ 1 := by decide
  rw [hs]
  split
  · have : timesV 3 (.fin 1) b = b := times_one_r (k := 3) hb (.inr (.inr rfl))
    rw [this]; exact h2
  · rename_i hn
    rw [times23 n3 (by simp) (okV_low hb n3)]
    rw [times23 n3 (okV_low ha n3) (okV_low hx n3)] at h1
    rcases okV23 hx n3 with rfl | ⟨y, rfl, hy⟩
    · cases (mulV .inf b) <;> trivial
    · rcases okV23 hb n3 with rfl | ⟨q, rfl, hq⟩
      · exact h2.elim
      · by_cases hq0 : q = 0
        · subst hq0; rw [mulV_zero]; exact hy
        · exfalso
          have hqy : q ≤ y := h2
          have hq' : 0 < q := Rat.lt_of_le_of_ne hq (fun e => hq0 e.symm)
          have hy' : 0 < y := by
            refine Rat.lt_of_le_of_ne hy (fun e => ?_)
            rw [← e] at hqy; exact absurd hqy (Rat.not_le.2 hq')
          have hy0 : y ≠ 0 := Rat.ne_of_gt hy'
          rcases okV23 ha n3 with rfl | ⟨r, rfl, hr⟩
          · rw [mulV_inf hy0] at h1; exact h1.elim
          · rw [mulV_fin] at h1
            have h3 : r * y ≤ 1 * y := by rw [Rat.one_mul]; exact h1
            have h4 : r ≤ 1 := Rat.le_of_mul_le_mul_right h3 hy'
            exact hn ((cmpV_le _ _).2 h4)
theorem park2 {a x b : V} (ha : okV 2 a) (hx : okV 2 x) (hb : okV 2 b) (h : leV (addV (timesV 2 a x) b) x) : leV (timesV 2 (starV 2 a) b) x := by
  have n2 : (2 : Int) ≠ 1 := by decide
  have hso : okV 2 (starV 2 a) := (star_law ha).1
  rw [times23 n2 (okV_low hso n2) (okV_low hb n2)]
  rw [times23 n2 (okV_low ha n2) (okV_low hx n2)] at h
  rcases okV23 hx n2 with rfl | ⟨y, rfl, hy⟩
  · cases (mulV (starV 2 a) b) <;> trivial
  · rcases okV23 hb n2 with rfl | ⟨s, rfl, hs⟩
    · have : addV (mulV a (.fin y)) .inf = .inf := by cases (mulV a (.fin y)) <;> rfl
      rw [this] at h; exact h.elim
    · rcases okV23 ha n2 with rfl | ⟨r, rfl, hr⟩
      · have e : starV 2 .inf = .inf := rfl
        rw [e]
        by_cases hy0 : y = 0
        · subst hy0
          rw [mulV_zero] at h
          have h' : (0 : Rat) + s ≤ 0 := h
          rw [Rat.zero_add] at h'
          have : s = 0 := Rat.le_antisymm h' hs
          subst this; rw [mulV_zero]; exact Rat.le_refl
        · rw [mulV_inf hy0] at h; exact h.elim
      · rw [mulV_fin] at h
        have h' : r * y + s ≤ y := h
        have e : starV 2 (.fin r) = if 0 ≤ cmpQ r 1 then .inf else .fin (1 / (1 - r)) := rfl
        rw [e]
        split
        · rename_i hc
          have hr1 : 1 ≤ r := by
            rcases cmpQ_cases r 1 with ⟨h1, e1⟩ | ⟨h1, e1⟩ | ⟨h1, e1⟩
            · rw [e1] at hc; exact absurd hc (by decide)
            · rw [h1]; exact Rat.le_refl
            · exact Rat.le_of_lt h1
          have h3 : 1 * y ≤ r * y := Rat.mul_le_mul_of_nonneg_right hr1 hy
          rw [Rat.one_mul] at h3
          have h4 : r * y + s ≤ r * y + 0 := by rw [Rat.add_zero]; exact Rat.le_trans h' h3
          have h5 : s ≤ 0 := Rat.add_le_add_left.1 h4
          have : s = 0 := Rat.le_antisymm h5 hs
          subst this; rw [mulV_zero]; exact hy
        · rename_i hc
          have hlt : r < 1 := by
            rcases cmpQ_cases r 1 with ⟨h1, e1⟩ | ⟨h1, e1⟩ | ⟨h1, e1⟩
            · exact h1
            · rw [e1] at hc; exact absurd (by decide) hc
            · rw [e1] at hc; exact absurd (by decide) hc
          have hd : 0 < 1 - r := (Rat.lt_iff_sub_pos r 1).1 hlt
          have hd0 : 1 - r ≠ 0 := Rat.ne_of_gt hd
          rw [mulV_fin]
          show 1 / (1 - r) * s ≤ y
          refine Rat.le_of_mul_le_mul_left (c := 1 - r) ?_ hd
          rw [← Rat.mul_assoc, Rat.div_def, Rat.one_mul, Rat.mul_inv_cancel _ hd0, Rat.one_mul]
          rw [Rat.sub_eq_add_neg, Rat.add_mul, Rat.one_mul, Rat.neg_mul, ← Rat.sub_eq_add_neg]
          refine Rat.le_sub_iff.2 ?_
          rw [Rat.add_comm]; exact h'
theorem park_law {k : Int} {a x b c : V} (ha : okV k a) (hx : okV k x) (hb : okV k b) (hc : okV k c) (h : x = plusV k (plusV k (timesV k a x) b) c) :
    ∃ d, okV k d ∧ x = plusV k (timesV k (starV k a) b) d := by
  have hs := (star_law ha).1
  refine nle_to (okV_times hs hb) hx ?_
  rcases okV_kind ha with rfl | rfl | rfl
  · obtain ⟨h1, h2⟩ := nle_iff' ha hx hb hc h
    rw [if_pos rfl] at h1 h2 ⊢
    exact park1 ha hx hb h1 h2
  · rw [if_neg (by decide)]
    have := nle_of (okV_plus (okV_times ha hx) hb) hc
    rw [← h, if_neg (by decide), plusV2] at this
    exact park2 ha hx hb this
  · obtain ⟨h1, h2⟩ := nle_iff' ha hx hb hc h
    rw [if_neg (by decide)] at h1 h2 ⊢
    exact park3 ha hx hb h1 h2
theorem anti_law {k : Int} {a b c d : V} (ha : okV k a) (hb : okV k b) (hc : okV k c) (hd : okV k d) (h1 : b = plusV k a c) (h2 : a = plusV k b d) : a = b := by
  have x := nle_of ha hc
  have y := nle_of hb hd
  rw [← h1] at x; rw [← h2] at y
  by_cases hk : k = 1
  · rw [if_pos hk] at x y; exact leV_antisymm y x
  · rw [if_neg hk] at x y; exact leV_antisymm x y
namespace RK
variable {k : KK}
theorem ext {a b : RK k} (h : a.1 = b.1) : a = b := Subtype.ext h
instance csr : CSR (RK k) where
  add a b := ⟨plusV k.1 a.1 b.1, okV_plus a.2 b.2⟩
  mul a b := ⟨timesV k.1 a.1 b.1, okV_times a.2 b.2⟩
  zero := ⟨zeroV k.1, okV_zero k.2⟩
  one := ⟨oneV k.1, okV_one k.2⟩
  star a := ⟨starV k.1 a.1, (star_law a.2).1⟩
  add_comm a _ := ext (plus_comm' a.2)
  add_assoc _ b _ := ext (plus_assoc' b.2)
  add_zero a := ext (plus_zero' a.2)
  mul_comm a b := ext (times_comm' a.2 b.2)
  mul_assoc a b c := ext (times_assoc' a.2 b.2 c.2)
  mul_one a := ext (times_one' a.2)
  mul_zero a := ext (times_zero' k.1 a.1)
  mul_add a b c := ext (times_plus' a.2 b.2 c.2)
  star_eq a := ext (star_law a.2).2.symm
  park a b x c h := by
    obtain ⟨d, hd, e⟩ := park_law a.2 x.2 b.2 c.2 (congrArg Subtype.val h)
    exact ⟨⟨d, hd⟩, ext e⟩
  anti a b c d h1 h2 := ext (anti_law a.2 b.2 c.2 d.2 (congrArg Subtype.val h1) (congrArg Subtype.val h2))
end RK
end Go.Proofs.YtjekapjbigfkbaaGreatDoor
