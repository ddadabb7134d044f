/- Parts of a proof: ML. -/
import Derived.Test.YtjekapjbigfkbaaGreatDoorS00
namespace Go.Proofs.YtjekapjbigfkbaaGreatDoor
open Go
set_option maxRecDepth 100000
inductive V where
  | inf | low | fin (q : Rat)
  deriving DecidableEq
def infS : ByteArray := ⟨#[105, 110, 102]⟩
def lowS : ByteArray := ⟨#[45, 105, 110, 102]⟩
def okV (k : Int) : V → Prop
  | .inf => 1 ≤ k ∧ k ≤ 3
  | .low => k = 1
  | .fin q => k = 1 ∨ ((k = 2 ∨ k = 3) ∧ 0 ≤ q)
instance (k : Int) (v : V) : Decidable (okV k v) := by cases v <;> unfold okV <;> infer_instance
def rdV (s : ByteArray) : Option V := if s = infS then some .inf else if s = lowS then some .low else (prs s).map .fin
def vprs (k : Int) (s : ByteArray) : Option V := (rdV s).filter fun v => decide (okV k v)
def vtxt : V → ByteArray
  | .inf => infS
  | .low => lowS
  | .fin q => txt q
def fitV : V → Prop
  | .fin q => fitQ q
  | _ => True
def limV : V → ByteArray × Nat
  | .fin q => limR q
  | v => (vtxt v, 0)
def cmpV : V → V → Int
  | .inf, .inf => 0
  | .low, .low => 0
  | .low, _ => -1
  | _, .inf => -1
  | _, .low => 1
  | .inf, _ => 1
  | .fin x, .fin y => cmpQ x y
def zeroV (k : Int) : V := if k = 1 then .inf else .fin 0
def oneV (k : Int) : V := if k = 1 then .fin 0 else .fin 1
def addV : V → V → V
  | .fin x, .fin y => .fin (x + y)
  | _, _ => .inf
def plusV (k : Int) (v w : V) : V := if k = 2 then addV v w else if k = 1 then (if 0 < cmpV v w then w else v) else (if cmpV v w < 0 then w else v)
def timesV (k : Int) (v w : V) : V :=
  if v = zeroV k ∨ w = zeroV k then zeroV k else match v, w with
    | .inf, _ => .inf
    | _, .inf => .inf
    | .low, _ => .low
    | _, .low => .low
    | .fin x, .fin y => if k = 1 then .fin (x + y) else .fin (x * y)
def starV (k : Int) (v : V) : V :=
  if k = 1 then (if 0 ≤ cmpV v (.fin 0) then .fin 0 else .low)
  else if k = 3 then (if cmpV v (.fin 1) ≤ 0 then .fin 1 else .inf)
  else match v with
    | .fin x => if 0 ≤ cmpQ x 1 then .inf else .fin (1 / (1 - x))
    | _ => .inf
def wtV (k : Int) : V → Prop
  | .fin q => k = 1 ∨ ((k = 2 ∨ k = 3) ∧ 0 < q)
  | _ => False
instance (k : Int) (v : V) : Decidable (wtV k v) := by cases v <;> unfold wtV <;> infer_instance
def betterV (k : Int) (v w : V) : Int := if k = 1 then cmpV v w else cmpV w v
def argS : ByteArray × Nat := (str [], 1)
def validF (k : Int) (a : ByteArray) : Bool := (vprs k a).isSome
def weightF (k : Int) (a : ByteArray) : Bool := match rdV a with | some v => decide (wtV k v) | none => false
def kindB (k : Int) : Bool := decide (1 ≤ k) && decide (k ≤ 3)
def zeroF (k : Int) : ByteArray := if kindB k then vtxt (zeroV k) else str []
def oneF (k : Int) : ByteArray := if kindB k then vtxt (oneV k) else str []
def plusF (k : Int) (a b : ByteArray) : ByteArray × Nat := match vprs k a, vprs k b with | some v, some w => limV (plusV k v w) | _, _ => argS
def timesF (k : Int) (a b : ByteArray) : ByteArray × Nat := match vprs k a, vprs k b with | some v, some w => limV (timesV k v w) | _, _ => argS
def overOk (k : Int) (v w : V) : Prop := (v = zeroV k ∨ wtV k v) ∧ wtV k w
instance (k : Int) (v w : V) : Decidable (overOk k v w) := inferInstanceAs (Decidable (_ ∧ _))
def betterF (k : Int) (a b : ByteArray) : Int := match vprs k a, vprs k b with | some v, some w => betterV k v w | _, _ => 0
theorem prs_inf : prs infS = none := by decide +kernel
theorem prs_low : prs lowS = none := by decide +kernel
theorem rdV_txt {v : V} (h : fitV v) : rdV (vtxt v) = some v := by
  cases v with
  | inf => simp [rdV, vtxt]
  | low => simp [rdV, vtxt, show lowS ≠ infS by decide]
  | fin q =>
    have hp := prs_txt h
    have h1 : txt q ≠ infS := by intro e; rw [e, prs_inf] at hp; simp at hp
    have h2 : txt q ≠ lowS := by intro e; rw [e, prs_low] at hp; simp at hp
    simp [rdV, vtxt, h1, h2, hp]
theorem rdV_some {s : ByteArray} {v : V} (h : rdV s = some v) : s = vtxt v ∧ fitV v := by
  unfold rdV at h
  split at h
  · rename_i e; have := Option.some.inj h; subst this; exact ⟨e, trivial⟩
  · split at h
    · rename_i e; have := Option.some.inj h; subst this; exact ⟨e, trivial⟩
    · cases hp : prs s with
      | none => rw [hp] at h; simp at h
      | some q => rw [hp] at h; simp at h; subst h; exact txt_prs hp
theorem vprs_some {k : Int} {s : ByteArray} {v : V} : vprs k s = some v ↔ rdV s = some v ∧ okV k v := by
  unfold vprs; rw [Option.filter_eq_some_iff]; simp
theorem vtxt_inj {v w : V} (hv : fitV v) (hw : fitV w) (h : vtxt v = vtxt w) : v = w := by
  have := rdV_txt hv; rw [h, rdV_txt hw] at this; exact (Option.some.inj this).symm
theorem vprs_txt {k : Int} {v : V} (h : fitV v) (ho : okV k v) : vprs k (vtxt v) = some v := vprs_some.2 ⟨rdV_txt h, ho⟩
theorem limV_fit {v : V} (h : fitV v) : limV v = (vtxt v, 0) := by cases v <;> first | rfl | exact limR_fit h
def leV : V → V → Prop
  | .low, _ => True
  | _, .inf => True
  | .fin x, .fin y => x ≤ y
  | _, _ => False
theorem cmpQ_cases (x y : Rat) : (x < y ∧ cmpQ x y = -1) ∨ (x = y ∧ cmpQ x y = 0) ∨ (y < x ∧ cmpQ x y = 1) := by
  unfold cmpQ
  by_cases h1 : x < y
  · left; rw [if_pos h1]; exact ⟨h1, rfl⟩
  · by_cases h2 : x = y
    · right; left; rw [if_neg h1, if_pos h2]; exact ⟨h2, rfl⟩
    · right; right; rw [if_neg h1, if_neg h2]
      refine ⟨?_, rfl⟩
      exact Rat.lt_of_le_of_ne (Rat.not_lt.1 h1) (Ne.symm h2)
theorem cmpV_le (v w : V) : cmpV v w ≤ 0 ↔ leV v w := by
  cases v <;> cases w <;> simp [cmpV, leV]
  rename_i x y
  rcases cmpQ_cases x y with ⟨h, e⟩ | ⟨h, e⟩ | ⟨h, e⟩ <;> rw [e]
  · simp [Rat.le_of_lt h]
  · subst h; simp
  · simp; exact Rat.not_le.2 h
theorem cmpV_range (v w : V) : cmpV v w = -1 ∨ cmpV v w = 0 ∨ cmpV v w = 1 := by
  cases v <;> cases w <;> simp [cmpV]
  rename_i x y
  rcases cmpQ_cases x y with ⟨h, e⟩ | ⟨h, e⟩ | ⟨h, e⟩ <;> simp [e]
theorem cmpV_zero (v w : V) : cmpV v w = 0 ↔ v = w := by
  cases v <;> cases w <;> simp [cmpV]
  rename_i x y
  rcases cmpQ_cases x y with ⟨h, e⟩ | ⟨h, e⟩ | ⟨h, e⟩ <;> rw [e]
  · simp; exact Rat.ne_of_lt h
  · simp [h]
  · simp; exact Rat.ne_of_gt h
theorem cmpV_swap (v w : V) : cmpV w v = - cmpV v w := by
  cases v <;> cases w <;> simp [cmpV]
  rename_i x y
  rcases cmpQ_cases x y with ⟨h, e⟩ | ⟨h, e⟩ | ⟨h, e⟩ <;> rcases cmpQ_cases y x with ⟨h', e'⟩ | ⟨h', e'⟩ | ⟨h', e'⟩ <;> rw [e, e'] <;> try rfl
  · exact absurd (Rat.le_of_lt h') (Rat.not_le.2 h)
  · subst h'; exact absurd h Rat.lt_irrefl
  · subst h; exact absurd h' Rat.lt_irrefl
  · subst h; exact absurd h' Rat.lt_irrefl
  · subst h'; exact absurd h Rat.lt_irrefl
  · exact absurd (Rat.le_of_lt h') (Rat.not_le.2 h)
theorem leV_refl (v : V) : leV v v := by rw [← cmpV_le, (cmpV_zero v v).2 rfl]; omega
theorem leV_total (v w : V) : leV v w ∨ leV w v := by rw [← cmpV_le, ← cmpV_le, cmpV_swap v w]; omega
theorem leV_antisymm {v w : V} (h1 : leV v w) (h2 : leV w v) : v = w := by
  rw [← cmpV_le] at h1 h2; rw [cmpV_swap v w] at h2; exact (cmpV_zero v w).1 (by omega)
theorem leV_trans {u v w : V} (h1 : leV u v) (h2 : leV v w) : leV u w := by
  cases u <;> cases v <;> cases w <;> simp_all [leV]
  exact Rat.le_trans h1 h2
noncomputable def minV (v w : V) : V := open Classical in if leV v w then v else w
noncomputable def maxV (v w : V) : V := open Classical in if leV w v then v else w
theorem minV_eq (v w : V) : (if 0 < cmpV v w then w else v) = minV v w := by
  unfold minV; have := cmpV_le v w
  by_cases h : leV v w
  · rw [if_pos h, if_neg]; have := this.2 h; omega
  · rw [if_neg h, if_pos]; have : ¬ cmpV v w ≤ 0 := fun h' => h (this.1 h'); omega
theorem maxV_eq (v w : V) : (if cmpV v w < 0 then w else v) = maxV v w := by
  unfold maxV; have := cmpV_le w v; rw [cmpV_swap v w] at this
  by_cases h : leV w v
  · rw [if_pos h, if_neg]; have := this.2 h; omega
  · rw [if_neg h, if_pos]; have : ¬ -cmpV v w ≤ 0 := fun h' => h (this.1 h'); omega
theorem minV_le {v w : V} (h : leV v w) : minV v w = v := by unfold minV; rw [if_pos h]
theorem minV_ge {v w : V} (h : leV w v) : minV v w = w := by
  unfold minV; by_cases h' : leV v w
  · rw [if_pos h']; exact leV_antisymm h' h
  · rw [if_neg h']
theorem maxV_le {v w : V} (h : leV v w) : maxV v w = w := by
  unfold maxV; by_cases h' : leV w v
  · rw [if_pos h']; exact leV_antisymm h h' ▸ rfl
  · rw [if_neg h']
theorem maxV_ge {v w : V} (h : leV w v) : maxV v w = v := by unfold maxV; rw [if_pos h]
theorem minV_comm (v w : V) : minV v w = minV w v := by
  rcases leV_total v w with h | h
  · rw [minV_le h, minV_ge h]
  · rw [minV_ge h, minV_le h]
theorem maxV_comm (v w : V) : maxV v w = maxV w v := by
  rcases leV_total v w with h | h
  · rw [maxV_le h, maxV_ge h]
  · rw [maxV_ge h, maxV_le h]
theorem minV_assoc (u v w : V) : minV (minV u v) w = minV u (minV v w) := by
  rcases leV_total u v with h1 | h1 <;> rcases leV_total v w with h2 | h2
  · rw [minV_le h1, minV_le h2, minV_le h1, minV_le (leV_trans h1 h2)]
  · rw [minV_le h1, minV_ge h2]
  · rw [minV_ge h1, minV_le h2, minV_ge h1]
  · rw [minV_ge h1, minV_ge h2, minV_ge (leV_trans h2 h1)]
theorem maxV_assoc (u v w : V) : maxV (maxV u v) w = maxV u (maxV v w) := by
  rcases leV_total u v with h1 | h1 <;> rcases leV_total v w with h2 | h2
  · rw [maxV_le h1, maxV_le h2, maxV_le (leV_trans h1 h2)]
  · rw [maxV_le h1, maxV_ge h2, maxV_le h1]
  · rw [maxV_ge h1, maxV_le h2]
  · rw [maxV_ge h1, maxV_ge h2, maxV_ge h1, maxV_ge (leV_trans h2 h1)]
theorem mono_min {f : V → V} (v w : V) (hf : ∀ x y, (x = v ∨ x = w) → (y = v ∨ y = w) → leV x y → leV (f x) (f y)) : f (minV v w) = minV (f v) (f w) := by
  rcases leV_total v w with h | h
  · rw [minV_le h, minV_le (hf v w (.inl rfl) (.inr rfl) h)]
  · rw [minV_ge h, minV_ge (hf w v (.inr rfl) (.inl rfl) h)]
theorem mono_max {f : V → V} (v w : V) (hf : ∀ x y, (x = v ∨ x = w) → (y = v ∨ y = w) → leV x y → leV (f x) (f y)) : f (maxV v w) = maxV (f v) (f w) := by
  rcases leV_total v w with h | h
  · rw [maxV_le h, maxV_le (hf v w (.inl rfl) (.inr rfl) h)]
  · rw [maxV_ge h, maxV_ge (hf w v (.inr rfl) (.inl rfl) h)]
theorem plusV1 (v w : V) : plusV 1 v w = minV v w := by unfold plusV; rw [if_neg (by decide), if_pos rfl, minV_eq]
theorem plusV2 (v w : V) : plusV 2 v w = addV v w := by unfold plusV; rw [if_pos rfl]
theorem plusV3 (v w : V) : plusV 3 v w = maxV v w := by unfold plusV; rw [if_neg (by decide), if_neg (by decide), maxV_eq]
theorem okV_kind {k : Int} {v : V} (h : okV k v) : k = 1 ∨ k = 2 ∨ k = 3 := by
  cases v <;> simp only [okV] at h <;> omega
theorem okV_low {k : Int} {v : V} (h : okV k v) (hk : k ≠ 1) : v ≠ .low := by
  intro e; subst e; exact hk h
theorem okV23 {k : Int} {v : V} (h : okV k v) (hk : k ≠ 1) : v = .inf ∨ ∃ q, v = .fin q ∧ 0 ≤ q := by
  cases v with
  | inf => exact .inl rfl
  | low => exact absurd h hk
  | fin q => right; refine ⟨q, rfl, ?_⟩; simp only [okV] at h; rcases h with h | h; exact absurd h hk; exact h.2
theorem times1 (v w : V) : timesV 1 v w = match v, w with
    | .inf, _ => .inf
    | _, .inf => .inf
    | .low, _ => .low
    | _, .low => .low
    | .fin x, .fin y => .fin (x + y) := by
  unfold timesV zeroV
  cases v <;> cases w <;> simp
def mulV (v w : V) : V :=
  if v = .fin 0 ∨ w = .fin 0 then .fin 0 else match v, w with
    | .fin x, .fin y => .fin (x * y)
    | _, _ => .inf
theorem times23 {k : Int} (hk : k ≠ 1) {v w : V} (hv : v ≠ .low) (hw : w ≠ .low) : timesV k v w = mulV v w := by
  unfold timesV mulV zeroV
  rw [if_neg hk]
  by_cases h : v = .fin 0 ∨ w = .fin 0
  · rw [if_pos h, if_pos h]
  · rw [if_neg h, if_neg h]
    cases v <;> cases w <;> simp_all
theorem times1_comm (v w : V) : timesV 1 v w = timesV 1 w v := by
  rw [times1, times1]; cases v <;> cases w <;> simp; exact Rat.add_comm ..
theorem times1_assoc (u v w : V) : timesV 1 (timesV 1 u v) w = timesV 1 u (timesV 1 v w) := by
  simp only [times1]; cases u <;> cases v <;> cases w <;> simp; exact Rat.add_assoc ..
theorem times1_mono (u : V) {v w : V} (h : leV v w) : leV (timesV 1 u v) (timesV 1 u w) := by
  simp only [times1]
  cases u <;> cases v <;> cases w <;> simp_all [leV]
  exact Rat.add_le_add_left.2 h
theorem mulV_comm (v w : V) : mulV v w = mulV w v := by
  unfold mulV
  by_cases h : v = V.fin 0 ∨ w = V.fin 0
  · rw [if_pos h, if_pos h.symm]
  · rw [if_neg h, if_neg (fun e => h e.symm)]
    cases v <;> cases w <;> simp; exact Rat.mul_comm ..
theorem mulV_zero (v : V) : mulV v (.fin 0) = .fin 0 := by unfold mulV; simp
theorem zero_mulV (v : V) : mulV (.fin 0) v = .fin 0 := by unfold mulV; simp
theorem mulV_fin (x y : Rat) : mulV (.fin x) (.fin y) = .fin (x * y) := by
  unfold mulV; split
  · rename_i h
    rcases h with h | h <;> (injection h with h; subst h; simp)
  · rfl
theorem mulV_inf {y : Rat} (h : y ≠ 0) : mulV .inf (.fin y) = .inf := by unfold mulV; simp [h]
theorem mulV_inf' {y : Rat} (h : y ≠ 0) : mulV (.fin y) .inf = .inf := by unfold mulV; simp [h]
theorem mulV_infs : mulV .inf .inf = .inf := by unfold mulV; simp
theorem mulV_assoc {u v w : V} (hu : u ≠ .low) (hv : v ≠ .low) (hw : w ≠ .low) : mulV (mulV u v) w = mulV u (mulV v w) := by
  by_cases h1 : u = .fin 0
  · subst h1; simp only [zero_mulV]
  by_cases h2 : v = .fin 0
  · subst h2; simp only [zero_mulV, mulV_zero]
  by_cases h3 : w = .fin 0
  · subst h3; simp only [mulV_zero]
  have inj : ∀ {x : Rat}, V.fin x ≠ V.fin 0 → x ≠ 0 := fun h e => h (by rw [e])
  cases u with
  | low => exact absurd rfl hu
  | inf =>
    cases v with
    | low => exact absurd rfl hv
    | inf => cases w with
      | low => exact absurd rfl hw
      | inf => rfl
      | fin z => rw [mulV_infs, mulV_inf (inj h3), mulV_infs]
    | fin y => cases w with
      | low => exact absurd rfl hw
      | inf => rw [mulV_inf (inj h2), mulV_inf' (inj h2)]
      | fin z =>
        rw [mulV_inf (inj h2), mulV_inf (inj h3), mulV_fin, mulV_inf]
        intro e; rcases Rat.mul_eq_zero.1 e with e | e
        · exact inj h2 e
        · exact inj h3 e
  | fin x =>
    cases v with
    | low => exact absurd rfl hv
    | inf => cases w with
      | low => exact absurd rfl hw
      | inf => rw [mulV_inf' (inj h1), mulV_infs, mulV_inf' (inj h1)]
      | fin z => rw [mulV_inf' (inj h1), mulV_inf (inj h3), mulV_inf' (inj h1)]
    | fin y =>
      have hxy : x * y ≠ 0 := by
        intro e; rcases Rat.mul_eq_zero.1 e with e | e
        · exact inj h1 e
        · exact inj h2 e
      cases w with
      | low => exact absurd rfl hw
      | inf => rw [mulV_fin, mulV_inf' hxy, mulV_inf' (inj h2), mulV_inf' (inj h1)]
      | fin z => rw [mulV_fin, mulV_fin, mulV_fin, mulV_fin, Rat.mul_assoc]
theorem mulV_mono {u v w : V} (hu : u = .inf ∨ ∃ q, u = .fin q ∧ 0 ≤ q) (hv : v = .inf ∨ ∃ q, v = .fin q ∧ 0 ≤ q) (hw : w = .inf ∨ ∃ q, w = .fin q ∧ 0 ≤ q) (h : leV v w) : leV (mulV u v) (mulV u w) := by
  rcases hu with rfl | ⟨x, rfl, hx⟩
  · rcases hw with rfl | ⟨z, rfl, hz⟩
    · rw [mulV_infs]; cases mulV .inf v <;> simp [leV]
    · rcases hv with rfl | ⟨y, rfl, hy⟩
      · exact h.elim
      · by_cases h0 : y = 0
        · subst h0; rw [mulV_zero]
          by_cases hz0 : z = 0
          · subst hz0; rw [mulV_zero]; exact leV_refl _
          · rw [mulV_inf hz0]; trivial
        · have hz0 : z ≠ 0 := by
            intro e; subst e; exact h0 (Rat.le_antisymm h hy)
          rw [mulV_inf h0, mulV_inf hz0]; trivial
  · by_cases hx0 : x = 0
    · subst hx0; rw [zero_mulV, zero_mulV]; exact leV_refl _
    · rcases hw with rfl | ⟨z, rfl, hz⟩
      · rw [mulV_inf' hx0]; cases mulV (.fin x) v <;> simp [leV]
      · rcases hv with rfl | ⟨y, rfl, hy⟩
        · exact h.elim
        · rw [mulV_fin, mulV_fin]
          exact Rat.mul_le_mul_of_nonneg_left h hx
theorem addV_comm (v w : V) : addV v w = addV w v := by cases v <;> cases w <;> simp [addV]; exact Rat.add_comm ..
theorem addV_assoc (u v w : V) : addV (addV u v) w = addV u (addV v w) := by cases u <;> cases v <;> cases w <;> simp [addV]; exact Rat.add_assoc ..
theorem mulV_addV {u v w : V} (hu : u = .inf ∨ ∃ q, u = .fin q ∧ 0 ≤ q) (hv : v = .inf ∨ ∃ q, v = .fin q ∧ 0 ≤ q) (hw : w = .inf ∨ ∃ q, w = .fin q ∧ 0 ≤ q) :
    mulV u (addV v w) = addV (mulV u v) (mulV u w) := by
  rcases hv with rfl | ⟨y, rfl, hy⟩
  · by_cases h0 : u = .fin 0
    · subst h0; rw [zero_mulV, zero_mulV, zero_mulV]; simp [addV, Rat.add_zero]
    · have : mulV u .inf = .inf := by
        rcases hu with rfl | ⟨x, rfl, _⟩
        · exact mulV_infs
        · exact mulV_inf' (fun e => h0 (by rw [e]))
      have e1 : addV .inf w = .inf := by cases w <;> rfl
      rw [e1, this]; cases mulV u w <;> rfl
  · rcases hw with rfl | ⟨z, rfl, hz⟩
    · by_cases h0 : u = .fin 0
      · subst h0; rw [zero_mulV, zero_mulV, zero_mulV]; simp [addV, Rat.add_zero]
      · have : mulV u .inf = .inf := by
          rcases hu with rfl | ⟨x, rfl, _⟩
          · exact mulV_infs
          · exact mulV_inf' (fun e => h0 (by rw [e]))
        have e1 : addV (.fin y) .inf = .inf := rfl
        rw [e1, this]; cases mulV u (.fin y) <;> rfl
    · rcases hu with rfl | ⟨x, rfl, hx⟩
      · simp only [addV]
        by_cases hy0 : y = 0
        · subst hy0; rw [mulV_zero, Rat.zero_add]
          by_cases hz0 : z = 0
          · subst hz0; rw [mulV_zero]; simp [Rat.add_zero]
          · rw [mulV_inf hz0]
        · have : y + z ≠ 0 := by
            intro e
            have h1 : y ≤ 0 := by
              have : y + 0 ≤ y + z := Rat.add_le_add_left.2 hz
              rw [e, Rat.add_zero] at this; exact this
            exact hy0 (Rat.le_antisymm h1 hy)
          rw [mulV_inf hy0, mulV_inf this]
      · simp only [addV]; rw [mulV_fin, mulV_fin, mulV_fin, Rat.mul_add]
end Go.Proofs.YtjekapjbigfkbaaGreatDoor
namespace Go.Proofs.YtjekapjbigfkbaaGreatDoor
open Go
set_option maxRecDepth 100000
def szV (k : Nat) : V → Prop
  | .fin q => szQ k q
  | _ => True
theorem szV.mono {j k : Nat} {v : V} (h : szV j v) (hk : j ≤ k) : szV k v := by cases v <;> first | trivial | exact szQ.mono h hk
theorem szV.fit {k : Nat} {v : V} (h : szV k v) (hk : k ≤ 400) : fitV v := by
  cases v <;> first | trivial | exact fit_sz.2 (szQ.mono h hk)
theorem szQ_zero {k : Nat} (hk : 1 ≤ k) : szQ k 0 := by
  have : 1 < 10 ^ k := Nat.one_lt_pow (by omega) (by omega)
  exact ⟨by show (0 : Int).natAbs < _; simp; omega, by show 1 < _; exact this⟩
theorem szQ_one {k : Nat} (hk : 1 ≤ k) : szQ k 1 := by
  have : 1 < 10 ^ k := Nat.one_lt_pow (by omega) (by omega)
  exact ⟨by show (1 : Int).natAbs < _; simpa using this, by show 1 < _; exact this⟩
theorem szV_zero (kd : Int) {k : Nat} (hk : 1 ≤ k) : szV k (zeroV kd) := by unfold zeroV; split; trivial; exact szQ_zero hk
theorem szV_one (kd : Int) {k : Nat} (hk : 1 ≤ k) : szV k (oneV kd) := by unfold oneV; split; exact szQ_zero hk; exact szQ_one hk
theorem okV_zero {k : Int} (hk : k = 1 ∨ k = 2 ∨ k = 3) : okV k (zeroV k) := by
  unfold zeroV; split
  · rename_i h; subst h; exact ⟨by omega, by omega⟩
  · right; exact ⟨by omega, Rat.le_refl⟩
theorem okV_one {k : Int} (hk : k = 1 ∨ k = 2 ∨ k = 3) : okV k (oneV k) := by
  unfold oneV; split
  · rename_i h; exact .inl h
  · right; exact ⟨by omega, by decide⟩
theorem okV_inf {k : Int} (hk : k = 1 ∨ k = 2 ∨ k = 3) : okV k .inf := ⟨by omega, by omega⟩
theorem okV_plus {k : Int} {v w : V} (hv : okV k v) (hw : okV k w) : okV k (plusV k v w) := by
  have hk := okV_kind hv
  unfold plusV
  split
  · rename_i h2
    rcases okV23 hv (by omega) with rfl | ⟨x, rfl, hx⟩
    · exact okV_inf hk
    · rcases okV23 hw (by omega) with rfl | ⟨y, rfl, hy⟩
      · exact okV_inf hk
      · exact .inr ⟨by omega, Rat.add_nonneg hx hy⟩
  · split <;> split <;> assumption
theorem okV_times {k : Int} {v w : V} (hv : okV k v) (hw : okV k w) : okV k (timesV k v w) := by
  have hk := okV_kind hv
  by_cases h1 : k = 1
  · subst h1; rw [times1]; cases v <;> cases w <;> simp [okV]
  · rw [times23 h1 (okV_low hv h1) (okV_low hw h1)]
    unfold mulV
    split
    · exact .inr ⟨by omega, Rat.le_refl⟩
    · rcases okV23 hv h1 with rfl | ⟨x, rfl, hx⟩
      · exact okV_inf hk
      · rcases okV23 hw h1 with rfl | ⟨y, rfl, hy⟩
        · exact okV_inf hk
        · exact .inr ⟨by omega, Rat.mul_nonneg hx hy⟩
theorem plus_comm' {k : Int} {v w : V} (hv : okV k v) : plusV k v w = plusV k w v := by
  rcases okV_kind hv with rfl | rfl | rfl
  · rw [plusV1, plusV1, minV_comm]
  · rw [plusV2, plusV2, addV_comm]
  · rw [plusV3, plusV3, maxV_comm]
theorem plus_assoc' {k : Int} {u v w : V} (hv : okV k v) : plusV k (plusV k u v) w = plusV k u (plusV k v w) := by
  rcases okV_kind hv with rfl | rfl | rfl
  · simp only [plusV1]; rw [minV_assoc]
  · simp only [plusV2]; rw [addV_assoc]
  · simp only [plusV3]; rw [maxV_assoc]
theorem times_comm' {k : Int} {v w : V} (hv : okV k v) (hw : okV k w) : timesV k v w = timesV k w v := by
  by_cases h1 : k = 1
  · subst h1; exact times1_comm v w
  · rw [times23 h1 (okV_low hv h1) (okV_low hw h1), times23 h1 (okV_low hw h1) (okV_low hv h1), mulV_comm]
theorem times_assoc' {k : Int} {u v w : V} (hu : okV k u) (hv : okV k v) (hw : okV k w) : timesV k (timesV k u v) w = timesV k u (timesV k v w) := by
  by_cases h1 : k = 1
  · subst h1; exact times1_assoc u v w
  · rw [times23 h1 (okV_low (okV_times hu hv) h1) (okV_low hw h1), times23 h1 (okV_low hu h1) (okV_low (okV_times hv hw) h1), times23 h1 (okV_low hu h1) (okV_low hv h1), times23 h1 (okV_low hv h1) (okV_low hw h1)]
    exact mulV_assoc (okV_low hu h1) (okV_low hv h1) (okV_low hw h1)
theorem times_mono' {k : Int} {u v w : V} (hu : okV k u) (hv : okV k v) (hw : okV k w) (h : leV v w) : leV (timesV k u v) (timesV k u w) := by
  by_cases h1 : k = 1
  · subst h1; exact times1_mono u h
  · rw [times23 h1 (okV_low hu h1) (okV_low hv h1), times23 h1 (okV_low hu h1) (okV_low hw h1)]
    exact mulV_mono (okV23 hu h1) (okV23 hv h1) (okV23 hw h1) h
theorem times_plus' {k : Int} {u v w : V} (hu : okV k u) (hv : okV k v) (hw : okV k w) : timesV k u (plusV k v w) = plusV k (timesV k u v) (timesV k u w) := by
  have hm : ∀ x y, (x = v ∨ x = w) → (y = v ∨ y = w) → leV x y → leV (timesV k u x) (timesV k u y) := by
    intro x y hx hy h
    refine times_mono' hu ?_ ?_ h
    · rcases hx with rfl | rfl <;> assumption
    · rcases hy with rfl | rfl <;> assumption
  rcases okV_kind hu with rfl | rfl | rfl
  · rw [plusV1, plusV1]; exact mono_min (f := timesV 1 u) v w hm
  · have h1 : (2 : Int) ≠ 1 := by decide
    rw [times23 h1 (okV_low hu h1) (okV_low (okV_plus hv hw) h1), times23 h1 (okV_low hu h1) (okV_low hv h1), times23 h1 (okV_low hu h1) (okV_low hw h1), plusV2, plusV2]
    exact mulV_addV (okV23 hu h1) (okV23 hv h1) (okV23 hw h1)
  · rw [plusV3, plusV3]; exact mono_max (f := timesV 3 u) v w hm
theorem plus_zero' {k : Int} {v : V} (hv : okV k v) : plusV k v (zeroV k) = v := by
  rcases okV_kind hv with rfl | rfl | rfl
  · rw [plusV1]; exact minV_le (by cases v <;> trivial)
  · rw [plusV2]; show addV v (.fin 0) = v
    rcases okV23 hv (by decide) with rfl | ⟨x, rfl, hx⟩
    · rfl
    · simp [addV, Rat.add_zero]
  · rw [plusV3]; show maxV v (.fin 0) = v
    rcases okV23 hv (by decide) with rfl | ⟨x, rfl, hx⟩
    · exact maxV_ge trivial
    · exact maxV_ge hx
theorem times_one' {k : Int} {v : V} (hv : okV k v) : timesV k v (oneV k) = v := by
  by_cases h1 : k = 1
  · subst h1; rw [times1]; cases v <;> simp [oneV, Rat.add_zero]
  · rw [times23 h1 (okV_low hv h1) (by simp [oneV, h1])]
    have : oneV k = .fin 1 := by simp [oneV, h1]
    rw [this]
    rcases okV23 hv h1 with rfl | ⟨x, rfl, hx⟩
    · exact mulV_inf (by decide)
    · rw [mulV_fin, Rat.mul_one]
theorem times_zero' (k : Int) (v : V) : timesV k v (zeroV k) = zeroV k := by unfold timesV; rw [if_pos (.inr rfl)]
theorem zeroF_eq {k : Int} (hk : k = 1 ∨ k = 2 ∨ k = 3) : zeroF k = vtxt (zeroV k) := by
  have : kindB k = true := by unfold kindB; rcases hk with rfl | rfl | rfl <;> rfl
  unfold zeroF; rw [this]; rfl
theorem oneF_eq {k : Int} (hk : k = 1 ∨ k = 2 ∨ k = 3) : oneF k = vtxt (oneV k) := by
  have : kindB k = true := by unfold kindB; rcases hk with rfl | rfl | rfl <;> rfl
  unfold oneF; rw [this]; rfl
structure Laws (k : Int) (a b c ab bc l m o r d x : ByteArray) : Prop where
  p1 : plusF k a b = (ab, 0)
  p2 : plusF k b a = (ab, 0)
  p3 : plusF k b c = (bc, 0)
  p4 : plusF k ab c = (l, 0)
  p5 : plusF k a bc = (l, 0)
  t1 : timesF k a b = (m, 0)
  t2 : timesF k b a = (m, 0)
  t3 : timesF k b c = (o, 0)
  t4 : timesF k m c = (r, 0)
  t5 : timesF k a o = (r, 0)
  q1 : timesF k a bc = (d, 0)
  q2 : timesF k a c = (x, 0)
  q3 : plusF k m x = (d, 0)
  q4 : plusF k a (zeroF k) = (a, 0)
  q5 : timesF k a (oneF k) = (a, 0)
  q6 : timesF k a (zeroF k) = (zeroF k, 0)
theorem star_law {k : Int} {v : V} (hv : okV k v) : okV k (starV k v) ∧ plusV k (oneV k) (timesV k v (starV k v)) = starV k v := by
  rcases okV_kind hv with rfl | rfl | rfl
  · have e1 : oneV 1 = .fin 0 := rfl
    rw [e1, plusV1]
    have hs : starV 1 v = if 0 ≤ cmpV v (.fin 0) then .fin 0 else .low := rfl
    rw [hs]
    split
    · rename_i h
      refine ⟨.inl rfl, ?_⟩
      have e2 : timesV 1 v (.fin 0) = v := times_one' (k := 1) hv
      rw [e2]
      have := cmpV_swap v (.fin 0)
      exact minV_le ((cmpV_le _ _).1 (by omega))
    · rename_i h
      refine ⟨rfl, ?_⟩
      have : timesV 1 v .low = .low := by
        rw [times1]
        cases v with
        | inf => simp [cmpV] at h
        | low => rfl
        | fin q => rfl
      rw [this]; exact minV_ge trivial
  · have h1 : (2 : Int) ≠ 1 := by decide
    have e1 : oneV 2 = .fin 1 := rfl
    rw [e1, plusV2]
    rcases okV23 hv h1 with rfl | ⟨x, rfl, hx⟩
    · have hs : starV 2 .inf = .inf := rfl
      rw [hs, times23 h1 (by simp) (by simp), mulV_infs]; exact ⟨okV_inf (.inr (.inl rfl)), rfl⟩
    · have hs : starV 2 (.fin x) = if 0 ≤ cmpQ x 1 then .inf else .fin (1 / (1 - x)) := rfl
      rw [hs]
      split
      · rename_i h
        refine ⟨okV_inf (.inr (.inl rfl)), ?_⟩
        have hx0 : x ≠ 0 := by intro e; subst e; exact absurd h (by decide +kernel)
        rw [times23 h1 (by simp) (by simp), mulV_inf' hx0]; rfl
      · rename_i h
        have hlt : x < 1 := by rcases cmpQ_cases x 1 with ⟨h', e⟩ | ⟨h', e⟩ | ⟨h', e⟩ <;> first | exact h' | (rw [e] at h; exact absurd h (by decide))
        have hd : 0 < 1 - x := (Rat.lt_iff_sub_pos x 1).1 hlt
        have hd0 : 1 - x ≠ 0 := Rat.ne_of_gt hd
        refine ⟨.inr ⟨.inl rfl, ?_⟩, ?_⟩
        · rw [Rat.div_def, Rat.one_mul]; exact Rat.le_of_lt (Rat.inv_pos.2 hd)
        · rw [times23 h1 (by simp) (by simp), mulV_fin]
          show V.fin (1 + x * (1 / (1 - x))) = V.fin (1 / (1 - x))
          congr 1
          rw [Rat.div_def, Rat.one_mul]
          have hi := Rat.mul_inv_cancel (1 - x) hd0
          have h2 : (1 - x) * (1 - x)⁻¹ + x * (1 - x)⁻¹ = (1 - x)⁻¹ := by
            rw [← Rat.add_mul, Rat.sub_add_cancel, Rat.one_mul]
          rw [hi] at h2; exact h2
  · have h1 : (3 : Int) ≠ 1 := by decide
    have e1 : oneV 3 = .fin 1 := rfl
    rw [e1, plusV3]
    have hs : starV 3 v = if cmpV v (.fin 1) ≤ 0 then .fin 1 else .inf := rfl
    rw [hs]
    split
    · rename_i h
      refine ⟨.inr ⟨.inr rfl, by decide⟩, ?_⟩
      have e2 : timesV 3 v (.fin 1) = v := times_one' (k := 3) hv
      rw [e2]; exact maxV_ge ((cmpV_le _ _).1 h)
    · rename_i h
      refine ⟨okV_inf (.inr (.inr rfl)), ?_⟩
      rw [times23 h1 (okV_low hv h1) (by simp)]
      rcases okV23 hv h1 with rfl | ⟨x, rfl, hx⟩
      · rw [mulV_infs]; exact maxV_le trivial
      · have hx0 : x ≠ 0 := by intro e; subst e; exact absurd h (by decide +kernel)
        rw [mulV_inf' hx0]; exact maxV_le trivial
structure Order (k : Int) (a b c s x y : ByteArray) (p : Int) : Prop where
  pe : betterF k a b = p
  lo : -1 ≤ p
  hi : p ≤ 1
  sw : betterF k b a = -p
  eq : p = 0 ↔ a = b
  tr : p ≤ 0 → betterF k b c ≤ 0 → betterF k a c ≤ 0
  se : plusF k a b = (s, 0)
  s1 : k ≠ 2 → p ≤ 0 → s = a
  s2 : k ≠ 2 → 0 < p → s = b
  xe : timesF k a c = (x, 0)
  ye : timesF k b c = (y, 0)
  xy : p ≤ 0 → betterF k x y ≤ 0
end Go.Proofs.YtjekapjbigfkbaaGreatDoor
