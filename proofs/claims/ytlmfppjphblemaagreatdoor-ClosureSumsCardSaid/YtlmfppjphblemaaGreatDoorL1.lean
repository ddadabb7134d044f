/- Little matrices: nothing that the elimination computes of them is too long. No program in sight. Little matrices and machines: all that closure computes of them fits. No program in sight. Little matrices and machines, continued: counting what is not Zero, the arcs, To, From and Total. No program in sight. The walks of abugidaref07.short and Little. To, From, Total: what the reference adds besides; little machines. No program in sight. -/
import Derived.Test.YtlmfppjphblemaaGreatDoorC1
import Derived.Test.YtlmfppjphblemaaGreatDoorC10
import Derived.Deep.QuietTactic
import Derived.BigQuiet
namespace Go.Proofs.YtlmfppjphblemaaGreatDoor
open Go Go.RowKit
set_option maxRecDepth 100000
set_option linter.unusedSimpArgs false
set_option linter.unusedVariables false
set_option exponentiation.threshold 2000

/-! ### Bounded values -/
/-- Numerator and denominator together are at most T. -/
def bd (T : Nat) : V → Prop
  | .fin q => q.num.natAbs + q.den ≤ T
  | _ => True
theorem bd.mono {S T : Nat} {v : V} (h : bd S v) (hs : S ≤ T) : bd T v := by cases v <;> first | trivial | exact Nat.le_trans h hs
theorem bd.fit {T : Nat} {v : V} (h : bd T v) (hT : T ≤ 10 ^ 399) : fitV v := by
  have hp : (10 : Nat) ^ 399 < 10 ^ 400 := Nat.pow_lt_pow_right (by omega) (by omega)
  cases v with
  | fin q =>
    have h' : q.num.natAbs + q.den ≤ T := h
    exact fit_sz.2 ⟨Nat.lt_of_le_of_lt (Nat.le_trans (Nat.le_add_right _ _) (Nat.le_trans h' hT)) hp, Nat.lt_of_le_of_lt (Nat.le_trans (Nat.le_add_left _ _) (Nat.le_trans h' hT)) hp⟩
  | inf => trivial
  | low => trivial
theorem bd_mk {n : Int} {d T : Nat} (hd : d ≠ 0) (h : n.natAbs + d ≤ T) : bd T (.fin (mkRat n d)) := by
  obtain ⟨h1, h2⟩ := mkRat_le (n := n) hd
  show (mkRat n d).num.natAbs + (mkRat n d).den ≤ T
  omega
theorem bd_zero {k : Int} {T : Nat} (hT : 1 ≤ T) : bd T (zeroV k) := by
  unfold zeroV; split
  · trivial
  · show (0 : Rat).num.natAbs + (0 : Rat).den ≤ T; simpa using hT
theorem bd_one {k : Int} {T : Nat} (hT : 2 ≤ T) : bd T (oneV k) := by
  unfold oneV; split
  · show (0 : Rat).num.natAbs + (0 : Rat).den ≤ T; simp; omega
  · show (1 : Rat).num.natAbs + (1 : Rat).den ≤ T; simpa using hT
theorem bd_times {k : Int} {S T : Nat} {v w : V} (hv : bd S v) (hw : bd T w) (hS : 1 ≤ S) (hT : 1 ≤ T) : bd (S * T) (timesV k v w) := by
  unfold timesV
  split
  · exact bd_zero (Nat.mul_pos hS hT)
  · cases v <;> cases w <;> try trivial
    rename_i x y _
    have hx : x.num.natAbs + x.den ≤ S := hv
    have hy : y.num.natAbs + y.den ≤ T := hw
    have hm := Nat.mul_le_mul hx hy
    try simp only
    split
    · rw [Rat.add_def']
      refine bd_mk (Nat.mul_ne_zero x.den_nz y.den_nz) ?_
      have h3 := Int.natAbs_add_le (x.num * y.den) (y.num * x.den)
      rw [Int.natAbs_mul, Int.natAbs_mul, Int.natAbs_natCast, Int.natAbs_natCast] at h3
      have : (x.num.natAbs + x.den) * (y.num.natAbs + y.den) = x.num.natAbs * y.num.natAbs + (x.num.natAbs * y.den + y.num.natAbs * x.den + x.den * y.den) := by grind
      omega
    · rw [Rat.mul_def']
      refine bd_mk (Nat.mul_ne_zero x.den_nz y.den_nz) ?_
      rw [Int.natAbs_mul]
      have : (x.num.natAbs + x.den) * (y.num.natAbs + y.den) = x.num.natAbs * y.num.natAbs + (x.num.natAbs * y.den + y.num.natAbs * x.den + x.den * y.den) := by grind
      omega
theorem bd_max {k : Int} {T : Nat} {v w : V} (hk : k ≠ 2) (hv : bd T v) (hw : bd T w) : bd T (plusV k v w) := by
  unfold plusV
  rw [if_neg hk]
  split <;> split <;> assumption
theorem bd_star {k : Int} {T : Nat} {v : V} (hk : k = 1 ∨ k = 3) (hT : 2 ≤ T) : bd T (starV k v) := by
  unfold starV
  split
  · split
    · show (0 : Rat).num.natAbs + (0 : Rat).den ≤ T; simp; omega
    · trivial
  · split
    · split
      · show (1 : Rat).num.natAbs + (1 : Rat).den ≤ T; simpa using hT
      · trivial
    · omega

def sN (f : Nat → Nat) : Nat → Nat
  | 0 => 0
  | n + 1 => sN f n + f n
theorem sN_mul (f : Nat → Nat) (c : Nat) : ∀ n, sN (fun j => f j * c) n = sN f n * c
  | 0 => (Nat.zero_mul c).symm
  | n + 1 => by show sN (fun j => f j * c) n + f n * c = (sN f n + f n) * c; rw [sN_mul f c n, Nat.add_mul]
theorem sN_add (f g : Nat → Nat) : ∀ n, sN (fun j => f j + g j) n = sN f n + sN g n
  | 0 => rfl
  | n + 1 => by show sN (fun j => f j + g j) n + (f n + g n) = sN f n + f n + (sN g n + g n); rw [sN_add f g n]; omega
theorem sN_congr {f g : Nat → Nat} : ∀ n, (∀ j, j < n → f j = g j) → sN f n = sN g n
  | 0, _ => rfl
  | n + 1, h => by show sN f n + f n = sN g n + g n; rw [sN_congr n (fun j hj => h j (by omega)), h n (by omega)]
theorem le_sN {f : Nat → Nat} {j : Nat} : ∀ n, j < n → f j ≤ sN f n
  | 0, h => by omega
  | n + 1, h => by
    show f j ≤ sN f n + f n
    by_cases e : j = n
    · subst e; omega
    · have := le_sN (f := f) n (show j < n by omega); omega
theorem le_sN2 {f : Nat → Nat} {n : Nat} (h : 2 ≤ n) : f 0 + f 1 ≤ sN f n := by
  induction n with
  | zero => omega
  | succ n ih =>
    show _ ≤ sN f n + f n
    by_cases e : n = 1
    · subst e; show _ ≤ 0 + f 0 + f 1; omega
    · have := ih (by omega); omega
/-- Infinite, or a fraction. -/
def fr (v : V) (a d : Nat) : Prop := v = .inf ∨ v = .fin ((a : Rat) / (d : Rat))
theorem cast_pos {d : Nat} (h : 1 ≤ d) : (0 : Rat) < (d : Rat) := by exact_mod_cast h
theorem cast_ne {d : Nat} (h : 1 ≤ d) : (d : Rat) ≠ 0 := fun e => by have := cast_pos h; rw [e] at this; exact absurd this (by decide)
theorem cast_nn (a : Nat) : (0 : Rat) ≤ (a : Rat) := by exact_mod_cast Nat.zero_le a
theorem div_nn (a b : Nat) : (0 : Rat) ≤ (a : Rat) / (b : Rat) := by
  by_cases hb : b = 0
  · subst hb; rw [Rat.div_def]; simp
  · refine Rat.not_lt.1 fun h => ?_
    rw [Rat.div_lt_iff (cast_pos (by omega)), Rat.zero_mul] at h
    exact absurd (cast_nn a) (Rat.not_le.2 h)
theorem fr.bd {v : V} {a d : Nat} (h : fr v a d) (hd : 1 ≤ d) : bd (a + d) v := by
  rcases h with rfl | rfl
  · trivial
  · have : (a : Rat) / (d : Rat) = mkRat (a : Int) d := by rw [Rat.mkRat_eq_div]; rfl
    rw [this]
    exact bd_mk (by omega) (by simp)
theorem fr.cut {v : V} {a d f : Nat} (h : fr v (f * a) (f * d)) (hf : 1 ≤ f) : fr v a d := by
  rcases h with rfl | rfl
  · exact .inl rfl
  · refine .inr (congrArg V.fin ?_)
    have := cast_ne hf
    rw [Rat.natCast_mul, Rat.natCast_mul]
    by_cases hd : (d : Rat) = 0
    · rw [hd]; grind
    · grind

/-! ### One elimination, second kind -/
theorem times2 {p q : Rat} : timesV 2 (.fin p) (.fin q) = .fin (p * q) := by
  unfold timesV zeroV
  simp only [show ¬ ((2 : Int) = 1) by decide, if_false]
  split
  · rename_i h
    rcases h with h | h <;> cases h
    · rw [Rat.zero_mul]
    · rw [Rat.mul_zero]
  · rfl
theorem times2_inf (v : V) (hv : okV 2 v) : timesV 2 v .inf = .fin 0 ∧ v = .fin 0 ∨ timesV 2 v .inf = .inf := by
  unfold timesV zeroV
  simp only [show ¬ ((2 : Int) = 1) by decide, if_false]
  by_cases h : v = .fin 0
  · subst h; left; simp
  · right; rw [if_neg (by simp [h])]
    cases v <;> simp_all [okV]
theorem inf_times2 (v : V) (hv : okV 2 v) : timesV 2 .inf v = .fin 0 ∧ v = .fin 0 ∨ timesV 2 .inf v = .inf := by
  unfold timesV zeroV
  simp only [show ¬ ((2 : Int) = 1) by decide, if_false]
  by_cases h : v = .fin 0
  · subst h; left; simp
  · right; rw [if_neg (by simp [h])]
theorem zero_times2 (v : V) : timesV 2 (.fin 0) v = .fin 0 := by
  unfold timesV zeroV
  simp only [show ¬ ((2 : Int) = 1) by decide, if_false]
  simp
theorem plus2_zero (v : V) (hv : okV 2 v) : plusV 2 v (.fin 0) = v := by
  unfold plusV addV
  cases v <;> simp_all [okV, Rat.add_zero]
theorem plus2_inf (v : V) : plusV 2 v .inf = .inf := by
  unfold plusV addV
  cases v <;> simp
theorem inf_plus2 (v : V) : plusV 2 .inf v = .inf := by
  unfold plusV addV
  cases v <;> simp
/-- The star of a pivot: infinite, or a fraction. -/
theorem star2 {s : V} {n e : Nat} (h : fr s n e) (he : 1 ≤ e) : starV 2 s = .inf ∨ ∃ f, e = n + f ∧ 1 ≤ f ∧ s = .fin ((n : Rat) / (e : Rat)) ∧ starV 2 s = .fin ((e : Rat) / (f : Rat)) := by
  rcases h with rfl | rfl
  · left; rfl
  · have hp := cast_pos he
    by_cases hne : e ≤ n
    · left
      show (if 0 ≤ cmpQ ((n : Rat) / (e : Rat)) 1 then V.inf else _) = V.inf
      rw [if_pos]
      have h1 : (1 : Rat) ≤ (n : Rat) / (e : Rat) := by
        refine Rat.not_lt.1 fun h => ?_
        rw [Rat.div_lt_iff hp, Rat.one_mul] at h
        have : n < e := by exact_mod_cast h
        omega
      rcases cmpQ_cases ((n : Rat) / (e : Rat)) 1 with ⟨h2, _⟩ | ⟨_, h2⟩ | ⟨_, h2⟩
      · exact absurd (Rat.not_le.2 h2) (fun h => h h1)
      · rw [h2]; decide
      · rw [h2]; decide
    · right
      refine ⟨e - n, by omega, by omega, rfl, ?_⟩
      have h1 : (n : Rat) / (e : Rat) < 1 := by
        rw [Rat.div_lt_iff hp, Rat.one_mul]; exact_mod_cast (show n < e by omega)
      show (if 0 ≤ cmpQ ((n : Rat) / (e : Rat)) 1 then V.inf else V.fin (1 / (1 - (n : Rat) / (e : Rat)))) = _
      rw [if_neg]
      · refine congrArg V.fin ?_
        have h2 : ((e - n : Nat) : Rat) + (n : Rat) = (e : Rat) := by rw [← Rat.natCast_add]; congr 1; omega
        have h3 := cast_ne (show 1 ≤ e - n by omega)
        have h4 := cast_ne he
        grind
      · rcases cmpQ_cases ((n : Rat) / (e : Rat)) 1 with ⟨_, h2⟩ | ⟨h2, _⟩ | ⟨h2, _⟩
        · rw [h2]; decide
        · rw [h2] at h1; exact absurd h1 (Rat.lt_irrefl)
        · exact absurd h2 (Rat.not_lt.2 (Rat.le_of_lt h1))
theorem fr_zero {c e : Nat} (h : fr (.fin 0) c e) (he : 1 ≤ e) : c = 0 := by
  rcases h with h | h
  · cases h
  · have h1 : (0 : Rat) = (c : Rat) / (e : Rat) := V.fin.inj h
    have h2 := cast_ne he
    have h3 : (c : Rat) = 0 := by grind
    exact_mod_cast h3
theorem cell_inf {x y z : V} (hx : okV 2 x) (hy : okV 2 y) (hz : okV 2 z) : plusV 2 x (timesV 2 (timesV 2 y .inf) z) = x ∨ plusV 2 x (timesV 2 (timesV 2 y .inf) z) = .inf := by
  rcases times2_inf y hy with ⟨h, _⟩ | h
  · rw [h, zero_times2, plus2_zero x hx]; exact .inl rfl
  · rw [h]
    rcases inf_times2 z hz with ⟨h, _⟩ | h
    · rw [h, plus2_zero x hx]; exact .inl rfl
    · rw [h, plus2_inf]; exact .inr rfl
theorem cell_fin {x y z : V} {a b c d e f : Nat} (hx : okV 2 x) (hy : okV 2 y) (hz : okV 2 z) (hxf : fr x a d) (hyf : fr y b d) (hzf : fr z c e) (hd : 1 ≤ d) (he : 1 ≤ e) (hf : 1 ≤ f) :
    fr (plusV 2 x (timesV 2 (timesV 2 y (.fin ((e : Rat) / (f : Rat)))) z)) (a * f + b * c) (d * f) := by
  have hd' := cast_ne hd
  have he' := cast_ne he
  have hf' := cast_ne hf
  have hef : (e : Rat) / (f : Rat) ≠ 0 := by grind
  have hx0 : b * c = 0 → fr x (a * f + b * c) (d * f) := fun h => by
    rw [h, Nat.add_zero]
    rcases hxf with rfl | rfl
    · exact .inl rfl
    · refine .inr (congrArg V.fin ?_)
      rw [Rat.natCast_mul, Rat.natCast_mul]; grind
  rcases hyf with rfl | rfl
  · rcases inf_times2 (.fin ((e : Rat) / (f : Rat))) (.inr ⟨.inl rfl, div_nn _ _⟩) with ⟨_, h⟩ | h
    · exact absurd (V.fin.inj h) hef
    · rw [h]
      rcases inf_times2 z hz with ⟨h, rfl⟩ | h
      · rw [h, plus2_zero x hx]
        exact hx0 (by rw [fr_zero hzf he, Nat.mul_zero])
      · rw [h, plus2_inf]; exact .inl rfl
  · rw [times2]
    rcases hzf with rfl | rfl
    · rcases times2_inf (.fin ((b : Rat) / (d : Rat) * ((e : Rat) / (f : Rat)))) (by
        exact .inr ⟨.inl rfl, Rat.mul_nonneg (div_nn _ _) (div_nn _ _)⟩) with ⟨h, h2⟩ | h
      · rw [h, plus2_zero x hx]
        have h3 := V.fin.inj h2
        have h4 : (b : Rat) = 0 := by grind
        have h5 : b = 0 := by exact_mod_cast h4
        exact hx0 (by rw [h5, Nat.zero_mul])
      · rw [h, plus2_inf]; exact .inl rfl
    · rw [times2]
      rcases hxf with rfl | rfl
      · rw [inf_plus2]; exact .inl rfl
      · refine .inr (congrArg V.fin ?_)
        rw [Rat.natCast_add, Rat.natCast_mul, Rat.natCast_mul, Rat.natCast_mul]
        grind

def stepN (N : Nat → Nat → Nat) (p f : Nat) : Nat → Nat → Nat := fun i j => if i = p then N p j else N i j * f + N i p * N p j
def stepD (D : Nat → Nat) (p f : Nat) : Nat → Nat := fun i => if i = p then f else D i * f
def elimV (p : Nat) (M : Nat → Nat → V) : Nat → Nat → V := fun i j => plusV 2 (M i j) (timesV 2 (timesV 2 (M i p) (starV 2 (M p p))) (M p j))
/-- Each row has a common denominator. -/
structure Rp (n : Nat) (M : Nat → Nat → V) (N : Nat → Nat → Nat) (D : Nat → Nat) : Prop where
  pos : ∀ i, i < n → 1 ≤ D i
  ok : ∀ i j, i < n → j < n → okV 2 (M i j)
  fr : ∀ i j, i < n → j < n → fr (M i j) (N i j) (D i)
theorem elimV_ok {n p : Nat} {M : Nat → Nat → V} (h : ∀ i j, i < n → j < n → okV 2 (M i j)) (hp : p < n) : ∀ i j, i < n → j < n → okV 2 (elimV p M i j) := fun i j hi hj =>
  okV_plus (h i j hi hj) (okV_times (okV_times (h i p hi hp) (star_law (h p p hp hp)).1) (h p j hp hj))
theorem Rp.step {n p : Nat} {M : Nat → Nat → V} {N : Nat → Nat → Nat} {D : Nat → Nat} (h : Rp n M N D) (hp : p < n) :
    (starV 2 (M p p) = .inf ∧ Rp n (elimV p M) N D) ∨ ∃ f, D p = N p p + f ∧ 1 ≤ f ∧ starV 2 (M p p) = .fin ((D p : Rat) / (f : Rat)) ∧ Rp n (elimV p M) (stepN N p f) (stepD D p f) := by
  rcases star2 (h.fr p p hp hp) (h.pos p hp) with hs | ⟨f, hf, hf1, _, hs⟩
  · left
    refine ⟨hs, h.pos, elimV_ok h.ok hp, fun i j hi hj => ?_⟩
    unfold elimV
    rw [hs]
    rcases cell_inf (h.ok i j hi hj) (h.ok i p hi hp) (h.ok p j hp hj) with e | e
    · rw [e]; exact h.fr i j hi hj
    · rw [e]; exact .inl rfl
  · right
    refine ⟨f, hf, hf1, hs, fun i hi => ?_, elimV_ok h.ok hp, fun i j hi hj => ?_⟩
    · unfold stepD; split
      · exact hf1
      · exact Nat.mul_pos (h.pos i hi) hf1
    · have hc := cell_fin (h.ok i j hi hj) (h.ok i p hi hp) (h.ok p j hp hj) (h.fr i j hi hj) (h.fr i p hi hp) (h.fr p j hp hj) (h.pos i hi) (h.pos p hp) hf1
      rw [← hs] at hc
      unfold stepN stepD
      by_cases e : i = p
      · subst e
        rw [if_pos rfl, if_pos rfl]
        refine Go.Proofs.YtlmfppjphblemaaGreatDoor.fr.cut (f := D i) ?_ (h.pos i hi)
        have : N i j * f + N i i * N i j = D i * N i j := by rw [hf]; grind
        rw [this] at hc; exact hc
      · rw [if_neg e, if_neg e]; exact hc
/-- .. and the sum of a row's numbers and its denominator is bounded. -/
def Rw (n : Nat) (M : Nat → Nat → V) (T : Nat → Nat) : Prop := ∃ N D, Rp n M N D ∧ ∀ i, i < n → D i + sN (N i) n ≤ T i
theorem Rw.mono {n : Nat} {M : Nat → Nat → V} {T T' : Nat → Nat} (h : Rw n M T) (hT : ∀ i, i < n → T i ≤ T' i) : Rw n M T' := by
  obtain ⟨N, D, h1, h2⟩ := h
  exact ⟨N, D, h1, fun i hi => Nat.le_trans (h2 i hi) (hT i hi)⟩
theorem Rw.pos {n : Nat} {M : Nat → Nat → V} {T : Nat → Nat} (h : Rw n M T) : ∀ i, i < n → 1 ≤ T i := fun i hi => by
  obtain ⟨N, D, h1, h2⟩ := h
  have := h1.pos i hi; have := h2 i hi; omega
theorem step_sum {n p f : Nat} {N : Nat → Nat → Nat} {D T : Nat → Nat} (hb : ∀ i, i < n → D i + sN (N i) n ≤ T i) (hp : p < n) (hf : D p = N p p + f) (i : Nat) (hi : i < n) :
    stepD D p f i + sN (stepN N p f i) n ≤ if i = p then T p else T i * T p := by
  have h1 := hb i hi
  have h2 := hb p hp
  unfold stepD
  by_cases e : i = p
  · subst e
    rw [if_pos rfl, if_pos rfl, sN_congr (g := N i) n (fun j _ => by unfold stepN; rw [if_pos rfl])]
    omega
  · rw [if_neg e, if_neg e, sN_congr (g := fun j => N i j * f + N p j * N i p) n (fun j _ => by unfold stepN; rw [if_neg e, Nat.mul_comm (N i p)]), sN_add, sN_mul, sN_mul]
    have h3 := le_sN (f := N i) n hp
    have h4 : (D i + sN (N i) n) * (f + sN (N p) n) ≤ T i * T p := Nat.mul_le_mul h1 (by omega)
    have h5 : sN (N p) n * N i p ≤ (D i + sN (N i) n) * sN (N p) n := by rw [Nat.mul_comm]; exact Nat.mul_le_mul_right _ (by omega)
    rw [Nat.mul_add] at h4
    have h6 : D i * f + (sN (N i) n * f) = (D i + sN (N i) n) * f := by rw [Nat.add_mul]
    omega
theorem Rw.step {n p : Nat} {M : Nat → Nat → V} {T : Nat → Nat} (h : Rw n M T) (hp : p < n) : Rw n (elimV p M) (fun i => if i = p then T p else T i * T p) := by
  have hpos := h.pos
  obtain ⟨N, D, h1, h2⟩ := h
  rcases h1.step hp with ⟨_, h3⟩ | ⟨f, hf, hf1, _, h3⟩
  · refine ⟨N, D, h3, fun i hi => ?_⟩
    have h4 := h2 i hi
    have h5 := hpos p hp
    try simp only
    split
    · rename_i e; rw [← e]; exact h4
    · exact Nat.le_trans h4 (Nat.le_mul_of_pos_right _ h5)
  · exact ⟨_, _, h3, step_sum h2 hp hf⟩

/-! ### The first two eliminations cancel -/
def twoN (N : Nat → Nat → Nat) (f c g : Nat) : Nat → Nat → Nat := fun i j =>
  if i = 0 then N 0 1 * N 1 j + N 0 j * c else if i = 1 then N 1 j * f + N 1 0 * N 0 j else N i j * g + (N 1 j * f + N 1 0 * N 0 j) * N i 1 + (N 0 1 * N 1 j + N 0 j * c) * N i 0
def twoD (D : Nat → Nat) (g : Nat) : Nat → Nat := fun i => if i < 2 then g else D i * g
theorem two_cut {n f g c : Nat} {M : Nat → Nat → V} {N : Nat → Nat → Nat} {D : Nat → Nat} (hD : ∀ i, i < n → 1 ≤ D i) (hn : 2 ≤ n) (hf : 1 ≤ f) (hg : 1 ≤ g) (hc : c * f = N 1 0 * N 0 1 + g)
    (h : Rp n M (stepN (stepN N 0 f) 1 g) (stepD (stepD D 0 f) 1 g)) : Rp n M (twoN N f c g) (twoD D g) := by
  refine ⟨fun i hi => ?_, h.ok, fun i j hi hj => ?_⟩
  · unfold twoD; split
    · exact hg
    · exact Nat.mul_pos (hD i hi) hg
  · have hr := h.fr i j hi hj
    unfold twoN twoD
    unfold stepN stepD at hr
    by_cases h0 : i = 0
    · subst h0
      simp only [show ¬ ((0 : Nat) = 1) by omega, show (0 : Nat) < 2 by omega, if_true, if_false] at hr ⊢
      simp only [show ¬ ((1 : Nat) = 0) by omega, if_true, if_false] at hr
      refine Go.Proofs.YtlmfppjphblemaaGreatDoor.fr.cut (f := f) ?_ hf
      have e1 : N 0 j * g + N 0 1 * (N 1 j * f + N 1 0 * N 0 j) = f * (N 0 1 * N 1 j + N 0 j * c) := by grind
      rw [e1] at hr; exact hr
    · by_cases h1 : i = 1
      · subst h1
        simp only [show ¬ ((1 : Nat) = 0) by omega, show (1 : Nat) < 2 by omega, if_true, if_false] at hr ⊢
        exact hr
      · simp only [h0, h1, show ¬ (i < 2) by omega, if_true, if_false] at hr ⊢
        simp only [show ¬ ((1 : Nat) = 0) by omega, if_true, if_false] at hr
        refine Go.Proofs.YtlmfppjphblemaaGreatDoor.fr.cut (f := f) ?_ hf
        have e1 : (N i j * f + N i 0 * N 0 j) * g + (N i 1 * f + N i 0 * N 0 1) * (N 1 j * f + N 1 0 * N 0 j) = f * (N i j * g + (N 1 j * f + N 1 0 * N 0 j) * N i 1 + (N 0 1 * N 1 j + N 0 j * c) * N i 0) := by grind
        have e2 : D i * f * g = f * (D i * g) := by grind
        rw [e1, e2] at hr; exact hr
theorem two_sum {n f g c : Nat} {N : Nat → Nat → Nat} {D T : Nat → Nat} (hn : 2 ≤ n) (hf : D 0 = N 0 0 + f) (hc : c * f = N 1 0 * N 0 1 + g) (hc1 : D 1 = N 1 1 + c)
    (hb : ∀ i, i < n → D i + sN (N i) n ≤ T i) (i : Nat) (hi : i < n) : twoD D g i + sN (twoN N f c g i) n ≤ if i < 2 then T 0 * T 1 else T i * (T 0 * T 1) := by
  have b0 := hb 0 (by omega)
  have b1 := hb 1 (by omega)
  have s01 := le_sN (f := N 0) n (show 1 < n by omega)
  have s10 := le_sN (f := N 1) n (show 0 < n by omega)
  -- A + g and B + g
  have hA : (N 0 1 * sN (N 1) n + sN (N 0) n * c) + g ≤ T 0 * T 1 := by
    have h1 : (D 0 + sN (N 0) n) * (D 1 + sN (N 1) n) ≤ T 0 * T 1 := Nat.mul_le_mul b0 b1
    have h2 : N 0 1 * sN (N 1) n ≤ sN (N 0) n * sN (N 1) n := Nat.mul_le_mul_right _ s01
    have h3 : g ≤ f * c := by rw [Nat.mul_comm, hc]; exact Nat.le_add_left _ _
    have h4 : (D 0 + sN (N 0) n) * (D 1 + sN (N 1) n) = (N 0 0 + f) * (N 1 1 + c) + (N 0 0 + f) * sN (N 1) n + sN (N 0) n * (N 1 1 + c) + sN (N 0) n * sN (N 1) n := by rw [← hf, ← hc1]; grind
    have h5 : (N 0 0 + f) * (N 1 1 + c) = N 0 0 * N 1 1 + N 0 0 * c + f * N 1 1 + f * c := by grind
    have h6 : sN (N 0) n * (N 1 1 + c) = sN (N 0) n * N 1 1 + sN (N 0) n * c := by rw [Nat.mul_add]
    omega
  have hB : (sN (N 1) n * f + N 1 0 * sN (N 0) n) + g ≤ T 0 * T 1 := by
    have h1 : (D 0 + sN (N 0) n) * (D 1 + sN (N 1) n) ≤ T 0 * T 1 := Nat.mul_le_mul b0 b1
    have h2 : N 1 0 * sN (N 0) n ≤ sN (N 1) n * sN (N 0) n := Nat.mul_le_mul_right _ s10
    have h3 : g ≤ f * c := by rw [Nat.mul_comm, hc]; exact Nat.le_add_left _ _
    have h4 : (D 0 + sN (N 0) n) * (D 1 + sN (N 1) n) = (N 0 0 + f) * (N 1 1 + c) + (N 0 0 * sN (N 1) n + sN (N 1) n * f) + sN (N 0) n * (N 1 1 + c) + sN (N 1) n * sN (N 0) n := by rw [← hf, ← hc1]; grind
    have h5 : (N 0 0 + f) * (N 1 1 + c) = N 0 0 * N 1 1 + N 0 0 * c + f * N 1 1 + f * c := by grind
    omega
  unfold twoD
  by_cases h0 : i = 0
  · subst h0
    rw [if_pos (by omega), if_pos (by omega), sN_congr (g := fun j => N 1 j * N 0 1 + N 0 j * c) n (fun j _ => by unfold twoN; rw [if_pos rfl, Nat.mul_comm]), sN_add, sN_mul, sN_mul, Nat.mul_comm (sN (N 1) n)]
    omega
  · by_cases h1 : i = 1
    · subst h1
      rw [if_pos (by omega), if_pos (by omega), sN_congr (g := fun j => N 1 j * f + N 0 j * N 1 0) n (fun j _ => by unfold twoN; rw [if_neg h0, if_pos rfl, Nat.mul_comm (N 1 0)]), sN_add, sN_mul, sN_mul, Nat.mul_comm (sN (N 0) n)]
      omega
    · rw [if_neg (by omega), if_neg (by omega), sN_congr (g := fun j => N i j * g + (N 1 j * f + N 0 j * N 1 0) * N i 1 + (N 1 j * N 0 1 + N 0 j * c) * N i 0) n (fun j _ => by unfold twoN; rw [if_neg h0, if_neg h1, Nat.mul_comm (N 1 0), Nat.mul_comm (N 0 1)])]
      rw [sN_add, sN_add, sN_mul, sN_mul, sN_mul, sN_add, sN_mul, sN_mul, sN_add, sN_mul, sN_mul]
      have b2 := hb i hi
      have s2 := le_sN2 (f := N i) hn
      have hA' : sN (N 1) n * N 0 1 + sN (N 0) n * c + g ≤ T 0 * T 1 := by rw [Nat.mul_comm (sN (N 1) n)]; exact hA
      have hB' : sN (N 1) n * f + sN (N 0) n * N 1 0 + g ≤ T 0 * T 1 := by rw [Nat.mul_comm (sN (N 0) n)]; exact hB
      generalize sN (N 1) n * N 0 1 + sN (N 0) n * c = A at hA' ⊢
      generalize sN (N 1) n * f + sN (N 0) n * N 1 0 = B at hB' ⊢
      generalize T 0 * T 1 = Q at hA' hB' ⊢
      obtain ⟨r, hr⟩ : ∃ r, D i + sN (N i) n = r + N i 0 + N i 1 := ⟨D i + sN (N i) n - N i 0 - N i 1, by omega⟩
      have e1 : D i * g + (sN (N i) n * g + B * N i 1 + A * N i 0) = r * g + N i 0 * (A + g) + N i 1 * (B + g) := by
        have : D i * g + sN (N i) n * g = (r + N i 0 + N i 1) * g := by rw [← hr, Nat.add_mul]
        grind
      rw [e1]
      have e2 : r * g ≤ r * Q := Nat.mul_le_mul_left _ (by omega)
      have e3 : N i 0 * (A + g) ≤ N i 0 * Q := Nat.mul_le_mul_left _ hA'
      have e4 : N i 1 * (B + g) ≤ N i 1 * Q := Nat.mul_le_mul_left _ hB'
      have e5 : (r + N i 0 + N i 1) * Q ≤ T i * Q := Nat.mul_le_mul_right _ (by omega)
      have e6 : (r + N i 0 + N i 1) * Q = r * Q + N i 0 * Q + N i 1 * Q := by rw [Nat.add_mul, Nat.add_mul]
      omega
theorem Rw.two {n : Nat} {M : Nat → Nat → V} {T : Nat → Nat} (h : Rw n M T) (hn : 2 ≤ n) : Rw n (elimV 1 (elimV 0 M)) (fun i => if i < 2 then T 0 * T 1 else T i * (T 0 * T 1)) := by
  have hpos := h.pos
  have p0 := hpos 0 (by omega)
  have p1 := hpos 1 (by omega)
  have h' := h
  obtain ⟨N, D, h1, h2⟩ := h
  rcases h1.step (p := 0) (by omega) with ⟨_, h3⟩ | ⟨f, hf, hf1, _, h3⟩
  · refine (Rw.step (T := T) ⟨N, D, h3, h2⟩ (p := 1) (by omega)).mono fun i hi => ?_
    have p2 := hpos i hi
    try simp only
    by_cases e1 : i = 1
    · rw [if_pos e1, if_pos (by omega)]; exact Nat.le_mul_of_pos_left _ p0
    · rw [if_neg e1]
      by_cases e0 : i = 0
      · subst e0; rw [if_pos (by omega)]; exact Nat.le_refl _
      · rw [if_neg (by omega)]; exact Nat.mul_le_mul_left _ (Nat.le_mul_of_pos_left _ p0)
  · have h4 := step_sum h2 (by omega) hf
    rcases h3.step (p := 1) (by omega) with ⟨_, h5⟩ | ⟨g, hg, hg1, _, h5⟩
    · refine Rw.mono ⟨_, _, h5, h4⟩ fun i hi => ?_
      by_cases e0 : i = 0
      · subst e0; rw [if_pos rfl, if_pos (by omega)]; exact Nat.le_mul_of_pos_right _ p1
      · rw [if_neg e0]
        by_cases e1 : i = 1
        · subst e1; rw [if_pos (by omega), Nat.mul_comm]; exact Nat.le_refl _
        · rw [if_neg (by omega)]; exact Nat.mul_le_mul_left _ (Nat.le_mul_of_pos_right _ p1)
    · have hg' : D 1 * f = N 1 1 * f + N 1 0 * N 0 1 + g := hg
      have hlt : N 1 1 < D 1 := by
        refine Nat.lt_of_mul_lt_mul_right (a := f) ?_
        omega
      obtain ⟨c, hc⟩ : ∃ c, D 1 = N 1 1 + c := ⟨D 1 - N 1 1, by omega⟩
      have hcf : c * f = N 1 0 * N 0 1 + g := by
        rw [hc, Nat.add_mul] at hg'; omega
      exact ⟨_, _, two_cut h1.pos hn hf1 hg1 hcf h5, two_sum hn hf hcf hc h2⟩

/-! ### All eliminations -/
def elimsV (M : Nat → Nat → V) : Nat → Nat → Nat → V
  | 0 => M
  | p + 1 => elimV p (elimsV M p)
/-- What bounds the rows. -/
structure Few (n P : Nat) (T : Nat → Nat) : Prop where
  one : ∀ i, i < n → T i ≤ P
  zero : ∀ i, i < n → i ≠ 0 → T i * T 0 ≤ P
  two : ∀ i, i < n → 2 ≤ i → T i * (T 0 * T 1) ≤ P
theorem Rw.sq {n p P : Nat} {M : Nat → Nat → V} (h : Rw n M (fun _ => P)) (hp : p < n) : Rw n (elimV p M) (fun _ => P * P) := (h.step hp).mono fun i hi => by
  try simp only
  split
  · exact Nat.le_mul_of_pos_left _ (h.pos i hi)
  · exact Nat.le_refl _
theorem Rw.all {n P : Nat} {M : Nat → Nat → V} {T : Nat → Nat} (h : Rw n M T) (hF : Few n P T) (hn : n ≤ 5) (hP : 1 ≤ P) :
    (∀ p, p < n → Rw n (elimsV M p) (fun _ => P ^ 4)) ∧ Rw n (elimsV M n) (fun _ => P ^ 8) := by
  have w1 : P ≤ P ^ 4 := Nat.le_self_pow (by omega) P
  have w8 : P ≤ P ^ 8 := Nat.le_self_pow (by omega) P
  have q2 : P * P = P ^ 2 := (Nat.pow_two P).symm
  have q4 : P ^ 2 * P ^ 2 = P ^ 4 := by rw [← Nat.pow_add]
  have q8 : P ^ 4 * P ^ 4 = P ^ 8 := by rw [← Nat.pow_add]
  have w24 : P ^ 2 ≤ P ^ 4 := Nat.pow_le_pow_right hP (by omega)
  have w28 : P ^ 2 ≤ P ^ 8 := Nat.pow_le_pow_right hP (by omega)
  have w48 : P ^ 4 ≤ P ^ 8 := Nat.pow_le_pow_right hP (by omega)
  have r0 : Rw n (elimsV M 0) (fun _ => P) := h.mono hF.one
  have r1 : 1 ≤ n → Rw n (elimsV M 1) (fun _ => P) := fun hn1 => (h.step (p := 0) (by omega)).mono fun i hi => by
    try simp only
    split
    · exact hF.one 0 (by omega)
    · rename_i e; exact hF.zero i hi e
  have r2 : 2 ≤ n → Rw n (elimsV M 2) (fun _ => P) := fun hn2 => (h.two hn2).mono fun i hi => by
    try simp only
    split
    · have := hF.zero 1 (by omega) (by omega); rw [Nat.mul_comm]; exact this
    · exact hF.two i hi (by omega)
  have r3 : 3 ≤ n → Rw n (elimsV M 3) (fun _ => P ^ 2) := fun hn3 => q2 ▸ (r2 (by omega)).sq (p := 2) (by omega)
  have r4 : 4 ≤ n → Rw n (elimsV M 4) (fun _ => P ^ 4) := fun hn4 => q4 ▸ (r3 (by omega)).sq (p := 3) (by omega)
  have r5 : 5 ≤ n → Rw n (elimsV M 5) (fun _ => P ^ 8) := fun hn5 => q8 ▸ (r4 (by omega)).sq (p := 4) (by omega)
  refine ⟨fun p hp => ?_, ?_⟩
  · have : p = 0 ∨ p = 1 ∨ p = 2 ∨ p = 3 ∨ p = 4 := by omega
    rcases this with rfl | rfl | rfl | rfl | rfl
    · exact r0.mono fun _ _ => w1
    · exact (r1 (by omega)).mono fun _ _ => w1
    · exact (r2 (by omega)).mono fun _ _ => w1
    · exact (r3 (by omega)).mono fun _ _ => w24
    · exact r4 (by omega)
  · have : n = 0 ∨ n = 1 ∨ n = 2 ∨ n = 3 ∨ n = 4 ∨ n = 5 := by omega
    rcases this with rfl | rfl | rfl | rfl | rfl | rfl
    · exact r0.mono fun _ _ => w8
    · exact (r1 (by omega)).mono fun _ _ => w8
    · exact (r2 (by omega)).mono fun _ _ => w8
    · exact (r3 (by omega)).mono fun _ _ => w28
    · exact (r4 (by omega)).mono fun _ _ => w48
    · exact r5 (by omega)
end Go.Proofs.YtlmfppjphblemaaGreatDoor

namespace Go.Proofs.YtlmfppjphblemaaGreatDoor
open Go Go.RowKit
set_option maxRecDepth 100000
set_option linter.unusedSimpArgs false
set_option linter.unusedVariables false
set_option exponentiation.threshold 2000

theorem KK.not2 {k : KK} (h : k.1 ≠ 2) : k.1 = 1 ∨ k.1 = 3 := by rcases k.2 with h1 | h1 | h1 <;> omega
theorem fr_of {v : V} {T : Nat} (hv : okV 2 v) (h : bd T v) (hT : 1 ≤ T) : ∃ a d, 1 ≤ d ∧ a + d ≤ T ∧ fr v a d := by
  cases v with
  | inf => exact ⟨0, 1, Nat.le_refl _, by omega, .inl rfl⟩
  | low => simp [okV] at hv
  | fin q =>
    have hq : 0 ≤ q := by simpa [okV] using hv
    refine ⟨q.num.natAbs, q.den, q.den_pos, h, .inr (congrArg V.fin ?_)⟩
    have h1 : (q.num.natAbs : Int) = q.num := Int.natAbs_of_nonneg (Rat.num_nonneg.2 hq)
    have h2 : ((q.num.natAbs : Nat) : Rat) = ((q.num.natAbs : Int) : Rat) := rfl
    rw [h2, h1]
    rw [← Rat.mkRat_eq_div, Rat.mkRat_self]

/-! ### Kinds 1 and 3 -/
theorem elim_13 {k : KK} (hk : k.1 = 1 ∨ k.1 = 3) {n p T : Nat} {M : Nat → Nat → RK k} (hT : 1 ≤ T) (h : ∀ i j, i < n → j < n → bd T (M i j).1) (hp : p < n) :
    (∀ i j, i < n → j < n → bd (T * 2 * T) (CSR.elim p M i j).1) ∧ (T * 2 * T ≤ 10 ^ 399 → FitE n p M) := by
  have h1 : ∀ i, i < n → bd (T * 2) (M i p * CSR.star (M p p)).1 := fun i hi => bd_times (h i p hi hp) (bd_star hk (Nat.le_refl _)) hT (by omega)
  have h2 : ∀ i j, i < n → j < n → bd (T * 2 * T) (M i p * CSR.star (M p p) * M p j).1 := fun i j hi hj => bd_times (h1 i hi) (h p j hp hj) (by omega) hT
  have hm : T ≤ T * 2 * T := Nat.le_mul_of_pos_left _ (by omega)
  have hm2 : T * 2 ≤ T * 2 * T := Nat.le_mul_of_pos_right _ (by omega)
  have h3 : ∀ i j, i < n → j < n → bd (T * 2 * T) (CSR.elim p M i j).1 := fun i j hi hj => bd_max (by omega) ((h i j hi hj).mono hm) (h2 i j hi hj)
  refine ⟨h3, fun hb => ⟨(bd_star hk (Nat.le_refl 2)).fit (Nat.le_trans (by omega) hb), fun i hi => (h1 i hi).fit (Nat.le_trans hm2 hb), fun i j hi hj => (h2 i j hi hj).fit hb, fun i j hi hj => (h3 i j hi hj).fit hb⟩⟩
/-- How far the entries can grow in p steps. -/
def up : Nat → Nat → Nat
  | 0, T => T
  | p + 1, T => up p T * 2 * up p T
theorem up_pos {T : Nat} (hT : 1 ≤ T) : ∀ p, 1 ≤ up p T
  | 0 => hT
  | p + 1 => Nat.mul_pos (by have := up_pos hT p; omega) (up_pos hT p)
theorem up_mono {T : Nat} (hT : 1 ≤ T) {p q : Nat} (h : p ≤ q) : up p T ≤ up q T := by
  induction q with
  | zero => have : p = 0 := by omega
            subst this; exact Nat.le_refl _
  | succ q ih =>
    by_cases e : p = q + 1
    · subst e; exact Nat.le_refl _
    · exact Nat.le_trans (ih (by omega)) (Nat.le_mul_of_pos_left _ (by have := up_pos hT q; omega))
theorem up_lim : up 5 10000 ≤ 10 ^ 340 := by decide +kernel
theorem elims_13 {k : KK} (hk : k.1 = 1 ∨ k.1 = 3) {n T : Nat} {M : Nat → Nat → RK k} (hT : 1 ≤ T) (h : ∀ i j, i < n → j < n → bd T (M i j).1) : ∀ p, p ≤ n → ∀ i j, i < n → j < n → bd (up p T) (CSR.elims M p i j).1
  | 0, _ => h
  | p + 1, hp => (elim_13 hk (up_pos hT p) (elims_13 hk hT h p (by omega)) (by omega)).1
theorem fitM_13 {k : KK} (hk : k.1 = 1 ∨ k.1 = 3) {n : Nat} {M : Nat → Nat → RK k} (hn : n ≤ 5) (h : ∀ i j, i < n → j < n → bd 10000 (M i j).1) :
    FitM n M ∧ ∀ i j, i < n → j < n → bd (10 ^ 340) (CSR.starM M n i j).1 := by
  have hl : ∀ p, p ≤ 5 → up p 10000 ≤ 10 ^ 340 := fun p hp => Nat.le_trans (up_mono (by omega) hp) up_lim
  have h340 : (10 : Nat) ^ 340 ≤ 10 ^ 399 := Nat.pow_le_pow_right (by omega) (by omega)
  have h2 : 2 ≤ (10 : Nat) ^ 340 := Nat.le_trans (show 2 ≤ 10 ^ 1 by omega) (Nat.pow_le_pow_right (by omega) (by omega))
  have hb : ∀ i j, i < n → j < n → bd (10 ^ 340) (CSR.elims M n i j).1 := fun i j hi hj => (elims_13 hk (by omega) h n (Nat.le_refl _) i j hi hj).mono (hl n hn)
  refine ⟨⟨fun p hp => ?_, fun i hi => (bd_max (by omega) (hb i i hi hi) (bd_one h2)).fit h340⟩, fun i j hi hj => bd_max (by omega) (hb i j hi hj) ?_⟩
  · exact (elim_13 hk (up_pos (by omega) p) (elims_13 hk (by omega) h p (by omega)) hp).2 (Nat.le_trans (hl (p + 1) (by omega)) h340)
  · unfold CSR.eye; split
    · exact bd_one h2
    · exact bd_zero (by omega)


/-! ### Kind 2 -/
def valM {k : KK} (M : Nat → Nat → RK k) : Nat → Nat → V := fun i j => (M i j).1
def elimK (kd : Int) (p : Nat) (M : Nat → Nat → V) : Nat → Nat → V := fun i j => plusV kd (M i j) (timesV kd (timesV kd (M i p) (starV kd (M p p))) (M p j))
theorem valM_elim {k : KK} (M : Nat → Nat → RK k) (p : Nat) : valM (CSR.elim p M) = elimK k.1 p (valM M) := rfl
theorem valM_elims {k : KK} (hk : k.1 = 2) (M : Nat → Nat → RK k) (p : Nat) : valM (CSR.elims M p) = elimsV (valM M) p := by
  induction p with
  | zero => rfl
  | succ p ih =>
    show valM (CSR.elim p (CSR.elims M p)) = elimV p (elimsV (valM M) p)
    rw [valM_elim, ih, hk]; rfl
theorem valM_ok {k : KK} (hk : k.1 = 2) (M : Nat → Nat → RK k) (i j : Nat) : okV 2 (valM M i j) := by
  obtain ⟨kv, hkv⟩ := k
  change kv = 2 at hk
  subst hk
  exact (M i j).2
theorem Rw.bd {n : Nat} {M : Nat → Nat → V} {T : Nat → Nat} (h : Rw n M T) {i j : Nat} (hi : i < n) (hj : j < n) : bd (T i) (M i j) := by
  obtain ⟨N, D, h1, h2⟩ := h
  refine ((h1.fr i j hi hj).bd (h1.pos i hi)).mono ?_
  have := h2 i hi; have := le_sN (f := N i) n hj; omega
theorem fitE_2 {n p S : Nat} {M : Nat → Nat → V} (h : Rw n M (fun _ => S)) (hp : p < n) : bd (2 * S) (starV 2 (M p p)) ∧ (∀ i, i < n → bd (S * (2 * S)) (timesV 2 (M i p) (starV 2 (M p p)))) ∧
    ∀ i j, i < n → j < n → bd (S * S) (timesV 2 (timesV 2 (M i p) (starV 2 (M p p))) (M p j)) := by
  have hS := h.pos p hp
  have hb := fun i hi => h.bd (i := i) (j := p) hi hp
  obtain ⟨N, D, h1, h2⟩ := h
  have h2 : ∀ i, i < n → D i + sN (N i) n ≤ S := h2
  have hS : 1 ≤ S := hS
  have hz : ∀ (w : V), okV 2 w → plusV 2 (.fin 0) w = w := fun w hw => by
    unfold plusV addV
    cases w <;> simp_all [okV, Rat.zero_add]
  have hs2 : bd (2 * S) (starV 2 (M p p)) := by
    rcases h1.step hp with ⟨hs, _⟩ | ⟨f, hf, hf1, hs, _⟩
    · rw [hs]; trivial
    · rw [hs]
      have h3 := h2 p hp
      exact (fr.bd (v := .fin ((D p : Rat) / (f : Rat))) (.inr rfl) hf1).mono (by omega)
  refine ⟨hs2, fun i hi => bd_times (hb i hi) hs2 hS (by omega), fun i j hi hj => ?_⟩
  have ho : okV 2 (timesV 2 (timesV 2 (M i p) (starV 2 (M p p))) (M p j)) := okV_times (okV_times (h1.ok i p hi hp) (star_law (h1.ok p p hp hp)).1) (h1.ok p j hp hj)
  have o0 : okV 2 (.fin 0) := .inr ⟨.inl rfl, Rat.le_refl⟩
  rw [← hz _ ho]
  rcases h1.step hp with ⟨hs, _⟩ | ⟨f, hf, hf1, hs, _⟩
  · rw [hs]
    rcases cell_inf o0 (h1.ok i p hi hp) (h1.ok p j hp hj) with e | e
    · rw [e]; exact bd_zero (k := 2) (Nat.mul_pos hS hS)
    · rw [e]; trivial
  · rw [hs]
    have hc := cell_fin o0 (h1.ok i p hi hp) (h1.ok p j hp hj) (a := 0) (d := D i) (.inr (congrArg V.fin (by rw [Rat.div_def]; simp))) (h1.fr i p hi hp) (h1.fr p j hp hj) (h1.pos i hi) (h1.pos p hp) hf1
    refine (hc.bd (Nat.mul_pos (h1.pos i hi) hf1)).mono ?_
    have a1 := h2 i hi
    have a2 := h2 p hp
    have s1 := le_sN (f := N i) n hp
    have s2 := le_sN (f := N p) n hj
    have h3 : (N i p + D i) * (N p j + f) ≤ S * S := Nat.mul_le_mul (by omega) (by omega)
    have h4 : (N i p + D i) * (N p j + f) = N i p * N p j + N i p * f + D i * N p j + D i * f := by grind
    omega
theorem fitM_2 {k : KK} (hk : k.1 = 2) {n P : Nat} {M : Nat → Nat → RK k} {T : Nat → Nat} (h : Rw n (valM M) T) (hF : Few n P T) (hn : n ≤ 5) (hP : 1 ≤ P) (hP40 : P ≤ 10 ^ 40) :
    FitM n M ∧ Rw n (valM (CSR.starM M n)) (fun _ => 2 * P ^ 8) := by
  obtain ⟨h1, h2⟩ := h.all hF hn hP
  have l8 : 2 * P ^ 8 ≤ 10 ^ 399 := Nat.le_trans (Nat.mul_le_mul_left 2 (Nat.pow_le_pow_left hP40 8)) (by decide +kernel)
  have q8 : P ^ 4 * P ^ 4 = P ^ 8 := by rw [← Nat.pow_add]
  have w48 : P ^ 4 ≤ P ^ 8 := Nat.pow_le_pow_right hP (by omega)
  have hR : Rw n (valM (CSR.starM M n)) (fun _ => 2 * P ^ 8) := by
    rw [← valM_elims hk] at h2
    obtain ⟨N, D, h3, h4⟩ := h2
    refine ⟨fun i j => N i j + if i = j then D i else 0, D, ⟨h3.pos, fun i j hi hj => ?_, fun i j hi hj => ?_⟩, fun i hi => ?_⟩
    · exact valM_ok hk _ i j
    · show fr (plusV k.1 (CSR.elims M n i j).1 (CSR.eye i j : RK k).1) _ _
      have ho := h3.ok i j hi hj
      have hr := h3.fr i j hi hj
      show fr (plusV k.1 (valM (CSR.elims M n) i j) (CSR.eye i j : RK k).1) _ _
      unfold CSR.eye
      by_cases e : i = j
      · rw [if_pos e, if_pos e]
        show fr (plusV k.1 _ (oneV k.1)) _ _
        rw [hk]
        have hd := cast_ne (h3.pos i hi)
        show fr (plusV 2 _ (.fin 1)) _ _
        rcases hr with hr | hr
        · rw [hr, inf_plus2]; exact .inl rfl
        · rw [hr]
          refine .inr (congrArg V.fin ?_)
          rw [Rat.natCast_add]; grind
      · rw [if_neg e, if_neg e, Nat.add_zero]
        show fr (plusV k.1 _ (zeroV k.1)) _ _
        rw [hk]
        show fr (plusV 2 _ (.fin 0)) _ _
        rw [plus2_zero _ ho]; exact hr
    · have a1 : D i + sN (N i) n ≤ P ^ 8 := h4 i hi
      show _ ≤ 2 * P ^ 8
      have a2 : sN (fun j => if i = j then D i else 0) n ≤ D i := by
        clear a1 h3 h4 hi
        have key : ∀ m, sN (fun j => if i = j then D i else 0) m = if i < m then D i else 0 := fun m => by
          induction m with
          | zero => simp [sN]
          | succ m ih =>
            show sN (fun j => if i = j then D i else 0) m + (if i = m then D i else 0) = _
            rw [ih]
            by_cases e1 : i < m
            · rw [if_pos e1, if_neg (by omega), if_pos (by omega)]; omega
            · by_cases e2 : i = m
              · rw [if_neg e1, if_pos e2, if_pos (by omega)]; omega
              · rw [if_neg e1, if_neg e2, if_neg (by omega)]
        rw [key]; split <;> omega
      rw [sN_add]; omega
  refine ⟨⟨fun p hp => ?_, fun i hi => ?_⟩, hR⟩
  · have h3 := h1 p hp
    rw [← valM_elims hk] at h3
    obtain ⟨e1, e2, e3⟩ := fitE_2 h3 hp
    have hs : Rw n (valM (CSR.elims M (p + 1))) (fun _ => P ^ 8) := by
      rw [valM_elims hk]
      by_cases e : p + 1 = n
      · rw [e]; exact h2
      · exact (h1 (p + 1) (by omega)).mono fun _ _ => w48
    have hk' : ∀ x y z : V, timesV 2 x y = timesV k.1 x y ∧ starV 2 z = starV k.1 z := fun x y z => by rw [hk]; exact ⟨rfl, rfl⟩
    refine ⟨?_, fun i hi => ?_, fun i j hi hj => ?_, fun i j hi hj => ((hs.bd hi hj).mono (by omega)).fit l8⟩
    · have := (e1.mono (by omega : 2 * P ^ 4 ≤ 2 * P ^ 8)).fit l8
      rw [(hk' .inf .inf _).2] at this; exact this
    · have := ((e2 i hi).mono (show P ^ 4 * (2 * P ^ 4) ≤ 2 * P ^ 8 by rw [← q8]; grind)).fit l8
      rw [(hk' _ _ .inf).1, (hk' .inf .inf _).2] at this; exact this
    · have := ((e3 i j hi hj).mono (show P ^ 4 * P ^ 4 ≤ 2 * P ^ 8 by omega)).fit l8
      rw [(hk' _ _ .inf).1, (hk' _ _ .inf).1, (hk' .inf .inf _).2] at this; exact this
  · have := (hR.bd hi hi).fit l8
    unfold valM CSR.starM CSR.eye at this
    rw [if_pos rfl] at this; exact this
end Go.Proofs.YtlmfppjphblemaaGreatDoor

namespace Go.Proofs.YtlmfppjphblemaaGreatDoor
open Go Go.RowKit
set_option maxRecDepth 100000
set_option linter.unusedSimpArgs false
set_option linter.unusedVariables false
set_option exponentiation.threshold 2000

/-! ### Few digits -/
def dgn (s : ByteArray) (i : Nat) : Nat := ((bts s).take i).countP dgt
theorem dgn_all (s : ByteArray) : dgn s s.size = (bts s).countP dgt := by unfold dgn; rw [List.take_of_length_le (by rw [bts_len]; exact Nat.le_refl _)]
theorem count_dec (n : Nat) : (dec n).countP dgt = (dec n).length := List.countP_eq_length.2 fun a ha => List.all_eq_true.1 (dgts_dec n) a ha
theorem digits_bd {q : Rat} (h : (txtL q).countP dgt ≤ 4) : bd 10000 (.fin q) := by
  show q.num.natAbs + q.den ≤ 10000
  unfold txtL at h
  have h0 : (if negQ q then [45] else [] : List UInt8).countP dgt = 0 := by cases negQ q <;> decide
  have hn : (dec q.num.natAbs).length ≤ 4 → q.num.natAbs < 10 ^ (dec q.num.natAbs).length := fun _ => (dec_len_lt.1 (Nat.le_refl _)).1
  have p1 := dec_pos q.num.natAbs
  rw [List.countP_append, List.countP_append, h0, count_dec] at h
  by_cases hd : q.den = 1
  · rw [if_pos hd] at h
    have := hn (by simpa using h)
    have h2 : (10 : Nat) ^ (dec q.num.natAbs).length ≤ 10 ^ 4 := Nat.pow_le_pow_right (by omega) (by simpa using h)
    omega
  · rw [if_neg hd, List.countP_cons, count_dec, if_neg (by decide)] at h
    have p2 := dec_pos q.den
    have h1 : q.num.natAbs < 10 ^ 3 := (dec_len_lt.1 (show (dec q.num.natAbs).length ≤ 3 by omega)).1
    have h2 : q.den < 10 ^ 3 := (dec_len_lt.1 (show (dec q.den).length ≤ 3 by omega)).1
    omega
theorem short_bd {k : KK} {s : ByteArray} {x : RK k} (h : Is k 0 s x) (hs : dgn s s.size ≤ 4) : bd 10000 x.1 := by
  obtain ⟨hv, _⟩ := vprs_some.1 h.vprs
  obtain ⟨rfl, _⟩ := rdV_some hv
  rw [dgn_all] at hs
  generalize x.1 = v at hs
  cases v with
  | inf => trivial
  | low => trivial
  | fin q =>
    refine digits_bd ?_
    have : bts (vtxt (.fin q)) = txtL q := bts_str _
    rw [this] at hs; exact hs

theorem add_val {k : KK} (hk : k.1 = 2) (x y : RK k) : (x + y).1 = plusV 2 x.1 y.1 := by
  have h : ∀ (kd : Int) (a b : V), kd = 2 → plusV kd a b = plusV 2 a b := by rintro _ a b rfl; rfl
  exact h _ _ _ hk
theorem mul_val {k : KK} (hk : k.1 = 2) (x y : RK k) : (x * y).1 = timesV 2 x.1 y.1 := by
  have h : ∀ (kd : Int) (a b : V), kd = 2 → timesV kd a b = timesV 2 a b := by rintro _ a b rfl; rfl
  exact h _ _ _ hk
theorem zero_val {k : KK} (hk : k.1 = 2) (q : Nat) : fr (CSR.zero : RK k).1 0 q := by
  refine .inr ?_
  show zeroV k.1 = _
  rw [hk]; exact congrArg V.fin (by rw [Rat.div_def]; simp)
theorem sN_le {f : Nat → Nat} {m : Nat} : ∀ n, m ≤ n → sN f m ≤ sN f n
  | 0, h => by have : m = 0 := by omega
               subst this; exact Nat.le_refl _
  | n + 1, h => by
    by_cases e : m = n + 1
    · subst e; exact Nat.le_refl _
    · exact Nat.le_trans (sN_le n (by omega)) (Nat.le_add_right _ _)

/-! ### Matrices with few entries -/
theorem sN_two {f : Nat → Nat} {i j : Nat} : ∀ n, i < n → j < n → i ≠ j → f i + f j ≤ sN f n
  | 0, h, _, _ => by omega
  | n + 1, hi, hj, hij => by
    show _ ≤ sN f n + f n
    by_cases e1 : i = n
    · subst e1; have := le_sN (f := f) i (show j < i by omega); omega
    · by_cases e2 : j = n
      · subst e2; have := le_sN (f := f) j (show i < j by omega); omega
      · have := sN_two (f := f) n (by omega) (by omega) hij; omega
theorem sN_three {f : Nat → Nat} {i : Nat} : ∀ n, i < n → 2 ≤ i → f i + f 0 + f 1 ≤ sN f n
  | 0, h, _ => by omega
  | n + 1, hi, h2 => by
    show _ ≤ sN f n + f n
    by_cases e1 : i = n
    · subst e1; have := le_sN2 (f := f) (n := i) h2; omega
    · have := sN_three (f := f) n (by omega) h2; omega
theorem few_pow {n : Nat} {c : Nat → Nat} (h : sN c n ≤ 10) : Few n (10 ^ 40) (fun i => 10000 ^ c i) := by
  have hp : ∀ m, m ≤ 10 → 10000 ^ m ≤ 10 ^ 40 := fun m hm => by
    have : (10000 : Nat) ^ 10 = 10 ^ 40 := by decide
    rw [← this]; exact Nat.pow_le_pow_right (by omega) hm
  refine ⟨fun i hi => hp _ (Nat.le_trans (le_sN n hi) h), fun i hi h0 => ?_, fun i hi h2 => ?_⟩
  · show 10000 ^ c i * 10000 ^ c 0 ≤ _
    rw [← Nat.pow_add]; exact hp _ (Nat.le_trans (sN_two n hi (by omega) h0) h)
  · show 10000 ^ c i * (10000 ^ c 0 * 10000 ^ c 1) ≤ _
    rw [← Nat.pow_add, ← Nat.pow_add]; exact hp _ (by have := sN_three (f := c) n hi h2; omega)
/-- The entries of a row over one denominator. -/
theorem row_of {x : Nat → V} {c : Nat → Nat} : ∀ m, (∀ j, j < m → okV 2 (x j) ∧ bd 10000 (x j) ∧ (x j = .fin 0 ∨ 1 ≤ c j)) → ∃ N D, 1 ≤ D ∧ (∀ j, j < m → fr (x j) (N j) D) ∧ D + sN N m ≤ 10000 ^ sN c m
  | 0, _ => ⟨fun _ => 0, 1, Nat.le_refl _, fun j hj => by omega, by show 1 + 0 ≤ 10000 ^ 0; omega⟩
  | m + 1, h => by
    obtain ⟨N, D, hD, hN, hs⟩ := row_of m fun j hj => h j (by omega)
    obtain ⟨ho, hb, hz⟩ := h m (by omega)
    obtain ⟨a, d, hd, hl, hf⟩ : ∃ a d, 1 ≤ d ∧ a + d ≤ 10000 ^ c m ∧ fr (x m) a d := by
      rcases hz with e | e
      · exact ⟨0, 1, Nat.le_refl _, by have := Nat.pow_pos (n := c m) (show 0 < 10000 by omega); omega, .inr (by rw [e]; exact congrArg V.fin (by rw [Rat.div_def]; simp))⟩
      · obtain ⟨a, d, h1, h2, h3⟩ := fr_of ho hb (by omega)
        exact ⟨a, d, h1, Nat.le_trans h2 (Nat.le_self_pow (by omega) _), h3⟩
    refine ⟨fun j => if j = m then a * D else N j * d, D * d, Nat.mul_pos hD hd, fun j hj => ?_, ?_⟩
    · have hD' := cast_ne hD
      have hd' := cast_ne hd
      by_cases e : j = m
      · subst e
        simp only [if_true]
        rcases hf with hf | hf
        · exact .inl hf
        · refine .inr (hf.trans (congrArg V.fin ?_))
          rw [Rat.natCast_mul, Rat.natCast_mul]; grind
      · simp only [if_neg e]
        rcases hN j (by omega) with hf | hf
        · exact .inl hf
        · refine .inr (hf.trans (congrArg V.fin ?_))
          rw [Rat.natCast_mul, Rat.natCast_mul]; grind
    · show D * d + (sN _ m + (if m = m then a * D else N m * d)) ≤ 10000 ^ (sN c m + c m)
      rw [if_pos rfl, sN_congr (g := fun j => N j * d) m (fun j hj => if_neg (by omega)), sN_mul, Nat.pow_add]
      have h1 : (D + sN N m) * (a + d) ≤ 10000 ^ sN c m * 10000 ^ c m := Nat.mul_le_mul hs hl
      have h2 : (D + sN N m) * (a + d) = D * d + sN N m * d + a * D + sN N m * a := by grind
      omega
theorem rw_of {n : Nat} {M : Nat → Nat → V} {T : Nat → Nat} (hok : ∀ i j, i < n → j < n → okV 2 (M i j)) (h : ∀ i, i < n → ∃ N D, 1 ≤ D ∧ (∀ j, j < n → fr (M i j) (N j) D) ∧ D + sN N n ≤ T i) : Rw n M T := by
  classical
  have h' : ∀ i, ∃ t : (Nat → Nat) × Nat, i < n → 1 ≤ t.2 ∧ (∀ j, j < n → fr (M i j) (t.1 j) t.2) ∧ t.2 + sN t.1 n ≤ T i := fun i => by
    by_cases hi : i < n
    · obtain ⟨N, D, h1⟩ := h i hi; exact ⟨(N, D), fun _ => h1⟩
    · exact ⟨(fun _ => 0, 0), fun h => absurd h hi⟩
  exact ⟨fun i => (Classical.choose (h' i)).1, fun i => (Classical.choose (h' i)).2, ⟨fun i hi => (Classical.choose_spec (h' i) hi).1, hok, fun i j hi hj => (Classical.choose_spec (h' i) hi).2.1 j hj⟩, fun i hi => (Classical.choose_spec (h' i) hi).2.2⟩
/-- What bounds the sums of all paths. -/
def Rb {k : KK} (n S : Nat) (M : Nat → Nat → RK k) : Prop := (∀ i j, i < n → j < n → bd S (M i j).1) ∧ (k.1 = 2 → Rw n (valM M) (fun _ => S))
theorem lim340 : 2 * (10 ^ 40) ^ 8 ≤ 10 ^ 340 := by decide +kernel
theorem fit_rows {k : KK} {n : Nat} {M : Nat → Nat → RK k} {c : Nat → Nat} (hn : n ≤ 5) (hb : k.1 ≠ 2 → ∀ i j, i < n → j < n → bd 10000 (M i j).1) (hR : k.1 = 2 → Rw n (valM M) (fun i => 10000 ^ c i)) (hc : sN c n ≤ 10) :
    FitM n M ∧ Rb n (10 ^ 340) (CSR.starM M n) := by
  by_cases hk : k.1 = 2
  · obtain ⟨h1, h2⟩ := fitM_2 hk (hR hk) (few_pow hc) hn (Nat.pow_pos (by omega)) (Nat.le_refl _)
    have h3 : Rw n (valM (CSR.starM M n)) (fun _ => 10 ^ 340) := h2.mono fun _ _ => lim340
    exact ⟨h1, fun i j hi hj => h3.bd hi hj, fun _ => h3⟩
  · obtain ⟨h1, h2⟩ := fitM_13 (KK.not2 hk) hn (hb hk)
    exact ⟨h1, h2, fun e => absurd e hk⟩
theorem fit_little {k : KK} {n : Nat} {M : Nat → Nat → RK k} {c : Nat → Nat → Nat} (hn : n ≤ 5) (hb : ∀ i j, i < n → j < n → bd 10000 (M i j).1) (hz : ∀ i j, i < n → j < n → (M i j).1 = zeroV k.1 ∨ 1 ≤ c i j)
    (hc : sN (fun i => sN (c i) n) n ≤ 10) : FitM n M := by
  refine (fit_rows hn (fun _ => hb) (fun hk => rw_of (fun i j _ _ => valM_ok hk M i j) fun i hi => ?_) hc).1
  refine row_of n fun j hj => ⟨valM_ok hk M i j, hb i j hi hj, ?_⟩
  rcases hz i j hi hj with e | e
  · left; show (M i j).1 = _; rw [e, hk]; rfl
  · exact .inr e

/-! ### Machines -/
/-- The arcs of a state over one denominator. -/
theorem arcs_of {k : KK} (hk : k.1 = 2) {D : MD} {W : Nat → Nat → RK k} {i n : Nat} : ∀ d, (∀ e, e < d → bd 10000 (W i e).1 ∧ ∃ t : Nat, D.ato i e = (t : Int) ∧ t < n) →
    ∃ N q, 1 ≤ q ∧ (∀ j, j < n → fr (arcV D W i d j).1 (N j) q) ∧ q + sN N n ≤ 10000 ^ d
  | 0, _ => by
    refine ⟨fun _ => 0, 1, Nat.le_refl _, fun j hj => zero_val hk 1, ?_⟩
    · have : ∀ m, sN (fun _ => 0) m = 0 := fun m => by
        induction m with
        | zero => rfl
        | succ m ih => show sN (fun _ => 0) m + 0 = 0; omega
      rw [this]; show 1 + 0 ≤ 10000 ^ 0; omega
  | d + 1, h => by
    obtain ⟨N, q, hq, hN, hs⟩ := arcs_of hk d fun e he => h e (by omega)
    obtain ⟨hb, t, ht, htn⟩ := h d (by omega)
    obtain ⟨a, b, hb1, hl, hf⟩ := fr_of (valM_ok hk W i d) hb (by omega)
    have hq' := cast_ne hq
    have hb' := cast_ne hb1
    refine ⟨fun j => N j * b + if j = t then a * q else 0, q * b, Nat.mul_pos hq hb1, fun j hj => ?_, ?_⟩
    · have h0 := hN j hj
      have ho := valM_ok hk (fun i j => arcV D W i d j) i j
      show fr (if D.ato i d = (j : Int) then arcV D W i d j + W i d else arcV D W i d j).1 (N j * b + if j = t then a * q else 0) (q * b)
      by_cases e : j = t
      · subst e
        rw [if_pos ht, if_pos rfl, add_val hk]
        rcases h0 with h0 | h0
        · rw [h0, inf_plus2]; exact .inl rfl
        · rcases hf with hf | hf
          · have hf : (W i d).1 = .inf := hf
            rw [hf, plus2_inf]; exact .inl rfl
          · have hf : (W i d).1 = .fin ((a : Rat) / (b : Rat)) := hf
            rw [h0, hf]
            refine .inr (congrArg V.fin ?_)
            rw [Rat.natCast_add, Rat.natCast_mul, Rat.natCast_mul, Rat.natCast_mul]; grind
      · rw [if_neg (by rw [ht]; omega), if_neg e, Nat.add_zero]
        rcases h0 with h0 | h0
        · exact .inl h0
        · refine .inr (h0.trans (congrArg V.fin ?_))
          rw [Rat.natCast_mul, Rat.natCast_mul]; grind
    · have key : ∀ m, sN (fun j => if j = t then a * q else 0) m = if t < m then a * q else 0 := fun m => by
        induction m with
        | zero => simp [sN]
        | succ m ih =>
          show sN (fun j => if j = t then a * q else 0) m + (if m = t then a * q else 0) = _
          rw [ih]
          by_cases e1 : t < m
          · rw [if_pos e1, if_neg (by omega), if_pos (by omega)]; omega
          · by_cases e2 : t = m
            · rw [if_neg e1, if_pos e2.symm, if_pos (by omega)]; omega
            · rw [if_neg e1, if_neg (by omega), if_neg (by omega)]
      rw [sN_add, sN_mul, key, if_pos htn, Nat.pow_succ]
      have h1 : (q + sN N n) * (a + b) ≤ 10000 ^ d * 10000 := Nat.mul_le_mul hs hl
      have h2 : (q + sN N n) * (a + b) = q * b + sN N n * b + a * q + sN N n * a := by grind
      omega
theorem arcsTo_sN (D : MD) : ∀ n, arcsTo D n = sN D.na n
  | 0 => rfl
  | n + 1 => by show arcsTo D n + D.na n = sN D.na n + D.na n; rw [arcsTo_sN D n]
theorem arcV_bd {k : KK} (hk : k.1 ≠ 2) {D : MD} {W : Nat → Nat → RK k} {i : Nat} (j : Nat) : ∀ d, (∀ e, e < d → bd 10000 (W i e).1) → bd 10000 (arcV D W i d j).1
  | 0, _ => bd_zero (by omega)
  | d + 1, h => by
    show bd 10000 (if D.ato i d = (j : Int) then arcV D W i d j + W i d else arcV D W i d j).1
    split
    · exact bd_max hk (arcV_bd hk j d fun e he => h e (by omega)) (h d (by omega))
    · exact arcV_bd hk j d fun e he => h e (by omega)
theorem fit_paths {k : KK} {D : MD} {W : Nat → Nat → RK k} (hv : VM D) (hn : D.n ≤ 5) (ha : arcsTo D D.n ≤ 10) (hw : ∀ i d, i < D.n → d < D.na i → bd 10000 (W i d).1) :
    FitP D W ∧ Rb D.n (10 ^ 340) (CSR.starM (arcM D W) D.n) := by
  rw [arcsTo_sN] at ha
  have hto : ∀ i d, i < D.n → d < D.na i → ∃ t : Nat, D.ato i d = (t : Int) ∧ t < D.n := fun i d hi hd => by
    have h := hv.arc i d hi hd
    have h0 := h.t0
    have h1 := h.t1
    exact ⟨(D.ato i d).toNat, by omega, by omega⟩
  obtain ⟨h1, h2⟩ := fit_rows (k := k) (M := arcM D W) (c := D.na) hn (fun hk i j hi hj => arcV_bd hk j _ fun e he => hw i e hi he)
    (fun hk => rw_of (fun i j _ _ => valM_ok hk _ i j) fun i hi => arcs_of hk (D.na i) fun e he => ⟨hw i e hi he, hto i e hi he⟩) ha
  refine ⟨⟨fun i d j hi hd hj ht => ?_, h1⟩, h2⟩
  by_cases hk : k.1 = 2
  · obtain ⟨N, q, hq, hN, hs⟩ := arcs_of hk (D := D) (W := W) (i := i) (n := D.n) (d + 1) fun e he => ⟨hw i e hi (by omega), hto i e hi (by omega)⟩
    have h3 := hN j hj
    have h4 : (arcV D W i (d + 1) j) = arcV D W i d j + W i d := by
      show (if D.ato i d = (j : Int) then arcV D W i d j + W i d else arcV D W i d j) = _
      rw [if_pos ht]
    rw [h4] at h3
    have h5 := le_sN (f := D.na) D.n hi
    have h6 := le_sN (f := N) D.n hj
    have h7 : (10000 : Nat) ^ (d + 1) ≤ 10000 ^ 10 := Nat.pow_le_pow_right (by omega) (by omega)
    exact ((h3.bd hq).mono (show _ ≤ 10000 ^ 10 by omega)).fit (by decide +kernel)
  · exact (bd_max hk (arcV_bd hk j d fun e he => hw i e hi (by omega)) (hw i d hi hd)).fit (Nat.le_trans (show 10000 ≤ 10 ^ 4 by omega) (Nat.pow_le_pow_right (by omega) (by omega)))

/-! ### To, From, Total -/
theorem toV_frac {k : KK} (hk : k.1 = 2) {D : MD} {S : Nat → Nat → RK k} {Vs : Nat → RK k} {n i : Nat} {N : Nat → Nat} {q : Nat} (hq : 1 ≤ q) (hN : ∀ j, j < n → fr (S i j).1 (N j) q) (hV : ∀ p, p < n → D.fin p ≠ ⟨#[]⟩ → bd 10000 (Vs p).1) :
    ∀ p, p ≤ n → ∃ a e, 1 ≤ e ∧ fr (toV D S Vs i p).1 a (q * e) ∧ e ≤ 10000 ^ p ∧ a ≤ sN N p * 10000 ^ p
  | 0, _ => ⟨0, 1, Nat.le_refl _, zero_val hk _, by omega, by omega⟩
  | p + 1, hp => by
    obtain ⟨a, e, he, hf, hel, hal⟩ := toV_frac hk hq hN hV p (by omega)
    show ∃ a e, 1 ≤ e ∧ fr (if D.fin p = ⟨#[]⟩ then toV D S Vs i p else toV D S Vs i p + S i p * Vs p).1 a (q * e) ∧ e ≤ 10000 ^ (p + 1) ∧ a ≤ (sN N p + N p) * 10000 ^ (p + 1)
    have hpp : (10000 : Nat) ^ (p + 1) = 10000 ^ p * 10000 := Nat.pow_succ ..
    by_cases hfin : D.fin p = ⟨#[]⟩
    · rw [if_pos hfin]
      refine ⟨a, e, he, hf, by rw [hpp]; omega, ?_⟩
      rw [hpp]
      have h1 : (sN N p + N p) * (10000 ^ p * 10000) = sN N p * 10000 ^ p * 10000 + N p * (10000 ^ p * 10000) := by grind
      omega
    · rw [if_neg hfin]
      obtain ⟨v, w, hw, hl, hvf⟩ := fr_of (valM_ok hk (fun _ p => Vs p) 0 p) (hV p (by omega) hfin) (by omega)
      have hvf : fr (Vs p).1 v w := hvf
      refine ⟨a * w + N p * v * e, e * w, Nat.mul_pos he hw, ?_, ?_, ?_⟩
      · rw [add_val hk, mul_val hk]
        have o1 : okV 2 (toV D S Vs i p).1 := valM_ok hk (fun i p => toV D S Vs i p) i p
        have o2 : okV 2 (S i p).1 := valM_ok hk S i p
        have o3 : okV 2 (Vs p).1 := valM_ok hk (fun _ p => Vs p) 0 p
        have hs := hN p (by omega)
        have hc := cell_fin (x := (toV D S Vs i p).1) (y := (S i p).1) (z := (Vs p).1) (a := a * 1) (b := N p * e) (c := v) (d := q * e) (e := w) (f := w) o1 o2 o3 (by rw [Nat.mul_one]; exact hf)
          (by
            rcases hs with hs | hs
            · exact .inl hs
            · refine .inr (hs.trans (congrArg V.fin ?_))
              have := cast_ne he
              have := cast_ne hq
              rw [Rat.natCast_mul, Rat.natCast_mul]; grind) hvf (Nat.mul_pos hq he) hw hw
        have hw1 : (w : Rat) / (w : Rat) = 1 := by have := cast_ne hw; grind
        have hone : timesV 2 (S i p).1 (.fin ((w : Rat) / (w : Rat))) = (S i p).1 := by
          rw [hw1]
          have := times_one' (k := 2) o2
          exact this
        rw [hone] at hc
        have e1 : a * 1 * w + N p * e * v = a * w + N p * v * e := by grind
        have e2 : q * e * w = q * (e * w) := by grind
        rw [e1, e2] at hc; exact hc
      · rw [hpp]; exact Nat.mul_le_mul hel (by omega)
      · rw [hpp]
        have h1 : a * w ≤ sN N p * 10000 ^ p * w := Nat.mul_le_mul_right _ hal
        have h2 : N p * v * e ≤ N p * v * 10000 ^ p := Nat.mul_le_mul_left _ hel
        have h3 : sN N p * 10000 ^ p * w ≤ sN N p * 10000 ^ p * 10000 := Nat.mul_le_mul_left _ (by omega)
        have h4 : N p * v * 10000 ^ p ≤ N p * 10000 * 10000 ^ p := Nat.mul_le_mul_right _ (Nat.mul_le_mul_left _ (by omega))
        have h5 : (sN N p + N p) * (10000 ^ p * 10000) = sN N p * 10000 ^ p * 10000 + N p * 10000 * 10000 ^ p := by grind
        omega
theorem toV_bd {k : KK} {D : MD} {S : Nat → Nat → RK k} {V : Nat → RK k} (hn : D.n ≤ 5) (hR : Rb D.n (10 ^ 340) S) (hV : ∀ p, p < D.n → D.fin p ≠ ⟨#[]⟩ → bd 10000 (V p).1) {i p : Nat} (hi : i < D.n) (hp : p ≤ D.n) : bd (10 ^ 370) (toV D S V i p).1 := by
  have l1 : (10 : Nat) ^ 340 * 10000 ≤ 10 ^ 370 := by decide +kernel
  have l2 : (10 : Nat) ^ 340 * 10000 ^ 5 ≤ 10 ^ 370 := by decide +kernel
  by_cases hk : k.1 = 2
  · obtain ⟨N, q, h1, h2⟩ := hR.2 hk
    obtain ⟨a, e, he, hf, hel, hal⟩ := toV_frac hk (D := D) (S := S) (Vs := V) (i := i) (h1.pos i hi) (fun j hj => h1.fr i j hi hj) hV p hp
    have h3 : q i + sN (N i) D.n ≤ 10 ^ 340 := h2 i hi
    refine (hf.bd (Nat.mul_pos (h1.pos i hi) he)).mono ?_
    have h4 : (10000 : Nat) ^ p ≤ 10000 ^ 5 := Nat.pow_le_pow_right (by omega) (by omega)
    have h5 : q i * e ≤ q i * 10000 ^ 5 := Nat.mul_le_mul_left _ (by omega)
    have h6 : sN (N i) p ≤ sN (N i) D.n := sN_le D.n hp
    have h7 : sN (N i) p * 10000 ^ p ≤ sN (N i) D.n * 10000 ^ 5 := Nat.mul_le_mul h6 h4
    have h8 : (q i + sN (N i) D.n) * 10000 ^ 5 ≤ 10 ^ 340 * 10000 ^ 5 := Nat.mul_le_mul_right _ h3
    rw [Nat.add_mul] at h8
    omega
  · have hR1 := hR.1
    revert hp
    induction p with
    | zero => exact fun _ => bd_zero (Nat.pow_pos (by omega))
    | succ p ih =>
      intro hp
      show bd _ (if D.fin p = ⟨#[]⟩ then toV D S V i p else toV D S V i p + S i p * V p).1
      split
      · exact ih (by omega)
      · rename_i hfin
        exact bd_max hk (ih (by omega)) ((bd_times (hR1 i p hi (by omega)) (hV p (by omega) hfin) (Nat.pow_pos (by omega)) (by omega)).mono l1)
theorem fit_to {k : KK} {D : MD} {W : Nat → Nat → RK k} {V : Nat → RK k} (hn : D.n ≤ 5) (hP : FitP D W) (hR : Rb D.n (10 ^ 340) (CSR.starM (arcM D W) D.n)) (hV : ∀ p, p < D.n → D.fin p ≠ ⟨#[]⟩ → bd 10000 (V p).1) : FitT D W V := by
  refine ⟨hP, fun i p hi hp hf => (bd_times (hR.1 i p hi hp) (hV p hp hf) (Nat.pow_pos (by omega)) (by omega)).fit (by decide +kernel), fun i p hi hp hf => ?_⟩
  have h := toV_bd hn hR hV hi (show p + 1 ≤ D.n from hp)
  have e : toV D (CSR.starM (arcM D W) D.n) V i (p + 1) = toV D (CSR.starM (arcM D W) D.n) V i p + CSR.starM (arcM D W) D.n i p * V p := by
    show (if D.fin p = ⟨#[]⟩ then _ else _) = _
    rw [if_neg hf]
  rw [e] at h
  exact h.fit (Nat.pow_le_pow_right (by omega) (by omega))
theorem fit_from {k : KK} {D : MD} {W : Nat → Nat → RK k} {L : RK k} {st : Nat} (hst : st < D.n) (hP : FitP D W) (hR : Rb D.n (10 ^ 340) (CSR.starM (arcM D W) D.n)) (hL : bd 10000 L.1) : FitF D W L st :=
  ⟨hP, fun j hj => (bd_times hL (hR.1 st j hst hj) (by omega) (Nat.pow_pos (by omega))).fit (by decide +kernel)⟩
theorem fit_total {k : KK} {D : MD} {S : Nat → Nat → RK k} {V : Nat → RK k} {L : RK k} {st : Nat} (hn : D.n ≤ 5) (hst : st < D.n) (hR : Rb D.n (10 ^ 340) S) (hV : ∀ p, p < D.n → D.fin p ≠ ⟨#[]⟩ → bd 10000 (V p).1) (hL : bd 10000 L.1) : fitV (L * toV D S V st D.n).1 :=
  (bd_times hL (toV_bd hn hR hV hst (Nat.le_refl _)) (by omega) (Nat.pow_pos (by omega))).fit (by decide +kernel)
end Go.Proofs.YtlmfppjphblemaaGreatDoor

namespace Go.Proofs.YtlmfppjphblemaaGreatDoor
open Go Go.RowKit Go.Deep
set_option maxRecDepth 100000
set_option linter.unusedSimpArgs false

theorem dgn_succ (s : ByteArray) (k : Nat) (h : k < s.size) : dgn s (k + 1) = dgn s k + if dgt s[k] then 1 else 0 := by
  unfold dgn
  rw [take_snoc s k h, List.countP_append, List.countP_singleton]
theorem dgn_le (s : ByteArray) (k : Nat) : dgn s k ≤ k := by
  unfold dgn
  exact Nat.le_trans List.countP_le_length (by rw [List.length_take]; omega)
/-- One where a string is not Zero. -/
def cnZ (k : Int) (X : Nat → Nat → ByteArray) (i j : Nat) : Nat := if X i j = zeroF k then 0 else 1
/-- Little (P7.1). -/
def LitP (k : Int) (n : Nat) (X : Nat → Nat → ByteArray) : Prop := (∀ i j, i < n → j < n → dgn (X i j) (X i j).size ≤ 4) ∧ n ≤ 5 ∧ sN (fun i => sN (cnZ k X i) n) n ≤ 10
theorem LitP.fit {k : KK} {n : Nat} {X : Nat → Nat → ByteArray} {M : Nat → Nat → RK k} (h : LitP k.1 n X) (hM : MatIs 0 n X M) : FitM n M :=
  fit_little (c := cnZ k.1 X) h.2.1 (fun i j hi hj => short_bd (hM i j hi hj) (h.1 i j hi hj)) (fun i j hi hj => by
    unfold cnZ
    by_cases e : X i j = zeroF k.1
    · left; rw [((hM i j hi hj).eq_zero).1 e]; rfl
    · right; rw [if_neg e]; exact Nat.le_refl _) h.2.2
end Go.Proofs.YtlmfppjphblemaaGreatDoor

namespace Go.Proofs.YtlmfppjphblemaaGreatDoor
open Go Go.RowKit
set_option maxRecDepth 100000
set_option linter.unusedSimpArgs false

/-- The final weight of a state, Zero if it is not final. -/
def finV {k : KK} (D : MD) (V : Nat → RK k) (p : Nat) : RK k := if D.fin p = ⟨#[]⟩ then CSR.zero else V p
def finS (D : MD) (p : Nat) : ByteArray := if D.fin p = ⟨#[]⟩ then zeroF D.kind else D.fin p
theorem finS_is {k : KK} {D : MD} {V : Nat → RK k} (hk : k.1 = D.kind) (h : FinIs D V) {p : Nat} (hp : p < D.n) : Is k 0 (finS D p) (finV D V p) := by
  unfold finS finV
  by_cases hf : D.fin p = ⟨#[]⟩
  · rw [if_pos hf, if_pos hf, ← hk]; exact Is.zero k 0
  · rw [if_neg hf, if_neg hf]; exact h.2 p hp hf
theorem toV_fin {k : KK} (D : MD) (S : Nat → Nat → RK k) (V : Nat → RK k) (i p : Nat) : toV D S V i (p + 1) = toV D S V i p + S i p * finV D V p := by
  show (if D.fin p = ⟨#[]⟩ then toV D S V i p else toV D S V i p + S i p * V p) = _
  unfold finV
  by_cases hf : D.fin p = ⟨#[]⟩
  · rw [if_pos hf, if_pos hf, CSR.m0, CSR.a0]
  · rw [if_neg hf, if_neg hf]
theorem FitT.part {k : KK} {D : MD} {W : Nat → Nat → RK k} {V : Nat → RK k} (h : FitT D W V) {i : Nat} (hi : i < D.n) : ∀ p, p ≤ D.n → fitV (toV D (CSR.starM (arcM D W) D.n) V i p).1
  | 0, _ => zero_fit k
  | p + 1, hp => by
    have h1 := FitT.part h hi p (by omega)
    by_cases hf : D.fin p = ⟨#[]⟩
    · have e : toV D (CSR.starM (arcM D W) D.n) V i (p + 1) = toV D (CSR.starM (arcM D W) D.n) V i p := by
        show (if D.fin p = ⟨#[]⟩ then _ else _) = _
        rw [if_pos hf]
      rw [e]; exact h1
    · have e : toV D (CSR.starM (arcM D W) D.n) V i (p + 1) = toV D (CSR.starM (arcM D W) D.n) V i p + CSR.starM (arcM D W) D.n i p * V p := by
        show (if D.fin p = ⟨#[]⟩ then _ else _) = _
        rw [if_neg hf]
      rw [e]; exact h.sum i p hi (by omega) hf
theorem FitT.prodF {k : KK} {D : MD} {W : Nat → Nat → RK k} {V : Nat → RK k} (h : FitT D W V) {i p : Nat} (hi : i < D.n) (hp : p < D.n) : fitV (CSR.starM (arcM D W) D.n i p * finV D V p).1 := by
  unfold finV
  by_cases hf : D.fin p = ⟨#[]⟩
  · rw [if_pos hf, CSR.m0]; exact zero_fit k
  · rw [if_neg hf]; exact h.prod i p hi hp hf
theorem FitT.sumF {k : KK} {D : MD} {W : Nat → Nat → RK k} {V : Nat → RK k} (h : FitT D W V) {i p : Nat} (hi : i < D.n) (hp : p < D.n) : fitV (toV D (CSR.starM (arcM D W) D.n) V i p + CSR.starM (arcM D W) D.n i p * finV D V p).1 := by
  rw [← toV_fin]; exact h.part hi (p + 1) hp

/-- Machines are little (R9). -/
structure LitM (D : MD) : Prop where
  lead : dgn D.lead D.lead.size ≤ 4
  fin : ∀ i, i < D.n → dgn (D.fin i) (D.fin i).size ≤ 4
  aw : ∀ i d, i < D.n → d < D.na i → dgn (D.aw i d) (D.aw i d).size ≤ 4
  n : D.n ≤ 5
  arcs : arcsTo D D.n ≤ 10
theorem LitM.fitT {k : KK} {D : MD} {W : Nat → Nat → RK k} {V : Nat → RK k} (h : LitM D) (hv : VM D) (hW : WtIs D W) (hV : FinIs D V) : FitT D W V := by
  obtain ⟨h1, h2⟩ := fit_paths hv h.n h.arcs fun i d hi hd => short_bd (hW.2 i d hi hd) (h.aw i d hi hd)
  exact fit_to h.n h1 h2 fun p hp hf => short_bd (hV.2 p hp hf) (h.fin p hp)
theorem LitM.fitF {k : KK} {D : MD} {W : Nat → Nat → RK k} {L : RK k} {st : Nat} (h : LitM D) (hv : VM D) (hW : WtIs D W) (hL : Is k 0 D.lead L) (hst : st < D.n) : FitF D W L st := by
  obtain ⟨h1, h2⟩ := fit_paths hv h.n h.arcs fun i d hi hd => short_bd (hW.2 i d hi hd) (h.aw i d hi hd)
  exact fit_from hst h1 h2 (short_bd hL h.lead)
theorem LitM.fitL {k : KK} {D : MD} {W : Nat → Nat → RK k} {V : Nat → RK k} {L : RK k} {st : Nat} (h : LitM D) (hv : VM D) (hW : WtIs D W) (hV : FinIs D V) (hL : Is k 0 D.lead L) (hst : st < D.n) :
    fitV (L * toV D (CSR.starM (arcM D W) D.n) V st D.n).1 := by
  obtain ⟨h1, h2⟩ := fit_paths hv h.n h.arcs fun i d hi hd => short_bd (hW.2 i d hi hd) (h.aw i d hi hd)
  exact fit_total h.n hst h2 (fun p hp hf => short_bd (hV.2 p hp hf) (h.fin p hp)) (short_bd hL h.lead)
theorem Is.same {k : KK} {s : ByteArray} {x y : RK k} (h : Is k 0 s x) (h' : Is k 0 s y) : x = y := by
  have h1 := h.vprs
  rw [h'.vprs] at h1
  exact Subtype.ext (Option.some.inj h1.symm)
end Go.Proofs.YtlmfppjphblemaaGreatDoor
