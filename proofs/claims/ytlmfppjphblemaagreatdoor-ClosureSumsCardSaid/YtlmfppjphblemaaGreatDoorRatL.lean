/- Rational numbers in their canonical form: what is read from a text, and what is written. No program in sight. -/
import Derived.Test.YtlmfppjphblemaaGreatDoorStr
namespace Go.Proofs.YtlmfppjphblemaaGreatDoor
open Go
set_option maxRecDepth 100000

def isNeg (l : List UInt8) : Bool := l.headD 0 == 45
def restL (l : List UInt8) : List UInt8 := if isNeg l then l.tail else l
def hasS (l : List UInt8) : Bool := l.any (· == 47)
def upTo (l : List UInt8) : List UInt8 := l.takeWhile (· != 47)
def pastL (l : List UInt8) : List UInt8 := (l.dropWhile (· != 47)).tail
def denL (l : List UInt8) : List UInt8 := if hasS l then pastL l else [49]
def okP (neg : Bool) (n d : List UInt8) (frac : Bool) : Bool :=
  validL n && validL d && decide (n.length ≤ 400) && decide (d.length ≤ 400) && !(neg && (n == [48])) && !(frac && (d == [48] || d == [49])) && decide (Nat.gcd (num n) (num d) = 1)
def sg (neg : Bool) (m : Nat) : Int := if neg then -(m : Int) else (m : Int)
def prsL (l : List UInt8) : Option Rat :=
  if okP (isNeg l) (upTo (restL l)) (denL (restL l)) (hasS (restL l)) then some (mkRat (sg (isNeg l) (num (upTo (restL l)))) (num (denL (restL l)))) else none
/-- The rational number that a string stands for, if it is in canonical form. -/
def prs (s : ByteArray) : Option Rat := prsL (bts s)
def fitQ (q : Rat) : Prop := (dec q.num.natAbs).length ≤ 400 ∧ (dec q.den).length ≤ 400
instance (q : Rat) : Decidable (fitQ q) := inferInstanceAs (Decidable (_ ∧ _))
def negQ (q : Rat) : Bool := decide (q.num < 0)
def txtL (q : Rat) : List UInt8 := (if negQ q then [45] else []) ++ (dec q.num.natAbs ++ (if q.den = 1 then [] else 47 :: dec q.den))
def txt (q : Rat) : ByteArray := str (txtL q)
def limR (q : Rat) : ByteArray × Nat := if fitQ q then (txt q, 0) else (str [], 2)

theorem sg_abs (neg : Bool) (m : Nat) : (sg neg m).natAbs = m := by unfold sg; split <;> simp
theorem sg_zero {neg : Bool} {m : Nat} : sg neg m = 0 ↔ m = 0 := by unfold sg; split <;> omega
theorem sg_neg {neg : Bool} {m : Nat} : sg neg m < 0 ↔ (neg = true ∧ m ≠ 0) := by unfold sg; cases neg <;> simp <;> omega
theorem negQ_eq (q : Rat) : sg (negQ q) q.num.natAbs = q.num := by unfold sg negQ; by_cases h : q.num < 0 <;> simp [h] <;> omega
theorem mkRat_cop {n : Int} {d : Nat} (hd : d ≠ 0) (h : Nat.gcd n.natAbs d = 1) : (mkRat n d).num = n ∧ (mkRat n d).den = d := by
  have := Rat.mk_eq_mkRat n d hd h
  rw [← this]; exact ⟨rfl, rfl⟩
theorem dec_zero : dec 0 = [48] := by rw [dec_small (by omega)]; rfl
theorem dec_one : dec 1 = [49] := by rw [dec_small (by omega)]; rfl

theorem okP_parts {neg : Bool} {n d : List UInt8} {frac : Bool} (h : okP neg n d frac = true) :
    validL n = true ∧ validL d = true ∧ n.length ≤ 400 ∧ d.length ≤ 400 ∧ (neg = true → n ≠ [48]) ∧ (frac = true → d ≠ [48] ∧ d ≠ [49]) ∧ Nat.gcd (num n) (num d) = 1 := by
  simp only [okP, Bool.and_eq_true, Bool.not_eq_true', decide_eq_true_eq] at h
  obtain ⟨⟨⟨⟨⟨⟨h1, h2⟩, h3⟩, h4⟩, h5⟩, h6⟩, h7⟩ := h
  refine ⟨h1, h2, h3, h4, ?_, ?_, h7⟩
  · intro hn e; subst hn; subst e; simp at h5
  · intro hf; subst hf; simp at h6; exact h6
theorem okP_mk {neg : Bool} {n d : List UInt8} {frac : Bool} (h1 : validL n = true) (h2 : validL d = true) (h3 : n.length ≤ 400) (h4 : d.length ≤ 400)
    (h5 : neg = true → n ≠ [48]) (h6 : frac = true → d ≠ [48] ∧ d ≠ [49]) (h7 : Nat.gcd (num n) (num d) = 1) : okP neg n d frac = true := by
  simp only [okP, Bool.and_eq_true, Bool.not_eq_true', decide_eq_true_eq]
  refine ⟨⟨⟨⟨⟨⟨h1, h2⟩, h3⟩, h4⟩, ?_⟩, ?_⟩, h7⟩
  · cases neg
    · rfl
    · have := h5 rfl; simp [this]
  · cases frac
    · rfl
    · have := h6 rfl; simp [this.1, this.2]
theorem num_zero_iff {l : List UInt8} (h : validL l = true) : num l = 0 ↔ l = [48] := by
  constructor
  · intro e; rw [← dec_num h, e, dec_zero]
  · intro e; subst e; rfl

/-- What the digits of a canonical form say about the number. -/
structure IsQ (q : Rat) (neg : Bool) (n d : List UInt8) : Prop where
  sign : negQ q = neg
  top : dec q.num.natAbs = n
  bot : dec q.den = d
  topv : q.num.natAbs = num n
  botv : q.den = num d
  fit : fitQ q
theorem okP_isQ {neg : Bool} {n d : List UInt8} {frac : Bool} (h : okP neg n d frac = true) (h0 : frac = false → d = [49]) : IsQ (mkRat (sg neg (num n)) (num d)) neg n d := by
  obtain ⟨h1, h2, h3, h4, h5, h6, h7⟩ := okP_parts h
  have hd : num d ≠ 0 := by
    intro e
    have e' := (num_zero_iff h2).1 e
    cases hf : frac
    · have := h0 hf; rw [this] at e'; simp at e'
    · exact (h6 hf).1 e'
  obtain ⟨e1, e2⟩ := mkRat_cop (n := sg neg (num n)) hd (by rw [sg_abs]; exact h7)
  have e3 : (mkRat (sg neg (num n)) (num d)).num.natAbs = num n := by rw [e1, sg_abs]
  have e4 : dec (num n) = n := dec_num h1
  have e5 : dec (num d) = d := dec_num h2
  refine ⟨?_, by rw [e3, e4], by rw [e2, e5], e3, e2, ?_⟩
  · unfold negQ; rw [e1]
    cases neg
    · simp [sg]
    · have : num n ≠ 0 := fun e => h5 rfl ((num_zero_iff h1).1 e)
      simp [sg]; omega
  · unfold fitQ; rw [e3, e2, e4, e5]; exact ⟨h3, h4⟩

theorem prsL_some {l : List UInt8} {q : Rat} (h : prsL l = some q) : okP (isNeg l) (upTo (restL l)) (denL (restL l)) (hasS (restL l)) = true ∧ IsQ q (isNeg l) (upTo (restL l)) (denL (restL l)) := by
  unfold prsL at h
  split at h
  · rename_i hk
    have hq := Option.some.inj h
    refine ⟨hk, ?_⟩
    rw [← hq]; exact okP_isQ hk (fun h => by unfold denL; rw [h]; rfl)
  · exact absurd h (by simp)

theorem restL_eq (l : List UInt8) : l = (if isNeg l then [45] else []) ++ restL l := by
  unfold restL
  split
  · rename_i h
    cases l with
    | nil => simp [isNeg] at h
    | cons a l => simp [isNeg] at h; simp [h]
  · simp
theorem hasS_split (l : List UInt8) (h : hasS l = true) : l = upTo l ++ 47 :: pastL l := by
  induction l with
  | nil => simp [hasS] at h
  | cons a l ih =>
    by_cases ha : a = 47
    · subst ha; simp [upTo, pastL]
    · have : hasS l = true := by simpa [hasS, ha] using h
      have i := ih this
      have e1 : upTo (a :: l) = a :: upTo l := by simp [upTo, ha]
      have e2 : pastL (a :: l) = pastL l := by simp [pastL, ha]
      rw [e1, e2, List.cons_append, ← i]
theorem hasS_not (l : List UInt8) (h : hasS l = false) : upTo l = l := by
  induction l with
  | nil => rfl
  | cons a l ih =>
    simp [hasS] at h
    have e1 : upTo (a :: l) = a :: upTo l := by simp [upTo, h.1]
    rw [e1, ih (by simp [hasS]; exact h.2)]
theorem dgts_ne {l : List UInt8} (h : dgts l = true) : ∀ c ∈ l, c ≠ 47 ∧ c ≠ 45 := by
  intro c hc
  have := List.all_eq_true.1 h c hc
  simp [dgt] at this
  constructor
  · intro e; subst e; simp at this
  · intro e; subst e; simp at this
theorem upTo_app {n r : List UInt8} (h : ∀ c ∈ n, c ≠ 47) : upTo (n ++ 47 :: r) = n ∧ pastL (n ++ 47 :: r) = r ∧ hasS (n ++ 47 :: r) = true := by
  induction n with
  | nil => simp [upTo, pastL, hasS]
  | cons a n ih =>
    have ha := h a (by simp)
    obtain ⟨i1, i2, i3⟩ := ih (fun c hc => h c (by simp [hc]))
    refine ⟨?_, ?_, by simp [hasS]⟩
    · rw [List.cons_append]; show upTo (a :: _) = _
      have : upTo (a :: (n ++ 47 :: r)) = a :: upTo (n ++ 47 :: r) := by simp [upTo, ha]
      rw [this, i1]
    · have : pastL (a :: (n ++ 47 :: r)) = pastL (n ++ 47 :: r) := by simp [pastL, ha]
      rw [List.cons_append, this, i2]
theorem noS {n : List UInt8} (h : ∀ c ∈ n, c ≠ 47) : hasS n = false := by
  simp [hasS]; exact h

theorem prsL_txtL {q : Rat} (h : fitQ q) : prsL (txtL q) = some q := by
  obtain ⟨h1, h2⟩ := h
  have v1 : validL (dec q.num.natAbs) = true := valid_dec (by omega)
  have v2 : validL (dec q.den) = true := valid_dec (by omega)
  have hne : ∀ c ∈ dec q.num.natAbs, c ≠ 47 := fun c hc => (dgts_ne (dgts_dec _) c hc).1
  have hR : ∀ R : List UInt8, isNeg ((if negQ q then [45] else []) ++ (dec q.num.natAbs ++ R)) = negQ q ∧ restL ((if negQ q then [45] else []) ++ (dec q.num.natAbs ++ R)) = dec q.num.natAbs ++ R := by
    intro R
    have : isNeg ((if negQ q then [45] else []) ++ (dec q.num.natAbs ++ R)) = negQ q := by
      cases hq : negQ q
      · have h0 := dec_pos q.num.natAbs
        have h1 := dgts_dec q.num.natAbs
        revert h0 h1
        generalize dec q.num.natAbs = l
        intro h0 h1
        cases l with
        | nil => simp at h0
        | cons a l => have := (dgts_ne h1 a (by simp)).2; simp [isNeg, this]
      · simp [isNeg]
    refine ⟨this, ?_⟩
    unfold restL; rw [this]; cases negQ q <;> simp
  have hden : denL (dec q.num.natAbs ++ (if q.den = 1 then [] else 47 :: dec q.den)) = dec q.den ∧ upTo (dec q.num.natAbs ++ (if q.den = 1 then [] else 47 :: dec q.den)) = dec q.num.natAbs ∧
      hasS (dec q.num.natAbs ++ (if q.den = 1 then [] else 47 :: dec q.den)) = decide (q.den ≠ 1) := by
    by_cases hq : q.den = 1
    · rw [if_pos hq, List.append_nil, hq]
      have := noS hne
      refine ⟨by unfold denL; rw [this, dec_one]; rfl, hasS_not _ this, by rw [this]; simp⟩
    · rw [if_neg hq]
      obtain ⟨i1, i2, i3⟩ := upTo_app (r := dec q.den) hne
      exact ⟨by unfold denL; rw [i3, i2]; rfl, i1, by rw [i3]; simp [hq]⟩
  obtain ⟨e1, e2⟩ := hR (if q.den = 1 then [] else 47 :: dec q.den)
  obtain ⟨d1, d2, d3⟩ := hden
  have hk : okP (negQ q) (dec q.num.natAbs) (dec q.den) (decide (q.den ≠ 1)) = true := by
    refine okP_mk v1 v2 h1 h2 ?_ ?_ ?_
    · intro hn e
      have : q.num.natAbs = 0 := dec_inj (e.trans dec_zero.symm)
      simp [negQ] at hn; omega
    · intro hf
      simp at hf
      refine ⟨fun e => ?_, fun e => hf ?_⟩
      · exact q.den_nz (dec_inj (e.trans dec_zero.symm))
      · exact dec_inj (e.trans dec_one.symm)
    · rw [num_dec, num_dec]; exact q.reduced
  unfold prsL txtL
  rw [e1, e2, d1, d2, d3, if_pos hk, num_dec, num_dec, negQ_eq, Rat.mkRat_self]

theorem prs_txt {q : Rat} (h : fitQ q) : prs (txt q) = some q := by unfold prs txt; rw [bts_str]; exact prsL_txtL h
theorem txtL_prsL {l : List UInt8} {q : Rat} (h : prsL l = some q) : l = txtL q ∧ fitQ q := by
  obtain ⟨hk, hq⟩ := prsL_some h
  refine ⟨?_, hq.fit⟩
  have e := restL_eq l
  have hkk := okP_parts hk
  unfold txtL
  rw [hq.sign, hq.top]
  have : restL l = upTo (restL l) ++ (if q.den = 1 then [] else 47 :: dec q.den) := by
    cases hs : hasS (restL l)
    · have hd : denL (restL l) = [49] := by unfold denL; rw [hs]; rfl
      have : q.den = 1 := dec_inj (hq.bot.trans (hd.trans dec_one.symm))
      rw [if_pos this, List.append_nil, hasS_not _ hs]
    · have hd : denL (restL l) = pastL (restL l) := by unfold denL; rw [hs]; rfl
      have : q.den ≠ 1 := by
        intro e'
        have h1 := hq.bot; rw [e', dec_one] at h1
        exact (hkk.2.2.2.2.2.1 hs).2 h1.symm
      rw [if_neg this, hq.bot, hd]
      exact hasS_split _ hs
  rw [← this]; exact e
theorem txt_prs {s : ByteArray} {q : Rat} (h : prs s = some q) : s = txt q ∧ fitQ q := by
  obtain ⟨h1, h2⟩ := txtL_prsL h
  exact ⟨by unfold txt; rw [← h1, str_bts], h2⟩
theorem txt_inj {p q : Rat} (hp : fitQ p) (hq : fitQ q) (h : txt p = txt q) : p = q := by
  have := prs_txt hp; rw [h, prs_txt hq] at this; exact (Option.some.inj this).symm

/-! ### The size of numbers -/
def szQ (k : Nat) (q : Rat) : Prop := q.num.natAbs < 10 ^ k ∧ q.den < 10 ^ k
theorem fit_sz {q : Rat} : fitQ q ↔ szQ 400 q := by
  unfold fitQ szQ; rw [dec_len_lt, dec_len_lt]; omega
theorem szQ.mono {j k : Nat} {q : Rat} (h : szQ j q) (hk : j ≤ k) : szQ k q :=
  ⟨Nat.lt_of_lt_of_le h.1 (Nat.pow_le_pow_right (by omega) hk), Nat.lt_of_lt_of_le h.2 (Nat.pow_le_pow_right (by omega) hk)⟩
theorem mkRat_le {n : Int} {d : Nat} (hd : d ≠ 0) : (mkRat n d).num.natAbs ≤ n.natAbs ∧ (mkRat n d).den ≤ d := by
  rw [Rat.num_mkRat, Rat.den_mkRat, if_neg hd, if_neg hd]
  exact ⟨by rw [Int.natAbs_ediv_of_dvd]; exact Nat.div_le_self _ _; exact Int.ofNat_dvd_left.2 (Nat.gcd_dvd_right _ _), Nat.div_le_self _ _⟩
theorem lt_mul {a b A B : Nat} (h1 : a < A) (h2 : b < B) : a * b < A * B := by
  rcases Nat.eq_zero_or_pos b with h | h
  · subst h; rw [Nat.mul_zero]; exact Nat.mul_pos (by omega) (by omega)
  · exact Nat.lt_of_lt_of_le (Nat.mul_lt_mul_of_pos_right h1 h) (Nat.mul_le_mul_left _ (by omega))
theorem szQ.mul {j k : Nat} {p q : Rat} (hp : szQ j p) (hq : szQ k q) : szQ (j + k) (p * q) := by
  rw [Rat.mul_def']
  obtain ⟨h1, h2⟩ := mkRat_le (n := p.num * q.num) (d := p.den * q.den) (Nat.mul_ne_zero p.den_nz q.den_nz)
  rw [Int.natAbs_mul] at h1
  constructor
  · rw [Nat.pow_add]; exact Nat.lt_of_le_of_lt h1 (lt_mul hp.1 hq.1)
  · rw [Nat.pow_add]; exact Nat.lt_of_le_of_lt h2 (lt_mul hp.2 hq.2)
theorem szQ.add {j k : Nat} {p q : Rat} (hp : szQ j p) (hq : szQ k q) : szQ (j + k + 1) (p + q) := by
  rw [Rat.add_def']
  obtain ⟨h1, h2⟩ := mkRat_le (n := p.num * q.den + q.num * p.den) (d := p.den * q.den) (Nat.mul_ne_zero p.den_nz q.den_nz)
  have h3 := Int.natAbs_add_le (p.num * q.den) (q.num * p.den)
  rw [Int.natAbs_mul, Int.natAbs_mul, Int.natAbs_natCast, Int.natAbs_natCast] at h3
  have h4 := lt_mul hp.1 hq.2
  have h5 := lt_mul hq.1 hp.2
  have h6 := lt_mul hp.2 hq.2
  rw [Nat.mul_comm (10 ^ k)] at h5
  constructor
  · rw [Nat.pow_succ, Nat.pow_add]; omega
  · rw [Nat.pow_succ, Nat.pow_add]; omega
theorem szQ.neg {j : Nat} {p : Rat} (hp : szQ j p) : szQ j (-p) := by
  refine ⟨?_, ?_⟩
  · rw [Rat.neg_num, Int.natAbs_neg]; exact hp.1
  · rw [Rat.neg_den]; exact hp.2
theorem txt_size {q : Rat} (h : fitQ q) : (txt q).size ≤ 802 := by
  unfold txt; rw [str_size]; unfold txtL
  obtain ⟨h1, h2⟩ := h
  simp only [List.length_append]
  have : (if negQ q then [45] else ([] : List UInt8)).length ≤ 1 := by split <;> simp
  have : (if q.den = 1 then [] else 47 :: dec q.den).length ≤ 401 := by split <;> simp; omega
  omega
theorem limR_size (q : Rat) : (limR q).1.size ≤ 802 := by
  unfold limR; split
  · rename_i h; exact txt_size h
  · rw [str_size]; simp
theorem limR_fit {q : Rat} (h : fitQ q) : limR q = (txt q, 0) := by unfold limR; rw [if_pos h]
theorem limR_long {q : Rat} (h : ¬ fitQ q) : limR q = (str [], 2) := by unfold limR; rw [if_neg h]

/-! ### What the functions return -/
def qaddF (a b : ByteArray) : ByteArray × Nat := match prs a, prs b with | some x, some y => limR (x + y) | _, _ => (str [], 1)
def qsubF (a b : ByteArray) : ByteArray × Nat := match prs a, prs b with | some x, some y => limR (x - y) | _, _ => (str [], 1)
def qmulF (a b : ByteArray) : ByteArray × Nat := match prs a, prs b with | some x, some y => limR (x * y) | _, _ => (str [], 1)
def qdivF (a b : ByteArray) : ByteArray × Nat := match prs a, prs b with | some x, some y => if y = 0 then (str [], 4) else limR (x / y) | _, _ => (str [], 1)
def cmpQ (x y : Rat) : Int := if x < y then -1 else if x = y then 0 else 1
def qcmpF (a b : ByteArray) : Int := match prs a, prs b with | some x, some y => cmpQ x y | _, _ => 0

/-- The sum of two integers with signs. -/
def sumF (p : Bool) (a : Nat) (q : Bool) (b : Nat) : Bool × Nat := if p = q then (p, a + b) else if a < b then (q, b - a) else (p, a - b)
theorem sumF_val (p : Bool) (a : Nat) (q : Bool) (b : Nat) : sg (sumF p a q b).1 (sumF p a q b).2 = sg p a + sg q b := by
  unfold sumF sg; cases p <;> cases q <;> simp <;> (try split) <;> (try simp) <;> omega
theorem sumF_le (p : Bool) (a : Nat) (q : Bool) (b : Nat) : (sumF p a q b).2 ≤ a + b := by
  unfold sumF; split
  · exact Nat.le_refl _
  · split <;> simp <;> omega
theorem sg_mul (p q : Bool) (m n : Nat) : sg p m * sg q n = sg (p != q) (m * n) := by
  unfold sg; cases p <;> cases q <;> simp [Int.neg_mul, Int.mul_neg]
theorem sg_nat (p : Bool) (m n : Nat) : sg p m * (n : Int) = sg p (m * n) := by
  unfold sg; cases p <;> simp [Int.neg_mul]
theorem sg_not (p : Bool) (m : Nat) : sg (!p) m = - sg p m := by unfold sg; cases p <;> simp
theorem qnum_nat (x : Rat) (d : Nat) : x.num * (d : Int) = sg (negQ x) (x.num.natAbs * d) := by
  rw [← sg_nat, negQ_eq]
theorem add_mk (x y : Rat) : x + y = mkRat (sg (sumF (negQ x) (x.num.natAbs * y.den) (negQ y) (y.num.natAbs * x.den)).1 (sumF (negQ x) (x.num.natAbs * y.den) (negQ y) (y.num.natAbs * x.den)).2) (x.den * y.den) := by
  rw [sumF_val, ← qnum_nat, ← qnum_nat, Rat.add_def']
theorem sub_mk (x y : Rat) : x - y = mkRat (sg (sumF (negQ x) (x.num.natAbs * y.den) (!negQ y) (y.num.natAbs * x.den)).1 (sumF (negQ x) (x.num.natAbs * y.den) (!negQ y) (y.num.natAbs * x.den)).2) (x.den * y.den) := by
  rw [sumF_val, sg_not, ← qnum_nat, ← qnum_nat, Rat.sub_def', Int.sub_eq_add_neg]
theorem mul_mk (x y : Rat) : x * y = mkRat (sg (negQ x != negQ y) (x.num.natAbs * y.num.natAbs)) (x.den * y.den) := by
  rw [← sg_mul, negQ_eq, negQ_eq, Rat.mul_def']
theorem inv_mk (y : Rat) : y⁻¹ = mkRat (sg (negQ y) y.den) y.num.natAbs := by
  rw [Rat.inv_def]
  have h := negQ_eq y
  unfold sg at h ⊢
  cases hn : negQ y
  · rw [hn] at h; simp at h
    rw [← h, Rat.divInt_ofNat]; simp
  · rw [hn] at h; simp only [if_true] at h
    rw [← h, Rat.divInt_neg', Rat.divInt_ofNat]; simp
theorem div_mk (x y : Rat) : x / y = mkRat (sg (negQ x != negQ y) (x.num.natAbs * y.den)) (x.den * y.num.natAbs) := by
  rw [Rat.div_def, inv_mk, ← sg_mul, negQ_eq]
  conv => lhs; rw [← Rat.mkRat_self x]
  rw [Rat.mkRat_mul_mkRat]
theorem cmp_mk (x y : Rat) : cmpQ x y = if (sumF (negQ x) (x.num.natAbs * y.den) (!negQ y) (y.num.natAbs * x.den)).2 = 0 then 0 else if (sumF (negQ x) (x.num.natAbs * y.den) (!negQ y) (y.num.natAbs * x.den)).1 = true then -1 else 1 := by
  have h := sumF_val (negQ x) (x.num.natAbs * y.den) (!negQ y) (y.num.natAbs * x.den)
  rw [sg_not, ← qnum_nat, ← qnum_nat] at h
  unfold cmpQ
  have e1 := Rat.lt_iff x y
  have e2 := Rat.eq_iff_mul_eq_mul (p := x) (q := y)
  generalize sumF (negQ x) (x.num.natAbs * y.den) (!negQ y) (y.num.natAbs * x.den) = r at h ⊢
  obtain ⟨s, k⟩ := r
  simp only at h ⊢
  by_cases hk : k = 0
  · rw [if_pos hk]
    have : sg s k = 0 := sg_zero.2 hk
    rw [if_neg (by rw [e1]; omega), if_pos (by rw [e2]; omega)]
  · rw [if_neg hk]
    cases s
    · have : 0 < sg false k := by unfold sg; simp; omega
      rw [if_neg (by rw [e1]; omega), if_neg (by rw [e2]; omega)]; rfl
    · have : sg true k < 0 := by unfold sg; simp; omega
      rw [if_pos (by rw [e1]; omega)]; rfl
theorem mkRat_red (z : Int) (d : Nat) (hd : d ≠ 0) : (mkRat z d).num.natAbs = z.natAbs / Nat.gcd z.natAbs d ∧ (mkRat z d).den = d / Nat.gcd z.natAbs d ∧ negQ (mkRat z d) = decide (z < 0) := by
  have h1 := Rat.num_mkRat z d
  have h2 := Rat.den_mkRat z d
  rw [if_neg hd, Nat.gcd_comm] at h1 h2
  have hg : (Nat.gcd z.natAbs d : Int) ∣ z := Int.ofNat_dvd_left.2 (Nat.gcd_dvd_left _ _)
  have hp : 0 < Nat.gcd z.natAbs d := Nat.gcd_pos_of_pos_right _ (Nat.pos_of_ne_zero hd)
  refine ⟨?_, h2, ?_⟩
  · rw [h1, Int.natAbs_ediv_of_dvd hg, Int.natAbs_natCast]
  · unfold negQ; rw [h1]
    have : z / (Nat.gcd z.natAbs d : Int) < 0 ↔ z < 0 := by
      rw [Int.ediv_lt_iff_lt_mul (by omega)]; simp
    rw [decide_eq_decide]; exact this
end Go.Proofs.YtlmfppjphblemaaGreatDoor
