/- One step of long division in blocks (Knuth's algorithm D): the plain law. No walk. -/
import Derived.Test.YtlcbdaconghcmaaGreatDoorMulL
namespace Go.Proofs.YtlcbdaconghcmaaGreatDoor
open Go Go.RowKit
set_option maxRecDepth 100000

/-- The estimate: q v1 + r is the two top blocks of u. V, U: the numbers; n: the blocks of V. -/
structure Est (us vs : List Nat) (n q r : Nat) : Prop where
  top : q * nth vs (n - 1) + r = nth us n * BB + nth us (n - 1)
  ge : bval us / bval vs ≤ q
/-- What is given: U has one block more than V, and U < V BB. -/
structure DivIn (us vs : List Nat) (n : Nat) : Prop where
  su : Small us
  sv : Small vs
  n1 : 1 ≤ n
  lu : us.length = n + 1
  lv : vs.length = n
  v1 : 1 ≤ nth vs (n - 1)
  lt : bval us < bval vs * BB

theorem pow_pred {n : Nat} (h : 1 ≤ n) : BB ^ n = BB ^ (n - 1) * BB := by
  obtain ⟨k, rfl⟩ : ∃ k, n = k + 1 := ⟨n - 1, by omega⟩
  exact Nat.pow_succ ..
theorem pow_pred2 {n : Nat} (h : 2 ≤ n) : BB ^ (n - 1) = BB ^ (n - 2) * BB := by
  obtain ⟨k, rfl⟩ : ∃ k, n = k + 2 := ⟨n - 2, by omega⟩
  exact Nat.pow_succ ..
theorem bval_top2 {xs : List Nat} {n : Nat} (h : xs.length = n + 1) (h1 : 1 ≤ n) : bval xs = bval (xs.take (n - 1)) + BB ^ (n - 1) * (nth xs n * BB + nth xs (n - 1)) := by
  have e1 := bval_take_succ xs n
  rw [take_all (by omega)] at e1
  have e2 := bval_take_succ xs (n - 1)
  rw [show n - 1 + 1 = n by omega] at e2
  have e3 : BB ^ n = BB ^ (n - 1) * BB := pow_pred h1
  rw [e1, e2, e3, Nat.mul_add, ← Nat.mul_assoc, Nat.mul_assoc (BB ^ (n - 1)) BB, Nat.mul_comm BB (nth xs n)]
  rw [Nat.mul_assoc]
  omega
theorem bval_top1 {xs : List Nat} {n : Nat} (h : xs.length = n) (h1 : 1 ≤ n) : bval xs = bval (xs.take (n - 1)) + BB ^ (n - 1) * nth xs (n - 1) := by
  have e2 := bval_take_succ xs (n - 1)
  rw [show n - 1 + 1 = n by omega, take_all (by omega)] at e2
  exact e2
theorem take_lt {xs : List Nat} (h : Small xs) (k : Nat) (hk : k ≤ xs.length) : bval (xs.take k) < BB ^ k := by
  have := bval_lt (small_take h k); rwa [List.length_take, Nat.min_eq_left hk] at this
theorem DivIn.vpos {us vs : List Nat} {n : Nat} (h : DivIn us vs n) : BB ^ (n - 1) ≤ bval vs := by
  rw [bval_top1 h.lv h.n1]
  have : BB ^ (n - 1) * 1 ≤ BB ^ (n - 1) * nth vs (n - 1) := Nat.mul_le_mul_left _ h.v1
  omega
theorem DivIn.vpos' {us vs : List Nat} {n : Nat} (h : DivIn us vs n) : 0 < bval vs := Nat.lt_of_lt_of_le (Nat.pow_pos BB_pos) h.vpos
theorem DivIn.qlt {us vs : List Nat} {n : Nat} (h : DivIn us vs n) : bval us / bval vs < BB := Nat.div_lt_of_lt_mul h.lt
/-- The first estimate is not too small. -/
theorem Est.start {us vs : List Nat} {n : Nat} (h : DivIn us vs n) :
    Est us vs n ((nth us n * BB + nth us (n - 1)) / nth vs (n - 1)) ((nth us n * BB + nth us (n - 1)) % nth vs (n - 1)) := by
  refine ⟨by rw [Nat.mul_comm]; exact Nat.div_add_mod _ _, ?_⟩
  rw [Nat.le_div_iff_mul_le h.v1]
  have h1 := Nat.div_mul_le_self (bval us) (bval vs)
  generalize bval us / bval vs = Q at *
  have h2 := bval_top2 h.lu h.n1
  have h3 := take_lt h.su (n - 1) (by rw [h.lu]; omega)
  have h4 := bval_top1 h.lv h.n1
  have h5 : Q * (BB ^ (n - 1) * nth vs (n - 1)) ≤ Q * bval vs := Nat.mul_le_mul_left _ (by omega)
  have h6 : BB ^ (n - 1) * (Q * nth vs (n - 1)) < BB ^ (n - 1) * (nth us n * BB + nth us (n - 1) + 1) := by
    rw [Nat.mul_left_comm, Nat.mul_add]; omega
  have := Nat.lt_of_mul_lt_mul_left h6
  omega
theorem bval_top3 {xs : List Nat} {n : Nat} (h : xs.length = n + 1) (h1 : 2 ≤ n) : bval xs = bval (xs.take (n - 2)) + BB ^ (n - 2) * ((nth xs n * BB + nth xs (n - 1)) * BB + nth xs (n - 2)) := by
  have e2 := bval_take_succ xs (n - 2)
  rw [show n - 2 + 1 = n - 1 by omega] at e2
  rw [bval_top2 h (by omega), e2]
  have e3 : BB ^ (n - 1) = BB ^ (n - 2) * BB := pow_pred2 h1
  rw [e3, Nat.mul_add (BB ^ (n - 2)), Nat.mul_assoc, Nat.mul_comm BB (nth xs n * BB + nth xs (n - 1))]
  omega
theorem bval_top2' {xs : List Nat} {n : Nat} (h : xs.length = n) (h1 : 2 ≤ n) : bval xs = bval (xs.take (n - 2)) + BB ^ (n - 2) * (nth xs (n - 1) * BB + nth xs (n - 2)) := by
  have := bval_top2 (n := n - 1) (xs := xs) (by omega) (by omega)
  rwa [show n - 1 - 1 = n - 2 by omega] at this
/-- A step back: the test says that q is too great. -/
theorem Est.back {us vs : List Nat} {n q r : Nat} (h : DivIn us vs n) (he : Est us vs n q r) (ht : BB ≤ q ∨ (2 ≤ n ∧ r * BB + nth us (n - 2) < q * nth vs (n - 2))) :
    1 ≤ q ∧ Est us vs n (q - 1) (r + nth vs (n - 1)) := by
  have hlt : bval us / bval vs < q := by
    rcases ht with ht | ⟨hn, ht⟩
    · exact Nat.lt_of_lt_of_le h.qlt ht
    · rw [Nat.div_lt_iff_lt_mul h.vpos']
      have h1 := bval_top3 h.lu hn
      have h2 := bval_top2' h.lv hn
      have h3 := take_lt h.su (n - 2) (by rw [h.lu]; omega)
      have h4 : (nth us n * BB + nth us (n - 1)) * BB + nth us (n - 2) + 1 ≤ q * (nth vs (n - 1) * BB + nth vs (n - 2)) := by
        rw [← he.top, Nat.add_mul, Nat.mul_add, Nat.mul_assoc]; omega
      have h5 : BB ^ (n - 2) * ((nth us n * BB + nth us (n - 1)) * BB + nth us (n - 2) + 1) ≤ BB ^ (n - 2) * (q * (nth vs (n - 1) * BB + nth vs (n - 2))) := Nat.mul_le_mul_left _ h4
      have h6 : BB ^ (n - 2) * (q * (nth vs (n - 1) * BB + nth vs (n - 2))) ≤ q * bval vs := by
        rw [Nat.mul_left_comm]; exact Nat.mul_le_mul_left _ (by omega)
      rw [Nat.mul_add (BB ^ (n - 2)) _ 1, Nat.mul_one] at h5
      omega
  have hq1 : 1 ≤ q := Nat.lt_of_le_of_lt (Nat.zero_le _) hlt
  refine ⟨hq1, ?_, Nat.le_sub_one_of_lt hlt⟩
  clear hlt
  have := he.top
  have e : q * nth vs (n - 1) = (q - 1) * nth vs (n - 1) + nth vs (n - 1) := by
    have : q = q - 1 + 1 := by omega
    rw [this, Nat.add_mul, Nat.one_mul, Nat.add_sub_cancel]
  omega
/-- Behind the loop q is the quotient or one more. -/
theorem Est.done {us vs : List Nat} {n q r : Nat} (h : DivIn us vs n) (he : Est us vs n q r) (hq : q < BB) (ht : n = 1 ∨ BB ≤ r ∨ (2 ≤ n ∧ q * nth vs (n - 2) ≤ r * BB + nth us (n - 2))) :
    q * bval vs < bval us + bval vs := by
  by_cases hn : n = 1
  · subst hn
    have h1 := bval_top2 h.lu (by omega)
    have h2 := bval_top1 h.lv (by omega)
    simp only [Nat.sub_self, Nat.pow_zero, Nat.one_mul, List.take_zero, show bval [] = 0 from rfl, Nat.zero_add] at h1 h2
    have := he.top
    simp only [Nat.sub_self] at this
    have := h.vpos'
    rw [h2] at *
    omega
  · have hn2 : 2 ≤ n := by have := h.n1; omega
    have h0 : q * nth vs (n - 2) ≤ r * BB + nth us (n - 2) := by
      rcases ht with h1 | h1 | h1
      · omega
      · have h2 : q * nth vs (n - 2) ≤ BB * BB := Nat.mul_le_mul (by omega) (by have := h.sv (n - 2); omega)
        have h3 : BB * BB ≤ r * BB := Nat.mul_le_mul_right _ h1
        omega
      · exact h1.2
    have h1 := bval_top3 h.lu hn2
    have h2 := bval_top2' h.lv hn2
    have h3 := take_lt h.sv (n - 2) (by rw [h.lv]; omega)
    have h4 : q * (nth vs (n - 1) * BB + nth vs (n - 2)) ≤ (nth us n * BB + nth us (n - 1)) * BB + nth us (n - 2) := by
      rw [← he.top, Nat.add_mul, Nat.mul_add, Nat.mul_assoc]; omega
    have h5 : BB ^ (n - 2) * (q * (nth vs (n - 1) * BB + nth vs (n - 2))) ≤ BB ^ (n - 2) * ((nth us n * BB + nth us (n - 1)) * BB + nth us (n - 2)) := Nat.mul_le_mul_left _ h4
    have h6 : q * bval vs = q * bval (vs.take (n - 2)) + BB ^ (n - 2) * (q * (nth vs (n - 1) * BB + nth vs (n - 2))) := by
      rw [h2, Nat.mul_add, Nat.mul_left_comm]
    have h7 : q * bval (vs.take (n - 2)) < BB ^ (n - 1) := by
      have e : BB ^ (n - 1) = BB * BB ^ (n - 2) := by rw [Nat.mul_comm]; exact pow_pred2 hn2
      rw [e]
      exact Nat.mul_lt_mul_of_lt_of_le hq (by omega) (Nat.pow_pos BB_pos)
    have := h.vpos
    omega

/-- Multiply and subtract: i blocks are done; us' is what has become of us. -/
structure SubIn (us vs us' : List Nat) (q i c bo : Nat) : Prop where
  len : us'.length = us.length
  small : Small us'
  carry : c < BB
  borrow : bo ≤ 1
  same : ∀ j, i ≤ j → nth us' j = nth us j
  val : bval (us'.take i) + q * bval (vs.take i) = bval (us.take i) + BB ^ i * (c + bo)
theorem SubIn.start (us vs : List Nat) (q : Nat) (h : Small us) : SubIn us vs us q 0 0 0 := ⟨rfl, h, BB_pos, by omega, fun _ _ => rfl, by simp [bval]⟩
theorem take_set (L : List Nat) (i v : Nat) : (L.set i v).take i = L.take i := by
  rw [List.take_set]; apply List.set_eq_of_length_le; rw [List.length_take]; omega
def dSub (u c b x : Nat) : Nat := u + 1000000000 - (c + x) % 1000000000 - b
theorem dSub_cast {u c b x : Nat} (hb : b ≤ 1) : ((u : Int) + 1000000000 - ((c : Int) + (x : Int)) % 1000000000 - (b : Int)) = ((dSub u c b x : Nat) : Int) := by unfold dSub; omega
theorem SubIn.step {us vs us' : List Nat} {q i c bo : Nat} (h : SubIn us vs us' q i c bo) (hv : Small vs) (hq : q < BB) (hi : i < us.length) :
    SubIn us vs (us'.set i (dSub (nth us i) c bo (q * nth vs i) % 1000000000)) q (i + 1) ((c + q * nth vs i) / 1000000000) (1 - dSub (nth us i) c bo (q * nth vs i) / 1000000000) := by
  have hb := mul_p_bound (l := 0) BB_pos h.carry hq (hv i)
  rw [Nat.zero_add] at hb
  have hu : nth us i < BB := by rw [← h.same i (Nat.le_refl _)]; exact h.small i
  have hlt : i < us'.length := by rw [h.len]; exact hi
  have hval := h.val
  have hc := h.carry
  have hbo := h.borrow
  have hm : (c + q * nth vs i) % 1000000000 < 1000000000 := Nat.mod_lt _ (by omega)
  have hdm : (c + q * nth vs i) % 1000000000 + 1000000000 * ((c + q * nth vs i) / 1000000000) = c + q * nth vs i := Nat.mod_add_div _ _
  rw [BB_val] at hu hc
  refine ⟨by simp [h.len], small_set h.small _ _ (by rw [BB_val]; exact Nat.mod_lt _ (by omega)), by rw [BB_val]; omega, by omega, fun j hj => ?_, ?_⟩
  · rw [nth_set _ _ _ _ hlt, if_neg (by omega)]; exact h.same j (by omega)
  · rw [bval_take_succ, bval_take_succ vs, bval_take_succ us, take_set, nth_set _ _ _ _ hlt, if_pos rfl, Nat.mul_add, Nat.pow_succ]
    generalize hd : dSub (nth us i) c bo (q * nth vs i) = d at *
    unfold dSub at hd
    generalize hx : q * nth vs i = x at *
    have e1 : q * (BB ^ i * nth vs i) = BB ^ i * x := by rw [Nat.mul_left_comm, hx]
    rw [e1]
    have e2 : d % 1000000000 + x + c + bo = nth us i + BB * ((c + x) / 1000000000 + (1 - d / 1000000000)) := by rw [BB_val]; omega
    have e3 : BB ^ i * (d % 1000000000 + x + c + bo) = BB ^ i * nth us i + BB ^ i * BB * ((c + x) / 1000000000 + (1 - d / 1000000000)) := by rw [e2, Nat.mul_add, Nat.mul_assoc]
    rw [Nat.mul_add, Nat.mul_add, Nat.mul_add] at e3
    rw [Nat.mul_add (BB ^ i)] at hval
    omega
/-- The last block has no block of vs: nothing is carried beyond it. -/
theorem SubIn.last {us vs us' : List Nat} {n q c bo : Nat} (h : SubIn us vs us' q n c bo) (hl : vs.length = n) : (c + q * nth vs n) / 1000000000 = 0 := by
  rw [nth_out vs n (by omega), Nat.mul_zero, Nat.add_zero]
  have := h.carry
  rw [BB_val] at this
  exact Nat.div_eq_of_lt this
theorem SubIn.done {us vs us' : List Nat} {n q bo : Nat} (h : SubIn us vs us' q (n + 1) 0 bo) (hu : us.length = n + 1) (hl : vs.length = n) :
    bval us' + q * bval vs = bval us + BB ^ (n + 1) * bo ∧ bval us' < BB ^ (n + 1) := by
  have hval := h.val
  have hlen := h.len
  rw [take_all (by omega), take_all (by omega), take_all (by omega), Nat.zero_add] at hval
  have := bval_lt h.small
  rw [hlen, hu] at this
  exact ⟨hval, this⟩
theorem SubIn.fits {us vs us' : List Nat} {n q : Nat} (hd : DivIn us vs n) (h : SubIn us vs us' q (n + 1) 0 0) (hq : bval us / bval vs ≤ q) : q = bval us / bval vs ∧ bval us' = bval us % bval vs := by
  obtain ⟨h1, h2⟩ := h.done hd.lu hd.lv
  rw [Nat.mul_zero, Nat.add_zero] at h1
  have h3 : q ≤ bval us / bval vs := by rw [Nat.le_div_iff_mul_le hd.vpos']; omega
  have h4 : q = bval us / bval vs := by omega
  refine ⟨h4, ?_⟩
  have := Nat.div_add_mod (bval us) (bval vs)
  rw [← h4, Nat.mul_comm] at this
  omega

/-- Add back. -/
structure AddIn (us vs us' : List Nat) (i c : Nat) : Prop where
  len : us'.length = us.length
  small : Small us'
  carry : c ≤ 1
  same : ∀ j, i ≤ j → nth us' j = nth us j
  val : bval (us'.take i) + BB ^ i * c = bval (us.take i) + bval (vs.take i)
theorem AddIn.start (us vs : List Nat) (h : Small us) : AddIn us vs us 0 0 := ⟨rfl, h, by omega, fun _ _ => rfl, by simp [bval]⟩
theorem AddIn.step {us vs us' : List Nat} {i c : Nat} (h : AddIn us vs us' i c) (hv : Small vs) (hi : i < us.length) :
    AddIn us vs (us'.set i ((nth us i + c + nth vs i) % 1000000000)) (i + 1) ((nth us i + c + nth vs i) / 1000000000) := by
  have hu : nth us i < BB := by rw [← h.same i (Nat.le_refl _)]; exact h.small i
  have hvi := hv i
  have hlt : i < us'.length := by rw [h.len]; exact hi
  have hval := h.val
  have hc := h.carry
  rw [BB_val] at hu hvi
  refine ⟨by simp [h.len], small_set h.small _ _ (by rw [BB_val]; exact Nat.mod_lt _ (by omega)), by omega, fun j hj => ?_, ?_⟩
  · rw [nth_set _ _ _ _ hlt, if_neg (by omega)]; exact h.same j (by omega)
  · rw [bval_take_succ, bval_take_succ vs, bval_take_succ us, take_set, nth_set _ _ _ _ hlt, if_pos rfl, Nat.pow_succ]
    generalize nth us i = a at *
    generalize nth vs i = x at *
    have e2 : (a + c + x) % 1000000000 + BB * ((a + c + x) / 1000000000) = a + c + x := by rw [BB_val]; omega
    have e3 : BB ^ i * (a + c + x) = BB ^ i * ((a + c + x) % 1000000000) + BB ^ i * BB * ((a + c + x) / 1000000000) := by rw [Nat.mul_assoc, ← Nat.mul_add, e2]
    rw [Nat.mul_add, Nat.mul_add] at e3
    omega
/-- Behind a borrow, one V is added back. -/
theorem AddIn.fits {us vs us' us'' : List Nat} {n q c : Nat} (hd : DivIn us vs n) (hs : SubIn us vs us' q (n + 1) 0 1) (ha : AddIn us' vs us'' (n + 1) c) (hq : bval us / bval vs ≤ q) (hq2 : q * bval vs < bval us + bval vs) :
    1 ≤ q ∧ q - 1 = bval us / bval vs ∧ bval us'' = bval us % bval vs := by
  obtain ⟨h1, h2⟩ := hs.done hd.lu hd.lv
  have hlen := ha.len
  have hl2 := hs.len
  have hlu := hd.lu
  have hlv := hd.lv
  have hval := ha.val
  rw [take_all (by omega), take_all (by omega), take_all (by omega)] at hval
  have h3 := bval_lt ha.small
  rw [hlen, hl2, hlu] at h3
  rw [Nat.mul_one] at h1
  have hq1 : 1 ≤ q := by
    rcases Nat.eq_zero_or_pos q with h0 | h0
    · subst h0; rw [Nat.zero_mul] at h1; have := bval_lt hd.su; rw [hlu] at this; omega
    · exact h0
  have e : q * bval vs = (q - 1) * bval vs + bval vs := by
    have : q = q - 1 + 1 := by omega
    rw [this, Nat.add_mul, Nat.one_mul, Nat.add_sub_cancel]
  have hc : c = 1 := by
    have := ha.carry
    rcases Nat.eq_zero_or_pos c with h0 | h0
    · subst h0; rw [Nat.mul_zero, Nat.add_zero] at hval; omega
    · omega
  subst hc
  rw [Nat.mul_one] at hval
  have h5 : (q - 1) * bval vs ≤ bval us := by omega
  have h6 : bval us'' = bval us - (q - 1) * bval vs := by omega
  have h7 : bval us'' < bval vs := by omega
  have h8 : q - 1 = bval us / bval vs := by
    have h9 : q - 1 ≤ bval us / bval vs := by rw [Nat.le_div_iff_mul_le hd.vpos']; exact h5
    have h10 : bval us / bval vs < q := by rw [Nat.div_lt_iff_lt_mul hd.vpos']; omega
    omega
  refine ⟨hq1, h8, ?_⟩
  have := Nat.div_add_mod (bval us) (bval vs)
  rw [← h8, Nat.mul_comm] at this
  omega
end Go.Proofs.YtlcbdaconghcmaaGreatDoor
