/- Parts of a proof: MD. -/
import Derived.Test.YtjekapjbigfkbaaGreatDoorS06
import Derived.Deep.QuietTactic
import Derived.BigQuiet
import Derived.Deep.Cut
import Derived.Deep.DeepCutAuto
namespace Go.Proofs.YtjekapjbigfkbaaGreatDoor
open Go Go.RowKit
set_option maxRecDepth 100000
structure Est (us vs : List Nat) (n q r : Nat) : Prop where
  top : q * nth vs (n - 1) + r = nth us n * BB + nth us (n - 1)
  ge : bval us / bval vs ≤ q
structure DivIn (us vs : List Nat) (n : Nat) : Prop where
  su : Small us
  sv : Small vs
  n1 : 1 ≤ n
  lu : us.length = n + 1
  lv : vs.length = n
  v1 : 1 ≤ nth vs (n - 1)
  lt : bval us < bval vs * BB
theorem pow_pred {n : Nat} (h : 1 ≤ n) : BB ^ n = BB ^ (n - 1) * BB := by
  obtain ⟨k, rfl⟩ : ∃ k, n = k + 1 := ⟨n - 1, by omega⟩
  exact Nat.pow_succ ..
theorem pow_pred2 {n : Nat} (h : 2 ≤ n) : BB ^ (n - 1) = BB ^ (n - 2) * BB := by
  obtain ⟨k, rfl⟩ : ∃ k, n = k + 2 := ⟨n - 2, by omega⟩
  exact Nat.pow_succ ..
theorem bval_top2 {xs : List Nat} {n : Nat} (h : xs.length = n + 1) (h1 : 1 ≤ n) : bval xs = bval (xs.take (n - 1)) + BB ^ (n - 1) * (nth xs n * BB + nth xs (n - 1)) := by
  have e1 := bval_take_succ xs n
  rw [take_all (by omega)] at e1
  have e2 := bval_take_succ xs (n - 1)
  rw [show n - 1 + 1 = n by omega] at e2
  have e3 : BB ^ n = BB ^ (n - 1) * BB := pow_pred h1
  rw [e1, e2, e3, Nat.mul_add, ← Nat.mul_assoc, Nat.mul_assoc (BB ^ (n - 1)) BB, Nat.mul_comm BB (nth xs n)]
  rw [Nat.mul_assoc]
  omega
theorem bval_top1 {xs : List Nat} {n : Nat} (h : xs.length = n) (h1 : 1 ≤ n) : bval xs = bval (xs.take (n - 1)) + BB ^ (n - 1) * nth xs (n - 1) := by
  have e2 := bval_take_succ xs (n - 1)
  rw [show n - 1 + 1 = n by omega, take_all (by omega)] at e2
  exact e2
theorem take_lt {xs : List Nat} (h : Small xs) (k : Nat) (hk : k ≤ xs.length) : bval (xs.take k) < BB ^ k := by
  have := bval_lt (small_take h k); rwa [List.length_take, Nat.min_eq_left hk] at this
theorem DivIn.vpos {us vs : List Nat} {n : Nat} (h : DivIn us vs n) : BB ^ (n - 1) ≤ bval vs := by
  rw [bval_top1 h.lv h.n1]
  have : BB ^ (n - 1) * 1 ≤ BB ^ (n - 1) * nth vs (n - 1) := Nat.mul_le_mul_left _ h.v1
  omega
theorem DivIn.vpos' {us vs : List Nat} {n : Nat} (h : DivIn us vs n) : 0 < bval vs := Nat.lt_of_lt_of_le (Nat.pow_pos BB_pos) h.vpos
theorem DivIn.qlt {us vs : List Nat} {n : Nat} (h : DivIn us vs n) : bval us / bval vs < BB := Nat.div_lt_of_lt_mul h.lt
theorem Est.start {us vs : List Nat} {n : Nat} (h : DivIn us vs n) :
    Est us vs n ((nth us n * BB + nth us (n - 1)) / nth vs (n - 1)) ((nth us n * BB + nth us (n - 1)) % nth vs (n - 1)) := by
  refine ⟨by rw [Nat.mul_comm]; exact Nat.div_add_mod _ _, ?_⟩
  rw [Nat.le_div_iff_mul_le h.v1]
  have h1 := Nat.div_mul_le_self (bval us) (bval vs)
  generalize bval us / bval vs = Q at *
  have h2 := bval_top2 h.lu h.n1
  have h3 := take_lt h.su (n - 1) (by rw [h.lu]; omega)
  have h4 := bval_top1 h.lv h.n1
  have h5 : Q * (BB ^ (n - 1) * nth vs (n - 1)) ≤ Q * bval vs := Nat.mul_le_mul_left _ (by omega)
  have h6 : BB ^ (n - 1) * (Q * nth vs (n - 1)) < BB ^ (n - 1) * (nth us n * BB + nth us (n - 1) + 1) := by
    rw [Nat.mul_left_comm, Nat.mul_add]; omega
  have := Nat.lt_of_mul_lt_mul_left h6
  omega
theorem bval_top3 {xs : List Nat} {n : Nat} (h : xs.length = n + 1) (h1 : 2 ≤ n) : bval xs = bval (xs.take (n - 2)) + BB ^ (n - 2) * ((nth xs n * BB + nth xs (n - 1)) * BB + nth xs (n - 2)) := by
  have e2 := bval_take_succ xs (n - 2)
  rw [show n - 2 + 1 = n - 1 by omega] at e2
  rw [bval_top2 h (by omega), e2]
  have e3 : BB ^ (n - 1) = BB ^ (n - 2) * BB := pow_pred2 h1
  rw [e3, Nat.mul_add (BB ^ (n - 2)), Nat.mul_assoc, Nat.mul_comm BB (nth xs n * BB + nth xs (n - 1))]
  omega
theorem bval_top2' {xs : List Nat} {n : Nat} (h : xs.length = n) (h1 : 2 ≤ n) : bval xs = bval (xs.take (n - 2)) + BB ^ (n - 2) * (nth xs (n - 1) * BB + nth xs (n - 2)) := by
  have := bval_top2 (n := n - 1) (xs := xs) (by omega) (by omega)
  rwa [show n - 1 - 1 = n - 2 by omega] at this
theorem Est.back {us vs : List Nat} {n q r : Nat} (h : DivIn us vs n) (he : Est us vs n q r) (ht : BB ≤ q ∨ (2 ≤ n ∧ r * BB + nth us (n - 2) < q * nth vs (n - 2))) :
    1 ≤ q ∧ Est us vs n (q - 1) (r + nth vs (n - 1)) := by
  have hlt : bval us / bval vs < q := by
    rcases ht with ht | ⟨hn, ht⟩
    · exact Nat.lt_of_lt_of_le h.qlt ht
    · rw [Nat.div_lt_iff_lt_mul h.vpos']
      have h1 := bval_top3 h.lu hn
      have h2 := bval_top2' h.lv hn
      have h3 := take_lt h.su (n - 2) (by rw [h.lu]; omega)
      have h4 : (nth us n * BB + nth us (n - 1)) * BB + nth us (n - 2) + 1 ≤ q * (nth vs (n - 1) * BB + nth vs (n - 2)) := by
        rw [← he.top, Nat.add_mul, Nat.mul_add, Nat.mul_assoc]; omega
      have h5 : BB ^ (n - 2) * ((nth us n * BB + nth us (n - 1)) * BB + nth us (n - 2) + 1) ≤ BB ^ (n - 2) * (q * (nth vs (n - 1) * BB + nth vs (n - 2))) := Nat.mul_le_mul_left _ h4
      have h6 : BB ^ (n - 2) * (q * (nth vs (n - 1) * BB + nth vs (n - 2))) ≤ q * bval vs := by
        rw [Nat.mul_left_comm]; exact Nat.mul_le_mul_left _ (by omega)
      rw [Nat.mul_add (BB ^ (n - 2)) _ 1, Nat.mul_one] at h5
      omega
  have hq1 : 1 ≤ q := Nat.lt_of_le_of_lt (Nat.zero_le _) hlt
  refine ⟨hq1, ?_, Nat.le_sub_one_of_lt hlt⟩
  clear hlt
  have := he.top
  have e : q * nth vs (n - 1) = (q - 1) * nth vs (n - 1) + nth vs (n - 1) := by
    have : q = q - 1 + 1 := by omega
    rw [this, Nat.add_mul, Nat.one_mul, Nat.add_sub_cancel]
  omega
theorem Est.done {us vs : List Nat} {n q r : Nat} (h : DivIn us vs n) (he : Est us vs n q r) (hq : q < BB) (ht : n = 1 ∨ BB ≤ r ∨ (2 ≤ n ∧ q * nth vs (n - 2) ≤ r * BB + nth us (n - 2))) :
    q * bval vs < bval us + bval vs := by
  by_cases hn : n = 1
  · subst hn
    have h1 := bval_top2 h.lu (by omega)
    have h2 := bval_top1 h.lv (by omega)
    simp only [Nat.sub_self, Nat.pow_zero, Nat.one_mul, List.take_zero, show bval [] = 0 from rfl, Nat.zero_add] at h1 h2
    have := he.top
    simp only [Nat.sub_self] at this
    have := h.vpos'
    rw [h2] at *
    omega
  · have hn2 : 2 ≤ n := by have := h.n1; omega
    have h0 : q * nth vs (n - 2) ≤ r * BB + nth us (n - 2) := by
      rcases ht with h1 | h1 | h1
      · omega
      · have h2 : q * nth vs (n - 2) ≤ BB * BB := Nat.mul_le_mul (by omega) (by have := h.sv (n - 2); omega)
        have h3 : BB * BB ≤ r * BB := Nat.mul_le_mul_right _ h1
        omega
      · exact h1.2
    have h1 := bval_top3 h.lu hn2
    have h2 := bval_top2' h.lv hn2
    have h3 := take_lt h.sv (n - 2) (by rw [h.lv]; omega)
    have h4 : q * (nth vs (n - 1) * BB + nth vs (n - 2)) ≤ (nth us n * BB + nth us (n - 1)) * BB + nth us (n - 2) := by
      rw [← he.top, Nat.add_mul, Nat.mul_add, Nat.mul_assoc]; omega
    have h5 : BB ^ (n - 2) * (q * (nth vs (n - 1) * BB + nth vs (n - 2))) ≤ BB ^ (n - 2) * ((nth us n * BB + nth us (n - 1)) * BB + nth us (n - 2)) := Nat.mul_le_mul_left _ h4
    have h6 : q * bval vs = q * bval (vs.take (n - 2)) + BB ^ (n - 2) * (q * (nth vs (n - 1) * BB + nth vs (n - 2))) := by
      rw [h2, Nat.mul_add, Nat.mul_left_comm]
    have h7 : q * bval (vs.take (n - 2)) < BB ^ (n - 1) := by
      have e : BB ^ (n - 1) = BB * BB ^ (n - 2) := by rw [Nat.mul_comm]; exact pow_pred2 hn2
      rw [e]
      exact Nat.mul_lt_mul_of_lt_of_le hq (by omega) (Nat.pow_pos BB_pos)
    have := h.vpos
    omega
structure SubIn (us vs us' : List Nat) (q i c bo : Nat) : Prop where
  len : us'.length = us.length
  small : Small us'
  carry : c < BB
  borrow : bo ≤ 1
  same : ∀ j, i ≤ j → nth us' j = nth us j
  val : bval (us'.take i) + q * bval (vs.take i) = bval (us.take i) + BB ^ i * (c + bo)
theorem SubIn.start (us vs : List Nat) (q : Nat) (h : Small us) : SubIn us vs us q 0 0 0 := ⟨rfl, h, BB_pos, by omega, fun _ _ => rfl, by simp [bval]⟩
theorem take_set (L : List Nat) (i v : Nat) : (L.set i v).take i = L.take i := by
  rw [List.take_set]; apply List.set_eq_of_length_le; rw [List.length_take]; omega
def dSub (u c b x : Nat) : Nat := u + 1000000000 - (c + x) % 1000000000 - b
theorem dSub_cast {u c b x : Nat} (hb : b ≤ 1) : ((u : Int) + 1000000000 - ((c : Int) + (x : Int)) % 1000000000 - (b : Int)) = ((dSub u c b x : Nat) : Int) := by unfold dSub; omega
theorem SubIn.step {us vs us' : List Nat} {q i c bo : Nat} (h : SubIn us vs us' q i c bo) (hv : Small vs) (hq : q < BB) (hi : i < us.length) :
    SubIn us vs (us'.set i (dSub (nth us i) c bo (q * nth vs i) % 1000000000)) q (i + 1) ((c + q * nth vs i) / 1000000000) (1 - dSub (nth us i) c bo (q * nth vs i) / 1000000000) := by
  have hb := mul_p_bound (l := 0) BB_pos h.carry hq (hv i)
  rw [Nat.zero_add] at hb
  have hu : nth us i < BB := by rw [← h.same i (Nat.le_refl _)]; exact h.small i
  have hlt : i < us'.length := by rw [h.len]; exact hi
  have hval := h.val
  have hc := h.carry
  have hbo := h.borrow
  have hm : (c + q * nth vs i) % 1000000000 < 1000000000 := Nat.mod_lt _ (by omega)
  have hdm : (c + q * nth vs i) % 1000000000 + 1000000000 * ((c + q * nth vs i) / 1000000000) = c + q * nth vs i := Nat.mod_add_div _ _
  rw [BB_val] at hu hc
  refine ⟨by simp [h.len], small_set h.small _ _ (by rw [BB_val]; exact Nat.mod_lt _ (by omega)), by rw [BB_val]; omega, by omega, fun j hj => ?_, ?_⟩
  · rw [nth_set _ _ _ _ hlt, if_neg (by omega)]; exact h.same j (by omega)
  · rw [bval_take_succ, bval_take_succ vs, bval_take_succ us, take_set, nth_set _ _ _ _ hlt, if_pos rfl, Nat.mul_add, Nat.pow_succ]
    generalize hd : dSub (nth us i) c bo (q * nth vs i) = d at *
    unfold dSub at hd
    generalize hx : q * nth vs i = x at *
    have e1 : q * (BB ^ i * nth vs i) = BB ^ i * x := by rw [Nat.mul_left_comm, hx]
    rw [e1]
    have e2 : d % 1000000000 + x + c + bo = nth us i + BB * ((c + x) / 1000000000 + (1 - d / 1000000000)) := by rw [BB_val]; omega
    have e3 : BB ^ i * (d % 1000000000 + x + c + bo) = BB ^ i * nth us i + BB ^ i * BB * ((c + x) / 1000000000 + (1 - d / 1000000000)) := by rw [e2, Nat.mul_add, Nat.mul_assoc]
    rw [Nat.mul_add, Nat.mul_add, Nat.mul_add] at e3
    rw [Nat.mul_add (BB ^ i)] at hval
    omega
theorem SubIn.last {us vs us' : List Nat} {n q c bo : Nat} (h : SubIn us vs us' q n c bo) (hl : vs.length = n) : (c + q * nth vs n) / 1000000000 = 0 := by
  rw [nth_out vs n (by omega), Nat.mul_zero, Nat.add_zero]
  have := h.carry
  rw [BB_val] at this
  exact Nat.div_eq_of_lt this
theorem SubIn.done {us vs us' : List Nat} {n q bo : Nat} (h : SubIn us vs us' q (n + 1) 0 bo) (hu : us.length = n + 1) (hl : vs.length = n) :
    bval us' + q * bval vs = bval us + BB ^ (n + 1) * bo ∧ bval us' < BB ^ (n + 1) := by
  have hval := h.val
  have hlen := h.len
  rw [take_all (by omega), take_all (by omega), take_all (by omega), Nat.zero_add] at hval
  have := bval_lt h.small
  rw [hlen, hu] at this
  exact ⟨hval, this⟩
theorem SubIn.fits {us vs us' : List Nat} {n q : Nat} (hd : DivIn us vs n) (h : SubIn us vs us' q (n + 1) 0 0) (hq : bval us / bval vs ≤ q) : q = bval us / bval vs ∧ bval us' = bval us % bval vs := by
  obtain ⟨h1, h2⟩ := h.done hd.lu hd.lv
  rw [Nat.mul_zero, Nat.add_zero] at h1
  have h3 : q ≤ bval us / bval vs := by rw [Nat.le_div_iff_mul_le hd.vpos']; omega
  have h4 : q = bval us / bval vs := by omega
  refine ⟨h4, ?_⟩
  have := Nat.div_add_mod (bval us) (bval vs)
  rw [← h4, Nat.mul_comm] at this
  omega
structure AddIn (us vs us' : List Nat) (i c : Nat) : Prop where
  len : us'.length = us.length
  small : Small us'
  carry : c ≤ 1
  same : ∀ j, i ≤ j → nth us' j = nth us j
  val : bval (us'.take i) + BB ^ i * c = bval (us.take i) + bval (vs.take i)
theorem AddIn.start (us vs : List Nat) (h : Small us) : AddIn us vs us 0 0 := ⟨rfl, h, by omega, fun _ _ => rfl, by simp [bval]⟩
theorem AddIn.step {us vs us' : List Nat} {i c : Nat} (h : AddIn us vs us' i c) (hv : Small vs) (hi : i < us.length) :
    AddIn us vs (us'.set i ((nth us i + c + nth vs i) % 1000000000)) (i + 1) ((nth us i + c + nth vs i) / 1000000000) := by
  have hu : nth us i < BB := by rw [← h.same i (Nat.le_refl _)]; exact h.small i
  have hvi := hv i
  have hlt : i < us'.length := by rw [h.len]; exact hi
  have hval := h.val
  have hc := h.carry
  rw [BB_val] at hu hvi
  refine ⟨by simp [h.len], small_set h.small _ _ (by rw [BB_val]; exact Nat.mod_lt _ (by omega)), by omega, fun j hj => ?_, ?_⟩
  · rw [nth_set _ _ _ _ hlt, if_neg (by omega)]; exact h.same j (by omega)
  · rw [bval_take_succ, bval_take_succ vs, bval_take_succ us, take_set, nth_set _ _ _ _ hlt, if_pos rfl, Nat.pow_succ]
    generalize nth us i = a at *
    generalize nth vs i = x at *
    have e2 : (a + c + x) % 1000000000 + BB * ((a + c + x) / 1000000000) = a + c + x := by rw [BB_val]; omega
    have e3 : BB ^ i * (a + c + x) = BB ^ i * ((a + c + x) % 1000000000) + BB ^ i * BB * ((a + c + x) / 1000000000) := by rw [Nat.mul_assoc, ← Nat.mul_add, e2]
    rw [Nat.mul_add, Nat.mul_add] at e3
    omega
theorem AddIn.fits {us vs us' us'' : List Nat} {n q c : Nat} (hd : DivIn us vs n) (hs : SubIn us vs us' q (n + 1) 0 1) (ha : AddIn us' vs us'' (n + 1) c) (hq : bval us / bval vs ≤ q) (hq2 : q * bval vs < bval us + bval vs) :
    1 ≤ q ∧ q - 1 = bval us / bval vs ∧ bval us'' = bval us % bval vs := by
  obtain ⟨h1, h2⟩ := hs.done hd.lu hd.lv
  have hlen := ha.len
  have hl2 := hs.len
  have hlu := hd.lu
  have hlv := hd.lv
  have hval := ha.val
  rw [take_all (by omega), take_all (by omega), take_all (by omega)] at hval
  have h3 := bval_lt ha.small
  rw [hlen, hl2, hlu] at h3
  rw [Nat.mul_one] at h1
  have hq1 : 1 ≤ q := by
    rcases Nat.eq_zero_or_pos q with h0 | h0
    · subst h0; rw [Nat.zero_mul] at h1; have := bval_lt hd.su; rw [hlu] at this; omega
    · exact h0
  have e : q * bval vs = (q - 1) * bval vs + bval vs := by
    have : q = q - 1 + 1 := by omega
    rw [this, Nat.add_mul, Nat.one_mul, Nat.add_sub_cancel]
  have hc : c = 1 := by
    have := ha.carry
    rcases Nat.eq_zero_or_pos c with h0 | h0
    · subst h0; rw [Nat.mul_zero, Nat.add_zero] at hval; omega
    · omega
  subst hc
  rw [Nat.mul_one] at hval
  have h5 : (q - 1) * bval vs ≤ bval us := by omega
  have h6 : bval us'' = bval us - (q - 1) * bval vs := by omega
  have h7 : bval us'' < bval vs := by omega
  have h8 : q - 1 = bval us / bval vs := by
    have h9 : q - 1 ≤ bval us / bval vs := by rw [Nat.le_div_iff_mul_le hd.vpos']; exact h5
    have h10 : bval us / bval vs < q := by rw [Nat.div_lt_iff_lt_mul hd.vpos']; omega
    omega
  refine ⟨hq1, h8, ?_⟩
  have := Nat.div_add_mod (bval us) (bval vs)
  rw [← h8, Nat.mul_comm] at this
  omega
end Go.Proofs.YtjekapjbigfkbaaGreatDoor
namespace Go.Proofs.YtjekapjbigfkbaaGreatDoor
open Go Go.RowKit
set_option maxRecDepth 100000
theorem grb_refl (w : World) (r : Option Nat) : w.grownBy w r := ⟨rfl, rfl, rfl, Nat.le_refl _, fun _ _ _ => rfl⟩
theorem grb_trans {w w1 w2 : World} {r : Option Nat} (h : w.grownBy w1 r) (h' : w1.grownBy w2 r) : w.grownBy w2 r :=
  ⟨h'.os.trans h.os, h'.tape.trans h.tape, h'.output.trans h.output, Nat.le_trans h.size h'.size, fun k hk hne => (h'.block k (Nat.lt_of_lt_of_le hk h.size) hne).trans (h.block k hk hne)⟩
theorem grb_drewN {w w1 : World} {r : Option Nat} (h : w.grownBy w1 r) (n : Nat) : w.grownBy (w1.drewN n) r := ⟨h.os, h.tape, h.output, h.size, h.block⟩
theorem grb_set {w w1 : World} {g : Nat} (h : w.grownBy w1 (some g)) (j : Nat) (v : Value) : w.grownBy (w1.setCell ⟨g, j, none⟩ v) (some g) :=
  grb_trans h ⟨rfl, rfl, rfl, by simp [World.setCell], fun k _ hne => Below.heap_setCell _ _ _ _ (by intro e; apply hne; rw [e])⟩
theorem nth_mid (A us C : List Nat) (i : Nat) (h : i < us.length) : nth (A ++ us ++ C) (A.length + i) = nth us i := by
  rw [nth_append_left _ _ _ (by rw [List.length_append]; omega), nth_append_right _ _ _ (by omega), Nat.add_sub_cancel_left]
theorem set_mid (A us C : List Nat) (i v : Nat) (h : i < us.length) : (A ++ us ++ C).set (A.length + i) v = A ++ us.set i v ++ C := by
  rw [List.set_append_left _ _ (by rw [List.length_append]; omega), List.set_append_right _ _ (by omega), Nat.add_sub_cancel_left]
def DigEnd (B g N cap : Nat) (A us C vs : List Nat) (w : World) (e : Ending) (w' : World) : Prop :=
  ∃ us' : List Nat, e = .returned (.int .u64 ((bval us / bval vs : Nat) : Int)) ∧ us'.length = us.length ∧ Small us' ∧ bval us' = bval us % bval vs ∧
    Own w' B 153 .u64 (.slice (some ⟨g, 0, none⟩) N cap) (A ++ us' ++ C) ∧ w.grownBy w' (some g)
set_option maxRecDepth 100000 in
set_option maxHeartbeats 2000000 in
theorem digit_any (B g N cap capu bv ov cv n : Nat) (A us C vs : List Nat) (w : World) (hN : (A ++ us ++ C).length = N) (hown : Own w B 153 .u64 (.slice (some ⟨g, 0, none⟩) N cap) (A ++ us ++ C))
    (hd : DivIn us vs n) (hn : n ≤ 100000) (hne : bv ≠ g) (hv : ∀ i, i < n → w.cell? ⟨bv, ov + i, none⟩ = some (.int .u64 ((nth vs i : Nat) : Int))) :
    Calls Tryz.prog 192 #[.slice (some ⟨g, A.length, none⟩) (n + 1) capu, .slice (some ⟨bv, ov, none⟩) n cv] w (DigEnd B g N cap A us C vs w) := by
  have HD := Lib.hid hd; clear hd
  have HN := Lib.hid hN; clear hN
  have HO := Lib.hid hown; clear hown
  have HV := Lib.hid hv; clear hv
  have h1 := HD.out.n1
  have hul := HD.out.lu
  have HUL := Lib.hid hul; clear hul
  have un : w.cell? ⟨g, A.length + n, none⟩ = some (.int .u64 ((nth us n : Nat) : Int)) := by
    have h := HO.out.cell HN.out (A.length + n) (by rw [← HN.out, List.length_append, List.length_append, HUL.out]; omega)
    rwa [nth_mid _ _ _ _ (by rw [HUL.out]; omega)] at h
  have un1 : w.cell? ⟨g, A.length + (n - 1), none⟩ = some (.int .u64 ((nth us (n - 1) : Nat) : Int)) := by
    have h := HO.out.cell HN.out (A.length + (n - 1)) (by rw [← HN.out, List.length_append, List.length_append, HUL.out]; omega)
    rwa [nth_mid _ _ _ _ (by rw [HUL.out]; omega)] at h
  have vn1 := HV.out (n - 1) (by omega)
  have hv1 := HD.out.v1
  have hun := HD.out.su n
  have hun1 := HD.out.su (n - 1)
  rw [BB_val] at hun hun1
  go_enter Tryz.func192, Tryz.ntmps192
  go_wp2_with fail
  go_quiet (fail)
  go_wp2_with fail
  go_quiet (fail)
  go_upto_block 0 with (fail)
  generalize hw2 : (World.drewN _ _) = w2
  have hgr : w.grownBy w2 (some g) := by rw [← hw2]; exact grb_drewN (grb_drewN (grb_refl _ _) _) _
  have hblow : Below w.heap.size w w2 := by rw [← hw2]; exact below_drewN (below_drewN (Below.refl _ _) _) _
  have hob : Own w2 B 153 .u64 (.slice (some ⟨g, 0, none⟩) N cap) (A ++ us ++ C) := HO.out.kept hblow (Nat.le_refl _)
  have HGR := Lib.hid hgr; clear hgr
  have HOB := Lib.hid hob; clear hob
  clear hw2 hblow un un1 vn1 HO
  go_cut [7, 8] from 43 (fun q r wx => ∃ qn rn : Nat, q = .int .u64 (qn : Int) ∧ r = .int .u64 (rn : Int) ∧ qn < BB ∧ bval us / bval vs ≤ qn ∧ qn * bval vs < bval us + bval vs ∧
      Own wx B 153 .u64 (.slice (some ⟨g, 0, none⟩) N cap) (A ++ us ++ C) ∧ w.grownBy wx (some g))
  case first =>
    go_wp2_with fail
    go_loopw [7, 8] (fun q r wr => ∃ qn rn : Nat, q = .int .u64 (qn : Int) ∧ r = .int .u64 (rn : Int) ∧ Est us vs n qn rn ∧
        Own wr B 153 .u64 (.slice (some ⟨g, 0, none⟩) N cap) (A ++ us ++ C) ∧ w.grownBy wr (some g)) (fun q _ _ => (intOf q).toNat)
    case atStart =>
      have he := Est.start HD.out
      rw [BB_val] at he
      exact ⟨_, _, by go_num, by go_num, he, HOB.out, HGR.out⟩
    case round =>
      obtain ⟨qn, rn, rfl, rfl, he, hob, hgr⟩ := hrel
      have htop := he.top
      have hu2 := HD.out.su (n - 2)
      have hv2 := HD.out.sv (n - 2)
      have hv9 := HD.out.sv (n - 1)
      rw [BB_val] at htop hu2 hv2 hv9
      have hqb : qn ≤ 999999999999999999 := by
        have : qn * 1 ≤ qn * nth vs (n - 1) := Nat.mul_le_mul_left _ hv1
        omega
      have hrb : rn ≤ 999999999999999999 := by omega
      have hsub : (((n : Int) - 1).toNat) = n - 1 := by omega
      have vn1 : wr.cell? ⟨bv, ov + (n - 1), none⟩ = some (.int .u64 ((nth vs (n - 1) : Nat) : Int)) := hgr.cell (HV.out (n - 1) (by omega)) (by simpa using hne)
      have un2 : 2 ≤ n → wr.cell? ⟨g, A.length + (n - 2), none⟩ = some (.int .u64 ((nth us (n - 2) : Nat) : Int)) := fun h2 => by
        have h := hob.cell HN.out (A.length + (n - 2)) (by rw [← HN.out, List.length_append, List.length_append, HUL.out]; omega)
        rwa [nth_mid _ _ _ _ (by rw [HUL.out]; omega)] at h
      have vn2 : 2 ≤ n → wr.cell? ⟨bv, ov + (n - 2), none⟩ = some (.int .u64 ((nth vs (n - 2) : Nat) : Int)) := fun h2 => hgr.cell (HV.out (n - 2) (by omega)) (by simpa using hne)
      have HE := Lib.hid he; clear he htop hsub
      have HOB' := Lib.hid hob; clear hob
      have HGR' := Lib.hid hgr; clear hgr
      by_cases hA : BB ≤ qn
      · have hbk := HE.out.back HD.out (.inl hA)
        have HBK := Lib.hid hbk; clear hbk
        rw [BB_val] at hA
        have hA' : (1000000000 : Int) ≤ (qn : Int) := by omega
        clear un2 vn2
        go_wp2_with fail
        go_quiet (fail)
        go_wp2_with fail
        · have hb1 : (1000000000 : Int) ≤ (rn : Int) + ((nth vs (n - 1) : Nat) : Int) := by assumption
          have hb2 : (qn : Int) - 1 < 1000000000 := by assumption
          go_meet
          refine ⟨qn - 1, rn + nth vs (n - 1), by go_num, by go_num, by rw [BB_val]; omega, HBK.out.2.ge, HBK.out.2.done HD.out (by rw [BB_val]; omega) (.inr (.inl (by rw [BB_val]; omega))), HOB'.out.kept (below_drewN (Below.refl _ wr) _) (Nat.le_refl _), grb_drewN HGR'.out _⟩
        · go_roundw
          case rel => exact ⟨qn - 1, rn + nth vs (n - 1), by go_num, by go_num, HBK.out.2, HOB'.out.kept (below_drewN (Below.refl _ wr) _) (Nat.le_refl _), grb_drewN HGR'.out _⟩
          case measure => have := HBK.out.1; simp [intOf]; omega
        · go_roundw
          case rel => exact ⟨qn - 1, rn + nth vs (n - 1), by go_num, by go_num, HBK.out.2, HOB'.out.kept (below_drewN (Below.refl _ wr) _) (Nat.le_refl _), grb_drewN HGR'.out _⟩
          case measure => have := HBK.out.1; simp [intOf]; omega
      · have hq9 : qn < BB := by omega
        have HQ9 := Lib.hid hq9; clear hq9
        rw [BB_val] at hA
        have hA' : decide ((1000000000 : Int) ≤ (qn : Int)) = false := by simp; omega
        by_cases hn2 : 2 ≤ n
        · have un2' := un2 hn2
          have vn2' := vn2 hn2
          clear un2 vn2
          have hmul : ((qn : Int) * ((nth vs (n - 2) : Nat) : Int)) = ((qn * nth vs (n - 2) : Nat) : Int) := by simp
          obtain ⟨P, hP⟩ : ∃ P, P = qn * nth vs (n - 2) := ⟨_, rfl⟩
          have hPb : (P : Int) ≤ 999999998000000001 := by
            have : qn * nth vs (n - 2) ≤ 999999999 * 999999999 := Nat.mul_le_mul (by omega) (by omega)
            omega
          have hw : IntKind.u64.wrap ((qn : Int) * ((nth vs (n - 2) : Nat) : Int)) = (P : Int) := by
            rw [hmul, ← hP]; exact IntWalk.u64_in _ ⟨by omega, by omega⟩
          have HP := Lib.hid hP; clear hP hmul
          have hg2 : (1 : Int) < (n : Int) := by omega
          by_cases hr9 : rn < 1000000000
          · have hr9' : (rn : Int) < 1000000000 := by omega
            by_cases ht : rn * 1000000000 + nth us (n - 2) < P
            · have hbk := HE.out.back HD.out (.inr ⟨hn2, by rw [BB_val, ← HP.out]; exact ht⟩)
              have ht' : (rn : Int) * 1000000000 + ((nth us (n - 2) : Nat) : Int) < (P : Int) := by omega
              have hq1 : (1 : Int) ≤ (qn : Int) := by have := hbk.1; omega
              have HBK := Lib.hid hbk; clear hbk ht
              go_wp2_with fail
              go_quiet (fail)
              clear ht' hw hPb
              have hq99 : (qn : Int) ≤ 999999999 := by omega
              clear hA hA' hr9 hr9' hu2 hv2 un2' vn2' hn2 hg2
              go_wp2_with fail
              · have hb1 : (1000000000 : Int) ≤ (rn : Int) + ((nth vs (n - 1) : Nat) : Int) := by assumption
                go_meet
                refine ⟨qn - 1, rn + nth vs (n - 1), by go_num, by go_num, by rw [BB_val]; omega, HBK.out.2.ge, HBK.out.2.done HD.out (by rw [BB_val]; omega) (.inr (.inl (by rw [BB_val]; omega))), HOB'.out.kept (below_drewN (Below.refl _ wr) _) (Nat.le_refl _), grb_drewN HGR'.out _⟩
              · go_roundw
                case rel => exact ⟨qn - 1, rn + nth vs (n - 1), by go_num, by go_num, HBK.out.2, HOB'.out.kept (below_drewN (Below.refl _ wr) _) (Nat.le_refl _), grb_drewN HGR'.out _⟩
                case measure => have := HBK.out.1; simp [intOf]; omega
            · have ht' : decide ((rn : Int) * 1000000000 + ((nth us (n - 2) : Nat) : Int) < (P : Int)) = false := by simp; omega
              have HTT := Lib.hid ht; clear ht
              go_wp2_with fail
              go_quiet (fail)
              go_wp2_with fail
              go_meet
              exact ⟨qn, rn, rfl, rfl, HQ9.out, HE.out.ge, HE.out.done HD.out HQ9.out (.inr (.inr ⟨hn2, by have := HTT.out; rw [BB_val, ← HP.out]; omega⟩)), HOB'.out.kept (below_drewN (Below.refl _ wr) _) (Nat.le_refl _), grb_drewN HGR'.out _⟩
          · have hr9' : decide ((rn : Int) < 1000000000) = false := by simp; omega
            go_wp2_with fail
            go_quiet (fail)
            go_wp2_with fail
            go_meet
            exact ⟨qn, rn, rfl, rfl, HQ9.out, HE.out.ge, HE.out.done HD.out HQ9.out (.inr (.inl (by rw [BB_val]; omega))), HOB'.out.kept (below_drewN (Below.refl _ wr) _) (Nat.le_refl _), grb_drewN HGR'.out _⟩
        · have hg2 : decide ((1 : Int) < (n : Int)) = false := by simp; omega
          clear un2 vn2
          go_wp2_with fail
          go_quiet (fail)
          go_wp2_with fail
          go_meet
          exact ⟨qn, rn, rfl, rfl, HQ9.out, HE.out.ge, HE.out.done HD.out HQ9.out (.inl (by omega)), HOB'.out.kept (below_drewN (Below.refl _ wr) _) (Nat.le_refl _), grb_drewN HGR'.out _⟩
  case rest =>
    obtain ⟨qn, rn, rfl, rfl, hq1, hq2, hq3, hob, hgr⟩ := hcut
    have hq9 : (qn : Int) ≤ 999999999 := by rw [BB_val] at hq1; omega
    have HQ1 := Lib.hid hq1; clear hq1
    have HQ2 := Lib.hid hq2; clear hq2
    have HQ3 := Lib.hid hq3; clear hq3
    have HOC := Lib.hid hob; clear hob
    have HGC := Lib.hid hgr; clear hgr
    clear HOB HGR hun hun1
    go_wp2_with fail
    go_loopw [9, 10, 88] (fun b c i wr => ∃ (k cc bo : Nat) (us' : List Nat), k ≤ n + 1 ∧ i = .int .i64 (k : Int) ∧ c = .int .u64 (cc : Int) ∧ b = .int .u64 (bo : Int) ∧ SubIn us vs us' qn k cc bo ∧ (k = n + 1 → cc = 0) ∧
        Own wr B 153 .u64 (.slice (some ⟨g, 0, none⟩) N cap) (A ++ us' ++ C) ∧ w.grownBy wr (some g)) (fun _ _ i _ => n + 1 - (intOf i).toNat)
    case atStart => exact ⟨0, 0, 0, us, Nat.zero_le _, rfl, rfl, rfl, SubIn.start us vs qn HD.out.su, fun _ => rfl, HOC.out, HGC.out⟩
    case round =>
      obtain ⟨k, cc, bo, us', hk, rfl, rfl, rfl, hsi, hlast, hob, hgr⟩ := hrel
      have hus' := hsi.len
      rw [HUL.out] at hus'
      have hN' : (A ++ us' ++ C).length = N := by rw [← HN.out, List.length_append, List.length_append, List.length_append, List.length_append, hus', HUL.out]
      have HU' := Lib.hid hus'; clear hus'
      have HN' := Lib.hid hN'; clear hN'
      have HLA := Lib.hid hlast; clear hlast
      have HSI := Lib.hid hsi; clear hsi
      have HO' := Lib.hid hob; clear hob
      have HG' := Lib.hid hgr; clear hgr
      by_cases hlt : k < n + 1
      · have hc9 : (cc : Int) ≤ 999999999 := by have := HSI.out.carry; rw [BB_val] at this; omega
        have hb9 : (bo : Int) ≤ 1 := by have := HSI.out.borrow; omega
        have hu9 : ((nth us k : Nat) : Int) ≤ 999999999 := by have := HD.out.su k; rw [BB_val] at this; omega
        have uc : wr.cell? ⟨g, A.length + k, none⟩ = some (.int .u64 ((nth us k : Nat) : Int)) := by
          have h := HO'.out.cell HN'.out (A.length + k) (by rw [← HN'.out, List.length_append, List.length_append, HU'.out]; omega)
          rwa [nth_mid _ _ _ _ (by rw [HU'.out]; omega), HSI.out.same k (Nat.le_refl _)] at h
        have uf : wr.frozen? ⟨g, A.length + k, none⟩ = false := HO'.out.free HN'.out _
        have hstep := HSI.out.step HD.out.sv HQ1.out (by rw [HUL.out]; exact hlt)
        have HST := Lib.hid hstep; clear hstep
        by_cases hkn : k < n
        · have vc : wr.cell? ⟨bv, ov + k, none⟩ = some (.int .u64 ((nth vs k : Nat) : Int)) := HG'.out.cell (HV.out k hkn) (by simpa using hne)
          have hmul : ((qn : Int) * ((nth vs k : Nat) : Int)) = ((qn * nth vs k : Nat) : Int) := by simp
          have hpb2 : (qn : Int) * ((nth vs k : Nat) : Int) ≤ 999999998000000001 := by
            have h2 := HD.out.sv k
            rw [BB_val] at h2
            have : qn * nth vs k ≤ 999999999 * 999999999 := Nat.mul_le_mul (by omega) (by omega)
            rw [hmul]; omega
          have hpb3 : 0 ≤ (qn : Int) * ((nth vs k : Nat) : Int) := by rw [hmul]; omega
          have HMU := Lib.hid hmul; clear hmul
          go_wp2_with fail
          go_roundw
          case rel =>
            have hdl : dSub (nth us k) cc bo (qn * nth vs k) ≤ 1999999999 := by unfold dSub; omega
            rw [HMU.out, dSub_cast HSI.out.borrow]
            have hset := HO'.out.set HN'.out (A.length + k) (dSub (nth us k) cc bo (qn * nth vs k) % 1000000000)
            rw [set_mid _ _ _ _ _ (by rw [HU'.out]; exact hlt)] at hset
            exact ⟨k + 1, _, _, _, by omega, by go_num, by go_num, by go_num, HST.out, fun h => by omega, hset, grb_set HG'.out _ _⟩
          case measure => simp [intOf]; omega
        · have hkk : k = n := by omega
          have hvz : nth vs k = 0 := nth_out vs k (by have := HD.out.lv; omega)
          have hl0 : (cc + qn * nth vs k) / 1000000000 = 0 := by
            have h := HSI.out
            rw [hkk] at h ⊢
            exact h.last HD.out.lv
          have HKK := Lib.hid hkk; clear hkk
          have HVZ := Lib.hid hvz; clear hvz
          have HL0 := Lib.hid hl0; clear hl0
          go_wp2_with fail
          go_roundw
          case rel =>
            have e0 : (cc : Int) = (cc : Int) + ((qn * nth vs k : Nat) : Int) := by rw [HVZ.out]; simp
            have e1 : (cc : Int) / 1000000000 = ((cc + qn * nth vs k) / 1000000000 : Nat) := by rw [HVZ.out, Nat.mul_zero]; omega
            have e2 : ((nth us k : Nat) : Int) + 1000000000 - (cc : Int) % 1000000000 - (bo : Int) = ((dSub (nth us k) cc bo (qn * nth vs k) : Nat) : Int) := by
              rw [← dSub_cast HSI.out.borrow, ← e0]
            have hdl : dSub (nth us k) cc bo (qn * nth vs k) ≤ 1999999999 := by unfold dSub; omega
            rw [e1, e2]
            have hset := HO'.out.set HN'.out (A.length + k) (dSub (nth us k) cc bo (qn * nth vs k) % 1000000000)
            rw [set_mid _ _ _ _ _ (by rw [HU'.out]; exact hlt)] at hset
            exact ⟨k + 1, _, _, _, by omega, by go_num, rfl, by go_num, HST.out, fun _ => HL0.out, hset, grb_set HG'.out _ _⟩
          case measure => simp [intOf]; omega
      · have hkk : k = n + 1 := by omega
        have hcc := HLA.out hkk
        have hsi := HSI.out
        rw [hkk, hcc] at hsi
        have HSI' := Lib.hid hsi; clear hsi
        clear HSI HLA hkk hcc
        rcases Nat.eq_zero_or_pos bo with h0 | h0
        · have hb0 : (((bo : Nat) : Int) == 0) = true := by rw [beq_iff_eq]; omega
          have hfit : qn = bval us / bval vs ∧ bval us' = bval us % bval vs := by
            have h := HSI'.out
            rw [h0] at h
            exact h.fits HD.out HQ2.out
          have HF := Lib.hid hfit; clear hfit
          have HBB := Lib.hid h0; clear h0
          go_wp2_with fail
          go_ret
          exact ⟨us', ret_int (by rw [← HF.out.1]), by rw [HU'.out, HUL.out], HSI'.out.small, HF.out.2, HO'.out, HG'.out⟩
        · have hb0 : (((bo : Nat) : Int) == 0) = false := by rw [beq_eq_false_iff_ne]; omega
          have hb1 : bo = 1 := by have := HSI'.out.borrow; omega
          have hsi := HSI'.out
          rw [hb1] at hsi
          have HSJ := Lib.hid hsi; clear hsi HSI'
          have HBB := Lib.hid hb1; clear hb1 h0
          obtain ⟨wo, rfl⟩ : ∃ wo : World, wo = wr := ⟨_, rfl⟩
          go_wp2_with fail
          go_loopw [10, 129] (fun c i wr => ∃ (k cc : Nat) (us'' : List Nat), k ≤ n + 1 ∧ i = .int .i64 (k : Int) ∧ c = .int .u64 (cc : Int) ∧ AddIn us' vs us'' k cc ∧
            Own wr B 153 .u64 (.slice (some ⟨g, 0, none⟩) N cap) (A ++ us'' ++ C) ∧ w.grownBy wr (some g)) (fun _ i _ => n + 1 - (intOf i).toNat)
          case atStart => exact ⟨0, 0, us', Nat.zero_le _, rfl, rfl, AddIn.start us' vs HSJ.out.small, HO'.out, HG'.out⟩
          case round =>
            obtain ⟨k2, cc2, us'', hk2, rfl, rfl, hai, hob, hgr⟩ := hrel
            have hus' := hai.len
            rw [HU'.out] at hus'
            have hN' : (A ++ us'' ++ C).length = N := by rw [← HN.out, List.length_append, List.length_append, List.length_append, List.length_append, hus', HUL.out]
            have HU2 := Lib.hid hus'; clear hus'
            have HN2 := Lib.hid hN'; clear hN'
            have HAI := Lib.hid hai; clear hai
            have HO2 := Lib.hid hob; clear hob
            have HG2 := Lib.hid hgr; clear hgr
            by_cases hlt2 : k2 < n + 1
            · have hc9 : (cc2 : Int) ≤ 1 := by have := HAI.out.carry; omega
              have hu9 : ((nth us' k2 : Nat) : Int) ≤ 999999999 := by have := HSJ.out.small k2; rw [BB_val] at this; omega
              have hv9' : ((nth vs k2 : Nat) : Int) ≤ 999999999 := by have := HD.out.sv k2; rw [BB_val] at this; omega
              have uc : wr.cell? ⟨g, A.length + k2, none⟩ = some (.int .u64 ((nth us' k2 : Nat) : Int)) := by
                have h := HO2.out.cell HN2.out (A.length + k2) (by rw [← HN2.out, List.length_append, List.length_append, HU2.out]; omega)
                rwa [nth_mid _ _ _ _ (by rw [HU2.out]; omega), HAI.out.same k2 (Nat.le_refl _)] at h
              have uf : wr.frozen? ⟨g, A.length + k2, none⟩ = false := HO2.out.free HN2.out _
              have hstep := HAI.out.step HD.out.sv (by rw [HU'.out]; exact hlt2)
              have HST := Lib.hid hstep; clear hstep
              by_cases hkn : k2 < n
              · have vc : wr.cell? ⟨bv, ov + k2, none⟩ = some (.int .u64 ((nth vs k2 : Nat) : Int)) := HG2.out.cell (HV.out k2 hkn) (by simpa using hne)
                go_wp2_with fail
                go_roundw
                case rel =>
                  have hset := HO2.out.set HN2.out (A.length + k2) ((nth us' k2 + cc2 + nth vs k2) % 1000000000)
                  rw [set_mid _ _ _ _ _ (by rw [HU2.out]; exact hlt2)] at hset
                  exact ⟨k2 + 1, _, _, by omega, by go_num, by go_num, HST.out, hset, grb_set HG2.out _ _⟩
                case measure => simp [intOf]; omega
              · have hvz : nth vs k2 = 0 := nth_out vs k2 (by have := HD.out.lv; omega)
                have hst := HST.out
                rw [hvz, Nat.add_zero] at hst
                have HST' := Lib.hid hst; clear hst HST hvz hv9'
                go_wp2_with fail
                go_roundw
                case rel =>
                  have hset := HO2.out.set HN2.out (A.length + k2) ((nth us' k2 + cc2) % 1000000000)
                  rw [set_mid _ _ _ _ _ (by rw [HU2.out]; exact hlt2)] at hset
                  exact ⟨k2 + 1, _, _, by omega, by go_num, by go_num, HST'.out, hset, grb_set HG2.out _ _⟩
                case measure => simp [intOf]; omega
            · have hkk : k2 = n + 1 := by omega
              have hai := HAI.out
              rw [hkk] at hai
              have hfit := hai.fits HD.out HSJ.out HQ2.out HQ3.out
              have hq1 : (1 : Int) ≤ (qn : Int) := by have := hfit.1; omega
              have HF := Lib.hid hfit; clear hfit hai
              have HKK := Lib.hid hkk; clear hkk
              go_wp2_with fail
              go_ret
              exact ⟨us'', ret_int (by rw [← HF.out.2.1]; omega), by rw [HU2.out, HUL.out], HAI.out.small, HF.out.2.2, HO2.out, HG2.out⟩
end Go.Proofs.YtjekapjbigfkbaaGreatDoor
