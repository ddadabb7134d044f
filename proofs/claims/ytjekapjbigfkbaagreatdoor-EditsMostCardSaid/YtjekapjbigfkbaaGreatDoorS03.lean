/- Parts of a proof: MB. -/
import Derived.Test.YtjekapjbigfkbaaGreatDoorS00
namespace Go.Proofs.YtjekapjbigfkbaaGreatDoor
open Go Go.RowKit
set_option maxRecDepth 100000
def Trimmed (xs : List Nat) (k : Nat) : Prop := k ≤ xs.length ∧ (∀ j, k ≤ j → nth xs j = 0) ∧ (k = 0 ∨ nth xs (k - 1) ≠ 0)
def TrimEnd (a : Option Addr) (cap : Nat) (xs : List Nat) (w : World) (e : Ending) (w' : World) : Prop := ∃ k, Trimmed xs k ∧ e = .returned (.slice a k cap) ∧ w = w'
theorem trim_any (a : Option Addr) (cap : Nat) (xs : List Nat) (w : World) (h : Sl w .u64 (.slice a xs.length cap) xs) :
    Calls Tryz.prog 117 #[.slice a xs.length cap] w (TrimEnd a cap xs w) := by
  rcases h with ⟨hv, rfl⟩ | ⟨b, off, c, hv, h1, h2, h3, h4⟩
  · simp only [Value.slice.injEq] at hv; obtain ⟨rfl, _, rfl⟩ := hv
    go_enter Tryz.func117, Tryz.ntmps117
    go_wp2
    go_loop [0] (fun v => v = .slice none 0 0) (fun v => lenV v)
    case atStart => exact rfl
    case round =>
      obtain rfl := hrel
      go_wp2
      go_ret
      exact ⟨0, ⟨Nat.zero_le _, fun j _ => nth_out [] j (Nat.zero_le _), .inl rfl⟩, rfl, rfl⟩
  · simp only [Value.slice.injEq, true_and] at hv; obtain ⟨rfl, rfl⟩ := hv
    unfold maxLen at h3
    go_enter Tryz.func117, Tryz.ntmps117
    go_wp2
    go_loop [0] (fun v => ∃ k : Nat, k ≤ xs.length ∧ v = .slice (some ⟨b, off, none⟩) k cap ∧ ∀ j, k ≤ j → nth xs j = 0) (fun v => lenV v)
    case atStart => exact ⟨xs.length, Nat.le_refl _, rfl, fun j hj => nth_out xs j hj⟩
    case round =>
      obtain ⟨k, hk, rfl, hz⟩ := hrel
      have HZ := Lib.hid hz; clear hz
      by_cases h0 : k = 0
      · subst h0
        go_wp2
        go_ret
        exact ⟨0, ⟨hk, HZ.out, .inl rfl⟩, rfl, rfl⟩
      · obtain ⟨m, rfl⟩ : ∃ m, k = m + 1 := ⟨k - 1, by omega⟩
        have hc := h4 m (by omega)
        by_cases hn : nth xs m = 0
        · have HN := Lib.hid hn; clear hn
          rw [HN.out] at hc
          go_wp2
          go_round
          case rel => exact ⟨m, by omega, rfl, fun j hj => by
            by_cases e : j = m
            · rw [e]; exact HN.out
            · exact HZ.out j (by omega)⟩
          case measure => simp [lenV]
        · have HN := Lib.hid hn; clear hn
          have hne : (((nth xs m : Nat) : Int) == 0) = false := by rw [beq_eq_false_iff_ne]; have := HN.out; omega
          go_wp2
          go_ret
          exact ⟨m + 1, ⟨hk, HZ.out, .inr HN.out⟩, rfl, rfl⟩
end Go.Proofs.YtjekapjbigfkbaaGreatDoor
namespace Go.Proofs.YtjekapjbigfkbaaGreatDoor
open Go
set_option maxRecDepth 100000
theorem BB_is : ∃ b : Nat, b = 1000000000 := ⟨_, rfl⟩
noncomputable def BB : Nat := Classical.choose BB_is
theorem BB_val : BB = 1000000000 := Classical.choose_spec BB_is
theorem BB_pos : 0 < BB := by rw [BB_val]; omega
theorem BB_one : 1 < BB := by rw [BB_val]; omega
noncomputable def bval : List Nat → Nat | [] => 0 | x :: xs => x + BB * bval xs
def Small (xs : List Nat) : Prop := ∀ i, nth xs i < BB
theorem small_nil : Small [] := fun i => by rw [nth_out _ _ (Nat.zero_le _)]; exact BB_pos
theorem nth_cons_zero (x : Nat) (xs : List Nat) : nth (x :: xs) 0 = x := rfl
theorem nth_cons_succ (x : Nat) (xs : List Nat) (i : Nat) : nth (x :: xs) (i + 1) = nth xs i := rfl
theorem nth_append_left (xs ys : List Nat) (i : Nat) (h : i < xs.length) : nth (xs ++ ys) i = nth xs i := by simp [nth, List.getD_eq_getElem?_getD, List.getElem?_append_left h]
theorem nth_append_right (xs ys : List Nat) (i : Nat) (h : xs.length ≤ i) : nth (xs ++ ys) i = nth ys (i - xs.length) := by simp [nth, List.getD_eq_getElem?_getD, List.getElem?_append_right h]
theorem small_cons {x : Nat} {xs : List Nat} : Small (x :: xs) ↔ x < BB ∧ Small xs :=
  ⟨fun h => ⟨h 0, fun i => h (i + 1)⟩, fun ⟨h1, h2⟩ i => by cases i with
    | zero => exact h1
    | succ i => exact h2 i⟩
theorem small_snoc {x : Nat} {xs : List Nat} (h : Small xs) (hx : x < BB) : Small (xs ++ [x]) := fun i => by
  by_cases h1 : i < xs.length
  · rw [nth_append_left _ _ _ h1]; exact h i
  · rw [nth_append_right _ _ _ (by omega)]
    cases i - xs.length with
    | zero => exact hx
    | succ j => exact BB_pos
theorem small_take {xs : List Nat} (h : Small xs) (k : Nat) : Small (xs.take k) := fun i => by
  by_cases h1 : i < k
  · rw [nth_take _ _ _ h1]; exact h i
  · rw [nth_out _ _ (by rw [List.length_take]; omega)]; exact BB_pos
theorem bval_append (xs ys : List Nat) : bval (xs ++ ys) = bval xs + BB ^ xs.length * bval ys := by
  induction xs with
  | nil => simp [bval]
  | cons x xs ih => simp only [List.cons_append, bval, ih, List.length_cons, Nat.pow_succ]; rw [Nat.mul_add, Nat.mul_comm (BB ^ xs.length) BB, Nat.mul_assoc]; omega
theorem bval_snoc (xs : List Nat) (x : Nat) : bval (xs ++ [x]) = bval xs + BB ^ xs.length * x := by rw [bval_append]; simp [bval]
theorem bval_take_succ (xs : List Nat) (k : Nat) : bval (xs.take (k + 1)) = bval (xs.take k) + BB ^ k * nth xs k := by
  by_cases h : k < xs.length
  · rw [take_snocN xs k h, bval_snoc, List.length_take, Nat.min_eq_left (by omega)]
  · rw [List.take_of_length_le (by omega), List.take_of_length_le (by omega), nth_out xs k (by omega)]; simp
theorem bval_lt {xs : List Nat} (h : Small xs) : bval xs < BB ^ xs.length := by
  induction xs with
  | nil => simp [bval]
  | cons x xs ih =>
    obtain ⟨h1, h2⟩ := small_cons.1 h
    have := ih h2
    simp only [bval, List.length_cons, Nat.pow_succ]
    have h3 : BB * (bval xs + 1) ≤ BB * BB ^ xs.length := Nat.mul_le_mul_left _ this
    rw [Nat.mul_comm (BB ^ xs.length)]; rw [Nat.mul_add] at h3; omega
theorem bval_zero {xs : List Nat} (h : ∀ i, nth xs i = 0) : bval xs = 0 := by
  induction xs with
  | nil => rfl
  | cons x xs ih => simp only [bval]; rw [ih (fun i => h (i + 1)), show x = 0 from h 0]; simp
noncomputable def toBf : Nat → Nat → List Nat
  | 0, _ => []
  | f + 1, n => if n = 0 then [] else n % BB :: toBf f (n / BB)
noncomputable def toB (n : Nat) : List Nat := toBf n n
theorem toBf_eq : ∀ (f g n : Nat), n ≤ f → n ≤ g → toBf f n = toBf g n := by
  intro f
  induction f with
  | zero => intro g n h _; have : n = 0 := by omega
            subst this; cases g <;> simp [toBf]
  | succ f ih =>
    intro g n h1 h2
    by_cases hn : n = 0
    · subst hn; cases g <;> simp [toBf]
    · cases g with
      | zero => omega
      | succ g =>
        simp only [toBf, if_neg hn]
        have : n / BB < n := Nat.div_lt_self (by omega) BB_one
        rw [ih g (n / BB) (by omega) (by omega)]
theorem toB_zero : toB 0 = [] := rfl
theorem toB_pos {n : Nat} (h : n ≠ 0) : toB n = n % BB :: toB (n / BB) := by
  unfold toB
  cases n with
  | zero => exact absurd rfl h
  | succ n =>
    have : (n + 1) / BB < n + 1 := Nat.div_lt_self (by omega) BB_one
    simp only [toBf, if_neg h]
    rw [toBf_eq n ((n + 1) / BB) ((n + 1) / BB) (by omega) (by omega)]
theorem bval_toB (n : Nat) : bval (toB n) = n := by
  induction n using Nat.strongRecOn with
  | ind n ih =>
    by_cases h : n = 0
    · subst h; rfl
    · rw [toB_pos h]; simp only [bval]; rw [ih (n / BB) (Nat.div_lt_self (by omega) BB_one)]; exact Nat.mod_add_div n BB
theorem small_toB (n : Nat) : Small (toB n) := by
  induction n using Nat.strongRecOn with
  | ind n ih =>
    by_cases h : n = 0
    · subst h; exact small_nil
    · rw [toB_pos h]; exact small_cons.2 ⟨Nat.mod_lt _ BB_pos, ih (n / BB) (Nat.div_lt_self (by omega) BB_one)⟩
theorem toB_bval : ∀ {xs : List Nat}, Small xs → (xs = [] ∨ nth xs (xs.length - 1) ≠ 0) → toB (bval xs) = xs := by
  intro xs
  induction xs with
  | nil => intro _ _; rfl
  | cons x xs ih =>
    intro h1 h2
    obtain ⟨hx, hs⟩ := small_cons.1 h1
    have hl : nth (x :: xs) xs.length ≠ 0 := by
      rcases h2 with h | h
      · simp at h
      · simpa using h
    have hi : xs = [] ∨ nth xs (xs.length - 1) ≠ 0 := by
      cases xs with
      | nil => exact .inl rfl
      | cons y ys => exact .inr (by simpa [nth_cons_succ] using hl)
    have ih' := ih hs hi
    have hne : bval (x :: xs) ≠ 0 := by
      cases xs with
      | nil => simp only [bval]; have : x ≠ 0 := hl
               omega
      | cons y ys =>
        intro e; simp only [bval] at e
        have h0 : bval (y :: ys) = 0 := by
          simp only [bval]
          have := BB_pos
          rcases Nat.eq_zero_or_pos (y + BB * bval ys) with h | h
          · exact h
          · have : 0 < BB * (y + BB * bval ys) := Nat.mul_pos BB_pos h
            omega
        rw [h0] at ih'; simp [toB_zero] at ih'
    rw [toB_pos hne]
    have e1 : bval (x :: xs) % BB = x := by simp only [bval]; rw [Nat.add_mul_mod_self_left, Nat.mod_eq_of_lt hx]
    have e2 : bval (x :: xs) / BB = bval xs := by simp only [bval]; rw [Nat.add_mul_div_left _ _ BB_pos, Nat.div_eq_of_lt hx, Nat.zero_add]
    rw [e1, e2, ih']
theorem toB_top {n : Nat} (h : n ≠ 0) : nth (toB n) ((toB n).length - 1) ≠ 0 := by
  induction n using Nat.strongRecOn with
  | ind n ih =>
    rw [toB_pos h]
    by_cases h0 : n / BB = 0
    · rw [h0, toB_zero]
      show n % BB ≠ 0
      have := Nat.mod_add_div n BB; rw [h0] at this; omega
    · have := ih (n / BB) (Nat.div_lt_self (by omega) BB_one) h0
      have hl : 1 ≤ (toB (n / BB)).length := by rw [toB_pos h0]; simp
      rw [List.length_cons, show (toB (n / BB)).length + 1 - 1 = ((toB (n / BB)).length - 1) + 1 by omega, nth_cons_succ]
      exact this
theorem toB_ne {n : Nat} (h : n ≠ 0) : 1 ≤ (toB n).length := by rw [toB_pos h]; simp
theorem toB_len_le {n k : Nat} (h : n < BB ^ k) : (toB n).length ≤ k := by
  induction k generalizing n with
  | zero => have : n = 0 := by simp at h; exact h
            subst this; simp [toB_zero]
  | succ k ih =>
    by_cases h0 : n = 0
    · subst h0; simp [toB_zero]
    · rw [toB_pos h0]
      have : n / BB < BB ^ k := Nat.div_lt_of_lt_mul (by rw [Nat.pow_succ, Nat.mul_comm] at h; exact h)
      have := ih this
      simp; omega
theorem toB_len_ge {n : Nat} (h : n ≠ 0) : BB ^ ((toB n).length - 1) ≤ n := by
  have h1 := bval_toB n
  have h2 := toB_top h
  have h3 := toB_ne h
  have h4 := bval_take_succ (toB n) ((toB n).length - 1)
  rw [show (toB n).length - 1 + 1 = (toB n).length by omega, List.take_length, h1] at h4
  have : BB ^ ((toB n).length - 1) * 1 ≤ BB ^ ((toB n).length - 1) * nth (toB n) ((toB n).length - 1) := Nat.mul_le_mul_left _ (by omega)
  omega
theorem toB_len_mono {m n : Nat} (h : m ≤ n) : (toB m).length ≤ (toB n).length :=
  toB_len_le (Nat.lt_of_le_of_lt h (by have := bval_lt (small_toB n); rw [bval_toB] at this; exact this))
theorem trimmed_bval {xs : List Nat} {k : Nat} (hz : ∀ j, k ≤ j → nth xs j = 0) : bval (xs.take k) = bval xs := by
  have h := bval_append (xs.take k) (xs.drop k)
  rw [List.take_append_drop] at h
  rw [h, bval_zero (xs := xs.drop k) (fun i => by
    have : nth (xs.drop k) i = nth xs (k + i) := by simp [nth, List.getD_eq_getElem?_getD]
    rw [this]; exact hz _ (by omega))]
  simp
theorem trimmed_toB {xs : List Nat} {k : Nat} (h : Small xs) (hk : k ≤ xs.length) (hz : ∀ j, k ≤ j → nth xs j = 0) (ht : k = 0 ∨ nth xs (k - 1) ≠ 0) : xs.take k = toB (bval xs) := by
  rw [← trimmed_bval hz]
  symm
  apply toB_bval (small_take h k)
  rcases ht with rfl | ht
  · left; simp
  · by_cases h0 : k = 0
    · subst h0; left; simp
    · right; rw [List.length_take, Nat.min_eq_left hk, nth_take _ _ _ (by omega)]; exact ht
end Go.Proofs.YtjekapjbigfkbaaGreatDoor
namespace Go.Proofs.YtjekapjbigfkbaaGreatDoor
open Go Go.RowKit
set_option maxRecDepth 100000
def seg (t : ByteArray) (c i : Nat) : Nat := num (((bts t).take i).drop c)
theorem seg_same (t : ByteArray) (c : Nat) : seg t c c = 0 := by unfold seg; rw [List.drop_of_length_le (by rw [List.length_take]; omega)]; rfl
theorem seg_succ (t : ByteArray) (c i : Nat) (hc : c ≤ i) (h : i < t.size) : seg t c (i + 1) = 10 * seg t c i + (t[i].toNat - 48) := by
  unfold seg
  rw [take_snoc t i h, List.drop_append_of_le_length (by rw [List.length_take, bts_len]; omega), num_snoc]
theorem dgts_sub {l : List UInt8} (h : dgts l = true) (a b : Nat) : dgts ((l.take a).drop b) = true := by
  unfold dgts at *
  rw [List.all_eq_true] at *
  exact fun x hx => h x (List.mem_of_mem_take (List.mem_of_mem_drop hx))
theorem seg_lt (t : ByteArray) (c i : Nat) (h : dgts (bts t) = true) (hi : i ≤ c + 9) : seg t c i < 1000000000 := by
  have h1 := num_lt _ (dgts_sub h i c)
  have : (((bts t).take i).drop c).length ≤ 9 := by rw [List.length_drop, List.length_take]; omega
  have h2 : 10 ^ (((bts t).take i).drop c).length ≤ 10 ^ 9 := Nat.pow_le_pow_right (by omega) this
  unfold seg; omega
theorem num_append (l r : List UInt8) : num (l ++ r) = num l * 10 ^ r.length + num r := by
  suffices h : ∀ (k : Nat) (r : List UInt8), r.length = k → num (l ++ r) = num l * 10 ^ r.length + num r from h _ r rfl
  intro k
  induction k with
  | zero => intro r h; have : r = [] := List.length_eq_zero_iff.1 h
            subst this; simp [num]
  | succ k ih =>
    intro r h
    obtain ⟨m, c, rfl⟩ := list_snoc r (by intro e; subst e; simp at h)
    simp at h
    rw [← List.append_assoc, num_snoc, num_snoc, ih m h, List.length_append, List.length_singleton, Nat.pow_succ, Nat.mul_add, ← Nat.mul_assoc, ← Nat.mul_assoc, Nat.mul_comm (num l * 10 ^ m.length) 10, ← Nat.mul_assoc]
    omega
theorem num_cut (t : ByteArray) (c : Nat) : num (bts t) = num ((bts t).take c) * 10 ^ ((bts t).length - c) + seg t c t.size := by
  have h := num_append ((bts t).take c) ((bts t).drop c)
  rw [List.take_append_drop, List.length_drop] at h
  have e : seg t c t.size = num ((bts t).drop c) := by unfold seg; rw [List.take_of_length_le (by rw [bts_len]; omega)]
  rw [e]; exact h
theorem pow9 (k : Nat) : 10 ^ (9 * k) = BB ^ k := by rw [Nat.pow_mul, BB_val]
structure BlkInv (s t : ByteArray) (l : List Nat) : Prop where
  small : Small l
  dig : dgts (bts t) = true
  val : num (bts s) = num (bts t) * BB ^ l.length + bval l
  len : t.size ≤ 1000 ∧ (t.size = 0 ∨ t.size + 9 * l.length = s.size)
theorem BlkInv.step {s t : ByteArray} {l : List Nat} (h : BlkInv s t l) (c : Nat) (hc : c = t.size - 9) (h0 : 0 < t.size) : BlkInv s (t.extract 0 c) (l ++ [seg t c t.size]) := by
  have hb : bts (t.extract 0 c) = (bts t).take c := by
    have := Lib.extract_data t 0 c
    unfold bts; rw [this]; simp
  have hs : (t.extract 0 c).size = c := by rw [← bts_len, hb, List.length_take, bts_len]; omega
  refine ⟨small_snoc h.small (by rw [BB_val]; exact seg_lt t c t.size h.dig (by omega)), ?_, ?_, ?_⟩
  · rw [hb]; have := dgts_sub h.dig c 0; simpa using this
  · rw [h.val, bval_snoc, hb, num_cut t c, List.length_append, List.length_singleton]
    by_cases h9 : 9 ≤ t.size
    · rw [show (bts t).length - c = 9 * 1 by rw [bts_len]; omega, pow9, Nat.pow_succ BB l.length, Nat.pow_one, Nat.add_mul, Nat.mul_assoc, Nat.mul_comm BB (BB ^ l.length), Nat.mul_comm (seg t c t.size)]
      omega
    · have : c = 0 := by omega
      subst this
      simp only [List.take_zero, show num [] = 0 from rfl, Nat.zero_mul, Nat.zero_add]
      rw [Nat.mul_comm]; omega
  · rw [hs, List.length_append, List.length_singleton]
    have := h.len
    omega
theorem BlkInv.done {s t : ByteArray} {l : List Nat} (h : BlkInv s t l) (h0 : t.size = 0) : bval l = num (bts s) := by
  have : bts t = [] := List.length_eq_zero_iff.1 (by rw [bts_len]; exact h0)
  rw [h.val, this]; simp [num]
theorem info_u64 : (Tryz.prog.info? 153).map (fun i => (i.zero, i.size, i.bytes)) = some (some (.int .u64 0), 1, 8) := by kernel_rfl
def BlocksEnd (n : Nat) (w : World) (e : Ending) (w' : World) : Prop := ∃ v, e = .returned v ∧ Own w' w.heap.size 153 .u64 v (toB n) ∧ Below w.heap.size w w'
theorem blocks_any (s : ByteArray) (w : World) (hs : s.size ≤ 1000) (hd : dgts (bts s) = true) :
    Calls Tryz.prog 115 #[.string s] w (BlocksEnd (num (bts s)) w) := by
  obtain ⟨i0, hi, hz0, hz1, hz2⟩ := info_parts info_u64
  have h0 : BlkInv s s [] := ⟨small_nil, hd, by simp [bval], hs, .inr (by simp)⟩
  clear hd hs
  have H0 := Lib.hid h0; clear h0
  go_enter Tryz.func115, Tryz.ntmps115
  go_wp2
  go_loopw [0, 3] (fun a v wr => ∃ t l, a = .string t ∧ BlkInv s t l ∧ Own wr w.heap.size 153 .u64 v l ∧ Below w.heap.size w wr)
    (fun a _ _ => strV a)
  case atStart => exact ⟨s, [], rfl, H0.out, Own.nil _ _ _ _, Below.refl _ _⟩
  case round =>
    obtain ⟨t, l, rfl, hinv, hown, hb⟩ := hrel
    obtain ⟨ad, cap, rfl⟩ := hown.shape
    have hdig := Lib.hid hinv.dig
    have hlen := hinv.len.1
    have HI := Lib.hid hinv; clear hinv
    have HO := Lib.hid hown; clear hown
    have HB := Lib.hid hb; clear hb
    by_cases h0 : t.size = 0
    · go_wp2_with fail
      refine (trim_any ad cap l wr HO.out.sl).mono ?_
      rintro e w' ⟨k, hk, rfl, rfl⟩
      have HK := Lib.hid hk; clear hk
      go_wp2
      go_ret
      refine ⟨_, rfl, ?_, HB.out⟩
      rw [← HI.out.done h0, ← trimmed_toB HI.out.small HK.out.1 HK.out.2.1 HK.out.2.2]
      exact HO.out.take HK.out.1
    · have h1 : 0 < t.size := by omega
      obtain ⟨c, hc⟩ : ∃ c, c = t.size - 9 := ⟨_, rfl⟩
      have HC := Lib.hid hc; clear hc
      rcases Nat.lt_or_ge t.size 10 with h9 | h9
      all_goals
        go_wp2
        go_loop [5, 6] (fun n i => ∃ k : Nat, c ≤ k ∧ k ≤ t.size ∧ i = .int .i64 k ∧ n = .int .u64 (seg t c k : Nat)) (fun _ i => t.size - (intOf i).toNat)
        case atStart => exact ⟨c, Nat.le_refl _, by have := HC.out; omega, by have := HC.out; go_num, by rw [seg_same]; rfl⟩
        case round =>
          obtain ⟨k, hk1, hk2, rfl, rfl⟩ := hrel
          by_cases hlt : k < t.size
          · have hn := seg_lt t c k hdig.out (by have := HC.out; omega)
            have hd := dgts_get hdig.out k (by rw [bts_len]; exact hlt)
            rw [bts_get t k hlt] at hd
            have hd1 : (48 : Int) ≤ (t[k].toNat : Int) := by omega
            have hd2 : (t[k].toNat : Int) ≤ 57 := by omega
            clear hd
            go_wp2
            go_round
            case rel => exact ⟨k + 1, by omega, by omega, by go_num, by rw [seg_succ t c k hk1 hlt]; go_num⟩
            case measure => simp [intOf]; omega
          · have hll : l.length ≤ 1000 := by have := HI.out.len.2; have := HI.out.step c HC.out h1; have := H0.out.len.1; omega
            have hsz := HB.out.size
            go_wp2_with (at_builtin; refine wpList_append_own _ rfl (.tmp 29) (.tmp 31) 151 rfl w.heap.size 153 i0 (.int .u64 0) 1 8 Tryz.underlying151 hi hz0 hz1 hz2 rfl (by decide) _ _ _ rfl (World.ownsRow.alloc HO.out.raw _) ⟨wr.heap.size, 0, none⟩ 1 1 [.int .u64 (seg t c k : Nat)] rfl rfl (cell_one_new _ _ _) (one_cell _ _) (by unfold maxLen; omega) (by omega) (by simp; omega) ?_; intro v' w1 hown1 hgrow1 _)
            obtain ⟨ho, hb⟩ := HO.out.appended HB.out hsz hown1 hgrow1
            clear hown1 hgrow1
            have HO1 := Lib.hid ho; clear ho
            have HB1 := Lib.hid hb; clear hb
            have hkk : k = t.size := by omega
            have HKK := Lib.hid hkk; clear hkk
            go_wp2
            go_roundw
            case rel =>
              have hst := HI.out.step c HC.out h1
              rw [HKK.out] at HO1
              refine ⟨_, _, rfl, ?_, HO1.out, HB1.out⟩
              have hcc := HC.out
              first
                | (rw [← hcc]; exact hst)
                | (have e : c = 0 := by omega
                   have e2 : t.extract 0 c = ByteArray.empty := by rw [e]; simp
                   rw [← e2]; exact hst)
            case measure =>
              simp only [strV_string, ByteArray.size_extract, ByteArray.size_empty]
              omega
end Go.Proofs.YtjekapjbigfkbaaGreatDoor
namespace Go.Proofs.YtjekapjbigfkbaaGreatDoor
open Go Go.RowKit
set_option maxRecDepth 100000
def eachL (F : Nat → Nat → Nat → Nat × Nat) (xs ys : List Nat) : Nat → List Nat × Nat
  | 0 => ([], 0)
  | k + 1 => ((eachL F xs ys k).1 ++ [(F (nth xs k) (nth ys k) (eachL F xs ys k).2).1], (F (nth xs k) (nth ys k) (eachL F xs ys k).2).2)
theorem eachL_len (F : Nat → Nat → Nat → Nat × Nat) (xs ys : List Nat) (k : Nat) : (eachL F xs ys k).1.length = k := by
  induction k with
  | zero => rfl
  | succ k ih => simp [eachL, ih]
def StepOk (F : Nat → Nat → Nat → Nat × Nat) (M : Nat) : Prop := ∀ a b c, a < BB → b < BB → c ≤ M → (F a b c).1 < BB ∧ (F a b c).2 ≤ M
theorem eachL_ok {F : Nat → Nat → Nat → Nat × Nat} {M : Nat} (hF : StepOk F M) {xs ys : List Nat} (hx : Small xs) (hy : Small ys) (k : Nat) : Small (eachL F xs ys k).1 ∧ (eachL F xs ys k).2 ≤ M := by
  induction k with
  | zero => exact ⟨small_nil, Nat.zero_le _⟩
  | succ k ih => exact ⟨small_snoc ih.1 (hF _ _ _ (hx k) (hy k) ih.2).1, (hF _ _ _ (hx k) (hy k) ih.2).2⟩
def ClosOk (g : FuncId) (caps : Array Value) (F : Nat → Nat → Nat → Nat × Nat) (M : Nat) (w : World) : Prop :=
  ∀ (a b c : Nat) (wr : World), Below w.heap.size w wr → a < BB → b < BB → c ≤ M →
    Calls Tryz.prog g (#[.int .u64 (a : Int), .int .u64 (b : Int), .int .u64 (c : Int)] ++ caps) wr fun e w' => e = .returned (.tuple #[.int .u64 ((F a b c).1 : Nat), .int .u64 ((F a b c).2 : Nat)]) ∧ wr = w'
def EachEnd (n : Nat) (w : World) (e : Ending) (w' : World) : Prop := ∃ v, e = .returned v ∧ Own w' w.heap.size 153 .u64 v (toB n) ∧ Below w.heap.size w w'
set_option maxHeartbeats 1000000 in
theorem each_lt (g : FuncId) (caps : Array Value) (F : Nat → Nat → Nat → Nat × Nat) (M : Nat) (vx vy : Value) (xs ys : List Nat) (w : World)
    (he : ∀ args w, (callFunc g args).run Tryz.prog w = .ok (.enter g args) w) (hF : StepOk F M) (hcl : ClosOk g caps F M w)
    (hlen : xs.length < ys.length) (hx : Sl w .u64 vx xs) (hy : Sl w .u64 vy ys) (sx : Small xs) (sy : Small ys) (ly : ys.length ≤ 100000) :
    Calls Tryz.prog 182 #[vx, vy, .func (.func g) #[] caps] w (EachEnd (bval (eachL F xs ys (max xs.length ys.length + 1)).1) w) := by
  obtain ⟨i0, hi, hz0, hz1, hz2⟩ := info_parts info_u64
  obtain ⟨ax, cx, bx, ox, rfl, hax, hcx1, hcx2, hbx, hcellx⟩ := hx.open
  obtain ⟨ay, cy, by', oy, rfl, hay, hcy1, hcy2, hby, hcelly⟩ := hy.open
  unfold maxLen at hcx2 hcy2
  have HCL := Lib.hid hcl; clear hcl hx hy
  go_enter Tryz.func182, Tryz.ntmps182
  go_wp2
  go_loopw [7, 8, 19] (fun v c i wr => ∃ k : Nat, k ≤ max xs.length ys.length + 1 ∧ i = .int .i64 k ∧ c = .int .u64 ((eachL F xs ys k).2 : Nat) ∧ Own wr w.heap.size 153 .u64 v (eachL F xs ys k).1 ∧ Below w.heap.size w wr)
    (fun _ _ i _ => max xs.length ys.length + 1 - (intOf i).toNat)
  case atStart => exact ⟨0, Nat.zero_le _, rfl, rfl, Own.nil _ _ _ _, Below.refl _ _⟩
  case round =>
    obtain ⟨k, hk, rfl, rfl, hown, hb⟩ := hrel
    obtain ⟨ad, cap, rfl⟩ := hown.shape
    rw [eachL_len] at hown
    rw [eachL_len]
    have HO := Lib.hid hown; clear hown
    have HB := Lib.hid hb; clear hb
    have hsz := HB.out.size
    by_cases hlt : k < max xs.length ys.length + 1
    · have hok := eachL_ok hF sx sy k
      have HOK := Lib.hid hok; clear hok
      have HO1 : Hid (wr.ownsRow w.heap.size 153 1 (.slice ad k cap) k (vals .u64 (eachL F xs ys k).1)) := Lib.hid (by have := HO.out.raw; rw [eachL_len] at this; exact this)
      rcases Nat.lt_or_ge k ys.length with h2 | h2
      rcases Nat.lt_or_ge k xs.length with h1 | h1
      rotate_left 2
      obtain h1 : xs.length ≤ k := by omega
      rotate_left 1
      · -- 1 1
        obtain rfl := hax (Nat.lt_of_le_of_lt (Nat.zero_le _) h1)
        have c1 := (HB.out.cell (p := ⟨bx, ox + k, none⟩) (hbx (Nat.lt_of_le_of_lt (Nat.zero_le _) h1))).trans (hcellx k h1)
        obtain rfl := hay (Nat.lt_of_le_of_lt (Nat.zero_le _) h2)
        have c2 := (HB.out.cell (p := ⟨by', oy + k, none⟩) (hby (Nat.lt_of_le_of_lt (Nat.zero_le _) h2))).trans (hcelly k h2)
        have hcall := HCL.out (nth xs k) (nth ys k) (eachL F xs ys k).2 wr HB.out (sx k) (sy k) HOK.out.2
        have hap : Own wr w.heap.size 153 .u64 (.slice ad k cap) (eachL F xs ys k).1 → ∀ (v' : Value) (w1 : World) (o : Obj), w1.ownsRow w.heap.size 153 1 v' (k + 1) (vals .u64 (eachL F xs ys k).1 ++ [.int .u64 ((F (nth xs k) (nth ys k) (eachL F xs ys k).2).1 : Nat)]) → (wr.alloc o).grownBy w1 (Value.slice ad k cap).ownBlock → Own w1 w.heap.size 153 .u64 v' (eachL F xs ys (k + 1)).1 ∧ Below w.heap.size w w1 := fun h1' v' w1 o h2' h3' => by
          have := h1'.appended HB.out hsz (by rw [eachL_len]; exact h2') h3'
          simp only [eachL]; exact this
        have hcar : (eachL F xs ys (k + 1)).2 = (F (nth xs k) (nth ys k) (eachL F xs ys k).2).2 := by simp only [eachL]
        have HCA := Lib.hid hcall; clear hcall
        have HAP := Lib.hid hap; clear hap
        have HCR := Lib.hid hcar; clear hcar
        clear hax hay hcellx hcelly
        go_wp2_with fail
        refine HCA.out.mono ?_
        rintro e w' ⟨rfl, rfl⟩
        go_wp2_with (at_builtin; refine wpList_append_own _ rfl (.tmp 46) (.tmp 48) 151 rfl w.heap.size 153 i0 (.int .u64 0) 1 8 Tryz.underlying151 hi hz0 hz1 hz2 rfl (by decide) _ _ _ rfl (World.ownsRow.alloc HO1.out _) ⟨wr.heap.size, 0, none⟩ 1 1 [.int .u64 ((F (nth xs k) (nth ys k) (eachL F xs ys k).2).1 : Nat)] rfl rfl (cell_one_new _ _ _) (one_cell _ _) (by unfold maxLen; omega) (by omega) (by simp; omega) ?_; intro v' w1 hown1 hgrow1 _)
        obtain ⟨ho, hb⟩ := HAP.out HO.out v' w1 _ hown1 hgrow1
        clear hown1 hgrow1
        have HO2 := Lib.hid ho; clear ho
        have HB2 := Lib.hid hb; clear hb
        go_wp2
        go_roundw
        case rel => exact ⟨k + 1, by omega, by go_num, by rw [HCR.out], HO2.out, HB2.out⟩
        case measure => simp [intOf]; omega
      · -- 0 1
        obtain rfl := hay (Nat.lt_of_le_of_lt (Nat.zero_le _) h2)
        have c2 := (HB.out.cell (p := ⟨by', oy + k, none⟩) (hby (Nat.lt_of_le_of_lt (Nat.zero_le _) h2))).trans (hcelly k h2)
        have hcall := HCL.out 0 (nth ys k) (eachL F xs ys k).2 wr HB.out BB_pos (sy k) HOK.out.2
        have hap : Own wr w.heap.size 153 .u64 (.slice ad k cap) (eachL F xs ys k).1 → ∀ (v' : Value) (w1 : World) (o : Obj), w1.ownsRow w.heap.size 153 1 v' (k + 1) (vals .u64 (eachL F xs ys k).1 ++ [.int .u64 ((F 0 (nth ys k) (eachL F xs ys k).2).1 : Nat)]) → (wr.alloc o).grownBy w1 (Value.slice ad k cap).ownBlock → Own w1 w.heap.size 153 .u64 v' (eachL F xs ys (k + 1)).1 ∧ Below w.heap.size w w1 := fun h1' v' w1 o h2' h3' => by
          have := h1'.appended HB.out hsz (by rw [eachL_len]; exact h2') h3'
          simp only [eachL]; rw [nth_out xs k h1]; exact this
        have hcar : (eachL F xs ys (k + 1)).2 = (F 0 (nth ys k) (eachL F xs ys k).2).2 := by simp only [eachL]; rw [nth_out xs k h1]
        have HCA := Lib.hid hcall; clear hcall
        have HAP := Lib.hid hap; clear hap
        have HCR := Lib.hid hcar; clear hcar
        clear hax hay hcellx hcelly
        go_wp2_with fail
        refine HCA.out.mono ?_
        rintro e w' ⟨rfl, rfl⟩
        go_wp2_with (at_builtin; refine wpList_append_own _ rfl (.tmp 46) (.tmp 48) 151 rfl w.heap.size 153 i0 (.int .u64 0) 1 8 Tryz.underlying151 hi hz0 hz1 hz2 rfl (by decide) _ _ _ rfl (World.ownsRow.alloc HO1.out _) ⟨wr.heap.size, 0, none⟩ 1 1 [.int .u64 ((F 0 (nth ys k) (eachL F xs ys k).2).1 : Nat)] rfl rfl (cell_one_new _ _ _) (one_cell _ _) (by unfold maxLen; omega) (by omega) (by simp; omega) ?_; intro v' w1 hown1 hgrow1 _)
        obtain ⟨ho, hb⟩ := HAP.out HO.out v' w1 _ hown1 hgrow1
        clear hown1 hgrow1
        have HO2 := Lib.hid ho; clear ho
        have HB2 := Lib.hid hb; clear hb
        go_wp2
        go_roundw
        case rel => exact ⟨k + 1, by omega, by go_num, by rw [HCR.out], HO2.out, HB2.out⟩
        case measure => simp [intOf]; omega
      · -- 0 0
        have hcall := HCL.out 0 0 (eachL F xs ys k).2 wr HB.out BB_pos BB_pos HOK.out.2
        have hap : Own wr w.heap.size 153 .u64 (.slice ad k cap) (eachL F xs ys k).1 → ∀ (v' : Value) (w1 : World) (o : Obj), w1.ownsRow w.heap.size 153 1 v' (k + 1) (vals .u64 (eachL F xs ys k).1 ++ [.int .u64 ((F 0 0 (eachL F xs ys k).2).1 : Nat)]) → (wr.alloc o).grownBy w1 (Value.slice ad k cap).ownBlock → Own w1 w.heap.size 153 .u64 v' (eachL F xs ys (k + 1)).1 ∧ Below w.heap.size w w1 := fun h1' v' w1 o h2' h3' => by
          have := h1'.appended HB.out hsz (by rw [eachL_len]; exact h2') h3'
          simp only [eachL]; rw [nth_out xs k h1, nth_out ys k h2]; exact this
        have hcar : (eachL F xs ys (k + 1)).2 = (F 0 0 (eachL F xs ys k).2).2 := by simp only [eachL]; rw [nth_out xs k h1, nth_out ys k h2]
        have HCA := Lib.hid hcall; clear hcall
        have HAP := Lib.hid hap; clear hap
        have HCR := Lib.hid hcar; clear hcar
        clear hax hay hcellx hcelly
        go_wp2_with fail
        refine HCA.out.mono ?_
        rintro e w' ⟨rfl, rfl⟩
        go_wp2_with (at_builtin; refine wpList_append_own _ rfl (.tmp 46) (.tmp 48) 151 rfl w.heap.size 153 i0 (.int .u64 0) 1 8 Tryz.underlying151 hi hz0 hz1 hz2 rfl (by decide) _ _ _ rfl (World.ownsRow.alloc HO1.out _) ⟨wr.heap.size, 0, none⟩ 1 1 [.int .u64 ((F 0 0 (eachL F xs ys k).2).1 : Nat)] rfl rfl (cell_one_new _ _ _) (one_cell _ _) (by unfold maxLen; omega) (by omega) (by simp; omega) ?_; intro v' w1 hown1 hgrow1 _)
        obtain ⟨ho, hb⟩ := HAP.out HO.out v' w1 _ hown1 hgrow1
        clear hown1 hgrow1
        have HO2 := Lib.hid ho; clear ho
        have HB2 := Lib.hid hb; clear hb
        go_wp2
        go_roundw
        case rel => exact ⟨k + 1, by omega, by go_num, by rw [HCR.out], HO2.out, HB2.out⟩
        case measure => simp [intOf]; omega
    · go_wp2_with fail
      have hkk : k = max xs.length ys.length + 1 := by omega
      have ht := trim_any ad cap (eachL F xs ys k).1 wr (by rw [eachL_len]; exact HO.out.sl)
      rw [eachL_len] at ht
      refine ht.mono ?_
      rintro e w' ⟨m, hm, rfl, rfl⟩
      have HM := Lib.hid hm; clear hm
      have HKK := Lib.hid hkk; clear hkk
      go_wp2
      go_ret
      have hok := eachL_ok hF sx sy k
      refine ⟨_, rfl, ?_, HB.out⟩
      rw [← HKK.out, ← trimmed_toB hok.1 HM.out.1 HM.out.2.1 HM.out.2.2]
      exact HO.out.take HM.out.1
set_option maxHeartbeats 1000000 in
theorem each_ge (g : FuncId) (caps : Array Value) (F : Nat → Nat → Nat → Nat × Nat) (M : Nat) (vx vy : Value) (xs ys : List Nat) (w : World)
    (he : ∀ args w, (callFunc g args).run Tryz.prog w = .ok (.enter g args) w) (hF : StepOk F M) (hcl : ClosOk g caps F M w)
    (hlen : ys.length ≤ xs.length) (hx : Sl w .u64 vx xs) (hy : Sl w .u64 vy ys) (sx : Small xs) (sy : Small ys) (lx : xs.length ≤ 100000) :
    Calls Tryz.prog 182 #[vx, vy, .func (.func g) #[] caps] w (EachEnd (bval (eachL F xs ys (max xs.length ys.length + 1)).1) w) := by
  obtain ⟨i0, hi, hz0, hz1, hz2⟩ := info_parts info_u64
  obtain ⟨ax, cx, bx, ox, rfl, hax, hcx1, hcx2, hbx, hcellx⟩ := hx.open
  obtain ⟨ay, cy, by', oy, rfl, hay, hcy1, hcy2, hby, hcelly⟩ := hy.open
  unfold maxLen at hcx2 hcy2
  have HCL := Lib.hid hcl; clear hcl hx hy
  go_enter Tryz.func182, Tryz.ntmps182
  go_wp2
  go_loopw [7, 8, 19] (fun v c i wr => ∃ k : Nat, k ≤ max xs.length ys.length + 1 ∧ i = .int .i64 k ∧ c = .int .u64 ((eachL F xs ys k).2 : Nat) ∧ Own wr w.heap.size 153 .u64 v (eachL F xs ys k).1 ∧ Below w.heap.size w wr)
    (fun _ _ i _ => max xs.length ys.length + 1 - (intOf i).toNat)
  case atStart => exact ⟨0, Nat.zero_le _, rfl, rfl, Own.nil _ _ _ _, Below.refl _ _⟩
  case round =>
    obtain ⟨k, hk, rfl, rfl, hown, hb⟩ := hrel
    obtain ⟨ad, cap, rfl⟩ := hown.shape
    rw [eachL_len] at hown
    rw [eachL_len]
    have HO := Lib.hid hown; clear hown
    have HB := Lib.hid hb; clear hb
    have hsz := HB.out.size
    by_cases hlt : k < max xs.length ys.length + 1
    · have hok := eachL_ok hF sx sy k
      have HOK := Lib.hid hok; clear hok
      have HO1 : Hid (wr.ownsRow w.heap.size 153 1 (.slice ad k cap) k (vals .u64 (eachL F xs ys k).1)) := Lib.hid (by have := HO.out.raw; rw [eachL_len] at this; exact this)
      rcases Nat.lt_or_ge k xs.length with h1 | h1
      rcases Nat.lt_or_ge k ys.length with h2 | h2
      rotate_left 2
      obtain h2 : ys.length ≤ k := by omega
      rotate_left 1
      · -- 1 1
        obtain rfl := hax (Nat.lt_of_le_of_lt (Nat.zero_le _) h1)
        have c1 := (HB.out.cell (p := ⟨bx, ox + k, none⟩) (hbx (Nat.lt_of_le_of_lt (Nat.zero_le _) h1))).trans (hcellx k h1)
        obtain rfl := hay (Nat.lt_of_le_of_lt (Nat.zero_le _) h2)
        have c2 := (HB.out.cell (p := ⟨by', oy + k, none⟩) (hby (Nat.lt_of_le_of_lt (Nat.zero_le _) h2))).trans (hcelly k h2)
        have hcall := HCL.out (nth xs k) (nth ys k) (eachL F xs ys k).2 wr HB.out (sx k) (sy k) HOK.out.2
        have hap : Own wr w.heap.size 153 .u64 (.slice ad k cap) (eachL F xs ys k).1 → ∀ (v' : Value) (w1 : World) (o : Obj), w1.ownsRow w.heap.size 153 1 v' (k + 1) (vals .u64 (eachL F xs ys k).1 ++ [.int .u64 ((F (nth xs k) (nth ys k) (eachL F xs ys k).2).1 : Nat)]) → (wr.alloc o).grownBy w1 (Value.slice ad k cap).ownBlock → Own w1 w.heap.size 153 .u64 v' (eachL F xs ys (k + 1)).1 ∧ Below w.heap.size w w1 := fun h1' v' w1 o h2' h3' => by
          have := h1'.appended HB.out hsz (by rw [eachL_len]; exact h2') h3'
          simp only [eachL]; exact this
        have hcar : (eachL F xs ys (k + 1)).2 = (F (nth xs k) (nth ys k) (eachL F xs ys k).2).2 := by simp only [eachL]
        have HCA := Lib.hid hcall; clear hcall
        have HAP := Lib.hid hap; clear hap
        have HCR := Lib.hid hcar; clear hcar
        clear hax hay hcellx hcelly
        go_wp2_with fail
        refine HCA.out.mono ?_
        rintro e w' ⟨rfl, rfl⟩
        go_wp2_with (at_builtin; refine wpList_append_own _ rfl (.tmp 46) (.tmp 48) 151 rfl w.heap.size 153 i0 (.int .u64 0) 1 8 Tryz.underlying151 hi hz0 hz1 hz2 rfl (by decide) _ _ _ rfl (World.ownsRow.alloc HO1.out _) ⟨wr.heap.size, 0, none⟩ 1 1 [.int .u64 ((F (nth xs k) (nth ys k) (eachL F xs ys k).2).1 : Nat)] rfl rfl (cell_one_new _ _ _) (one_cell _ _) (by unfold maxLen; omega) (by omega) (by simp; omega) ?_; intro v' w1 hown1 hgrow1 _)
        obtain ⟨ho, hb⟩ := HAP.out HO.out v' w1 _ hown1 hgrow1
        clear hown1 hgrow1
        have HO2 := Lib.hid ho; clear ho
        have HB2 := Lib.hid hb; clear hb
        go_wp2
        go_roundw
        case rel => exact ⟨k + 1, by omega, by go_num, by rw [HCR.out], HO2.out, HB2.out⟩
        case measure => simp [intOf]; omega
      · -- 1 0
        obtain rfl := hax (Nat.lt_of_le_of_lt (Nat.zero_le _) h1)
        have c1 := (HB.out.cell (p := ⟨bx, ox + k, none⟩) (hbx (Nat.lt_of_le_of_lt (Nat.zero_le _) h1))).trans (hcellx k h1)
        have hcall := HCL.out (nth xs k) 0 (eachL F xs ys k).2 wr HB.out (sx k) BB_pos HOK.out.2
        have hap : Own wr w.heap.size 153 .u64 (.slice ad k cap) (eachL F xs ys k).1 → ∀ (v' : Value) (w1 : World) (o : Obj), w1.ownsRow w.heap.size 153 1 v' (k + 1) (vals .u64 (eachL F xs ys k).1 ++ [.int .u64 ((F (nth xs k) 0 (eachL F xs ys k).2).1 : Nat)]) → (wr.alloc o).grownBy w1 (Value.slice ad k cap).ownBlock → Own w1 w.heap.size 153 .u64 v' (eachL F xs ys (k + 1)).1 ∧ Below w.heap.size w w1 := fun h1' v' w1 o h2' h3' => by
          have := h1'.appended HB.out hsz (by rw [eachL_len]; exact h2') h3'
          simp only [eachL]; rw [nth_out ys k h2]; exact this
        have hcar : (eachL F xs ys (k + 1)).2 = (F (nth xs k) 0 (eachL F xs ys k).2).2 := by simp only [eachL]; rw [nth_out ys k h2]
        have HCA := Lib.hid hcall; clear hcall
        have HAP := Lib.hid hap; clear hap
        have HCR := Lib.hid hcar; clear hcar
        clear hax hay hcellx hcelly
        go_wp2_with fail
        refine HCA.out.mono ?_
        rintro e w' ⟨rfl, rfl⟩
        go_wp2_with (at_builtin; refine wpList_append_own _ rfl (.tmp 46) (.tmp 48) 151 rfl w.heap.size 153 i0 (.int .u64 0) 1 8 Tryz.underlying151 hi hz0 hz1 hz2 rfl (by decide) _ _ _ rfl (World.ownsRow.alloc HO1.out _) ⟨wr.heap.size, 0, none⟩ 1 1 [.int .u64 ((F (nth xs k) 0 (eachL F xs ys k).2).1 : Nat)] rfl rfl (cell_one_new _ _ _) (one_cell _ _) (by unfold maxLen; omega) (by omega) (by simp; omega) ?_; intro v' w1 hown1 hgrow1 _)
        obtain ⟨ho, hb⟩ := HAP.out HO.out v' w1 _ hown1 hgrow1
        clear hown1 hgrow1
        have HO2 := Lib.hid ho; clear ho
        have HB2 := Lib.hid hb; clear hb
        go_wp2
        go_roundw
        case rel => exact ⟨k + 1, by omega, by go_num, by rw [HCR.out], HO2.out, HB2.out⟩
        case measure => simp [intOf]; omega
      · -- 0 0
        have hcall := HCL.out 0 0 (eachL F xs ys k).2 wr HB.out BB_pos BB_pos HOK.out.2
        have hap : Own wr w.heap.size 153 .u64 (.slice ad k cap) (eachL F xs ys k).1 → ∀ (v' : Value) (w1 : World) (o : Obj), w1.ownsRow w.heap.size 153 1 v' (k + 1) (vals .u64 (eachL F xs ys k).1 ++ [.int .u64 ((F 0 0 (eachL F xs ys k).2).1 : Nat)]) → (wr.alloc o).grownBy w1 (Value.slice ad k cap).ownBlock → Own w1 w.heap.size 153 .u64 v' (eachL F xs ys (k + 1)).1 ∧ Below w.heap.size w w1 := fun h1' v' w1 o h2' h3' => by
          have := h1'.appended HB.out hsz (by rw [eachL_len]; exact h2') h3'
          simp only [eachL]; rw [nth_out xs k h1, nth_out ys k h2]; exact this
        have hcar : (eachL F xs ys (k + 1)).2 = (F 0 0 (eachL F xs ys k).2).2 := by simp only [eachL]; rw [nth_out xs k h1, nth_out ys k h2]
        have HCA := Lib.hid hcall; clear hcall
        have HAP := Lib.hid hap; clear hap
        have HCR := Lib.hid hcar; clear hcar
        clear hax hay hcellx hcelly
        go_wp2_with fail
        refine HCA.out.mono ?_
        rintro e w' ⟨rfl, rfl⟩
        go_wp2_with (at_builtin; refine wpList_append_own _ rfl (.tmp 46) (.tmp 48) 151 rfl w.heap.size 153 i0 (.int .u64 0) 1 8 Tryz.underlying151 hi hz0 hz1 hz2 rfl (by decide) _ _ _ rfl (World.ownsRow.alloc HO1.out _) ⟨wr.heap.size, 0, none⟩ 1 1 [.int .u64 ((F 0 0 (eachL F xs ys k).2).1 : Nat)] rfl rfl (cell_one_new _ _ _) (one_cell _ _) (by unfold maxLen; omega) (by omega) (by simp; omega) ?_; intro v' w1 hown1 hgrow1 _)
        obtain ⟨ho, hb⟩ := HAP.out HO.out v' w1 _ hown1 hgrow1
        clear hown1 hgrow1
        have HO2 := Lib.hid ho; clear ho
        have HB2 := Lib.hid hb; clear hb
        go_wp2
        go_roundw
        case rel => exact ⟨k + 1, by omega, by go_num, by rw [HCR.out], HO2.out, HB2.out⟩
        case measure => simp [intOf]; omega
    · go_wp2_with fail
      have hkk : k = max xs.length ys.length + 1 := by omega
      have ht := trim_any ad cap (eachL F xs ys k).1 wr (by rw [eachL_len]; exact HO.out.sl)
      rw [eachL_len] at ht
      refine ht.mono ?_
      rintro e w' ⟨m, hm, rfl, rfl⟩
      have HM := Lib.hid hm; clear hm
      have HKK := Lib.hid hkk; clear hkk
      go_wp2
      go_ret
      have hok := eachL_ok hF sx sy k
      refine ⟨_, rfl, ?_, HB.out⟩
      rw [← HKK.out, ← trimmed_toB hok.1 HM.out.1 HM.out.2.1 HM.out.2.2]
      exact HO.out.take HM.out.1
theorem each_any (g : FuncId) (caps : Array Value) (F : Nat → Nat → Nat → Nat × Nat) (M : Nat) (vx vy : Value) (xs ys : List Nat) (w : World)
    (he : ∀ args w, (callFunc g args).run Tryz.prog w = .ok (.enter g args) w) (hF : StepOk F M) (hcl : ClosOk g caps F M w)
    (hx : Sl w .u64 vx xs) (hy : Sl w .u64 vy ys) (sx : Small xs) (sy : Small ys) (lx : xs.length ≤ 100000) (ly : ys.length ≤ 100000) :
    Calls Tryz.prog 182 #[vx, vy, .func (.func g) #[] caps] w (EachEnd (bval (eachL F xs ys (max xs.length ys.length + 1)).1) w) := by
  rcases Nat.lt_or_ge xs.length ys.length with hlen | hlen
  · exact each_lt g caps F M vx vy xs ys w he hF hcl hlen hx hy sx sy ly
  · exact each_ge g caps F M vx vy xs ys w he hF hcl hlen hx hy sx sy lx
end Go.Proofs.YtjekapjbigfkbaaGreatDoor
namespace Go.Proofs.YtjekapjbigfkbaaGreatDoor
open Go Go.RowKit
set_option maxRecDepth 100000
def fPlus (a b c : Nat) : Nat × Nat := ((a + b + c) % 1000000000, (a + b + c) / 1000000000)
def fMinus (a b c : Nat) : Nat × Nat := ((a + 1000000000 - b - c) % 1000000000, 1 - (a + 1000000000 - b - c) / 1000000000)
def fScaled (k : Nat) (a _b c : Nat) : Nat × Nat := ((a * k + c) % 1000000000, (a * k + c) / 1000000000)
theorem okPlus : StepOk fPlus 1 := fun a b c ha hb hc => by
  rw [BB_val] at *; simp only [fPlus]; omega
theorem okMinus : StepOk fMinus 1 := fun a b c ha hb hc => by
  rw [BB_val] at *; simp only [fMinus]; omega
theorem mul_bound {a k c : Nat} (ha : a < BB) (hk : k < BB) (hc : c < BB) : a * k + c < 1000000000 * 1000000000 := by
  rw [BB_val] at *
  have : a * k ≤ 999999999 * 999999999 := Nat.mul_le_mul (by omega) (by omega)
  omega
theorem okScaled {k : Nat} (hk : k < BB) : StepOk (fScaled k) 999999999 := fun a b c ha hb hc => by
  have := mul_bound ha hk (show c < BB by rw [BB_val]; omega)
  simp only [fScaled, BB_val]
  exact ⟨Nat.mod_lt _ (by omega), by omega⟩
theorem closPlus (w : World) : ClosOk 183 #[] fPlus 1 w := fun a b c wr _ ha hb hc => by
  rw [BB_val] at ha hb
  simp only [fPlus]
  go_enter Tryz.func183, Tryz.ntmps183
  go_wp2
  go_ret2
  exact ⟨rfl, rfl⟩
theorem closMinus (w : World) : ClosOk 190 #[] fMinus 1 w := fun a b c wr _ ha hb hc => by
  rw [BB_val] at ha hb
  simp only [fMinus]
  go_enter Tryz.func190, Tryz.ntmps190
  go_wp2
  go_ret2
  exact ⟨ret_pair (by omega) (by omega), rfl⟩
theorem closScaled (k bx : Nat) (w : World) (hk : k < BB) (hlt : bx < w.heap.size) (hc : w.cell? ⟨bx, 0, none⟩ = some (.int .u64 (k : Int))) :
    ClosOk 212 #[.pointer (some ⟨bx, 0, none⟩)] (fScaled k) 999999999 w := fun a b c wr hb ha _ hcc => by
  have hm := mul_bound ha hk (show c < BB by rw [BB_val]; omega)
  have hcell := (hb.cell (p := ⟨bx, 0, none⟩) hlt).trans hc
  have hm3 : 0 ≤ (a : Int) * (k : Int) := Int.mul_nonneg (Int.natCast_nonneg _) (Int.natCast_nonneg _)
  have hm2 : (a : Int) * (k : Int) + (c : Int) < 1000000000000000000 := by rw [← Int.natCast_mul]; omega
  clear hc hm
  simp only [fScaled]
  go_enter Tryz.func212, Tryz.ntmps212
  go_wp2
  go_ret2
  exact ⟨rfl, rfl⟩
theorem take_all {xs : List Nat} {k : Nat} (h : xs.length ≤ k) : xs.take k = xs := List.take_of_length_le h
theorem eachL_plus (xs ys : List Nat) (k : Nat) : bval (eachL fPlus xs ys k).1 + BB ^ k * (eachL fPlus xs ys k).2 = bval (xs.take k) + bval (ys.take k) := by
  induction k with
  | zero => simp [eachL, bval]
  | succ k ih =>
    simp only [eachL]
    rw [bval_snoc, eachL_len, bval_take_succ, bval_take_succ, Nat.pow_succ]
    generalize (eachL fPlus xs ys k).2 = c at *
    generalize bval (eachL fPlus xs ys k).1 = l at *
    generalize nth xs k = a
    generalize nth ys k = b
    have h : (fPlus a b c).1 + BB * (fPlus a b c).2 = a + b + c := by simp only [fPlus, BB_val]; omega
    have h2 : BB ^ k * (a + b + c) = BB ^ k * (fPlus a b c).1 + BB ^ k * BB * (fPlus a b c).2 := by rw [← h, Nat.mul_add, ← Nat.mul_assoc]
    rw [Nat.mul_add, Nat.mul_add] at h2
    omega
theorem eachL_succ_snd (F : Nat → Nat → Nat → Nat × Nat) (xs ys : List Nat) (k : Nat) : (eachL F xs ys (k + 1)).2 = (F (nth xs k) (nth ys k) (eachL F xs ys k).2).2 := rfl
theorem fPlus_carry {c : Nat} (h : c ≤ 1) : (fPlus 0 0 c).2 = 0 := by simp only [fPlus]; omega
theorem plus_val' (xs ys : List Nat) (hx : Small xs) (hy : Small ys) (n : Nat) (h1 : xs.length ≤ n) (h2 : ys.length ≤ n) : bval (eachL fPlus xs ys (n + 1)).1 = bval xs + bval ys := by
  have h := eachL_plus xs ys (n + 1)
  rw [take_all (Nat.le_succ_of_le h1), take_all (Nat.le_succ_of_le h2)] at h
  have hc : (eachL fPlus xs ys (n + 1)).2 = 0 := by
    rw [eachL_succ_snd, nth_out xs _ h1, nth_out ys _ h2]; exact fPlus_carry (eachL_ok okPlus hx hy n).2
  rw [hc, Nat.mul_zero, Nat.add_zero] at h; exact h
theorem plus_val (xs ys : List Nat) (hx : Small xs) (hy : Small ys) : bval (eachL fPlus xs ys (max xs.length ys.length + 1)).1 = bval xs + bval ys :=
  plus_val' xs ys hx hy _ (Nat.le_max_left _ _) (Nat.le_max_right _ _)
theorem eachL_minus (xs ys : List Nat) (hx : Small xs) (hy : Small ys) (k : Nat) : bval (eachL fMinus xs ys k).1 + bval (ys.take k) = bval (xs.take k) + BB ^ k * (eachL fMinus xs ys k).2 := by
  induction k with
  | zero => simp [eachL, bval]
  | succ k ih =>
    have hc := (eachL_ok okMinus hx hy k).2
    have ha := hx k
    have hb := hy k
    simp only [eachL]
    rw [bval_snoc, eachL_len, bval_take_succ, bval_take_succ, Nat.pow_succ]
    generalize (eachL fMinus xs ys k).2 = c at *
    generalize bval (eachL fMinus xs ys k).1 = l at *
    generalize nth xs k = a at *
    generalize nth ys k = b at *
    have h : (fMinus a b c).1 + b + c = a + BB * (fMinus a b c).2 := by rw [BB_val] at *; simp only [fMinus]; omega
    have h2 : BB ^ k * ((fMinus a b c).1 + b + c) = BB ^ k * a + BB ^ k * BB * (fMinus a b c).2 := by rw [h, Nat.mul_add, ← Nat.mul_assoc]
    rw [Nat.mul_add, Nat.mul_add] at h2
    omega
theorem minus_val' (xs ys : List Nat) (hx : Small xs) (hy : Small ys) (hle : bval ys ≤ bval xs) (n : Nat) (h1 : xs.length ≤ n) (h2 : ys.length ≤ n) : bval (eachL fMinus xs ys n).1 = bval xs - bval ys := by
  have h := eachL_minus xs ys hx hy n
  rw [take_all h1, take_all h2] at h
  have hok := eachL_ok okMinus hx hy n
  have hlt := bval_lt hok.1
  rw [eachL_len] at hlt
  generalize bval (eachL fMinus xs ys n).1 = l at *
  generalize (eachL fMinus xs ys n).2 = c at *
  rcases Nat.eq_zero_or_pos c with h0 | h0
  · subst h0; rw [Nat.mul_zero, Nat.add_zero] at h; omega
  · have : c = 1 := by have := hok.2; omega
    subst this; rw [Nat.mul_one] at h; omega
theorem minus_val (xs ys : List Nat) (hx : Small xs) (hy : Small ys) (hle : bval ys ≤ bval xs) : bval (eachL fMinus xs ys (max xs.length ys.length + 1)).1 = bval xs - bval ys :=
  minus_val' xs ys hx hy hle _ (Nat.le_succ_of_le (Nat.le_max_left _ _)) (Nat.le_succ_of_le (Nat.le_max_right _ _))
theorem eachL_scaled (m : Nat) (xs : List Nat) (k : Nat) : bval (eachL (fScaled m) xs [] k).1 + BB ^ k * (eachL (fScaled m) xs [] k).2 = bval (xs.take k) * m := by
  induction k with
  | zero => simp [eachL, bval]
  | succ k ih =>
    simp only [eachL]
    rw [bval_snoc, eachL_len, bval_take_succ, Nat.pow_succ, Nat.add_mul, Nat.mul_assoc (BB ^ k) (nth xs k) m]
    generalize (eachL (fScaled m) xs [] k).2 = c at *
    generalize bval (eachL (fScaled m) xs [] k).1 = l at *
    generalize nth xs k = a
    have h : (fScaled m a (nth [] k) c).1 + BB * (fScaled m a (nth [] k) c).2 = a * m + c := by simp only [fScaled, BB_val]; omega
    have h2 : BB ^ k * (a * m + c) = BB ^ k * (fScaled m a (nth [] k) c).1 + BB ^ k * BB * (fScaled m a (nth [] k) c).2 := by rw [← h, Nat.mul_add, ← Nat.mul_assoc]
    rw [Nat.mul_add] at h2
    omega
theorem scaled_val {m : Nat} (hm : m < BB) (xs : List Nat) (hx : Small xs) : bval (eachL (fScaled m) xs [] (max xs.length ([] : List Nat).length + 1)).1 = bval xs * m := by
  have h := eachL_scaled m xs (max xs.length ([] : List Nat).length + 1)
  rw [take_all (by omega)] at h
  have hc : (eachL (fScaled m) xs [] (max xs.length ([] : List Nat).length + 1)).2 = 0 := by
    have := (eachL_ok (okScaled hm) hx small_nil (max xs.length ([] : List Nat).length)).2
    simp only [eachL, fScaled]; rw [nth_out xs _ (by omega), Nat.zero_mul, Nat.zero_add]
    exact Nat.div_eq_of_lt (by omega)
  rw [hc] at h; simpa using h
theorem EachEnd.of {n : Nat} {w : World} {e : Ending} {w' : World} (h : EachEnd n w e w') : ∃ v, e = .returned v ∧ Own w' w.heap.size 153 .u64 v (toB n) ∧ Below w.heap.size w w' := h
theorem enter46 : ∀ args w, (callFunc 183 args).run Tryz.prog w = .ok (.enter 183 args) w := fun args w => by kernel_rfl
theorem enter52 : ∀ args w, (callFunc 190 args).run Tryz.prog w = .ok (.enter 190 args) w := fun args w => by kernel_rfl
theorem enter63 : ∀ args w, (callFunc 212 args).run Tryz.prog w = .ok (.enter 212 args) w := fun args w => by kernel_rfl
theorem plus_any (vx vy : Value) (m n : Nat) (w : World) (hx : Sl w .u64 vx (toB m)) (hy : Sl w .u64 vy (toB n)) (lx : (toB m).length ≤ 100000) (ly : (toB n).length ≤ 100000) :
    Calls Tryz.prog 149 #[vx, vy] w (EachEnd (m + n) w) := by
  have hc := each_any 183 #[] fPlus 1 vx vy (toB m) (toB n) w enter46 okPlus (closPlus w) hx hy (small_toB m) (small_toB n) lx ly
  rw [plus_val _ _ (small_toB m) (small_toB n), bval_toB, bval_toB] at hc
  have HC := Lib.hid hc; clear hc hx hy
  go_enter Tryz.func149, Tryz.ntmps149
  go_wp2_with fail
  refine HC.out.mono ?_
  rintro e w' ⟨v, rfl, hq⟩
  have HQ := Lib.hid hq; clear hq
  go_wp2
  go_ret
  exact ⟨v, rfl, HQ.out⟩
theorem minus_any (vx vy : Value) (m n : Nat) (w : World) (hx : Sl w .u64 vx (toB m)) (hy : Sl w .u64 vy (toB n)) (lx : (toB m).length ≤ 100000) (ly : (toB n).length ≤ 100000) (hle : n ≤ m) :
    Calls Tryz.prog 152 #[vx, vy] w (EachEnd (m - n) w) := by
  have hc := each_any 190 #[] fMinus 1 vx vy (toB m) (toB n) w enter52 okMinus (closMinus w) hx hy (small_toB m) (small_toB n) lx ly
  rw [minus_val _ _ (small_toB m) (small_toB n) (by rw [bval_toB, bval_toB]; exact hle), bval_toB, bval_toB] at hc
  have HC := Lib.hid hc; clear hc hx hy
  go_enter Tryz.func152, Tryz.ntmps152
  go_wp2_with fail
  refine HC.out.mono ?_
  rintro e w' ⟨v, rfl, hq⟩
  have HQ := Lib.hid hq; clear hq
  go_wp2
  go_ret
  exact ⟨v, rfl, HQ.out⟩
theorem scaled_any (vx : Value) (m k : Nat) (w : World) (hk : k < BB) (hx : Sl w .u64 vx (toB m)) (lx : (toB m).length ≤ 100000) :
    Calls Tryz.prog 191 #[vx, .int .u64 (k : Int)] w (EachEnd (m * k) w) := by
  have hbl : Below w.heap.size w (w.alloc (.cells #[.int .u64 (k : Int)] 153)) := (Below.refl _ _).alloc (Nat.le_refl _) _
  have hc := each_any 212 #[.pointer (some ⟨w.heap.size, 0, none⟩)] (fScaled k) 999999999 vx (.slice none 0 0) (toB m) [] (w.alloc (.cells #[.int .u64 (k : Int)] 153)) enter63 (okScaled hk)
    (closScaled k w.heap.size _ hk (by simp) (by simp)) (hx.below hbl (Nat.le_refl _)) (Sl.nil _ _) (small_toB m) small_nil lx (by simp)
  rw [scaled_val hk _ (small_toB m), bval_toB] at hc
  have HC := Lib.hid hc; clear hc hx
  have HBL := Lib.hid hbl; clear hbl
  go_enter Tryz.func191, Tryz.ntmps191
  go_wp2_with fail
  refine HC.out.mono ?_
  rintro e w' ⟨v, rfl, hq⟩
  have HQ := Lib.hid hq; clear hq
  go_wp2
  go_ret
  exact ⟨v, rfl, HQ.out.1.mono (by simp), HBL.out.trans (HQ.out.2.mono (by simp))⟩
end Go.Proofs.YtjekapjbigfkbaaGreatDoor
