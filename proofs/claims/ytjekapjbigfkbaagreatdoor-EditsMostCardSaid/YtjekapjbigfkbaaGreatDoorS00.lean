/- Parts of a proof: Str Com RatL. -/
import Derived.Lib.ItoaNum
import Derived.Lib.ItoaLen
import Derived.Lib.Hide
import Derived.Test.YtjekapjbigfkbaaGreatDoorProg
import Derived.WalkKit
import Derived.WalkSpells
import Derived.WalkLawsBesides
import Derived.Lib.Strings
namespace Go.Proofs.YtjekapjbigfkbaaGreatDoor
open Go
set_option maxRecDepth 100000
def dgt (c : UInt8) : Bool := decide (48 ≤ c.toNat) && decide (c.toNat ≤ 57)
def dgts (l : List UInt8) : Bool := l.all dgt
def validL (l : List UInt8) : Bool :=
  decide (1 ≤ l.length) && decide (l.length ≤ 1000) && (decide (l.length = 1) || decide (l.headD 0 ≠ 48)) && dgts l
def bts (s : ByteArray) : List UInt8 := s.data.toList
def str (l : List UInt8) : ByteArray := ⟨l.toArray⟩
theorem bts_str (l : List UInt8) : bts (str l) = l := by simp [bts, str]
theorem str_bts (s : ByteArray) : str (bts s) = s := by simp [bts, str]
theorem str_size (l : List UInt8) : (str l).size = l.length := by simp [str, ByteArray.size]
theorem bts_len (s : ByteArray) : (bts s).length = s.size := by simp [bts]
theorem bts_inj {s t : ByteArray} (h : bts s = bts t) : s = t := by rw [← str_bts s, h, str_bts]
theorem bts_get (s : ByteArray) (k : Nat) (h : k < s.size) : (bts s)[k]'(by rw [bts_len]; exact h) = s[k] := rfl
theorem take_snoc (s : ByteArray) (k : Nat) (h : k < s.size) : (bts s).take (k + 1) = (bts s).take k ++ [s[k]] := by
  rw [List.take_succ_eq_append_getElem (by rw [bts_len]; exact h)]; rfl
theorem bts_getD (s : ByteArray) (k : Nat) (h : k < s.size) : (bts s).getD k 0 = s[k] := by
  rw [List.getD_eq_getElem?_getD, List.getElem?_eq_getElem (by rw [bts_len]; exact h)]; rfl
theorem headD_bts (s : ByteArray) (h : 0 < s.size) : (bts s).headD 0 = s[0] := by
  rw [← bts_getD s 0 h]; cases bts s <;> rfl
theorem dgts_snoc (l : List UInt8) (c : UInt8) : dgts (l ++ [c]) = (dgts l && dgt c) := by simp [dgts, List.all_append]
theorem dgts_false (s : ByteArray) (k : Nat) (h : k < s.size) (hd : dgt s[k] = false) : dgts (bts s) = false := by
  unfold dgts
  rw [List.all_eq_false]
  refine ⟨s[k], ?_, by simp [hd]⟩
  have := List.getElem_mem (l := bts s) (n := k) (by rw [bts_len]; exact h)
  exact this
theorem valid_parts {l : List UInt8} (h : validL l = true) : 1 ≤ l.length ∧ l.length ≤ 1000 ∧ (l.length = 1 ∨ l.headD 0 ≠ 48) ∧ dgts l = true := by
  simp only [validL, Bool.and_eq_true, Bool.or_eq_true, decide_eq_true_eq] at h
  exact ⟨h.1.1.1, h.1.1.2, h.1.2, h.2⟩
theorem valid_mk {l : List UInt8} (h1 : 1 ≤ l.length) (h2 : l.length ≤ 1000) (h3 : l.length = 1 ∨ l.headD 0 ≠ 48) (h4 : dgts l = true) : validL l = true := by
  simp only [validL, Bool.and_eq_true, Bool.or_eq_true, decide_eq_true_eq]; exact ⟨⟨⟨h1, h2⟩, h3⟩, h4⟩
theorem dgts_get {l : List UInt8} (h : dgts l = true) (k : Nat) (hk : k < l.length) : 48 ≤ l[k].toNat ∧ l[k].toNat ≤ 57 := by
  have := List.all_eq_true.1 h l[k] (List.getElem_mem _)
  simpa [dgt] using this
def num (l : List UInt8) : Nat := l.foldl (fun n c => 10 * n + (c.toNat - 48)) 0
abbrev dec (n : Nat) : List UInt8 := Lib.decDigits n
theorem num_snoc (l : List UInt8) (c : UInt8) : num (l ++ [c]) = 10 * num l + (c.toNat - 48) := by simp [num, List.foldl_append]
theorem dec_small {n : Nat} (h : n < 10) : dec n = [UInt8.ofNat (48 + n)] := Lib.decDigits_one h
theorem dec_big {n : Nat} (h : ¬ n < 10) : dec n = dec (n / 10) ++ [UInt8.ofNat (48 + n % 10)] := by
  unfold dec; rw [Lib.decDigits, dif_neg h]
theorem u8n {n : Nat} (h : n < 256) : (UInt8.ofNat n).toNat = n := by simp [UInt8.toNat_ofNat']; omega
theorem u8d {n : Nat} (h : n < 10) : (UInt8.ofNat (48 + n)).toNat - 48 = n := by rw [u8n (by omega)]; omega
theorem num_dec (n : Nat) : num (dec n) = n := by
  induction n using Nat.strongRecOn with
  | ind n ih =>
    by_cases h : n < 10
    · rw [dec_small h]; simp only [num, List.foldl]; rw [u8d h]; omega
    · rw [dec_big h, num_snoc, ih (n / 10) (by omega), u8d (by omega)]; omega
theorem dec_inj {m n : Nat} (h : dec m = dec n) : m = n := by rw [← num_dec m, h, num_dec]
theorem dec_pos (n : Nat) : 1 ≤ (dec n).length := by unfold dec; rw [Lib.decDigits_length]; exact Lib.nDigits_pos n
theorem dgts_dec (n : Nat) : dgts (dec n) = true := by
  induction n using Nat.strongRecOn with
  | ind n ih =>
    by_cases h : n < 10
    · rw [dec_small h]; simp only [dgts, List.all_cons, List.all_nil, dgt]; rw [u8n (by omega)]; simp; omega
    · rw [dec_big h, dgts_snoc, ih (n / 10) (by omega)]; simp only [dgt]; rw [u8n (by omega)]; simp; omega
theorem headD_append {l r : List UInt8} (h : 1 ≤ l.length) : (l ++ r).headD 0 = l.headD 0 := by cases l with
  | nil => simp at h
  | cons a l => rfl
theorem dec_head (n : Nat) (h : 1 ≤ n) : (dec n).headD 0 ≠ 48 := by
  induction n using Nat.strongRecOn with
  | ind n ih =>
    by_cases h' : n < 10
    · rw [dec_small h']; simp only [List.headD_cons]; intro e
      have := congrArg UInt8.toNat e; rw [u8n (by omega)] at this; simp at this; omega
    · rw [dec_big h', headD_append (dec_pos _)]; exact ih (n / 10) (by omega) (by omega)
theorem valid_dec {n : Nat} (h : (dec n).length ≤ 1000) : validL (dec n) = true := by
  refine valid_mk (dec_pos n) h ?_ (dgts_dec n)
  by_cases h0 : n = 0
  · left; subst h0; rw [dec_small (by omega)]; rfl
  · right; exact dec_head n (by omega)
theorem list_snoc {α : Type} (l : List α) (h : l ≠ []) : ∃ m c, l = m ++ [c] := ⟨l.dropLast, l.getLast h, (List.dropLast_concat_getLast h).symm⟩
theorem u8_eq {c : UInt8} {n : Nat} (h : c.toNat = n) : UInt8.ofNat n = c := by rw [← h]; exact UInt8.ofNat_toNat
theorem dec_num_pos : ∀ (k : Nat) (l : List UInt8), l.length = k → 1 ≤ l.length → l.headD 0 ≠ 48 → dgts l = true → 1 ≤ num l ∧ dec (num l) = l := by
  intro k
  induction k with
  | zero => intro l h1 h2; omega
  | succ k ih =>
    intro l hk _ hh hd
    obtain ⟨m, c, rfl⟩ := list_snoc l (by intro e; subst e; simp at hk)
    rw [dgts_snoc] at hd
    simp only [Bool.and_eq_true, dgt, decide_eq_true_eq] at hd
    obtain ⟨hm, hc1, hc2⟩ := hd
    simp at hk
    by_cases h0 : m = []
    · subst h0
      have hn : num ([] ++ [c]) = c.toNat - 48 := by simp [num]
      have hc : c.toNat ≠ 48 := by
        intro e; apply hh; have := UInt8.toNat_inj.1 (show c.toNat = (48 : UInt8).toNat from e); simpa using this
      rw [hn]
      refine ⟨by omega, ?_⟩
      rw [dec_small (by omega), u8_eq (c := c) (by omega)]; rfl
    · have hp : 1 ≤ m.length := by cases m with
        | nil => exact absurd rfl h0
        | cons a l => simp
      rw [headD_append hp] at hh
      obtain ⟨i1, i2⟩ := ih m hk hp hh hm
      rw [num_snoc]
      refine ⟨by omega, ?_⟩
      rw [dec_big (by omega), show (10 * num m + (c.toNat - 48)) / 10 = num m by omega, i2, u8_eq (c := c) (by omega)]
theorem dec_num {l : List UInt8} (h : validL l = true) : dec (num l) = l := by
  obtain ⟨h1, h2, h3, h4⟩ := valid_parts h
  by_cases hh : l.headD 0 ≠ 48
  · exact (dec_num_pos _ l rfl h1 hh h4).2
  · have hl : l.length = 1 := by rcases h3 with h | h; exact h; exact absurd h hh
    match l, hl with
    | [c], _ =>
      have hc : c = 48 := by simpa using hh
      subst hc
      have : num [48] = 0 := rfl
      rw [this, dec_small (by omega)]; rfl
theorem dec_len_lt {n k : Nat} : (dec n).length ≤ k ↔ (n < 10 ^ k ∧ 1 ≤ k) := by
  unfold dec; rw [Lib.decDigits_length]
  constructor
  · intro h
    exact ⟨Nat.lt_of_lt_of_le (Lib.lt_pow_nDigits n) (Nat.pow_le_pow_right (by omega) h), Nat.le_trans (Lib.nDigits_pos n) h⟩
  · intro ⟨h, hk⟩
    induction k generalizing n with
    | zero => omega
    | succ k ih =>
      by_cases h' : n < 10
      · rw [Lib.nDigits_small h']; omega
      · rw [Lib.nDigits_big h']
        by_cases hk0 : k = 0
        · subst hk0; simp at h; omega
        · have := ih (n := n / 10) (by rw [Nat.pow_succ] at h; omega) (by omega)
          omega
theorem num_lt (l : List UInt8) (hd : dgts l = true) : num l < 10 ^ l.length := by
  suffices h : ∀ (k : Nat) (l : List UInt8), l.length = k → dgts l = true → num l < 10 ^ l.length from h _ l rfl hd
  intro k
  induction k with
  | zero => intro l h _; have : l = [] := List.length_eq_zero_iff.1 h; subst this; simp [num]
  | succ k ih =>
    intro l hk hd
    obtain ⟨m, c, rfl⟩ := list_snoc l (by intro e; subst e; simp at hk)
    rw [dgts_snoc] at hd
    simp only [Bool.and_eq_true, dgt, decide_eq_true_eq] at hd
    simp at hk
    have := ih m hk hd.1
    rw [num_snoc, List.length_append, List.length_singleton, Nat.pow_succ]
    omega
theorem num_inj {l m : List UInt8} (hl : validL l = true) (hm : validL m = true) (h : num l = num m) : l = m := by
  rw [← dec_num hl, h, dec_num hm]
end Go.Proofs.YtjekapjbigfkbaaGreatDoor

namespace Go.Proofs.YtjekapjbigfkbaaGreatDoor
open Go Go.RowKit
set_option maxRecDepth 100000
theorem ret_bool {a b : Bool} (h : a = b) : Ending.returned (.bool a) = .returned (.bool b) := by rw [h]
theorem ret_int {k : IntKind} {a b : Int} (h : a = b) : Ending.returned (.int k a) = .returned (.int k b) := by rw [h]
theorem ret_str {a b : ByteArray} (h : a = b) : Ending.returned (.string a) = .returned (.string b) := by rw [h]
theorem ret_pair {k k' : IntKind} {a b a' b' : Int} (h : a = a') (h' : b = b') : Ending.returned (.tuple #[.int k a, .int k' b]) = .returned (.tuple #[.int k a', .int k' b']) := by rw [h, h']
theorem below_drewN {B : Nat} {a w : World} (h : Below B a w) (n : Nat) : Below B a (w.drewN n) := h.trans ⟨rfl, rfl, rfl, Nat.le_refl _, fun _ _ => rfl⟩
def lenV (v : Value) : Nat := match v with | .slice _ n _ => n | _ => 0
theorem lenV_slice (a : Option Addr) (n c : Nat) : lenV (.slice a n c) = n := rfl
def strV (v : Value) : Nat := match v with | .string s => s.size | _ => 0
theorem strV_string (s : ByteArray) : strV (.string s) = s.size := rfl
def nth (xs : List Nat) (i : Nat) : Nat := xs.getD i 0
theorem nth_get (xs : List Nat) (i : Nat) (h : i < xs.length) : nth xs i = xs[i] := by simp [nth, List.getD_eq_getElem?_getD, h]
theorem nth_out (xs : List Nat) (i : Nat) (h : xs.length ≤ i) : nth xs i = 0 := by simp [nth, List.getD_eq_getElem?_getD, h]
theorem nth_take (xs : List Nat) (k i : Nat) (h : i < k) : nth (xs.take k) i = nth xs i := by simp [nth, List.getD_eq_getElem?_getD, h]
theorem take_snocN (xs : List Nat) (k : Nat) (h : k < xs.length) : xs.take (k + 1) = xs.take k ++ [nth xs k] := by
  rw [List.take_succ_eq_append_getElem h, nth_get xs k h]
def vals (k : IntKind) (xs : List Nat) : List Value := xs.map fun n : Nat => Value.int k (n : Int)
theorem vals_len (k : IntKind) (xs : List Nat) : (vals k xs).length = xs.length := by simp [vals]
theorem vals_snoc (k : IntKind) (xs : List Nat) (n : Nat) : vals k xs ++ [.int k (n : Int)] = vals k (xs ++ [n]) := by simp [vals]
theorem vals_take (k : IntKind) (xs : List Nat) (n : Nat) : (vals k xs).take n = vals k (xs.take n) := by simp [vals, List.map_take]
theorem vals_get (k : IntKind) (xs : List Nat) (i : Nat) (h : i < xs.length) : (vals k xs)[i]? = some (.int k ((nth xs i : Nat) : Int)) := by
  rw [nth_get xs i h]; simp [vals, h]
def Sl (w : World) (k : IntKind) (v : Value) (xs : List Nat) : Prop :=
  (v = .slice none 0 0 ∧ xs = []) ∨ ∃ b off cap, v = .slice (some ⟨b, off, none⟩) xs.length cap ∧ b < w.heap.size ∧ xs.length ≤ cap ∧ cap ≤ maxLen ∧
    ∀ i, i < xs.length → w.cell? ⟨b, off + i, none⟩ = some (.int k ((nth xs i : Nat) : Int))
theorem Sl.open {w : World} {k : IntKind} {v : Value} {xs : List Nat} (h : Sl w k v xs) : ∃ a cap b off, v = .slice a xs.length cap ∧ (0 < xs.length → a = some ⟨b, off, none⟩) ∧ xs.length ≤ cap ∧ cap ≤ maxLen ∧
    (0 < xs.length → b < w.heap.size) ∧ ∀ i, i < xs.length → w.cell? ⟨b, off + i, none⟩ = some (.int k ((nth xs i : Nat) : Int)) := by
  rcases h with ⟨hv, rfl⟩ | ⟨b, off, cap, hv, h1, h2, h3, h4⟩
  · exact ⟨none, 0, 0, 0, hv, by simp, by simp, by simp, by simp, by simp⟩
  · exact ⟨_, cap, b, off, hv, fun _ => rfl, h2, h3, fun _ => h1, h4⟩
theorem Sl.nil (w : World) (k : IntKind) : Sl w k (.slice none 0 0) [] := .inl ⟨rfl, rfl⟩
theorem Sl.below {B : Nat} {w w' : World} {k : IntKind} {v : Value} {xs : List Nat} (h : Sl w k v xs) (hb : Below B w w') (hB : w.heap.size ≤ B) : Sl w' k v xs := by
  rcases h with h | ⟨b, off, cap, hv, h1, h2, h3, h4⟩
  · exact .inl h
  · exact .inr ⟨b, off, cap, hv, Nat.lt_of_lt_of_le h1 hb.size, h2, h3, fun i hi => (hb.cell (p := ⟨b, off + i, none⟩) (by show b < B; omega)).trans (h4 i hi)⟩
theorem Sl.take {w : World} {k : IntKind} {a : Option Addr} {n cap m : Nat} {xs : List Nat} (h : Sl w k (.slice a n cap) xs) (hm : m ≤ xs.length) : Sl w k (.slice a m cap) (xs.take m) := by
  rcases h with ⟨hv, rfl⟩ | ⟨b, off, c, hv, h1, h2, h3, h4⟩
  · simp at hv hm; subst hm; obtain ⟨rfl, rfl, rfl⟩ := hv; exact .inl ⟨rfl, rfl⟩
  · simp at hv; obtain ⟨rfl, rfl, rfl⟩ := hv
    refine .inr ⟨b, off, cap, by rw [List.length_take, Nat.min_eq_left hm], h1, by rw [List.length_take]; omega, h3, fun i hi => ?_⟩
    rw [List.length_take] at hi
    rw [nth_take _ _ _ (by omega)]; exact h4 i (by omega)
def Own (w : World) (B : Nat) (e : TypeId) (k : IntKind) (v : Value) (xs : List Nat) : Prop := w.ownsRow B e 1 v xs.length (vals k xs)
theorem Own.nil (w : World) (B : Nat) (e : TypeId) (k : IntKind) : Own w B e k (.slice none 0 0) [] := World.ownsRow_nil w B e 1
theorem Own.sl {w : World} {B : Nat} {e : TypeId} {k : IntKind} {v : Value} {xs : List Nat} (h : Own w B e k v xs) : Sl w k v xs := by
  rcases h.2 with ⟨hv, h0⟩ | ⟨g, cap, cur, hv, _, hg, h1, h2, h3, h4⟩
  · exact .inl ⟨hv, List.length_eq_zero_iff.1 h0⟩
  · refine .inr ⟨g, 0, cap, hv, (Array.getElem?_eq_some_iff.1 hg).1, h1, h2, fun i hi => ?_⟩
    subst hv
    rw [Nat.zero_add, World.ownsRow.cellAt h i (by omega), vals_get k xs i hi]
theorem Own.kept {w w' : World} {B : Nat} {e : TypeId} {k : IntKind} {v : Value} {xs : List Nat} {B' : Nat} (h : Own w B e k v xs) (hb : Below B' w w') (hB : w.heap.size ≤ B') : Own w' B e k v xs := by
  refine ⟨h.1, ?_⟩
  rcases h.2 with hn | ⟨g, cap, cur, rfl, h0, hgg, rest⟩
  · exact .inl hn
  · have := (Array.getElem?_eq_some_iff.1 hgg).1
    exact .inr ⟨g, cap, cur, rfl, h0, by rw [hb.block g (by omega)]; exact hgg, rest⟩
theorem Own.mono {w : World} {B B' : Nat} {e : TypeId} {k : IntKind} {v : Value} {xs : List Nat} (h : Own w B e k v xs) (hB : B' ≤ B) : Own w B' e k v xs := by
  refine ⟨h.1, ?_⟩
  rcases h.2 with hn | ⟨g, cap, cur, rfl, h0, rest⟩
  · exact .inl hn
  · exact .inr ⟨g, cap, cur, rfl, by omega, rest⟩
theorem Own.take {w : World} {B : Nat} {e : TypeId} {k : IntKind} {a : Option Addr} {n cap m : Nat} {xs : List Nat} (h : Own w B e k (.slice a n cap) xs) (hm : m ≤ xs.length) : Own w B e k (.slice a m cap) (xs.take m) := by
  have hl : (xs.take m).length = m := by rw [List.length_take]; omega
  refine ⟨by rw [vals_len]; omega, ?_⟩
  rw [hl]
  rcases h.2 with ⟨hv, h0⟩ | ⟨g, c, cur, hv, h0, hgg, h1, h2, h3, h4⟩
  · simp at hv; obtain ⟨rfl, rfl, rfl⟩ := hv; have : m = 0 := by omega
    subst this; exact .inl ⟨rfl, rfl⟩
  · simp only [Value.slice.injEq] at hv; obtain ⟨rfl, rfl, rfl⟩ := hv
    refine .inr ⟨g, cap, cur, rfl, h0, hgg, by omega, h2, h3, ?_⟩
    rw [← vals_take, ← h4, List.take_take]; congr 1; omega
theorem Own.appended {w wr w1 : World} {B : Nat} {e : TypeId} {k : IntKind} {v v' : Value} {l : List Nat} {x : Nat} {o : Obj} (h : Own wr B e k v l) (hb : Below B w wr) (hB : B ≤ wr.heap.size)
    (h1 : w1.ownsRow B e 1 v' (l.length + 1) (vals k l ++ [.int k (x : Int)])) (hg : (wr.alloc o).grownBy w1 v.ownBlock) : Own w1 B e k v' (l ++ [x]) ∧ Below B w w1 := by
  constructor
  · unfold Own; rw [vals_snoc] at h1; rw [List.length_append]; exact h1
  · exact (hb.alloc hB o).grown hg (by simp; omega) (fun q hq => (World.ownsRow.lt h q hq).1)
theorem Own.raw {w : World} {B : Nat} {e : TypeId} {k : IntKind} {v : Value} {l : List Nat} (h : Own w B e k v l) : w.ownsRow B e 1 v l.length (vals k l) := h
theorem one_cell (k : IntKind) (x : Int) : ∀ u ∈ [Value.int k x], u.oneCell' = true := by intro u hu; simp at hu; subst hu; rfl
theorem Own.shape {w : World} {B : Nat} {e : TypeId} {k : IntKind} {v : Value} {xs : List Nat} (h : Own w B e k v xs) : ∃ a cap, v = .slice a xs.length cap := by
  rcases h.2 with ⟨hv, h0⟩ | ⟨g, cap, cur, hv, _⟩
  · exact ⟨none, 0, by rw [hv, h0]⟩
  · exact ⟨_, cap, hv⟩
theorem Sl.shape {w : World} {k : IntKind} {v : Value} {xs : List Nat} (h : Sl w k v xs) : ∃ a cap, v = .slice a xs.length cap := by
  rcases h with ⟨hv, h0⟩ | ⟨b, off, cap, hv, _⟩
  · exact ⟨none, 0, by rw [hv, h0]; rfl⟩
  · exact ⟨_, cap, hv⟩
end Go.Proofs.YtjekapjbigfkbaaGreatDoor

namespace Go.Proofs.YtjekapjbigfkbaaGreatDoor
open Go
set_option maxRecDepth 100000
def isNeg (l : List UInt8) : Bool := l.headD 0 == 45
def restL (l : List UInt8) : List UInt8 := if isNeg l then l.tail else l
def hasS (l : List UInt8) : Bool := l.any (· == 47)
def upTo (l : List UInt8) : List UInt8 := l.takeWhile (· != 47)
def pastL (l : List UInt8) : List UInt8 := (l.dropWhile (· != 47)).tail
def denL (l : List UInt8) : List UInt8 := if hasS l then pastL l else [49]
def okP (neg : Bool) (n d : List UInt8) (frac : Bool) : Bool :=
  validL n && validL d && decide (n.length ≤ 400) && decide (d.length ≤ 400) && !(neg && (n == [48])) && !(frac && (d == [48] || d == [49])) && decide (Nat.gcd (num n) (num d) = 1)
def sg (neg : Bool) (m : Nat) : Int := if neg then -(m : Int) else (m : Int)
def prsL (l : List UInt8) : Option Rat :=
  if okP (isNeg l) (upTo (restL l)) (denL (restL l)) (hasS (restL l)) then some (mkRat (sg (isNeg l) (num (upTo (restL l)))) (num (denL (restL l)))) else none
def prs (s : ByteArray) : Option Rat := prsL (bts s)
def fitQ (q : Rat) : Prop := (dec q.num.natAbs).length ≤ 400 ∧ (dec q.den).length ≤ 400
instance (q : Rat) : Decidable (fitQ q) := inferInstanceAs (Decidable (_ ∧ _))
def negQ (q : Rat) : Bool := decide (q.num < 0)
def txtL (q : Rat) : List UInt8 := (if negQ q then [45] else []) ++ (dec q.num.natAbs ++ (if q.den = 1 then [] else 47 :: dec q.den))
def txt (q : Rat) : ByteArray := str (txtL q)
def limR (q : Rat) : ByteArray × Nat := if fitQ q then (txt q, 0) else (str [], 2)
theorem sg_abs (neg : Bool) (m : Nat) : (sg neg m).natAbs = m := by unfold sg; split <;> simp
theorem sg_zero {neg : Bool} {m : Nat} : sg neg m = 0 ↔ m = 0 := by unfold sg; split <;> omega
theorem sg_neg {neg : Bool} {m : Nat} : sg neg m < 0 ↔ (neg = true ∧ m ≠ 0) := by unfold sg; cases neg <;> simp <;> omega
theorem negQ_eq (q : Rat) : sg (negQ q) q.num.natAbs = q.num := by unfold sg negQ; by_cases h : q.num < 0 <;> simp [h] <;> omega
theorem mkRat_cop {n : Int} {d : Nat} (hd : d ≠ 0) (h : Nat.gcd n.natAbs d = 1) : (mkRat n d).num = n ∧ (mkRat n d).den = d := by
  have := Rat.mk_eq_mkRat n d hd h
  rw [← this]; exact ⟨rfl, rfl⟩
theorem dec_zero : dec 0 = [48] := by rw [dec_small (by omega)]; rfl
theorem dec_one : dec 1 = [49] := by rw [dec_small (by omega)]; rfl
theorem okP_parts {neg : Bool} {n d : List UInt8} {frac : Bool} (h : okP neg n d frac = true) :
    validL n = true ∧ validL d = true ∧ n.length ≤ 400 ∧ d.length ≤ 400 ∧ (neg = true → n ≠ [48]) ∧ (frac = true → d ≠ [48] ∧ d ≠ [49]) ∧ Nat.gcd (num n) (num d) = 1 := by
  simp only [okP, Bool.and_eq_true, Bool.not_eq_true', decide_eq_true_eq] at h
  obtain ⟨⟨⟨⟨⟨⟨h1, h2⟩, h3⟩, h4⟩, h5⟩, h6⟩, h7⟩ := h
  refine ⟨h1, h2, h3, h4, ?_, ?_, h7⟩
  · intro hn e; subst hn; subst e; simp at h5
  · intro hf; subst hf; simp at h6; exact h6
theorem okP_mk {neg : Bool} {n d : List UInt8} {frac : Bool} (h1 : validL n = true) (h2 : validL d = true) (h3 : n.length ≤ 400) (h4 : d.length ≤ 400)
    (h5 : neg = true → n ≠ [48]) (h6 : frac = true → d ≠ [48] ∧ d ≠ [49]) (h7 : Nat.gcd (num n) (num d) = 1) : okP neg n d frac = true := by
  simp only [okP, Bool.and_eq_true, Bool.not_eq_true', decide_eq_true_eq]
  refine ⟨⟨⟨⟨⟨⟨h1, h2⟩, h3⟩, h4⟩, ?_⟩, ?_⟩, h7⟩
  · cases neg
    · rfl
    · have := h5 rfl; simp [this]
  · cases frac
    · rfl
    · have := h6 rfl; simp [this.1, this.2]
theorem num_zero_iff {l : List UInt8} (h : validL l = true) : num l = 0 ↔ l = [48] := by
  constructor
  · intro e; rw [← dec_num h, e, dec_zero]
  · intro e; subst e; rfl
structure IsQ (q : Rat) (neg : Bool) (n d : List UInt8) : Prop where
  sign : negQ q = neg
  top : dec q.num.natAbs = n
  bot : dec q.den = d
  topv : q.num.natAbs = num n
  botv : q.den = num d
  fit : fitQ q
theorem okP_isQ {neg : Bool} {n d : List UInt8} {frac : Bool} (h : okP neg n d frac = true) (h0 : frac = false → d = [49]) : IsQ (mkRat (sg neg (num n)) (num d)) neg n d := by
  obtain ⟨h1, h2, h3, h4, h5, h6, h7⟩ := okP_parts h
  have hd : num d ≠ 0 := by
    intro e
    have e' := (num_zero_iff h2).1 e
    cases hf : frac
    · have := h0 hf; rw [this] at e'; simp at e'
    · exact (h6 hf).1 e'
  obtain ⟨e1, e2⟩ := mkRat_cop (n := sg neg (num n)) hd (by rw [sg_abs]; exact h7)
  have e3 : (mkRat (sg neg (num n)) (num d)).num.natAbs = num n := by rw [e1, sg_abs]
  have e4 : dec (num n) = n := dec_num h1
  have e5 : dec (num d) = d := dec_num h2
  refine ⟨?_, by rw [e3, e4], by rw [e2, e5], e3, e2, ?_⟩
  · unfold negQ; rw [e1]
    cases neg
    · simp [sg]
    · have : num n ≠ 0 := fun e => h5 rfl ((num_zero_iff h1).1 e)
      simp [sg]; omega
  · unfold fitQ; rw [e3, e2, e4, e5]; exact ⟨h3, h4⟩
theorem prsL_some {l : List UInt8} {q : Rat} (h : prsL l = some q) : okP (isNeg l) (upTo (restL l)) (denL (restL l)) (hasS (restL l)) = true ∧ IsQ q (isNeg l) (upTo (restL l)) (denL (restL l)) := by
  unfold prsL at h
  split at h
  · rename_i hk
    have hq := Option.some.inj h
    refine ⟨hk, ?_⟩
    rw [← hq]; exact okP_isQ hk (fun h => by unfold denL; rw [h]; rfl)
  · exact absurd h (by simp)
theorem restL_eq (l : List UInt8) : l = (if isNeg l then [45] else []) ++ restL l := by
  unfold restL
  split
  · rename_i h
    cases l with
    | nil => simp [isNeg] at h
    | cons a l => simp [isNeg] at h; simp [h]
  · simp
theorem hasS_split (l : List UInt8) (h : hasS l = true) : l = upTo l ++ 47 :: pastL l := by
  induction l with
  | nil => simp [hasS] at h
  | cons a l ih =>
    by_cases ha : a = 47
    · subst ha; simp [upTo, pastL]
    · have : hasS l = true := by simpa [hasS, ha] using h
      have i := ih this
      have e1 : upTo (a :: l) = a :: upTo l := by simp [upTo, ha]
      have e2 : pastL (a :: l) = pastL l := by simp [pastL, ha]
      rw [e1, e2, List.cons_append, ← i]
theorem hasS_not (l : List UInt8) (h : hasS l = false) : upTo l = l := by
  induction l with
  | nil => rfl
  | cons a l ih =>
    simp [hasS] at h
    have e1 : upTo (a :: l) = a :: upTo l := by simp [upTo, h.1]
    rw [e1, ih (by simp [hasS]; exact h.2)]
theorem dgts_ne {l : List UInt8} (h : dgts l = true) : ∀ c ∈ l, c ≠ 47 ∧ c ≠ 45 := by
  intro c hc
  have := List.all_eq_true.1 h c hc
  simp [dgt] at this
  constructor
  · intro e; subst e; simp at this
  · intro e; subst e; simp at this
theorem upTo_app {n r : List UInt8} (h : ∀ c ∈ n, c ≠ 47) : upTo (n ++ 47 :: r) = n ∧ pastL (n ++ 47 :: r) = r ∧ hasS (n ++ 47 :: r) = true := by
  induction n with
  | nil => simp [upTo, pastL, hasS]
  | cons a n ih =>
    have ha := h a (by simp)
    obtain ⟨i1, i2, i3⟩ := ih (fun c hc => h c (by simp [hc]))
    refine ⟨?_, ?_, by simp [hasS]⟩
    · rw [List.cons_append]; show upTo (a :: _) = _
      have : upTo (a :: (n ++ 47 :: r)) = a :: upTo (n ++ 47 :: r) := by simp [upTo, ha]
      rw [this, i1]
    · have : pastL (a :: (n ++ 47 :: r)) = pastL (n ++ 47 :: r) := by simp [pastL, ha]
      rw [List.cons_append, this, i2]
theorem noS {n : List UInt8} (h : ∀ c ∈ n, c ≠ 47) : hasS n = false := by
  simp [hasS]; exact h
theorem prsL_txtL {q : Rat} (h : fitQ q) : prsL (txtL q) = some q := by
  obtain ⟨h1, h2⟩ := h
  have v1 : validL (dec q.num.natAbs) = true := valid_dec (by omega)
  have v2 : validL (dec q.den) = true := valid_dec (by omega)
  have hne : ∀ c ∈ dec q.num.natAbs, c ≠ 47 := fun c hc => (dgts_ne (dgts_dec _) c hc).1
  have hR : ∀ R : List UInt8, isNeg ((if negQ q then [45] else []) ++ (dec q.num.natAbs ++ R)) = negQ q ∧ restL ((if negQ q then [45] else []) ++ (dec q.num.natAbs ++ R)) = dec q.num.natAbs ++ R := by
    intro R
    have : isNeg ((if negQ q then [45] else []) ++ (dec q.num.natAbs ++ R)) = negQ q := by
      cases hq : negQ q
      · have h0 := dec_pos q.num.natAbs
        have h1 := dgts_dec q.num.natAbs
        revert h0 h1
        generalize dec q.num.natAbs = l
        intro h0 h1
        cases l with
        | nil => simp at h0
        | cons a l => have := (dgts_ne h1 a (by simp)).2; simp [isNeg, this]
      · simp [isNeg]
    refine ⟨this, ?_⟩
    unfold restL; rw [this]; cases negQ q <;> simp
  have hden : denL (dec q.num.natAbs ++ (if q.den = 1 then [] else 47 :: dec q.den)) = dec q.den ∧ upTo (dec q.num.natAbs ++ (if q.den = 1 then [] else 47 :: dec q.den)) = dec q.num.natAbs ∧
      hasS (dec q.num.natAbs ++ (if q.den = 1 then [] else 47 :: dec q.den)) = decide (q.den ≠ 1) := by
    by_cases hq : q.den = 1
    · rw [if_pos hq, List.append_nil, hq]
      have := noS hne
      refine ⟨by unfold denL; rw [this, dec_one]; rfl, hasS_not _ this, by rw [this]; simp⟩
    · rw [if_neg hq]
      obtain ⟨i1, i2, i3⟩ := upTo_app (r := dec q.den) hne
      exact ⟨by unfold denL; rw [i3, i2]; rfl, i1, by rw [i3]; simp [hq]⟩
  obtain ⟨e1, e2⟩ := hR (if q.den = 1 then [] else 47 :: dec q.den)
  obtain ⟨d1, d2, d3⟩ := hden
  have hk : okP (negQ q) (dec q.num.natAbs) (dec q.den) (decide (q.den ≠ 1)) = true := by
    refine okP_mk v1 v2 h1 h2 ?_ ?_ ?_
    · intro hn e
      have : q.num.natAbs = 0 := dec_inj (e.trans dec_zero.symm)
      simp [negQ] at hn; omega
    · intro hf
      simp at hf
      refine ⟨fun e => ?_, fun e => hf ?_⟩
      · exact q.den_nz (dec_inj (e.trans dec_zero.symm))
      · exact dec_inj (e.trans dec_one.symm)
    · rw [num_dec, num_dec]; exact q.reduced
  unfold prsL txtL
  rw [e1, e2, d1, d2, d3, if_pos hk, num_dec, num_dec, negQ_eq, Rat.mkRat_self]
theorem prs_txt {q : Rat} (h : fitQ q) : prs (txt q) = some q := by unfold prs txt; rw [bts_str]; exact prsL_txtL h
theorem txtL_prsL {l : List UInt8} {q : Rat} (h : prsL l = some q) : l = txtL q ∧ fitQ q := by
  obtain ⟨hk, hq⟩ := prsL_some h
  refine ⟨?_, hq.fit⟩
  have e := restL_eq l
  have hkk := okP_parts hk
  unfold txtL
  rw [hq.sign, hq.top]
  have : restL l = upTo (restL l) ++ (if q.den = 1 then [] else 47 :: dec q.den) := by
    cases hs : hasS (restL l)
    · have hd : denL (restL l) = [49] := by unfold denL; rw [hs]; rfl
      have : q.den = 1 := dec_inj (hq.bot.trans (hd.trans dec_one.symm))
      rw [if_pos this, List.append_nil, hasS_not _ hs]
    · have hd : denL (restL l) = pastL (restL l) := by unfold denL; rw [hs]; rfl
      have : q.den ≠ 1 := by
        intro e'
        have h1 := hq.bot; rw [e', dec_one] at h1
        exact (hkk.2.2.2.2.2.1 hs).2 h1.symm
      rw [if_neg this, hq.bot, hd]
      exact hasS_split _ hs
  rw [← this]; exact e
theorem txt_prs {s : ByteArray} {q : Rat} (h : prs s = some q) : s = txt q ∧ fitQ q := by
  obtain ⟨h1, h2⟩ := txtL_prsL h
  exact ⟨by unfold txt; rw [← h1, str_bts], h2⟩
theorem txt_inj {p q : Rat} (hp : fitQ p) (hq : fitQ q) (h : txt p = txt q) : p = q := by
  have := prs_txt hp; rw [h, prs_txt hq] at this; exact (Option.some.inj this).symm
def szQ (k : Nat) (q : Rat) : Prop := q.num.natAbs < 10 ^ k ∧ q.den < 10 ^ k
theorem fit_sz {q : Rat} : fitQ q ↔ szQ 400 q := by
  unfold fitQ szQ; rw [dec_len_lt, dec_len_lt]; omega
theorem szQ.mono {j k : Nat} {q : Rat} (h : szQ j q) (hk : j ≤ k) : szQ k q :=
  ⟨Nat.lt_of_lt_of_le h.1 (Nat.pow_le_pow_right (by omega) hk), Nat.lt_of_lt_of_le h.2 (Nat.pow_le_pow_right (by omega) hk)⟩
theorem mkRat_le {n : Int} {d : Nat} (hd : d ≠ 0) : (mkRat n d).num.natAbs ≤ n.natAbs ∧ (mkRat n d).den ≤ d := by
  rw [Rat.num_mkRat, Rat.den_mkRat, if_neg hd, if_neg hd]
  exact ⟨by rw [Int.natAbs_ediv_of_dvd]; exact Nat.div_le_self _ _; exact Int.ofNat_dvd_left.2 (Nat.gcd_dvd_right _ _), Nat.div_le_self _ _⟩
theorem lt_mul {a b A B : Nat} (h1 : a < A) (h2 : b < B) : a * b < A * B := by
  rcases Nat.eq_zero_or_pos b with h | h
  · subst h; rw [Nat.mul_zero]; exact Nat.mul_pos (by omega) (by omega)
  · exact Nat.lt_of_lt_of_le (Nat.mul_lt_mul_of_pos_right h1 h) (Nat.mul_le_mul_left _ (by omega))
theorem szQ.mul {j k : Nat} {p q : Rat} (hp : szQ j p) (hq : szQ k q) : szQ (j + k) (p * q) := by
  rw [Rat.mul_def']
  obtain ⟨h1, h2⟩ := mkRat_le (n := p.num * q.num) (d := p.den * q.den) (Nat.mul_ne_zero p.den_nz q.den_nz)
  rw [Int.natAbs_mul] at h1
  constructor
  · rw [Nat.pow_add]; exact Nat.lt_of_le_of_lt h1 (lt_mul hp.1 hq.1)
  · rw [Nat.pow_add]; exact Nat.lt_of_le_of_lt h2 (lt_mul hp.2 hq.2)
theorem szQ.add {j k : Nat} {p q : Rat} (hp : szQ j p) (hq : szQ k q) : szQ (j + k + 1) (p + q) := by
  rw [Rat.add_def']
  obtain ⟨h1, h2⟩ := mkRat_le (n := p.num * q.den + q.num * p.den) (d := p.den * q.den) (Nat.mul_ne_zero p.den_nz q.den_nz)
  have h3 := Int.natAbs_add_le (p.num * q.den) (q.num * p.den)
  rw [Int.natAbs_mul, Int.natAbs_mul, Int.natAbs_natCast, Int.natAbs_natCast] at h3
  have h4 := lt_mul hp.1 hq.2
  have h5 := lt_mul hq.1 hp.2
  have h6 := lt_mul hp.2 hq.2
  rw [Nat.mul_comm (10 ^ k)] at h5
  constructor
  · rw [Nat.pow_succ, Nat.pow_add]; omega
  · rw [Nat.pow_succ, Nat.pow_add]; omega
theorem szQ.neg {j : Nat} {p : Rat} (hp : szQ j p) : szQ j (-p) := by
  refine ⟨?_, ?_⟩
  · rw [Rat.neg_num, Int.natAbs_neg]; exact hp.1
  · rw [Rat.neg_den]; exact hp.2
theorem txt_size {q : Rat} (h : fitQ q) : (txt q).size ≤ 802 := by
  unfold txt; rw [str_size]; unfold txtL
  obtain ⟨h1, h2⟩ := h
  simp only [List.length_append]
  have : (if negQ q then [45] else ([] : List UInt8)).length ≤ 1 := by split <;> simp
  have : (if q.den = 1 then [] else 47 :: dec q.den).length ≤ 401 := by split <;> simp; omega
  omega
theorem limR_size (q : Rat) : (limR q).1.size ≤ 802 := by
  unfold limR; split
  · rename_i h; exact txt_size h
  · rw [str_size]; simp
theorem limR_fit {q : Rat} (h : fitQ q) : limR q = (txt q, 0) := by unfold limR; rw [if_pos h]
theorem limR_long {q : Rat} (h : ¬ fitQ q) : limR q = (str [], 2) := by unfold limR; rw [if_neg h]
def qaddF (a b : ByteArray) : ByteArray × Nat := match prs a, prs b with | some x, some y => limR (x + y) | _, _ => (str [], 1)
def qmulF (a b : ByteArray) : ByteArray × Nat := match prs a, prs b with | some x, some y => limR (x * y) | _, _ => (str [], 1)
def cmpQ (x y : Rat) : Int := if x < y then -1 else if x = y then 0 else 1
def qcmpF (a b : ByteArray) : Int := match prs a, prs b with | some x, some y => cmpQ x y | _, _ => 0
def sumF (p : Bool) (a : Nat) (q : Bool) (b : Nat) : Bool × Nat := if p = q then (p, a + b) else if a < b then (q, b - a) else (p, a - b)
theorem sumF_val (p : Bool) (a : Nat) (q : Bool) (b : Nat) : sg (sumF p a q b).1 (sumF p a q b).2 = sg p a + sg q b := by
  unfold sumF sg; cases p <;> cases q <;> simp <;> (try split) <;> (try simp) <;> omega
theorem sumF_le (p : Bool) (a : Nat) (q : Bool) (b : Nat) : (sumF p a q b).2 ≤ a + b := by
  unfold sumF; split
  · exact Nat.le_refl _
  · split <;> simp <;> omega
theorem sg_mul (p q : Bool) (m n : Nat) : sg p m * sg q n = sg (p != q) (m * n) := by
  unfold sg; cases p <;> cases q <;> simp [Int.neg_mul, Int.mul_neg]
theorem sg_nat (p : Bool) (m n : Nat) : sg p m * (n : Int) = sg p (m * n) := by
  unfold sg; cases p <;> simp [Int.neg_mul]
theorem sg_not (p : Bool) (m : Nat) : sg (!p) m = - sg p m := by unfold sg; cases p <;> simp
theorem qnum_nat (x : Rat) (d : Nat) : x.num * (d : Int) = sg (negQ x) (x.num.natAbs * d) := by
  rw [← sg_nat, negQ_eq]
theorem add_mk (x y : Rat) : x + y = mkRat (sg (sumF (negQ x) (x.num.natAbs * y.den) (negQ y) (y.num.natAbs * x.den)).1 (sumF (negQ x) (x.num.natAbs * y.den) (negQ y) (y.num.natAbs * x.den)).2) (x.den * y.den) := by
  rw [sumF_val, ← qnum_nat, ← qnum_nat, Rat.add_def']
theorem mul_mk (x y : Rat) : x * y = mkRat (sg (negQ x != negQ y) (x.num.natAbs * y.num.natAbs)) (x.den * y.den) := by
  rw [← sg_mul, negQ_eq, negQ_eq, Rat.mul_def']
theorem cmp_mk (x y : Rat) : cmpQ x y = if (sumF (negQ x) (x.num.natAbs * y.den) (!negQ y) (y.num.natAbs * x.den)).2 = 0 then 0 else if (sumF (negQ x) (x.num.natAbs * y.den) (!negQ y) (y.num.natAbs * x.den)).1 = true then -1 else 1 := by
  have h := sumF_val (negQ x) (x.num.natAbs * y.den) (!negQ y) (y.num.natAbs * x.den)
  rw [sg_not, ← qnum_nat, ← qnum_nat] at h
  unfold cmpQ
  have e1 := Rat.lt_iff x y
  have e2 := Rat.eq_iff_mul_eq_mul (p := x) (q := y)
  generalize sumF (negQ x) (x.num.natAbs * y.den) (!negQ y) (y.num.natAbs * x.den) = r at h ⊢
  obtain ⟨s, k⟩ := r
  simp only at h ⊢
  by_cases hk : k = 0
  · rw [if_pos hk]
    have : sg s k = 0 := sg_zero.2 hk
    rw [if_neg (by rw [e1]; omega), if_pos (by rw [e2]; omega)]
  · rw [if_neg hk]
    cases s
    · have : 0 < sg false k := by unfold sg; simp; omega
      rw [if_neg (by rw [e1]; omega), if_neg (by rw [e2]; omega)]; rfl
    · have : sg true k < 0 := by unfold sg; simp; omega
      rw [if_pos (by rw [e1]; omega)]; rfl
theorem mkRat_red (z : Int) (d : Nat) (hd : d ≠ 0) : (mkRat z d).num.natAbs = z.natAbs / Nat.gcd z.natAbs d ∧ (mkRat z d).den = d / Nat.gcd z.natAbs d ∧ negQ (mkRat z d) = decide (z < 0) := by
  have h1 := Rat.num_mkRat z d
  have h2 := Rat.den_mkRat z d
  rw [if_neg hd, Nat.gcd_comm] at h1 h2
  have hg : (Nat.gcd z.natAbs d : Int) ∣ z := Int.ofNat_dvd_left.2 (Nat.gcd_dvd_left _ _)
  have hp : 0 < Nat.gcd z.natAbs d := Nat.gcd_pos_of_pos_right _ (Nat.pos_of_ne_zero hd)
  refine ⟨?_, h2, ?_⟩
  · rw [h1, Int.natAbs_ediv_of_dvd hg, Int.natAbs_natCast]
  · unfold negQ; rw [h1]
    have : z / (Nat.gcd z.natAbs d : Int) < 0 ↔ z < 0 := by
      rw [Int.ediv_lt_iff_lt_mul (by omega)]; simp
    rw [decide_eq_decide]; exact this
end Go.Proofs.YtjekapjbigfkbaaGreatDoor
