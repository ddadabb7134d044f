/- The walk of nat.blocks: the blocks of the number that a string of digits writes. -/
import Derived.Test.YtlcbdaconghcmaaGreatDoorBlk
import Derived.Test.YtlcbdaconghcmaaGreatDoorTrim
namespace Go.Proofs.YtlcbdaconghcmaaGreatDoor
open Go Go.RowKit
set_option maxRecDepth 100000

/-- The number that the bytes from c to i of t write. -/
def seg (t : ByteArray) (c i : Nat) : Nat := num (((bts t).take i).drop c)
theorem seg_same (t : ByteArray) (c : Nat) : seg t c c = 0 := by unfold seg; rw [List.drop_of_length_le (by rw [List.length_take]; omega)]; rfl
theorem seg_succ (t : ByteArray) (c i : Nat) (hc : c ≤ i) (h : i < t.size) : seg t c (i + 1) = 10 * seg t c i + (t[i].toNat - 48) := by
  unfold seg
  rw [take_snoc t i h, List.drop_append_of_le_length (by rw [List.length_take, bts_len]; omega), num_snoc]
theorem dgts_sub {l : List UInt8} (h : dgts l = true) (a b : Nat) : dgts ((l.take a).drop b) = true := by
  unfold dgts at *
  rw [List.all_eq_true] at *
  exact fun x hx => h x (List.mem_of_mem_take (List.mem_of_mem_drop hx))
theorem seg_lt (t : ByteArray) (c i : Nat) (h : dgts (bts t) = true) (hi : i ≤ c + 9) : seg t c i < 1000000000 := by
  have h1 := num_lt _ (dgts_sub h i c)
  have : (((bts t).take i).drop c).length ≤ 9 := by rw [List.length_drop, List.length_take]; omega
  have h2 : 10 ^ (((bts t).take i).drop c).length ≤ 10 ^ 9 := Nat.pow_le_pow_right (by omega) this
  unfold seg; omega
theorem num_append (l r : List UInt8) : num (l ++ r) = num l * 10 ^ r.length + num r := by
  suffices h : ∀ (k : Nat) (r : List UInt8), r.length = k → num (l ++ r) = num l * 10 ^ r.length + num r from h _ r rfl
  intro k
  induction k with
  | zero => intro r h; have : r = [] := List.length_eq_zero_iff.1 h
            subst this; simp [num]
  | succ k ih =>
    intro r h
    obtain ⟨m, c, rfl⟩ := list_snoc r (by intro e; subst e; simp at h)
    simp at h
    rw [← List.append_assoc, num_snoc, num_snoc, ih m h, List.length_append, List.length_singleton, Nat.pow_succ, Nat.mul_add, ← Nat.mul_assoc, ← Nat.mul_assoc, Nat.mul_comm (num l * 10 ^ m.length) 10, ← Nat.mul_assoc]
    omega
theorem num_cut (t : ByteArray) (c : Nat) : num (bts t) = num ((bts t).take c) * 10 ^ ((bts t).length - c) + seg t c t.size := by
  have h := num_append ((bts t).take c) ((bts t).drop c)
  rw [List.take_append_drop, List.length_drop] at h
  have e : seg t c t.size = num ((bts t).drop c) := by unfold seg; rw [List.take_of_length_le (by rw [bts_len]; omega)]
  rw [e]; exact h
theorem pow9 (k : Nat) : 10 ^ (9 * k) = BB ^ k := by rw [Nat.pow_mul, BB_val]
/-- What the loop over the blocks keeps: t is what is left of s, l the blocks so far. -/
structure BlkInv (s t : ByteArray) (l : List Nat) : Prop where
  small : Small l
  dig : dgts (bts t) = true
  val : num (bts s) = num (bts t) * BB ^ l.length + bval l
  len : t.size ≤ 1000 ∧ (t.size = 0 ∨ t.size + 9 * l.length = s.size)
theorem BlkInv.step {s t : ByteArray} {l : List Nat} (h : BlkInv s t l) (c : Nat) (hc : c = t.size - 9) (h0 : 0 < t.size) : BlkInv s (t.extract 0 c) (l ++ [seg t c t.size]) := by
  have hb : bts (t.extract 0 c) = (bts t).take c := by
    have := Lib.extract_data t 0 c
    unfold bts; rw [this]; simp
  have hs : (t.extract 0 c).size = c := by rw [← bts_len, hb, List.length_take, bts_len]; omega
  refine ⟨small_snoc h.small (by rw [BB_val]; exact seg_lt t c t.size h.dig (by omega)), ?_, ?_, ?_⟩
  · rw [hb]; have := dgts_sub h.dig c 0; simpa using this
  · rw [h.val, bval_snoc, hb, num_cut t c, List.length_append, List.length_singleton]
    by_cases h9 : 9 ≤ t.size
    · rw [show (bts t).length - c = 9 * 1 by rw [bts_len]; omega, pow9, Nat.pow_succ BB l.length, Nat.pow_one, Nat.add_mul, Nat.mul_assoc, Nat.mul_comm BB (BB ^ l.length), Nat.mul_comm (seg t c t.size)]
      omega
    · have : c = 0 := by omega
      subst this
      simp only [List.take_zero, show num [] = 0 from rfl, Nat.zero_mul, Nat.zero_add]
      rw [Nat.mul_comm]; omega
  · rw [hs, List.length_append, List.length_singleton]
    have := h.len
    omega
theorem BlkInv.done {s t : ByteArray} {l : List Nat} (h : BlkInv s t l) (h0 : t.size = 0) : bval l = num (bts s) := by
  have : bts t = [] := List.length_eq_zero_iff.1 (by rw [bts_len]; exact h0)
  rw [h.val, this]; simp [num]

theorem info_u64 : (Tryz.prog.info? 75).map (fun i => (i.zero, i.size, i.bytes)) = some (some (.int .u64 0), 1, 8) := by kernel_rfl

def BlocksEnd (n : Nat) (w : World) (e : Ending) (w' : World) : Prop := ∃ v, e = .returned v ∧ Own w' w.heap.size 75 .u64 v (toB n) ∧ Below w.heap.size w w'

theorem blocks_any (s : ByteArray) (w : World) (hs : s.size ≤ 1000) (hd : dgts (bts s) = true) :
    Calls Tryz.prog 87 #[.string s] w (BlocksEnd (num (bts s)) w) := by
  obtain ⟨i0, hi, hz0, hz1, hz2⟩ := info_parts info_u64
  have h0 : BlkInv s s [] := ⟨small_nil, hd, by simp [bval], hs, .inr (by simp)⟩
  clear hd hs
  have H0 := Lib.hid h0; clear h0
  go_enter Tryz.func87, Tryz.ntmps87
  go_wp2
  go_loopw [0, 3] (fun a v wr => ∃ t l, a = .string t ∧ BlkInv s t l ∧ Own wr w.heap.size 75 .u64 v l ∧ Below w.heap.size w wr)
    (fun a _ _ => strV a)
  case atStart => exact ⟨s, [], rfl, H0.out, Own.nil _ _ _ _, Below.refl _ _⟩
  case round =>
    obtain ⟨t, l, rfl, hinv, hown, hb⟩ := hrel
    obtain ⟨ad, cap, rfl⟩ := hown.shape
    have hdig := Lib.hid hinv.dig
    have hlen := hinv.len.1
    have HI := Lib.hid hinv; clear hinv
    have HO := Lib.hid hown; clear hown
    have HB := Lib.hid hb; clear hb
    by_cases h0 : t.size = 0
    · go_wp2_with fail
      refine (trim_any ad cap l wr HO.out.sl).mono ?_
      rintro e w' ⟨k, hk, rfl, rfl⟩
      have HK := Lib.hid hk; clear hk
      go_wp2
      go_ret
      refine ⟨_, rfl, ?_, HB.out⟩
      rw [← HI.out.done h0, ← trimmed_toB HI.out.small HK.out.1 HK.out.2.1 HK.out.2.2]
      exact HO.out.take HK.out.1
    · have h1 : 0 < t.size := by omega
      obtain ⟨c, hc⟩ : ∃ c, c = t.size - 9 := ⟨_, rfl⟩
      have HC := Lib.hid hc; clear hc
      rcases Nat.lt_or_ge t.size 10 with h9 | h9
      all_goals
        go_wp2
        go_loop [5, 6] (fun n i => ∃ k : Nat, c ≤ k ∧ k ≤ t.size ∧ i = .int .i64 k ∧ n = .int .u64 (seg t c k : Nat)) (fun _ i => t.size - (intOf i).toNat)
        case atStart => exact ⟨c, Nat.le_refl _, by have := HC.out; omega, by have := HC.out; go_num, by rw [seg_same]; rfl⟩
        case round =>
          obtain ⟨k, hk1, hk2, rfl, rfl⟩ := hrel
          by_cases hlt : k < t.size
          · have hn := seg_lt t c k hdig.out (by have := HC.out; omega)
            have hd := dgts_get hdig.out k (by rw [bts_len]; exact hlt)
            rw [bts_get t k hlt] at hd
            have hd1 : (48 : Int) ≤ (t[k].toNat : Int) := by omega
            have hd2 : (t[k].toNat : Int) ≤ 57 := by omega
            clear hd
            go_wp2
            go_round
            case rel => exact ⟨k + 1, by omega, by omega, by go_num, by rw [seg_succ t c k hk1 hlt]; go_num⟩
            case measure => simp [intOf]; omega
          · have hll : l.length ≤ 1000 := by have := HI.out.len.2; have := HI.out.step c HC.out h1; have := H0.out.len.1; omega
            have hsz := HB.out.size
            go_wp2_with (at_builtin; refine wpList_append_own _ rfl (.tmp 29) (.tmp 31) 73 rfl w.heap.size 75 i0 (.int .u64 0) 1 8 Tryz.underlying73 hi hz0 hz1 hz2 rfl (by decide) _ _ _ rfl (World.ownsRow.alloc HO.out.raw _) ⟨wr.heap.size, 0, none⟩ 1 1 [.int .u64 (seg t c k : Nat)] rfl rfl (cell_one_new _ _ _) (one_cell _ _) (by unfold maxLen; omega) (by omega) (by simp; omega) ?_; intro v' w1 hown1 hgrow1 _)
            obtain ⟨ho, hb⟩ := HO.out.appended HB.out hsz hown1 hgrow1
            clear hown1 hgrow1
            have HO1 := Lib.hid ho; clear ho
            have HB1 := Lib.hid hb; clear hb
            have hkk : k = t.size := by omega
            have HKK := Lib.hid hkk; clear hkk
            go_wp2
            go_roundw
            case rel =>
              have hst := HI.out.step c HC.out h1
              rw [HKK.out] at HO1
              refine ⟨_, _, rfl, ?_, HO1.out, HB1.out⟩
              have hcc := HC.out
              first
                | (rw [← hcc]; exact hst)
                | (have e : c = 0 := by omega
                   have e2 : t.extract 0 c = ByteArray.empty := by rw [e]; simp
                   rw [← e2]; exact hst)
            case measure =>
              simp only [strV_string, ByteArray.size_extract, ByteArray.size_empty]
              omega
end Go.Proofs.YtlcbdaconghcmaaGreatDoor
