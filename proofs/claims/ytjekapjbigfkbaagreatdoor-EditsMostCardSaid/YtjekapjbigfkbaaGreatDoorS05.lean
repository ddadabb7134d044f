/- Parts of a proof: Text Valid Ops. -/
import Derived.Test.YtjekapjbigfkbaaGreatDoorS04
import Derived.Lib.Repeat
import Derived.Test.YtjekapjbigfkbaaGreatDoorProg
import Derived.Test.YtjekapjbigfkbaaGreatDoorS00
import Derived.WalkKit
import Derived.WalkSpells
import Derived.WalkLawsBesides
import Derived.Lib.Hide
import Derived.Lib.Strings
import Derived.Test.YtjekapjbigfkbaaGreatDoorS03
namespace Go.Proofs.YtjekapjbigfkbaaGreatDoor
open Go Go.RowKit
set_option maxRecDepth 100000
abbrev TB : TypeId := 200
abbrev TU8 : TypeId := 5
theorem bldAt_below {B b B' : Nat} {p : Value} {bs : List Value} {w w' : World} (h : Lib.BuilderAt TB TU8 B b p bs w) (hb : Below B' w w') (hB : w.heap.size ≤ B') : Lib.BuilderAt TB TU8 B b p bs w' := by
  obtain ⟨h0, v, hv, hown, hne⟩ := h
  have hlt := (Array.getElem?_eq_some_iff.1 hv).1
  refine ⟨h0, v, by rw [hb.block b (by omega)]; exact hv, ⟨hown.1, ?_⟩, hne⟩
  rcases hown.2 with hn | ⟨g, cap, cur, rfl, h1, hgg, rest⟩
  · exact .inl hn
  · have := (Array.getElem?_eq_some_iff.1 hgg).1
    exact .inr ⟨g, cap, cur, rfl, h1, by rw [hb.block g (by omega)]; exact hgg, rest⟩
theorem isBld_below {B b B' : Nat} {bs : List Value} {w w' : World} (h : Lib.IsBuilder TB TU8 B b bs w) (hb : Below B' w w') (hB : w.heap.size ≤ B') : Lib.IsBuilder TB TU8 B b bs w' := by
  rcases h with h | h
  · exact .inl (bldAt_below h hb hB)
  · exact .inr (bldAt_below h hb hB)
theorem byteCells_append (l r : List UInt8) : Lib.byteCells l ++ Lib.byteCells r = Lib.byteCells (l ++ r) := by simp [Lib.byteCells]
theorem strCells_str (l : List UInt8) : Lib.strCells (str l) = Lib.byteCells l := by simp [Lib.strCells, Lib.byteCells, str]
def TextEnd (n : Nat) (w : World) (e : Ending) (w' : World) : Prop := e = .returned (.string (str (dec n))) ∧ Below w.heap.size w w'
theorem text_zero (vx : Value) (w : World) (hx : Sl w .u64 vx (toB 0)) : Calls Tryz.prog 151 #[vx] w (TextEnd 0 w) := by
  obtain ⟨ax, cx, rfl⟩ := hx.shape
  have h0 : (toB 0).length = 0 := rfl
  rw [h0]
  clear h0 hx
  go_enter Tryz.func151, Tryz.ntmps151
  go_wp2
  go_ret
  exact ⟨ret_str (by rw [dec_small (by omega)]; rfl), Below.refl _ _⟩
theorem fresh_bld (w : World) : Lib.IsBuilder TB TU8 w.heap.size w.heap.size (Lib.byteCells []) (w.alloc (.cells #[.pointer none, .slice none 0 0] TB)) :=
  .inl ⟨Nat.le_refl _, .slice none 0 0, Go.heap_alloc_new w _, World.ownsRow_nil _ _ _ _, by simp [Value.ownBlock]⟩
theorem rep48 (c : Nat) : (⟨(Lib.repeatL (⟨#[48]⟩ : ByteArray).data.toList c).toArray⟩ : ByteArray) = str (List.replicate c 48) := by
  have := Lib.repeatL_replicate 48 1 c
  simp at this
  show str (Lib.repeatL [48] c) = _
  rw [this]
set_option maxHeartbeats 1000000 in
theorem text_pos (vx : Value) (n : Nat) (h0 : n ≠ 0) (w : World) (hx : Sl w .u64 vx (toB n)) (lx : (toB n).length ≤ 100000) (ht : Tab w) : Calls Tryz.prog 151 #[vx] w (TextEnd n w) := by
  obtain ⟨ax, cx, bx, ox, rfl, hax, hcx1, hcx2, hbx, hcellx⟩ := hx.open
  have hl := toB_ne h0
  obtain rfl := hax hl
  have hbx' := hbx hl
  have hne : (((toB n).length : Int) == 0) = false := by rw [beq_eq_false_iff_ne]; omega
  have HT := Lib.hid ht; clear ht
  have H0 := Lib.hid h0; clear h0
  unfold maxLen at hcx2
  clear hx hax hbx
  go_enter Tryz.func151, Tryz.ntmps151
  go_wp2
  clear hne
  go_loopw [11] (fun i wr => ∃ k : Nat, k ≤ (toB n).length ∧ i = .int .i64 k ∧ Lib.IsBuilder TB TU8 w.heap.size w.heap.size (Lib.byteCells (topB n k)) wr ∧ Below w.heap.size w wr) (fun i _ => (toB n).length - (intOf i).toNat)
  case atStart => exact ⟨0, Nat.zero_le _, rfl, fresh_bld w, (Below.refl _ _).alloc (Nat.le_refl _) _⟩
  case round =>
    obtain ⟨k, hk, rfl, hbld, hb⟩ := hrel
    have HW := Lib.hid hbld; clear hbld
    have HB := Lib.hid hb; clear hb
    have hsz := HB.out.size
    by_cases hlt : k < (toB n).length
    · have c1 := (HB.out.cell (p := ⟨bx, ox + ((toB n).length - 1 - k), none⟩) hbx').trans (hcellx ((toB n).length - 1 - k) (by omega))
      have hsm := small_toB n ((toB n).length - 1 - k)
      have hd9 := dec_len9 hsm
      have hd1 := dec_pos (nth (toB n) ((toB n).length - 1 - k))
      have hlt3 : 0 ≤ (((toB n).length : Int) - 1 - (k : Int)) := by omega
      obtain ⟨x, hx⟩ : ∃ x, x = nth (toB n) ((toB n).length - 1 - k) := ⟨_, rfl⟩
      rw [← hx] at c1 hsm hd9 hd1
      have hfm := fmt_any x (by rw [BB_val] at hsm; omega) wr (HT.out.below HB.out (Nat.le_refl _))
      have HFM := Lib.hid hfm; clear hfm
      have htl := topB_len n k
      have hss1 : (str (dec x)).size ≤ 9 := by rw [str_size]; exact hd9
      have hss2 : 1 ≤ (str (dec x)).size := by rw [str_size]; exact hd1
      have HX := Lib.hid hx; clear hx
      clear hcellx hsm hd1 hd9
      by_cases hk0 : k = 0
      · subst hk0
        rw [Nat.sub_zero] at c1
        clear hlt3
        go_wp2_with fail
        refine HFM.out.mono ?_
        rintro e w1 ⟨rfl, hb1⟩
        have hw1 := isBld_below HW.out hb1 (Nat.le_refl _)
        have HW1 := Lib.hid hw1; clear hw1
        have HB1 := Lib.hid hb1; clear hb1
        have hsz1 := HB1.out.size
        go_wp2_with fail
        refine (Tryz.Builder_WriteString w.heap.size w.heap.size _ (str (dec x)) w1 HW1.out (by rw [topB_zero]; simp [Lib.byteCells]; omega) (by omega)).mono ?_
        rintro e w2 ⟨rfl, hbld2, hb2⟩
        have HW2 := Lib.hid hbld2; clear hbld2
        have HB2 := Lib.hid hb2; clear hb2
        go_wp2
        go_roundw
        case rel =>
          refine ⟨1, by omega, rfl, .inr ?_, HB.out.trans ((HB1.out.mono hsz).trans HB2.out)⟩
          have := HW2.out
          rw [topB_zero, strCells_str, byteCells_append, HX.out, Nat.sub_zero, List.nil_append] at this
          rw [topB_one n H0.out]; exact this
        case measure => simp [intOf]; omega
      · have hk1 : 0 < k := by omega
        clear hk0
        go_wp2_with fail
        refine HFM.out.mono ?_
        rintro e w1 ⟨rfl, hb1⟩
        have hw1 := isBld_below HW.out hb1 (Nat.le_refl _)
        have HW1 := Lib.hid hw1; clear hw1
        have HB1 := Lib.hid hb1; clear hb1
        have hsz1 := HB1.out.size
        go_wp2_with fail
        have e9 : (9 - ((str (dec x)).size : Int)) = ((9 - (str (dec x)).size : Nat) : Int) := by omega
        rw [e9]
        clear e9
        refine (Tryz.strings_Repeat ⟨#[48]⟩ (9 - (str (dec x)).size) w1 (by omega) (by show 1 * (9 - (str (dec x)).size) ≤ 140737488355328; omega)).mono ?_
        rintro e w2 ⟨rfl, hb2⟩
        rw [rep48]
        have hw2 := isBld_below HW1.out hb2 (Nat.le_refl _)
        have HW2 := Lib.hid hw2; clear hw2
        have HB2 := Lib.hid hb2; clear hb2
        have hsz2 := HB2.out.size
        go_wp2_with fail
        refine (Tryz.Builder_WriteString w.heap.size w.heap.size _ (str (List.replicate (9 - (str (dec x)).size) 48)) w2 HW2.out (by rw [Lib.byteCells_length, str_size, List.length_replicate]; omega) (by omega)).mono ?_
        rintro e w3 ⟨rfl, hbld3, hb3⟩
        have HW3 := Lib.hid hbld3; clear hbld3
        have HB3 := Lib.hid hb3; clear hb3
        have hsz3 := HB3.out.size
        go_wp2_with fail
        refine (Tryz.Builder_WriteString w.heap.size w.heap.size _ (str (dec x)) w3 (.inr HW3.out) (by rw [List.length_append, Lib.byteCells_length, strCells_str, Lib.byteCells_length, List.length_replicate]; omega) (by omega)).mono ?_
        rintro e w4 ⟨rfl, hbld4, hb4⟩
        have HW4 := Lib.hid hbld4; clear hbld4
        have HB4 := Lib.hid hb4; clear hb4
        go_wp2
        go_roundw
        case rel =>
          refine ⟨k + 1, by omega, by go_num, .inr ?_, HB.out.trans ((HB1.out.mono hsz).trans ((HB2.out.mono (by omega)).trans (HB3.out.trans HB4.out)))⟩
          have := HW4.out
          rw [strCells_str, strCells_str, byteCells_append, byteCells_append, str_size, List.append_assoc, HX.out] at this
          rw [topB_succ n H0.out k (by omega) hlt]; exact this
        case measure => simp [intOf]; omega
    · go_wp2_with fail
      have hkk : k = (toB n).length := by omega
      refine (Tryz.Builder_String_any w.heap.size w.heap.size (topB n k) wr HW.out hsz).mono ?_
      rintro e w1 ⟨rfl, hb1⟩
      have HKK := Lib.hid hkk; clear hkk
      have HB1 := Lib.hid hb1; clear hb1
      go_wp2
      go_ret
      exact ⟨ret_str (by rw [HKK.out, topB_all n H0.out]; rfl), HB.out.trans HB1.out⟩
theorem text_any (vx : Value) (n : Nat) (w : World) (hx : Sl w .u64 vx (toB n)) (lx : (toB n).length ≤ 100000) (ht : Tab w) : Calls Tryz.prog 151 #[vx] w (TextEnd n w) := by
  by_cases h0 : n = 0
  · subst h0; exact text_zero vx w hx
  · exact text_pos vx n h0 w hx lx ht
end Go.Proofs.YtjekapjbigfkbaaGreatDoor

namespace Go.Proofs.YtjekapjbigfkbaaGreatDoor
open Go Go.RowKit
set_option maxRecDepth 100000
theorem isEmpty_of (s : ByteArray) (h : 0 < s.size) : s.toList.isEmpty = false := by
  rw [Lib.toList_data]
  cases hs : s.data.toList with
  | nil => have : s.size = 0 := by rw [← bts_len, bts, hs]; rfl
           omega
  | cons a l => rfl
theorem not_nil_of (s : ByteArray) (h : 0 < s.size) : ¬ s.toList = [] := by
  have := isEmpty_of s h; intro e; rw [e] at this; simp at this
theorem nil_of (s : ByteArray) (h : s.size = 0) : s.toList = [] := by
  rw [Lib.toList_data]; exact List.length_eq_zero_iff.1 (by have := bts_len s; unfold bts at this; omega)
theorem u8_ne48 (c : UInt8) (h : c ≠ 48) : ((c.toNat : Int) == 48) = false := by
  rw [beq_eq_false_iff_ne]; intro e; apply h; apply UInt8.toNat_inj.1
  show c.toNat = 48
  omega
theorem dgt_true {c : UInt8} (h1 : (48 : Int) ≤ (c.toNat : Int)) (h2 : (c.toNat : Int) ≤ 57) : dgt c = true := by
  simp [dgt]; omega
theorem dgt_lo {c : UInt8} (h1 : (c.toNat : Int) < 48) : dgt c = false := by simp [dgt]; omega
theorem dgt_hi {c : UInt8} (h1 : (57 : Int) < (c.toNat : Int)) : dgt c = false := by simp [dgt]; omega
theorem valid_loop (s : ByteArray) (w : World) (h1 : 1 ≤ s.size) (h2 : s.size ≤ 1000) (h3 : s.size = 1 ∨ (bts s).headD 0 ≠ 48) :
    Calls Tryz.prog 114 #[.string s] w fun e w' => e = .returned (.bool (dgts (bts s))) ∧ w = w' := by
  have e1 : s.toList.isEmpty = false := isEmpty_of s h1
  have e0 : ¬ s.toList = [] := not_nil_of s h1
  have hp : 0 < s.size := by omega
  have h5 : decide ((1000 : Int) < (s.size : Int)) = false := by simp; omega
  by_cases hs : s.size = 1
  all_goals
    have h4 : 1 < s.size → ((s[0].toNat : Int) == 48) = false := fun h => u8_ne48 _ (by rw [← headD_bts s hp]; rcases h3 with h' | h'; · omega
                                                                                        · exact h')
    try have h6 := h4 (by omega)
    clear h4
    go_enter Tryz.func114, Tryz.ntmps114
    go_wp2
    clear e0 e1 h5
    go_loop [23] (fun i => ∃ k : Nat, k ≤ s.size ∧ i = .int .i64 k ∧ dgts ((bts s).take k) = true) (fun i => s.size - (intOf i).toNat)
    case atStart => exact ⟨0, Nat.zero_le _, rfl, rfl⟩
    case round =>
      obtain ⟨k, hk, rfl, ha⟩ := hrel
      have HA := Lib.hid ha; clear ha
      by_cases hlt : k < s.size
      · go_wp2
        · have hx : (57 : Int) < (s[k].toNat : Int) := by omega
          go_ret
          exact ⟨ret_bool (dgts_false s k hlt (dgt_hi hx)).symm, rfl⟩
        · have hx : (48 : Int) ≤ (s[k].toNat : Int) := by omega
          have hy : (s[k].toNat : Int) ≤ 57 := by omega
          go_round
          case rel => exact ⟨k + 1, by omega, by go_num, by rw [take_snoc s k hlt, dgts_snoc, HA.out, dgt_true hx hy]; rfl⟩
          case measure => simp [intOf]; omega
        · have hx : (s[k].toNat : Int) < 48 := by assumption
          go_ret
          exact ⟨ret_bool (dgts_false s k hlt (dgt_lo hx)).symm, rfl⟩
      · go_wp2
        go_ret
        exact ⟨ret_bool (by rw [← HA.out, List.take_of_length_le (by rw [bts_len]; omega)]), rfl⟩
theorem valid_any (s : ByteArray) (w : World) (hm : s.size ≤ maxLen) :
    Calls Tryz.prog 114 #[.string s] w fun e w' => e = .returned (.bool (validL (bts s))) ∧ w = w' := by
  unfold maxLen at hm
  by_cases h1 : s.size = 0
  · have e1 : validL (bts s) = false := by simp [validL, bts_len, h1]
    have e0 := nil_of s h1
    have HE := Lib.hid e1; clear e1
    go_enter Tryz.func114, Tryz.ntmps114
    go_wp2
    go_ret
    exact ⟨ret_bool HE.out.symm, rfl⟩
  · by_cases h2 : 1000 < s.size
    · have e1 : validL (bts s) = false := by simp [validL, bts_len]; intros; omega
      have HE := Lib.hid e1; clear e1
      have e1 : s.toList.isEmpty = false := isEmpty_of s (by omega)
      have e0 : ¬ s.toList = [] := not_nil_of s (by omega)
      go_enter Tryz.func114, Tryz.ntmps114
      go_wp2
      go_ret
      exact ⟨ret_bool HE.out.symm, rfl⟩
    · by_cases h3 : s.size = 1 ∨ (bts s).headD 0 ≠ 48
      · refine (valid_loop s w (by omega) (by omega) h3).mono fun e w' ⟨he, hw⟩ => ⟨?_, hw⟩
        rw [he]
        have : validL (bts s) = dgts (bts s) := by
          cases hd : dgts (bts s) with
          | false => simp [validL, hd]
          | true => exact valid_mk (by rw [bts_len]; omega) (by rw [bts_len]; omega) (by rw [bts_len]; exact h3) hd
        rw [this]
      · have e1 : validL (bts s) = false := by
          cases hv : validL (bts s) with
          | false => rfl
          | true => exact absurd (by have := (valid_parts hv).2.2.1; rw [bts_len] at this; exact this) h3
        have HE := Lib.hid e1; clear e1
        have hp : 0 < s.size := by omega
        have e1 : s.toList.isEmpty = false := isEmpty_of s (by omega)
        have e0 : ¬ s.toList = [] := not_nil_of s (by omega)
        have h6 : ((s[0].toNat : Int) == 48) = true := by
          have : (bts s).headD 0 = 48 := by
            by_cases h : (bts s).headD 0 = 48
            · exact h
            · exact absurd (Or.inr h) h3
          rw [headD_bts s hp] at this; rw [this]; rfl
        have h7 : 1 < s.size := by
          by_cases h : s.size = 1
          · exact absurd (Or.inl h) h3
          · omega
        have h5 : decide ((1000 : Int) < (s.size : Int)) = false := by simp; omega
        clear h3
        go_enter Tryz.func114, Tryz.ntmps114
        go_wp2
        go_ret
        exact ⟨ret_bool HE.out.symm, rfl⟩
end Go.Proofs.YtjekapjbigfkbaaGreatDoor

namespace Go.Proofs.YtjekapjbigfkbaaGreatDoor
open Go Go.RowKit
set_option maxRecDepth 100000
def PairEnd (r : ByteArray × Nat) (w : World) (e : Ending) (w' : World) : Prop := e = .returned (.tuple #[.string r.1, .int .i64 (r.2 : Int)]) ∧ Below w.heap.size w w'
def limS (n : Nat) : ByteArray × Nat := if (dec n).length ≤ 1000 then (str (dec n), 0) else (str [], 2)
def vld (s : ByteArray) : Bool := validL (bts s)
def val (s : ByteArray) : Nat := num (bts s)
def addF (s t : ByteArray) : ByteArray × Nat := if vld s && vld t then limS (val s + val t) else (str [], 1)
def subF (s t : ByteArray) : ByteArray × Nat := if vld s && vld t then (if val s < val t then (str [], 4) else (str (dec (val s - val t)), 0)) else (str [], 1)
def mulF (s t : ByteArray) : ByteArray × Nat := if vld s && vld t then limS (val s * val t) else (str [], 1)
def cmpF (s t : ByteArray) : Int := if vld s && vld t then cmpN (val s) (val t) else 0
theorem ret_si {s s' : ByteArray} {a b : Int} (h : s = s') (h' : a = b) : Ending.returned (.tuple #[.string s, .int .i64 a]) = .returned (.tuple #[.string s', .int .i64 b]) := by rw [h, h']
theorem vld_size {s : ByteArray} (h : vld s = true) : 1 ≤ s.size ∧ s.size ≤ 1000 := by
  obtain ⟨h1, h2, _⟩ := valid_parts h; rw [bts_len] at h1 h2; exact ⟨h1, h2⟩
theorem vld_dgts {s : ByteArray} (h : vld s = true) : dgts (bts s) = true := (valid_parts h).2.2.2
theorem num_lt_pow {l : List UInt8} (h : dgts l = true) (k : Nat) (hk : l.length ≤ 9 * k) : num l < BB ^ k := by
  have h2 : 10 ^ l.length ≤ 10 ^ (9 * k) := Nat.pow_le_pow_right (by omega) hk
  rw [pow9] at h2
  exact Nat.lt_of_lt_of_le (num_lt _ h) h2
theorem val_lt {s : ByteArray} (h : vld s = true) : val s < BB ^ 112 := num_lt_pow (vld_dgts h) 112 (by rw [bts_len]; have := vld_size h; omega)
theorem toB_len_val {s : ByteArray} (h : vld s = true) : (toB (val s)).length ≤ 112 := toB_len_le (val_lt h)
theorem vld_any (s : ByteArray) (w : World) (hm : s.size ≤ maxLen) :
    Calls Tryz.prog 114 #[.string s] w fun e w' => e = .returned (.bool (vld s)) ∧ w = w' := valid_any s w hm
theorem blk_any (s : ByteArray) (w : World) (h : vld s = true) : Calls Tryz.prog 115 #[.string s] w (BlocksEnd (val s) w) := blocks_any s w (vld_size h).2 (vld_dgts h)
theorem limited_any (vx : Value) (n : Nat) (w : World) (hx : Sl w .u64 vx (toB n)) (lx : (toB n).length ≤ 100000) (ht : Tab w) :
    Calls Tryz.prog 116 #[vx] w (PairEnd (limS n) w) := by
  have hdl := topB_len n (toB n).length
  have hn : (dec n).length ≤ 900000 ∨ n = 0 := by
    by_cases h0 : n = 0
    · exact .inr h0
    · rw [topB_all n h0] at hdl; exact .inl (by omega)
  have hn' : (dec n).length ≤ 900000 := by
    rcases hn with h | h
    · exact h
    · subst h; rw [dec_small (by omega)]; simp
  clear hdl hn
  have hsz : (str (dec n)).size ≤ 900000 := by rw [str_size]; exact hn'
  have hc := text_any vx n w hx lx ht
  have HC := Lib.hid hc; clear hc hx ht lx
  by_cases h : (dec n).length ≤ 1000
  · have hr : limS n = (str (dec n), 0) := by unfold limS; rw [if_pos h]
    have hs : (str (dec n)).size ≤ 1000 := by rw [str_size]; exact h
    rw [hr]; clear hr h hn'
    go_enter Tryz.func116, Tryz.ntmps116
    go_wp2_with fail
    refine HC.out.mono ?_
    rintro e w' ⟨rfl, hb⟩
    have HB := Lib.hid hb; clear hb
    go_wp2
    go_ret2
    exact ⟨rfl, HB.out⟩
  · have hr : limS n = (str [], 2) := by unfold limS; rw [if_neg h]
    have hs : 1000 < (str (dec n)).size := by rw [str_size]; omega
    rw [hr]; clear hr h hn'
    go_enter Tryz.func116, Tryz.ntmps116
    go_wp2_with fail
    refine HC.out.mono ?_
    rintro e w' ⟨rfl, hb⟩
    have HB := Lib.hid hb; clear hb
    go_wp2
    go_ret2
    exact ⟨rfl, HB.out⟩
theorem add_any (s t : ByteArray) (w : World) (hs : s.size ≤ maxLen) (ht : t.size ≤ maxLen) (htab : Tab w) :
    Calls Tryz.prog 111 #[.string s, .string t] w (PairEnd (addF s t) w) := by
  have HT := Lib.hid htab; clear htab
  have c1 := vld_any s w hs
  have c2 := vld_any t w ht
  clear hs ht
  cases h1 : vld s with
  | false =>
    have hr : addF s t = (str [], 1) := by unfold addF; rw [h1]; rfl
    rw [hr]; rw [h1] at c1; clear hr h1 c2 HT
    have C1 := Lib.hid c1; clear c1
    go_enter Tryz.func111, Tryz.ntmps111
    go_wp2_with fail
    refine C1.out.mono ?_
    rintro e w' ⟨rfl, rfl⟩
    go_wp2
    go_ret2
    exact ⟨rfl, Below.refl _ _⟩
  | true =>
    cases h2 : vld t with
    | false =>
      have hr : addF s t = (str [], 1) := by unfold addF; rw [h1, h2]; rfl
      rw [hr]; rw [h1] at c1; rw [h2] at c2; clear hr h1 h2 HT
      have C1 := Lib.hid c1; clear c1
      have C2 := Lib.hid c2; clear c2
      go_enter Tryz.func111, Tryz.ntmps111
      go_wp2_with fail
      refine C1.out.mono ?_
      rintro e w' ⟨rfl, rfl⟩
      go_wp2_with fail
      refine C2.out.mono ?_
      rintro e w' ⟨rfl, rfl⟩
      go_wp2
      go_ret2
      exact ⟨rfl, Below.refl _ _⟩
    | true =>
      rw [h1] at c1; rw [h2] at c2
      have C1 := Lib.hid c1; clear c1
      have C2 := Lib.hid c2; clear c2
      have lm := toB_len_val h1
      have ln := toB_len_val h2
      have b1 := blk_any s w h1
      have B1 := Lib.hid b1; clear b1
      have b2 := fun w => blk_any t w h2
      have B2 := Lib.hid b2; clear b2
      have H1 := Lib.hid h1; clear h1
      have H2 := Lib.hid h2; clear h2
      have hr : addF s t = limS (val s + val t) := by unfold addF; rw [H1.out, H2.out]; rfl
      rw [hr]; clear hr
      go_enter Tryz.func111, Tryz.ntmps111
      go_wp2_with fail
      refine C1.out.mono ?_
      rintro e w' ⟨rfl, rfl⟩
      go_wp2_with fail
      refine C2.out.mono ?_
      rintro e w' ⟨rfl, rfl⟩
      go_wp2_with fail
      refine B1.out.mono ?_
      rintro e w1 ⟨v1, rfl, ho1, hb1⟩
      have HO1 := Lib.hid ho1; clear ho1
      have HB1 := Lib.hid hb1; clear hb1
      have hz1 := HB1.out.size
      go_wp2_with fail
      refine (B2.out w1).mono ?_
      rintro e w2 ⟨v2, rfl, ho2, hb2⟩
      have HO2 := Lib.hid ho2; clear ho2
      have HB2 := Lib.hid hb2; clear hb2
      have hz2 := HB2.out.size
      have HS1 := Lib.hid (HO1.out.sl.below HB2.out (Nat.le_refl _))
      go_wp2_with fail
      refine (plus_any v1 v2 (val s) (val t) w2 HS1.out HO2.out.sl (by omega) (by omega)).mono ?_
      rintro e w3 ⟨v3, rfl, ho3, hb3⟩
      have HO3 := Lib.hid ho3; clear ho3
      have HB3 := Lib.hid hb3; clear hb3
      have HB := Lib.hid (HB1.out.trans ((HB2.out.mono hz1).trans (HB3.out.mono (by omega))))
      have hlim := limited_any v3 (val s + val t) w3 HO3.out.sl (by
        have h1 := val_lt H1.out
        have h2 := val_lt H2.out
        have : val s + val t < BB ^ 113 := by
          have e : BB ^ 113 = BB ^ 112 * BB := Nat.pow_succ ..
          rw [e]
          have : BB ^ 112 * 2 ≤ BB ^ 112 * BB := Nat.mul_le_mul_left _ BB_one
          omega
        have := toB_len_le this
        omega) (HT.out.below HB.out (Nat.le_refl _))
      have HL := Lib.hid hlim; clear hlim
      go_wp2_with fail
      refine HL.out.mono ?_
      rintro e w4 ⟨rfl, hb4⟩
      have HB4 := Lib.hid hb4; clear hb4
      have hz3 := HB3.out.size
      go_wp2
      go_ret2
      exact ⟨rfl, HB.out.trans (HB4.out.mono (by omega))⟩
theorem sub_any (s t : ByteArray) (w : World) (hs : s.size ≤ maxLen) (ht : t.size ≤ maxLen) (htab : Tab w) :
    Calls Tryz.prog 113 #[.string s, .string t] w (PairEnd (subF s t) w) := by
  have HT := Lib.hid htab; clear htab
  have c1 := vld_any s w hs
  have c2 := vld_any t w ht
  clear hs ht
  cases h1 : vld s with
  | false =>
    have hr : subF s t = (str [], 1) := by unfold subF; rw [h1]; rfl
    rw [hr]; rw [h1] at c1; clear hr h1 c2 HT
    have C1 := Lib.hid c1; clear c1
    go_enter Tryz.func113, Tryz.ntmps113
    go_wp2_with fail
    refine C1.out.mono ?_
    rintro e w' ⟨rfl, rfl⟩
    go_wp2
    go_ret2
    exact ⟨rfl, Below.refl _ _⟩
  | true =>
    cases h2 : vld t with
    | false =>
      have hr : subF s t = (str [], 1) := by unfold subF; rw [h1, h2]; rfl
      rw [hr]; rw [h1] at c1; rw [h2] at c2; clear hr h1 h2 HT
      have C1 := Lib.hid c1; clear c1
      have C2 := Lib.hid c2; clear c2
      go_enter Tryz.func113, Tryz.ntmps113
      go_wp2_with fail
      refine C1.out.mono ?_
      rintro e w' ⟨rfl, rfl⟩
      go_wp2_with fail
      refine C2.out.mono ?_
      rintro e w' ⟨rfl, rfl⟩
      go_wp2
      go_ret2
      exact ⟨rfl, Below.refl _ _⟩
    | true =>
      rw [h1] at c1; rw [h2] at c2
      have C1 := Lib.hid c1; clear c1
      have C2 := Lib.hid c2; clear c2
      have lm := toB_len_val h1
      have ln := toB_len_val h2
      have b1 := blk_any s w h1
      have B1 := Lib.hid b1; clear b1
      have b2 := fun w => blk_any t w h2
      have B2 := Lib.hid b2; clear b2
      have H1 := Lib.hid h1; clear h1
      have H2 := Lib.hid h2; clear h2
      by_cases hlt : val s < val t
      · have hr : subF s t = (str [], 4) := by unfold subF; rw [H1.out, H2.out, if_pos hlt]; rfl
        have hc : cmpN (val s) (val t) = -1 := cmpN_lt hlt
        rw [hr]; clear hr hlt
        have HC := Lib.hid hc; clear hc
        go_enter Tryz.func113, Tryz.ntmps113
        go_wp2_with fail
        refine C1.out.mono ?_
        rintro e w' ⟨rfl, rfl⟩
        go_wp2_with fail
        refine C2.out.mono ?_
        rintro e w' ⟨rfl, rfl⟩
        go_wp2_with fail
        refine B1.out.mono ?_
        rintro e w1 ⟨v1, rfl, ho1, hb1⟩
        have HO1 := Lib.hid ho1; clear ho1
        have HB1 := Lib.hid hb1; clear hb1
        have hz1 := HB1.out.size
        go_wp2_with fail
        refine (B2.out w1).mono ?_
        rintro e w2 ⟨v2, rfl, ho2, hb2⟩
        have HO2 := Lib.hid ho2; clear ho2
        have HB2 := Lib.hid hb2; clear hb2
        have hz2 := HB2.out.size
        have HS1 := Lib.hid (HO1.out.sl.below HB2.out (Nat.le_refl _))
        have hcm := compare_any v1 v2 (val s) (val t) w2 HS1.out HO2.out.sl
        unfold CmpEnd at hcm
        rw [HC.out] at hcm
        have HCM := Lib.hid hcm; clear hcm
        go_wp2_with fail
        refine HCM.out.mono ?_
        rintro e w3 ⟨rfl, hb3⟩
        have HB3 := Lib.hid hb3; clear hb3
        go_wp2
        go_ret2
        exact ⟨rfl, HB1.out.trans ((HB2.out.mono hz1).trans (HB3.out.mono (by omega)))⟩
      · have hr : subF s t = (str (dec (val s - val t)), 0) := by unfold subF; rw [H1.out, H2.out, if_neg hlt]; rfl
        have hc : cmpN (val s) (val t) = 0 ∨ cmpN (val s) (val t) = 1 := by
          rcases Nat.lt_or_ge (val t) (val s) with h | h
          · exact .inr (cmpN_gt h)
          · exact .inl (cmpN_eq (by omega))
        have hle : val t ≤ val s := by omega
        have HLE := Lib.hid hle; clear hle
        rw [hr]; clear hr hlt
        have hc0 : ∃ q : Int, cmpN (val s) (val t) = q ∧ 0 ≤ q := by
          rcases hc with h | h
          · exact ⟨0, h, by omega⟩
          · exact ⟨1, h, by omega⟩
        obtain ⟨q, hq, hq0⟩ := hc0
        clear hc
        have HC := Lib.hid hq; clear hq
        go_enter Tryz.func113, Tryz.ntmps113
        go_wp2_with fail
        refine C1.out.mono ?_
        rintro e w' ⟨rfl, rfl⟩
        go_wp2_with fail
        refine C2.out.mono ?_
        rintro e w' ⟨rfl, rfl⟩
        go_wp2_with fail
        refine B1.out.mono ?_
        rintro e w1 ⟨v1, rfl, ho1, hb1⟩
        have HO1 := Lib.hid ho1; clear ho1
        have HB1 := Lib.hid hb1; clear hb1
        have hz1 := HB1.out.size
        go_wp2_with fail
        refine (B2.out w1).mono ?_
        rintro e w2 ⟨v2, rfl, ho2, hb2⟩
        have HO2 := Lib.hid ho2; clear ho2
        have HB2 := Lib.hid hb2; clear hb2
        have hz2 := HB2.out.size
        have HS1 := Lib.hid (HO1.out.sl.below HB2.out (Nat.le_refl _))
        have hcm := compare_any v1 v2 (val s) (val t) w2 HS1.out HO2.out.sl
        unfold CmpEnd at hcm
        rw [HC.out] at hcm
        have HCM := Lib.hid hcm; clear hcm
        go_wp2_with fail
        refine HCM.out.mono ?_
        rintro e w3 ⟨rfl, hb3⟩
        have HB3 := Lib.hid hb3; clear hb3
        have hz3 := HB3.out.size
        have hmi := minus_any v1 v2 (val s) (val t) w3 (HS1.out.below HB3.out (Nat.le_refl _)) (HO2.out.sl.below HB3.out (Nat.le_refl _)) (by omega) (by omega) HLE.out
        have HMI := Lib.hid hmi; clear hmi
        go_wp2_with fail
        refine HMI.out.mono ?_
        rintro e w4 ⟨v4, rfl, ho4, hb4⟩
        have HO4 := Lib.hid ho4; clear ho4
        have HB4 := Lib.hid hb4; clear hb4
        have hz4 := HB4.out.size
        have HB := Lib.hid (HB1.out.trans ((HB2.out.mono hz1).trans ((HB3.out.mono (by omega)).trans (HB4.out.mono (by omega)))))
        have htx := text_any v4 (val s - val t) w4 HO4.out.sl (by have := toB_len_mono (Nat.sub_le (val s) (val t)); omega) (HT.out.below HB.out (Nat.le_refl _))
        have HTX := Lib.hid htx; clear htx
        go_wp2_with fail
        refine HTX.out.mono ?_
        rintro e w5 ⟨rfl, hb5⟩
        have HB5 := Lib.hid hb5; clear hb5
        go_wp2
        go_ret2
        exact ⟨rfl, HB.out.trans (HB5.out.mono (by omega))⟩
def IntEnd (q : Int) (w : World) (e : Ending) (w' : World) : Prop := e = .returned (.int .i64 q) ∧ Below w.heap.size w w'
theorem cmp_any (s t : ByteArray) (w : World) (hs : s.size ≤ maxLen) (ht : t.size ≤ maxLen) :
    Calls Tryz.prog 112 #[.string s, .string t] w (IntEnd (cmpF s t) w) := by
  have c1 := vld_any s w hs
  have c2 := vld_any t w ht
  clear hs ht
  cases h1 : vld s with
  | false =>
    have hr : cmpF s t = 0 := by unfold cmpF; rw [h1]; rfl
    rw [hr]; rw [h1] at c1; clear hr h1 c2
    have C1 := Lib.hid c1; clear c1
    go_enter Tryz.func112, Tryz.ntmps112
    go_wp2_with fail
    refine C1.out.mono ?_
    rintro e w' ⟨rfl, rfl⟩
    go_wp2
    go_ret
    exact ⟨rfl, Below.refl _ _⟩
  | true =>
    cases h2 : vld t with
    | false =>
      have hr : cmpF s t = 0 := by unfold cmpF; rw [h1, h2]; rfl
      rw [hr]; rw [h1] at c1; rw [h2] at c2; clear hr h1 h2
      have C1 := Lib.hid c1; clear c1
      have C2 := Lib.hid c2; clear c2
      go_enter Tryz.func112, Tryz.ntmps112
      go_wp2_with fail
      refine C1.out.mono ?_
      rintro e w' ⟨rfl, rfl⟩
      go_wp2_with fail
      refine C2.out.mono ?_
      rintro e w' ⟨rfl, rfl⟩
      go_wp2
      go_ret
      exact ⟨rfl, Below.refl _ _⟩
    | true =>
      rw [h1] at c1; rw [h2] at c2
      have C1 := Lib.hid c1; clear c1
      have C2 := Lib.hid c2; clear c2
      have lm := toB_len_val h1
      have ln := toB_len_val h2
      have b1 := blk_any s w h1
      have B1 := Lib.hid b1; clear b1
      have b2 := fun w => blk_any t w h2
      have B2 := Lib.hid b2; clear b2
      have H1 := Lib.hid h1; clear h1
      have H2 := Lib.hid h2; clear h2
      have hr : cmpF s t = cmpN (val s) (val t) := by unfold cmpF; rw [H1.out, H2.out]; rfl
      rw [hr]; clear hr
      go_enter Tryz.func112, Tryz.ntmps112
      go_wp2_with fail
      refine C1.out.mono ?_
      rintro e w' ⟨rfl, rfl⟩
      go_wp2_with fail
      refine C2.out.mono ?_
      rintro e w' ⟨rfl, rfl⟩
      go_wp2_with fail
      refine B1.out.mono ?_
      rintro e w1 ⟨v1, rfl, ho1, hb1⟩
      have HO1 := Lib.hid ho1; clear ho1
      have HB1 := Lib.hid hb1; clear hb1
      have hz1 := HB1.out.size
      go_wp2_with fail
      refine (B2.out w1).mono ?_
      rintro e w2 ⟨v2, rfl, ho2, hb2⟩
      have HO2 := Lib.hid ho2; clear ho2
      have HB2 := Lib.hid hb2; clear hb2
      have hz2 := HB2.out.size
      have HS1 := Lib.hid (HO1.out.sl.below HB2.out (Nat.le_refl _))
      have hcm := compare_any v1 v2 (val s) (val t) w2 HS1.out HO2.out.sl
      unfold CmpEnd at hcm
      have HCM := Lib.hid hcm; clear hcm
      go_wp2_with fail
      refine HCM.out.mono ?_
      rintro e w3 ⟨rfl, hb3⟩
      have HB3 := Lib.hid hb3; clear hb3
      go_wp2
      go_ret
      exact ⟨rfl, HB1.out.trans ((HB2.out.mono hz1).trans (HB3.out.mono (by omega)))⟩
end Go.Proofs.YtjekapjbigfkbaaGreatDoor
