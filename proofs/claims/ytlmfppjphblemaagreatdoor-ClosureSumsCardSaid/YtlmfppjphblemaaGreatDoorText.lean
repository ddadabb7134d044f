/- The walk of nat.text: the numeral of a number in blocks. Condition: the table of powers of ten. -/
import Derived.Test.YtlmfppjphblemaaGreatDoorMC
import Derived.Test.YtlmfppjphblemaaGreatDoorFmt
import Derived.Lib.Repeat
namespace Go.Proofs.YtlmfppjphblemaaGreatDoor
open Go Go.RowKit
set_option maxRecDepth 100000

abbrev TB : TypeId := 144
abbrev TU8 : TypeId := 5
theorem bldAt_below {B b B' : Nat} {p : Value} {bs : List Value} {w w' : World} (h : Lib.BuilderAt TB TU8 B b p bs w) (hb : Below B' w w') (hB : w.heap.size ≤ B') : Lib.BuilderAt TB TU8 B b p bs w' := by
  obtain ⟨h0, v, hv, hown, hne⟩ := h
  have hlt := (Array.getElem?_eq_some_iff.1 hv).1
  refine ⟨h0, v, by rw [hb.block b (by omega)]; exact hv, ⟨hown.1, ?_⟩, hne⟩
  rcases hown.2 with hn | ⟨g, cap, cur, rfl, h1, hgg, rest⟩
  · exact .inl hn
  · have := (Array.getElem?_eq_some_iff.1 hgg).1
    exact .inr ⟨g, cap, cur, rfl, h1, by rw [hb.block g (by omega)]; exact hgg, rest⟩
theorem isBld_below {B b B' : Nat} {bs : List Value} {w w' : World} (h : Lib.IsBuilder TB TU8 B b bs w) (hb : Below B' w w') (hB : w.heap.size ≤ B') : Lib.IsBuilder TB TU8 B b bs w' := by
  rcases h with h | h
  · exact .inl (bldAt_below h hb hB)
  · exact .inr (bldAt_below h hb hB)
theorem byteCells_append (l r : List UInt8) : Lib.byteCells l ++ Lib.byteCells r = Lib.byteCells (l ++ r) := by simp [Lib.byteCells]
theorem strCells_str (l : List UInt8) : Lib.strCells (str l) = Lib.byteCells l := by simp [Lib.strCells, Lib.byteCells, str]

def TextEnd (n : Nat) (w : World) (e : Ending) (w' : World) : Prop := e = .returned (.string (str (dec n))) ∧ Below w.heap.size w w'

theorem text_zero (vx : Value) (w : World) (hx : Sl w .u64 vx (toB 0)) : Calls Tryz.prog 144 #[vx] w (TextEnd 0 w) := by
  obtain ⟨ax, cx, rfl⟩ := hx.shape
  have h0 : (toB 0).length = 0 := rfl
  rw [h0]
  clear h0 hx
  go_enter Tryz.func144, Tryz.ntmps144
  go_wp2
  go_ret
  exact ⟨ret_str (by rw [dec_small (by omega)]; rfl), Below.refl _ _⟩

theorem fresh_bld (w : World) : Lib.IsBuilder TB TU8 w.heap.size w.heap.size (Lib.byteCells []) (w.alloc (.cells #[.pointer none, .slice none 0 0] TB)) :=
  .inl ⟨Nat.le_refl _, .slice none 0 0, Go.heap_alloc_new w _, World.ownsRow_nil _ _ _ _, by simp [Value.ownBlock]⟩
theorem rep48 (c : Nat) : (⟨(Lib.repeatL (⟨#[48]⟩ : ByteArray).data.toList c).toArray⟩ : ByteArray) = str (List.replicate c 48) := by
  have := Lib.repeatL_replicate 48 1 c
  simp at this
  show str (Lib.repeatL [48] c) = _
  rw [this]

set_option maxHeartbeats 1000000 in
theorem text_pos (vx : Value) (n : Nat) (h0 : n ≠ 0) (w : World) (hx : Sl w .u64 vx (toB n)) (lx : (toB n).length ≤ 100000) (ht : Tab w) : Calls Tryz.prog 144 #[vx] w (TextEnd n w) := by
  obtain ⟨ax, cx, bx, ox, rfl, hax, hcx1, hcx2, hbx, hcellx⟩ := hx.open
  have hl := toB_ne h0
  obtain rfl := hax hl
  have hbx' := hbx hl
  have hne : (((toB n).length : Int) == 0) = false := by rw [beq_eq_false_iff_ne]; omega
  have HT := Lib.hid ht; clear ht
  have H0 := Lib.hid h0; clear h0
  unfold maxLen at hcx2
  clear hx hax hbx
  go_enter Tryz.func144, Tryz.ntmps144
  go_wp2
  clear hne
  go_loopw [11] (fun i wr => ∃ k : Nat, k ≤ (toB n).length ∧ i = .int .i64 k ∧ Lib.IsBuilder TB TU8 w.heap.size w.heap.size (Lib.byteCells (topB n k)) wr ∧ Below w.heap.size w wr) (fun i _ => (toB n).length - (intOf i).toNat)
  case atStart => exact ⟨0, Nat.zero_le _, rfl, fresh_bld w, (Below.refl _ _).alloc (Nat.le_refl _) _⟩
  case round =>
    obtain ⟨k, hk, rfl, hbld, hb⟩ := hrel
    have HW := Lib.hid hbld; clear hbld
    have HB := Lib.hid hb; clear hb
    have hsz := HB.out.size
    by_cases hlt : k < (toB n).length
    · have c1 := (HB.out.cell (p := ⟨bx, ox + ((toB n).length - 1 - k), none⟩) hbx').trans (hcellx ((toB n).length - 1 - k) (by omega))
      have hsm := small_toB n ((toB n).length - 1 - k)
      have hd9 := dec_len9 hsm
      have hd1 := dec_pos (nth (toB n) ((toB n).length - 1 - k))
      have hlt3 : 0 ≤ (((toB n).length : Int) - 1 - (k : Int)) := by omega
      obtain ⟨x, hx⟩ : ∃ x, x = nth (toB n) ((toB n).length - 1 - k) := ⟨_, rfl⟩
      rw [← hx] at c1 hsm hd9 hd1
      have hfm := fmt_any x (by rw [BB_val] at hsm; omega) wr (HT.out.below HB.out (Nat.le_refl _))
      have HFM := Lib.hid hfm; clear hfm
      have htl := topB_len n k
      have hss1 : (str (dec x)).size ≤ 9 := by rw [str_size]; exact hd9
      have hss2 : 1 ≤ (str (dec x)).size := by rw [str_size]; exact hd1
      have HX := Lib.hid hx; clear hx
      clear hcellx hsm hd1 hd9
      by_cases hk0 : k = 0
      · subst hk0
        rw [Nat.sub_zero] at c1
        clear hlt3
        go_wp2_with fail
        refine HFM.out.mono ?_
        rintro e w1 ⟨rfl, hb1⟩
        have hw1 := isBld_below HW.out hb1 (Nat.le_refl _)
        have HW1 := Lib.hid hw1; clear hw1
        have HB1 := Lib.hid hb1; clear hb1
        have hsz1 := HB1.out.size
        go_wp2_with fail
        refine (Tryz.Builder_WriteString w.heap.size w.heap.size _ (str (dec x)) w1 HW1.out (by rw [topB_zero]; simp [Lib.byteCells]; omega) (by omega)).mono ?_
        rintro e w2 ⟨rfl, hbld2, hb2⟩
        have HW2 := Lib.hid hbld2; clear hbld2
        have HB2 := Lib.hid hb2; clear hb2
        go_wp2
        go_roundw
        case rel =>
          refine ⟨1, by omega, rfl, .inr ?_, HB.out.trans ((HB1.out.mono hsz).trans HB2.out)⟩
          have := HW2.out
          rw [topB_zero, strCells_str, byteCells_append, HX.out, Nat.sub_zero, List.nil_append] at this
          rw [topB_one n H0.out]; exact this
        case measure => simp [intOf]; omega
      · have hk1 : 0 < k := by omega
        clear hk0
        go_wp2_with fail
        refine HFM.out.mono ?_
        rintro e w1 ⟨rfl, hb1⟩
        have hw1 := isBld_below HW.out hb1 (Nat.le_refl _)
        have HW1 := Lib.hid hw1; clear hw1
        have HB1 := Lib.hid hb1; clear hb1
        have hsz1 := HB1.out.size
        go_wp2_with fail
        have e9 : (9 - ((str (dec x)).size : Int)) = ((9 - (str (dec x)).size : Nat) : Int) := by omega
        rw [e9]
        clear e9
        refine (Tryz.strings_Repeat ⟨#[48]⟩ (9 - (str (dec x)).size) w1 (by omega) (by show 1 * (9 - (str (dec x)).size) ≤ 140737488355328; omega)).mono ?_
        rintro e w2 ⟨rfl, hb2⟩
        rw [rep48]
        have hw2 := isBld_below HW1.out hb2 (Nat.le_refl _)
        have HW2 := Lib.hid hw2; clear hw2
        have HB2 := Lib.hid hb2; clear hb2
        have hsz2 := HB2.out.size
        go_wp2_with fail
        refine (Tryz.Builder_WriteString w.heap.size w.heap.size _ (str (List.replicate (9 - (str (dec x)).size) 48)) w2 HW2.out (by rw [Lib.byteCells_length, str_size, List.length_replicate]; omega) (by omega)).mono ?_
        rintro e w3 ⟨rfl, hbld3, hb3⟩
        have HW3 := Lib.hid hbld3; clear hbld3
        have HB3 := Lib.hid hb3; clear hb3
        have hsz3 := HB3.out.size
        go_wp2_with fail
        refine (Tryz.Builder_WriteString w.heap.size w.heap.size _ (str (dec x)) w3 (.inr HW3.out) (by rw [List.length_append, Lib.byteCells_length, strCells_str, Lib.byteCells_length, List.length_replicate]; omega) (by omega)).mono ?_
        rintro e w4 ⟨rfl, hbld4, hb4⟩
        have HW4 := Lib.hid hbld4; clear hbld4
        have HB4 := Lib.hid hb4; clear hb4
        go_wp2
        go_roundw
        case rel =>
          refine ⟨k + 1, by omega, by go_num, .inr ?_, HB.out.trans ((HB1.out.mono hsz).trans ((HB2.out.mono (by omega)).trans (HB3.out.trans HB4.out)))⟩
          have := HW4.out
          rw [strCells_str, strCells_str, byteCells_append, byteCells_append, str_size, List.append_assoc, HX.out] at this
          rw [topB_succ n H0.out k (by omega) hlt]; exact this
        case measure => simp [intOf]; omega
    · go_wp2_with fail
      have hkk : k = (toB n).length := by omega
      refine (Tryz.Builder_String_any w.heap.size w.heap.size (topB n k) wr HW.out hsz).mono ?_
      rintro e w1 ⟨rfl, hb1⟩
      have HKK := Lib.hid hkk; clear hkk
      have HB1 := Lib.hid hb1; clear hb1
      go_wp2
      go_ret
      exact ⟨ret_str (by rw [HKK.out, topB_all n H0.out]; rfl), HB.out.trans HB1.out⟩
theorem text_any (vx : Value) (n : Nat) (w : World) (hx : Sl w .u64 vx (toB n)) (lx : (toB n).length ≤ 100000) (ht : Tab w) : Calls Tryz.prog 144 #[vx] w (TextEnd n w) := by
  by_cases h0 : n = 0
  · subst h0; exact text_zero vx w hx
  · exact text_pos vx n h0 w hx lx ht
end Go.Proofs.YtlmfppjphblemaaGreatDoor
