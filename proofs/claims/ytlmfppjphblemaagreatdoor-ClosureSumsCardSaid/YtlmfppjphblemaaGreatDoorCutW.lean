/- The walks of strings.CutPrefix at "-" and strings.Cut at "/": what they return, as lists of bytes. -/
import Derived.Test.YtlmfppjphblemaaGreatDoorRatA
import Derived.Test.YtlmfppjphblemaaGreatDoorShelf
import Derived.Lib.Bytealg
import Derived.Deep.QuietTactic
import Derived.BigQuiet
namespace Go.Proofs.YtlmfppjphblemaaGreatDoor
open Go Go.RowKit
set_option maxRecDepth 100000

theorem indexByte_eq (l : List UInt8) : Lib.indexByte l 47 = if hasS l then ((upTo l).length : Int) else -1 := by
  induction l with
  | nil => rfl
  | cons a l ih =>
    by_cases ha : a = 47
    · subst ha; simp [Lib.indexByte, hasS, upTo]
    · have e1 : hasS (a :: l) = hasS l := by simp [hasS, ha]
      have e2 : upTo (a :: l) = a :: upTo l := by simp [upTo, ha]
      have e3 : (a == 47) = false := by rw [beq_eq_false_iff_ne]; exact ha
      rw [e1, e2, Lib.indexByte, e3, ih]
      cases hasS l
      · rfl
      · simp only [if_true, List.length_cons, Bool.false_eq_true, if_false]
        rw [if_neg (by rw [beq_iff_eq]; omega)]; omega
theorem bts_extract (s : ByteArray) (a b : Nat) : bts (s.extract a b) = ((bts s).take b).drop a := by
  show (s.extract a b).data.toList = _
  rw [ByteArray.data_extract, Array.toList_extract, List.extract_eq_take_drop]; exact List.drop_take.symm
theorem ret_sst {s s' t t' : ByteArray} {b : Bool} (h : s = s') (h' : t = t') : Ending.returned (.tuple #[.string s, .string t, .bool b]) = .returned (.tuple #[.string s', .string t', .bool b]) := by rw [h, h']
theorem idx_any (s : ByteArray) (w : World) :
    Calls Tryz.prog 152 #[.string s, .string ⟨#[47]⟩] w fun e w' => e = .returned (.int .i64 (Lib.indexByte (bts s) 47)) ∧ w = w' := by
  by_cases h : s = ⟨#[47]⟩
  · subst h
    go_enter Tryz.func152, Tryz.ntmps152
    go_wp2
    go_ret
    exact ⟨rfl, rfl⟩
  · have h3 : (s.toList == [47]) = false := ne_list h
    have h4 : ([47] == s.toList) = false := by rw [Bool.beq_comm]; exact h3
    have hc := Tryz.stringslite_IndexByte s 47 w
    have HC := Lib.hid hc; clear hc h
    go_enter Tryz.func152, Tryz.ntmps152
    go_wp2_with fail
    refine HC.out.mono ?_
    rintro e w' ⟨rfl, rfl⟩
    go_wp2
    go_ret
    exact ⟨rfl, rfl⟩
theorem lcut_any (s : ByteArray) (w : World) (hs : s.size ≤ 9223372036854775807) :
    Calls Tryz.prog 142 #[.string s, .string ⟨#[47]⟩] w fun e w' => e = .returned (.tuple #[.string (str (upTo (bts s))), .string (str (if hasS (bts s) then pastL (bts s) else [])), .bool (hasS (bts s))]) ∧ Below w.heap.size w w' := by
  have hc := idx_any s w
  rw [indexByte_eq] at hc
  cases h : hasS (bts s)
  · rw [h] at hc
    simp only [Bool.false_eq_true, if_false] at hc
    rw [hasS_not _ h, str_bts]
    have HC := Lib.hid hc; clear hc h
    go_enter Tryz.func142, Tryz.ntmps142
    go_wp2_with fail
    refine HC.out.mono ?_
    rintro e w' ⟨rfl, rfl⟩
    go_wp2
    go_ret3
    exact ⟨rfl, Below.refl _ _⟩
  · rw [h] at hc
    simp only [if_true] at hc
    have hsp := hasS_split _ h
    have hlen := congrArg List.length hsp
    rw [bts_len, List.length_append, List.length_cons] at hlen
    generalize hi : (upTo (bts s)).length = i at hc hlen
    have c1 : (0 : Int) ≤ (i : Int) := by omega
    have c2 : (i : Int) ≤ (s.size : Int) := by omega
    have c3 : (0 : Int) ≤ (i : Int) + 1 := by omega
    have c4 : (i : Int) + 1 ≤ (s.size : Int) := by omega
    have c5 : IntKind.i64.wrap ((i : Int) + 1) = (i : Int) + 1 := by rw [IntKind.wrap_i64]; omega
    have he1 : s.extract 0 i = str (upTo (bts s)) := by
      apply bts_inj; rw [bts_extract, bts_str]; conv => lhs; rw [hsp]
      rw [← hi, List.take_left, List.drop_zero]
    have he2 : s.extract (i + 1) s.size = str (pastL (bts s)) := by
      apply bts_inj; rw [bts_extract, bts_str, List.take_of_length_le (by rw [bts_len]; omega)]; conv => lhs; rw [hsp]
      rw [← hi, ← List.drop_drop, List.drop_left]; rfl
    have HC := Lib.hid hc; clear hc h
    have HE1 := Lib.hid he1; clear he1
    have HE2 := Lib.hid he2; clear he2 hsp hi hlen hs
    go_enter Tryz.func142, Tryz.ntmps142
    go_wp2_with fail
    refine HC.out.mono ?_
    rintro e w' ⟨rfl, rfl⟩
    go_wp2_with fail
    go_quiet (fail)
    go_wp2
    go_ret3
    exact ⟨ret_sst HE1.out HE2.out, below_drewN (Below.refl _ _) _⟩
theorem cut_any (s : ByteArray) (w : World) (hs : s.size ≤ 9223372036854775807) :
    Calls Tryz.prog 118 #[.string s, .string ⟨#[47]⟩] w fun e w' => e = .returned (.tuple #[.string (str (upTo (bts s))), .string (str (if hasS (bts s) then pastL (bts s) else [])), .bool (hasS (bts s))]) ∧ Below w.heap.size w w' := by
  have hc := lcut_any s w hs
  generalize str (upTo (bts s)) = x at hc ⊢
  generalize str (if hasS (bts s) then pastL (bts s) else []) = y at hc ⊢
  generalize hasS (bts s) = z at hc ⊢
  have HC := Lib.hid hc; clear hc hs
  go_enter Tryz.func118, Tryz.ntmps118
  go_wp2_with fail
  refine HC.out.mono ?_
  rintro e w' ⟨rfl, hb⟩
  have HB := Lib.hid hb; clear hb
  go_wp2
  go_ret3
  exact ⟨rfl, HB.out⟩
theorem cutp_any (s : ByteArray) (w : World) :
    Calls Tryz.prog 117 #[.string s, .string ⟨#[45]⟩] w fun e w' => e = .returned (.tuple #[.string (str (restL (bts s))), .bool (isNeg (bts s))]) ∧ w = w' := by
  refine (Tryz.strings_CutPrefix s ⟨#[45]⟩ w).mono ?_
  rintro e w' ⟨rfl, rfl⟩
  refine ⟨?_, rfl⟩
  have h1 : Lib.hasPrefix s.data.toList [45] = isNeg (bts s) := by
    show Lib.hasPrefix (bts s) [45] = _
    cases bts s with
    | nil => rfl
    | cons a l =>
      show ((45 : UInt8) == a && true) = (a == 45)
      rw [Bool.and_true]; exact BEq.comm
  have h2 : Lib.trimPrefix s.data.toList [45] = restL (bts s) := by
    show Lib.trimPrefix (bts s) [45] = _
    unfold Lib.trimPrefix restL
    have h1' : Lib.hasPrefix (bts s) [45] = isNeg (bts s) := h1
    rw [h1']; split
    · cases bts s <;> rfl
    · rfl
  show Ending.returned (.tuple #[.string ⟨(Lib.trimPrefix s.data.toList [45]).toArray⟩, .bool (Lib.hasPrefix s.data.toList [45])]) = _
  rw [h1, h2]; rfl
end Go.Proofs.YtlmfppjphblemaaGreatDoor
