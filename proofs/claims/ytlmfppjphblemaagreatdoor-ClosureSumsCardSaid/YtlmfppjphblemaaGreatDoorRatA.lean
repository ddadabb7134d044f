/- The walks of rat's small functions: the text of a number, must. -/
import Derived.Test.YtlmfppjphblemaaGreatDoorCom
import Derived.Test.YtlmfppjphblemaaGreatDoorRatL
import Derived.WalkLawsBesides
import Derived.Laws.Concat
namespace Go.Proofs.YtlmfppjphblemaaGreatDoor
open Go Go.RowKit
set_option maxRecDepth 100000

def nvS (b : Bool) (n d : ByteArray) : Value := .agg #[.bool b, .string n, .string d]
def nv (q : Rat) : Value := nvS (negQ q) (str (dec q.num.natAbs)) (str (dec q.den))
def txtS (b : Bool) (n d : ByteArray) : ByteArray :=
  let s := if b then (⟨#[45]⟩ : ByteArray) ++ n else n
  if d = ⟨#[49]⟩ then s else s ++ ((⟨#[47]⟩ : ByteArray) ++ d)
theorem ne_toList {s t : ByteArray} (h : s ≠ t) : ¬ s.toList = t.toList := by
  rw [Lib.toList_data, Lib.toList_data]; intro e; apply h; exact bts_inj e
theorem ne_list {s : ByteArray} {l : List UInt8} (h : s ≠ str l) : (s.toList == l) = false := by
  rw [beq_eq_false_iff_ne, Lib.toList_data]; intro e; apply h; rw [← e]; exact (str_bts s).symm
theorem bts_append (s t : ByteArray) : bts (s ++ t) = bts s ++ bts t := by
  show (s ++ t).data.toList = _
  rw [ByteArray.data_append, Array.toList_append]; rfl
theorem txtS_txt (q : Rat) : txtS (negQ q) (str (dec q.num.natAbs)) (str (dec q.den)) = txt q := by
  apply bts_inj
  have hd : (str (dec q.den) = ⟨#[49]⟩) ↔ q.den = 1 := by
    constructor
    · intro e
      have := congrArg bts e; rw [bts_str] at this; exact dec_inj (this.trans dec_one.symm)
    · intro e; rw [e, dec_one]; rfl
  unfold txtS txt txtL
  rw [bts_str]
  by_cases h : q.den = 1
  · rw [if_pos (hd.2 h), if_pos h]
    cases negQ q
    · simp [bts_str]
    · simp only [if_true, bts_append, bts_str]; simp [bts]
  · rw [if_neg (fun e => h (hd.1 e)), if_neg h]
    cases negQ q
    · simp only [Bool.false_eq_true, if_false, bts_append, bts_str]; simp [bts]
    · simp only [if_true, bts_append, bts_str]; simp [bts]

theorem numtext_raw (b : Bool) (n d : ByteArray) (w : World) (hn : n.size ≤ 400) (hd : d.size ≤ 400) :
    Calls Tryz.prog 149 #[nvS b n d] w fun e w' => e = .returned (.string (txtS b n d)) ∧ Below w.heap.size w w' := by
  have h1 : (n.size : Int) ≤ 8388608 := by omega
  have h2 : (d.size : Int) ≤ 8388608 := by omega
  clear hn hd
  have hbl : Below w.heap.size w (w.alloc (.cells #[.bool b, .string n, .string d] 104)) := (Below.refl _ _).alloc (Nat.le_refl _) _
  have HB := Lib.hid hbl; clear hbl
  unfold nvS
  by_cases h : d = ⟨#[49]⟩
  · subst h
    cases b <;> simp only [txtS, if_true, if_false, Bool.false_eq_true]
    all_goals
      go_enter Tryz.func149, Tryz.ntmps149
      go_wp2
      go_ret
      exact ⟨rfl, HB.out⟩
  · have h3 : (d.toList == [49]) = false := ne_list h
    cases b <;> simp only [txtS, if_true, if_false, Bool.false_eq_true] <;> rw [if_neg h] <;> clear h
    · go_enter Tryz.func149, Tryz.ntmps149
      go_wp2
      go_ret
      exact ⟨rfl, HB.out⟩
    · have h4 : (((⟨#[45]⟩ : ByteArray) ++ n).size : Int) ≤ 8388609 := by rw [ByteArray.size_append]; show ((1 + n.size : Nat) : Int) ≤ _; omega
      go_enter Tryz.func149, Tryz.ntmps149
      go_wp2
      go_ret
      exact ⟨rfl, HB.out⟩
theorem numtext_any (q : Rat) (w : World) (h : fitQ q) :
    Calls Tryz.prog 149 #[nv q] w fun e w' => e = .returned (.string (txt q)) ∧ Below w.heap.size w w' := by
  rw [← txtS_txt]
  exact numtext_raw _ _ _ w (by rw [str_size]; exact h.1) (by rw [str_size]; exact h.2)

theorem must_ok (c : ByteArray) (w : World) : Calls Tryz.prog 97 #[.string c, .int .i64 0] w fun e w' => e = .returned (.string c) ∧ w = w' := by
  go_enter Tryz.func97, Tryz.ntmps97
  go_wp2
  go_ret
  exact ⟨rfl, rfl⟩
end Go.Proofs.YtlmfppjphblemaaGreatDoor
