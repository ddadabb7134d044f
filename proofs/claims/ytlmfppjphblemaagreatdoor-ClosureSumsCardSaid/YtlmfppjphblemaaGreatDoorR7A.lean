/- The walks of abugidaref07's Sum: known, Plus, Times, Star. The walk of abugidaref07.Zeros, and a row copied. -/
import Derived.Test.YtlmfppjphblemaaGreatDoorC10
import Derived.Deep.QuietTactic
import Derived.BigQuiet
import Derived.Deep.AppendLies
import Derived.Laws.IdiomCopy
import Derived.Lib.SlBuf
namespace Go.Proofs.YtlmfppjphblemaaGreatDoor
open Go Go.RowKit Go.Deep
set_option maxRecDepth 100000

/-- The reference's struct Sum in block sb: its kind, and whether a number was too long. -/
def SumR (w : World) (sb : Nat) (k : Int) (e : Nat) : Prop := w.heap[sb]? = some (.cells #[.int .i64 k, .bool (decide (e ≠ 0))] 70 (0, 0))
theorem SumR.lt {w : World} {sb e : Nat} {k : Int} (h : SumR w sb k e) : sb < w.heap.size := (Array.getElem?_eq_some_iff.1 h).1
theorem SumR.c0 {w : World} {sb e : Nat} {k : Int} (h : SumR w sb k e) : w.cell? ⟨sb, 0, none⟩ = some (.int .i64 k) := by unfold SumR at h; simp [World.cell?, h]
theorem SumR.c1 {w : World} {sb e : Nat} {k : Int} (h : SumR w sb k e) {b : Bool} (hb : decide (e ≠ 0) = b) : w.cell? ⟨sb, 1, none⟩ = some (.bool b) := by unfold SumR at h; rw [hb] at h; simp [World.cell?, h]
theorem SumR.fz {w : World} {sb e : Nat} {k : Int} (h : SumR w sb k e) (i : Nat) : w.frozen? ⟨sb, i, none⟩ = false := by unfold SumR at h; simp [World.frozen?, h]
theorem SumR.set {w : World} {sb e e' : Nat} {k : Int} (h : SumR w sb k e) {b : Bool} (hb : decide (e' ≠ 0) = b) : SumR (w.setCell ⟨sb, 1, none⟩ (.bool b)) sb k e' := by
  unfold SumR at *; rw [hb]; simp [World.setCell, Array.getElem?_modify, h]
theorem SumR.kept {w w' : World} {sb e : Nat} {k : Int} (h : SumR w sb k e) (hb : Below w.heap.size w w') : SumR w' sb k e := by
  unfold SumR at *; rw [hb.block sb (Array.getElem?_eq_some_iff.1 h).1]; exact h
theorem SumR.drew {w : World} {sb e : Nat} {k : Int} (h : SumR w sb k e) : SumR w.drew sb k e := h
theorem SumR.new (w : World) (k : Int) : SumR (w.alloc (.cells #[.int .i64 k, .bool false] 70)) w.heap.size k 0 := heap_alloc_new w _
/-- Behind an operation on values. -/
def OpR {k : KK} (F : Prop) (e sb : Nat) (z : RK k) (w : World) (r : Ending) (w' : World) : Prop :=
  ∃ u e', r = .returned (.string u) ∧ Is k e' u z ∧ Er F e' ∧ (e' = 0 → e = 0) ∧ SumR w' sb k.1 e' ∧ w.grownBy w' (some sb)

/-- The value, or Zero where there is none. -/
def knF (k : Int) (e : Nat) (c : ByteArray) : ByteArray := if e = 0 then c else zeroF k
theorem known_any (k : Int) (e sb : Nat) (c : ByteArray) (w : World) (hs : SumR w sb k e) :
    Calls Tryz.prog 73 #[.pointer (some ⟨sb, 0, none⟩), .string c] w (fun r w' => r = .returned (.string (knF k e c)) ∧ Below w.heap.size w w') := by
  have h0 := hs.c0
  by_cases he : e = 0
  · have c1 := hs.c1 (b := false) (by simp; exact he)
    have HE := Lib.hid he; clear he hs
    go_enter Tryz.func73, Tryz.ntmps73
    go_wp2_with fail
    go_ret
    exact ⟨by unfold knF; rw [if_pos HE.out]; rfl, Below.refl _ _⟩
  · have c1 := hs.c1 (b := true) (by simp; exact he)
    have HE := Lib.hid he; clear he hs
    have hzz := fun wx => r4zero_any k wx
    go_enter Tryz.func73, Tryz.ntmps73
    go_wp2_with fail
    refine (hzz _).mono ?_
    rintro r w1 ⟨rfl, hb1⟩
    have HB := Lib.hid hb1; clear hb1
    go_wp2_with fail
    go_ret
    exact ⟨by unfold knF; rw [if_neg HE.out]; rfl, HB.out⟩

set_option maxHeartbeats 2000000 in
theorem rplus7_any (k : Int) (e sb : Nat) (a b : ByteArray) (w : World) (ha : a.size ≤ 100000) (hb : b.size ≤ 100000) (hs : SumR w sb k e) :
    Calls Tryz.prog 54 #[.pointer (some ⟨sb, 0, none⟩), .string a, .string b] w (fun r w' => r = .returned (.string (knF k (kpE e (plusF k a b)) (plusF k a b).1)) ∧ SumR w' sb k (kpE e (plusF k a b)) ∧ w.grownBy w' (some sb)) := by
  have h0 := hs.c0
  have hc := r4plus_any k a b w (by omega) (by omega)
  clear ha hb
  obtain ⟨⟨c, n⟩, hr⟩ : ∃ r, r = plusF k a b := ⟨_, rfl⟩
  rw [← hr] at hc ⊢
  have HC := Lib.hid hc; clear hc hr
  have HS := Lib.hid hs; clear hs
  go_enter Tryz.func54, Tryz.ntmps54
  go_wp2_with fail
  refine HC.out.mono ?_
  rintro r w1 ⟨rfl, hb1⟩
  have hs1 := HS.out.kept hb1
  clear h0 HS
  have HB1 := Lib.hid hb1; clear hb1
  by_cases he : e = 0
  · subst he
    have c1 := hs1.c1 (b := false) (by simp)
    have f1 := hs1.fz 1
    by_cases hn : n = 0
    · subst hn
      have hset := hs1.set (e' := 0) (b := false) (by simp)
      have HS1 := Lib.hid hset; clear hset hs1
      have hg := gb_set (gb_below HB1.out (some sb)) (p := ⟨sb, 1, none⟩) (.inl rfl) (.bool false)
      have HG := Lib.hid hg; clear hg
      go_wp2_with fail
      refine (known_any k _ sb c _ HS1.out).mono ?_
      rintro r w2 ⟨rfl, hb2⟩
      have hg2 := gb_trans HG.out (gb_below hb2 (some sb))
      have hs2 := HS1.out.kept hb2
      have HG2 := Lib.hid hg2; clear hg2 hb2
      have HS2 := Lib.hid hs2; clear hs2
      go_wp2_with fail
      go_ret
      exact ⟨rfl, HS2.out, HG2.out⟩
    · have hnz : ((n : Int) != 0) = true := by simp; exact hn
      have hset := hs1.set (e' := n) (b := true) (by simp; exact hn)
      have HS1 := Lib.hid hset; clear hset hs1
      have hg := gb_set (gb_below HB1.out (some sb)) (p := ⟨sb, 1, none⟩) (.inl rfl) (.bool true)
      have HG := Lib.hid hg; clear hg
      have HN := Lib.hid hn; clear hn
      go_wp2_with fail
      refine (known_any k _ sb c _ HS1.out).mono ?_
      rintro r w2 ⟨rfl, hb2⟩
      have hg2 := gb_trans HG.out (gb_below hb2 (some sb))
      have hs2 := HS1.out.kept hb2
      have HG2 := Lib.hid hg2; clear hg2 hb2
      have HS2 := Lib.hid hs2; clear hs2
      go_wp2_with fail
      go_ret
      have hk : kpE 0 (c, n) = n := by unfold kpE; rw [if_pos ⟨HN.out, rfl⟩]
      rw [hk]
      exact ⟨rfl, HS2.out, HG2.out⟩
  · have c1 := hs1.c1 (b := true) (by simp; exact he)
    have f1 := hs1.fz 1
    have hset := hs1.set (e' := e) (b := true) (by simp; exact he)
    have HS1 := Lib.hid hset; clear hset hs1
    have hg := gb_set (gb_below HB1.out (some sb)) (p := ⟨sb, 1, none⟩) (.inl rfl) (.bool true)
    have HG := Lib.hid hg; clear hg
    have HE := Lib.hid he; clear he
    go_wp2_with fail
    refine (known_any k _ sb c _ HS1.out).mono ?_
    rintro r w2 ⟨rfl, hb2⟩
    have hg2 := gb_trans HG.out (gb_below hb2 (some sb))
    have hs2 := HS1.out.kept hb2
    have HG2 := Lib.hid hg2; clear hg2 hb2
    have HS2 := Lib.hid hs2; clear hs2
    go_wp2_with fail
    go_ret
    have hk : kpE e (c, n) = e := by unfold kpE; rw [if_neg (fun h => HE.out h.2)]
    rw [hk]
    exact ⟨rfl, HS2.out, HG2.out⟩
theorem rplus7_is {k : KK} {F : Prop} {e sb : Nat} {a b : ByteArray} {x y : RK k} {w : World} (ha : Is k e a x) (hb : Is k e b y) (he : Er F e) (hF : F → fitV (x + y).1) (hs : SumR w sb k.1 e) :
    Calls Tryz.prog 54 #[.pointer (some ⟨sb, 0, none⟩), .string a, .string b] w (OpR F e sb (x + y) w) := by
  refine (rplus7_any k.1 e sb a b w ha.1 hb.1 hs).mono ?_
  rintro r w1 ⟨rfl, hs1, hb1⟩
  have hsz : (knF k.1 (kpE e (plusF k.1 a b)) (plusF k.1 a b).1).size ≤ 100000 := by
    have h1 := plusF_size k.1 a b
    have h2 := (Is.zero k 0).1
    unfold knF; split <;> omega
  obtain ⟨h1, h2, h3⟩ := op_step (plus_lim ha hb) he hF hsz (fun h => if_pos h)
  exact ⟨_, _, rfl, h1, h2, h3, hs1, hb1⟩

set_option maxHeartbeats 2000000 in
theorem rtimes7_any (k : Int) (e sb : Nat) (a b : ByteArray) (w : World) (ha : a.size ≤ 100000) (hb : b.size ≤ 100000) (hs : SumR w sb k e) :
    Calls Tryz.prog 55 #[.pointer (some ⟨sb, 0, none⟩), .string a, .string b] w (fun r w' => r = .returned (.string (knF k (kpE e (timesF k a b)) (timesF k a b).1)) ∧ SumR w' sb k (kpE e (timesF k a b)) ∧ w.grownBy w' (some sb)) := by
  have h0 := hs.c0
  have hc := r4times_any k a b w (by omega) (by omega)
  clear ha hb
  obtain ⟨⟨c, n⟩, hr⟩ : ∃ r, r = timesF k a b := ⟨_, rfl⟩
  rw [← hr] at hc ⊢
  have HC := Lib.hid hc; clear hc hr
  have HS := Lib.hid hs; clear hs
  go_enter Tryz.func55, Tryz.ntmps55
  go_wp2_with fail
  refine HC.out.mono ?_
  rintro r w1 ⟨rfl, hb1⟩
  have hs1 := HS.out.kept hb1
  clear h0 HS
  have HB1 := Lib.hid hb1; clear hb1
  by_cases he : e = 0
  · subst he
    have c1 := hs1.c1 (b := false) (by simp)
    have f1 := hs1.fz 1
    by_cases hn : n = 0
    · subst hn
      have hset := hs1.set (e' := 0) (b := false) (by simp)
      have HS1 := Lib.hid hset; clear hset hs1
      have hg := gb_set (gb_below HB1.out (some sb)) (p := ⟨sb, 1, none⟩) (.inl rfl) (.bool false)
      have HG := Lib.hid hg; clear hg
      go_wp2_with fail
      refine (known_any k _ sb c _ HS1.out).mono ?_
      rintro r w2 ⟨rfl, hb2⟩
      have hg2 := gb_trans HG.out (gb_below hb2 (some sb))
      have hs2 := HS1.out.kept hb2
      have HG2 := Lib.hid hg2; clear hg2 hb2
      have HS2 := Lib.hid hs2; clear hs2
      go_wp2_with fail
      go_ret
      exact ⟨rfl, HS2.out, HG2.out⟩
    · have hnz : ((n : Int) != 0) = true := by simp; exact hn
      have hset := hs1.set (e' := n) (b := true) (by simp; exact hn)
      have HS1 := Lib.hid hset; clear hset hs1
      have hg := gb_set (gb_below HB1.out (some sb)) (p := ⟨sb, 1, none⟩) (.inl rfl) (.bool true)
      have HG := Lib.hid hg; clear hg
      have HN := Lib.hid hn; clear hn
      go_wp2_with fail
      refine (known_any k _ sb c _ HS1.out).mono ?_
      rintro r w2 ⟨rfl, hb2⟩
      have hg2 := gb_trans HG.out (gb_below hb2 (some sb))
      have hs2 := HS1.out.kept hb2
      have HG2 := Lib.hid hg2; clear hg2 hb2
      have HS2 := Lib.hid hs2; clear hs2
      go_wp2_with fail
      go_ret
      have hk : kpE 0 (c, n) = n := by unfold kpE; rw [if_pos ⟨HN.out, rfl⟩]
      rw [hk]
      exact ⟨rfl, HS2.out, HG2.out⟩
  · have c1 := hs1.c1 (b := true) (by simp; exact he)
    have f1 := hs1.fz 1
    have hset := hs1.set (e' := e) (b := true) (by simp; exact he)
    have HS1 := Lib.hid hset; clear hset hs1
    have hg := gb_set (gb_below HB1.out (some sb)) (p := ⟨sb, 1, none⟩) (.inl rfl) (.bool true)
    have HG := Lib.hid hg; clear hg
    have HE := Lib.hid he; clear he
    go_wp2_with fail
    refine (known_any k _ sb c _ HS1.out).mono ?_
    rintro r w2 ⟨rfl, hb2⟩
    have hg2 := gb_trans HG.out (gb_below hb2 (some sb))
    have hs2 := HS1.out.kept hb2
    have HG2 := Lib.hid hg2; clear hg2 hb2
    have HS2 := Lib.hid hs2; clear hs2
    go_wp2_with fail
    go_ret
    have hk : kpE e (c, n) = e := by unfold kpE; rw [if_neg (fun h => HE.out h.2)]
    rw [hk]
    exact ⟨rfl, HS2.out, HG2.out⟩
theorem rtimes7_is {k : KK} {F : Prop} {e sb : Nat} {a b : ByteArray} {x y : RK k} {w : World} (ha : Is k e a x) (hb : Is k e b y) (he : Er F e) (hF : F → fitV (x * y).1) (hs : SumR w sb k.1 e) :
    Calls Tryz.prog 55 #[.pointer (some ⟨sb, 0, none⟩), .string a, .string b] w (OpR F e sb (x * y) w) := by
  refine (rtimes7_any k.1 e sb a b w ha.1 hb.1 hs).mono ?_
  rintro r w1 ⟨rfl, hs1, hb1⟩
  have hsz : (knF k.1 (kpE e (timesF k.1 a b)) (timesF k.1 a b).1).size ≤ 100000 := by
    have h1 := timesF_size k.1 a b
    have h2 := (Is.zero k 0).1
    unfold knF; split <;> omega
  obtain ⟨h1, h2, h3⟩ := op_step (times_lim ha hb) he hF hsz (fun h => if_pos h)
  exact ⟨_, _, rfl, h1, h2, h3, hs1, hb1⟩

set_option maxHeartbeats 2000000 in
theorem rstar7_any (k : Int) (e sb : Nat) (a : ByteArray) (w : World) (ha : a.size ≤ 100000) (hs : SumR w sb k e) :
    Calls Tryz.prog 68 #[.pointer (some ⟨sb, 0, none⟩), .string a] w (fun r w' => r = .returned (.string (knF k (kpE e (starF k a)) (starF k a).1)) ∧ SumR w' sb k (kpE e (starF k a)) ∧ w.grownBy w' (some sb)) := by
  have h0 := hs.c0
  have hc := r4star_any k a w (by omega)
  clear ha
  obtain ⟨⟨c, n⟩, hr⟩ : ∃ r, r = starF k a := ⟨_, rfl⟩
  rw [← hr] at hc ⊢
  have HC := Lib.hid hc; clear hc hr
  have HS := Lib.hid hs; clear hs
  go_enter Tryz.func68, Tryz.ntmps68
  go_wp2_with fail
  refine HC.out.mono ?_
  rintro r w1 ⟨rfl, hb1⟩
  have hs1 := HS.out.kept hb1
  clear h0 HS
  have HB1 := Lib.hid hb1; clear hb1
  by_cases he : e = 0
  · subst he
    have c1 := hs1.c1 (b := false) (by simp)
    have f1 := hs1.fz 1
    by_cases hn : n = 0
    · subst hn
      have hset := hs1.set (e' := 0) (b := false) (by simp)
      have HS1 := Lib.hid hset; clear hset hs1
      have hg := gb_set (gb_below HB1.out (some sb)) (p := ⟨sb, 1, none⟩) (.inl rfl) (.bool false)
      have HG := Lib.hid hg; clear hg
      go_wp2_with fail
      refine (known_any k _ sb c _ HS1.out).mono ?_
      rintro r w2 ⟨rfl, hb2⟩
      have hg2 := gb_trans HG.out (gb_below hb2 (some sb))
      have hs2 := HS1.out.kept hb2
      have HG2 := Lib.hid hg2; clear hg2 hb2
      have HS2 := Lib.hid hs2; clear hs2
      go_wp2_with fail
      go_ret
      exact ⟨rfl, HS2.out, HG2.out⟩
    · have hnz : ((n : Int) != 0) = true := by simp; exact hn
      have hset := hs1.set (e' := n) (b := true) (by simp; exact hn)
      have HS1 := Lib.hid hset; clear hset hs1
      have hg := gb_set (gb_below HB1.out (some sb)) (p := ⟨sb, 1, none⟩) (.inl rfl) (.bool true)
      have HG := Lib.hid hg; clear hg
      have HN := Lib.hid hn; clear hn
      go_wp2_with fail
      refine (known_any k _ sb c _ HS1.out).mono ?_
      rintro r w2 ⟨rfl, hb2⟩
      have hg2 := gb_trans HG.out (gb_below hb2 (some sb))
      have hs2 := HS1.out.kept hb2
      have HG2 := Lib.hid hg2; clear hg2 hb2
      have HS2 := Lib.hid hs2; clear hs2
      go_wp2_with fail
      go_ret
      have hk : kpE 0 (c, n) = n := by unfold kpE; rw [if_pos ⟨HN.out, rfl⟩]
      rw [hk]
      exact ⟨rfl, HS2.out, HG2.out⟩
  · have c1 := hs1.c1 (b := true) (by simp; exact he)
    have f1 := hs1.fz 1
    have hset := hs1.set (e' := e) (b := true) (by simp; exact he)
    have HS1 := Lib.hid hset; clear hset hs1
    have hg := gb_set (gb_below HB1.out (some sb)) (p := ⟨sb, 1, none⟩) (.inl rfl) (.bool true)
    have HG := Lib.hid hg; clear hg
    have HE := Lib.hid he; clear he
    go_wp2_with fail
    refine (known_any k _ sb c _ HS1.out).mono ?_
    rintro r w2 ⟨rfl, hb2⟩
    have hg2 := gb_trans HG.out (gb_below hb2 (some sb))
    have hs2 := HS1.out.kept hb2
    have HG2 := Lib.hid hg2; clear hg2 hb2
    have HS2 := Lib.hid hs2; clear hs2
    go_wp2_with fail
    go_ret
    have hk : kpE e (c, n) = e := by unfold kpE; rw [if_neg (fun h => HE.out h.2)]
    rw [hk]
    exact ⟨rfl, HS2.out, HG2.out⟩
theorem rstar7_is {k : KK} {F : Prop} {e sb : Nat} {a : ByteArray} {x : RK k} {w : World} (ha : Is k e a x) (he : Er F e) (hF : F → fitV (CSR.star x).1) (hs : SumR w sb k.1 e) :
    Calls Tryz.prog 68 #[.pointer (some ⟨sb, 0, none⟩), .string a] w (OpR F e sb (CSR.star x) w) := by
  refine (rstar7_any k.1 e sb a w ha.1 hs).mono ?_
  rintro r w1 ⟨rfl, hs1, hb1⟩
  have hsz : (knF k.1 (kpE e (starF k.1 a)) (starF k.1 a).1).size ≤ 100000 := by
    have h1 := starF_size k.1 a
    have h2 := (Is.zero k 0).1
    unfold knF; split <;> omega
  obtain ⟨h1, h2, h3⟩ := op_step (star_lim ha) he hF hsz (fun h => if_pos h)
  exact ⟨_, _, rfl, h1, h2, h3, hs1, hb1⟩
end Go.Proofs.YtlmfppjphblemaaGreatDoor

namespace Go.Proofs.YtlmfppjphblemaaGreatDoor
open Go Go.RowKit Go.Deep
set_option maxRecDepth 100000
set_option linter.unusedSimpArgs false

/-- The rows below c are whole, row c has d entries. -/
def LR (n c d l : Nat) : Nat := if l < c then n else if l = c then d else 0
theorem LR_end {n c : Nat} (l : Nat) : LR n c n l = LR n (c + 1) 0 l := by
  unfold LR
  by_cases e : l < c
  · rw [if_pos e, if_pos (by omega)]
  · by_cases e2 : l = c
    · rw [if_neg e, if_pos e2, if_pos (by omega)]
    · rw [if_neg e, if_neg e2, if_neg (by omega)]; split <;> rfl
/-- A matrix of zeros that is being built in block gB. -/
structure Bz (w wr : World) (gB n d m : Nat) (R : Nat → Value) (x : ByteArray) : Prop where
  om : OM wr (fun _ => False) gB 9 33 gB n R (LR n d m) (fun _ _ => x)
  gr : Below gB w wr
  wg : w.heap.size ≤ gB
namespace Bz
variable {w wr w4 wz wa : World} {gB n d m : Nat} {R : Nat → Value} {x : ByteArray}
theorem start (w : World) (x : ByteArray) : Bz w (w.alloc (.cells (madeCells #[.slice none 0 0] n) 33)) w.heap.size n 0 0 (fun _ => .slice none 0 0) x :=
  ⟨(OM.made w (fun _ => False) (by simp) w.heap.size (Nat.le_refl _) 9 33 n _).congrL fun l _ => by unfold LR; split <;> (try split) <;> first | rfl | omega, (Below.refl _ _).alloc (Nat.le_refl _) _, Nat.le_refl _⟩
theorem row (h : Bz w wr gB n d n R x) : Bz w wr gB n (d + 1) 0 R x := ⟨h.om.congrL fun l _ => LR_end l, h.gr, h.wg⟩
theorem rowz (h : Bz w wr gB n d m R x) (hd : d < n) (hg4 : wr.grownBy w4 none) (hga : w4.grownBy wz none) : OwS wz gB 9 (R d) m (fun _ => x) := by
  have h1 := ((h.om.kept hg4 (by simp)).kept hga (by simp)).row d hd
  have h2 : LR n d m d = m := by unfold LR; simp
  rw [h2] at h1; exact h1
theorem own (h : Bz w wr gB n d m R x) (hd : d < n) : ∀ j, (R d).ownBlock = some j → gB ≤ j ∧ j < wr.heap.size ∧ j ≠ gB := fun j hj =>
  ⟨(h.om.rowLt hd j hj).1, (h.om.rowLt hd j hj).2, (h.om.far d hd j hj).1⟩
theorem cellA (h : Bz w wr gB n d m R x) (hd : d < n) (hgrow : wz.grownBy wa (R d).ownBlock) {ad : Addr} {y : Value} (hb : ad.block ≤ gB) (hc : wz.cell? ad = some y) : wa.cell? ad = some y :=
  hgrow.cell hc (fun e => by have := h.own hd _ e.symm; omega)
theorem frozenA (h : Bz w wr gB n d m R x) (hd : d < n) (hg4 : wr.grownBy w4 none) (hga : w4.grownBy wz none) (hgrow : wz.grownBy wa (R d).ownBlock) : wa.frozen? ⟨gB, d, none⟩ = false := by
  have h1 := h.om.lt
  have h2 := hg4.size
  have h3 := hga.size
  exact (hgrow.frozen_far ⟨gB, d, none⟩ (by show gB < _; omega) (fun e => (h.own hd _ e.symm).2.2 rfl)).trans ((hga.frozen_far ⟨gB, d, none⟩ (by show gB < _; omega) (by simp)).trans ((hg4.frozen_far ⟨gB, d, none⟩ h1 (by simp)).trans (h.om.frozen d)))
theorem snoc {go cap : Nat} (h : Bz w wr gB n d m R x) (hd : d < n) (hg4 : wr.grownBy w4 none)
    (hga : w4.grownBy wz none) (hown : wa.ownsRow gB 9 1 (.slice (some ⟨go, 0, none⟩) (m + 1) cap) (m + 1) (strs m (fun _ => x) ++ [.string x])) (hgrow : wz.grownBy wa (R d).ownBlock) (hat : (R d).ownBlock = some go ∨ go = wz.heap.size) :
    ∃ R3, Bz w (wa.setCell ⟨gB, d, none⟩ (.slice (some ⟨go, 0, none⟩) (m + 1) cap)) gB n d (m + 1) R3 x := by
  have h1 := h.om.kept hg4 (by simp)
  have hrow : wa.ownsRow gB 9 1 (.slice (some ⟨go, 0, none⟩) (m + 1) cap) (m + 1) (strs (m + 1) (fun _ => x)) := by
    rw [← strs_snoc]; exact hown
  have hgl := h.om.lt
  have hs4 := hg4.size
  have hsa := hga.size
  refine ⟨_, ⟨((h1.appended hd hga hrow hgrow hat).congrL fun l hl => ?_).congr fun l j hl hj => ?_, ?_, h.wg⟩⟩
  · unfold LR
    by_cases e : l = d
    · subst e; simp
    · simp [e]
  · by_cases e : l = d
    · subst e; simp
    · simp [e]
  · exact ((h.gr.trans ((gb_none hg4).mono (by omega)) |>.trans ((gb_none hga).mono (by omega))).grown hgrow (by omega) (fun j hj => (h.own hd j hj).1)).setCell (Nat.le_refl _) _
end Bz
/-- Behind Zeros. -/
def ZerE (n : Nat) (x : ByteArray) (w : World) (r : Ending) (w' : World) : Prop :=
  ∃ g R, r = .returned (.slice (some ⟨g, 0, none⟩) n n) ∧ OM w' (fun _ => False) g 9 33 g n R (fun _ => n) (fun _ _ => x) ∧ w.heap.size ≤ g ∧ Below w.heap.size w w'

set_option maxHeartbeats 8000000 in
theorem zeros_any (k : Int) {n : Nat} (w : World) (hn : n ≤ 60) : Calls Tryz.prog 67 #[.int .i64 k, .int .i64 (n : Int)] w (ZerE n (zeroF k) w) := by
  have hmk2 := run_make_row' (P := Tryz.prog) 22 33 (.slice none 0 0) 24 Tryz.underlying22 info_strs rfl .i64 .i64 n (by omega) (by omega)
  have hst := Bz.start (n := n) w (zeroF k)
  have HST := Lib.hid hst; clear hst
  go_enter Tryz.func67, Tryz.ntmps67
  go_wp2_with fail
  clear hmk2
  obtain ⟨gB, hgB⟩ : ∃ gB, gB = w.heap.size := ⟨_, rfl⟩
  rw [← hgB] at HST
  rw [← hgB]
  have HGB := Lib.hid hgB; clear hgB
  -- ████ for i
  go_loopw [6, 7] (fun i _ wr => ∃ (d : Nat) (R2 : Nat → Value), d ≤ n ∧ i = .int .i64 (d : Int) ∧ Bz w wr gB n d 0 R2 (zeroF k)) (fun i _ _ => n - (intOf i).toNat)
  case atStart => exact ⟨0, _, Nat.zero_le _, rfl, HST.out⟩
  case round =>
    obtain ⟨d, R2, hd, rfl, hbl⟩ := hrel
    clear HST
    have HBL := Lib.hid hbl; clear hbl
    by_cases hlt : d < n
    · have hdz : (d : Int) < (n : Int) := by omega
      have hdz0 : (0 : Int) ≤ (d : Int) := by omega
      go_wp2_with fail
      -- ████ for j
      go_loopw [7] (fun i wr => ∃ (m : Nat) (R2 : Nat → Value), m ≤ n ∧ i = .int .i64 (m : Int) ∧ Bz w wr gB n d m R2 (zeroF k)) (fun i _ => n - (intOf i).toNat)
      case atStart => exact ⟨0, R2, Nat.zero_le _, rfl, HBL.out⟩
      case round =>
        obtain ⟨m, R3, hm2, rfl, hbl⟩ := hrel
        clear HBL
        have HBL := Lib.hid hbl; clear hbl
        by_cases hlt2 : m < n
        · have hmz : (m : Int) < (n : Int) := by omega
          have hmz0 : (0 : Int) ≤ (m : Int) := by omega
          obtain ⟨lv, hlv⟩ : ∃ lv, lv = R3 d := ⟨_, rfl⟩
          have s1 := HBL.out.om.cell hlt
          rw [← hlv] at s1
          obtain ⟨i0, hi0, hz0, hz1, hz2⟩ := info_parts info_str
          have hgl := HBL.out.om.lt
          have HLV := Lib.hid hlv; clear hlv
          have hd1 := drew_gb wr none
          have hS0 : wr.drew.cell? ⟨gB, d, none⟩ = some lv := s1
          have hcw := fun wk' => r4zero_any k wk'
          go_wp2_with fail
          refine region_heldK (fun wk' => wk'.cell? ⟨gB, d, none⟩ = some lv) 11 (by kernel_rfl) ?_
          refine AnyK.take (i := 0) (v := ?v0) rfl (by kernel_rfl) (by kernel_rfl) (by kernel_rfl) (by kernel_rfl) (by kernel_rfl) (fun _ _ _ h => h) hS0 (Or.inl ⟨by kernel_rfl, ?hy0⟩) ?rest0
          case hy0 => rintro wk s1; go_simp; try with_reducible rfl
          try simp only [Act.put, List.setIfInBounds_toArray, List.set_cons_zero, List.set_cons_succ, List.getElem_toArray, List.getElem_cons_succ, List.getElem_cons_zero]
          refine AnyK.take (i := 1) (v := ?v1) rfl (by kernel_rfl) (by kernel_rfl) (by kernel_rfl) (by kernel_rfl) (by kernel_rfl) (fun _ _ _ h => h) hS0 (Or.inl ⟨by kernel_rfl, ?hy1⟩) ?rest1
          case hy1 => rintro wk s1; go_simp; try with_reducible rfl
          try simp only [Act.put, List.setIfInBounds_toArray, List.set_cons_zero, List.set_cons_succ, List.getElem_toArray, List.getElem_cons_succ, List.getElem_cons_zero]
          refine AnyK.take (i := 2) (v := ?v2) rfl (by kernel_rfl) (by kernel_rfl) (by kernel_rfl) (by kernel_rfl) (by kernel_rfl) (fun _ _ _ h => h) hS0 (Or.inl ⟨by kernel_rfl, ?hy2⟩) ?rest2
          case hy2 => rintro wk s1; go_simp; try with_reducible rfl
          try simp only [Act.put, List.setIfInBounds_toArray, List.set_cons_zero, List.set_cons_succ, List.getElem_toArray, List.getElem_cons_succ, List.getElem_cons_zero]
          refine AnyK.take (i := 3) (v := ?v3) rfl (by kernel_rfl) (by kernel_rfl) (by kernel_rfl) (by kernel_rfl) (by kernel_rfl) (fun _ _ _ h => h) hS0 (Or.inl ⟨by kernel_rfl, ?hy3⟩) ?rest3
          case hy3 => rintro wk s1; go_simp; try with_reducible rfl
          try simp only [Act.put, List.setIfInBounds_toArray, List.set_cons_zero, List.set_cons_succ, List.getElem_toArray, List.getElem_cons_succ, List.getElem_cons_zero]
          refine AnyK.take (i := 4) (v := ?v4) rfl (by kernel_rfl) (by kernel_rfl) (by kernel_rfl) (by kernel_rfl) (by kernel_rfl) (fun _ _ _ h => h) hS0 (Or.inl ⟨by kernel_rfl, ?hy4⟩) ?rest4
          case hy4 => rintro wk s1; go_simp; try with_reducible rfl
          try simp only [Act.put, List.setIfInBounds_toArray, List.set_cons_zero, List.set_cons_succ, List.getElem_toArray, List.getElem_cons_succ, List.getElem_cons_zero]
          refine AnyK.take (i := 5) (v := ?v5) rfl (by kernel_rfl) (by kernel_rfl) (by kernel_rfl) (by kernel_rfl) (by kernel_rfl) (fun _ _ _ h => h) hS0 (Or.inl ⟨by kernel_rfl, ?hy5⟩) ?rest5
          case hy5 => rintro wk s1; go_simp; try with_reducible rfl
          try simp only [Act.put, List.setIfInBounds_toArray, List.set_cons_zero, List.set_cons_succ, List.getElem_toArray, List.getElem_cons_succ, List.getElem_cons_zero]
          refine AnyK.take (i := 6) (v := ?v6) rfl (by kernel_rfl) (by kernel_rfl) (by kernel_rfl) (by kernel_rfl) (by kernel_rfl) (fun _ _ _ h => h) hS0 (Or.inl ⟨by kernel_rfl, ?hy6⟩) ?rest6
          case hy6 => rintro wk s1; go_simp; try with_reducible rfl
          try simp only [Act.put, List.setIfInBounds_toArray, List.set_cons_zero, List.set_cons_succ, List.getElem_toArray, List.getElem_cons_succ, List.getElem_cons_zero]
          refine AnyK.one (i := 7) rfl (by kernel_rfl) (by rfl) (fun K hK => ?_)
          go_simp
          refine (hcw _).mono ?_
          rintro r w4 ⟨rfl, hb4⟩
          have hg4 : wr.grownBy w4 none := gb_trans hd1 (gb_below hb4 none)
          have hS4 : w4.cell? ⟨gB, d, none⟩ = some lv := hg4.cell s1 (by simp)
          refine hK.out _ _ (.inr hS4) ?_
          clear hK K
          try simp only [Act.put, List.setIfInBounds_toArray, List.set_cons_zero, List.set_cons_succ]
          refine AnyK.one (i := 8) rfl (by kernel_rfl) (by rfl) (fun K hK => ?_)
          go_simp
          obtain ⟨wz, hwz⟩ : ∃ wz, wz = w4.alloc (.cells #[.string (zeroF k)] 9) := ⟨_, rfl⟩
          have hga : w4.grownBy wz none := by rw [hwz]; exact World.grownBy_alloc w4 _ none
          have hza : wz.heap.size = w4.heap.size + 1 := by rw [hwz]; simp
          have hnew : wz.cell? ⟨w4.heap.size, 0, none⟩ = some (.string (zeroF k)) := by rw [hwz]; exact cell_new w4 _ _ 0 _ rfl
          rw [← hwz]
          have HWZ := Lib.hid hwz; clear hwz
          have hSz := hga.cell hS4 (by simp)
          refine hK.out _ _ (.inr hSz) ?_
          clear hK K
          try simp only [Act.put, List.setIfInBounds_toArray, List.set_cons_zero, List.set_cons_succ, List.getElem_toArray, List.getElem_cons_succ, List.getElem_cons_zero]
          have hrz := HBL.out.rowz hlt hg4 hga
          rw [← HLV.out] at hrz
          have hwsz : gB ≤ wz.heap.size := by have := hg4.size; omega
          refine AnyK.one (i := 9) rfl (by kernel_rfl) (by rfl) (fun K hK => ?_)
          refine wp_append_lies _ (.tmp 25) (.tmp 28) 33 rfl gB 9 i0 (.string ⟨#[]⟩) 1 16 Tryz.underlying33 hi0 hz0 hz1 hz2 rfl (by omega) lv m _ (by simp [Act.eval]) hrz ⟨w4.heap.size, 0, none⟩ 1 1 [.string (zeroF k)] (by simp [Act.eval]) rfl (news1 hnew) (one_str _) (by omega) (by unfold maxLen; omega) (by omega) hwsz _ rfl ?_
          intro go cap' wa hown hgrow hat hlt'
          have hgrow' : wz.grownBy wa (R3 d).ownBlock := by rw [← HLV.out]; exact hgrow
          have hSa := HBL.out.cellA hlt hgrow' (by first | exact Nat.le_refl _ | (apply Nat.le_of_lt; assumption)) (hSz)
          have hfa := HBL.out.frozenA hlt hg4 hga hgrow'
          refine hK.out _ _ (.inr hSa) ?_
          clear hK K
          try simp only [Act.put, List.setIfInBounds_toArray, List.set_cons_zero, List.set_cons_succ, List.getElem_toArray, List.getElem_cons_succ, List.getElem_cons_zero]
          refine AnyK.take (i := 10) (v := ?ve25_10) rfl (by kernel_rfl) (by kernel_rfl) (by kernel_rfl) (by kernel_rfl) (by kernel_rfl) (fun _ _ _ h => h) hSa (Or.inl ⟨by kernel_rfl, ?hye25_10⟩) ?reste25_10
          case hye25_10 => rintro wk s1; go_simp; try with_reducible rfl
          try simp only [Act.put, List.setIfInBounds_toArray, List.set_cons_zero, List.set_cons_succ, List.getElem_toArray, List.getElem_cons_succ, List.getElem_cons_zero]
          have g0 := hSa
          refine AnyK.one (i := 11) rfl (by kernel_rfl) (by rfl) (fun K hK => ?_)
          go_simp
          refine hK.out _ _ (.inl rfl) (AnyK.done (by kernel_rfl) ?_ _)
          clear hK K
          go_wp2_with fail
          go_roundw
          case rel =>
            obtain ⟨R4, h1⟩ := HBL.out.snoc hlt hg4 hga hown (by rw [← HLV.out]; exact hgrow) (by rw [← HLV.out]; exact hat)
            exact ⟨m + 1, R4, by omega, by go_num, h1⟩
          case measure => simp [intOf]; omega
        · have hmn : m = n := by omega
          have hgt2 : ¬ ((m : Int) < (n : Int)) := by omega
          have HMN := Lib.hid hmn; clear hmn
          go_wp2_with fail
          go_roundw
          case rel =>
            refine ⟨d + 1, R3, by omega, by go_num, ?_⟩
            have h1 := HBL.out
            rw [HMN.out] at h1; exact h1.row
          case measure => simp [intOf]; omega
    · have hdn : d = n := by omega
      have hgt2 : ¬ ((d : Int) < (n : Int)) := by omega
      have HDN := Lib.hid hdn; clear hdn
      go_wp2_with fail
      go_ret
      have h1 := HBL.out
      rw [HDN.out] at h1
      exact ⟨gB, R2, rfl, h1.om.congrL fun l hl => (by unfold LR; rw [if_pos hl]), h1.wg, by have h2 := h1.gr; rw [HGB.out] at h2; exact h2⟩

/-- A row copied into another. -/
theorem OM.copied {Z : Nat → Prop} {B g n : Nat} {R : Nat → Value} {i b cap : Nat} (hi : i < n) (hR : R i = .slice (some ⟨b, 0, none⟩) n cap) (U : Nat → ByteArray) :
    ∀ (m o : Nat) (w : World) (X : Nat → Nat → ByteArray), o + m = n → OM w Z B 9 33 g n R (fun _ => n) X →
      OM (w.setCells b o ((List.range' o m).map fun j => .string (U j))) Z B 9 33 g n R (fun _ => n) (fun l j => if l = i ∧ o ≤ j then U j else X l j)
  | 0, o, w, X, ho, h => h.congr fun l j hl hj => by rw [if_neg (by omega)]
  | m + 1, o, w, X, ho, h => by
    have h1 := h.stored hi (show o < n by omega) hR (U o)
    have h2 := OM.copied hi hR U m (o + 1) _ _ (by omega) h1
    refine OM.congr h2 fun l j hl hj => ?_
    by_cases e : l = i
    · by_cases e2 : j = o
      · rw [if_neg (by omega), if_pos ⟨e, e2⟩, if_pos (by omega), e2]
      · by_cases e3 : o ≤ j
        · rw [if_pos (by omega), if_pos ⟨e, e3⟩]
        · rw [if_neg (by omega), if_neg (fun h => e2 h.2), if_neg (fun h => e3 h.2)]
    · rw [if_neg (fun h => e h.1), if_neg (fun h => e h.1), if_neg (fun h => e h.1)]
end Go.Proofs.YtlmfppjphblemaaGreatDoor
