/- The walks of abugidalaw07's sum: plus, times. -/
import Derived.Test.YtlmfppjphblemaaGreatDoorC10
import Derived.Deep.QuietTactic
import Derived.BigQuiet
namespace Go.Proofs.YtlmfppjphblemaaGreatDoor
open Go Go.RowKit Go.Deep
set_option maxRecDepth 100000

/-- The law's struct sum in block sb: its kind, and whether a number was too long. -/
def SumL (w : World) (sb : Nat) (k : Int) (e : Nat) : Prop := w.heap[sb]? = some (.cells #[.int .i64 k, .bool (decide (e ≠ 0))] 45 (0, 0))
theorem SumL.lt {w : World} {sb e : Nat} {k : Int} (h : SumL w sb k e) : sb < w.heap.size := (Array.getElem?_eq_some_iff.1 h).1
theorem SumL.c0 {w : World} {sb e : Nat} {k : Int} (h : SumL w sb k e) : w.cell? ⟨sb, 0, none⟩ = some (.int .i64 k) := by unfold SumL at h; simp [World.cell?, h]
theorem SumL.c1 {w : World} {sb e : Nat} {k : Int} (h : SumL w sb k e) {b : Bool} (hb : decide (e ≠ 0) = b) : w.cell? ⟨sb, 1, none⟩ = some (.bool b) := by unfold SumL at h; rw [hb] at h; simp [World.cell?, h]
theorem SumL.fz {w : World} {sb e : Nat} {k : Int} (h : SumL w sb k e) (i : Nat) : w.frozen? ⟨sb, i, none⟩ = false := by unfold SumL at h; simp [World.frozen?, h]
theorem SumL.set {w : World} {sb e e' : Nat} {k : Int} (h : SumL w sb k e) {b : Bool} (hb : decide (e' ≠ 0) = b) : SumL (w.setCell ⟨sb, 1, none⟩ (.bool b)) sb k e' := by
  unfold SumL at *; rw [hb]; simp [World.setCell, Array.getElem?_modify, h]
theorem SumL.kept {w w' : World} {sb e : Nat} {k : Int} (h : SumL w sb k e) (hb : Below w.heap.size w w') : SumL w' sb k e := by
  unfold SumL at *; rw [hb.block sb (Array.getElem?_eq_some_iff.1 h).1]; exact h
theorem SumL.same {w : World} {sb e e' : Nat} {k : Int} (h : SumL w sb k e) (he : decide (e ≠ 0) = decide (e' ≠ 0)) : SumL w sb k e' := by unfold SumL at *; rw [← he]; exact h
theorem SumL.drew {w : World} {sb e : Nat} {k : Int} (h : SumL w sb k e) : SumL w.drew sb k e := h
/-- Behind an operation on values. -/
def OpL {k : KK} (F : Prop) (e sb : Nat) (z : RK k) (w : World) (r : Ending) (w' : World) : Prop :=
  ∃ u e', r = .returned (.string u) ∧ Is k e' u z ∧ Er F e' ∧ (e' = 0 → e = 0) ∧ SumL w' sb k.1 e' ∧ w.grownBy w' (some sb)

theorem lplus_any (k : Int) (e sb : Nat) (a b : ByteArray) (w : World) (ha : a.size ≤ 100000) (hb : b.size ≤ 100000) (ht : Tab w) (hs : SumL w sb k e) :
    Calls Tryz.prog 35 #[.pointer (some ⟨sb, 0, none⟩), .string a, .string b] w (fun r w' => r = .returned (.string (plusF k a b).1) ∧ SumL w' sb k (kpE e (plusF k a b)) ∧ w.grownBy w' (some sb)) := by
  have h0 := hs.c0
  have hc := semiplus_any k a b w (by omega) (by omega) ht
  clear ht ha hb
  obtain ⟨⟨c, n⟩, hr⟩ : ∃ r, r = plusF k a b := ⟨_, rfl⟩
  rw [← hr] at hc ⊢
  have HC := Lib.hid hc; clear hc hr
  have HS := Lib.hid hs; clear hs
  go_enter Tryz.func35, Tryz.ntmps35
  go_wp2_with fail
  refine HC.out.mono ?_
  rintro r w1 ⟨rfl, hb1⟩
  have hs1 := HS.out.kept hb1
  clear h0 HS
  have HB1 := Lib.hid hb1; clear hb1
  by_cases he : e = 0
  · subst he
    have c1 := hs1.c1 (b := false) (by simp)
    have f1 := hs1.fz 1
    by_cases hn : n = 0
    · subst hn
      have hset := hs1.set (e' := 0) (b := false) (by simp)
      have HS1 := Lib.hid hset; clear hset hs1
      have hg := gb_set (gb_below HB1.out (some sb)) (p := ⟨sb, 1, none⟩) (.inl rfl) (.bool false)
      have HG := Lib.hid hg; clear hg
      go_wp2_with fail
      go_ret
      exact ⟨rfl, HS1.out, HG.out⟩
    · have hnz : ((n : Int) != 0) = true := by simp; exact hn
      have hset := hs1.set (e' := n) (b := true) (by simp; exact hn)
      have HS1 := Lib.hid hset; clear hset hs1
      have hg := gb_set (gb_below HB1.out (some sb)) (p := ⟨sb, 1, none⟩) (.inl rfl) (.bool true)
      have HG := Lib.hid hg; clear hg
      have HN := Lib.hid hn; clear hn
      go_wp2_with fail
      go_ret
      refine ⟨rfl, ?_, HG.out⟩
      unfold kpE; rw [if_pos ⟨HN.out, rfl⟩]; exact HS1.out
  · have c1 := hs1.c1 (b := true) (by simp; exact he)
    have f1 := hs1.fz 1
    have hset := hs1.set (e' := e) (b := true) (by simp; exact he)
    have HS1 := Lib.hid hset; clear hset hs1
    have hg := gb_set (gb_below HB1.out (some sb)) (p := ⟨sb, 1, none⟩) (.inl rfl) (.bool true)
    have HG := Lib.hid hg; clear hg
    have HE := Lib.hid he; clear he
    go_wp2_with fail
    go_ret
    refine ⟨rfl, ?_, HG.out⟩
    unfold kpE; rw [if_neg (fun h => HE.out h.2)]; exact HS1.out
theorem lplus_is {k : KK} {F : Prop} {e sb : Nat} {a b : ByteArray} {x y : RK k} {w : World} (ha : Is k e a x) (hb : Is k e b y) (he : Er F e) (hF : F → fitV (x + y).1) (ht : Tab w) (hs : SumL w sb k.1 e) :
    Calls Tryz.prog 35 #[.pointer (some ⟨sb, 0, none⟩), .string a, .string b] w (OpL F e sb (x + y) w) := by
  refine (lplus_any k.1 e sb a b w ha.1 hb.1 ht hs).mono ?_
  rintro r w1 ⟨rfl, hs1, hb1⟩
  obtain ⟨h1, h2, h3⟩ := op_step (plus_lim ha hb) he hF (by have := plusF_size k.1 a b; omega) (fun _ => rfl)
  exact ⟨_, _, rfl, h1, h2, h3, hs1, hb1⟩

theorem ltimes_any (k : Int) (e sb : Nat) (a b : ByteArray) (w : World) (ha : a.size ≤ 100000) (hb : b.size ≤ 100000) (ht : Tab w) (hs : SumL w sb k e) :
    Calls Tryz.prog 36 #[.pointer (some ⟨sb, 0, none⟩), .string a, .string b] w (fun r w' => r = .returned (.string (timesF k a b).1) ∧ SumL w' sb k (kpE e (timesF k a b)) ∧ w.grownBy w' (some sb)) := by
  have h0 := hs.c0
  have hc := semitimes_any k a b w (by omega) (by omega) ht
  clear ht ha hb
  obtain ⟨⟨c, n⟩, hr⟩ : ∃ r, r = timesF k a b := ⟨_, rfl⟩
  rw [← hr] at hc ⊢
  have HC := Lib.hid hc; clear hc hr
  have HS := Lib.hid hs; clear hs
  go_enter Tryz.func36, Tryz.ntmps36
  go_wp2_with fail
  refine HC.out.mono ?_
  rintro r w1 ⟨rfl, hb1⟩
  have hs1 := HS.out.kept hb1
  clear h0 HS
  have HB1 := Lib.hid hb1; clear hb1
  by_cases he : e = 0
  · subst he
    have c1 := hs1.c1 (b := false) (by simp)
    have f1 := hs1.fz 1
    by_cases hn : n = 0
    · subst hn
      have hset := hs1.set (e' := 0) (b := false) (by simp)
      have HS1 := Lib.hid hset; clear hset hs1
      have hg := gb_set (gb_below HB1.out (some sb)) (p := ⟨sb, 1, none⟩) (.inl rfl) (.bool false)
      have HG := Lib.hid hg; clear hg
      go_wp2_with fail
      go_ret
      exact ⟨rfl, HS1.out, HG.out⟩
    · have hnz : ((n : Int) != 0) = true := by simp; exact hn
      have hset := hs1.set (e' := n) (b := true) (by simp; exact hn)
      have HS1 := Lib.hid hset; clear hset hs1
      have hg := gb_set (gb_below HB1.out (some sb)) (p := ⟨sb, 1, none⟩) (.inl rfl) (.bool true)
      have HG := Lib.hid hg; clear hg
      have HN := Lib.hid hn; clear hn
      go_wp2_with fail
      go_ret
      refine ⟨rfl, ?_, HG.out⟩
      unfold kpE; rw [if_pos ⟨HN.out, rfl⟩]; exact HS1.out
  · have c1 := hs1.c1 (b := true) (by simp; exact he)
    have f1 := hs1.fz 1
    have hset := hs1.set (e' := e) (b := true) (by simp; exact he)
    have HS1 := Lib.hid hset; clear hset hs1
    have hg := gb_set (gb_below HB1.out (some sb)) (p := ⟨sb, 1, none⟩) (.inl rfl) (.bool true)
    have HG := Lib.hid hg; clear hg
    have HE := Lib.hid he; clear he
    go_wp2_with fail
    go_ret
    refine ⟨rfl, ?_, HG.out⟩
    unfold kpE; rw [if_neg (fun h => HE.out h.2)]; exact HS1.out
theorem ltimes_is {k : KK} {F : Prop} {e sb : Nat} {a b : ByteArray} {x y : RK k} {w : World} (ha : Is k e a x) (hb : Is k e b y) (he : Er F e) (hF : F → fitV (x * y).1) (ht : Tab w) (hs : SumL w sb k.1 e) :
    Calls Tryz.prog 36 #[.pointer (some ⟨sb, 0, none⟩), .string a, .string b] w (OpL F e sb (x * y) w) := by
  refine (ltimes_any k.1 e sb a b w ha.1 hb.1 ht hs).mono ?_
  rintro r w1 ⟨rfl, hs1, hb1⟩
  obtain ⟨h1, h2, h3⟩ := op_step (times_lim ha hb) he hF (by have := timesF_size k.1 a b; omega) (fun _ => rfl)
  exact ⟨_, _, rfl, h1, h2, h3, hs1, hb1⟩
end Go.Proofs.YtlmfppjphblemaaGreatDoor
