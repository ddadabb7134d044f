/- The walks of closure's sums: keep, plus, times, star. The walk of closure's over: one elimination step on the table's rows. -/
import Derived.Test.YtlmfppjphblemaaGreatDoorC2
import Derived.Deep.QuietTactic
import Derived.BigQuiet
import Derived.Deep.RegionHeld2
import Derived.Deep.LoopGhost
import Derived.Deep.Light
import Derived.OwnWalk
namespace Go.Proofs.YtlmfppjphblemaaGreatDoor
open Go Go.RowKit Go.Deep
set_option maxRecDepth 100000

/-- The struct sums in block sb: its kind and its error. -/
def SumB (w : World) (sb : Nat) (k : Int) (e : Nat) : Prop := w.heap[sb]? = some (.cells #[.int .i64 k, .int .i64 (e : Int)] 64 (0, 0))
theorem SumB.lt {w : World} {sb e : Nat} {k : Int} (h : SumB w sb k e) : sb < w.heap.size := (Array.getElem?_eq_some_iff.1 h).1
theorem SumB.c0 {w : World} {sb e : Nat} {k : Int} (h : SumB w sb k e) : w.cell? ⟨sb, 0, none⟩ = some (.int .i64 k) := by unfold SumB at h; simp [World.cell?, h]
theorem SumB.c1 {w : World} {sb e : Nat} {k : Int} (h : SumB w sb k e) : w.cell? ⟨sb, 1, none⟩ = some (.int .i64 (e : Int)) := by unfold SumB at h; simp [World.cell?, h]
theorem SumB.fz {w : World} {sb e : Nat} {k : Int} (h : SumB w sb k e) (i : Nat) : w.frozen? ⟨sb, i, none⟩ = false := by unfold SumB at h; simp [World.frozen?, h]
theorem SumB.set {w : World} {sb e : Nat} {k : Int} (h : SumB w sb k e) (e' : Nat) : SumB (w.setCell ⟨sb, 1, none⟩ (.int .i64 (e' : Int))) sb k e' := by
  unfold SumB at *; simp [World.setCell, Array.getElem?_modify, h]
theorem SumB.kept {w w' : World} {sb e : Nat} {k : Int} (h : SumB w sb k e) (hb : Below w.heap.size w w') : SumB w' sb k e := by
  unfold SumB at *; rw [hb.block sb (Array.getElem?_eq_some_iff.1 h).1]; exact h

/-- Behind a call that may keep an error. -/
def SumE (u : ByteArray) (sb : Nat) (k : Int) (e' : Nat) (w : World) (r : Ending) (w' : World) : Prop := r = .returned (.string u) ∧ SumB w' sb k e' ∧ w.grownBy w' (some sb)

def kpS (k : Int) (r : ByteArray × Nat) : ByteArray := if r.2 ≠ 0 then zeroF k else r.1
theorem keep_any (k : Int) (e sb : Nat) (c : ByteArray) (n : Nat) (w : World) (hs : SumB w sb k e) :
    Calls Tryz.prog 70 #[.pointer (some ⟨sb, 0, none⟩), .string c, .int .i64 (n : Int)] w (SumE (kpS k (c, n)) sb k (kpE e (c, n)) w) := by
  have h0 := hs.c0
  have h1 := hs.c1
  have hf := hs.fz 1
  have hz := fun wx => semizero_any k wx
  have HZ := Lib.hid hz; clear hz
  have HS := Lib.hid hs; clear hs
  by_cases hn : n = 0
  · subst hn
    unfold kpS kpE
    rw [if_neg (by simp), if_neg (by simp)]
    go_enter Tryz.func70, Tryz.ntmps70
    go_wp2
    go_ret
    exact ⟨rfl, HS.out, gb_refl _ _⟩
  · have hn1 : ((n : Int) == 0) = false := by simp; exact hn
    unfold kpS kpE
    rw [if_pos (show (c, n).2 ≠ 0 from hn)]
    by_cases he : e = 0
    · subst he
      rw [if_pos ⟨hn, rfl⟩]
      have hb1 := gb_set (gb_refl w (some sb)) (p := ⟨sb, 1, none⟩) (.inl rfl) (.int .i64 (n : Int))
      have hs1 := HS.out.set n
      have h01 := hs1.c0
      have HB1 := Lib.hid hb1; clear hb1
      have HS1 := Lib.hid hs1; clear hs1
      go_enter Tryz.func70, Tryz.ntmps70
      go_wp2_with fail
      refine (HZ.out _).mono ?_
      rintro e w' ⟨rfl, hb⟩
      go_wp2
      go_ret
      exact ⟨rfl, HS1.out.kept hb, gb_trans HB1.out (gb_below hb _)⟩
    · have he1 : ((e : Int) == 0) = false := by simp; exact he
      rw [if_neg (fun h => he h.2)]
      go_enter Tryz.func70, Tryz.ntmps70
      go_wp2_with fail
      refine (HZ.out _).mono ?_
      rintro e w' ⟨rfl, hb⟩
      go_wp2
      go_ret
      exact ⟨rfl, HS.out.kept hb, gb_below hb _⟩

theorem cplus_any (k : Int) (e sb : Nat) (a b : ByteArray) (w : World) (ha : a.size ≤ 100000) (hb : b.size ≤ 100000) (ht : Tab w) (hs : SumB w sb k e) :
    Calls Tryz.prog 48 #[.pointer (some ⟨sb, 0, none⟩), .string a, .string b] w (SumE (kpS k (plusF k a b)) sb k (kpE e (plusF k a b)) w) := by
  have h0 := hs.c0
  have hc := semiplus_any k a b w (by omega) (by omega) ht
  clear ht ha hb
  obtain ⟨⟨c, n⟩, hr⟩ : ∃ r, r = plusF k a b := ⟨_, rfl⟩
  rw [← hr] at hc ⊢
  have HC := Lib.hid hc; clear hc hr
  have HS := Lib.hid hs; clear hs
  go_enter Tryz.func48, Tryz.ntmps48
  go_wp2_with fail
  refine HC.out.mono ?_
  rintro r w1 ⟨rfl, hb1⟩
  have HB1 := Lib.hid hb1; clear hb1
  go_wp2_with fail
  refine (keep_any k e sb c n w1 (HS.out.kept HB1.out)).mono ?_
  rintro r w2 ⟨rfl, hs2, hb2⟩
  have HS2 := Lib.hid hs2; clear hs2
  have HB2 := Lib.hid hb2; clear hb2
  go_wp2
  go_ret
  exact ⟨rfl, HS2.out, gb_trans (gb_below HB1.out _) HB2.out⟩
theorem ctimes_any (k : Int) (e sb : Nat) (a b : ByteArray) (w : World) (ha : a.size ≤ 100000) (hb : b.size ≤ 100000) (ht : Tab w) (hs : SumB w sb k e) :
    Calls Tryz.prog 49 #[.pointer (some ⟨sb, 0, none⟩), .string a, .string b] w (SumE (kpS k (timesF k a b)) sb k (kpE e (timesF k a b)) w) := by
  have h0 := hs.c0
  have hc := semitimes_any k a b w (by omega) (by omega) ht
  clear ht ha hb
  obtain ⟨⟨c, n⟩, hr⟩ : ∃ r, r = timesF k a b := ⟨_, rfl⟩
  rw [← hr] at hc ⊢
  have HC := Lib.hid hc; clear hc hr
  have HS := Lib.hid hs; clear hs
  go_enter Tryz.func49, Tryz.ntmps49
  go_wp2_with fail
  refine HC.out.mono ?_
  rintro r w1 ⟨rfl, hb1⟩
  have HB1 := Lib.hid hb1; clear hb1
  go_wp2_with fail
  refine (keep_any k e sb c n w1 (HS.out.kept HB1.out)).mono ?_
  rintro r w2 ⟨rfl, hs2, hb2⟩
  have HS2 := Lib.hid hs2; clear hs2
  have HB2 := Lib.hid hb2; clear hb2
  go_wp2
  go_ret
  exact ⟨rfl, HS2.out, gb_trans (gb_below HB1.out _) HB2.out⟩
theorem cstar_any (k : Int) (e sb : Nat) (a : ByteArray) (w : World) (ha : a.size ≤ 100000) (ht : Tab w) (hs : SumB w sb k e) :
    Calls Tryz.prog 77 #[.pointer (some ⟨sb, 0, none⟩), .string a] w (SumE (kpS k (starF k a)) sb k (kpE e (starF k a)) w) := by
  have h0 := hs.c0
  have hc := semistar_any k a w (by omega) ht
  clear ht ha
  obtain ⟨⟨c, n⟩, hr⟩ : ∃ r, r = starF k a := ⟨_, rfl⟩
  rw [← hr] at hc ⊢
  have HC := Lib.hid hc; clear hc hr
  have HS := Lib.hid hs; clear hs
  go_enter Tryz.func77, Tryz.ntmps77
  go_wp2_with fail
  refine HC.out.mono ?_
  rintro r w1 ⟨rfl, hb1⟩
  have HB1 := Lib.hid hb1; clear hb1
  go_wp2_with fail
  refine (keep_any k e sb c n w1 (HS.out.kept HB1.out)).mono ?_
  rintro r w2 ⟨rfl, hs2, hb2⟩
  have HS2 := Lib.hid hs2; clear hs2
  have HB2 := Lib.hid hb2; clear hb2
  go_wp2
  go_ret
  exact ⟨rfl, HS2.out, gb_trans (gb_below HB1.out _) HB2.out⟩

/-! ### .. as what the strings stand for -/
/-- Behind an operation on values. -/
def OpE {k : KK} (F : Prop) (e sb : Nat) (z : RK k) (w : World) (r : Ending) (w' : World) : Prop :=
  ∃ u e', r = .returned (.string u) ∧ Is k e' u z ∧ Er F e' ∧ (e' = 0 → e = 0) ∧ SumB w' sb k.1 e' ∧ w.grownBy w' (some sb)
theorem kpS_size {k : Int} {r : ByteArray × Nat} (h : r.1.size ≤ 802) : (kpS k r).size ≤ 100000 := by
  unfold kpS; split
  · exact zeroF_size k
  · omega
theorem kpS_zero {k : Int} {e : Nat} {r : ByteArray × Nat} (h : kpE e r = 0) : kpS k r = r.1 := by
  unfold kpS; rw [if_neg (by rw [(kpE_zero h).2]; simp)]
theorem cplus_is {k : KK} {F : Prop} {e sb : Nat} {a b : ByteArray} {x y : RK k} {w : World} (ha : Is k e a x) (hb : Is k e b y) (he : Er F e) (hF : F → fitV (x + y).1) (ht : Tab w) (hs : SumB w sb k.1 e) :
    Calls Tryz.prog 48 #[.pointer (some ⟨sb, 0, none⟩), .string a, .string b] w (OpE F e sb (x + y) w) := by
  refine (cplus_any k.1 e sb a b w ha.1 hb.1 ht hs).mono ?_
  rintro r w1 ⟨rfl, hs1, hb1⟩
  obtain ⟨h1, h2, h3⟩ := op_step (plus_lim ha hb) he hF (kpS_size (k := k.1) (plusF_size k.1 a b)) kpS_zero
  exact ⟨_, _, rfl, h1, h2, h3, hs1, hb1⟩
theorem ctimes_is {k : KK} {F : Prop} {e sb : Nat} {a b : ByteArray} {x y : RK k} {w : World} (ha : Is k e a x) (hb : Is k e b y) (he : Er F e) (hF : F → fitV (x * y).1) (ht : Tab w) (hs : SumB w sb k.1 e) :
    Calls Tryz.prog 49 #[.pointer (some ⟨sb, 0, none⟩), .string a, .string b] w (OpE F e sb (x * y) w) := by
  refine (ctimes_any k.1 e sb a b w ha.1 hb.1 ht hs).mono ?_
  rintro r w1 ⟨rfl, hs1, hb1⟩
  obtain ⟨h1, h2, h3⟩ := op_step (times_lim ha hb) he hF (kpS_size (k := k.1) (timesF_size k.1 a b)) kpS_zero
  exact ⟨_, _, rfl, h1, h2, h3, hs1, hb1⟩
theorem cstar_is {k : KK} {F : Prop} {e sb : Nat} {a : ByteArray} {x : RK k} {w : World} (ha : Is k e a x) (he : Er F e) (hF : F → fitV (CSR.star x).1) (ht : Tab w) (hs : SumB w sb k.1 e) :
    Calls Tryz.prog 77 #[.pointer (some ⟨sb, 0, none⟩), .string a] w (OpE F e sb (CSR.star x) w) := by
  refine (cstar_any k.1 e sb a w ha.1 ht hs).mono ?_
  rintro r w1 ⟨rfl, hs1, hb1⟩
  obtain ⟨h1, h2, h3⟩ := op_step (star_lim ha) he hF (kpS_size (k := k.1) (starF_size k.1 a)) kpS_zero
  exact ⟨_, _, rfl, h1, h2, h3, hs1, hb1⟩
end Go.Proofs.YtlmfppjphblemaaGreatDoor

namespace Go.Proofs.YtlmfppjphblemaaGreatDoor
open Go Go.RowKit Go.Deep
set_option maxRecDepth 100000

theorem info_str : (Tryz.prog.info? 9).map (fun i => (i.zero, i.size, i.bytes)) = some (some (.string ⟨#[]⟩), 1, 16) := by kernel_rfl
theorem info_strs : (Tryz.prog.info? 33).map (fun i => (i.zero, i.size, i.bytes)) = some (some (.slice none 0 0), 1, 24) := by kernel_rfl
theorem TabB.gr {B0 B : Nat} {w w' : World} {z : Option Nat} (h : TabB B0 w) (hg : Gr B z w w') (hz : ∀ k, z = some k → B0 ≤ k) (hB : B0 ≤ B) : TabB B0 w' := fun w2 hb =>
  h w2 (Below.trans ⟨hg.os, hg.tape, hg.output, hg.size, fun q hq => hg.block q (by omega) (fun e => by have := hz q e.symm; omega)⟩ hb)

/-- The struct table in block tb: its sums in block sb, its rows an own matrix. -/
structure Tb (w : World) (k : Int) (B tb sb g n e : Nat) (R : Nat → Value) (X : Nat → Nat → ByteArray) : Prop where
  tab : w.heap[tb]? = some (.cells #[.pointer (some ⟨sb, 0, none⟩), .slice (some ⟨g, 0, none⟩) n n] 89 (0, 0))
  sum : SumB w sb k e
  om : OM w (fun b => b = tb) B 9 33 g n R (fun _ => n) X
  sbB : sb < B
  tbB : B ≤ tb
namespace Tb
variable {w w' : World} {k : Int} {B tb sb g n e : Nat} {R : Nat → Value} {X : Nat → Nat → ByteArray}
theorem c0 (h : Tb w k B tb sb g n e R X) : w.cell? ⟨tb, 0, none⟩ = some (.pointer (some ⟨sb, 0, none⟩)) := by have := h.tab; simp [World.cell?, this]
theorem c1 (h : Tb w k B tb sb g n e R X) : w.cell? ⟨tb, 1, none⟩ = some (.slice (some ⟨g, 0, none⟩) n n) := by have := h.tab; simp [World.cell?, this]
theorem tbLt (h : Tb w k B tb sb g n e R X) : tb < w.heap.size := (Array.getElem?_eq_some_iff.1 h.tab).1
/-- A callee's doing, which turned only the sums. -/
theorem kept {e' : Nat} (h : Tb w k B tb sb g n e R X) (hg : w.grownBy w' (some sb)) (hs : SumB w' sb k e') : Tb w' k B tb sb g n e' R X :=
  ⟨by rw [hg.block tb h.tbLt (by simp; have := h.sbB; have := h.tbB; omega)]; exact h.tab, hs, h.om.kept hg (fun q hq => by cases hq; exact h.sbB), h.sbB, h.tbB⟩
theorem below (h : Tb w k B tb sb g n e R X) (hb : Below w.heap.size w w') : Tb w' k B tb sb g n e R X := h.kept (gb_below hb _) (h.sum.kept hb)
/-- A store into row i. -/
theorem stored {i j b cap : Nat} (h : Tb w k B tb sb g n e R X) (hi : i < n) (hj : j < n) (hR : R i = .slice (some ⟨b, 0, none⟩) n cap) (x : ByteArray) :
    Tb (w.setCell ⟨b, j, none⟩ (.string x)) k B tb sb g n e R (fun q l => if q = i ∧ l = j then x else X q l) := by
  have hf := h.om.far i hi b (by rw [hR]; rfl)
  have hl := (h.om.rowLt hi b (by rw [hR]; rfl)).1
  refine ⟨?_, ?_, h.om.stored hi hj hR x, h.sbB, h.tbB⟩
  · rw [blk_setCell_other _ _ _ _ (by show tb ≠ b; exact fun e => hf.2 e.symm)]; exact h.tab
  · have hs := h.sum
    unfold SumB at *
    rw [blk_setCell_other _ _ _ _ (by show sb ≠ b; have := h.sbB; omega)]; exact hs
end Tb
/-- A copy of the rows, not touched any more. -/
def Od (w : World) (B g n : Nat) (R : Nat → Value) (X : Nat → Nat → ByteArray) : Prop := OM w (fun _ => False) B 9 33 g n R (fun _ => n) X

/-- One row is copied. -/
theorem copy_step {wr wa : World} {Z : Nat → Prop} {B g n q go cap : Nat} {R2 : Nat → Value} {X : Nat → Nat → ByteArray} (h : OM wr Z B 9 33 g n R2 (fun l => if l < q then n else 0) X) (hq : q < n) (hnil : ∀ l, q ≤ l → R2 l = .slice none 0 0)
    (hown : wa.ownsRow B 9 1 (.slice (some ⟨go, 0, none⟩) (0 + n) cap) (0 + n) ([] ++ strs n (X q))) (hgrow : wr.drew.grownBy wa (Value.slice none 0 0).ownBlock) (hat : (Value.slice none 0 0).ownBlock = some go ∨ go = wr.heap.size) :
    ∃ R3, OM (wa.setCell ⟨g, q, none⟩ (.slice (some ⟨go, 0, none⟩) n cap)) Z B 9 33 g n R3 (fun l => if l < q + 1 then n else 0) X ∧ ∀ l, q + 1 ≤ l → R3 l = .slice none 0 0 := by
  rw [Nat.zero_add, List.nil_append] at hown
  have e := hnil q (Nat.le_refl _)
  have h2 := h.appended hq (wa := wr.drew) ⟨rfl, rfl, rfl, Nat.le_refl _, fun _ _ _ => rfl⟩ hown (by rw [e]; exact hgrow) (by rw [e]; exact hat)
  refine ⟨_, (h2.congrL fun l hl => ?_).congr fun l j hl hj => ?_, fun l hl => ?_⟩
  · by_cases e : l = q
    · rw [if_pos e, if_pos (by omega)]
    · rw [if_neg e]
      by_cases e2 : l < q
      · rw [if_pos e2, if_pos (by omega)]
      · rw [if_neg e2, if_neg (by omega)]
  · by_cases e : l = q
    · rw [if_pos e, e]
    · rw [if_neg e]
  · show (if l = q then _ else R2 l) = _
    rw [if_neg (by omega)]; exact hnil l (by omega)
/-- What has been done of one elimination: all rows below i, and row i below j. -/
def Prog {k : KK} (e p n i j : Nat) (M : Nat → Nat → RK k) (X Y : Nat → Nat → ByteArray) : Prop :=
  ∀ q l, q < n → l < n → if q < i ∨ (q = i ∧ l < j) then Is k e (Y q l) (CSR.elim p M q l) else Y q l = X q l
/-- All entries stand for the matrix. -/
def MatIs {k : KK} (e n : Nat) (X : Nat → Nat → ByteArray) (M : Nat → Nat → RK k) : Prop := ∀ q l, q < n → l < n → Is k e (X q l) (M q l)
theorem MatIs.mono {k : KK} {e e' n : Nat} {X : Nat → Nat → ByteArray} {M : Nat → Nat → RK k} (h : MatIs e n X M) (he : e' = 0 → e = 0) : MatIs e' n X M := fun q l hq hl => (h q l hq hl).mono he
theorem Prog.start {k : KK} (e p n : Nat) (M : Nat → Nat → RK k) (X : Nat → Nat → ByteArray) : Prog e p n 0 0 M X X := fun q l hq hl => by rw [if_neg (by omega)]
theorem Prog.mono {k : KK} {e e' p n i j : Nat} {M : Nat → Nat → RK k} {X Y : Nat → Nat → ByteArray} (h : Prog e p n i j M X Y) (he : e' = 0 → e = 0) : Prog e' p n i j M X Y := fun q l hq hl => by
  have := h q l hq hl
  split
  · rename_i h1; rw [if_pos h1] at this; exact this.mono he
  · rename_i h1; rw [if_neg h1] at this; exact this
theorem Prog.next {k : KK} {e p n i j : Nat} {M : Nat → Nat → RK k} {X Y : Nat → Nat → ByteArray} {u : ByteArray} (h : Prog e p n i j M X Y) (hu : Is k e u (CSR.elim p M i j)) : Prog e p n i (j + 1) M X (fun q l => if q = i ∧ l = j then u else Y q l) := fun q l hq hl => by
  have := h q l hq hl
  by_cases h0 : q = i ∧ l = j
  · obtain ⟨rfl, rfl⟩ := h0
    rw [if_pos (by omega)]; simpa using hu
  · simp only [if_neg h0]
    split
    · rename_i h1; rw [if_pos (by omega)] at this; exact this
    · rename_i h1; rw [if_neg (by omega)] at this; exact this
/-- .. where the element stays as it is. -/
theorem Prog.skip {k : KK} {e p n i j : Nat} {M : Nat → Nat → RK k} {X Y : Nat → Nat → ByteArray} (h : Prog e p n i j M X Y) (hi : i < n) (hj : j < n) (hu : Is k e (X i j) (CSR.elim p M i j)) : Prog e p n i (j + 1) M X Y := fun q l hq hl => by
  have := h q l hq hl
  by_cases h0 : q = i ∧ l = j
  · obtain ⟨rfl, rfl⟩ := h0
    rw [if_pos (by omega)]; rw [if_neg (by omega)] at this; rw [this]; exact hu
  · split
    · rename_i h1; rw [if_pos (by omega)] at this; exact this
    · rename_i h1; rw [if_neg (by omega)] at this; exact this
theorem Prog.row {k : KK} {e p n i : Nat} {M : Nat → Nat → RK k} {X Y : Nat → Nat → ByteArray} (h : Prog e p n i n M X Y) : Prog e p n (i + 1) 0 M X Y := fun q l hq hl => by
  have := h q l hq hl
  split
  · rename_i h1; rw [if_pos (by omega)] at this; exact this
  · rename_i h1; rw [if_neg (by omega)] at this; exact this
theorem Prog.skipRow {k : KK} {e p n i : Nat} {M : Nat → Nat → RK k} {X Y : Nat → Nat → ByteArray} (h : Prog e p n i 0 M X Y) (hi : i < n) (hu : ∀ l, l < n → Is k e (X i l) (CSR.elim p M i l)) : Prog e p n (i + 1) 0 M X Y := fun q l hq hl => by
  have := h q l hq hl
  by_cases h0 : q = i
  · subst h0
    rw [if_pos (by omega)]; rw [if_neg (by omega)] at this; rw [this]; exact hu l hl
  · split
    · rename_i h1; rw [if_pos (by omega)] at this; exact this
    · rename_i h1; rw [if_neg (by omega)] at this; exact this
theorem Prog.done {k : KK} {e p n : Nat} {M : Nat → Nat → RK k} {X Y : Nat → Nat → ByteArray} (h : Prog e p n n 0 M X Y) : MatIs e n Y (CSR.elim p M) := fun q l hq hl => by
  have := h q l hq hl; rwa [if_pos (by omega)] at this
theorem Prog.at {k : KK} {e p n i j : Nat} {M : Nat → Nat → RK k} {X Y : Nat → Nat → ByteArray} (h : Prog e p n i j M X Y) (hi : i < n) (hj : j < n) : Y i j = X i j := by
  have := h i j hi hj; rwa [if_neg (by omega)] at this
theorem elim_zero_l {k : KK} {p i : Nat} {M : Nat → Nat → RK k} (h : M i p = CSR.zero) (l : Nat) : CSR.elim p M i l = M i l := by
  unfold CSR.elim; rw [h, CSR.zm, CSR.zm, CSR.a0]
theorem elim_zero_r {k : KK} {p j : Nat} {M : Nat → Nat → RK k} (h : M p j = CSR.zero) (i : Nat) : CSR.elim p M i j = M i j := by
  unfold CSR.elim; rw [h, CSR.m0, CSR.a0]
/-- The zero string decides, as long as there was no error. -/
theorem Is.elim_l {k : KK} {e p n i : Nat} {M : Nat → Nat → RK k} {X : Nat → Nat → ByteArray} (hX : MatIs e n X M) (hi : i < n) (hp : p < n) (h : X i p = zeroF k.1) : ∀ l, l < n → Is k e (X i l) (CSR.elim p M i l) := fun l hl => by
  refine ⟨(hX i l hi hl).1, fun h0 => ?_⟩
  subst h0
  rw [elim_zero_l ((hX i p hi hp).eq_zero.1 h)]
  exact (hX i l hi hl).2 rfl
theorem Is.elim_r {k : KK} {e p n i j : Nat} {M : Nat → Nat → RK k} {X : Nat → Nat → ByteArray} (hX : MatIs e n X M) (hi : i < n) (hp : p < n) (hj : j < n) (h : X p j = zeroF k.1) : Is k e (X i j) (CSR.elim p M i j) := by
  refine ⟨(hX i j hi hj).1, fun h0 => ?_⟩
  subst h0
  rw [elim_zero_r ((hX p j hp hj).eq_zero.1 h)]
  exact (hX i j hi hj).2 rfl
/-- All that one elimination computes fits. -/
structure FitE {k : KK} (n p : Nat) (M : Nat → Nat → RK k) : Prop where
  star : fitV (CSR.star (M p p)).1
  first : ∀ i, i < n → fitV (M i p * CSR.star (M p p)).1
  second : ∀ i j, i < n → j < n → fitV (M i p * CSR.star (M p p) * M p j).1
  sum : ∀ i j, i < n → j < n → fitV (CSR.elim p M i j).1

/-- Behind over. -/
def OverE {k : KK} (F : Prop) (B tb sb g n p e : Nat) (R : Nat → Value) (M : Nat → Nat → RK k) (w : World) (r : Ending) (w' : World) : Prop :=
  ∃ e' Y, r = .returned (.tuple #[]) ∧ Tb w' k.1 B tb sb g n e' R Y ∧ MatIs e' n Y (CSR.elim p M) ∧ Er F e' ∧ (e' = 0 → e = 0) ∧ Gr B (some sb) w w'
end Go.Proofs.YtlmfppjphblemaaGreatDoor
