/- Parts of a proof: WgL WgS WgT. -/
import Derived.Test.YtjekapjbigfkbaaGreatDoorS16
import Derived.Test.YtjekapjbigfkbaaGreatDoorS15
namespace Go.Proofs.YtjekapjbigfkbaaGreatDoor
open Go Go.RowKit Go.Deep
set_option maxRecDepth 100000
set_option linter.unusedSimpArgs false
structure Fr (C : Nat → Prop) (w w' : World) : Prop where
  os : w'.os = w.os
  tape : w'.tape = w.tape
  output : w'.output = w.output
  size : w.heap.size ≤ w'.heap.size
  block : ∀ q, q < w.heap.size → ¬ C q → w'.heap[q]? = w.heap[q]?
namespace Fr
variable {C C' : Nat → Prop} {w w' w2 : World}
theorem refl (C : Nat → Prop) (w : World) : Fr C w w := ⟨rfl, rfl, rfl, Nat.le_refl _, fun _ _ _ => rfl⟩
theorem trans (h : Fr C w w') (k : Fr C w' w2) : Fr C w w2 := ⟨k.os.trans h.os, k.tape.trans h.tape, k.output.trans h.output, Nat.le_trans h.size k.size, fun q hq hc => (k.block q (by have := h.size; omega) hc).trans (h.block q hq hc)⟩
theorem mono (h : Fr C w w') (hc : ∀ q, q < w.heap.size → C q → C' q) : Fr C' w w' := ⟨h.os, h.tape, h.output, h.size, fun q hq hn => h.block q hq fun e => hn (hc q hq e)⟩
theorem of_gb {z : Option Nat} (h : w.grownBy w' z) (hz : ∀ q, z = some q → C q) : Fr C w w' := ⟨h.os, h.tape, h.output, h.size, fun q hq hc => h.block q hq fun e => hc (hz q e.symm)⟩
theorem of_below (h : Below w.heap.size w w') : Fr C w w' := of_gb (gb_below h none) (by simp)
theorem alloc (w : World) (o : Obj) : Fr C w (w.alloc o) := of_gb (World.grownBy_alloc w o none) (by simp)
theorem drew (h : Fr C w w') : Fr C w w'.drew := ⟨h.os, h.tape, h.output, h.size, h.block⟩
theorem set (h : Fr C w w') {p : Addr} (hp : C p.block ∨ w.heap.size ≤ p.block) (v : Value) : Fr C w (w'.setCell p v) :=
  ⟨h.os, h.tape, h.output, by rw [nblk_setCell]; exact h.size, fun q hq hc => (blk_setCell_other _ _ _ _ (by
    rcases hp with e | e
    · intro e2; subst e2; exact hc e
    · omega)).trans (h.block q hq hc)⟩
theorem below (h : Fr C w w') {B : Nat} (hB : B ≤ w.heap.size) (hc : ∀ q, C q → B ≤ q) : Below B w w' := ⟨h.os, h.tape, h.output, h.size, fun q hq => h.block q (by omega) fun e => by have := hc q e; omega⟩
theorem gb {z : Option Nat} (h : Fr (fun q => z = some q) w w') : w.grownBy w' z := ⟨h.os, h.tape, h.output, h.size, fun q hq hz => h.block q hq fun e => hz e.symm⟩
theorem cell (h : Fr C w w') {p : Addr} {v : Value} (hp : w.cell? p = some v) (hc : ¬ C p.block) : w'.cell? p = some v := by
  have hlt : p.block < w.heap.size := by
    unfold World.cell? at hp
    cases hb : w.heap[p.block]? with
    | none => simp [hb] at hp
    | some o => exact (Array.getElem?_eq_some_iff.1 hb).1
  unfold World.cell? at hp ⊢
  rw [h.block _ hlt hc]; exact hp
theorem row (h : Fr C w w') {g : Nat} {t : TypeId} {n : Nat} {F : Nat → Value} (hr : w.rowIs g t n F) (hc : ¬ C g) : w'.rowIs g t n F := hr.of_block (h.block g hr.lt hc)
end Fr
theorem blk_setne {w : World} {p : Addr} {q : Nat} (h : q ≠ p.block) (v : Value) : (w.setCell p v).heap[q]? = w.heap[q]? := blk_setCell_other _ _ _ _ h
def plusC (k : Int) (a b : ByteArray) (e : Nat) : ByteArray × Nat := if a = ⟨#[]⟩ ∨ e ≠ 0 then (b, e) else plusF k a b
def timesC (k : Int) (a b : ByteArray) (e : Nat) : ByteArray × Nat := if e ≠ 0 then (a, e) else timesF k a b
abbrev WS := (Nat → ByteArray) × Nat
def updS (l : Nat → ByteArray) (t : Nat) (s : ByteArray) : Nat → ByteArray := fun j => if j = t then s else l j
def arcC (D : MD) (sel : Int → Int → Bool) (v : Nat → ByteArray) (q k : Nat) (s : WS) : WS :=
  if sel (D.ain q k) (D.aout q k) = true then
    (updS s.1 (D.ato q k).toNat (plusC D.kind (s.1 (D.ato q k).toNat) (timesC D.kind (v q) (D.aw q k) s.2).1 (timesC D.kind (v q) (D.aw q k) s.2).2).1, (plusC D.kind (s.1 (D.ato q k).toNat) (timesC D.kind (v q) (D.aw q k) s.2).1 (timesC D.kind (v q) (D.aw q k) s.2).2).2)
  else s
def arcsC (D : MD) (sel : Int → Int → Bool) (v : Nat → ByteArray) (q : Nat) : Nat → WS → WS
  | 0, s => s
  | k + 1, s => arcC D sel v q k (arcsC D sel v q k s)
def rowC (D : MD) (sel : Int → Int → Bool) (v : Nat → ByteArray) (q : Nat) (s : WS) : WS := if v q = ⟨#[]⟩ then s else arcsC D sel v q (D.na q) s
def stepC (D : MD) (sel : Int → Int → Bool) (v : Nat → ByteArray) : Nat → WS → WS
  | 0, s => s
  | q + 1, s => rowC D sel v q (stepC D sel v q s)
def endC (D : MD) (v : Nat → ByteArray) : Nat → ByteArray × Nat → ByteArray × Nat
  | 0, s => s
  | q + 1, s => if v q = ⟨#[]⟩ ∨ D.fin q = ⟨#[]⟩ then endC D v q s else plusC D.kind (endC D v q s).1 (timesC D.kind (v q) (D.fin q) (endC D v q s).2).1 (timesC D.kind (v q) (D.fin q) (endC D v q s).2).2
def finC (D : MD) (v : Nat → ByteArray) (e : Nat) : ByteArray × Nat := if (endC D v D.n (zeroF D.kind, e)).2 ≠ 0 then (⟨#[]⟩, (endC D v D.n (zeroF D.kind, e)).2) else ((endC D v D.n (zeroF D.kind, e)).1, 0)
def startC (D : MD) : Nat → ByteArray := fun q => if q = D.start.toNat then D.lead else ⟨#[]⟩
def noneC : Nat → ByteArray := fun _ => ⟨#[]⟩
def smS (s : ByteArray) : Prop := s.size ≤ 9223372036854775807
theorem limV_sm (v : V) : smS (limV v).1 := by
  unfold smS
  cases v with
  | inf => decide
  | low => decide
  | fin q => exact Nat.le_trans (limR_size q) (by omega)
theorem plusF_sm (k : Int) (a b : ByteArray) : smS (plusF k a b).1 := by
  unfold plusF; split
  · exact limV_sm _
  · show (str []).size ≤ _; decide
theorem timesF_sm (k : Int) (a b : ByteArray) : smS (timesF k a b).1 := by
  unfold timesF; split
  · exact limV_sm _
  · show (str []).size ≤ _; decide
theorem plusC_sm {k : Int} {a b : ByteArray} {e : Nat} (hb : smS b) : smS (plusC k a b e).1 := by
  unfold plusC; split
  · exact hb
  · exact plusF_sm _ _ _
theorem timesC_sm {k : Int} {a b : ByteArray} {e : Nat} (ha : smS a) : smS (timesC k a b e).1 := by
  unfold timesC; split
  · exact ha
  · exact timesF_sm _ _ _
theorem arcC_sm {D : MD} {sel : Int → Int → Bool} {v : Nat → ByteArray} {q k : Nat} {s : WS} (hv : smS (v q)) (hs : ∀ j, smS (s.1 j)) (j : Nat) : smS ((arcC D sel v q k s).1 j) := by
  unfold arcC; split
  · show smS (updS s.1 _ _ j)
    unfold updS; split
    · exact plusC_sm (timesC_sm hv)
    · exact hs j
  · exact hs j
theorem arcsC_sm {D : MD} {sel : Int → Int → Bool} {v : Nat → ByteArray} {q : Nat} (hv : smS (v q)) : ∀ (k : Nat) {s : WS}, (∀ j, smS (s.1 j)) → ∀ j, smS ((arcsC D sel v q k s).1 j)
  | 0, _, hs => hs
  | k + 1, _, hs => fun j => arcC_sm hv (arcsC_sm hv k hs) j
theorem stepC_sm {D : MD} {sel : Int → Int → Bool} {v : Nat → ByteArray} (hv : ∀ j, smS (v j)) : ∀ (q : Nat) {s : WS}, (∀ j, smS (s.1 j)) → ∀ j, smS ((stepC D sel v q s).1 j)
  | 0, _, hs => hs
  | q + 1, s, hs => fun j => by
    show smS ((rowC D sel v q (stepC D sel v q s)).1 j)
    unfold rowC; split
    · exact stepC_sm hv q hs j
    · exact arcsC_sm (hv q) _ (stepC_sm hv q hs) j
theorem endC_sm {D : MD} {v : Nat → ByteArray} (hv : ∀ j, smS (v j)) : ∀ (q : Nat) {s : ByteArray × Nat}, smS s.1 → smS (endC D v q s).1
  | 0, _, hs => hs
  | q + 1, s, hs => by
    unfold endC; split
    · exact endC_sm hv q hs
    · exact plusC_sm (timesC_sm (hv q))
end Go.Proofs.YtjekapjbigfkbaaGreatDoor

namespace Go.Proofs.YtjekapjbigfkbaaGreatDoor
open Go Go.RowKit Go.Deep
set_option maxRecDepth 100000
set_option linter.unusedSimpArgs false
def Scl (w : World) (cb : Nat) (D : MD) (sv star : Value) (e : Nat) : Prop := w.heap[cb]? = some (.cells #[.int .i64 D.kind, .int .i64 D.start, .string D.lead, sv, star, .int .i64 (e : Int)] 127 (0, 0))
namespace Scl
variable {w w' : World} {cb : Nat} {D : MD} {sv star : Value} {e : Nat}
theorem lt (h : Scl w cb D sv star e) : cb < w.heap.size := (Array.getElem?_eq_some_iff.1 h).1
theorem c0 (h : Scl w cb D sv star e) : w.cell? ⟨cb, 0, none⟩ = some (.int .i64 D.kind) := by unfold Scl at h; simp [World.cell?, h]
theorem c1 (h : Scl w cb D sv star e) : w.cell? ⟨cb, 1, none⟩ = some (.int .i64 D.start) := by unfold Scl at h; simp [World.cell?, h]
theorem c2 (h : Scl w cb D sv star e) : w.cell? ⟨cb, 2, none⟩ = some (.string D.lead) := by unfold Scl at h; simp [World.cell?, h]
theorem c3 (h : Scl w cb D sv star e) : w.cell? ⟨cb, 3, none⟩ = some sv := by unfold Scl at h; simp [World.cell?, h]
theorem c4 (h : Scl w cb D sv star e) : w.cell? ⟨cb, 4, none⟩ = some star := by unfold Scl at h; simp [World.cell?, h]
theorem c5 (h : Scl w cb D sv star e) : w.cell? ⟨cb, 5, none⟩ = some (.int .i64 (e : Int)) := by unfold Scl at h; simp [World.cell?, h]
theorem fz (h : Scl w cb D sv star e) (j : Nat) : w.frozen? ⟨cb, j, none⟩ = false := by unfold Scl at h; simp [World.frozen?, h]
theorem setE (h : Scl w cb D sv star e) (e' : Nat) : Scl (w.setCell ⟨cb, 5, none⟩ (.int .i64 (e' : Int))) cb D sv star e' := by
  unfold Scl at h ⊢; simp [World.setCell, Array.getElem?_modify, h]
theorem kept {C : Nat → Prop} (h : Scl w cb D sv star e) (hf : Fr C w w') (hc : ¬ C cb) : Scl w' cb D sv star e := by unfold Scl; rw [hf.block cb h.lt hc]; exact h
end Scl
theorem empty_eq {a : ByteArray} (h : (a.toList == []) = true) : a = ⟨#[]⟩ := toList_eq (b := ⟨#[]⟩) (by rw [Lib.toList_data ⟨#[]⟩]; exact h)
theorem wplus_any {cb : Nat} {D : MD} {sv star : Value} {e : Nat} (a b : ByteArray) (w : World) (hs : Scl w cb D sv star e) (ha : smS a) (hb : smS b) (ht : Tab w) :
    Calls Tryz.prog 126 #[.pointer (some ⟨cb, 0, none⟩), .string a, .string b] w (fun r w' => r = .returned (.string (plusC D.kind a b e).1) ∧ Scl w' cb D sv star (plusC D.kind a b e).2 ∧ Fr (fun q => q = cb) w w') := by
  have k0 := hs.c0
  have k5 := hs.c5
  have HS := Lib.hid hs; clear hs
  cases hA : (a.toList == [])
  · have ha0 : a ≠ ⟨#[]⟩ := fun e => by rw [e] at hA; simp at hA
    by_cases he : e = 0
    · subst he
      have hp : plusC D.kind a b 0 = plusF D.kind a b := by unfold plusC; rw [if_neg (by intro h; rcases h with h | h; exact ha0 h; exact h rfl)]
      rw [hp]
      have hc := semiplus_any D.kind a b w ha hb ht
      have HC := Lib.hid hc; clear hc ht
      go_enter Tryz.func126, Tryz.ntmps126
      go_wp2_with fail
      refine HC.out.mono ?_
      rintro r w1 ⟨rfl, hb1⟩
      have hf1 : Fr (fun q => q = cb) w w1 := Fr.of_below hb1
      have hs1 : Scl w1 cb D sv star 0 := by unfold Scl; rw [hb1.block cb HS.out.lt]; exact HS.out
      have f5 := hs1.fz 5
      have k5' := hs1.c5
      have HS1 := Lib.hid hs1; clear hs1 hb1
      have HF1 := Lib.hid hf1; clear hf1
      go_wp2_with fail
      go_ret
      exact ⟨rfl, HS1.out.setE _, HF1.out.set (.inl rfl) _⟩
    · have hp : plusC D.kind a b e = (b, e) := by unfold plusC; rw [if_pos (.inr he)]
      have hez : ¬ (e : Int) = 0 := by omega
      rw [hp]
      go_enter Tryz.func126, Tryz.ntmps126
      go_wp2_with fail
      go_ret
      exact ⟨rfl, HS.out, Fr.refl _ _⟩
  · have ha0 : a = ⟨#[]⟩ := empty_eq hA
    have hp : plusC D.kind a b e = (b, e) := by unfold plusC; rw [if_pos (.inl ha0)]
    rw [hp]
    go_enter Tryz.func126, Tryz.ntmps126
    go_wp2_with fail
    go_ret
    exact ⟨rfl, HS.out, Fr.refl _ _⟩
theorem wtimes_any {cb : Nat} {D : MD} {sv star : Value} {e : Nat} (a b : ByteArray) (w : World) (hs : Scl w cb D sv star e) (ha : smS a) (hb : smS b) (ht : Tab w) :
    Calls Tryz.prog 128 #[.pointer (some ⟨cb, 0, none⟩), .string a, .string b] w (fun r w' => r = .returned (.string (timesC D.kind a b e).1) ∧ Scl w' cb D sv star (timesC D.kind a b e).2 ∧ Fr (fun q => q = cb) w w') := by
  have k0 := hs.c0
  have k5 := hs.c5
  have HS := Lib.hid hs; clear hs
  by_cases he : e = 0
  · subst he
    have hp : timesC D.kind a b 0 = timesF D.kind a b := by unfold timesC; rw [if_neg (by simp)]
    rw [hp]
    have hc := semitimes_any D.kind a b w ha hb ht
    have HC := Lib.hid hc; clear hc ht
    go_enter Tryz.func128, Tryz.ntmps128
    go_wp2_with fail
    refine HC.out.mono ?_
    rintro r w1 ⟨rfl, hb1⟩
    have hf1 : Fr (fun q => q = cb) w w1 := Fr.of_below hb1
    have hs1 : Scl w1 cb D sv star 0 := by unfold Scl; rw [hb1.block cb HS.out.lt]; exact HS.out
    have f5 := hs1.fz 5
    have k5' := hs1.c5
    have HS1 := Lib.hid hs1; clear hs1 hb1
    have HF1 := Lib.hid hf1; clear hf1
    go_wp2_with fail
    go_ret
    exact ⟨rfl, HS1.out.setE _, HF1.out.set (.inl rfl) _⟩
  · have hp : timesC D.kind a b e = (a, e) := by unfold timesC; rw [if_pos he]
    have hez : ¬ (e : Int) = 0 := by omega
    rw [hp]
    go_enter Tryz.func128, Tryz.ntmps128
    go_wp2_with fail
    go_ret
    exact ⟨rfl, HS.out, Fr.refl _ _⟩
theorem info_wstr : (Tryz.prog.info? 9).map (fun i => (i.zero, i.size, i.bytes)) = some (some (.string ⟨#[]⟩), 1, 16) := by kernel_rfl
theorem wnone_any {cb : Nat} {D : MD} {a : Option Addr} {cap : Nat} {star : Value} {e : Nat} (w : World) (hs : Scl w cb D (.slice a D.n cap) star e) (h1 : 1 ≤ D.n) (hn : D.n ≤ 3000) :
    Calls Tryz.prog 82 #[.pointer (some ⟨cb, 0, none⟩)] w (fun r w' => r = .returned (.slice (some ⟨w.heap.size, 0, none⟩) D.n D.n) ∧ w'.rowIs w.heap.size 9 D.n (fun q => .string (noneC q)) ∧ Fr (fun _ => False) w w' ∧ w'.heap.size = w.heap.size + 1) := by
  have k3 := hs.c3
  have hmk := run_make_row' (P := Tryz.prog) 124 9 (.string ⟨#[]⟩) 16 Tryz.underlying124 info_wstr rfl .i64 .i64 D.n (by omega) (by omega)
  go_enter Tryz.func82, Tryz.ntmps82
  go_wp2_with fail
  go_ret
  exact ⟨rfl, World.rowIs_made w (.string ⟨#[]⟩) D.n 9, Fr.alloc _ _, by simp⟩
end Go.Proofs.YtjekapjbigfkbaaGreatDoor

namespace Go.Proofs.YtjekapjbigfkbaaGreatDoor
open Go Go.RowKit Go.Deep
set_option maxRecDepth 100000
set_option linter.unusedSimpArgs false
set_option maxHeartbeats 4000000 in
theorem wstart_any {cb : Nat} {D : MD} {a : Option Addr} {cap : Nat} {star : Value} {e : Nat} (w : World) (hs : Scl w cb D (.slice a D.n cap) star e) (h1 : 1 ≤ D.n) (hn : D.n ≤ 3000) (hs0 : 0 ≤ D.start) (hs1 : D.start < (D.n : Int)) :
    Calls Tryz.prog 80 #[.pointer (some ⟨cb, 0, none⟩)] w (fun r w' => r = .returned (.slice (some ⟨w.heap.size, 0, none⟩) D.n D.n) ∧ w'.rowIs w.heap.size 9 D.n (fun q => .string (startC D q)) ∧ Fr (fun _ => False) w w') := by
  obtain ⟨st, hst⟩ : ∃ st : Nat, D.start = (st : Int) := ⟨D.start.toNat, by omega⟩
  have hstn : st < D.n := by omega
  have hstz : (st : Int) < (D.n : Int) := by omega
  have hstz0 : (0 : Int) ≤ (st : Int) := by omega
  have HNO := Lib.hid (wnone_any w hs h1 hn)
  have HS := Lib.hid hs; clear hs
  have hsc : startC D = fun q => if q = st then D.lead else ⟨#[]⟩ := by funext q; unfold startC; rw [hst, Int.toNat_natCast]
  have HSC := Lib.hid hsc; clear hsc
  have HST := Lib.hid hst; clear hst hs0 hs1
  go_enter Tryz.func80, Tryz.ntmps80
  go_wp2_with fail
  refine HNO.out.mono ?_
  rintro r w1 ⟨rfl, hrow, hf, hsz⟩
  have hs1 := HS.out.kept hf (fun h => h)
  obtain ⟨g, hg⟩ : ∃ g, g = w.heap.size := ⟨_, rfl⟩
  rw [← hg] at hrow
  rw [← hg]
  have hgw : w.heap.size ≤ g := by omega
  have k1 := hs1.c1
  rw [HST.out] at k1
  have k2 := hs1.c2
  have gl := hrow.cell hstn
  have fl := hrow.frozen st
  have HROW := Lib.hid hrow; clear hrow
  have HF := Lib.hid hf; clear hf hs1 hsz
  have HG := Lib.hid hg; clear hg
  go_wp2_with fail
  have hS0 : w1.cell? ⟨cb, 1, none⟩ = some (.int .i64 (st : Int)) ∧ w1.cell? ⟨cb, 2, none⟩ = some (.string D.lead) := ⟨k1, k2⟩
  refine region_heldK (fun wk' => wk'.cell? ⟨cb, 1, none⟩ = some (.int .i64 (st : Int)) ∧ wk'.cell? ⟨cb, 2, none⟩ = some (.string D.lead)) 12 (by kernel_rfl) ?_
  refine AnyK.tk (i := 0) (v := ?va0) rfl (by kernel_rfl) hS0 (Or.inl ⟨by kernel_rfl, ?hya0⟩) ?resta0
  case hya0 => rintro wk ⟨s1', s2'⟩; go_simp; try with_reducible rfl
  refine AnyK.tk (i := 1) (v := ?va1) rfl (by kernel_rfl) hS0 (Or.inl ⟨by kernel_rfl, ?hya1⟩) ?resta1
  case hya1 => rintro wk ⟨s1', s2'⟩; go_simp; try with_reducible rfl
  refine AnyK.tk (i := 2) (v := ?va2) rfl (by kernel_rfl) hS0 (Or.inl ⟨by kernel_rfl, ?hya2⟩) ?resta2
  case hya2 => rintro wk ⟨s1', s2'⟩; go_simp; try with_reducible rfl
  refine AnyK.tk (i := 3) (v := ?va3) rfl (by kernel_rfl) hS0 (Or.inl ⟨by kernel_rfl, ?hya3⟩) ?resta3
  case hya3 => rintro wk ⟨s1', s2'⟩; go_simp; try with_reducible rfl
  refine AnyK.tk (i := 4) (v := ?va4) rfl (by kernel_rfl) hS0 (Or.inl ⟨by kernel_rfl, ?hya4⟩) ?resta4
  case hya4 => rintro wk ⟨s1', s2'⟩; go_simp; try with_reducible rfl
  refine AnyK.tk (i := 5) (v := ?va5) rfl (by kernel_rfl) hS0 (Or.inl ⟨by kernel_rfl, ?hya5⟩) ?resta5
  case hya5 => rintro wk ⟨s1', s2'⟩; go_simp; try with_reducible rfl
  refine AnyK.tk (i := 6) (v := ?va6) rfl (by kernel_rfl) hS0 (Or.inl ⟨by kernel_rfl, ?hya6⟩) ?resta6
  case hya6 => rintro wk ⟨s1', s2'⟩; go_simp; try with_reducible rfl
  refine AnyK.tk (i := 7) (v := ?va7) rfl (by kernel_rfl) hS0 (Or.inl ⟨by kernel_rfl, ?hya7⟩) ?resta7
  case hya7 => rintro wk ⟨s1', s2'⟩; go_simp; try with_reducible rfl
  refine AnyK.tk (i := 8) (v := ?va8) rfl (by kernel_rfl) hS0 (Or.inl ⟨by kernel_rfl, ?hya8⟩) ?resta8
  case hya8 => rintro wk ⟨s1', s2'⟩; go_simp; try with_reducible rfl
  refine AnyK.tk (i := 9) (v := ?va9) rfl (by kernel_rfl) hS0 (Or.inl ⟨by kernel_rfl, ?hya9⟩) ?resta9
  case hya9 => rintro wk ⟨s1', s2'⟩; go_simp; try with_reducible rfl
  refine AnyK.tk (i := 10) (v := ?va10) rfl (by kernel_rfl) hS0 (Or.inl ⟨by kernel_rfl, ?hya10⟩) ?resta10
  case hya10 => rintro wk ⟨s1', s2'⟩; go_simp; try with_reducible rfl
  refine AnyK.tk (i := 11) (v := ?va11) rfl (by kernel_rfl) hS0 (Or.inl ⟨by kernel_rfl, ?hya11⟩) ?resta11
  case hya11 => rintro wk ⟨s1', s2'⟩; go_simp; try with_reducible rfl
  try simp only [Act.put, List.setIfInBounds_toArray, List.set_cons_zero, List.set_cons_succ, List.getElem_toArray, List.getElem_cons_succ, List.getElem_cons_zero]
  refine AnyK.one (i := 12) rfl (by kernel_rfl) (by rfl) (fun K hK => ?_)
  go_simp
  refine hK.out _ _ (.inl rfl) (AnyK.done (by kernel_rfl) ?_ _)
  clear hK K
  go_wp2_with fail
  go_ret
  refine ⟨Eq.trans (b := Ending.returned (.slice (some ⟨g, 0, none⟩) D.n D.n)) rfl (by rw [HG.out]), ?_, (HF.out.set (p := ⟨g, st, none⟩) (.inr hgw) _).drew⟩
  rw [HSC.out, ← HG.out]
  exact (show (w1.setCell ⟨g, st, none⟩ (.string D.lead)).rowIs g 9 D.n _ from HROW.out.set st _).congr (fun j _ => by
    show _ = Value.string (if j = st then D.lead else ⟨#[]⟩)
    by_cases e : j = st
    · rw [if_pos e, if_pos e]
    · rw [if_neg e, if_neg e]; rfl)
def TstA (nf : FuncId) (cap : Array Value) (sel : Int → Int → Bool) (P : World → Prop) : Prop :=
  (∀ args w, (callFunc nf args).run Tryz.prog w = .ok (.enter nf args) w) ∧ ∀ w, P w → ∀ (i o : Int) (s : ByteArray) (t : Int), Calls Tryz.prog nf (#[.agg #[.int .i64 i, .int .i64 o, .string s, .int .i64 t]] ++ cap) w (fun r w' => r = .returned (.bool (sel i o)) ∧ Below w.heap.size w w')
def StpE (cb lb : Nat) (D : MD) (sv star : Value) (s : WS) (w : World) (r : Ending) (w' : World) : Prop :=
  r = .returned (.tuple #[]) ∧ w'.rowIs lb 9 D.n (fun j => .string (s.1 j)) ∧ Scl w' cb D sv star s.2 ∧ Fr (fun q => q = cb ∨ q = lb) w w'
set_option maxHeartbeats 16000000 in
theorem step_any {cb lb vb nf : Nat} {cap : Array Value} {D : MD} {sv star : Value} {e : Nat} {l v : Nat → ByteArray} {sel : Int → Int → Bool} {P : World → Prop} (w0 w : World) (hv : VM D) (hD : StS none w0 sv D) (hb0 : Below w0.heap.size w0 w) (ht : Tab w0)
    (hs : Scl w cb D sv star e) (hl : w.rowIs lb 9 D.n (fun j => .string (l j))) (hvr : w.rowIs vb 9 D.n (fun j => .string (v j))) (hcb : w0.heap.size ≤ cb) (hlb : w0.heap.size ≤ lb) (hcl : cb ≠ lb) (hvl : vb ≠ lb) (hvc : vb ≠ cb)
    (hls : ∀ j, smS (l j)) (hvs : ∀ j, smS (v j)) (haw : ∀ i k, smS (D.aw i k)) (hP : P w) (hPf : ∀ wa wb, P wa → Fr (fun q => q = cb ∨ q = lb) wa wb → P wb) (htst : TstA nf cap sel P) :
    Calls Tryz.prog 84 #[.pointer (some ⟨cb, 0, none⟩), .slice (some ⟨lb, 0, none⟩) D.n D.n, .slice (some ⟨vb, 0, none⟩) D.n D.n, .func (.func nf) #[] cap] w (StpE cb lb D sv star (stepC D sel v D.n (l, e)) w) := by
  obtain ⟨a, cp, b, off, A, C, BB, O, rfl, ha, hc, hm, hb, hrow⟩ := hD.open
  unfold maxLen at hm
  obtain ⟨hen, htc⟩ := htst
  obtain ⟨n, hn⟩ : ∃ n, n = D.n := ⟨_, rfl⟩
  have hn3 : n ≤ 3000 := by rw [hn]; exact hv.n2
  have hn1 : 1 ≤ n := by rw [hn]; exact hv.n1
  rw [← hn] at ha hc hb hrow hl hvr hs ⊢
  have HN := Lib.hid hn; clear hn
  have HV := Lib.hid hv; clear hv
  have HA := Lib.hid ha; clear ha
  have HB := Lib.hid hb; clear hb
  have HR := Lib.hid hrow; clear hrow hD
  have HT := Lib.hid htc; clear htc
  have HTB := Lib.hid ht; clear ht
  have HP := Lib.hid hP; clear hP
  have HPF := Lib.hid hPf; clear hPf
  have HB0 := Lib.hid hb0; clear hb0
  have HS := Lib.hid hs; clear hs
  have HL := Lib.hid hl; clear hl
  have HVR := Lib.hid hvr; clear hvr
  have HLS := Lib.hid hls; clear hls
  have HVS := Lib.hid hvs; clear hvs
  have HAW := Lib.hid haw; clear haw
  have HCL := Lib.hid hcl; clear hcl
  have HVL := Lib.hid hvl; clear hvl
  have HVC := Lib.hid hvc; clear hvc
  have HCB := Lib.hid hcb; clear hcb
  have HLB := Lib.hid hlb; clear hlb
  obtain rfl := HA.out (by omega)
  go_enter Tryz.func84, Tryz.ntmps84
  go_wp2_with fail
  go_loopw [14] (fun i wr => ∃ q : Nat, q ≤ n ∧ i = .int .i64 (q : Int) ∧ wr.rowIs lb 9 n (fun j => .string ((stepC D sel v q (l, e)).1 j)) ∧ Scl wr cb D (.slice (some ⟨b, off, none⟩) n cp) star (stepC D sel v q (l, e)).2 ∧ Fr (fun q => q = cb ∨ q = lb) w wr) (fun i _ => n - (intOf i).toNat)
  case atStart => exact ⟨0, Nat.zero_le _, rfl, HL.out, HS.out, Fr.refl _ _⟩
  case round =>
    obtain ⟨q, hq, rfl, hrl, hsc, hfr⟩ := hrel
    clear HL HS
    have HRL := Lib.hid hrl; clear hrl
    have HSC := Lib.hid hsc; clear hsc
    have HFR := Lib.hid hfr; clear hfr
    by_cases hlt : q < n
    · have hqz : (q : Int) < (n : Int) := by omega
      have hqz0 : (0 : Int) ≤ (q : Int) := by omega
      have cv := HFR.out.cell (HVR.out.cell hlt) (p := ⟨vb, q, none⟩) (by
        rintro (h | h)
        · exact HVC.out h
        · exact HVL.out h)
      have HBW := Lib.hid (HB0.out.trans (HFR.out.below HB0.out.size (fun k hk => by rcases hk with rfl | rfl; exact HCB.out; exact HLB.out)))
      have hbb := (HB.out (by omega)).1
      obtain ⟨k1, k2, k3, k4, k5, k6, k7⟩ := HR.out q hlt
      obtain ⟨aq, haq⟩ : ∃ aq, aq = A q := ⟨_, rfl⟩
      rw [← haq] at k2 k5
      clear haq
      have c1 := (HBW.out.cell (p := ⟨b, off + q * 2 + 1, none⟩) hbb).trans k2
      have m3 := HSC.out.c3
      clear k1 k2
      unfold maxLen at k4
      have hna0 : D.na q ≤ 30000 := by have h1 := Nat.le_trans (arcsTo_mono D (show q + 1 ≤ D.n by have := HN.out; omega)) HV.out.arcs; have h2 : arcsTo D (q + 1) = arcsTo D q + D.na q := rfl; omega
      have HK7 := Lib.hid k7; clear k7
      have HK5 := Lib.hid k5; clear k5
      have HK6 := Lib.hid k6; clear k6
      obtain ⟨vq, hvq⟩ : ∃ vq, vq = v q := ⟨_, rfl⟩
      rw [← hvq] at cv
      cases hE : (vq.toList == [])
      · have he0 : v q ≠ ⟨#[]⟩ := fun e => by rw [hvq, e] at hE; simp at hE
        have hst : stepC D sel v (q + 1) (l, e) = arcsC D sel v q (D.na q) (stepC D sel v q (l, e)) := by
          show rowC D sel v q _ = _; unfold rowC; rw [if_neg he0]
        have HST := Lib.hid hst; clear hst he0
        have HVQ := Lib.hid hvq; clear hvq
        obtain ⟨s0, hs0⟩ : ∃ s0, s0 = stepC D sel v q (l, e) := ⟨_, rfl⟩
        have hsz0 : ∀ j, smS (s0.1 j) := by rw [hs0]; exact stepC_sm HVS.out q HLS.out
        rw [← hs0] at HRL HSC HST
        have HSZ := Lib.hid hsz0; clear hsz0 hs0
        go_wp2_with fail
        clear cv c1 m3
        go_loopw [31] (fun i wr => ∃ d : Nat, d ≤ D.na q ∧ i = .int .i64 (d : Int) ∧ wr.rowIs lb 9 n (fun j => .string ((arcsC D sel v q d s0).1 j)) ∧ Scl wr cb D (.slice (some ⟨b, off, none⟩) n cp) star (arcsC D sel v q d s0).2 ∧ Fr (fun q => q = cb ∨ q = lb) w wr) (fun i _ => D.na q - (intOf i).toNat)
        case atStart => exact ⟨0, Nat.zero_le _, rfl, HRL.out, HSC.out, HFR.out⟩
        case round =>
          obtain ⟨d, hd, rfl, hrl2, hsc2, hfr2⟩ := hrel
          clear HRL HSC HFR HBW
          have HRL2 := Lib.hid hrl2; clear hrl2
          have HSC2 := Lib.hid hsc2; clear hsc2
          have HFR2 := Lib.hid hfr2; clear hfr2
          by_cases hdt : d < D.na q
          · have hdz : (d : Int) < (D.na q : Int) := by omega
            have hdz0 : (0 : Int) ≤ (d : Int) := by omega
            have HBW2 := Lib.hid (HB0.out.trans (HFR2.out.below HB0.out.size (fun k hk => by rcases hk with rfl | rfl; exact HCB.out; exact HLB.out)))
            have hbB := (HK6.out (by omega)).1
            obtain ⟨t0, t1, t2, t3⟩ := HK7.out d hdt
            obtain rfl := HK5.out (by omega)
            have c0 := (HBW2.out.cell (p := ⟨BB q, O q + d * 4, none⟩) hbB).trans t0
            have c1 := (HBW2.out.cell (p := ⟨BB q, O q + d * 4 + 1, none⟩) hbB).trans t1
            have c2 := (HBW2.out.cell (p := ⟨BB q, O q + d * 4 + 2, none⟩) hbB).trans t2
            have c3 := (HBW2.out.cell (p := ⟨BB q, O q + d * 4 + 3, none⟩) hbB).trans t3
            clear t0 t1 t2 t3
            have hao := HV.out.arc q d (by have := HN.out; omega) hdt
            obtain ⟨tn, hto⟩ : ∃ tn : Nat, D.ato q d = (tn : Int) := ⟨(D.ato q d).toNat, by have := hao.t0; omega⟩
            have hton : tn < n := by have := hao.t1; have := HN.out; omega
            rw [hto] at c3
            have HTO := Lib.hid hto; clear hto hao
            obtain ⟨ab, hab⟩ : ∃ ab, ab = wr.heap.size := ⟨_, rfl⟩
            obtain ⟨wa, hwa⟩ : ∃ wa, wa = wr.alloc (.cells #[.int .i64 (D.ain q d), .int .i64 (D.aout q d), .string (D.aw q d), .int .i64 (tn : Int)] 83) := ⟨_, rfl⟩
            have hfa : Fr (fun q => q = cb ∨ q = lb) wr wa := by rw [hwa]; exact Fr.alloc _ _
            have hblk : wa.heap[ab]? = some (.cells #[.int .i64 (D.ain q d), .int .i64 (D.aout q d), .string (D.aw q d), .int .i64 (tn : Int)] 83 (0, 0)) := by rw [hwa, hab]; exact heap_alloc_new wr _
            have hcall := HT.out wa (HPF.out _ _ HP.out (HFR2.out.trans hfa)) (D.ain q d) (D.aout q d) (D.aw q d) (tn : Int)
            have hal : ab ≠ lb := by have := HRL2.out.lt; omega
            have hac : ab ≠ cb := by have := HSC2.out.lt; omega
            have HC := Lib.hid hcall; clear hcall
            have HFA := Lib.hid hfa; clear hfa
            have HBLK := Lib.hid hblk; clear hblk
            go_wp2_with fail
            rw [← hwa, ← hab]
            clear c0 c1 c2 c3
            have HAB := Lib.hid hab; clear hab
            have HWA := Lib.hid hwa; clear hwa
            refine HC.out.mono ?_
            rintro r w1 ⟨rfl, hb1⟩
            have hf1 : Fr (fun q => q = cb ∨ q = lb) w w1 := (HFR2.out.trans HFA.out).trans (Fr.of_below hb1)
            have hblk1 := (hb1.block ab (lt_of_block HBLK.out)).trans HBLK.out
            have hsc1 : Scl w1 cb D (.slice (some ⟨b, off, none⟩) n cp) star (arcsC D sel v q d s0).2 := by
              unfold Scl; rw [hb1.block cb (by have := HSC2.out.lt; have := HFA.out.size; omega), HWA.out, blk_alloc_lt _ _ _ HSC2.out.lt]; exact HSC2.out
            have hrl1 : w1.rowIs lb 9 n (fun j => .string ((arcsC D sel v q d s0).1 j)) := HRL2.out.of_block ((hb1.block lb (by have := HRL2.out.lt; have := HFA.out.size; omega)).trans (by rw [HWA.out, blk_alloc_lt _ _ _ HRL2.out.lt]))
            have HF1 := Lib.hid hf1; clear hf1 hb1 HFA HBLK HC HSC2 HRL2 HFR2 HBW2 HWA
            have HBLK1 := Lib.hid hblk1; clear hblk1
            have HSC1 := Lib.hid hsc1; clear hsc1
            have HRL1 := Lib.hid hrl1; clear hrl1
            have hsz1 : ∀ j, smS ((arcsC D sel v q d s0).1 j) := arcsC_sm (HVS.out q) d HSZ.out
            have HSZ1 := Lib.hid hsz1; clear hsz1
            cases hsl : sel (D.ain q d) (D.aout q d)
            · have hnx : arcsC D sel v q (d + 1) s0 = arcsC D sel v q d s0 := by show arcC D sel v q d _ = _; unfold arcC; rw [if_neg (by rw [hsl]; simp)]
              have HNX := Lib.hid hnx; clear hnx hsl
              go_wp2_with fail
              go_roundw
              case rel => exact ⟨d + 1, by omega, by go_num, by rw [HNX.out]; exact HRL1.out, by rw [HNX.out]; exact HSC1.out, HF1.out⟩
              case measure => simp [intOf]; omega
            · obtain ⟨s1, hs1⟩ : ∃ s1, s1 = arcsC D sel v q d s0 := ⟨_, rfl⟩
              obtain ⟨tp, htp⟩ : ∃ tp, tp = timesC D.kind vq (D.aw q d) s1.2 := ⟨_, rfl⟩
              obtain ⟨zp, hzp⟩ : ∃ zp, zp = plusC D.kind (s1.1 tn) tp.1 tp.2 := ⟨_, rfl⟩
              have hnx : arcsC D sel v q (d + 1) s0 = (updS s1.1 tn zp.1, zp.2) := by
                show arcC D sel v q d _ = _; unfold arcC; rw [if_pos hsl, ← hs1, HTO.out, Int.toNat_natCast, ← HVQ.out, ← htp, ← hzp]
              rw [← hs1] at HSC1 HRL1 HSZ1
              have HNX := Lib.hid hnx; clear hnx hsl hs1
              have htsm : smS tp.1 := by rw [htp]; exact timesC_sm (by rw [HVQ.out]; exact HVS.out q)
              have hvsm : smS vq := by rw [HVQ.out]; exact HVS.out q
              have HTS := Lib.hid htsm; clear htsm
              have HVM2 := Lib.hid hvsm; clear hvsm
              have HTP := Lib.hid htp; clear htp
              have HZP := Lib.hid hzp; clear hzp
              have htoz : (tn : Int) < (n : Int) := by omega
              have htoz0 : (0 : Int) ≤ (tn : Int) := by omega
              obtain ⟨w1d, hw1d⟩ : ∃ w1d, w1d = w1.drew := ⟨_, rfl⟩
              have HF1 : Hid (Fr (fun q => q = cb ∨ q = lb) w w1d) := Lib.hid (by rw [hw1d]; exact HF1.out.drew)
              have HBLK1 : Hid (w1d.heap[ab]? = some (.cells #[.int .i64 (D.ain q d), .int .i64 (D.aout q d), .string (D.aw q d), .int .i64 (tn : Int)] 83 (0, 0))) := Lib.hid (by rw [hw1d]; exact HBLK1.out)
              have HSC1 : Hid (Scl w1d cb D (.slice (some ⟨b, off, none⟩) n cp) star s1.2) := Lib.hid (by rw [hw1d]; exact HSC1.out)
              have HRL1 : Hid (w1d.rowIs lb 9 n (fun j => .string (s1.1 j))) := Lib.hid (by rw [hw1d]; exact HRL1.out)
              have hTab1 : Tab w1d := HTB.out.below (HB0.out.trans (HF1.out.below HB0.out.size (fun k hk => by rcases hk with rfl | rfl; exact HCB.out; exact HLB.out))) (Nat.le_refl _)
              have hS0 : w1d.cell? ⟨ab, 3, none⟩ = some (.int .i64 (tn : Int)) ∧ w1d.cell? ⟨ab, 2, none⟩ = some (.string (D.aw q d)) ∧ w1d.cell? ⟨lb, tn, none⟩ = some (.string (s1.1 tn)) :=
                ⟨by simp [World.cell?, HBLK1.out], by simp [World.cell?, HBLK1.out], HRL1.out.cell hton⟩
              have HTI := Lib.hid (wtimes_any vq (D.aw q d) w1d HSC1.out HVM2.out (HAW.out q d) hTab1)
              rw [← HTP.out] at HTI
              clear hTab1
              go_wp2_with fail
              refine region_heldK (fun wk' => wk'.cell? ⟨ab, 3, none⟩ = some (.int .i64 (tn : Int)) ∧ wk'.cell? ⟨ab, 2, none⟩ = some (.string (D.aw q d)) ∧ wk'.cell? ⟨lb, tn, none⟩ = some (.string (s1.1 tn))) 16 (by kernel_rfl) ?_
              rw [← hw1d]
              clear hw1d
              refine AnyK.tk (i := 0) (v := ?va0) rfl (by kernel_rfl) hS0 (Or.inl ⟨by kernel_rfl, ?hya0⟩) ?resta0
              case hya0 => rintro wk ⟨s1', s2', s3'⟩; go_simp; try with_reducible rfl
              refine AnyK.tk (i := 1) (v := ?va1) rfl (by kernel_rfl) hS0 (Or.inl ⟨by kernel_rfl, ?hya1⟩) ?resta1
              case hya1 => rintro wk ⟨s1', s2', s3'⟩; go_simp; try with_reducible rfl
              refine AnyK.tk (i := 2) (v := ?va2) rfl (by kernel_rfl) hS0 (Or.inl ⟨by kernel_rfl, ?hya2⟩) ?resta2
              case hya2 => rintro wk ⟨s1', s2', s3'⟩; go_simp; try with_reducible rfl
              refine AnyK.tk (i := 3) (v := ?va3) rfl (by kernel_rfl) hS0 (Or.inl ⟨by kernel_rfl, ?hya3⟩) ?resta3
              case hya3 => rintro wk ⟨s1', s2', s3'⟩; go_simp; try with_reducible rfl
              refine AnyK.tk (i := 4) (v := ?va4) rfl (by kernel_rfl) hS0 (Or.inl ⟨by kernel_rfl, ?hya4⟩) ?resta4
              case hya4 => rintro wk ⟨s1', s2', s3'⟩; go_simp; try with_reducible rfl
              refine AnyK.tk (i := 5) (v := ?va5) rfl (by kernel_rfl) hS0 (Or.inl ⟨by kernel_rfl, ?hya5⟩) ?resta5
              case hya5 => rintro wk ⟨s1', s2', s3'⟩; go_simp; try with_reducible rfl
              refine AnyK.tk (i := 6) (v := ?va6) rfl (by kernel_rfl) hS0 (Or.inl ⟨by kernel_rfl, ?hya6⟩) ?resta6
              case hya6 => rintro wk ⟨s1', s2', s3'⟩; go_simp; try with_reducible rfl
              refine AnyK.tk (i := 7) (v := ?va7) rfl (by kernel_rfl) hS0 (Or.inl ⟨by kernel_rfl, ?hya7⟩) ?resta7
              case hya7 => rintro wk ⟨s1', s2', s3'⟩; go_simp; try with_reducible rfl
              refine AnyK.tk (i := 8) (v := ?va8) rfl (by kernel_rfl) hS0 (Or.inl ⟨by kernel_rfl, ?hya8⟩) ?resta8
              case hya8 => rintro wk ⟨s1', s2', s3'⟩; go_simp; try with_reducible rfl
              refine AnyK.tk (i := 9) (v := ?va9) rfl (by kernel_rfl) hS0 (Or.inl ⟨by kernel_rfl, ?hya9⟩) ?resta9
              case hya9 => rintro wk ⟨s1', s2', s3'⟩; go_simp; try with_reducible rfl
              refine AnyK.tk (i := 10) (v := ?va10) rfl (by kernel_rfl) hS0 (Or.inl ⟨by kernel_rfl, ?hya10⟩) ?resta10
              case hya10 => rintro wk ⟨s1', s2', s3'⟩; go_simp; try with_reducible rfl
              refine AnyK.tk (i := 11) (v := ?va11) rfl (by kernel_rfl) hS0 (Or.inl ⟨by kernel_rfl, ?hya11⟩) ?resta11
              case hya11 => rintro wk ⟨s1', s2', s3'⟩; go_simp; try with_reducible rfl
              refine AnyK.tk (i := 12) (v := ?va12) rfl (by kernel_rfl) hS0 (Or.inl ⟨by kernel_rfl, ?hya12⟩) ?resta12
              case hya12 => rintro wk ⟨s1', s2', s3'⟩; go_simp; try with_reducible rfl
              try simp only [Act.put, List.setIfInBounds_toArray, List.set_cons_zero, List.set_cons_succ, List.getElem_toArray, List.getElem_cons_succ, List.getElem_cons_zero]
              refine AnyK.one (i := 13) rfl (by kernel_rfl) (by rfl) (fun K hK => ?_)
              go_simp
              refine HTI.out.mono ?_
              rintro r w2 ⟨rfl, hsc2, hf2⟩
              have hS1 : w2.cell? ⟨ab, 3, none⟩ = some (.int .i64 (tn : Int)) ∧ w2.cell? ⟨ab, 2, none⟩ = some (.string (D.aw q d)) ∧ w2.cell? ⟨lb, tn, none⟩ = some (.string (s1.1 tn)) :=
                ⟨hf2.cell hS0.1 hac, hf2.cell hS0.2.1 hac, hf2.cell hS0.2.2 (fun e => HCL.out e.symm)⟩
              have hf2' : Fr (fun q => q = cb ∨ q = lb) w w2 := HF1.out.trans (hf2.mono (fun _ _ e => .inl e))
              have hrl2 := hf2.row HRL1.out (fun e => HCL.out e.symm)
              have hblk2 := (hf2.block ab (lt_of_block HBLK1.out) hac).trans HBLK1.out
              have hTab2 : Tab w2 := HTB.out.below (HB0.out.trans (hf2'.below HB0.out.size (fun k hk => by rcases hk with rfl | rfl; exact HCB.out; exact HLB.out))) (Nat.le_refl _)
              have HPL := Lib.hid (wplus_any (s1.1 tn) tp.1 w2 hsc2 (HSZ1.out tn) HTS.out hTab2)
              rw [← HZP.out] at HPL
              have HF2 := Lib.hid hf2'; clear hf2' hf2
              have HRL3 := Lib.hid hrl2; clear hrl2
              have HBLK2 := Lib.hid hblk2; clear hblk2 hsc2 hTab2
              refine hK.out _ _ (.inr hS1) ?_
              clear hK K
              try simp only [Act.put, List.setIfInBounds_toArray, List.set_cons_zero, List.set_cons_succ, List.getElem_toArray, List.getElem_cons_succ, List.getElem_cons_zero]
              refine AnyK.one (i := 14) rfl (by kernel_rfl) (by rfl) (fun K hK => ?_)
              go_simp
              refine HPL.out.mono ?_
              rintro r w3 ⟨rfl, hsc3, hf3⟩
              have hS2 : w3.cell? ⟨ab, 3, none⟩ = some (.int .i64 (tn : Int)) ∧ w3.cell? ⟨ab, 2, none⟩ = some (.string (D.aw q d)) ∧ w3.cell? ⟨lb, tn, none⟩ = some (.string (s1.1 tn)) :=
                ⟨hf3.cell hS1.1 hac, hf3.cell hS1.2.1 hac, hf3.cell hS1.2.2 (fun e => HCL.out e.symm)⟩
              have hrl3 := hf3.row HRL3.out (fun e => HCL.out e.symm)
              have hf3' : Fr (fun q => q = cb ∨ q = lb) w w3 := HF2.out.trans (hf3.mono (fun _ _ e => .inl e))
              have fl := hrl3.frozen tn
              have HF3 := Lib.hid hf3'; clear hf3' hf3
              have HRL4 := Lib.hid hrl3; clear hrl3
              have HSC3 := Lib.hid hsc3; clear hsc3
              refine hK.out _ _ (.inr hS2) ?_
              clear hK K
              try simp only [Act.put, List.setIfInBounds_toArray, List.set_cons_zero, List.set_cons_succ, List.getElem_toArray, List.getElem_cons_succ, List.getElem_cons_zero]
              refine AnyK.tk (i := 15) (v := ?vb15) rfl (by kernel_rfl) hS2 (Or.inl ⟨by kernel_rfl, ?hyb15⟩) ?restb15
              case hyb15 => rintro wk ⟨s1', s2', s3'⟩; go_simp; try with_reducible rfl
              try simp only [Act.put, List.setIfInBounds_toArray, List.set_cons_zero, List.set_cons_succ, List.getElem_toArray, List.getElem_cons_succ, List.getElem_cons_zero]
              have gl := hS2.2.2
              refine AnyK.one (i := 16) rfl (by kernel_rfl) (by rfl) (fun K hK => ?_)
              go_simp
              refine hK.out _ _ (.inl rfl) (AnyK.done (by kernel_rfl) ?_ _)
              clear hK K
              go_wp2_with fail
              go_roundw
              case rel =>
                refine ⟨d + 1, by omega, by go_num, ?_, ?_, HF3.out.set (.inl (.inr rfl)) _⟩
                · rw [HNX.out]
                  exact (HRL4.out.set tn _).congr (fun j _ => by
                    show _ = Value.string (updS s1.1 tn zp.1 j)
                    unfold updS
                    by_cases e : j = tn
                    · rw [if_pos e, if_pos e]
                    · rw [if_neg e, if_neg e])
                · rw [HNX.out]
                  unfold Scl; rw [blk_setne (show cb ≠ lb from HCL.out)]; exact HSC3.out
              case measure => simp [intOf]; omega
          · have hdn : d = D.na q := by omega
            have hgt : ¬ ((d : Int) < (D.na q : Int)) := by omega
            have HDN := Lib.hid hdn; clear hdn
            go_wp2_with fail
            go_roundw
            case rel => exact ⟨q + 1, by omega, by go_num, by rw [HST.out, ← HDN.out]; exact HRL2.out, by rw [HST.out, ← HDN.out]; exact HSC2.out, HFR2.out⟩
            case measure => simp [intOf]; omega
      · have he0 : v q = ⟨#[]⟩ := by rw [← hvq]; exact empty_eq hE
        have hst : stepC D sel v (q + 1) (l, e) = stepC D sel v q (l, e) := by
          show rowC D sel v q _ = _; unfold rowC; rw [if_pos he0]
        have HST := Lib.hid hst; clear hst he0 hvq
        go_wp2_with fail
        go_roundw
        case rel => exact ⟨q + 1, by omega, by go_num, by rw [HST.out]; exact HRL.out, by rw [HST.out]; exact HSC.out, HFR.out⟩
        case measure => simp [intOf]; omega
    · have hqn : q = n := by omega
      have hgt : ¬ ((q : Int) < (n : Int)) := by omega
      have HQN := Lib.hid hqn; clear hqn
      go_wp2_with fail
      go_end0
      exact ⟨rfl, by rw [← HN.out]; rw [HQN.out] at HRL; exact HRL.out, by rw [HQN.out] at HSC; exact HSC.out, HFR.out⟩
end Go.Proofs.YtjekapjbigfkbaaGreatDoor
