/- Parts of a proof: RatR RatH RatW CutW. -/
import Derived.Test.YtjekapjbigfkbaaGreatDoorS09
import Derived.Handy
import Derived.Deep.RegionHeld2
import Derived.Deep.DrawnRows
import Derived.Recover
import Derived.Defers
import Derived.Test.YtjekapjbigfkbaaGreatDoorS04
import Derived.Lib.Bytealg
import Derived.Deep.QuietTactic
import Derived.BigQuiet
namespace Go.Proofs.YtjekapjbigfkbaaGreatDoor
open Go Go.RowKit
set_option maxRecDepth 100000
def PT : Ending := .panicked [{ v := .iface 150 (.agg #[]), recovered := false }]
def QEnd (q : Rat) (w : World) (e : Ending) (w' : World) : Prop := e = (if fitQ q then .returned (nv q) else PT) ∧ Below w.heap.size w w'
theorem res3 {w wk : World} {a b c : Value} {t : TypeId} (h : Below (w.alloc (.cells #[a, b, c] t)).heap.size (w.alloc (.cells #[a, b, c] t)) wk) :
    wk.cell? ⟨w.heap.size, 0, none⟩ = some a ∧ wk.cell? ⟨w.heap.size, 1, none⟩ = some b ∧ wk.cell? ⟨w.heap.size, 2, none⟩ = some c ∧ wk.frozen? ⟨w.heap.size, 0, none⟩ = false ∧ wk.frozen? ⟨w.heap.size, 1, none⟩ = false ∧ wk.frozen? ⟨w.heap.size, 2, none⟩ = false ∧ w.heap.size < wk.heap.size := by
  have hs := h.size
  have hlt : w.heap.size < (w.alloc (.cells #[a, b, c] t)).heap.size := by simp
  refine ⟨?_, ?_, ?_, ?_, ?_, ?_, by omega⟩
  · exact (h.cell (p := ⟨w.heap.size, 0, none⟩) hlt).trans (by simp)
  · exact (h.cell (p := ⟨w.heap.size, 1, none⟩) hlt).trans (by simp)
  · exact (h.cell (p := ⟨w.heap.size, 2, none⟩) hlt).trans (by simp)
  · exact (h.frozen (p := ⟨w.heap.size, 0, none⟩) hlt).trans (by simp)
  · exact (h.frozen (p := ⟨w.heap.size, 1, none⟩) hlt).trans (by simp)
  · exact (h.frozen (p := ⟨w.heap.size, 2, none⟩) hlt).trans (by simp)
theorem set3 {w : World} {n : Nat} {a b c a' b' c' : Value} (k0 : w.cell? ⟨n, 0, none⟩ = some a) (k1 : w.cell? ⟨n, 1, none⟩ = some b) (k2 : w.cell? ⟨n, 2, none⟩ = some c) :
    (((w.setCell ⟨n, 0, none⟩ a').setCell ⟨n, 1, none⟩ b').setCell ⟨n, 2, none⟩ c').cell? ⟨n, 0, none⟩ = some a' ∧ (((w.setCell ⟨n, 0, none⟩ a').setCell ⟨n, 1, none⟩ b').setCell ⟨n, 2, none⟩ c').cell? ⟨n, 1, none⟩ = some b' ∧ (((w.setCell ⟨n, 0, none⟩ a').setCell ⟨n, 1, none⟩ b').setCell ⟨n, 2, none⟩ c').cell? ⟨n, 2, none⟩ = some c' := by
  refine ⟨?_, ?_, ?_⟩ <;> simp [go_sem, k0, k1, k2]
theorem num_result {fn : Func} {p : Tmp} (h : fn.results = #[.cell p 107]) (tmps : Array Value) (W : World) (n : Nat) (r : Bool) (x y : ByteArray)
    (ht : tmps.getD p undef = .pointer (some ⟨n, 0, none⟩)) (c0 : W.cell? ⟨n, 0, none⟩ = some (.bool r)) (c1 : W.cell? ⟨n, 1, none⟩ = some (.string x)) (c2 : W.cell? ⟨n, 2, none⟩ = some (.string y)) :
    (results fn tmps).run Tryz.prog W = .ok (.agg #[.bool r, .string x, .string y]) W := by
  have ht' : tmps[p]?.getD undef = .pointer (some ⟨n, 0, none⟩) := by rw [← ht]; simp
  simp only [results, h]
  simp [ht', go_sem, c0, c1, c2]
set_option maxHeartbeats 4000000 in
theorem reduce_raw (s : Bool) (a b g x y : ByteArray) (r : Bool) (w : World) (hr : (s = false ∧ r = false) ∨ (s = true ∧ (a.toList == [48]) = !r))
    (hx : x.size ≤ 1000) (hy : y.size ≤ 1000)
    (c1 : ∀ wx, Below w.heap.size w wx → Calls Tryz.prog 118 #[.string a, .string b] wx (StrZ g wx))
    (c2 : ∀ wx, Below w.heap.size w wx → Calls Tryz.prog 119 #[.string a, .string g] wx (StrE x wx))
    (c3 : ∀ wx, Below w.heap.size w wx → Calls Tryz.prog 119 #[.string b, .string g] wx (StrE y wx)) :
    Calls Tryz.prog 72 #[.bool s, .string a, .string b] w fun e w' =>
      e = (if x.size ≤ 400 ∧ y.size ≤ 400 then .returned (nvS r x y) else PT) ∧ Below w.heap.size w w' := by
  have C1 := Lib.hid c1; clear c1
  have C2 := Lib.hid c2; clear c2
  have C3 := Lib.hid c3; clear c3
  have hbl : Below w.heap.size w (w.alloc (.cells #[.bool false, .string ⟨#[]⟩, .string ⟨#[]⟩] 107)) := (Below.refl _ _).alloc (Nat.le_refl _) _
  have HB0 := Lib.hid hbl; clear hbl
  have hcase : (x.size ≤ 400 ∧ y.size ≤ 400) ∨ (x.size ≤ 400 ∧ 400 < y.size) ∨ 400 < x.size := by omega
  unfold PT nvS
  rcases hr with ⟨rfl, rfl⟩ | ⟨rfl, hz⟩
  · -- no sign
    rcases hcase with ⟨h1, h2⟩ | ⟨h1, h2⟩ | h1
    · rw [if_pos ⟨h1, h2⟩]
      have g1 : (x.size : Int) ≤ 400 := by omega
      have g2 : (y.size : Int) ≤ 400 := by omega
      clear h1 h2
      clear hx hy
      go_enter Tryz.func72, Tryz.ntmps72
      go_wp2_with fail
      refine (C1.out _ HB0.out).mono ?_
      rintro e w1 ⟨rfl, hb1⟩
      have HS1 := Lib.hid hb1
      have HB1 := Lib.hid (HB0.out.trans (hb1.mono HB0.out.size)); clear hb1
      go_wp2_with fail
      refine (must_ok _ _).mono ?_
      rintro e w2 ⟨rfl, rfl⟩
      go_wp2_with fail
      refine (C2.out _ HB1.out).mono ?_
      rintro e w2 ⟨rfl, hb2⟩
      have HS2 := Lib.hid (HS1.out.trans (hb2.mono HS1.out.size))
      have HB2 := Lib.hid (HB1.out.trans (hb2.mono HB1.out.size)); clear hb2
      go_wp2_with fail
      refine (C3.out _ HB2.out).mono ?_
      rintro e w3 ⟨rfl, hb3⟩
      have HS3 := Lib.hid (HS2.out.trans (hb3.mono HS2.out.size))
      have HB3 := Lib.hid (HB2.out.trans (hb3.mono HB2.out.size)); clear hb3
      obtain ⟨k0, k1, k2, f0, f1, f2, hlt⟩ := res3 HS3.out
      have HZ := Lib.hid HB3.out.size
      go_wp2_with fail
      obtain ⟨s0, s1, s2⟩ := set3 (a' := .bool false) (b' := .string x) (c' := .string y) k0 k1 k2
      refine bodyPost_ret (num_result rfl _ _ w.heap.size false x y rfl ?_ ?_ ?_) rfl ⟨rfl, ?_⟩
      · rw [World.cell?_alloc_past (hn := by simpa using hlt)]; exact s0
      · rw [World.cell?_alloc_past (hn := by simpa using hlt)]; exact s1
      · rw [World.cell?_alloc_past (hn := by simpa using hlt)]; exact s2
      · exact (((HB3.out.setCell (Nat.le_refl _) _).setCell (Nat.le_refl _) _).setCell (Nat.le_refl _) _).alloc (by simpa using HZ.out) _
    · rw [if_neg (fun h => by omega)]
      have g1 : (x.size : Int) ≤ 400 := by omega
      have g2 : (400 : Int) < (y.size : Int) := by omega
      clear h1 h2
      clear hx hy
      go_enter Tryz.func72, Tryz.ntmps72
      go_wp2_with fail
      refine (C1.out _ HB0.out).mono ?_
      rintro e w1 ⟨rfl, hb1⟩
      have HS1 := Lib.hid hb1
      have HB1 := Lib.hid (HB0.out.trans (hb1.mono HB0.out.size)); clear hb1
      go_wp2_with fail
      refine (must_ok _ _).mono ?_
      rintro e w2 ⟨rfl, rfl⟩
      go_wp2_with fail
      refine (C2.out _ HB1.out).mono ?_
      rintro e w2 ⟨rfl, hb2⟩
      have HS2 := Lib.hid (HS1.out.trans (hb2.mono HS1.out.size))
      have HB2 := Lib.hid (HB1.out.trans (hb2.mono HB1.out.size)); clear hb2
      go_wp2_with fail
      refine (C3.out _ HB2.out).mono ?_
      rintro e w3 ⟨rfl, hb3⟩
      have HS3 := Lib.hid (HS2.out.trans (hb3.mono HS2.out.size))
      have HB3 := Lib.hid (HB2.out.trans (hb3.mono HB2.out.size)); clear hb3
      obtain ⟨k0, k1, k2, f0, f1, f2, hlt⟩ := res3 HS3.out
      have HZ := Lib.hid HB3.out.size
      go_wp2_with fail
      exact ⟨rfl, rfl, HB3.out.alloc HZ.out _⟩
    · rw [if_neg (fun h => by omega)]
      have g1 : (400 : Int) < (x.size : Int) := by omega
      clear h1
      clear hx hy
      go_enter Tryz.func72, Tryz.ntmps72
      go_wp2_with fail
      refine (C1.out _ HB0.out).mono ?_
      rintro e w1 ⟨rfl, hb1⟩
      have HS1 := Lib.hid hb1
      have HB1 := Lib.hid (HB0.out.trans (hb1.mono HB0.out.size)); clear hb1
      go_wp2_with fail
      refine (must_ok _ _).mono ?_
      rintro e w2 ⟨rfl, rfl⟩
      go_wp2_with fail
      refine (C2.out _ HB1.out).mono ?_
      rintro e w2 ⟨rfl, hb2⟩
      have HS2 := Lib.hid (HS1.out.trans (hb2.mono HS1.out.size))
      have HB2 := Lib.hid (HB1.out.trans (hb2.mono HB1.out.size)); clear hb2
      go_wp2_with fail
      refine (C3.out _ HB2.out).mono ?_
      rintro e w3 ⟨rfl, hb3⟩
      have HS3 := Lib.hid (HS2.out.trans (hb3.mono HS2.out.size))
      have HB3 := Lib.hid (HB2.out.trans (hb3.mono HB2.out.size)); clear hb3
      obtain ⟨k0, k1, k2, f0, f1, f2, hlt⟩ := res3 HS3.out
      have HZ := Lib.hid HB3.out.size
      go_wp2_with fail
      exact ⟨rfl, rfl, HB3.out.alloc HZ.out _⟩
  · cases r <;> simp only [Bool.not_true, Bool.not_false] at hz
    · -- zero
      rcases hcase with ⟨h1, h2⟩ | ⟨h1, h2⟩ | h1
      · rw [if_pos ⟨h1, h2⟩]
        have g1 : (x.size : Int) ≤ 400 := by omega
        have g2 : (y.size : Int) ≤ 400 := by omega
        clear h1 h2
        clear hx hy
        go_enter Tryz.func72, Tryz.ntmps72
        go_wp2_with fail
        refine (C1.out _ HB0.out).mono ?_
        rintro e w1 ⟨rfl, hb1⟩
        have HS1 := Lib.hid hb1
        have HB1 := Lib.hid (HB0.out.trans (hb1.mono HB0.out.size)); clear hb1
        go_wp2_with fail
        refine (must_ok _ _).mono ?_
        rintro e w2 ⟨rfl, rfl⟩
        go_wp2_with fail
        refine (C2.out _ HB1.out).mono ?_
        rintro e w2 ⟨rfl, hb2⟩
        have HS2 := Lib.hid (HS1.out.trans (hb2.mono HS1.out.size))
        have HB2 := Lib.hid (HB1.out.trans (hb2.mono HB1.out.size)); clear hb2
        go_wp2_with fail
        refine (C3.out _ HB2.out).mono ?_
        rintro e w3 ⟨rfl, hb3⟩
        have HS3 := Lib.hid (HS2.out.trans (hb3.mono HS2.out.size))
        have HB3 := Lib.hid (HB2.out.trans (hb3.mono HB2.out.size)); clear hb3
        obtain ⟨k0, k1, k2, f0, f1, f2, hlt⟩ := res3 HS3.out
        have HZ := Lib.hid HB3.out.size
        go_wp2_with fail
        obtain ⟨s0, s1, s2⟩ := set3 (a' := .bool false) (b' := .string x) (c' := .string y) k0 k1 k2
        refine bodyPost_ret (num_result rfl _ _ w.heap.size false x y rfl ?_ ?_ ?_) rfl ⟨rfl, ?_⟩
        · rw [World.cell?_alloc_past (hn := by simpa using hlt)]; exact s0
        · rw [World.cell?_alloc_past (hn := by simpa using hlt)]; exact s1
        · rw [World.cell?_alloc_past (hn := by simpa using hlt)]; exact s2
        · exact (((HB3.out.setCell (Nat.le_refl _) _).setCell (Nat.le_refl _) _).setCell (Nat.le_refl _) _).alloc (by simpa using HZ.out) _
      · rw [if_neg (fun h => by omega)]
        have g1 : (x.size : Int) ≤ 400 := by omega
        have g2 : (400 : Int) < (y.size : Int) := by omega
        clear h1 h2
        clear hx hy
        go_enter Tryz.func72, Tryz.ntmps72
        go_wp2_with fail
        refine (C1.out _ HB0.out).mono ?_
        rintro e w1 ⟨rfl, hb1⟩
        have HS1 := Lib.hid hb1
        have HB1 := Lib.hid (HB0.out.trans (hb1.mono HB0.out.size)); clear hb1
        go_wp2_with fail
        refine (must_ok _ _).mono ?_
        rintro e w2 ⟨rfl, rfl⟩
        go_wp2_with fail
        refine (C2.out _ HB1.out).mono ?_
        rintro e w2 ⟨rfl, hb2⟩
        have HS2 := Lib.hid (HS1.out.trans (hb2.mono HS1.out.size))
        have HB2 := Lib.hid (HB1.out.trans (hb2.mono HB1.out.size)); clear hb2
        go_wp2_with fail
        refine (C3.out _ HB2.out).mono ?_
        rintro e w3 ⟨rfl, hb3⟩
        have HS3 := Lib.hid (HS2.out.trans (hb3.mono HS2.out.size))
        have HB3 := Lib.hid (HB2.out.trans (hb3.mono HB2.out.size)); clear hb3
        obtain ⟨k0, k1, k2, f0, f1, f2, hlt⟩ := res3 HS3.out
        have HZ := Lib.hid HB3.out.size
        go_wp2_with fail
        exact ⟨rfl, rfl, HB3.out.alloc HZ.out _⟩
      · rw [if_neg (fun h => by omega)]
        have g1 : (400 : Int) < (x.size : Int) := by omega
        clear h1
        clear hx hy
        go_enter Tryz.func72, Tryz.ntmps72
        go_wp2_with fail
        refine (C1.out _ HB0.out).mono ?_
        rintro e w1 ⟨rfl, hb1⟩
        have HS1 := Lib.hid hb1
        have HB1 := Lib.hid (HB0.out.trans (hb1.mono HB0.out.size)); clear hb1
        go_wp2_with fail
        refine (must_ok _ _).mono ?_
        rintro e w2 ⟨rfl, rfl⟩
        go_wp2_with fail
        refine (C2.out _ HB1.out).mono ?_
        rintro e w2 ⟨rfl, hb2⟩
        have HS2 := Lib.hid (HS1.out.trans (hb2.mono HS1.out.size))
        have HB2 := Lib.hid (HB1.out.trans (hb2.mono HB1.out.size)); clear hb2
        go_wp2_with fail
        refine (C3.out _ HB2.out).mono ?_
        rintro e w3 ⟨rfl, hb3⟩
        have HS3 := Lib.hid (HS2.out.trans (hb3.mono HS2.out.size))
        have HB3 := Lib.hid (HB2.out.trans (hb3.mono HB2.out.size)); clear hb3
        obtain ⟨k0, k1, k2, f0, f1, f2, hlt⟩ := res3 HS3.out
        have HZ := Lib.hid HB3.out.size
        go_wp2_with fail
        exact ⟨rfl, rfl, HB3.out.alloc HZ.out _⟩
    · -- not zero
      rcases hcase with ⟨h1, h2⟩ | ⟨h1, h2⟩ | h1
      · rw [if_pos ⟨h1, h2⟩]
        have g1 : (x.size : Int) ≤ 400 := by omega
        have g2 : (y.size : Int) ≤ 400 := by omega
        clear h1 h2
        clear hx hy
        go_enter Tryz.func72, Tryz.ntmps72
        go_wp2_with fail
        refine (C1.out _ HB0.out).mono ?_
        rintro e w1 ⟨rfl, hb1⟩
        have HS1 := Lib.hid hb1
        have HB1 := Lib.hid (HB0.out.trans (hb1.mono HB0.out.size)); clear hb1
        go_wp2_with fail
        refine (must_ok _ _).mono ?_
        rintro e w2 ⟨rfl, rfl⟩
        go_wp2_with fail
        refine (C2.out _ HB1.out).mono ?_
        rintro e w2 ⟨rfl, hb2⟩
        have HS2 := Lib.hid (HS1.out.trans (hb2.mono HS1.out.size))
        have HB2 := Lib.hid (HB1.out.trans (hb2.mono HB1.out.size)); clear hb2
        go_wp2_with fail
        refine (C3.out _ HB2.out).mono ?_
        rintro e w3 ⟨rfl, hb3⟩
        have HS3 := Lib.hid (HS2.out.trans (hb3.mono HS2.out.size))
        have HB3 := Lib.hid (HB2.out.trans (hb3.mono HB2.out.size)); clear hb3
        obtain ⟨k0, k1, k2, f0, f1, f2, hlt⟩ := res3 HS3.out
        have HZ := Lib.hid HB3.out.size
        go_wp2_with fail
        obtain ⟨s0, s1, s2⟩ := set3 (a' := .bool true) (b' := .string x) (c' := .string y) k0 k1 k2
        refine bodyPost_ret (num_result rfl _ _ w.heap.size true x y rfl ?_ ?_ ?_) rfl ⟨rfl, ?_⟩
        · rw [World.cell?_alloc_past (hn := by simpa using hlt)]; exact s0
        · rw [World.cell?_alloc_past (hn := by simpa using hlt)]; exact s1
        · rw [World.cell?_alloc_past (hn := by simpa using hlt)]; exact s2
        · exact (((HB3.out.setCell (Nat.le_refl _) _).setCell (Nat.le_refl _) _).setCell (Nat.le_refl _) _).alloc (by simpa using HZ.out) _
      · rw [if_neg (fun h => by omega)]
        have g1 : (x.size : Int) ≤ 400 := by omega
        have g2 : (400 : Int) < (y.size : Int) := by omega
        clear h1 h2
        clear hx hy
        go_enter Tryz.func72, Tryz.ntmps72
        go_wp2_with fail
        refine (C1.out _ HB0.out).mono ?_
        rintro e w1 ⟨rfl, hb1⟩
        have HS1 := Lib.hid hb1
        have HB1 := Lib.hid (HB0.out.trans (hb1.mono HB0.out.size)); clear hb1
        go_wp2_with fail
        refine (must_ok _ _).mono ?_
        rintro e w2 ⟨rfl, rfl⟩
        go_wp2_with fail
        refine (C2.out _ HB1.out).mono ?_
        rintro e w2 ⟨rfl, hb2⟩
        have HS2 := Lib.hid (HS1.out.trans (hb2.mono HS1.out.size))
        have HB2 := Lib.hid (HB1.out.trans (hb2.mono HB1.out.size)); clear hb2
        go_wp2_with fail
        refine (C3.out _ HB2.out).mono ?_
        rintro e w3 ⟨rfl, hb3⟩
        have HS3 := Lib.hid (HS2.out.trans (hb3.mono HS2.out.size))
        have HB3 := Lib.hid (HB2.out.trans (hb3.mono HB2.out.size)); clear hb3
        obtain ⟨k0, k1, k2, f0, f1, f2, hlt⟩ := res3 HS3.out
        have HZ := Lib.hid HB3.out.size
        go_wp2_with fail
        exact ⟨rfl, rfl, HB3.out.alloc HZ.out _⟩
      · rw [if_neg (fun h => by omega)]
        have g1 : (400 : Int) < (x.size : Int) := by omega
        clear h1
        clear hx hy
        go_enter Tryz.func72, Tryz.ntmps72
        go_wp2_with fail
        refine (C1.out _ HB0.out).mono ?_
        rintro e w1 ⟨rfl, hb1⟩
        have HS1 := Lib.hid hb1
        have HB1 := Lib.hid (HB0.out.trans (hb1.mono HB0.out.size)); clear hb1
        go_wp2_with fail
        refine (must_ok _ _).mono ?_
        rintro e w2 ⟨rfl, rfl⟩
        go_wp2_with fail
        refine (C2.out _ HB1.out).mono ?_
        rintro e w2 ⟨rfl, hb2⟩
        have HS2 := Lib.hid (HS1.out.trans (hb2.mono HS1.out.size))
        have HB2 := Lib.hid (HB1.out.trans (hb2.mono HB1.out.size)); clear hb2
        go_wp2_with fail
        refine (C3.out _ HB2.out).mono ?_
        rintro e w3 ⟨rfl, hb3⟩
        have HS3 := Lib.hid (HS2.out.trans (hb3.mono HS2.out.size))
        have HB3 := Lib.hid (HB2.out.trans (hb3.mono HB2.out.size)); clear hb3
        obtain ⟨k0, k1, k2, f0, f1, f2, hlt⟩ := res3 HS3.out
        have HZ := Lib.hid HB3.out.size
        go_wp2_with fail
        exact ⟨rfl, rfl, HB3.out.alloc HZ.out _⟩
theorem reduce_sd (s : Bool) (m d : Nat) (w : World) (hm : fits m) (hd : fits d) (h0 : d ≠ 0) (ht : Tab w) :
    Calls Tryz.prog 72 #[.bool s, .string (str (dec m)), .string (str (dec d))] w (QEnd (mkRat (sg s m) d) w) := by
  obtain ⟨e1, e2, e3⟩ := mkRat_red (sg s m) d h0
  rw [sg_abs] at e1 e2
  have hg : fits (Nat.gcd m d) := fits_le hd (Nat.le_of_dvd (Nat.pos_of_ne_zero h0) (Nat.gcd_dvd_right _ _))
  have hg0 : Nat.gcd m d ≠ 0 := by have := Nat.gcd_pos_of_pos_right m (Nat.pos_of_ne_zero h0); omega
  have hT : ∀ wx, Below w.heap.size w wx → Tab wx := fun wx h => ht.below h (Nat.le_refl _)
  have f1 : fits (m / Nat.gcd m d) := fits_le hm (Nat.div_le_self _ _)
  have f2 : fits (d / Nat.gcd m d) := fits_le hd (Nat.div_le_self _ _)
  have hc := reduce_raw s (str (dec m)) (str (dec d)) (str (dec (Nat.gcd m d))) (str (dec (m / Nat.gcd m d))) (str (dec (d / Nat.gcd m d))) (negQ (mkRat (sg s m) d)) w ?_ ?_ ?_
    (fun wx h => ngcd_sd m d wx hm hd (hT wx h)) (fun wx h => quot_sd m _ wx hm hg hg0 (hT wx h)) (fun wx h => quot_sd d _ wx hd hg hg0 (hT wx h))
  · refine hc.mono ?_
    rintro e w' ⟨rfl, hb⟩
    refine ⟨?_, hb⟩
    have hf : fitQ (mkRat (sg s m) d) ↔ ((str (dec (m / Nat.gcd m d))).size ≤ 400 ∧ (str (dec (d / Nat.gcd m d))).size ≤ 400) := by
      unfold fitQ; rw [e1, e2, str_size, str_size]
    have hn : nv (mkRat (sg s m) d) = nvS (negQ (mkRat (sg s m) d)) (str (dec (m / Nat.gcd m d))) (str (dec (d / Nat.gcd m d))) := by
      unfold nv; rw [e1, e2]
    rw [hn]
    by_cases h : fitQ (mkRat (sg s m) d)
    · rw [if_pos h, if_pos (hf.1 h)]
    · rw [if_neg h, if_neg (fun e => h (hf.2 e))]
  · rw [e3]
    cases s
    · left; refine ⟨rfl, ?_⟩; rw [decide_eq_false_iff_not, sg_neg]; simp
    · right; refine ⟨rfl, ?_⟩
      by_cases hz : m = 0
      · subst hz; rw [dec_zero, Lib.toList_data]; rfl
      · have : (decide (sg true m < 0)) = true := by rw [decide_eq_true_eq, sg_neg]; exact ⟨rfl, hz⟩
        rw [this]
        exact ne_list (l := [48]) (fun e => hz (dec_inj ((by have := congrArg bts e; rw [bts_str, bts_str] at this; exact this : dec m = [48]).trans dec_zero.symm)))
  · rw [str_size]; exact f1
  · rw [str_size]; exact f2
end Go.Proofs.YtjekapjbigfkbaaGreatDoor

namespace Go.Proofs.YtjekapjbigfkbaaGreatDoor
open Go Go.RowKit
set_option maxRecDepth 100000
theorem next_below {W a b : World} (h : Below W.heap.size W a) (hb : Below a.heap.size a b) : Below W.heap.size W b := h.trans (hb.mono h.size)
def WR (p q : Bool) (xn xd yn yd : ByteArray) (w : World) : World :=
  ((w.alloc (.cells #[.bool p, .string xn, .string xd] 107)).alloc (.cells #[.bool q, .string yn, .string yd] 107)).alloc (.cells #[.bool false, .string ⟨#[]⟩, .string ⟨#[]⟩] 107)
theorem WR_below (p q : Bool) (xn xd yn yd : ByteArray) (w : World) : Below w.heap.size w (WR p q xn xd yn yd w) := by
  unfold WR
  exact (((Below.refl _ _).alloc (Nat.le_refl _) _).alloc (by simp) _).alloc (by simp; omega) _
theorem WR_cells {p q : Bool} {xn xd yn yd : ByteArray} {w wk : World} (h : Below (WR p q xn xd yn yd w).heap.size (WR p q xn xd yn yd w) wk) :
    Below (WR p q xn xd yn yd w).heap.size (WR p q xn xd yn yd w) wk ∧
    wk.cell? ⟨w.heap.size, 0, none⟩ = some (.bool p) ∧ wk.cell? ⟨w.heap.size, 1, none⟩ = some (.string xn) ∧ wk.cell? ⟨w.heap.size, 2, none⟩ = some (.string xd) ∧
    wk.cell? ⟨w.heap.size + 1, 0, none⟩ = some (.bool q) ∧ wk.cell? ⟨w.heap.size + 1, 1, none⟩ = some (.string yn) ∧ wk.cell? ⟨w.heap.size + 1, 2, none⟩ = some (.string yd) := by
  have hlt : ∀ k, k < 3 → w.heap.size + k < (WR p q xn xd yn yd w).heap.size := by intro k hk; unfold WR; simp; omega
  refine ⟨h, ?_, ?_, ?_, ?_, ?_, ?_⟩
  · exact (h.cell (p := ⟨w.heap.size, 0, none⟩) (hlt 0 (by omega))).trans (by simp [WR, go_sem])
  · exact (h.cell (p := ⟨w.heap.size, 1, none⟩) (hlt 0 (by omega))).trans (by simp [WR, go_sem])
  · exact (h.cell (p := ⟨w.heap.size, 2, none⟩) (hlt 0 (by omega))).trans (by simp [WR, go_sem])
  · exact (h.cell (p := ⟨w.heap.size + 1, 0, none⟩) (hlt 1 (by omega))).trans (by simp [WR, go_sem])
  · exact (h.cell (p := ⟨w.heap.size + 1, 1, none⟩) (hlt 1 (by omega))).trans (by simp [WR, go_sem])
  · exact (h.cell (p := ⟨w.heap.size + 1, 2, none⟩) (hlt 1 (by omega))).trans (by simp [WR, go_sem])
theorem WR_res {p q : Bool} {xn xd yn yd : ByteArray} {w wk : World} (h : Below (WR p q xn xd yn yd w).heap.size (WR p q xn xd yn yd w) wk) :
    wk.cell? ⟨w.heap.size + 1 + 1, 0, none⟩ = some (.bool false) ∧ wk.cell? ⟨w.heap.size + 1 + 1, 1, none⟩ = some (.string ⟨#[]⟩) ∧ wk.cell? ⟨w.heap.size + 1 + 1, 2, none⟩ = some (.string ⟨#[]⟩) ∧
    wk.frozen? ⟨w.heap.size + 1 + 1, 0, none⟩ = false ∧ wk.frozen? ⟨w.heap.size + 1 + 1, 1, none⟩ = false ∧ wk.frozen? ⟨w.heap.size + 1 + 1, 2, none⟩ = false := by
  have e : w.heap.size + 1 + 1 = ((w.alloc (.cells #[.bool p, .string xn, .string xd] 107)).alloc (.cells #[.bool q, .string yn, .string yd] 107)).heap.size := by simp
  rw [e]
  obtain ⟨k0, k1, k2, f0, f1, f2, _⟩ := res3 h
  exact ⟨k0, k1, k2, f0, f1, f2⟩
theorem fakeK {P : Program} {fn : Func} {R : Ending → World → Prop} {c : List PanicEntry} {a : Act} {w : World} {S : World → Prop} {G : Act → World → Prop} {K' : Act → World → Prop}
    (_ : Shut (∀ a w, S w → (S w → G a w) → K' a w)) (d : Tmp) (v : Value) (h : bodyPost P fn R (.panic c) a w) (_ : Hid False → K' (a.put (some d) v) w) : bodyPost P fn R (.panic c) a w := h
theorem WR_lo {p q : Bool} {xn xd yn yd : ByteArray} {w wk : World} (h : Below (WR p q xn xd yn yd w).heap.size (WR p q xn xd yn yd w) wk) : Below (w.heap.size + 1 + 1) (WR p q xn xd yn yd w) wk := by
  refine h.mono ?_
  unfold WR; simp
theorem WR_cells2 {p q : Bool} {xn xd yn yd : ByteArray} {w wk : World} (h : Below (w.heap.size + 1 + 1) (WR p q xn xd yn yd w) wk) :
    Below (w.heap.size + 1 + 1) (WR p q xn xd yn yd w) wk ∧
    wk.cell? ⟨w.heap.size, 0, none⟩ = some (.bool p) ∧ wk.cell? ⟨w.heap.size, 1, none⟩ = some (.string xn) ∧ wk.cell? ⟨w.heap.size, 2, none⟩ = some (.string xd) ∧
    wk.cell? ⟨w.heap.size + 1, 0, none⟩ = some (.bool q) ∧ wk.cell? ⟨w.heap.size + 1, 1, none⟩ = some (.string yn) ∧ wk.cell? ⟨w.heap.size + 1, 2, none⟩ = some (.string yd) := by
  have l0 : w.heap.size < w.heap.size + 1 + 1 := by omega
  have l1 : w.heap.size + 1 < w.heap.size + 1 + 1 := by omega
  refine ⟨h, ?_, ?_, ?_, ?_, ?_, ?_⟩
  · exact (h.cell (p := ⟨w.heap.size, 0, none⟩) l0).trans (by simp [WR, go_sem])
  · exact (h.cell (p := ⟨w.heap.size, 1, none⟩) l0).trans (by simp [WR, go_sem])
  · exact (h.cell (p := ⟨w.heap.size, 2, none⟩) l0).trans (by simp [WR, go_sem])
  · exact (h.cell (p := ⟨w.heap.size + 1, 0, none⟩) l1).trans (by simp [WR, go_sem])
  · exact (h.cell (p := ⟨w.heap.size + 1, 1, none⟩) l1).trans (by simp [WR, go_sem])
  · exact (h.cell (p := ⟨w.heap.size + 1, 2, none⟩) l1).trans (by simp [WR, go_sem])
end Go.Proofs.YtjekapjbigfkbaaGreatDoor

namespace Go.Proofs.YtjekapjbigfkbaaGreatDoor
open Go Go.RowKit
set_option maxRecDepth 100000
theorem assert_nil (w : World) : (Instr.typeAssert .nilIface 20 150 true).run Tryz.prog w = .ok (.tuple #[.agg #[], .bool false]) w := by kernel_rfl
theorem assert_long (w : World) : (Instr.typeAssert (.iface 150 (.agg #[])) 20 150 true).run Tryz.prog w = .ok (.tuple #[.agg #[], .bool true]) w := by kernel_rfl
set_option maxHeartbeats 2000000 in
theorem catch_idle (p q : Addr) (w : World) :
    CallsD Tryz.prog 147 #[.pointer (some p), .pointer (some q)] .returning w fun e u' w' => e = .returned (.tuple #[]) ∧ u' = .returning ∧ Below w.heap.size w w' := by
  have hbl : Below w.heap.size w (w.alloc (.cells #[] 150)) := (Below.refl _ _).alloc (Nat.le_refl _) _
  refine callsD_of_wpS Tryz.func147 rfl fun c₀ cs hu => ?_
  simp only [Tryz.ntmps147, List.size_toArray, List.length_cons, List.length_nil, Nat.reduceAdd, Nat.reduceSub, Array.replicate_succ,
     Array.replicate_zero, List.push_toArray, List.append_toArray, List.nil_append, List.cons_append]
  apply wpS_seq
  apply wpS_region
  simp [wpOpsS, go_sem, recoverD, hu, Exit.thenS, assert_nil]
  refine wpS_of_wp ?_
  go_wp2
  refine ⟨rfl, .returning, ?_, .tuple #[], ?_, rfl, rfl, hbl⟩
  · rw [← hu]
  · exact results_none rfl _ _ _
set_option maxHeartbeats 2000000 in
theorem catch_long (b c : Nat) (w : World) (s : ByteArray) (n : Int) (hp : w.cell? ⟨b, 0, none⟩ = some (.string s)) (hq : w.cell? ⟨c, 0, none⟩ = some (.int .i64 n)) (fp : w.frozen? ⟨b, 0, none⟩ = false) (fq : w.frozen? ⟨c, 0, none⟩ = false) (hb : b < w.heap.size) (hc : c < w.heap.size) (hbc : ¬ b = c) :
    CallsD Tryz.prog 147 #[.pointer (some ⟨b, 0, none⟩), .pointer (some ⟨c, 0, none⟩)] (.panicking ({ v := .iface 150 (.agg #[]), recovered := false } :: [])) w fun e u' w' =>
      e = .returned (.tuple #[]) ∧ u' = .panicking ({ v := .iface 150 (.agg #[]), recovered := true } :: []) ∧ w'.cell? ⟨b, 0, none⟩ = some (.string ⟨#[]⟩) ∧ w'.cell? ⟨c, 0, none⟩ = some (.int .i64 2) ∧
        ∀ B a, Below B a w → B ≤ b → B ≤ c → Below B a w' := by
  refine callsD_of_wpS Tryz.func147 rfl fun c₀ cs hu => ?_
  simp only [Tryz.ntmps147, List.size_toArray, List.length_cons, List.length_nil, Nat.reduceAdd, Nat.reduceSub, Array.replicate_succ,
     Array.replicate_zero, List.push_toArray, List.append_toArray, List.nil_append, List.cons_append]
  apply wpS_seq
  apply wpS_region
  simp [wpOpsS, go_sem, recoverD, hu, Exit.thenS, assert_long]
  refine wpS_of_wp ?_
  go_wp2
  have e1 : (w.setCell ⟨b, 0, none⟩ (.string ⟨#[]⟩)).cell? ⟨b, 0, none⟩ = some (.string ⟨#[]⟩) := World.cell?_setCell_same _ _ _ hp
  have e2 : (w.setCell ⟨b, 0, none⟩ (.string ⟨#[]⟩)).cell? ⟨c, 0, none⟩ = some (.int .i64 n) := (World.cell?_setCell_other _ ⟨b, 0, none⟩ ⟨c, 0, none⟩ _ (fun e => hbc (by injection e))).trans hq
  have e3 := World.cell?_setCell_same _ _ (.int .i64 2) e2
  have e4 := (World.cell?_setCell_other _ ⟨c, 0, none⟩ ⟨b, 0, none⟩ (.int .i64 2) (fun e => hbc (by injection e with e _; exact e.symm))).trans e1
  have hs : ∀ (x y : Value), ((w.setCell ⟨b, 0, none⟩ x).setCell ⟨c, 0, none⟩ y).heap.size = w.heap.size := fun x y => by simp
  refine ⟨rfl, .panicking [{ v := .iface 150 (.agg #[]), recovered := true }], rfl, .tuple #[], results_none rfl _ _ _, rfl, rfl, ?_, ?_, ?_⟩
  · rw [World.cell?_alloc_past (hn := by rw [hs]; exact hb)]; exact e4
  · rw [World.cell?_alloc_past (hn := by rw [hs]; exact hc)]; exact e3
  · intro B a h h1 h2
    have hB : B ≤ w.heap.size := by omega
    exact ((h.setCell h1 _).setCell h2 _).alloc (by rw [hs]; exact hB) _
theorem two_cells {w wk : World} {a b : Value} {t u : TypeId} (h : Below ((w.alloc (.cells #[a] t)).alloc (.cells #[b] u)).heap.size ((w.alloc (.cells #[a] t)).alloc (.cells #[b] u)) wk) :
    wk.cell? ⟨w.heap.size, 0, none⟩ = some a ∧ wk.cell? ⟨w.heap.size + 1, 0, none⟩ = some b ∧ wk.frozen? ⟨w.heap.size, 0, none⟩ = false ∧ wk.frozen? ⟨w.heap.size + 1, 0, none⟩ = false ∧ w.heap.size + 1 < wk.heap.size := by
  have hs := h.size
  have e : ((w.alloc (.cells #[a] t)).alloc (.cells #[b] u)).heap.size = w.heap.size + 1 + 1 := by simp
  rw [e] at hs
  have l0 : w.heap.size < ((w.alloc (.cells #[a] t)).alloc (.cells #[b] u)).heap.size := by rw [e]; omega
  have l1 : w.heap.size + 1 < ((w.alloc (.cells #[a] t)).alloc (.cells #[b] u)).heap.size := by rw [e]; omega
  refine ⟨?_, ?_, ?_, ?_, by omega⟩
  · exact (h.cell (p := ⟨w.heap.size, 0, none⟩) l0).trans (by simp [go_sem])
  · exact (h.cell (p := ⟨w.heap.size + 1, 0, none⟩) l1).trans (by simp [go_sem])
  · exact (h.frozen (p := ⟨w.heap.size, 0, none⟩) l0).trans (by simp [go_sem])
  · exact (h.frozen (p := ⟨w.heap.size + 1, 0, none⟩) l1).trans (by simp [go_sem])
theorem enterC : ∀ args w, (callFunc 110 args).run Tryz.prog w = .ok (.enter 110 args) w := fun args w => by kernel_rfl
theorem pair_result {fn : Func} {p u : Tmp} (h : fn.results = #[.cell p 9, .cell u 29]) (tmps : Array Value) (W : World) (b c : Nat) (s : ByteArray) (n : Int)
    (hp : tmps.getD p undef = .pointer (some ⟨b, 0, none⟩)) (hu : tmps.getD u undef = .pointer (some ⟨c, 0, none⟩)) (c0 : W.cell? ⟨b, 0, none⟩ = some (.string s)) (c1 : W.cell? ⟨c, 0, none⟩ = some (.int .i64 n)) :
    (results fn tmps).run Tryz.prog W = .ok (.tuple #[.string s, .int .i64 n]) W := by
  have hp' : tmps[p]?.getD undef = .pointer (some ⟨b, 0, none⟩) := by rw [← hp]; simp
  have hu' : tmps[u]?.getD undef = .pointer (some ⟨c, 0, none⟩) := by rw [← hu]; simp
  simp only [results, h]
  simp [hp', hu', go_sem, c0, c1]
set_option maxHeartbeats 4000000 in
theorem written_any (caps : Array Value) (q : Rat) (w : World) (hcl : ∀ wx, Below w.heap.size w wx → Calls Tryz.prog 110 caps wx (QEnd q wx)) :
    Calls Tryz.prog 109 #[.func (.func 110) #[] caps] w (PairEnd (limR q) w) := by
  have hmf : ∀ (fn : Fn) (first cap : Array Value) (w : World), (Instr.makeFunc fn first cap).run Tryz.prog w = .ok (.func fn first cap) w := fun _ _ _ _ => rfl
  have hen := enterC
  have hb0 : Below w.heap.size w ((w.alloc (.cells #[.string ⟨#[]⟩] 9)).alloc (.cells #[.int .i64 0] 29)) := ((Below.refl _ _).alloc (Nat.le_refl _) _).alloc (by simp) _
  have HB0 := Lib.hid hb0; clear hb0
  have HCL := Lib.hid hcl; clear hcl
  by_cases hf : fitQ q
  · rw [limR_fit hf]
    have HF := Lib.hid hf; clear hf
    go_enter_defers Tryz.func109, Tryz.ntmps109
    go_wp2_with fail
    have hq := HCL.out _ HB0.out
    unfold QEnd at hq
    rw [if_pos HF.out] at hq
    refine hq.mono ?_
    clear hq
    rintro e w1 ⟨rfl, hb1⟩
    have HS1 := Lib.hid hb1; clear hb1
    go_wp2_with fail
    refine (numtext_any q w1 HF.out).mono ?_
    rintro e w2 ⟨rfl, hb2⟩
    have HS2 := Lib.hid (next_below HS1.out hb2); clear hb2
    obtain ⟨k0, k1, f0, f1, hlt⟩ := two_cells HS2.out
    go_wp2_with fail
    have e1 := World.cell?_setCell_same _ _ (.string (txt q)) k0
    have e2 := (World.cell?_setCell_other w2 ⟨w.heap.size, 0, none⟩ ⟨w.heap.size + 1, 0, none⟩ (.string (txt q)) (fun e => by injection e; omega)).trans k1
    have e3 := World.cell?_setCell_same _ _ (.int .i64 0) e2
    have e4 := (World.cell?_setCell_other (w2.setCell ⟨w.heap.size, 0, none⟩ (.string (txt q))) ⟨w.heap.size + 1, 0, none⟩ ⟨w.heap.size, 0, none⟩ (.int .i64 0) (fun e => by injection e; omega)).trans e1
    have hs : ((w2.setCell ⟨w.heap.size, 0, none⟩ (.string (txt q))).setCell ⟨w.heap.size + 1, 0, none⟩ (.int .i64 0)).heap.size = w2.heap.size := by simp
    refine leaves_cons (f := 147) (args := #[.pointer (some ⟨w.heap.size, 0, none⟩), .pointer (some ⟨w.heap.size + 1, 0, none⟩)]) (by simp) (by simp [go_sem]) ?_
    refine (catch_idle _ _ _).mono ?_
    rintro e u' w'' ⟨rfl, rfl, hb⟩
    refine ⟨_, pair_result rfl _ _ w.heap.size (w.heap.size + 1) (txt q) 0 rfl rfl ?_ ?_, rfl, ?_⟩
    · exact (hb.cell (p := ⟨w.heap.size, 0, none⟩) (by rw [hs]; show w.heap.size < _; omega)).trans e4
    · exact (hb.cell (p := ⟨w.heap.size + 1, 0, none⟩) (by rw [hs]; exact hlt)).trans e3
    · have h1 : Below w.heap.size w w2 := next_below HB0.out HS2.out
      exact ((h1.setCell (Nat.le_refl _) _).setCell (Nat.le_succ _) _).trans (hb.mono (by rw [hs]; omega))
  · rw [limR_long hf]
    have HF := Lib.hid hf; clear hf
    go_enter_defers Tryz.func109, Tryz.ntmps109
    go_wp2_with fail
    have hq := HCL.out _ HB0.out
    unfold QEnd at hq
    rw [if_neg HF.out] at hq
    unfold PT at hq
    refine hq.mono ?_
    clear hq
    rintro e w1 ⟨rfl, hb1⟩
    have HS1 := Lib.hid hb1; clear hb1
    obtain ⟨k0, k1, f0, f1, hlt⟩ := two_cells HS1.out
    refine leaves_cons (f := 147) (args := #[.pointer (some ⟨w.heap.size, 0, none⟩), .pointer (some ⟨w.heap.size + 1, 0, none⟩)]) (by simp) (by simp [go_sem]) ?_
    refine (catch_long _ _ _ _ _ k0 k1 f0 f1 (by omega) hlt (by omega)).mono ?_
    rintro e u' w'' ⟨rfl, rfl, e1, e2, hb⟩
    exact ⟨_, pair_result rfl _ _ w.heap.size (w.heap.size + 1) ⟨#[]⟩ 2 rfl rfl e1 e2, rfl, hb _ _ (next_below HB0.out HS1.out) (Nat.le_refl _) (Nat.le_succ _)⟩
end Go.Proofs.YtjekapjbigfkbaaGreatDoor

namespace Go.Proofs.YtjekapjbigfkbaaGreatDoor
open Go Go.RowKit
set_option maxRecDepth 100000
theorem indexByte_eq (l : List UInt8) : Lib.indexByte l 47 = if hasS l then ((upTo l).length : Int) else -1 := by
  induction l with
  | nil => rfl
  | cons a l ih =>
    by_cases ha : a = 47
    · subst ha; simp [Lib.indexByte, hasS, upTo]
    · have e1 : hasS (a :: l) = hasS l := by simp [hasS, ha]
      have e2 : upTo (a :: l) = a :: upTo l := by simp [upTo, ha]
      have e3 : (a == 47) = false := by rw [beq_eq_false_iff_ne]; exact ha
      rw [e1, e2, Lib.indexByte, e3, ih]
      cases hasS l
      · rfl
      · simp only [if_true, List.length_cons, Bool.false_eq_true, if_false]
        rw [if_neg (by rw [beq_iff_eq]; omega)]; omega
theorem bts_extract (s : ByteArray) (a b : Nat) : bts (s.extract a b) = ((bts s).take b).drop a := by
  show (s.extract a b).data.toList = _
  rw [ByteArray.data_extract, Array.toList_extract, List.extract_eq_take_drop]; exact List.drop_take.symm
theorem ret_sst {s s' t t' : ByteArray} {b : Bool} (h : s = s') (h' : t = t') : Ending.returned (.tuple #[.string s, .string t, .bool b]) = .returned (.tuple #[.string s', .string t', .bool b]) := by rw [h, h']
theorem idx_any (s : ByteArray) (w : World) :
    Calls Tryz.prog 202 #[.string s, .string ⟨#[47]⟩] w fun e w' => e = .returned (.int .i64 (Lib.indexByte (bts s) 47)) ∧ w = w' := by
  by_cases h : s = ⟨#[47]⟩
  · subst h
    go_enter Tryz.func202, Tryz.ntmps202
    go_wp2
    go_ret
    exact ⟨rfl, rfl⟩
  · have h3 : (s.toList == [47]) = false := ne_list h
    have h4 : ([47] == s.toList) = false := by rw [Bool.beq_comm]; exact h3
    have hc := Tryz.stringslite_IndexByte s 47 w
    have HC := Lib.hid hc; clear hc h
    go_enter Tryz.func202, Tryz.ntmps202
    go_wp2_with fail
    refine HC.out.mono ?_
    rintro e w' ⟨rfl, rfl⟩
    go_wp2
    go_ret
    exact ⟨rfl, rfl⟩
theorem lcut_any (s : ByteArray) (w : World) (hs : s.size ≤ 9223372036854775807) :
    Calls Tryz.prog 169 #[.string s, .string ⟨#[47]⟩] w fun e w' => e = .returned (.tuple #[.string (str (upTo (bts s))), .string (str (if hasS (bts s) then pastL (bts s) else [])), .bool (hasS (bts s))]) ∧ Below w.heap.size w w' := by
  have hc := idx_any s w
  rw [indexByte_eq] at hc
  cases h : hasS (bts s)
  · rw [h] at hc
    simp only [Bool.false_eq_true, if_false] at hc
    rw [hasS_not _ h, str_bts]
    have HC := Lib.hid hc; clear hc h
    go_enter Tryz.func169, Tryz.ntmps169
    go_wp2_with fail
    refine HC.out.mono ?_
    rintro e w' ⟨rfl, rfl⟩
    go_wp2
    go_ret3
    exact ⟨rfl, Below.refl _ _⟩
  · rw [h] at hc
    simp only [if_true] at hc
    have hsp := hasS_split _ h
    have hlen := congrArg List.length hsp
    rw [bts_len, List.length_append, List.length_cons] at hlen
    generalize hi : (upTo (bts s)).length = i at hc hlen
    have c1 : (0 : Int) ≤ (i : Int) := by omega
    have c2 : (i : Int) ≤ (s.size : Int) := by omega
    have c3 : (0 : Int) ≤ (i : Int) + 1 := by omega
    have c4 : (i : Int) + 1 ≤ (s.size : Int) := by omega
    have c5 : IntKind.i64.wrap ((i : Int) + 1) = (i : Int) + 1 := by rw [IntKind.wrap_i64]; omega
    have he1 : s.extract 0 i = str (upTo (bts s)) := by
      apply bts_inj; rw [bts_extract, bts_str]; conv => lhs; rw [hsp]
      rw [← hi, List.take_left, List.drop_zero]
    have he2 : s.extract (i + 1) s.size = str (pastL (bts s)) := by
      apply bts_inj; rw [bts_extract, bts_str, List.take_of_length_le (by rw [bts_len]; omega)]; conv => lhs; rw [hsp]
      rw [← hi, ← List.drop_drop, List.drop_left]; rfl
    have HC := Lib.hid hc; clear hc h
    have HE1 := Lib.hid he1; clear he1
    have HE2 := Lib.hid he2; clear he2 hsp hi hlen hs
    go_enter Tryz.func169, Tryz.ntmps169
    go_wp2_with fail
    refine HC.out.mono ?_
    rintro e w' ⟨rfl, rfl⟩
    go_wp2_with fail
    go_quiet (fail)
    go_wp2
    go_ret3
    exact ⟨ret_sst HE1.out HE2.out, below_drewN (Below.refl _ _) _⟩
theorem cut_any (s : ByteArray) (w : World) (hs : s.size ≤ 9223372036854775807) :
    Calls Tryz.prog 133 #[.string s, .string ⟨#[47]⟩] w fun e w' => e = .returned (.tuple #[.string (str (upTo (bts s))), .string (str (if hasS (bts s) then pastL (bts s) else [])), .bool (hasS (bts s))]) ∧ Below w.heap.size w w' := by
  have hc := lcut_any s w hs
  generalize str (upTo (bts s)) = x at hc ⊢
  generalize str (if hasS (bts s) then pastL (bts s) else []) = y at hc ⊢
  generalize hasS (bts s) = z at hc ⊢
  have HC := Lib.hid hc; clear hc hs
  go_enter Tryz.func133, Tryz.ntmps133
  go_wp2_with fail
  refine HC.out.mono ?_
  rintro e w' ⟨rfl, hb⟩
  have HB := Lib.hid hb; clear hb
  go_wp2
  go_ret3
  exact ⟨rfl, HB.out⟩
theorem cutp_any (s : ByteArray) (w : World) :
    Calls Tryz.prog 132 #[.string s, .string ⟨#[45]⟩] w fun e w' => e = .returned (.tuple #[.string (str (restL (bts s))), .bool (isNeg (bts s))]) ∧ w = w' := by
  refine (Tryz.strings_CutPrefix s ⟨#[45]⟩ w).mono ?_
  rintro e w' ⟨rfl, rfl⟩
  refine ⟨?_, rfl⟩
  have h1 : Lib.hasPrefix s.data.toList [45] = isNeg (bts s) := by
    show Lib.hasPrefix (bts s) [45] = _
    cases bts s with
    | nil => rfl
    | cons a l =>
      show ((45 : UInt8) == a && true) = (a == 45)
      rw [Bool.and_true]; exact BEq.comm
  have h2 : Lib.trimPrefix s.data.toList [45] = restL (bts s) := by
    show Lib.trimPrefix (bts s) [45] = _
    unfold Lib.trimPrefix restL
    have h1' : Lib.hasPrefix (bts s) [45] = isNeg (bts s) := h1
    rw [h1']; split
    · cases bts s <;> rfl
    · rfl
  show Ending.returned (.tuple #[.string ⟨(Lib.trimPrefix s.data.toList [45]).toArray⟩, .bool (Lib.hasPrefix s.data.toList [45])]) = _
  rw [h1, h2]; rfl
end Go.Proofs.YtjekapjbigfkbaaGreatDoor
