/- The walk of rat.reduce: a fraction in lowest terms, or the panic of a number that is too long. -/
import Derived.Test.YtlmfppjphblemaaGreatDoorRatN
import Derived.Handy
namespace Go.Proofs.YtlmfppjphblemaaGreatDoor
open Go Go.RowKit
set_option maxRecDepth 100000

def PT : Ending := .panicked [{ v := .iface 117 (.agg #[]), recovered := false }]
def QEnd (q : Rat) (w : World) (e : Ending) (w' : World) : Prop := e = (if fitQ q then .returned (nv q) else PT) ∧ Below w.heap.size w w'
/-- A block of three cells that the call itself has made stays as it was while its callees run. -/
theorem res3 {w wk : World} {a b c : Value} {t : TypeId} (h : Below (w.alloc (.cells #[a, b, c] t)).heap.size (w.alloc (.cells #[a, b, c] t)) wk) :
    wk.cell? ⟨w.heap.size, 0, none⟩ = some a ∧ wk.cell? ⟨w.heap.size, 1, none⟩ = some b ∧ wk.cell? ⟨w.heap.size, 2, none⟩ = some c ∧ wk.frozen? ⟨w.heap.size, 0, none⟩ = false ∧ wk.frozen? ⟨w.heap.size, 1, none⟩ = false ∧ wk.frozen? ⟨w.heap.size, 2, none⟩ = false ∧ w.heap.size < wk.heap.size := by
  have hs := h.size
  have hlt : w.heap.size < (w.alloc (.cells #[a, b, c] t)).heap.size := by simp
  refine ⟨?_, ?_, ?_, ?_, ?_, ?_, by omega⟩
  · exact (h.cell (p := ⟨w.heap.size, 0, none⟩) hlt).trans (by simp)
  · exact (h.cell (p := ⟨w.heap.size, 1, none⟩) hlt).trans (by simp)
  · exact (h.cell (p := ⟨w.heap.size, 2, none⟩) hlt).trans (by simp)
  · exact (h.frozen (p := ⟨w.heap.size, 0, none⟩) hlt).trans (by simp)
  · exact (h.frozen (p := ⟨w.heap.size, 1, none⟩) hlt).trans (by simp)
  · exact (h.frozen (p := ⟨w.heap.size, 2, none⟩) hlt).trans (by simp)

/-- Three cells of a block, written one behind the other. -/
theorem set3 {w : World} {n : Nat} {a b c a' b' c' : Value} (k0 : w.cell? ⟨n, 0, none⟩ = some a) (k1 : w.cell? ⟨n, 1, none⟩ = some b) (k2 : w.cell? ⟨n, 2, none⟩ = some c) :
    (((w.setCell ⟨n, 0, none⟩ a').setCell ⟨n, 1, none⟩ b').setCell ⟨n, 2, none⟩ c').cell? ⟨n, 0, none⟩ = some a' ∧ (((w.setCell ⟨n, 0, none⟩ a').setCell ⟨n, 1, none⟩ b').setCell ⟨n, 2, none⟩ c').cell? ⟨n, 1, none⟩ = some b' ∧ (((w.setCell ⟨n, 0, none⟩ a').setCell ⟨n, 1, none⟩ b').setCell ⟨n, 2, none⟩ c').cell? ⟨n, 2, none⟩ = some c' := by
  refine ⟨?_, ?_, ?_⟩ <;> simp [go_sem, k0, k1, k2]
/-- A result of the type number that lies in a cell. -/
theorem num_result {fn : Func} {p : Tmp} (h : fn.results = #[.cell p 104]) (tmps : Array Value) (W : World) (n : Nat) (r : Bool) (x y : ByteArray)
    (ht : tmps.getD p undef = .pointer (some ⟨n, 0, none⟩)) (c0 : W.cell? ⟨n, 0, none⟩ = some (.bool r)) (c1 : W.cell? ⟨n, 1, none⟩ = some (.string x)) (c2 : W.cell? ⟨n, 2, none⟩ = some (.string y)) :
    (results fn tmps).run Tryz.prog W = .ok (.agg #[.bool r, .string x, .string y]) W := by
  have ht' : tmps[p]?.getD undef = .pointer (some ⟨n, 0, none⟩) := by rw [← ht]; simp
  simp only [results, h]
  simp [ht', go_sem, c0, c1, c2]

set_option maxHeartbeats 4000000 in
theorem reduce_raw (s : Bool) (a b g x y : ByteArray) (r : Bool) (w : World) (hr : (s = false ∧ r = false) ∨ (s = true ∧ (a.toList == [48]) = !r))
    (hx : x.size ≤ 1000) (hy : y.size ≤ 1000)
    (c1 : ∀ wx, Below w.heap.size w wx → Calls Tryz.prog 120 #[.string a, .string b] wx (StrZ g wx))
    (c2 : ∀ wx, Below w.heap.size w wx → Calls Tryz.prog 138 #[.string a, .string g] wx (StrE x wx))
    (c3 : ∀ wx, Below w.heap.size w wx → Calls Tryz.prog 138 #[.string b, .string g] wx (StrE y wx)) :
    Calls Tryz.prog 113 #[.bool s, .string a, .string b] w fun e w' =>
      e = (if x.size ≤ 400 ∧ y.size ≤ 400 then .returned (nvS r x y) else PT) ∧ Below w.heap.size w w' := by
  have C1 := Lib.hid c1; clear c1
  have C2 := Lib.hid c2; clear c2
  have C3 := Lib.hid c3; clear c3
  have hbl : Below w.heap.size w (w.alloc (.cells #[.bool false, .string ⟨#[]⟩, .string ⟨#[]⟩] 104)) := (Below.refl _ _).alloc (Nat.le_refl _) _
  have HB0 := Lib.hid hbl; clear hbl
  have hcase : (x.size ≤ 400 ∧ y.size ≤ 400) ∨ (x.size ≤ 400 ∧ 400 < y.size) ∨ 400 < x.size := by omega
  unfold PT nvS
  rcases hr with ⟨rfl, rfl⟩ | ⟨rfl, hz⟩
  · -- no sign
    rcases hcase with ⟨h1, h2⟩ | ⟨h1, h2⟩ | h1
    · rw [if_pos ⟨h1, h2⟩]
      have g1 : (x.size : Int) ≤ 400 := by omega
      have g2 : (y.size : Int) ≤ 400 := by omega
      clear h1 h2
      clear hx hy
      go_enter Tryz.func113, Tryz.ntmps113
      go_wp2_with fail
      refine (C1.out _ HB0.out).mono ?_
      rintro e w1 ⟨rfl, hb1⟩
      have HS1 := Lib.hid hb1
      have HB1 := Lib.hid (HB0.out.trans (hb1.mono HB0.out.size)); clear hb1
      go_wp2_with fail
      refine (must_ok _ _).mono ?_
      rintro e w2 ⟨rfl, rfl⟩
      go_wp2_with fail
      refine (C2.out _ HB1.out).mono ?_
      rintro e w2 ⟨rfl, hb2⟩
      have HS2 := Lib.hid (HS1.out.trans (hb2.mono HS1.out.size))
      have HB2 := Lib.hid (HB1.out.trans (hb2.mono HB1.out.size)); clear hb2
      go_wp2_with fail
      refine (C3.out _ HB2.out).mono ?_
      rintro e w3 ⟨rfl, hb3⟩
      have HS3 := Lib.hid (HS2.out.trans (hb3.mono HS2.out.size))
      have HB3 := Lib.hid (HB2.out.trans (hb3.mono HB2.out.size)); clear hb3
      obtain ⟨k0, k1, k2, f0, f1, f2, hlt⟩ := res3 HS3.out
      have HZ := Lib.hid HB3.out.size
      go_wp2_with fail
      obtain ⟨s0, s1, s2⟩ := set3 (a' := .bool false) (b' := .string x) (c' := .string y) k0 k1 k2
      refine bodyPost_ret (num_result rfl _ _ w.heap.size false x y rfl ?_ ?_ ?_) rfl ⟨rfl, ?_⟩
      · rw [World.cell?_alloc_past (hn := by simpa using hlt)]; exact s0
      · rw [World.cell?_alloc_past (hn := by simpa using hlt)]; exact s1
      · rw [World.cell?_alloc_past (hn := by simpa using hlt)]; exact s2
      · exact (((HB3.out.setCell (Nat.le_refl _) _).setCell (Nat.le_refl _) _).setCell (Nat.le_refl _) _).alloc (by simpa using HZ.out) _
    · rw [if_neg (fun h => by omega)]
      have g1 : (x.size : Int) ≤ 400 := by omega
      have g2 : (400 : Int) < (y.size : Int) := by omega
      clear h1 h2
      clear hx hy
      go_enter Tryz.func113, Tryz.ntmps113
      go_wp2_with fail
      refine (C1.out _ HB0.out).mono ?_
      rintro e w1 ⟨rfl, hb1⟩
      have HS1 := Lib.hid hb1
      have HB1 := Lib.hid (HB0.out.trans (hb1.mono HB0.out.size)); clear hb1
      go_wp2_with fail
      refine (must_ok _ _).mono ?_
      rintro e w2 ⟨rfl, rfl⟩
      go_wp2_with fail
      refine (C2.out _ HB1.out).mono ?_
      rintro e w2 ⟨rfl, hb2⟩
      have HS2 := Lib.hid (HS1.out.trans (hb2.mono HS1.out.size))
      have HB2 := Lib.hid (HB1.out.trans (hb2.mono HB1.out.size)); clear hb2
      go_wp2_with fail
      refine (C3.out _ HB2.out).mono ?_
      rintro e w3 ⟨rfl, hb3⟩
      have HS3 := Lib.hid (HS2.out.trans (hb3.mono HS2.out.size))
      have HB3 := Lib.hid (HB2.out.trans (hb3.mono HB2.out.size)); clear hb3
      obtain ⟨k0, k1, k2, f0, f1, f2, hlt⟩ := res3 HS3.out
      have HZ := Lib.hid HB3.out.size
      go_wp2_with fail
      exact ⟨rfl, rfl, HB3.out.alloc HZ.out _⟩
    · rw [if_neg (fun h => by omega)]
      have g1 : (400 : Int) < (x.size : Int) := by omega
      clear h1
      clear hx hy
      go_enter Tryz.func113, Tryz.ntmps113
      go_wp2_with fail
      refine (C1.out _ HB0.out).mono ?_
      rintro e w1 ⟨rfl, hb1⟩
      have HS1 := Lib.hid hb1
      have HB1 := Lib.hid (HB0.out.trans (hb1.mono HB0.out.size)); clear hb1
      go_wp2_with fail
      refine (must_ok _ _).mono ?_
      rintro e w2 ⟨rfl, rfl⟩
      go_wp2_with fail
      refine (C2.out _ HB1.out).mono ?_
      rintro e w2 ⟨rfl, hb2⟩
      have HS2 := Lib.hid (HS1.out.trans (hb2.mono HS1.out.size))
      have HB2 := Lib.hid (HB1.out.trans (hb2.mono HB1.out.size)); clear hb2
      go_wp2_with fail
      refine (C3.out _ HB2.out).mono ?_
      rintro e w3 ⟨rfl, hb3⟩
      have HS3 := Lib.hid (HS2.out.trans (hb3.mono HS2.out.size))
      have HB3 := Lib.hid (HB2.out.trans (hb3.mono HB2.out.size)); clear hb3
      obtain ⟨k0, k1, k2, f0, f1, f2, hlt⟩ := res3 HS3.out
      have HZ := Lib.hid HB3.out.size
      go_wp2_with fail
      exact ⟨rfl, rfl, HB3.out.alloc HZ.out _⟩
  · cases r <;> simp only [Bool.not_true, Bool.not_false] at hz
    · -- zero
      rcases hcase with ⟨h1, h2⟩ | ⟨h1, h2⟩ | h1
      · rw [if_pos ⟨h1, h2⟩]
        have g1 : (x.size : Int) ≤ 400 := by omega
        have g2 : (y.size : Int) ≤ 400 := by omega
        clear h1 h2
        clear hx hy
        go_enter Tryz.func113, Tryz.ntmps113
        go_wp2_with fail
        refine (C1.out _ HB0.out).mono ?_
        rintro e w1 ⟨rfl, hb1⟩
        have HS1 := Lib.hid hb1
        have HB1 := Lib.hid (HB0.out.trans (hb1.mono HB0.out.size)); clear hb1
        go_wp2_with fail
        refine (must_ok _ _).mono ?_
        rintro e w2 ⟨rfl, rfl⟩
        go_wp2_with fail
        refine (C2.out _ HB1.out).mono ?_
        rintro e w2 ⟨rfl, hb2⟩
        have HS2 := Lib.hid (HS1.out.trans (hb2.mono HS1.out.size))
        have HB2 := Lib.hid (HB1.out.trans (hb2.mono HB1.out.size)); clear hb2
        go_wp2_with fail
        refine (C3.out _ HB2.out).mono ?_
        rintro e w3 ⟨rfl, hb3⟩
        have HS3 := Lib.hid (HS2.out.trans (hb3.mono HS2.out.size))
        have HB3 := Lib.hid (HB2.out.trans (hb3.mono HB2.out.size)); clear hb3
        obtain ⟨k0, k1, k2, f0, f1, f2, hlt⟩ := res3 HS3.out
        have HZ := Lib.hid HB3.out.size
        go_wp2_with fail
        obtain ⟨s0, s1, s2⟩ := set3 (a' := .bool false) (b' := .string x) (c' := .string y) k0 k1 k2
        refine bodyPost_ret (num_result rfl _ _ w.heap.size false x y rfl ?_ ?_ ?_) rfl ⟨rfl, ?_⟩
        · rw [World.cell?_alloc_past (hn := by simpa using hlt)]; exact s0
        · rw [World.cell?_alloc_past (hn := by simpa using hlt)]; exact s1
        · rw [World.cell?_alloc_past (hn := by simpa using hlt)]; exact s2
        · exact (((HB3.out.setCell (Nat.le_refl _) _).setCell (Nat.le_refl _) _).setCell (Nat.le_refl _) _).alloc (by simpa using HZ.out) _
      · rw [if_neg (fun h => by omega)]
        have g1 : (x.size : Int) ≤ 400 := by omega
        have g2 : (400 : Int) < (y.size : Int) := by omega
        clear h1 h2
        clear hx hy
        go_enter Tryz.func113, Tryz.ntmps113
        go_wp2_with fail
        refine (C1.out _ HB0.out).mono ?_
        rintro e w1 ⟨rfl, hb1⟩
        have HS1 := Lib.hid hb1
        have HB1 := Lib.hid (HB0.out.trans (hb1.mono HB0.out.size)); clear hb1
        go_wp2_with fail
        refine (must_ok _ _).mono ?_
        rintro e w2 ⟨rfl, rfl⟩
        go_wp2_with fail
        refine (C2.out _ HB1.out).mono ?_
        rintro e w2 ⟨rfl, hb2⟩
        have HS2 := Lib.hid (HS1.out.trans (hb2.mono HS1.out.size))
        have HB2 := Lib.hid (HB1.out.trans (hb2.mono HB1.out.size)); clear hb2
        go_wp2_with fail
        refine (C3.out _ HB2.out).mono ?_
        rintro e w3 ⟨rfl, hb3⟩
        have HS3 := Lib.hid (HS2.out.trans (hb3.mono HS2.out.size))
        have HB3 := Lib.hid (HB2.out.trans (hb3.mono HB2.out.size)); clear hb3
        obtain ⟨k0, k1, k2, f0, f1, f2, hlt⟩ := res3 HS3.out
        have HZ := Lib.hid HB3.out.size
        go_wp2_with fail
        exact ⟨rfl, rfl, HB3.out.alloc HZ.out _⟩
      · rw [if_neg (fun h => by omega)]
        have g1 : (400 : Int) < (x.size : Int) := by omega
        clear h1
        clear hx hy
        go_enter Tryz.func113, Tryz.ntmps113
        go_wp2_with fail
        refine (C1.out _ HB0.out).mono ?_
        rintro e w1 ⟨rfl, hb1⟩
        have HS1 := Lib.hid hb1
        have HB1 := Lib.hid (HB0.out.trans (hb1.mono HB0.out.size)); clear hb1
        go_wp2_with fail
        refine (must_ok _ _).mono ?_
        rintro e w2 ⟨rfl, rfl⟩
        go_wp2_with fail
        refine (C2.out _ HB1.out).mono ?_
        rintro e w2 ⟨rfl, hb2⟩
        have HS2 := Lib.hid (HS1.out.trans (hb2.mono HS1.out.size))
        have HB2 := Lib.hid (HB1.out.trans (hb2.mono HB1.out.size)); clear hb2
        go_wp2_with fail
        refine (C3.out _ HB2.out).mono ?_
        rintro e w3 ⟨rfl, hb3⟩
        have HS3 := Lib.hid (HS2.out.trans (hb3.mono HS2.out.size))
        have HB3 := Lib.hid (HB2.out.trans (hb3.mono HB2.out.size)); clear hb3
        obtain ⟨k0, k1, k2, f0, f1, f2, hlt⟩ := res3 HS3.out
        have HZ := Lib.hid HB3.out.size
        go_wp2_with fail
        exact ⟨rfl, rfl, HB3.out.alloc HZ.out _⟩
    · -- not zero
      rcases hcase with ⟨h1, h2⟩ | ⟨h1, h2⟩ | h1
      · rw [if_pos ⟨h1, h2⟩]
        have g1 : (x.size : Int) ≤ 400 := by omega
        have g2 : (y.size : Int) ≤ 400 := by omega
        clear h1 h2
        clear hx hy
        go_enter Tryz.func113, Tryz.ntmps113
        go_wp2_with fail
        refine (C1.out _ HB0.out).mono ?_
        rintro e w1 ⟨rfl, hb1⟩
        have HS1 := Lib.hid hb1
        have HB1 := Lib.hid (HB0.out.trans (hb1.mono HB0.out.size)); clear hb1
        go_wp2_with fail
        refine (must_ok _ _).mono ?_
        rintro e w2 ⟨rfl, rfl⟩
        go_wp2_with fail
        refine (C2.out _ HB1.out).mono ?_
        rintro e w2 ⟨rfl, hb2⟩
        have HS2 := Lib.hid (HS1.out.trans (hb2.mono HS1.out.size))
        have HB2 := Lib.hid (HB1.out.trans (hb2.mono HB1.out.size)); clear hb2
        go_wp2_with fail
        refine (C3.out _ HB2.out).mono ?_
        rintro e w3 ⟨rfl, hb3⟩
        have HS3 := Lib.hid (HS2.out.trans (hb3.mono HS2.out.size))
        have HB3 := Lib.hid (HB2.out.trans (hb3.mono HB2.out.size)); clear hb3
        obtain ⟨k0, k1, k2, f0, f1, f2, hlt⟩ := res3 HS3.out
        have HZ := Lib.hid HB3.out.size
        go_wp2_with fail
        obtain ⟨s0, s1, s2⟩ := set3 (a' := .bool true) (b' := .string x) (c' := .string y) k0 k1 k2
        refine bodyPost_ret (num_result rfl _ _ w.heap.size true x y rfl ?_ ?_ ?_) rfl ⟨rfl, ?_⟩
        · rw [World.cell?_alloc_past (hn := by simpa using hlt)]; exact s0
        · rw [World.cell?_alloc_past (hn := by simpa using hlt)]; exact s1
        · rw [World.cell?_alloc_past (hn := by simpa using hlt)]; exact s2
        · exact (((HB3.out.setCell (Nat.le_refl _) _).setCell (Nat.le_refl _) _).setCell (Nat.le_refl _) _).alloc (by simpa using HZ.out) _
      · rw [if_neg (fun h => by omega)]
        have g1 : (x.size : Int) ≤ 400 := by omega
        have g2 : (400 : Int) < (y.size : Int) := by omega
        clear h1 h2
        clear hx hy
        go_enter Tryz.func113, Tryz.ntmps113
        go_wp2_with fail
        refine (C1.out _ HB0.out).mono ?_
        rintro e w1 ⟨rfl, hb1⟩
        have HS1 := Lib.hid hb1
        have HB1 := Lib.hid (HB0.out.trans (hb1.mono HB0.out.size)); clear hb1
        go_wp2_with fail
        refine (must_ok _ _).mono ?_
        rintro e w2 ⟨rfl, rfl⟩
        go_wp2_with fail
        refine (C2.out _ HB1.out).mono ?_
        rintro e w2 ⟨rfl, hb2⟩
        have HS2 := Lib.hid (HS1.out.trans (hb2.mono HS1.out.size))
        have HB2 := Lib.hid (HB1.out.trans (hb2.mono HB1.out.size)); clear hb2
        go_wp2_with fail
        refine (C3.out _ HB2.out).mono ?_
        rintro e w3 ⟨rfl, hb3⟩
        have HS3 := Lib.hid (HS2.out.trans (hb3.mono HS2.out.size))
        have HB3 := Lib.hid (HB2.out.trans (hb3.mono HB2.out.size)); clear hb3
        obtain ⟨k0, k1, k2, f0, f1, f2, hlt⟩ := res3 HS3.out
        have HZ := Lib.hid HB3.out.size
        go_wp2_with fail
        exact ⟨rfl, rfl, HB3.out.alloc HZ.out _⟩
      · rw [if_neg (fun h => by omega)]
        have g1 : (400 : Int) < (x.size : Int) := by omega
        clear h1
        clear hx hy
        go_enter Tryz.func113, Tryz.ntmps113
        go_wp2_with fail
        refine (C1.out _ HB0.out).mono ?_
        rintro e w1 ⟨rfl, hb1⟩
        have HS1 := Lib.hid hb1
        have HB1 := Lib.hid (HB0.out.trans (hb1.mono HB0.out.size)); clear hb1
        go_wp2_with fail
        refine (must_ok _ _).mono ?_
        rintro e w2 ⟨rfl, rfl⟩
        go_wp2_with fail
        refine (C2.out _ HB1.out).mono ?_
        rintro e w2 ⟨rfl, hb2⟩
        have HS2 := Lib.hid (HS1.out.trans (hb2.mono HS1.out.size))
        have HB2 := Lib.hid (HB1.out.trans (hb2.mono HB1.out.size)); clear hb2
        go_wp2_with fail
        refine (C3.out _ HB2.out).mono ?_
        rintro e w3 ⟨rfl, hb3⟩
        have HS3 := Lib.hid (HS2.out.trans (hb3.mono HS2.out.size))
        have HB3 := Lib.hid (HB2.out.trans (hb3.mono HB2.out.size)); clear hb3
        obtain ⟨k0, k1, k2, f0, f1, f2, hlt⟩ := res3 HS3.out
        have HZ := Lib.hid HB3.out.size
        go_wp2_with fail
        exact ⟨rfl, rfl, HB3.out.alloc HZ.out _⟩
theorem reduce_sd (s : Bool) (m d : Nat) (w : World) (hm : fits m) (hd : fits d) (h0 : d ≠ 0) (ht : Tab w) :
    Calls Tryz.prog 113 #[.bool s, .string (str (dec m)), .string (str (dec d))] w (QEnd (mkRat (sg s m) d) w) := by
  obtain ⟨e1, e2, e3⟩ := mkRat_red (sg s m) d h0
  rw [sg_abs] at e1 e2
  have hg : fits (Nat.gcd m d) := fits_le hd (Nat.le_of_dvd (Nat.pos_of_ne_zero h0) (Nat.gcd_dvd_right _ _))
  have hg0 : Nat.gcd m d ≠ 0 := by have := Nat.gcd_pos_of_pos_right m (Nat.pos_of_ne_zero h0); omega
  have hT : ∀ wx, Below w.heap.size w wx → Tab wx := fun wx h => ht.below h (Nat.le_refl _)
  have f1 : fits (m / Nat.gcd m d) := fits_le hm (Nat.div_le_self _ _)
  have f2 : fits (d / Nat.gcd m d) := fits_le hd (Nat.div_le_self _ _)
  have hc := reduce_raw s (str (dec m)) (str (dec d)) (str (dec (Nat.gcd m d))) (str (dec (m / Nat.gcd m d))) (str (dec (d / Nat.gcd m d))) (negQ (mkRat (sg s m) d)) w ?_ ?_ ?_
    (fun wx h => ngcd_sd m d wx hm hd (hT wx h)) (fun wx h => quot_sd m _ wx hm hg hg0 (hT wx h)) (fun wx h => quot_sd d _ wx hd hg hg0 (hT wx h))
  · refine hc.mono ?_
    rintro e w' ⟨rfl, hb⟩
    refine ⟨?_, hb⟩
    have hf : fitQ (mkRat (sg s m) d) ↔ ((str (dec (m / Nat.gcd m d))).size ≤ 400 ∧ (str (dec (d / Nat.gcd m d))).size ≤ 400) := by
      unfold fitQ; rw [e1, e2, str_size, str_size]
    have hn : nv (mkRat (sg s m) d) = nvS (negQ (mkRat (sg s m) d)) (str (dec (m / Nat.gcd m d))) (str (dec (d / Nat.gcd m d))) := by
      unfold nv; rw [e1, e2]
    rw [hn]
    by_cases h : fitQ (mkRat (sg s m) d)
    · rw [if_pos h, if_pos (hf.1 h)]
    · rw [if_neg h, if_neg (fun e => h (hf.2 e))]
  · rw [e3]
    cases s
    · left; refine ⟨rfl, ?_⟩; rw [decide_eq_false_iff_not, sg_neg]; simp
    · right; refine ⟨rfl, ?_⟩
      by_cases hz : m = 0
      · subst hz; rw [dec_zero, Lib.toList_data]; rfl
      · have : (decide (sg true m < 0)) = true := by rw [decide_eq_true_eq, sg_neg]; exact ⟨rfl, hz⟩
        rw [this]
        exact ne_list (l := [48]) (fun e => hz (dec_inj ((by have := congrArg bts e; rw [bts_str, bts_str] at this; exact this : dec m = [48]).trans dec_zero.symm)))
  · rw [str_size]; exact f1
  · rw [str_size]; exact f2
end Go.Proofs.YtlmfppjphblemaaGreatDoor
