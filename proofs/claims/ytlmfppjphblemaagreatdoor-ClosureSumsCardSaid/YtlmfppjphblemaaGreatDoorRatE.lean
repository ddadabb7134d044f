/- The walks of rat.compute and the closure that it hands on. -/
import Derived.Test.YtlmfppjphblemaaGreatDoorRatW
import Derived.Test.YtlmfppjphblemaaGreatDoorMP
namespace Go.Proofs.YtlmfppjphblemaaGreatDoor
open Go Go.RowKit
set_option maxRecDepth 100000

set_option maxHeartbeats 4000000 in
theorem compc_raw (g : FuncId) (p q : Bool) (xn xd yn yd : ByteArray) (E : Ending) (b0 b1 b2 : Nat) (w : World) (hE : (∃ r x y, E = .returned (.agg #[.bool r, .string x, .string y])) ∨ E = PT)
    (he : ∀ args w, (callFunc g args).run Tryz.prog w = .ok (.enter g args) w) (l0 : b0 < w.heap.size) (l1 : b1 < w.heap.size) (l2 : b2 < w.heap.size)
    (c0 : w.cell? ⟨b0, 0, none⟩ = some (.func (.func g) #[] #[])) (d0 : w.cell? ⟨b1, 0, none⟩ = some (.bool p)) (d1 : w.cell? ⟨b1, 1, none⟩ = some (.string xn)) (d2 : w.cell? ⟨b1, 2, none⟩ = some (.string xd))
    (e0 : w.cell? ⟨b2, 0, none⟩ = some (.bool q)) (e1 : w.cell? ⟨b2, 1, none⟩ = some (.string yn)) (e2 : w.cell? ⟨b2, 2, none⟩ = some (.string yd))
    (hcl : ∀ wx, Below w.heap.size w wx → Calls Tryz.prog g #[nvS p xn xd, nvS q yn yd] wx fun e w' => e = E ∧ Below wx.heap.size wx w') :
    Calls Tryz.prog 137 #[.pointer (some ⟨b0, 0, none⟩), .pointer (some ⟨b1, 0, none⟩), .pointer (some ⟨b2, 0, none⟩)] w fun e w' => e = E ∧ Below w.heap.size w w' := by
  unfold nvS at hcl
  have HCL := Lib.hid hcl; clear hcl
  have hb0 : Below w.heap.size w (w.alloc (.cells #[.bool false, .string ⟨#[]⟩, .string ⟨#[]⟩] 104)) := (Below.refl _ _).alloc (Nat.le_refl _) _
  have HB0 := Lib.hid hb0; clear hb0
  rcases hE with ⟨r, x, y, rfl⟩ | rfl
  · go_enter Tryz.func137, Tryz.ntmps137
    go_wp2_with fail
    refine (HCL.out _ HB0.out).mono ?_
    rintro e w1 ⟨rfl, hb1⟩
    have HS1 := Lib.hid hb1; clear hb1
    obtain ⟨k0, k1, k2, f0, f1, f2, hlt⟩ := res3 HS1.out
    obtain ⟨s0, s1, s2⟩ := set3 (a' := .bool r) (b' := .string x) (c' := .string y) k0 k1 k2
    go_wp2_with fail
    exact bodyPost_ret (num_result rfl _ _ w.heap.size r x y rfl s0 s1 s2) rfl ⟨rfl, (((next_below HB0.out HS1.out).setCell (Nat.le_refl _) _).setCell (Nat.le_refl _) _).setCell (Nat.le_refl _) _⟩
  · unfold PT at HCL ⊢
    go_enter Tryz.func137, Tryz.ntmps137
    go_wp2_with fail
    refine (HCL.out _ HB0.out).mono ?_
    rintro e w1 ⟨rfl, hb1⟩
    have HS1 := Lib.hid hb1; clear hb1
    go_wp2_with fail
    exact ⟨rfl, rfl, next_below HB0.out HS1.out⟩
theorem qE (q : Rat) : (∃ r x y, (if fitQ q then .returned (nv q) else PT) = Ending.returned (.agg #[.bool r, .string x, .string y])) ∨ (if fitQ q then .returned (nv q) else PT) = PT := by
  by_cases h : fitQ q
  · rw [if_pos h]; exact .inl ⟨_, _, _, rfl⟩
  · rw [if_neg h]; exact .inr rfl

def okR (F : Rat → Rat → Rat) (a b : ByteArray) : ByteArray × Nat := match prs a, prs b with | some x, some y => limR (F x y) | _, _ => (str [], 1)

set_option maxHeartbeats 4000000 in
theorem compute_any (g : FuncId) (F : Rat → Rat → Rat) (a b : ByteArray) (w : World) (ha : a.size ≤ 9223372036854775807) (hb : b.size ≤ 9223372036854775807) (ht : Tab w)
    (he : ∀ args w, (callFunc g args).run Tryz.prog w = .ok (.enter g args) w)
    (hcl : ∀ x y, prs a = some x → prs b = some y → ∀ wx, Below w.heap.size w wx → Calls Tryz.prog g #[nv x, nv y] wx (QEnd (F x y) wx)) :
    Calls Tryz.prog 111 #[.string a, .string b, .func (.func g) #[] #[]] w (PairEnd (okR F a b) w) := by
  have hmf : ∀ (fn : Fn) (first cap : Array Value) (w : World), (Instr.makeFunc fn first cap).run Tryz.prog w = .ok (.func fn first cap) w := fun _ _ _ _ => rfl
  have hT : ∀ wx, Below w.heap.size w wx → Tab wx := fun wx h => ht.below h (Nat.le_refl _)
  have c1 := fun wx (h : Below w.heap.size w wx) => parse_any a wx ha (hT wx h)
  have c2 := fun wx (h : Below w.heap.size w wx) => parse_any b wx hb (hT wx h)
  have HHE := Lib.hid he; clear he
  have HCL := Lib.hid hcl; clear hcl
  clear hT ht ha hb
  have hb0 : Below w.heap.size w (w.alloc (.cells #[.func (.func g) #[] #[]] 111)) := (Below.refl _ _).alloc (Nat.le_refl _) _
  have HB0 := Lib.hid hb0; clear hb0
  cases h1 : prs a with
  | none =>
    have hr : okR F a b = (str [], 1) := by unfold okR; rw [h1]
    rw [hr]; simp only [h1, Option.isSome, prsV] at c1
    clear hr HCL h1
    have C1 := Lib.hid c1; clear c1
    generalize (prs b).isSome = o at c2
    obtain ⟨r, x, y, hz⟩ := prsV_agg (prs b)
    rw [hz] at c2
    clear hz
    have C2 := Lib.hid c2; clear c2
    unfold NoNum nvS at C1
    go_enter Tryz.func111, Tryz.ntmps111
    go_wp2_with fail
    refine (C1.out _ HB0.out).mono ?_
    rintro e w1 ⟨rfl, hb1⟩
    have HB1 := Lib.hid ((next_below HB0.out hb1).alloc (Nat.le_trans HB0.out.size hb1.size) (.cells #[.bool false, .string ⟨#[]⟩, .string ⟨#[]⟩] 104)); clear hb1
    go_wp2_with fail
    refine (C2.out _ HB1.out).mono ?_
    rintro e w2 ⟨rfl, hb2⟩
    have HB2 := Lib.hid (next_below HB1.out hb2); clear hb2
    go_wp2_with fail
    go_ret2
    exact ⟨rfl, HB2.out.alloc HB2.out.size _⟩
  | some x =>
    simp only [h1, Option.isSome, prsV] at c1
    have C1 := Lib.hid c1; clear c1
    cases h2 : prs b with
    | none =>
      have hr : okR F a b = (str [], 1) := by unfold okR; rw [h1, h2]
      rw [hr]; simp only [h2, Option.isSome, prsV] at c2
      clear hr HCL h1 h2
      have C2 := Lib.hid c2; clear c2
      unfold nv nvS at C1
      unfold NoNum nvS at C2
      go_enter Tryz.func111, Tryz.ntmps111
      go_wp2_with fail
      refine (C1.out _ HB0.out).mono ?_
      rintro e w1 ⟨rfl, hb1⟩
      have HB1 := Lib.hid ((next_below HB0.out hb1).alloc (Nat.le_trans HB0.out.size hb1.size) (.cells #[.bool (negQ x), .string (str (dec x.num.natAbs)), .string (str (dec x.den))] 104)); clear hb1
      go_wp2_with fail
      refine (C2.out _ HB1.out).mono ?_
      rintro e w2 ⟨rfl, hb2⟩
      have HB2 := Lib.hid (next_below HB1.out hb2); clear hb2
      go_wp2_with fail
      go_ret2
      exact ⟨rfl, HB2.out.alloc HB2.out.size _⟩
    | some y =>
      have hr : okR F a b = limR (F x y) := by unfold okR; rw [h1, h2]
      rw [hr]; simp only [h2, Option.isSome, prsV] at c2
      have hcl := fun wx h => HCL.out x y h1 h2 wx h
      clear hr HCL h1 h2
      have HCL := Lib.hid hcl; clear hcl
      have C2 := Lib.hid c2; clear c2
      unfold nv nvS at C1 C2
      go_enter Tryz.func111, Tryz.ntmps111
      go_wp2_with fail
      refine (C1.out _ HB0.out).mono ?_
      rintro e w1 ⟨rfl, hb1⟩
      have HA1 := Lib.hid hb1
      have HB1 := Lib.hid ((next_below HB0.out hb1).alloc (Nat.le_trans HB0.out.size hb1.size) (.cells #[.bool (negQ x), .string (str (dec x.num.natAbs)), .string (str (dec x.den))] 104)); clear hb1
      go_wp2_with fail
      refine (C2.out _ HB1.out).mono ?_
      rintro e w2 ⟨rfl, hb2⟩
      have HA2 := Lib.hid hb2
      have HB2 := Lib.hid ((next_below HB1.out hb2).alloc (Nat.le_trans HB1.out.size hb2.size) (.cells #[.bool (negQ y), .string (str (dec y.num.natAbs)), .string (str (dec y.den))] 104)); clear hb2
      go_wp2_with fail
      refine (written_any _ (F x y) _ (fun wx h => ?_)).mono ?_
      · have z0 := HA1.out.size
        have z1 := HA2.out.size
        have z2 := h.size
        rw [World.size_alloc] at z0 z1 z2
        have s0 : w.heap.size < (w.alloc (.cells #[.func (.func g) #[] #[]] 111)).heap.size := by rw [World.size_alloc]; omega
        have s1 : ∀ o, w1.heap.size < (w1.alloc o).heap.size := fun o => by rw [World.size_alloc]; omega
        have s2 : ∀ o, w2.heap.size < (w2.alloc o).heap.size := fun o => by rw [World.size_alloc]; omega
        have cell0 : wx.cell? ⟨w.heap.size, 0, none⟩ = some (.func (.func g) #[] #[]) := by
          refine (h.cell (p := ⟨w.heap.size, 0, none⟩) (by rw [World.size_alloc]; show w.heap.size < _; omega)).trans ?_
          rw [World.cell?_alloc_past (hn := by omega)]
          refine (HA2.out.cell (p := ⟨w.heap.size, 0, none⟩) (by rw [World.size_alloc]; show w.heap.size < _; omega)).trans ?_
          rw [World.cell?_alloc_past (hn := by omega)]
          refine (HA1.out.cell (p := ⟨w.heap.size, 0, none⟩) s0).trans ?_
          simp [go_sem]
        have cellx : ∀ (i : Nat) (v : Value), (w1.alloc (.cells #[.bool (negQ x), .string (str (dec x.num.natAbs)), .string (str (dec x.den))] 104)).cell? ⟨w1.heap.size, i, none⟩ = some v → wx.cell? ⟨w1.heap.size, i, none⟩ = some v := by
          intro i v hv
          refine (h.cell (p := ⟨w1.heap.size, i, none⟩) (by rw [World.size_alloc]; show w1.heap.size < _; omega)).trans ?_
          rw [World.cell?_alloc_past (hn := by omega)]
          exact (HA2.out.cell (p := ⟨w1.heap.size, i, none⟩) (s1 _)).trans hv
        have celly : ∀ (i : Nat) (v : Value), (w2.alloc (.cells #[.bool (negQ y), .string (str (dec y.num.natAbs)), .string (str (dec y.den))] 104)).cell? ⟨w2.heap.size, i, none⟩ = some v → wx.cell? ⟨w2.heap.size, i, none⟩ = some v := by
          intro i v hv
          exact (h.cell (p := ⟨w2.heap.size, i, none⟩) (s2 _)).trans hv
        exact compc_raw g _ _ _ _ _ _ _ w.heap.size w1.heap.size w2.heap.size wx (qE (F x y)) HHE.out (by omega) (by omega) (by omega) cell0
          (cellx 0 _ (by simp [go_sem])) (cellx 1 _ (by simp [go_sem])) (cellx 2 _ (by simp [go_sem])) (celly 0 _ (by simp [go_sem])) (celly 1 _ (by simp [go_sem])) (celly 2 _ (by simp [go_sem]))
          (fun wy hy => HCL.out wy ((next_below HB2.out h).trans (hy.mono (next_below HB2.out h).size)))
      rintro e w3 ⟨rfl, hb3⟩
      have HB3 := Lib.hid (next_below HB2.out hb3); clear hb3
      generalize limR (F x y) = lr at *
      obtain ⟨ls, ln⟩ := lr
      go_wp2_with fail
      go_ret2
      exact ⟨rfl, HB3.out⟩
end Go.Proofs.YtlmfppjphblemaaGreatDoor
