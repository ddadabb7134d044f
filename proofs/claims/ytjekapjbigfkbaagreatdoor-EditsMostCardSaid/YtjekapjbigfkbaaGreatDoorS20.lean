/- Parts of a proof: WgR WgV EdV. -/
import Derived.Test.YtjekapjbigfkbaaGreatDoorS19
import Derived.Test.YtjekapjbigfkbaaGreatDoorS18
namespace Go.Proofs.YtjekapjbigfkbaaGreatDoor
open Go Go.RowKit Go.Deep
set_option maxRecDepth 100000
set_option linter.unusedSimpArgs false
abbrev VV := Nat → ByteArray
abbrev RS := (Bool → Nat → Option VV) × Nat
def updV (S : Bool → Nat → Option VV) (b : Bool) (j : Nat) (x : VV) : Bool → Nat → Option VV := fun b' j' => if b' = b ∧ j' = j then some x else S b' j'
def stepAt (D : MD) (b : Bool) (j : Nat) (sel : Int → Int → Bool) (v : VV) (s : RS) : RS := (updV s.1 b j (stepC D sel v D.n ((s.1 b j).getD noneC, s.2)).1, (stepC D sel v D.n ((s.1 b j).getD noneC, s.2)).2)
def cell1 (D : MD) (nb : Nat) (y : Nat → Int) (j : Nat) (v : VV) (s : RS) : RS := if j < nb then stepAt D false (j + 1) (sel2 (y j)) v s else s
def cell2 (D : MD) (na : Nat) (x : Nat → Int) (i j : Nat) (v : VV) (s : RS) : RS := if i < na then stepAt D true j (sel3 (x i)) v s else s
def cell3 (D : MD) (na : Nat) (x : Nat → Int) (nb : Nat) (y : Nat → Int) (i j : Nat) (v : VV) (s : RS) : RS := if i < na ∧ j < nb then stepAt D true (j + 1) (sel4 (x i) (y j)) v s else s
def cellC (D : MD) (na : Nat) (x : Nat → Int) (nb : Nat) (y : Nat → Int) (i j : Nat) (s : RS) : RS :=
  match s.1 false j with
  | none => s
  | some v => cell3 D na x nb y i j v (cell2 D na x i j v (cell1 D nb y j v s))
def colC (D : MD) (na : Nat) (x : Nat → Int) (nb : Nat) (y : Nat → Int) (i : Nat) : Nat → RS → RS
  | 0, s => s
  | j + 1, s => cellC D na x nb y i j (colC D na x nb y i j s)
def twoR (row next : Nat → Option VV) : Bool → Nat → Option VV := fun b => if b then next else row
def outC (D : MD) (na : Nat) (x : Nat → Int) (nb : Nat) (y : Nat → Int) : Nat → Nat → (Nat → Option VV) → Nat → ByteArray × Nat
  | 0, _, _, e => finC D noneC e
  | k + 1, i, row, e =>
    if e ≠ 0 then finC D noneC e
    else if i = na ∧ ((colC D na x nb y i (nb + 1) (twoR row (fun _ => none), e)).1 false nb).isSome = true then
      finC D (((colC D na x nb y i (nb + 1) (twoR row (fun _ => none), e)).1 false nb).getD noneC) (colC D na x nb y i (nb + 1) (twoR row (fun _ => none), e)).2
    else outC D na x nb y k (i + 1) ((colC D na x nb y i (nb + 1) (twoR row (fun _ => none), e)).1 true) (colC D na x nb y i (nb + 1) (twoR row (fun _ => none), e)).2
def wgtC (D : MD) (na : Nat) (x : Nat → Int) (nb : Nat) (y : Nat → Int) : ByteArray × Nat := outC D na x nb y (na + 1) 0 (fun j => if j = 0 then some (startC D) else none) 0
def vrV (n : Nat) : Option Nat → Value
  | none => .slice none 0 0
  | some r => .slice (some ⟨r, 0, none⟩) n n
structure VR (w : World) (B : Nat) (g : Bool → Nat) (m n : Nat) (R : Bool → Nat → Option Nat) (S : Bool → Nat → Option VV) : Prop where
  top : ∀ b, w.rowIs (g b) 124 m (fun j => vrV n (R b j))
  gne : g false ≠ g true
  low : ∀ b, B ≤ g b
  non : ∀ b j, j < m → (R b j = none ↔ S b j = none)
  row : ∀ b j r x, j < m → R b j = some r → S b j = some x → w.rowIs r 9 n (fun q => .string (x q)) ∧ B ≤ r
  sep : ∀ b j b' j' r, j < m → j' < m → R b j = some r → R b' j' = some r → b = b' ∧ j = j'
  sm : ∀ b j x, S b j = some x → ∀ q, smS (x q)
theorem rowIs_ne {w : World} {g g' n n' : Nat} {e e' : TypeId} {F F' : Nat → Value} (h : w.rowIs g e n F) (h' : w.rowIs g' e' n' F') (he : e ≠ e') : g ≠ g' := by
  rintro rfl
  obtain ⟨c, hc, _⟩ := h
  obtain ⟨c', hc', _⟩ := h'
  rw [hc] at hc'
  simp at hc'
  exact he hc'.2
namespace VR
variable {w w' : World} {B : Nat} {g : Bool → Nat} {m n : Nat} {R : Bool → Nat → Option Nat} {S : Bool → Nat → Option VV}
theorem some_of (h : VR w B g m n R S) {b : Bool} {j : Nat} {x : VV} (hj : j < m) (hx : S b j = some x) : ∃ r, R b j = some r ∧ w.rowIs r 9 n (fun q => .string (x q)) ∧ B ≤ r := by
  cases hr : R b j with
  | none => have := (h.non b j hj).1 hr; rw [hx] at this; cases this
  | some r => exact ⟨r, rfl, h.row b j r x hj hr hx⟩
theorem topne (h : VR w B g m n R S) {b b' : Bool} {j r : Nat} {x : VV} (hj : j < m) (hr : R b j = some r) (hx : S b j = some x) : g b' ≠ r := rowIs_ne (h.top b') (h.row b j r x hj hr hx).1 (by decide)
theorem kept {C : Nat → Prop} (h : VR w B g m n R S) (hf : Fr C w w') (hg : ∀ b, ¬ C (g b)) (hr : ∀ b j r, j < m → R b j = some r → ¬ C r) : VR w' B g m n R S :=
  ⟨fun b => hf.row (h.top b) (hg b), h.gne, h.low, h.non, fun b j r x hj h1 h2 => ⟨hf.row (h.row b j r x hj h1 h2).1 (hr b j r hj h1), (h.row b j r x hj h1 h2).2⟩, h.sep, h.sm⟩
theorem stored (h : VR w B g m n R S) {b : Bool} {j r : Nat} {x : VV} (hj : j < m) (hr : R b j = some r) (hf : Fr (fun q => q = r) w w') (hx : w'.rowIs r 9 n (fun q => .string (x q))) (hs : ∀ q, smS (x q)) : VR w' B g m n R (updV S b j x) := by
  have hx0 : ∃ x0, S b j = some x0 := by
    cases hs0 : S b j with
    | none => have := (h.non b j hj).2 hs0; rw [hr] at this; cases this
    | some x0 => exact ⟨x0, rfl⟩
  obtain ⟨x0, hx0⟩ := hx0
  refine ⟨fun b' => hf.row (h.top b') (h.topne hj hr hx0), h.gne, h.low, fun b' j' hj' => ?_, fun b' j' r' x' hj' h1 h2 => ?_, h.sep, fun b' j' x' h1 => ?_⟩
  · unfold updV
    by_cases e : b' = b ∧ j' = j
    · obtain ⟨rfl, rfl⟩ := e; rw [if_pos ⟨rfl, rfl⟩, hr]; simp
    · rw [if_neg e]; exact h.non b' j' hj'
  · unfold updV at h2
    by_cases e : b' = b ∧ j' = j
    · obtain ⟨rfl, rfl⟩ := e
      rw [if_pos ⟨rfl, rfl⟩] at h2; cases h2
      rw [hr] at h1; cases h1
      exact ⟨hx, (h.row b' j' r x0 hj hr hx0).2⟩
    · rw [if_neg e] at h2
      refine ⟨hf.row (h.row b' j' r' x' hj' h1 h2).1 (fun e2 => ?_), (h.row b' j' r' x' hj' h1 h2).2⟩
      subst e2; exact e (h.sep b' j' b j r' hj' hj h1 hr)
  · unfold updV at h1
    by_cases e : b' = b ∧ j' = j
    · rw [if_pos e] at h1; cases h1; exact hs
    · rw [if_neg e] at h1; exact h.sm b' j' x' h1
theorem fresh (h : VR w B g m n R S) {b : Bool} {j r : Nat} {x : VV} (hB : B ≤ w.heap.size) (hr : w.heap.size ≤ r) (hf : Fr (fun q => q = g b) w w') (hx : w'.rowIs r 9 n (fun q => .string (x q))) (hs : ∀ q, smS (x q))
    (ht : w'.rowIs (g b) 124 m (fun j' => if j' = j then vrV n (some r) else vrV n (R b j'))) : VR w' B g m n (fun b' j' => if b' = b ∧ j' = j then some r else R b' j') (updV S b j x) := by
  have hlt : ∀ b' j' r', j' < m → R b' j' = some r' → r' < w.heap.size := fun b' j' r' hj' h1 => by
    cases hs0 : S b' j' with
    | none => have := (h.non b' j' hj').2 hs0; rw [h1] at this; cases this
    | some x0 => exact (h.row b' j' r' x0 hj' h1 hs0).1.lt
  refine ⟨fun b' => ?_, h.gne, h.low, fun b' j' hj' => ?_, fun b' j' r' x' hj' h1 h2 => ?_, fun b1 j1 b2 j2 r' hj1 hj2 h1 h2 => ?_, fun b' j' x' h1 => ?_⟩
  · by_cases e : b' = b
    · subst e
      refine ht.congr (fun j' _ => ?_)
      by_cases e : j' = j
      · rw [if_pos e, if_pos ⟨rfl, e⟩]
      · rw [if_neg e, if_neg (fun h => e h.2)]
    · refine (hf.row (h.top b') (fun e2 => ?_)).congr (fun j' _ => by rw [if_neg (fun h => e h.1)])
      have h3 := h.gne
      cases b' <;> cases b <;> first | exact e rfl | exact h3 e2 | exact h3 e2.symm
  · unfold updV
    by_cases e : b' = b ∧ j' = j
    · rw [if_pos e, if_pos e]; simp
    · rw [if_neg e, if_neg e]; exact h.non b' j' hj'
  · unfold updV at h2
    by_cases e : b' = b ∧ j' = j
    · rw [if_pos e] at h1 h2; cases h1; cases h2; exact ⟨hx, by omega⟩
    · rw [if_neg e] at h1 h2
      have h3 := h.row b' j' r' x' hj' h1 h2
      exact ⟨hf.row h3.1 (fun e2 => rowIs_ne (h.top b) h3.1 (by decide) e2.symm), h3.2⟩
  · by_cases e1 : b1 = b ∧ j1 = j
    · by_cases e2 : b2 = b ∧ j2 = j
      · exact ⟨e1.1.trans e2.1.symm, e1.2.trans e2.2.symm⟩
      · rw [if_pos e1] at h1; rw [if_neg e2] at h2; cases h1
        have := hlt b2 j2 r hj2 h2; omega
    · rw [if_neg e1] at h1
      by_cases e2 : b2 = b ∧ j2 = j
      · rw [if_pos e2] at h2; cases h2
        have := hlt b1 j1 r hj1 h1; omega
      · rw [if_neg e2] at h2; exact h.sep b1 j1 b2 j2 r' hj1 hj2 h1 h2
  · unfold updV at h1
    by_cases e : b' = b ∧ j' = j
    · rw [if_pos e] at h1; cases h1; exact hs
    · rw [if_neg e] at h1; exact h.sm b' j' x' h1
end VR
def AtE (B : Nat) (g : Bool → Nat) (m n : Nat) (S : Bool → Nat → Option VV) (R : Bool → Nat → Option Nat) (b : Bool) (j : Nat) (w : World) (r : Ending) (w' : World) : Prop :=
  ∃ R' r0, r = .returned (.slice (some ⟨r0, 0, none⟩) n n) ∧ R' b j = some r0 ∧ (∀ b' j', ¬ (b' = b ∧ j' = j) → R' b' j' = R b' j') ∧ VR w' B g m n R' (updV S b j ((S b j).getD noneC)) ∧ Fr (fun q => q = g b) w w'
theorem noneC_sm (q : Nat) : smS (noneC q) := by show (⟨#[]⟩ : ByteArray).size ≤ _; decide
set_option maxHeartbeats 8000000 in
theorem at_any {cb c8 B m j : Nat} {b : Bool} {g : Bool → Nat} {R : Bool → Nat → Option Nat} {S : Bool → Nat → Option VV} {D : MD} {a : Option Addr} {cap : Nat} {star : Value} {e : Nat} (w : World) (h : VR w B g m D.n R S) (hs : Scl w cb D (.slice a D.n cap) star e)
    (h8 : w.cell? ⟨c8, 0, none⟩ = some (.pointer (some ⟨cb, 0, none⟩))) (hj : j < m) (hB : B ≤ w.heap.size) (h1 : 1 ≤ D.n) (hn : D.n ≤ 3000) :
    Calls Tryz.prog 81 #[.slice (some ⟨g b, 0, none⟩) m m, .int .i64 (j : Int), .pointer (some ⟨c8, 0, none⟩)] w (AtE B g m D.n S R b j w) := by
  have hjz : (j : Int) < (m : Int) := by omega
  have hjz0 : (0 : Int) ≤ (j : Int) := by omega
  obtain ⟨gb, hgb⟩ : ∃ gb, gb = g b := ⟨_, rfl⟩
  have c0 := (h.top b).cell hj
  rw [← hgb] at c0
  cases hr : R b j with
  | none =>
    have hq := fun w => eql_nil 124 9 Tryz.underlying124 w none 0 0
    rw [show (none : Option Addr).isNone = true from rfl] at hq
    rw [hr] at c0
    have c0' : w.cell? ⟨gb, j, none⟩ = some (.slice none 0 0) := c0
    clear c0
    have HNO := Lib.hid (wnone_any w hs h1 hn)
    have HVR := Lib.hid h; clear h
    have HS := Lib.hid hs; clear hs
    have HR := Lib.hid hr; clear hr
    have HGB := Lib.hid hgb
    rw [← hgb]
    clear hgb
    go_enter Tryz.func81, Tryz.ntmps81
    go_wp2_with fail
    refine HNO.out.mono ?_
    rintro r w1 ⟨rfl, hrow, hf, hz⟩
    obtain ⟨nb, hnb⟩ : ∃ nb, nb = w.heap.size := ⟨_, rfl⟩
    rw [← hnb] at hrow
    rw [← hnb]
    have htop : w1.rowIs gb 124 m (fun j => vrV D.n (R b j)) := by rw [HGB.out]; exact hf.row (HVR.out.top b) (fun e => e)
    have f0 := htop.frozen j
    have g0 := htop.cell hj
    have htop2 := htop.set j (vrV D.n (some nb))
    have hne : nb ≠ gb := by have := (HVR.out.top b).lt; rw [← HGB.out] at this; omega
    have hrow2 := hrow.setOther (a := ⟨gb, j, none⟩) hne (vrV D.n (some nb))
    have hlow := HVR.out.low b
    rw [← HGB.out] at hlow
    have hfr : Fr (fun q => q = g b) w (w1.setCell ⟨gb, j, none⟩ (vrV D.n (some nb))) := (hf.mono (fun _ _ e => e.elim)).set (.inl HGB.out) _
    have htop3 : (w1.setCell ⟨gb, j, none⟩ (vrV D.n (some nb))).rowIs (g b) 124 m (fun j' => if j' = j then vrV D.n (some nb) else vrV D.n (R b j')) := by rw [← HGB.out]; exact htop2
    have hvr := HVR.out.fresh (j := j) hB (show w.heap.size ≤ nb by omega) hfr hrow2 noneC_sm htop3
    have g1 := htop3.cell hj
    rw [if_pos rfl, ← HGB.out] at g1
    have g1' : (w1.setCell ⟨gb, j, none⟩ (.slice (some ⟨nb, 0, none⟩) D.n D.n)).cell? ⟨gb, j, none⟩ = some (.slice (some ⟨nb, 0, none⟩) D.n D.n) := g1
    have HVR2 := Lib.hid hvr; clear hvr
    have HFR := Lib.hid hfr; clear hfr
    rw [HR.out] at g0
    have g0' : w1.cell? ⟨gb, j, none⟩ = some (.slice none 0 0) := g0
    clear htop htop2 hrow2 hrow hf hz hnb htop3 g1 g0 hlow hne
    go_wp2_with fail
    go_ret
    have hsn : (S b j).getD noneC = noneC := by
      rw [(HVR.out.non b j hj).1 HR.out]; rfl
    exact ⟨_, nb, rfl, if_pos ⟨rfl, rfl⟩, fun b' j' h => if_neg h, by rw [hsn]; exact HVR2.out, HFR.out⟩
  | some r0 =>
    rw [hr] at c0
    have c0' : w.cell? ⟨gb, j, none⟩ = some (.slice (some ⟨r0, 0, none⟩) D.n D.n) := c0
    clear c0
    have hq := fun w => eql_nil 124 9 Tryz.underlying124 w (some ⟨r0, 0, none⟩) D.n D.n
    rw [show (some (⟨r0, 0, none⟩ : Addr)).isNone = false from rfl] at hq
    have HVR := Lib.hid h; clear h
    have HR := Lib.hid hr; clear hr
    rw [← hgb]
    have HGB := Lib.hid hgb; clear hgb
    clear hs
    go_enter Tryz.func81, Tryz.ntmps81
    go_wp2_with fail
    go_ret
    refine ⟨R, r0, rfl, HR.out, fun b' j' _ => rfl, ?_, Fr.refl _ _⟩
    cases hx : S b j with
    | none => have := (HVR.out.non b j hj).2 hx; rw [HR.out] at this; cases this
    | some x =>
      have hu : updV S b j ((some x).getD noneC) = S := by
        funext b' j'
        unfold updV
        by_cases e : b' = b ∧ j' = j
        · rw [if_pos e, e.1, e.2, hx]; rfl
        · rw [if_neg e]
      rw [hu]; exact HVR.out
end Go.Proofs.YtjekapjbigfkbaaGreatDoor

namespace Go.Proofs.YtjekapjbigfkbaaGreatDoor
open Go Go.RowKit Go.Deep
set_option maxRecDepth 100000
set_option linter.unusedSimpArgs false
theorem rowIs_blk {w : World} {g b n : Nat} {e t : TypeId} {f : Nat → Value} {cs : Array Value} {fr : Nat × Nat} (h : w.rowIs g e n f) (hb : w.heap[b]? = some (.cells cs t fr)) (ht : t ≠ e) : g ≠ b := by
  rintro rfl
  obtain ⟨c, hc, _⟩ := h
  rw [hc] at hb; simp at hb; exact ht hb.2.1.symm
def Bx (w : World) (b : Nat) (t : TypeId) (v : Value) : Prop := w.heap[b]? = some (.cells #[v] t (0, 0))
theorem Bx.cell {w : World} {b : Nat} {t : TypeId} {v : Value} (h : Bx w b t v) : w.cell? ⟨b, 0, none⟩ = some v := by unfold Bx at h; simp [World.cell?, h]
theorem Bx.lt {w : World} {b : Nat} {t : TypeId} {v : Value} (h : Bx w b t v) : b < w.heap.size := (Array.getElem?_eq_some_iff.1 h).1
theorem Bx.kept {w w' : World} {b : Nat} {t : TypeId} {v : Value} {C : Nat → Prop} (h : Bx w b t v) (hf : Fr C w w') (hc : ¬ C b) : Bx w' b t v := (hf.block b h.lt hc).trans h
theorem Bx.ne {w : World} {b c : Nat} {t t' : TypeId} {v v' : Value} (h : Bx w b t v) (h' : Bx w c t' v') (ht : t ≠ t') : b ≠ c := by
  rintro rfl; unfold Bx at h h'; rw [h] at h'; simp at h'; exact ht h'.2
structure WE (w0 w : World) (cb c8 xb yb : Nat) (D : MD) (sv xv yv : Value) (e : Nat) : Prop where
  hb : Below w0.heap.size w0 w
  sc : Scl w cb D sv (.slice none 0 0) e
  k8 : Bx w c8 120 (.pointer (some ⟨cb, 0, none⟩))
  kx : Bx w xb 27 xv
  ky : Bx w yb 27 yv
  lc : w0.heap.size ≤ cb
namespace WE
variable {w0 w w' : World} {cb c8 xb yb : Nat} {D : MD} {sv xv yv : Value} {e : Nat}
theorem n8 (h : WE w0 w cb c8 xb yb D sv xv yv e) : c8 ≠ cb := by rintro rfl; have h1 := h.sc; have h2 := h.k8; unfold Scl at h1; unfold Bx at h2; rw [h1] at h2; simp at h2
theorem nx (h : WE w0 w cb c8 xb yb D sv xv yv e) : xb ≠ cb := by rintro rfl; have h1 := h.sc; have h2 := h.kx; unfold Scl at h1; unfold Bx at h2; rw [h1] at h2; simp at h2
theorem ny (h : WE w0 w cb c8 xb yb D sv xv yv e) : yb ≠ cb := by rintro rfl; have h1 := h.sc; have h2 := h.ky; unfold Scl at h1; unfold Bx at h2; rw [h1] at h2; simp at h2
theorem kept {C : Nat → Prop} (h : WE w0 w cb c8 xb yb D sv xv yv e) (hf : Fr C w w') (h1 : ¬ C cb) (h2 : ¬ C c8) (h3 : ¬ C xb) (h4 : ¬ C yb) (hc : ∀ q, C q → w0.heap.size ≤ q) : WE w0 w' cb c8 xb yb D sv xv yv e :=
  ⟨h.hb.trans (hf.below h.hb.size hc), h.sc.kept hf h1, h.k8.kept hf h2, h.kx.kept hf h3, h.ky.kept hf h4, h.lc⟩
theorem stepped {lb n e' : Nat} {F : Nat → Value} (h : WE w0 w cb c8 xb yb D sv xv yv e) (hf : Fr (fun q => q = cb ∨ q = lb) w w') (hs : Scl w' cb D sv (.slice none 0 0) e') (hl : w.rowIs lb 9 n F) (hlb : w0.heap.size ≤ lb) : WE w0 w' cb c8 xb yb D sv xv yv e' := by
  have hn : ∀ q, q ≠ cb → q ≠ lb → ¬ (q = cb ∨ q = lb) := fun q a b c => c.elim a b
  exact ⟨h.hb.trans (hf.below h.hb.size (fun q hq => by rcases hq with rfl | rfl; exact h.lc; exact hlb)), hs, h.k8.kept hf (hn _ h.n8 (rowIs_blk hl h.k8 (by decide)).symm), h.kx.kept hf (hn _ h.nx (rowIs_blk hl h.kx (by decide)).symm), h.ky.kept hf (hn _ h.ny (rowIs_blk hl h.ky (by decide)).symm), h.lc⟩
end WE
structure PWt (w0 : World) (cb xb yb ib jb : Nat) (xv yv : Value) (i j : Nat) (w : World) : Prop where
  hb : Below w0.heap.size w0 w
  kx : Bx w xb 27 xv
  ky : Bx w yb 27 yv
  ki : Bx w ib 3 (.int .i64 (i : Int))
  kj : Bx w jb 3 (.int .i64 (j : Int))
  nx : xb ≠ cb
  ny : yb ≠ cb
  ni : ib ≠ cb
  nj : jb ≠ cb
theorem PWt.fr {w0 wa wb : World} {cb xb yb ib jb lb i j : Nat} {xv yv : Value} (h : PWt w0 cb xb yb ib jb xv yv i j wa) (hf : Fr (fun q => q = cb ∨ q = lb) wa wb) (hc : w0.heap.size ≤ cb) (hl : w0.heap.size ≤ lb) (lx : xb ≠ lb) (ly : yb ≠ lb) (li : ib ≠ lb) (lj : jb ≠ lb) : PWt w0 cb xb yb ib jb xv yv i j wb := by
  have hn : ∀ q, q ≠ cb → q ≠ lb → ¬ (q = cb ∨ q = lb) := fun q a b c => c.elim a b
  exact ⟨h.hb.trans (hf.below h.hb.size (fun q hq => by rcases hq with rfl | rfl; exact hc; exact hl)), h.kx.kept hf (hn _ h.nx lx), h.ky.kept hf (hn _ h.ny ly), h.ki.kept hf (hn _ h.ni li), h.kj.kept hf (hn _ h.nj lj), h.nx, h.ny, h.ni, h.nj⟩
theorem bxI_of {w0 w : World} {xb n : Nat} {xv : Value} {x : Nat → Int} (hx : Si none w0 xv n x) (hb : Below w0.heap.size w0 w) (h : Bx w xb 27 xv) : BxI w xb n x := ⟨xv, h.cell, hx.kept (gb_below hb none)⟩
theorem tst2 {w0 : World} {cb xb yb ib jb n i j : Nat} {xv yv : Value} {y : Nat → Int} (hy : Si none w0 yv n y) (hj : j < n) : TstA 85 #[.pointer (some ⟨yb, 0, none⟩), .pointer (some ⟨jb, 0, none⟩)] (sel2 (y j)) (PWt w0 cb xb yb ib jb xv yv i j) :=
  ⟨enterW2, fun wk hp i0 o0 s0 t0 => by
    have h := w2_any wk (bxI_of hy hp.hb hp.ky) hp.kj.cell hj i0 o0 s0 t0
    rw [show ∀ a b c : Value, (#[a] ++ #[b, c] : Array Value) = #[a, b, c] from fun _ _ _ => rfl]
    exact h⟩
theorem tst3 {w0 : World} {cb xb yb ib jb n i j : Nat} {xv yv : Value} {x : Nat → Int} (hx : Si none w0 xv n x) (hi : i < n) : TstA 86 #[.pointer (some ⟨xb, 0, none⟩), .pointer (some ⟨ib, 0, none⟩)] (sel3 (x i)) (PWt w0 cb xb yb ib jb xv yv i j) :=
  ⟨enterW3, fun wk hp i0 o0 s0 t0 => by
    have h := w3_any wk (bxI_of hx hp.hb hp.kx) hp.ki.cell hi i0 o0 s0 t0
    rw [show ∀ a b c : Value, (#[a] ++ #[b, c] : Array Value) = #[a, b, c] from fun _ _ _ => rfl]
    exact h⟩
theorem tst4 {w0 : World} {cb xb yb ib jb n n' i j : Nat} {xv yv : Value} {x y : Nat → Int} (hx : Si none w0 xv n x) (hi : i < n) (hy : Si none w0 yv n' y) (hj : j < n') : TstA 87 #[.pointer (some ⟨xb, 0, none⟩), .pointer (some ⟨ib, 0, none⟩), .pointer (some ⟨yb, 0, none⟩), .pointer (some ⟨jb, 0, none⟩)] (sel4 (x i) (y j)) (PWt w0 cb xb yb ib jb xv yv i j) :=
  ⟨enterW4, fun wk hp i0 o0 s0 t0 => by
    have h := w4_any wk (bxI_of hx hp.hb hp.kx) hp.ki.cell hi (bxI_of hy hp.hb hp.ky) hp.kj.cell hj i0 o0 s0 t0
    rw [show ∀ a b c d e : Value, (#[a] ++ #[b, c, d, e] : Array Value) = #[a, b, c, d, e] from fun _ _ _ _ _ => rfl]
    exact h⟩
theorem updV_ne {S : Bool → Nat → Option VV} {b b' : Bool} {j j' : Nat} {x : VV} (h : ¬ (b' = b ∧ j' = j)) : updV S b j x b' j' = S b' j' := if_neg h
theorem updV_at (S : Bool → Nat → Option VV) (b : Bool) (j : Nat) (x : VV) : updV S b j x b j = some x := if_pos ⟨rfl, rfl⟩
theorem stepAt_ne {D : MD} {b b' : Bool} {j j' : Nat} {sel : Int → Int → Bool} {v : VV} {s : RS} (h : ¬ (b' = b ∧ j' = j)) : (stepAt D b j sel v s).1 b' j' = s.1 b' j' := if_neg h
theorem updV_twice (S : Bool → Nat → Option VV) (b : Bool) (j : Nat) (x y : VV) : updV (updV S b j x) b j y = updV S b j y := by
  funext b' j'; unfold updV; by_cases e : b' = b ∧ j' = j <;> simp [e]
namespace VR
variable {w w' : World} {B : Nat} {g : Bool → Nat} {m n : Nat} {R : Bool → Nat → Option Nat} {S : Bool → Nat → Option VV}
theorem gne_of (h : VR w B g m n R S) {q : Nat} {cs : Array Value} {t : TypeId} {fr : Nat × Nat} (hq : w.heap[q]? = some (.cells cs t fr)) (ht : t ≠ 124) (b : Bool) : g b ≠ q := rowIs_blk (h.top b) hq ht
theorem rne_of (h : VR w B g m n R S) {q : Nat} {cs : Array Value} {t : TypeId} {fr : Nat × Nat} (hq : w.heap[q]? = some (.cells cs t fr)) (ht : t ≠ 9) {b : Bool} {j r : Nat} (hj : j < m) (hr : R b j = some r) : r ≠ q := by
  cases hs0 : S b j with
  | none => have := (h.non b j hj).2 hs0; rw [hr] at this; cases this
  | some x0 => exact rowIs_blk (h.row b j r x0 hj hr hs0).1 hq ht
theorem step2 {b : Bool} {j r cb : Nat} {x : VV} (h : VR w B g m n R S) (hj : j < m) (hr : R b j = some r) (hf : Fr (fun q => q = cb ∨ q = r) w w') (hcg : ∀ b, g b ≠ cb) (hcr : ∀ b j r, j < m → R b j = some r → r ≠ cb) (hx : w'.rowIs r 9 n (fun q => .string (x q))) (hs : ∀ q, smS (x q)) : VR w' B g m n R (updV S b j x) := by
  have hx0 : ∃ x0, S b j = some x0 := by
    cases hs0 : S b j with
    | none => have := (h.non b j hj).2 hs0; rw [hr] at this; cases this
    | some x0 => exact ⟨x0, rfl⟩
  obtain ⟨x0, hx0⟩ := hx0
  refine ⟨fun b' => hf.row (h.top b') (fun e => e.elim (hcg b') (h.topne hj hr hx0)), h.gne, h.low, fun b' j' hj' => ?_, fun b' j' r' x' hj' h1 h2 => ?_, h.sep, fun b' j' x' h1 => ?_⟩
  · unfold updV
    by_cases e : b' = b ∧ j' = j
    · obtain ⟨rfl, rfl⟩ := e; rw [if_pos ⟨rfl, rfl⟩, hr]; simp
    · rw [if_neg e]; exact h.non b' j' hj'
  · unfold updV at h2
    by_cases e : b' = b ∧ j' = j
    · obtain ⟨rfl, rfl⟩ := e
      rw [if_pos ⟨rfl, rfl⟩] at h2; cases h2
      rw [hr] at h1; cases h1
      exact ⟨hx, (h.row b' j' r x0 hj hr hx0).2⟩
    · rw [if_neg e] at h2
      refine ⟨hf.row (h.row b' j' r' x' hj' h1 h2).1 (fun e2 => ?_), (h.row b' j' r' x' hj' h1 h2).2⟩
      rcases e2 with e2 | e2
      · exact hcr b' j' r' hj' h1 e2
      · subst e2; exact e (h.sep b' j' b j r' hj' hj h1 hr)
  · unfold updV at h1
    by_cases e : b' = b ∧ j' = j
    · rw [if_pos e] at h1; cases h1; exact hs
    · rw [if_neg e] at h1; exact h.sm b' j' x' h1
theorem same (h : VR w B g m n R S) (b : Bool) {j : Nat} : VR (w.setCell ⟨g b, j, none⟩ (vrV n (R b j))) B g m n R S := by
  have hf : Fr (fun q => q = g b) w (w.setCell ⟨g b, j, none⟩ (vrV n (R b j))) := (Fr.refl (fun q => q = g b) w).set (p := ⟨g b, j, none⟩) (.inl rfl) _
  refine ⟨fun b' => ?_, h.gne, h.low, h.non, fun b' j' r' x' hj' h1 h2 => ⟨hf.row (h.row b' j' r' x' hj' h1 h2).1 (fun e => rowIs_ne (h.top b) (h.row b' j' r' x' hj' h1 h2).1 (by decide) e.symm), (h.row b' j' r' x' hj' h1 h2).2⟩, h.sep, h.sm⟩
  by_cases e : b' = b
  · subst e
    exact ((h.top b').set j _).congr (fun i _ => by
      by_cases e : i = j
      · subst e; rw [if_pos rfl]
      · rw [if_neg e])
  · refine hf.row (h.top b') (fun e2 => ?_)
    have h3 := h.gne
    cases b' <;> cases b <;> first | exact e rfl | exact h3 e2 | exact h3 e2.symm
end VR
structure VR1 (w : World) (B g m n : Nat) (R : Nat → Option Nat) (S : Nat → Option VV) : Prop where
  top : w.rowIs g 124 m (fun j => vrV n (R j))
  low : B ≤ g
  non : ∀ j, j < m → (R j = none ↔ S j = none)
  row : ∀ j r x, j < m → R j = some r → S j = some x → w.rowIs r 9 n (fun q => .string (x q)) ∧ B ≤ r
  sep : ∀ j j' r, j < m → j' < m → R j = some r → R j' = some r → j = j'
  sm : ∀ j x, S j = some x → ∀ q, smS (x q)
theorem VR.one {w : World} {B : Nat} {g : Bool → Nat} {m n : Nat} {R : Bool → Nat → Option Nat} {S : Bool → Nat → Option VV} (h : VR w B g m n R S) (b : Bool) : VR1 w B (g b) m n (R b) (S b) :=
  ⟨h.top b, h.low b, h.non b, h.row b, fun j j' r h1 h2 h3 h4 => (h.sep b j b j' r h1 h2 h3 h4).2, h.sm b⟩
theorem VR1.kept {w w' : World} {B g m n : Nat} {R : Nat → Option Nat} {S : Nat → Option VV} (h : VR1 w B g m n R S) (hf : Fr (fun _ => False) w w') : VR1 w' B g m n R S :=
  ⟨hf.row h.top (fun e => e), h.low, h.non, fun j r x hj h1 h2 => ⟨hf.row (h.row j r x hj h1 h2).1 (fun e => e), (h.row j r x hj h1 h2).2⟩, h.sep, h.sm⟩
theorem VR1.two {w w' : World} {B g g2 m n : Nat} {R : Nat → Option Nat} {S : Nat → Option VV} (h : VR1 w B g m n R S) (hf : Fr (fun _ => False) w w') (hg : w.heap.size ≤ g2) (hB : B ≤ w.heap.size) (h2 : w'.rowIs g2 124 m (fun _ => .slice none 0 0)) :
    VR w' B (fun b => if b then g2 else g) m n (fun b => if b then fun _ => none else R) (twoR S (fun _ => none)) := by
  have hk := h.kept hf
  have hlt := h.top.lt
  refine ⟨fun b => ?_, ?_, fun b => ?_, fun b j hj => ?_, fun b j r x hj h3 h4 => ?_, fun b j b' j' r hj hj' h3 h4 => ?_, fun b j x h3 => ?_⟩
  · cases b
    · exact hk.top
    · exact h2
  · show g ≠ g2; omega
  · cases b
    · exact h.low
    · show B ≤ g2; omega
  · cases b
    · exact h.non j hj
    · exact ⟨fun _ => rfl, fun _ => rfl⟩
  · cases b
    · exact hk.row j r x hj h3 h4
    · cases h3
  · cases b <;> cases b'
    · exact ⟨rfl, h.sep j j' r hj hj' h3 h4⟩
    · cases h4
    · cases h3
    · cases h3
  · cases b
    · exact h.sm j x h3
    · cases h3
end Go.Proofs.YtjekapjbigfkbaaGreatDoor

namespace Go.Proofs.YtjekapjbigfkbaaGreatDoor
open Go Go.RowKit Go.Deep
set_option maxRecDepth 100000
set_option linter.unusedSimpArgs false
def BoxE (wr : World) (mb : Nat) (M : EM) (sv : Value) : Prop := wr.heap[mb]? = some (.cells #[sv, .int .i64 M.most] 24 (0, 0))
theorem BoxE.c0 {wr : World} {mb : Nat} {M : EM} {sv : Value} (h : BoxE wr mb M sv) : wr.cell? ⟨mb, 0, none⟩ = some sv := by unfold BoxE at h; simp [World.cell?, h]
theorem BoxE.c1 {wr : World} {mb : Nat} {M : EM} {sv : Value} (h : BoxE wr mb M sv) : wr.cell? ⟨mb, 1, none⟩ = some (.int .i64 M.most) := by unfold BoxE at h; simp [World.cell?, h]
theorem BoxE.lt {wr : World} {mb : Nat} {M : EM} {sv : Value} (h : BoxE wr mb M sv) : mb < wr.heap.size := (Array.getElem?_eq_some_iff.1 h).1
theorem BoxE.kept {wr w' : World} {mb : Nat} {M : EM} {sv : Value} {z : Option Nat} (h : BoxE wr mb M sv) (hg : wr.grownBy w' z) (hz : some mb ≠ z) : BoxE w' mb M sv := by
  unfold BoxE; rw [hg.block mb h.lt hz]; exact h
theorem BoxE.new (w : World) (M : EM) (sv : Value) : BoxE (w.alloc (.cells #[sv, .int .i64 M.most] 24)) w.heap.size M sv := heap_alloc_new w _
def EvE (M : EM) (w : World) (r : Ending) (w' : World) : Prop := Below w.heap.size w w' ∧ ((VE M ∧ r = .returned (.bool true)) ∨ (¬ VE M ∧ r = .returned (.bool false)))
set_option maxHeartbeats 8000000 in
theorem evalid_any {M : EM} {v : Value} (w : World) (hM : Em none w v M) (hs : ESz M) (ht : Tab w) : Calls Tryz.prog 13 #[v] w (EvE M w) := by
  obtain ⟨sv, rfl, hS⟩ := hM
  obtain ⟨a, cap, b, off, A, A', C, C', rfl, ha, hc, hm, hb, hrow⟩ := hS.open
  unfold maxLen at hm
  clear hS
  have hbox := BoxE.new w M (.slice a M.n cap)
  have hbel : Below w.heap.size w (w.alloc (.cells #[.slice a M.n cap, .int .i64 M.most] 24)) := (Below.refl _ _).alloc (Nat.le_refl _) _
  have hnn := hs.n
  have hm0 := hs.m0
  have hm1 := hs.m1
  obtain ⟨mo, hmo⟩ : ∃ mo, mo = M.most := ⟨_, rfl⟩
  have HSZ := Lib.hid hs; clear hs
  have HT := Lib.hid ht; clear ht
  have HA := Lib.hid ha; clear ha
  have HB := Lib.hid hb; clear hb
  have HR := Lib.hid hrow; clear hrow
  have m0 := hbox.c0
  have m1 := hbox.c1
  have HBX := Lib.hid hbox; clear hbox
  have HBE := Lib.hid hbel; clear hbel
  clear hmo
  go_enter Tryz.func13, Tryz.ntmps13
  go_wp2_with fail
  all_goals first
    | (go_ret; exact ⟨HBE.out, .inr ⟨fun v => by have h1 := v.n4; have h2 := v.m0; have h3 := v.m6; omega, rfl⟩⟩)
    | skip
  have hpre : M.n ≤ 400 ∧ 0 ≤ M.most ∧ M.most ≤ 6 := by omega
  have HPRE := Lib.hid hpre; clear hpre
  obtain ⟨wm, hwm⟩ : ∃ wm, wm = w.alloc (.cells #[.slice a M.n cap, .int .i64 M.most] 24) := ⟨_, rfl⟩
  rw [← hwm] at HBE
  rw [← hwm]
  clear hwm m0 m1 HBX
  go_loopw [22] (fun i wr => ∃ q : Nat, q ≤ M.n ∧ i = .int .i64 (q : Int) ∧ (∀ l, l < q → EdOk (M.e l)) ∧ Below w.heap.size w wr) (fun i _ => M.n - (intOf i).toNat)
  case atStart => exact ⟨0, Nat.zero_le _, rfl, fun l hl => by omega, HBE.out⟩
  case round =>
    obtain ⟨q, hq, rfl, hok, hbw⟩ := hrel
    clear HBE
    have HOK := Lib.hid hok; clear hok
    have HBW := Lib.hid hbw; clear hbw
    by_cases hlt : q < M.n
    · have hqz : (q : Int) < (M.n : Int) := by omega
      have hqz0 : (0 : Int) ≤ (q : Int) := by omega
      obtain rfl := HA.out (by omega)
      have hbb := (HB.out (by omega)).1
      obtain ⟨k1, k2, k3, k4, k5⟩ := HR.out q hlt
      have c0 := (HBW.out.cell (p := ⟨b, off + q * 3, none⟩) hbb).trans k1
      have c1 := (HBW.out.cell (p := ⟨b, off + q * 3 + 1, none⟩) hbb).trans k2
      have c2 := (HBW.out.cell (p := ⟨b, off + q * 3 + 2, none⟩) hbb).trans k3
      clear k1 k2 k3
      have hnf := HSZ.out.f q
      have hnt := HSZ.out.t q
      obtain ⟨d, hd⟩ : ∃ d, d = M.e q := ⟨_, rfl⟩
      rw [← hd] at c0 c1 c2 k4 k5 hnf hnt
      obtain ⟨nf, hnfe⟩ : ∃ nf, nf = d.nf := ⟨_, rfl⟩
      obtain ⟨nt, hnte⟩ : ∃ nt, nt = d.nt := ⟨_, rfl⟩
      rw [← hnfe] at c0 k4 hnf
      rw [← hnte] at c1 k5 hnt
      have hno : ¬ EdOk d → ¬ VE M := fun h v => h (by rw [hd]; exact v.ok q hlt)
      have HNO := Lib.hid hno; clear hno
      have HK4 := Lib.hid k4; clear k4
      have HK5 := Lib.hid k5; clear k5
      have HD := Lib.hid hd; clear hd
      have HNF := Lib.hid hnfe; clear hnfe
      have HNT := Lib.hid hnte; clear hnte
      obtain ⟨wa, hwa⟩ : ∃ wa, wa = wr.alloc (.cells #[.slice (A q) nf (C q), .slice (A' q) nt (C' q), .string d.w] 50) := ⟨_, rfl⟩
      have hba := HBW.out.alloc HBW.out.size (.cells #[.slice (A q) nf (C q), .slice (A' q) nt (C' q), .string d.w] 50)
      rw [← hwa] at hba
      have hblk : wa.heap[wr.heap.size]? = some (.cells #[.slice (A q) nf (C q), .slice (A' q) nt (C' q), .string d.w] 50 (0, 0)) := by rw [hwa]; exact heap_alloc_new wr _
      obtain ⟨ab, hab⟩ : ∃ ab, ab = wr.heap.size := ⟨_, rfl⟩
      rw [← hab] at hblk
      have HBA := Lib.hid hba; clear hba
      have HBLK := Lib.hid hblk; clear hblk
      by_cases h6 : (6 : Int) < max (nf : Int) (nt : Int)
      · have hn : ¬ (d.nf ≤ 6 ∧ d.nt ≤ 6) := by rw [← HNF.out, ← HNT.out]; omega
        have HN := Lib.hid hn; clear hn
        go_wp2_with fail
        go_ret
        rw [← hwa]
        exact ⟨HBA.out, .inr ⟨HNO.out (fun h => HN.out ⟨h.f6, h.t6⟩), rfl⟩⟩
      · have h6' : decide ((6 : Int) < max (nf : Int) (nt : Int)) = false := by simp; omega
        have h66 : nf ≤ 6 ∧ nt ≤ 6 := by omega
        have H66 := Lib.hid h66; clear h66 h6
        have hw : IntKind.i64.wrap ((nf : Int) + (nt : Int)) = (nf : Int) + (nt : Int) := by rw [IntKind.wrap_i64]; have := H66.out; omega
        by_cases h00 : (nf : Int) + (nt : Int) = 0
        · have hn : ¬ (0 < d.nf + d.nt) := by rw [← HNF.out, ← HNT.out]; omega
          have HN := Lib.hid hn; clear hn
          go_wp2_with fail
          go_ret
          rw [← hwa]
          exact ⟨HBA.out, .inr ⟨HNO.out (fun h => HN.out h.pos), rfl⟩⟩
        · have hps : 0 < d.nf + d.nt := by rw [← HNF.out, ← HNT.out]; omega
          have HPS := Lib.hid hps; clear hps
          have hs1 := symbols_any (sig := 500) wa (HK4.out.kept (gb_below HBA.out none)) (by omega)
          have HS1 := Lib.hid hs1; clear hs1
          go_wp2_with fail
          rw [← hwa, ← hab]
          clear hw h6' hab hwa c0 c1 c2
          refine HS1.out.mono ?_
          rintro r w1 ⟨rfl, hb1⟩
          have hbl1 := HBA.out.trans (hb1.mono HBA.out.size)
          have hblk1 := (hb1.block ab (lt_of_block HBLK.out)).trans HBLK.out
          have e1 : w1.cell? ⟨ab, 1, none⟩ = some (.slice (A' q) nt (C' q)) := by simp [World.cell?, hblk1]
          have HB1 := Lib.hid hbl1; clear hbl1 hb1 HBA HBLK HS1
          have HBLK1 := Lib.hid hblk1; clear hblk1
          cases hw1 : wordB nf d.f 500
          · have hn := wordB_not.1 hw1
            have HN := Lib.hid hn; clear hn hw1
            go_wp2_with fail
            go_ret
            exact ⟨HB1.out, .inr ⟨HNO.out (fun h => HN.out (by rw [HNF.out]; exact h.fw)), rfl⟩⟩
          · have hn := wordB_iff.1 hw1
            have HW1 := Lib.hid hn; clear hn hw1
            have hs2 := symbols_any (sig := 500) w1 (HK5.out.kept (gb_below HB1.out none)) (by omega)
            have HS2 := Lib.hid hs2; clear hs2
            go_wp2_with fail
            refine HS2.out.mono ?_
            rintro r w2 ⟨rfl, hb2⟩
            have hbl2 := HB1.out.trans (hb2.mono HB1.out.size)
            have hblk2 := (hb2.block ab (lt_of_block HBLK1.out)).trans HBLK1.out
            have e2 : w2.cell? ⟨ab, 2, none⟩ = some (.string d.w) := by simp [World.cell?, hblk2]
            have HB2 := Lib.hid hbl2; clear hbl2 hb2 HB1 HBLK1 HS2 e1 hblk2
            cases hw2 : wordB nt d.t 500
            · have hn := wordB_not.1 hw2
              have HN := Lib.hid hn; clear hn hw2
              go_wp2_with fail
              go_ret
              exact ⟨HB2.out, .inr ⟨HNO.out (fun h => HN.out (by rw [HNT.out]; exact h.tw)), rfl⟩⟩
            · have hn := wordB_iff.1 hw2
              have HW2 := Lib.hid hn; clear hn hw2
              have hs3 := cost_any d.w w2 (by rw [HD.out]; have := HSZ.out.w q; omega) (HT.out.below HB2.out (Nat.le_refl _))
              have HS3 := Lib.hid hs3; clear hs3
              go_wp2_with fail
              refine HS3.out.mono ?_
              rintro r w3 ⟨rfl, hb3⟩
              have HB3 := Lib.hid (HB2.out.trans (hb3.mono HB2.out.size)); clear hb3 HB2 HS3 e2
              cases hw3 : costB d.w
              · have hn : ¬ costOk d.w := fun h => by rw [costB_iff.2 h] at hw3; cases hw3
                have HN := Lib.hid hn; clear hn hw3
                go_wp2_with fail
                go_ret
                exact ⟨HB3.out, .inr ⟨HNO.out (fun h => HN.out h.wt), rfl⟩⟩
              · have hn := costB_iff.1 hw3
                have HW3 := Lib.hid hn; clear hn hw3
                go_wp2_with fail
                go_roundw
                case rel =>
                  refine ⟨q + 1, by omega, by go_num, fun l hl => ?_, HB3.out⟩
                  by_cases e : l = q
                  · subst e
                    rw [← HD.out]
                    exact ⟨by rw [← HNF.out]; exact H66.out.1, by rw [← HNT.out]; exact H66.out.2, HPS.out, by rw [← HNF.out]; exact HW1.out, by rw [← HNT.out]; exact HW2.out, HW3.out⟩
                  · exact HOK.out l (by omega)
                case measure => simp [intOf]; omega
    · have hqn : q = M.n := by omega
      have hgt : ¬ ((q : Int) < (M.n : Int)) := by omega
      have HQ := Lib.hid hqn; clear hqn
      go_wp2_with fail
      go_ret
      exact ⟨HBW.out, .inl ⟨⟨HPRE.out.1, HPRE.out.2.1, HPRE.out.2.2, fun i hi => HOK.out i (by rw [HQ.out]; exact hi)⟩, rfl⟩⟩
end Go.Proofs.YtjekapjbigfkbaaGreatDoor
