/- Parts of a proof: EdG EdLaw. -/
import Derived.Test.YtjekapjbigfkbaaGreatDoorS20
import Derived.Test.YtjekapjbigfkbaaGreatDoorS21
import Derived.Test.YtjekapjbigfkbaaGreatDoorS18
namespace Go.Proofs.YtjekapjbigfkbaaGreatDoor
open Go Go.RowKit Go.Deep
set_option maxRecDepth 100000
set_option linter.unusedSimpArgs false
structure Cu (w : World) (B g cap n1 n2 n3 : Nat) (r : Nat → Nat) (s : Nat → Nat → Nat) (X : Nat → Nat → Nat → ByteArray) : Prop where
  top : w.ownsRow B 66 1 (.slice (some ⟨g, 0, none⟩) n1 cap) n1 (gvs n1 fun k => .slice (some ⟨r k, 0, none⟩) n2 n2)
  mid : ∀ k, k < n1 → w.rowIs (r k) 67 n2 (fun i => .slice (some ⟨s k i, 0, none⟩) n3 n3)
  row : ∀ k i, k < n1 → i < n2 → w.rowIs (s k i) 9 n3 (fun j => .string (X k i j)) ∧ B ≤ s k i
  inj : ∀ k i k' i', k < n1 → i < n2 → k' < n1 → i' < n2 → s k i = s k' i' → k = k' ∧ i = i'
  sm : ∀ k i j, smS (X k i j)
def updX (X : Nat → Nat → Nat → ByteArray) (k i j : Nat) (v : ByteArray) : Nat → Nat → Nat → ByteArray := fun k' i' j' => if k' = k ∧ i' = i ∧ j' = j then v else X k' i' j'
theorem row_blk {w : World} {B : Nat} {e : TypeId} {s n cap g : Nat} {xs : List Value} (h : w.ownsRow B e s (.slice (some ⟨g, 0, none⟩) n cap) n xs) : ∃ cs fr, w.heap[g]? = some (.cells cs e fr) := by
  rcases h.2 with ⟨hv, _⟩ | ⟨g', cap', cur, hv, _, hgg, _⟩
  · cases hv
  · cases hv; exact ⟨cur, _, hgg⟩
namespace Cu
variable {w w' : World} {B g cap n1 n2 n3 : Nat} {r : Nat → Nat} {s : Nat → Nat → Nat} {X : Nat → Nat → Nat → ByteArray}
theorem c1 (h : Cu w B g cap n1 n2 n3 r s X) {k : Nat} (hk : k < n1) : w.cell? ⟨g, k, none⟩ = some (.slice (some ⟨r k, 0, none⟩) n2 n2) := row_cell h.top (gvs_get _ _ _ hk)
theorem c2 (h : Cu w B g cap n1 n2 n3 r s X) {k i : Nat} (hk : k < n1) (hi : i < n2) : w.cell? ⟨r k, i, none⟩ = some (.slice (some ⟨s k i, 0, none⟩) n3 n3) := (h.mid k hk).cell hi
theorem c3 (h : Cu w B g cap n1 n2 n3 r s X) {k i j : Nat} (hk : k < n1) (hi : i < n2) (hj : j < n3) : w.cell? ⟨s k i, j, none⟩ = some (.string (X k i j)) := (h.row k i hk hi).1.cell hj
theorem kept {C : Nat → Prop} (h : Cu w B g cap n1 n2 n3 r s X) (hf : Fr C w w') (hg : ¬ C g) (hr : ∀ k, k < n1 → ¬ C (r k)) (hs : ∀ k i, k < n1 → i < n2 → ¬ C (s k i)) : Cu w' B g cap n1 n2 n3 r s X := by
  refine ⟨?_, fun k hk => hf.row (h.mid k hk) (hr k hk), fun k i hk hi => ⟨hf.row (h.row k i hk hi).1 (hs k i hk hi), (h.row k i hk hi).2⟩, h.inj, h.sm⟩
  have hlt := (World.ownsRow.lt h.top g rfl).2
  obtain ⟨hl, ho⟩ := h.top
  refine ⟨hl, ?_⟩
  rcases ho with ⟨hv, _⟩ | ⟨g', cap', cur, hv, h0, hgg, h1⟩
  · cases hv
  · cases hv; exact .inr ⟨g, cap, cur, rfl, h0, (hf.block g hlt hg).trans hgg, h1⟩
theorem new (h : Cu w B g cap n1 n2 n3 r s X) (hf : Fr (fun _ => False) w w') : Cu w' B g cap n1 n2 n3 r s X := h.kept hf (fun e => e) (fun _ _ e => e) (fun _ _ _ _ e => e)
theorem set (h : Cu w B g cap n1 n2 n3 r s X) {k i j : Nat} {v : ByteArray} (hk : k < n1) (hi : i < n2) (hv : smS v) : Cu (w.setCell ⟨s k i, j, none⟩ (.string v)) B g cap n1 n2 n3 r s (updX X k i j v) := by
  have hf : Fr (fun q => q = s k i) w (w.setCell ⟨s k i, j, none⟩ (.string v)) := (Fr.refl (fun q => q = s k i) w).set (p := ⟨s k i, j, none⟩) (.inl rfl) _
  have hrow := (h.row k i hk hi).1
  refine ⟨?_, fun k' hk' => hf.row (h.mid k' hk') (fun e => rowIs_ne hrow (h.mid k' hk') (by decide) e.symm), fun k' i' hk' hi' => ⟨?_, (h.row k' i' hk' hi').2⟩, h.inj, fun k' i' j' => ?_⟩
  · obtain ⟨cs, fr, hgb⟩ := row_blk h.top
    have hne : g ≠ s k i := fun e => rowIs_blk hrow hgb (by decide) e.symm
    exact row_kept h.top (hf.mono (C' := fun q => some (s k i) = some q) (fun q _ e => by rw [e])).gb (fun b hb e => by
      have e2 : g = b := by simpa [Value.ownBlock] using hb
      subst e2; exact hne (Option.some.inj e).symm)
  · by_cases e : k' = k ∧ i' = i
    · obtain ⟨rfl, rfl⟩ := e
      refine (hrow.set j _).congr (fun j' _ => ?_)
      unfold updX
      by_cases e : j' = j
      · rw [if_pos e, if_pos ⟨rfl, rfl, e⟩]
      · rw [if_neg e, if_neg (fun h => e h.2.2)]
    · refine (hf.row (h.row k' i' hk' hi').1 (fun e2 => e (h.inj k' i' k i hk' hi' hk hi e2))).congr (fun j' _ => ?_)
      unfold updX; rw [if_neg (fun h => e ⟨h.1, h.2.1⟩)]
  · unfold updX; split
    · exact hv
    · exact h.sm k' i' j'
end Cu
structure TbM (w : World) (tb g cap n1 n2 n3 : Nat) (ev xv yv : Value) (mo : Int) (e : Nat) : Prop where
  blk : w.heap[tb]? = some (.cells #[ev, .int .i64 mo, xv, yv, .slice (some ⟨g, 0, none⟩) n1 cap, .int .i64 (e : Int)] 65 (0, 0))
theorem TbM.cells {w : World} {tb g cap n1 n2 n3 : Nat} {ev xv yv : Value} {mo : Int} {e : Nat} (h : TbM w tb g cap n1 n2 n3 ev xv yv mo e) : w.cell? ⟨tb, 0, none⟩ = some ev ∧ w.cell? ⟨tb, 1, none⟩ = some (.int .i64 mo) ∧ w.cell? ⟨tb, 2, none⟩ = some xv ∧ w.cell? ⟨tb, 3, none⟩ = some yv ∧ w.cell? ⟨tb, 4, none⟩ = some (.slice (some ⟨g, 0, none⟩) n1 cap) ∧ w.cell? ⟨tb, 5, none⟩ = some (.int .i64 (e : Int)) := by
  have hb := h.blk
  exact ⟨by simp [World.cell?, hb], by simp [World.cell?, hb], by simp [World.cell?, hb], by simp [World.cell?, hb], by simp [World.cell?, hb], by simp [World.cell?, hb]⟩
theorem TbM.kept {w w' : World} {C : Nat → Prop} {tb g cap n1 n2 n3 : Nat} {ev xv yv : Value} {mo : Int} {e : Nat} (h : TbM w tb g cap n1 n2 n3 ev xv yv mo e) (hf : Fr C w w') (hc : ¬ C tb) : TbM w' tb g cap n1 n2 n3 ev xv yv mo e := ⟨(hf.block tb (lt_of_block h.blk) hc).trans h.blk⟩
def plV (k i j : Nat) : Value := .agg #[.int .i64 (k : Int), .int .i64 (i : Int), .int .i64 (j : Int)]
set_option maxHeartbeats 4000000 in
theorem get_any {B tb g cap n1 n2 n3 k i j e : Nat} {r : Nat → Nat} {s : Nat → Nat → Nat} {X : Nat → Nat → Nat → ByteArray} {ev xv yv : Value} {mo : Int} (w : World) (h : Cu w B g cap n1 n2 n3 r s X) (ht : TbM w tb g cap n1 n2 n3 ev xv yv mo e) (hk : k < n1) (hi : i < n2) (hj : j < n3) :
    Calls Tryz.prog 94 #[.pointer (some ⟨tb, 0, none⟩), plV k i j] w (fun r w' => r = .returned (.string (X k i j)) ∧ Below w.heap.size w w') := by
  have hkz : (k : Int) < (n1 : Int) := by omega
  have hiz : (i : Int) < (n2 : Int) := by omega
  have hjz : (j : Int) < (n3 : Int) := by omega
  have hkz0 : (0 : Int) ≤ (k : Int) := by omega
  have hiz0 : (0 : Int) ≤ (i : Int) := by omega
  have hjz0 : (0 : Int) ≤ (j : Int) := by omega
  obtain ⟨w1, hw1⟩ : ∃ w1, w1 = w.alloc (.cells #[.int .i64 (k : Int), .int .i64 (i : Int), .int .i64 (j : Int)] 70) := ⟨_, rfl⟩
  obtain ⟨pb, hpb⟩ : ∃ pb, pb = w.heap.size := ⟨_, rfl⟩
  have hf1 : Fr (fun _ => False) w w1 := by rw [hw1]; exact Fr.alloc _ _
  have h1 := h.new hf1
  have t1 := ht.kept hf1 (fun e => e)
  obtain ⟨_, _, _, _, c4, _⟩ := t1.cells
  have p0 : w1.cell? ⟨pb, 0, none⟩ = some (.int .i64 (k : Int)) := by rw [hw1, hpb]; exact cell_new w _ _ 0 _ rfl
  have p1 : w1.cell? ⟨pb, 1, none⟩ = some (.int .i64 (i : Int)) := by rw [hw1, hpb]; exact cell_new w _ _ 1 _ rfl
  have p2 : w1.cell? ⟨pb, 2, none⟩ = some (.int .i64 (j : Int)) := by rw [hw1, hpb]; exact cell_new w _ _ 2 _ rfl
  have d1 := h1.c1 hk
  have d2 := h1.c2 hk hi
  have d3 := h1.c3 hk hi hj
  have hbl := hf1.below (Nat.le_refl w.heap.size) (fun _ e => e.elim)
  obtain ⟨rk, hrk⟩ : ∃ rk, rk = r k := ⟨_, rfl⟩
  obtain ⟨ski, hski⟩ : ∃ ski, ski = s k i := ⟨_, rfl⟩
  obtain ⟨xx, hxx⟩ : ∃ xx, xx = X k i j := ⟨_, rfl⟩
  rw [← hrk] at d1 d2
  rw [← hski] at d2 d3
  rw [← hxx] at d3
  rw [← hxx]
  have HBL := Lib.hid hbl; clear hbl
  clear hrk hski hxx h1 t1 h ht hf1
  unfold plV
  go_enter Tryz.func94, Tryz.ntmps94
  go_wp2_with fail
  rw [← hw1, ← hpb]
  have HW1 := Lib.hid hw1; clear hw1
  have HPB := Lib.hid hpb; clear hpb
  go_quiet (fail)
  go_wp2_with fail
  go_ret
  exact ⟨rfl, below_drewN HBL.out _⟩
def reaC (X : Nat → Nat → Nat → ByteArray) (e : Nat) (p q : Pl) (wt : ByteArray) : (Nat → Nat → Nat → ByteArray) × Nat :=
  if (qaddF (X p.1 p.2.1 p.2.2) wt).2 ≠ 0 then (X, (qaddF (X p.1 p.2.1 p.2.2) wt).2)
  else if X q.1 q.2.1 q.2.2 = ⟨#[]⟩ ∨ qcmpF (qaddF (X p.1 p.2.1 p.2.2) wt).1 (X q.1 q.2.1 q.2.2) < 0 then (updX X q.1 q.2.1 q.2.2 (qaddF (X p.1 p.2.1 p.2.2) wt).1, e)
  else (X, e)
theorem qaddF_sm (a b : ByteArray) : smS (qaddF a b).1 := by
  unfold qaddF; split
  · exact Nat.le_trans (limR_size _) (by omega)
  · show (str []).size ≤ _; decide
def TbB (tb n1 n2 : Nat) (s : Nat → Nat → Nat) (q : Nat) : Prop := q = tb ∨ ∃ k i, k < n1 ∧ i < n2 ∧ q = s k i
def ReaE (B tb g cap n1 n2 n3 : Nat) (r : Nat → Nat) (s : Nat → Nat → Nat) (ev xv yv : Value) (mo : Int) (z : (Nat → Nat → Nat → ByteArray) × Nat) (w : World) (rr : Ending) (w' : World) : Prop :=
  rr = .returned (.tuple #[]) ∧ Cu w' B g cap n1 n2 n3 r s z.1 ∧ TbM w' tb g cap n1 n2 n3 ev xv yv mo z.2 ∧ Fr (TbB tb n1 n2 s) w w'
theorem Cu.tbne {w : World} {B g cap n1 n2 n3 : Nat} {r : Nat → Nat} {s : Nat → Nat → Nat} {X : Nat → Nat → Nat → ByteArray} (h : Cu w B g cap n1 n2 n3 r s X) {tb : Nat} {cs : Array Value} {fr : Nat × Nat} (ht : w.heap[tb]? = some (.cells cs 65 fr)) :
    g ≠ tb ∧ (∀ k, k < n1 → r k ≠ tb) ∧ ∀ k i, k < n1 → i < n2 → s k i ≠ tb := by
  refine ⟨fun e => ?_, fun k hk => rowIs_blk (h.mid k hk) ht (by decide), fun k i hk hi => rowIs_blk (h.row k i hk hi).1 ht (by decide)⟩
  obtain ⟨cs', fr', hgb⟩ := row_blk h.top
  subst e; rw [ht] at hgb; simp at hgb
set_option maxHeartbeats 8000000 in
theorem reach_any {B tb g cap n1 n2 n3 e : Nat} {p q : Pl} {r : Nat → Nat} {s : Nat → Nat → Nat} {X : Nat → Nat → Nat → ByteArray} {ev xv yv : Value} {mo : Int} {wt : ByteArray} (w : World) (h : Cu w B g cap n1 n2 n3 r s X) (ht : TbM w tb g cap n1 n2 n3 ev xv yv mo e)
    (hp : p.1 < n1 ∧ p.2.1 < n2 ∧ p.2.2 < n3) (hq : q.1 < n1 ∧ q.2.1 < n2 ∧ q.2.2 < n3) (hwt : smS wt) (hTab : Tab w) :
    Calls Tryz.prog 95 #[.pointer (some ⟨tb, 0, none⟩), plV p.1 p.2.1 p.2.2, plV q.1 q.2.1 q.2.2, .string wt] w (ReaE B tb g cap n1 n2 n3 r s ev xv yv mo (reaC X e p q wt) w) := by
  obtain ⟨k, i, j⟩ := p
  obtain ⟨k', i', j'⟩ := q
  obtain ⟨hk, hi, hj⟩ : k < n1 ∧ i < n2 ∧ j < n3 := hp
  obtain ⟨hk', hi', hj'⟩ : k' < n1 ∧ i' < n2 ∧ j' < n3 := hq
  have hkz : (k' : Int) < (n1 : Int) := by omega
  have hiz : (i' : Int) < (n2 : Int) := by omega
  have hjz : (j' : Int) < (n3 : Int) := by omega
  have hkz0 : (0 : Int) ≤ (k' : Int) := by omega
  have hiz0 : (0 : Int) ≤ (i' : Int) := by omega
  have hjz0 : (0 : Int) ≤ (j' : Int) := by omega
  obtain ⟨w1, hw1⟩ : ∃ w1, w1 = w.alloc (.cells #[.int .i64 (k : Int), .int .i64 (i : Int), .int .i64 (j : Int)] 70) := ⟨_, rfl⟩
  obtain ⟨w2, hw2⟩ : ∃ w2, w2 = w1.alloc (.cells #[.int .i64 (k' : Int), .int .i64 (i' : Int), .int .i64 (j' : Int)] 70) := ⟨_, rfl⟩
  have hz1 : w1.heap.size = w.heap.size + 1 := by rw [hw1]; simp
  obtain ⟨pb, hpb⟩ : ∃ pb, pb = w.heap.size := ⟨_, rfl⟩
  obtain ⟨qb, hqb⟩ : ∃ qb, qb = w.heap.size + 1 := ⟨_, rfl⟩
  have hf1 : Fr (fun _ => False) w w1 := by rw [hw1]; exact Fr.alloc _ _
  have hf2 : Fr (fun _ => False) w1 w2 := by rw [hw2]; exact Fr.alloc _ _
  have hq2 : w2.heap[qb]? = some (.cells #[.int .i64 (k' : Int), .int .i64 (i' : Int), .int .i64 (j' : Int)] 70 (0, 0)) := by rw [hw2, hqb, ← hz1]; exact heap_alloc_new w1 _
  have hf := hf1.trans hf2
  have h2 := h.new hf
  have t2 := ht.kept hf (fun e => e)
  have hg1 := get_any w2 h2 t2 hk hi hj
  unfold plV at hg1
  have HG1 := Lib.hid hg1; clear hg1
  have HF := Lib.hid hf; clear hf hf1 hf2
  have HC := Lib.hid h2; clear h2 h
  have HT := Lib.hid t2; clear t2 ht
  have HQ := Lib.hid hq2; clear hq2
  have HTB := Lib.hid hTab; clear hTab
  have HWT := Lib.hid hwt; clear hwt
  unfold plV
  show Calls Tryz.prog _ #[_, .agg #[.int .i64 (k : Int), .int .i64 (i : Int), .int .i64 (j : Int)], .agg #[.int .i64 (k' : Int), .int .i64 (i' : Int), .int .i64 (j' : Int)], _] w _
  go_enter Tryz.func95, Tryz.ntmps95
  go_wp2_with fail
  rw [← hw1, ← hw2, ← hqb, ← hpb]
  clear hw1 hw2 hz1 hqb hpb
  refine HG1.out.mono ?_
  rintro rr w3 ⟨rfl, hb3⟩
  have hf3 : Fr (fun _ => False) w2 w3 := Fr.of_below hb3
  have HC3 := Lib.hid (HC.out.new hf3); clear HC
  have HT3 := Lib.hid (HT.out.kept hf3 (fun e => e)); clear HT
  have HQ3 := Lib.hid ((hf3.block qb (lt_of_block HQ.out) (fun e => e)).trans HQ.out); clear HQ
  have HF3 := Lib.hid (HF.out.trans hf3); clear HF hb3 HG1
  have htab3 : Tab w3 := HTB.out.below (HF3.out.below (Nat.le_refl w.heap.size) (fun _ e => e.elim)) (Nat.le_refl _)
  have HAD := Lib.hid (qadd_any (X k i j) wt w3 (HC3.out.sm k i j) HWT.out htab3); clear htab3 hf3
  go_wp2_with fail
  refine HAD.out.mono ?_
  rintro rr w4 ⟨rfl, hb4⟩
  have hf4 : Fr (fun _ => False) w3 w4 := Fr.of_below hb4
  have HC4 := Lib.hid (HC3.out.new hf4); clear HC3
  have HT4 := Lib.hid (HT3.out.kept hf4 (fun e => e)); clear HT3
  have HQ4 := Lib.hid ((hf4.block qb (lt_of_block HQ3.out) (fun e => e)).trans HQ3.out); clear HQ3
  have HF4 := Lib.hid (HF3.out.trans hf4); clear HF3 hb4 HAD hf4
  obtain ⟨ad, had⟩ : ∃ ad, ad = qaddF (X k i j) wt := ⟨_, rfl⟩
  rw [← had]
  have hre : reaC X e (k, i, j) (k', i', j') wt = if ad.2 ≠ 0 then (X, ad.2) else if X k' i' j' = ⟨#[]⟩ ∨ qcmpF ad.1 (X k' i' j') < 0 then (updX X k' i' j' ad.1, e) else (X, e) := by rw [had]; rfl
  have hadm : smS ad.1 := by rw [had]; exact qaddF_sm _ _
  have HADM := Lib.hid hadm; clear hadm had
  have HRE := Lib.hid hre; clear hre
  by_cases he : ad.2 = 0
  rotate_left
  · have hez : ¬ ((ad.2 : Int) = 0) := by omega
    have hcl := HT4.out.cells.2.2.2.2.2
    have fz : w4.frozen? ⟨tb, 5, none⟩ = false := by simp [World.frozen?, HT4.out.blk]
    have HRE := Lib.hid (HRE.out.trans (if_pos he))
    go_wp2_with fail
    go_end0
    have hne := HC4.out.tbne HT4.out.blk
    have hfs : Fr (fun q => q = tb) w4 (w4.setCell ⟨tb, 5, none⟩ (.int .i64 (ad.2 : Int))) := (Fr.refl (fun q => q = tb) w4).set (p := ⟨tb, 5, none⟩) (.inl rfl) _
    show ReaE _ _ _ _ _ _ _ _ _ _ _ _ _ _ _ _ _
    rw [HRE.out]
    exact ⟨rfl, HC4.out.kept hfs hne.1 hne.2.1 hne.2.2, ⟨by simp [World.setCell, Array.getElem?_modify, HT4.out.blk]⟩, (HF4.out.mono (fun _ _ e => e.elim)).trans (hfs.mono (fun _ _ e => .inl e))⟩
  have HRE := Lib.hid (HRE.out.trans (if_neg (by simp [he])))
  have hg2 := get_any w4 HC4.out HT4.out hk' hi' hj'
  unfold plV at hg2
  have HG2 := Lib.hid hg2; clear hg2
  have q0 : w4.cell? ⟨qb, 0, none⟩ = some (.int .i64 (k' : Int)) := by simp [World.cell?, HQ4.out]
  have q1 : w4.cell? ⟨qb, 1, none⟩ = some (.int .i64 (i' : Int)) := by simp [World.cell?, HQ4.out]
  have q2 : w4.cell? ⟨qb, 2, none⟩ = some (.int .i64 (j' : Int)) := by simp [World.cell?, HQ4.out]
  obtain ⟨a1, a2⟩ := ad
  have he2 : a2 = 0 := he
  subst he2
  go_wp2_with fail
  clear q0 q1 q2
  refine HG2.out.mono ?_
  rintro rr w5 ⟨rfl, hb5⟩
  have hf5 : Fr (fun _ => False) w4 w5 := Fr.of_below hb5
  have HC5 := Lib.hid (HC4.out.new hf5); clear HC4
  have HT5 := Lib.hid (HT4.out.kept hf5 (fun e => e)); clear HT4
  have HQ5 := Lib.hid ((hf5.block qb (lt_of_block HQ4.out) (fun e => e)).trans HQ4.out); clear HQ4
  have HF5 := Lib.hid (HF4.out.trans hf5); clear HF4 hb5 HG2 hf5
  obtain ⟨old, hold⟩ : ∃ old, old = X k' i' j' := ⟨_, rfl⟩
  rw [← hold] at HRE
  rw [← hold]
  have holdm : smS old := by rw [hold]; exact HC5.out.sm _ _ _
  have HOM := Lib.hid holdm; clear holdm hold
  cases hO : (old.toList == [])
  · have ho : old ≠ ⟨#[]⟩ := fun e => by rw [e] at hO; simp at hO
    have htab5 : Tab w5 := HTB.out.below (HF5.out.below (Nat.le_refl w.heap.size) (fun _ e => e.elim)) (Nat.le_refl _)
    have HCM := Lib.hid (qcmp_any a1 old w5 HADM.out HOM.out htab5); clear htab5
    obtain ⟨cq, hcq⟩ : ∃ cq, cq = qcmpF a1 old := ⟨_, rfl⟩
    have hif : reaC X e (k, i, j) (k', i', j') wt = if cq < 0 then (updX X k' i' j' a1, e) else (X, e) := HRE.out.trans (by rw [hcq]; simp [ho])
    rw [← hcq] at HCM
    have HIF := Lib.hid hif; clear hif hcq ho
    go_wp2_with fail
    refine HCM.out.mono ?_
    rintro rr w6 ⟨rfl, hb6⟩
    have hf6 : Fr (fun _ => False) w5 w6 := Fr.of_below hb6
    have HC6 := Lib.hid (HC5.out.new hf6); clear HC5
    have HT6 := Lib.hid (HT5.out.kept hf6 (fun e => e)); clear HT5
    have HQ6 := Lib.hid ((hf6.block qb (lt_of_block HQ5.out) (fun e => e)).trans HQ5.out); clear HQ5
    have HF6 := Lib.hid (HF5.out.trans hf6); clear HF5 hb6 HCM hf6
    by_cases hlt : cq < 0
    · have HIF := Lib.hid (HIF.out.trans (if_pos hlt))
      have c1 := HC6.out.c1 hk'
      have c2 := HC6.out.c2 hk' hi'
      have c3 := HC6.out.c3 hk' hi' hj'
      have fz := (HC6.out.row k' i' hk' hi').1.frozen j'
      have hS0 : w6.drew.cell? ⟨tb, 4, none⟩ = some (.slice (some ⟨g, 0, none⟩) n1 cap) ∧ w6.drew.cell? ⟨qb, 0, none⟩ = some (.int .i64 (k' : Int)) ∧ w6.drew.cell? ⟨qb, 1, none⟩ = some (.int .i64 (i' : Int)) ∧ w6.drew.cell? ⟨qb, 2, none⟩ = some (.int .i64 (j' : Int)) ∧ w6.drew.cell? ⟨g, k', none⟩ = some (.slice (some ⟨r k', 0, none⟩) n2 n2) ∧ w6.drew.cell? ⟨r k', i', none⟩ = some (.slice (some ⟨s k' i', 0, none⟩) n3 n3) :=
        ⟨HT6.out.cells.2.2.2.2.1, show w6.cell? _ = _ by simp [World.cell?, HQ6.out], show w6.cell? _ = _ by simp [World.cell?, HQ6.out], show w6.cell? _ = _ by simp [World.cell?, HQ6.out], c1, c2⟩
      have g0 : w6.drew.cell? ⟨s k' i', j', none⟩ = some (.string (X k' i' j')) := c3
      have fz' : w6.drew.frozen? ⟨s k' i', j', none⟩ = false := fz
      clear c1 c2 c3 fz
      go_wp2_with fail
      refine region_heldK (fun wk' => wk'.cell? ⟨tb, 4, none⟩ = some (.slice (some ⟨g, 0, none⟩) n1 cap) ∧ wk'.cell? ⟨qb, 0, none⟩ = some (.int .i64 (k' : Int)) ∧ wk'.cell? ⟨qb, 1, none⟩ = some (.int .i64 (i' : Int)) ∧ wk'.cell? ⟨qb, 2, none⟩ = some (.int .i64 (j' : Int)) ∧ wk'.cell? ⟨g, k', none⟩ = some (.slice (some ⟨r k', 0, none⟩) n2 n2) ∧ wk'.cell? ⟨r k', i', none⟩ = some (.slice (some ⟨s k' i', 0, none⟩) n3 n3)) 16 (by kernel_rfl) ?_
      refine AnyK.tk (i := 0) (v := ?va0) rfl (by kernel_rfl) hS0 (Or.inl ⟨by kernel_rfl, ?hya0⟩) ?resta0
      case hya0 => rintro wk ⟨s1, s2, s3, s4, s5, s6⟩; go_simp; try with_reducible rfl
      refine AnyK.tk (i := 1) (v := ?va1) rfl (by kernel_rfl) hS0 (Or.inl ⟨by kernel_rfl, ?hya1⟩) ?resta1
      case hya1 => rintro wk ⟨s1, s2, s3, s4, s5, s6⟩; go_simp; try with_reducible rfl
      refine AnyK.tk (i := 2) (v := ?va2) rfl (by kernel_rfl) hS0 (Or.inl ⟨by kernel_rfl, ?hya2⟩) ?resta2
      case hya2 => rintro wk ⟨s1, s2, s3, s4, s5, s6⟩; go_simp; try with_reducible rfl
      refine AnyK.tk (i := 3) (v := ?va3) rfl (by kernel_rfl) hS0 (Or.inl ⟨by kernel_rfl, ?hya3⟩) ?resta3
      case hya3 => rintro wk ⟨s1, s2, s3, s4, s5, s6⟩; go_simp; try with_reducible rfl
      refine AnyK.tk (i := 4) (v := ?va4) rfl (by kernel_rfl) hS0 (Or.inl ⟨by kernel_rfl, ?hya4⟩) ?resta4
      case hya4 => rintro wk ⟨s1, s2, s3, s4, s5, s6⟩; go_simp; try with_reducible rfl
      refine AnyK.tk (i := 5) (v := ?va5) rfl (by kernel_rfl) hS0 (Or.inl ⟨by kernel_rfl, ?hya5⟩) ?resta5
      case hya5 => rintro wk ⟨s1, s2, s3, s4, s5, s6⟩; go_simp; try with_reducible rfl
      refine AnyK.tk (i := 6) (v := ?va6) rfl (by kernel_rfl) hS0 (Or.inl ⟨by kernel_rfl, ?hya6⟩) ?resta6
      case hya6 => rintro wk ⟨s1, s2, s3, s4, s5, s6⟩; go_simp; try with_reducible rfl
      refine AnyK.tk (i := 7) (v := ?va7) rfl (by kernel_rfl) hS0 (Or.inl ⟨by kernel_rfl, ?hya7⟩) ?resta7
      case hya7 => rintro wk ⟨s1, s2, s3, s4, s5, s6⟩; go_simp; try with_reducible rfl
      refine AnyK.tk (i := 8) (v := ?va8) rfl (by kernel_rfl) hS0 (Or.inl ⟨by kernel_rfl, ?hya8⟩) ?resta8
      case hya8 => rintro wk ⟨s1, s2, s3, s4, s5, s6⟩; go_simp; try with_reducible rfl
      refine AnyK.tk (i := 9) (v := ?va9) rfl (by kernel_rfl) hS0 (Or.inl ⟨by kernel_rfl, ?hya9⟩) ?resta9
      case hya9 => rintro wk ⟨s1, s2, s3, s4, s5, s6⟩; go_simp; try with_reducible rfl
      refine AnyK.tk (i := 10) (v := ?va10) rfl (by kernel_rfl) hS0 (Or.inl ⟨by kernel_rfl, ?hya10⟩) ?resta10
      case hya10 => rintro wk ⟨s1, s2, s3, s4, s5, s6⟩; go_simp; try with_reducible rfl
      refine AnyK.tk (i := 11) (v := ?va11) rfl (by kernel_rfl) hS0 (Or.inl ⟨by kernel_rfl, ?hya11⟩) ?resta11
      case hya11 => rintro wk ⟨s1, s2, s3, s4, s5, s6⟩; go_simp; try with_reducible rfl
      refine AnyK.tk (i := 12) (v := ?va12) rfl (by kernel_rfl) hS0 (Or.inl ⟨by kernel_rfl, ?hya12⟩) ?resta12
      case hya12 => rintro wk ⟨s1, s2, s3, s4, s5, s6⟩; go_simp; try with_reducible rfl
      refine AnyK.tk (i := 13) (v := ?va13) rfl (by kernel_rfl) hS0 (Or.inl ⟨by kernel_rfl, ?hya13⟩) ?resta13
      case hya13 => rintro wk ⟨s1, s2, s3, s4, s5, s6⟩; go_simp; try with_reducible rfl
      refine AnyK.tk (i := 14) (v := ?va14) rfl (by kernel_rfl) hS0 (Or.inl ⟨by kernel_rfl, ?hya14⟩) ?resta14
      case hya14 => rintro wk ⟨s1, s2, s3, s4, s5, s6⟩; go_simp; try with_reducible rfl
      refine AnyK.tk (i := 15) (v := ?va15) rfl (by kernel_rfl) hS0 (Or.inl ⟨by kernel_rfl, ?hya15⟩) ?resta15
      case hya15 => rintro wk ⟨s1, s2, s3, s4, s5, s6⟩; go_simp; try with_reducible rfl
      try simp only [Act.put, List.setIfInBounds_toArray, List.set_cons_zero, List.set_cons_succ, List.getElem_toArray, List.getElem_cons_succ, List.getElem_cons_zero]
      refine AnyK.one (i := 16) rfl (by kernel_rfl) (by rfl) (fun K hK => ?_)
      go_simp
      refine hK.out _ _ (.inl rfl) (AnyK.done (by kernel_rfl) ?_ _)
      clear hK K
      go_wp2_with fail
      go_end0
      show ReaE _ _ _ _ _ _ _ _ _ _ _ _ _ _ _ _ _
      rw [HIF.out]
      have hfs : Fr (fun q => q = s k' i') w6 (w6.setCell ⟨s k' i', j', none⟩ (.string a1)) := (Fr.refl (fun q => q = s k' i') w6).set (p := ⟨s k' i', j', none⟩) (.inl rfl) _
      have hne := (HC6.out.tbne HT6.out.blk).2.2 k' i' hk' hi'
      have hfd : Fr (fun _ => False) (w6.setCell ⟨s k' i', j', none⟩ (.string a1)) (w6.setCell ⟨s k' i', j', none⟩ (.string a1)).drew := (Fr.refl _ _).drew
      refine ⟨rfl, (HC6.out.set hk' hi' HADM.out).new hfd, (HT6.out.kept hfs (fun e => hne e.symm)).kept hfd (fun e => e), ?_⟩
      exact ((HF6.out.mono (fun _ _ e => e.elim)).trans (hfs.mono (fun _ _ e => .inr ⟨k', i', hk', hi', e⟩))).drew
    · have HIF := Lib.hid (HIF.out.trans (if_neg hlt))
      go_wp2_with fail
      go_end0
      show ReaE _ _ _ _ _ _ _ _ _ _ _ _ _ _ _ _ _
      rw [HIF.out]
      exact ⟨rfl, HC6.out, HT6.out, HF6.out.mono (fun _ _ e => e.elim)⟩
  · have ho : old = ⟨#[]⟩ := empty_eq hO
    have HIF := Lib.hid (HRE.out.trans (if_pos (.inl ho))); clear ho
    have c1 := HC5.out.c1 hk'
    have c2 := HC5.out.c2 hk' hi'
    have c3 := HC5.out.c3 hk' hi' hj'
    have fz := (HC5.out.row k' i' hk' hi').1.frozen j'
    have hS0 : w5.drew.cell? ⟨tb, 4, none⟩ = some (.slice (some ⟨g, 0, none⟩) n1 cap) ∧ w5.drew.cell? ⟨qb, 0, none⟩ = some (.int .i64 (k' : Int)) ∧ w5.drew.cell? ⟨qb, 1, none⟩ = some (.int .i64 (i' : Int)) ∧ w5.drew.cell? ⟨qb, 2, none⟩ = some (.int .i64 (j' : Int)) ∧ w5.drew.cell? ⟨g, k', none⟩ = some (.slice (some ⟨r k', 0, none⟩) n2 n2) ∧ w5.drew.cell? ⟨r k', i', none⟩ = some (.slice (some ⟨s k' i', 0, none⟩) n3 n3) :=
      ⟨HT5.out.cells.2.2.2.2.1, show w5.cell? _ = _ by simp [World.cell?, HQ5.out], show w5.cell? _ = _ by simp [World.cell?, HQ5.out], show w5.cell? _ = _ by simp [World.cell?, HQ5.out], c1, c2⟩
    have g0 : w5.drew.cell? ⟨s k' i', j', none⟩ = some (.string (X k' i' j')) := c3
    have fz' : w5.drew.frozen? ⟨s k' i', j', none⟩ = false := fz
    clear c1 c2 c3 fz
    go_wp2_with fail
    refine region_heldK (fun wk' => wk'.cell? ⟨tb, 4, none⟩ = some (.slice (some ⟨g, 0, none⟩) n1 cap) ∧ wk'.cell? ⟨qb, 0, none⟩ = some (.int .i64 (k' : Int)) ∧ wk'.cell? ⟨qb, 1, none⟩ = some (.int .i64 (i' : Int)) ∧ wk'.cell? ⟨qb, 2, none⟩ = some (.int .i64 (j' : Int)) ∧ wk'.cell? ⟨g, k', none⟩ = some (.slice (some ⟨r k', 0, none⟩) n2 n2) ∧ wk'.cell? ⟨r k', i', none⟩ = some (.slice (some ⟨s k' i', 0, none⟩) n3 n3)) 16 (by kernel_rfl) ?_
    refine AnyK.tk (i := 0) (v := ?vb0) rfl (by kernel_rfl) hS0 (Or.inl ⟨by kernel_rfl, ?hyb0⟩) ?restb0
    case hyb0 => rintro wk ⟨s1, s2, s3, s4, s5, s6⟩; go_simp; try with_reducible rfl
    refine AnyK.tk (i := 1) (v := ?vb1) rfl (by kernel_rfl) hS0 (Or.inl ⟨by kernel_rfl, ?hyb1⟩) ?restb1
    case hyb1 => rintro wk ⟨s1, s2, s3, s4, s5, s6⟩; go_simp; try with_reducible rfl
    refine AnyK.tk (i := 2) (v := ?vb2) rfl (by kernel_rfl) hS0 (Or.inl ⟨by kernel_rfl, ?hyb2⟩) ?restb2
    case hyb2 => rintro wk ⟨s1, s2, s3, s4, s5, s6⟩; go_simp; try with_reducible rfl
    refine AnyK.tk (i := 3) (v := ?vb3) rfl (by kernel_rfl) hS0 (Or.inl ⟨by kernel_rfl, ?hyb3⟩) ?restb3
    case hyb3 => rintro wk ⟨s1, s2, s3, s4, s5, s6⟩; go_simp; try with_reducible rfl
    refine AnyK.tk (i := 4) (v := ?vb4) rfl (by kernel_rfl) hS0 (Or.inl ⟨by kernel_rfl, ?hyb4⟩) ?restb4
    case hyb4 => rintro wk ⟨s1, s2, s3, s4, s5, s6⟩; go_simp; try with_reducible rfl
    refine AnyK.tk (i := 5) (v := ?vb5) rfl (by kernel_rfl) hS0 (Or.inl ⟨by kernel_rfl, ?hyb5⟩) ?restb5
    case hyb5 => rintro wk ⟨s1, s2, s3, s4, s5, s6⟩; go_simp; try with_reducible rfl
    refine AnyK.tk (i := 6) (v := ?vb6) rfl (by kernel_rfl) hS0 (Or.inl ⟨by kernel_rfl, ?hyb6⟩) ?restb6
    case hyb6 => rintro wk ⟨s1, s2, s3, s4, s5, s6⟩; go_simp; try with_reducible rfl
    refine AnyK.tk (i := 7) (v := ?vb7) rfl (by kernel_rfl) hS0 (Or.inl ⟨by kernel_rfl, ?hyb7⟩) ?restb7
    case hyb7 => rintro wk ⟨s1, s2, s3, s4, s5, s6⟩; go_simp; try with_reducible rfl
    refine AnyK.tk (i := 8) (v := ?vb8) rfl (by kernel_rfl) hS0 (Or.inl ⟨by kernel_rfl, ?hyb8⟩) ?restb8
    case hyb8 => rintro wk ⟨s1, s2, s3, s4, s5, s6⟩; go_simp; try with_reducible rfl
    refine AnyK.tk (i := 9) (v := ?vb9) rfl (by kernel_rfl) hS0 (Or.inl ⟨by kernel_rfl, ?hyb9⟩) ?restb9
    case hyb9 => rintro wk ⟨s1, s2, s3, s4, s5, s6⟩; go_simp; try with_reducible rfl
    refine AnyK.tk (i := 10) (v := ?vb10) rfl (by kernel_rfl) hS0 (Or.inl ⟨by kernel_rfl, ?hyb10⟩) ?restb10
    case hyb10 => rintro wk ⟨s1, s2, s3, s4, s5, s6⟩; go_simp; try with_reducible rfl
    refine AnyK.tk (i := 11) (v := ?vb11) rfl (by kernel_rfl) hS0 (Or.inl ⟨by kernel_rfl, ?hyb11⟩) ?restb11
    case hyb11 => rintro wk ⟨s1, s2, s3, s4, s5, s6⟩; go_simp; try with_reducible rfl
    refine AnyK.tk (i := 12) (v := ?vb12) rfl (by kernel_rfl) hS0 (Or.inl ⟨by kernel_rfl, ?hyb12⟩) ?restb12
    case hyb12 => rintro wk ⟨s1, s2, s3, s4, s5, s6⟩; go_simp; try with_reducible rfl
    refine AnyK.tk (i := 13) (v := ?vb13) rfl (by kernel_rfl) hS0 (Or.inl ⟨by kernel_rfl, ?hyb13⟩) ?restb13
    case hyb13 => rintro wk ⟨s1, s2, s3, s4, s5, s6⟩; go_simp; try with_reducible rfl
    refine AnyK.tk (i := 14) (v := ?vb14) rfl (by kernel_rfl) hS0 (Or.inl ⟨by kernel_rfl, ?hyb14⟩) ?restb14
    case hyb14 => rintro wk ⟨s1, s2, s3, s4, s5, s6⟩; go_simp; try with_reducible rfl
    refine AnyK.tk (i := 15) (v := ?vb15) rfl (by kernel_rfl) hS0 (Or.inl ⟨by kernel_rfl, ?hyb15⟩) ?restb15
    case hyb15 => rintro wk ⟨s1, s2, s3, s4, s5, s6⟩; go_simp; try with_reducible rfl
    try simp only [Act.put, List.setIfInBounds_toArray, List.set_cons_zero, List.set_cons_succ, List.getElem_toArray, List.getElem_cons_succ, List.getElem_cons_zero]
    refine AnyK.one (i := 16) rfl (by kernel_rfl) (by rfl) (fun K hK => ?_)
    go_simp
    refine hK.out _ _ (.inl rfl) (AnyK.done (by kernel_rfl) ?_ _)
    clear hK K
    go_wp2_with fail
    go_end0
    show ReaE _ _ _ _ _ _ _ _ _ _ _ _ _ _ _ _ _
    rw [HIF.out]
    have hfs : Fr (fun q => q = s k' i') w5 (w5.setCell ⟨s k' i', j', none⟩ (.string a1)) := (Fr.refl (fun q => q = s k' i') w5).set (p := ⟨s k' i', j', none⟩) (.inl rfl) _
    have hne := (HC5.out.tbne HT5.out.blk).2.2 k' i' hk' hi'
    have hfd : Fr (fun _ => False) (w5.setCell ⟨s k' i', j', none⟩ (.string a1)) (w5.setCell ⟨s k' i', j', none⟩ (.string a1)).drew := (Fr.refl _ _).drew
    refine ⟨rfl, (HC5.out.set hk' hi' HADM.out).new hfd, (HT5.out.kept hfs (fun e => hne e.symm)).kept hfd (fun e => e), ?_⟩
    exact ((HF5.out.mono (fun _ _ e => e.elim)).trans (hfs.mono (fun _ _ e => .inr ⟨k', i', hk', hi', e⟩))).drew
end Go.Proofs.YtjekapjbigfkbaaGreatDoor

namespace Go.Proofs.YtjekapjbigfkbaaGreatDoor
open Go
set_option maxRecDepth 100000
set_option linter.unusedSimpArgs false
structure Sub (P P' : EP) : Prop where
  n : P.M.n ≤ P'.M.n
  e : ∀ i, i < P.M.n → P'.M.e i = P.M.e i
  m : P.M.most ≤ P'.M.most
  a : P'.a = P.a
  b : P'.b = P.b
  x : ∀ i, i < P.a → P'.x i = P.x i
  y : ∀ i, i < P.b → P'.y i = P.y i
theorem bgs_congr {a : Nat} {x x' : Nat → Int} {i n : Nat} {u : Nat → Int} (h : bgs a x i n u) (hx : ∀ i, i < a → x' i = x i) : bgs a x' i n u :=
  ⟨h.1, fun k hk => by rw [hx _ (by have := h.1; omega)]; exact h.2 k hk⟩
theorem Sp.sub {P P' : EP} (hs : Sub P P') {p q : Pl} {l : Option Nat} {d : Rat} (h : Sp P p l q d) : Sp P' p l q d := by
  cases h with
  | copy a b c => exact .copy (by rw [hs.a]; exact a) (by rw [hs.b]; exact b) (by rw [hs.x _ a, hs.y _ b]; exact c)
  | @edit k i j e a b c d =>
    have h1 := @Sp.edit P' k i j e (Nat.lt_of_lt_of_le a hs.n) (by have := hs.m; omega) (by rw [hs.a, hs.e _ a]; exact bgs_congr c hs.x) (by rw [hs.b, hs.e _ a]; exact bgs_congr d hs.y)
    rw [hs.e _ a] at h1; exact h1
theorem Pth.sub {P P' : EP} (hs : Sub P P') {p : Pl} {c : Rat} (h : Pth P p c) : Pth P' p c := by
  induction h with
  | start => exact .start
  | step _ h2 ih => exact .step ih (h2.sub hs)
theorem IsCost.sub {P P' : EP} (hs : Sub P P') {u : Rat} {o : Option Rat} (h : IsCost P (some u)) (h' : IsCost P' o) : ∃ u', o = some u' ∧ u' ≤ u := by
  rcases h with ⟨h0, _⟩ | ⟨c, k, h0, h1, _⟩
  · cases h0
  · cases h0
    have h2 := h1.sub hs
    rw [← hs.a, ← hs.b] at h2
    rcases h' with ⟨rfl, h3⟩ | ⟨c', k', rfl, _, h4⟩
    · exact absurd h2 (h3 _ _)
    · exact ⟨c', rfl, h4 _ _ h2⟩
theorem Pth.none {P : EP} (hm : P.M.most = 0) {p : Pl} {c : Rat} (h : Pth P p c) : c = 0 ∧ p.2.1 = p.2.2 ∧ p.2.1 ≤ P.a ∧ p.2.2 ≤ P.b ∧ ∀ i, i < p.2.1 → P.x i = P.y i := by
  induction h with
  | start => exact ⟨rfl, rfl, Nat.zero_le _, Nat.zero_le _, fun i hi => absurd hi (Nat.not_lt_zero _)⟩
  | step h1 h2 ih =>
    obtain ⟨i1, i2, i3, i4, i5⟩ := ih
    cases h2 with
    | copy a b c =>
      refine ⟨by rw [i1]; exact Rat.add_zero 0, by show _ + 1 = _ + 1; simp at i2; rw [i2], by show _ + 1 ≤ _; omega, by show _ + 1 ≤ _; omega, fun i hi => ?_⟩
      have hi' : i < _ + 1 := hi
      simp at i2 i5
      rcases Nat.lt_or_ge i _ with h | h
      · exact i5 i h
      · have e := Nat.le_antisymm (Nat.lt_succ_iff.1 hi') h
        subst e; rw [c, i2]
    | edit a b => rw [hm] at b; omega
theorem pth_same {P : EP} : ∀ n, n ≤ P.a → n ≤ P.b → (∀ i, i < n → P.x i = P.y i) → Pth P (0, n, n) 0
  | 0, _, _, _ => .start
  | n + 1, h1, h2, h3 => by
    have h4 := Pth.step (pth_same n (by omega) (by omega) (fun i hi => h3 i (by omega))) (Sp.copy (P := P) (k := 0) (i := n) (j := n) (by omega) (by omega) (h3 n (by omega)))
    rw [Rat.add_zero] at h4; exact h4
theorem IsCost.none_most {P : EP} (hm : P.M.most = 0) {o : Option Rat} (h : IsCost P o) : (o = some 0 ∧ P.a = P.b ∧ ∀ i, i < P.a → P.x i = P.y i) ∨ (o = none ∧ ¬ (P.a = P.b ∧ ∀ i, i < P.a → P.x i = P.y i)) := by
  rcases h with ⟨rfl, h1⟩ | ⟨c, k, rfl, h1, _⟩
  · refine .inr ⟨rfl, fun ⟨h2, h3⟩ => h1 0 0 ?_⟩
    have h4 := pth_same (P := P) P.a (Nat.le_refl _) (by omega) h3
    rw [← h2]; exact h4
  · obtain ⟨rfl, h3, _, _, h4⟩ := h1.none hm
    exact .inl ⟨rfl, h3, h4⟩
theorem none_fits {P : EP} (hm : P.M.most = 0) : ¬ TooL P := by
  rintro ⟨p, c, l, q, d, h1, h2, h3⟩
  obtain ⟨h4, _⟩ := (Pth.step h1 h2).none hm
  rw [h4] at h3
  exact h3 (fit_sz.2 ((show szQ 1 0 from ⟨by decide, by decide⟩).mono (by omega)))
theorem IsCost.self {P : EP} (hv : ∀ i, i < P.M.n → EdOk (P.M.e i)) (hab : P.b = P.a) (hx : ∀ i, i < P.a → P.y i = P.x i) {o : Option Rat} (h : IsCost P o) : o = some 0 := by
  have h1 := pth_same (P := P) P.a (Nat.le_refl _) (by omega) (fun i hi => (hx i hi).symm)
  have h2 : Pth P (0, P.a, P.b) 0 := by rw [hab]; exact h1
  rcases h with ⟨rfl, h3⟩ | ⟨c, k, rfl, h3, h4⟩
  · exact absurd h2 (h3 _ _)
  · rw [Rat.le_antisymm (h4 _ _ h2) (h3.nonneg hv)]
structure Parts (P Q R : EP) : Prop where
  n : P.M.n = R.M.n
  n2 : Q.M.n = R.M.n
  e : ∀ i, i < R.M.n → P.M.e i = R.M.e i
  e2 : ∀ i, i < R.M.n → Q.M.e i = R.M.e i
  m : P.M.most + Q.M.most = R.M.most
  m1 : 0 ≤ P.M.most
  m2 : 0 ≤ Q.M.most
  a : R.a = P.a + Q.a
  b : R.b = P.b + Q.b
  x : ∀ i, i < P.a → R.x i = P.x i
  x2 : ∀ i, i < Q.a → R.x (P.a + i) = Q.x i
  y : ∀ i, i < P.b → R.y i = P.y i
  y2 : ∀ i, i < Q.b → R.y (P.b + i) = Q.y i
theorem bgs_right {a s : Nat} {x x' : Nat → Int} {i n : Nat} {u : Nat → Int} (h : bgs a x i n u) (hx : ∀ i, i < a → x' (s + i) = x i) : bgs (s + a) x' (s + i) n u :=
  ⟨by have := h.1; omega, fun k hk => by rw [Nat.add_assoc, hx _ (by have := h.1; omega)]; exact h.2 k hk⟩
theorem Pth.right {P Q R : EP} (H : Parts P Q R) {k0 : Nat} {c0 : Rat} (h0 : Pth R (k0, P.a, P.b) c0) (hk : (k0 : Int) ≤ P.M.most) {p : Pl} {c : Rat} (h : Pth Q p c) : Pth R (k0 + p.1, P.a + p.2.1, P.b + p.2.2) (c0 + c) := by
  induction h with
  | start => rw [Rat.add_zero]; exact h0
  | @step p' c' l' q' d' _ h2 ih =>
    rw [← Rat.add_assoc]
    refine .step (l := l') ih ?_
    cases h2 with
    | @copy k i j a b c =>
      exact Sp.copy (P := R) (k := k0 + k) (i := P.a + i) (j := P.b + j) (by rw [H.a]; omega) (by rw [H.b]; omega) (by rw [H.x2 _ a, H.y2 _ b]; exact c)
    | @edit k i j e a b c d =>
      have ha : e < R.M.n := by rw [← H.n2]; exact a
      have h1 := @Sp.edit R (k0 + k) (P.a + i) (P.b + j) e ha (by have := H.m; omega) (by rw [H.a, ← H.e2 _ ha]; exact bgs_right c H.x2) (by rw [H.b, ← H.e2 _ ha]; exact bgs_right d H.y2)
      rw [← H.e2 _ ha, Nat.add_assoc, Nat.add_assoc, Nat.add_assoc] at h1; exact h1
def Apl (M : EM) (a : Nat) (x : Nat → Int) (k i ny : Nat) (yy : Nat → Int) (c : Rat) : Prop :=
  i ≤ a ∧ ∀ b y, ny ≤ b → (∀ j, j < ny → y j = yy j) → Pth ⟨M, a, x, b, y⟩ (k, i, ny) c
theorem Apl.start (M : EM) (a : Nat) (x : Nat → Int) (yy : Nat → Int) : Apl M a x 0 0 0 yy 0 := ⟨Nat.zero_le _, fun _ _ _ _ => .start⟩
theorem Apl.congr {M : EM} {a : Nat} {x : Nat → Int} {k i ny : Nat} {yy yy' : Nat → Int} {c : Rat} (h : Apl M a x k i ny yy c) (hy : ∀ j, j < ny → yy' j = yy j) : Apl M a x k i ny yy' c :=
  ⟨h.1, fun b y hb hj => h.2 b y hb fun j hj' => by rw [hj j hj', hy j hj']⟩
theorem Apl.copy {M : EM} {a : Nat} {x : Nat → Int} {k i ny : Nat} {yy : Nat → Int} {c : Rat} (h : Apl M a x k i ny yy c) (hi : i < a) : Apl M a x k (i + 1) (ny + 1) (fun j => if j < ny then yy j else x i) c := by
  refine ⟨hi, fun b y hb hy => ?_⟩
  have h1 := h.2 b y (by omega) (fun j hj => (hy j (by omega)).trans (if_pos hj))
  have h2 := Pth.step h1 (Sp.copy (P := ⟨M, a, x, b, y⟩) hi (by show ny < b; omega) (((hy ny (by omega)).trans (if_neg (by omega))).symm))
  rw [Rat.add_zero] at h2; exact h2
theorem Apl.edit {M : EM} {a : Nat} {x : Nat → Int} {k i ny e : Nat} {yy : Nat → Int} {c : Rat} (h : Apl M a x k i ny yy c) (he : e < M.n) (hk : (k : Int) < M.most) (hb : bgs a x i (M.e e).nf (M.e e).f) :
    Apl M a x (k + 1) (i + (M.e e).nf) (ny + (M.e e).nt) (fun j => if j < ny then yy j else (M.e e).t (j - ny)) (c + qv (M.e e).w) := by
  refine ⟨hb.1, fun b y hb' hy => ?_⟩
  have h1 := h.2 b y (by omega) (fun j hj => (hy j (by omega)).trans (if_pos hj))
  exact .step h1 (Sp.edit (P := ⟨M, a, x, b, y⟩) he hk hb ⟨hb', fun j hj => (hy _ (by have hj' : j < (M.e e).nt := hj; omega)).trans ((if_neg (by omega)).trans (by rw [Nat.add_sub_cancel_left]))⟩)
theorem Apl.end {M : EM} {a : Nat} {x : Nat → Int} {k : Nat} {c : Rat} : ∀ {m i : Nat} {yy : Nat → Int}, i + m = a → ∀ {ny : Nat}, Apl M a x k i ny yy c → Apl M a x k a (ny + m) (fun j => if j < ny then yy j else x (i + (j - ny))) c
  | 0, i, yy, hi, ny, h => by
    have e : i = a := by omega
    subst e
    exact h.congr fun j hj => if_pos hj
  | m + 1, i, yy, hi, ny, h => by
    have h1 := Apl.end (m := m) (i := i + 1) (by omega) (ny := ny + 1) (h.copy (by omega))
    rw [show ny + 1 + m = ny + (m + 1) by omega] at h1
    refine h1.congr fun j hj => ?_
    by_cases h2 : j < ny
    · rw [if_pos h2, if_pos (by omega), if_pos h2]
    · rw [if_neg h2]
      by_cases h3 : j < ny + 1
      · rw [if_pos h3, if_neg h2, show i + (j - ny) = i by omega]
      · rw [if_neg h3, show i + 1 + (j - (ny + 1)) = i + (j - ny) by omega]
def oV : Option Rat → V
  | none => .inf
  | some q => .fin q
theorem costT_eq (o : Option Rat) : costT o = vtxt (oV o) := by cases o <;> rfl
def fitO : Option Rat → Prop
  | none => True
  | some q => fitQ q
theorem better_cost {o o' : Option Rat} (h : fitO o) (h' : fitO o') : betterF 1 (costT o) (costT o') = cmpV (oV o) (oV o') := by
  unfold betterF
  rw [costT_eq, costT_eq, vprs_txt (k := 1) (v := oV o) (by cases o <;> exact h) (by cases o <;> simp [oV, okV]), vprs_txt (k := 1) (v := oV o') (by cases o' <;> exact h') (by cases o' <;> simp [oV, okV])]
  rfl
theorem Pth.small {P : EP} (hs : ∀ i, i < P.M.n → szQ 5 (qv (P.M.e i).w)) {p : Pl} {c : Rat} (h : Pth P p c) : szQ (6 * p.1 + 1) c := by
  induction h with
  | start => exact ⟨by decide, by decide⟩
  | step _ h2 ih =>
    cases h2 with
    | copy => rw [Rat.add_zero]; exact ih
    | edit a => exact (ih.add (hs _ a)).mono (by show _ + 5 + 1 ≤ 6 * (_ + 1) + 1; omega)
theorem small_fits {P : EP} (h0 : 0 ≤ P.M.most) (h6 : P.M.most ≤ 6) (hs : ∀ i, i < P.M.n → szQ 5 (qv (P.M.e i).w)) : ¬ TooL P := by
  rintro ⟨p, c, l, q, d, h1, h2, h3⟩
  have h4 := Pth.step h1 h2
  have h5 := (h4.inR h0).1
  exact h3 (fit_sz.2 ((h4.small hs).mono (by omega)))
end Go.Proofs.YtjekapjbigfkbaaGreatDoor
