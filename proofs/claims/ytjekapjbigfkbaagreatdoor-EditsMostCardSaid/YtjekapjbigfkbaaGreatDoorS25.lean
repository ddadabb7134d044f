/- Parts of a proof: EdT. -/
import Derived.Test.YtjekapjbigfkbaaGreatDoorS24
namespace Go.Proofs.YtjekapjbigfkbaaGreatDoor
open Go Go.RowKit Go.Deep Go.Shelf
set_option maxRecDepth 100000
set_option linter.unusedSimpArgs false
attribute [local go_sem] Oper.semAt_some
structure StW (w0 wa : World) (tB pB k i j B tb g cap n1 n2 n3 : Nat) (r : Nat → Nat) (s : Nat → Nat → Nat) (ev xv yv : Value) (mo : Int) (z : (Nat → Nat → Nat → ByteArray) × Nat) (w : World) : Prop where
  cu : Cu w B g cap n1 n2 n3 r s z.1
  tm : TbM w tb g cap n1 n2 n3 ev xv yv mo z.2
  bt : Bx w tB 62 (.pointer (some ⟨tb, 0, none⟩))
  bp : w.heap[pB]? = some (.cells #[.int .i64 (k : Int), .int .i64 (i : Int), .int .i64 (j : Int)] 70 (0, 0))
  be : Below w0.heap.size w0 w
  fr : Fr (TbB tb n1 n2 s) wa w
section
variable {w0 wa w w' : World} {tB pB k i j B tb g cap n1 n2 n3 : Nat} {r : Nat → Nat} {s : Nat → Nat → Nat} {ev xv yv : Value} {mo : Int} {z z' : (Nat → Nat → Nat → ByteArray) × Nat}
theorem StW.new (h : StW w0 wa tB pB k i j B tb g cap n1 n2 n3 r s ev xv yv mo z w) (hf : Fr (fun _ => False) w w') : StW w0 wa tB pB k i j B tb g cap n1 n2 n3 r s ev xv yv mo z w' :=
  ⟨h.cu.new hf, h.tm.kept hf (fun e => e), h.bt.kept hf (fun e => e), (hf.block pB (lt_of_block h.bp) (fun e => e)).trans h.bp, h.be.trans (hf.below h.be.size (fun _ e => e.elim)), h.fr.trans (hf.mono (fun _ _ e => e.elim))⟩
theorem StW.far (h : StW w0 wa tB pB k i j B tb g cap n1 n2 n3 r s ev xv yv mo z w) {q : Nat} (hq : TbB tb n1 n2 s q) : q ≠ tB ∧ q ≠ pB := by
  rcases hq with rfl | ⟨k', i', hk, hi, rfl⟩
  · refine ⟨fun e => ?_, fun e => ?_⟩
    · have h1 := h.tm.blk; have h2 := h.bt; unfold Bx at h2; rw [e, h2] at h1; simp at h1
    · have h1 := h.tm.blk; have h2 := h.bp; rw [e, h2] at h1; simp at h1
  · have h1 := (h.cu.row k' i' hk hi).1
    exact ⟨fun e => rowIs_blk h1 h.bt (by decide) e, fun e => rowIs_blk h1 h.bp (by decide) e⟩
theorem StW.rea (h : StW w0 wa tB pB k i j B tb g cap n1 n2 n3 r s ev xv yv mo z w) {rr : Ending} (hr : ReaE B tb g cap n1 n2 n3 r s ev xv yv mo z' w rr w') (hB : w0.heap.size ≤ B) (hT : w0.heap.size ≤ tb) : StW w0 wa tB pB k i j B tb g cap n1 n2 n3 r s ev xv yv mo z' w' := by
  refine ⟨hr.2.1, hr.2.2.1, h.bt.kept hr.2.2.2 (fun e => (h.far e).1 rfl), (hr.2.2.2.block pB (lt_of_block h.bp) (fun e => (h.far e).2 rfl)).trans h.bp, h.be.trans (hr.2.2.2.below h.be.size (fun q e => ?_)), h.fr.trans hr.2.2.2⟩
  rcases e with rfl | ⟨k', i', hk, hi, rfl⟩
  · exact hT
  · exact Nat.le_trans hB (h.cu.row k' i' hk hi).2
theorem StW.cells (h : StW w0 wa tB pB k i j B tb g cap n1 n2 n3 r s ev xv yv mo z w) : w.cell? ⟨tB, 0, none⟩ = some (.pointer (some ⟨tb, 0, none⟩)) ∧ w.cell? ⟨pB, 0, none⟩ = some (.int .i64 (k : Int)) ∧ w.cell? ⟨pB, 1, none⟩ = some (.int .i64 (i : Int)) ∧ w.cell? ⟨pB, 2, none⟩ = some (.int .i64 (j : Int)) :=
  ⟨h.bt.cell, cell_of h.bp 0 rfl, cell_of h.bp 1 rfl, cell_of h.bp 2 rfl⟩
end
theorem cell_ne {W : World} {l : Nat} {o : Obj} (hl : W.heap[l]? = some o) (ho : o.isCells = false) {a : Addr} {v : Value} (h : W.cell? a = some v) : a.block ≠ l := fun e => by
  unfold World.cell? at h; rw [e, hl] at h
  cases o <;> simp_all [Obj.isCells]
theorem block_ne {W : World} {l : Nat} {o : Obj} (hl : W.heap[l]? = some o) (ho : o.isCells = false) {b : Nat} {c : Array Value} {t : TypeId} {f : Nat × Nat} (h : W.heap[b]? = some (.cells c t f)) : b ≠ l := fun e => by
  rw [e, hl] at h; cases h; simp [Obj.isCells] at ho
theorem Si.put {W : World} {l : Nat} {o : Obj} (o' : Obj) (hl : W.heap[l]? = some o) (ho : o.isCells = false) {v : Value} {n : Nat} {x : Nat → Int} (h : Si none W v n x) : Si none (W.putObj l o') v n x := by
  have hf : Fr (fun q => q = l) W (W.putObj l o') := Fr.of_gb (grownBy_putObj' W l o') (fun q e => by cases e; rfl)
  rcases h with h | ⟨b, off, cap, hv, h1, h2, h3, h4⟩
  · exact .inl h
  · exact .inr ⟨b, off, cap, hv, ⟨Nat.lt_of_lt_of_le h1.1 hf.size, h1.2⟩, h2, h3, fun i hi => hf.cell (h4 i hi) (fun e => cell_ne hl ho (h4 i hi) e)⟩
theorem ItM.put {W : World} {l : Nat} {o : Obj} (o' : Obj) (hl : W.heap[l]? = some o) (ho : o.isCells = false) {tbb plb tb b off cap na nb k i j : Nat} {M : EM} {A A' : Nat → Option Addr} {C C' : Nat → Nat} {ea : Option Addr} {xv yv : Value} {x y : Nat → Int} (h : ItM W tbb plb tb b off cap M A A' C C' ea xv yv na nb x y k i j) : ItM (W.putObj l o') tbb plb tb b off cap M A A' C C' ea xv yv na nb x y k i j := by
  have hf : Fr (fun q => q = l) W (W.putObj l o') := Fr.of_gb (grownBy_putObj' W l o') (fun q e => by cases e; rfl)
  refine ⟨h.kb.kept hf (fun e => block_ne hl ho h.kb e), (hf.block plb (lt_of_block h.kp) (fun e => block_ne hl ho h.kp e)).trans h.kp, hf.cell h.t0 (fun e => cell_ne hl ho h.t0 e), hf.cell h.t2 (fun e => cell_ne hl ho h.t2 e), hf.cell h.t3 (fun e => cell_ne hl ho h.t3 e), fun e he => ?_, h.sx.put o' hl ho, h.sy.put o' hl ho⟩
  obtain ⟨a1, a2, a3, a4, a5⟩ := h.row e he
  exact ⟨hf.cell a1 (fun e => cell_ne hl ho a1 e), hf.cell a2 (fun e => cell_ne hl ho a2 e), hf.cell a3 (fun e => cell_ne hl ho a3 e), a4.put o' hl ho, a5.put o' hl ho⟩
section
variable {w0 wa w w' : World} {tB pB k i j B tb g cap n1 n2 n3 : Nat} {r : Nat → Nat} {s : Nat → Nat → Nat} {ev xv yv : Value} {mo : Int} {z z' : (Nat → Nat → Nat → ByteArray) × Nat}
theorem StW.own {N : Nat} {row : Option Nat} (h : StW w0 wa tB pB k i j B tb g cap n1 n2 n3 r s ev xv yv mo z w) (hg : w.grownBy w' row) (hr : ∀ l, row = some l → N ≤ l ∧ ∃ o : Obj, w.heap[l]? = some o ∧ o.isCells = false) (hN : wa.heap.size ≤ N) (hN0 : w0.heap.size ≤ N) :
    StW w0 wa tB pB k i j B tb g cap n1 n2 n3 r s ev xv yv mo z w' := by
  have hf : Fr (fun q => row = some q) w w' := Fr.of_gb hg (fun _ e => e)
  have ne : ∀ {b : Nat} {c : Array Value} {t : TypeId} {f : Nat × Nat}, w.heap[b]? = some (.cells c t f) → ¬ (row = some b) := fun hb e => by
    obtain ⟨_, o, ho, hc⟩ := hr _ e
    exact block_ne ho hc hb rfl
  refine ⟨h.cu.kept hf ?_ (fun k hk => ?_) (fun k i hk hi => ?_), h.tm.kept hf (ne h.tm.blk), h.bt.kept hf (ne h.bt), (hf.block pB (lt_of_block h.bp) (ne h.bp)).trans h.bp, h.be.trans (hf.below h.be.size (fun q e => Nat.le_trans hN0 (hr q e).1)), ⟨hf.os.trans h.fr.os, hf.tape.trans h.fr.tape, hf.output.trans h.fr.output, Nat.le_trans h.fr.size hf.size, fun q hq hc => (hf.block q (Nat.lt_of_lt_of_le hq h.fr.size) (fun e => ?_)).trans (h.fr.block q hq hc)⟩⟩
  · obtain ⟨cs, fr, hb⟩ := row_blk h.cu.top; exact ne hb
  · obtain ⟨cs, hb, _⟩ := h.cu.mid k hk; exact ne hb
  · obtain ⟨cs, hb, _⟩ := (h.cu.row k i hk hi).1; exact ne hb
  · have := (hr q e).1; omega
theorem StW.kf {N : Nat} (h : StW w0 wa tB pB k i j B tb g cap n1 n2 n3 r s ev xv yv mo z w) (hf : Fr (TbB tb n1 n2 s) w w') : KeepsFrom N w w' := by
  refine ⟨hf.size, fun q o _ hq ho => (hf.block q (Array.getElem?_eq_some_iff.1 hq).1 (fun e => ?_)).trans hq⟩
  rcases e with rfl | ⟨k', i', hk, hi, rfl⟩
  · exact block_ne hq ho h.tm.blk rfl
  · obtain ⟨cs, hb, _⟩ := (h.cu.row k' i' hk hi).1; exact block_ne hq ho hb rfl
theorem StW.nb (h : StW w0 wa tB pB k i j B tb g cap n1 n2 n3 r s ev xv yv mo z w) {b : Nat} {c : Array Value} {t : TypeId} {f : Nat × Nat} (hb : w.heap[b]? = some (.cells c t f)) (h1 : t ≠ 65) (h2 : t ≠ 9) : ¬ TbB tb n1 n2 s b := by
  rintro (rfl | ⟨k', i', hk, hi, rfl⟩)
  · have h3 := h.tm.blk; rw [hb] at h3; simp at h3; exact h1 h3.2.1
  · exact rowIs_blk (h.cu.row k' i' hk hi).1 hb h2 rfl
def foldA (P : EP) (p : Pl) (z : ST) (xs : List (Al P p)) : ST := xs.foldl (fun s e => reaC s.1 s.2 p (toP P p e.1) (P.M.e e.1).w) z
theorem foldA_snoc {P : EP} {p : Pl} {z : ST} {xs : List (Al P p)} {x : Al P p} : foldA P p z (xs ++ [x]) = reaC (foldA P p z xs).1 (foldA P p z xs).2 p (toP P p x.1) (P.M.e x.1).w := by
  unfold foldA; rw [List.foldl_append]; rfl
theorem edFold_nums {P : EP} {p : Pl} {z : ST} : ∀ n, edFold P p n z = (nums (fun e => canB P p e) n).foldl (fun s e => reaC s.1 s.2 p (toP P p e) (P.M.e e).w) z
  | 0 => rfl
  | n + 1 => by
    show (if canB P p n = true then _ else _) = (nums _ n ++ _).foldl _ z
    rw [List.foldl_append, ← edFold_nums n]
    cases h : canB P p n <;> simp [h]
theorem foldA_all {P : EP} {p : Pl} {z : ST} {xs : List (Al P p)} {n : Nat} (h : xs.map (·.1) = nums (fun e => canB P p e) n) : foldA P p z xs = edFold P p n z := by
  rw [edFold_nums, ← h, List.foldl_map]; rfl
theorem StW.itm {tbb plb be oe ce na nb : Nat} {M : EM} {A A' : Nat → Option Addr} {C C' : Nat → Nat} {ae : Option Addr} {x y : Nat → Int} (h : StW w0 wa tB pB k i j B tb g cap n1 n2 n3 r s ev xv yv mo z w)
    (hb : Bx w tbb 62 (.pointer (some ⟨tb, 0, none⟩))) (hp : w.heap[plb]? = some (.cells #[.int .i64 (k : Int), .int .i64 (i : Int), .int .i64 (j : Int)] 70 (0, 0)))
    (hev : ev = .slice ae M.n ce) (hx : Si none w0 xv na x) (hy : Si none w0 yv nb y)
    (hrow : ∀ i, i < M.n → w0.cell? ⟨be, oe + i * 3, none⟩ = some (.slice (A i) (M.e i).nf (C i)) ∧ w0.cell? ⟨be, oe + i * 3 + 1, none⟩ = some (.slice (A' i) (M.e i).nt (C' i)) ∧ w0.cell? ⟨be, oe + i * 3 + 2, none⟩ = some (.string (M.e i).w) ∧
      Si none w0 (.slice (A i) (M.e i).nf (C i)) (M.e i).nf (M.e i).f ∧ Si none w0 (.slice (A' i) (M.e i).nt (C' i)) (M.e i).nt (M.e i).t) : ItM w tbb plb tb be oe ce M A A' C C' ae xv yv na nb x y k i j := by
  have hg : w0.grownBy w none := gb_below h.be none
  obtain ⟨t0, t1, t2, t3, t4, t5⟩ := h.tm.cells
  refine ⟨hb, hp, hev ▸ t0, t2, t3, fun e he => ?_, hx.kept hg, hy.kept hg⟩
  obtain ⟨a1, a2, a3, a4, a5⟩ := hrow e he
  exact ⟨hg.cell a1 (by simp), hg.cell a2 (by simp), hg.cell a3 (by simp), a4.kept hg, a5.kept hg⟩
end
theorem act_in {P : Program} {c : Code} {Q : Exit → Act → World → Prop} {a : Act} {w : World} (h : ∀ T, T = a.tmps → c.wp P Q { tmps := T, defers := a.defers } w) : c.wp P Q a w := h _ rfl
theorem enterE1 : ∀ args w, (callFunc 130 args).run Tryz.prog w = .ok (.enter 130 args) w := fun args w => by kernel_rfl
set_option maxHeartbeats 1000000 in
theorem edits_any {tb k i j : Nat} (w : World) : Calls Tryz.prog 96 #[.pointer (some ⟨tb, 0, none⟩), .agg #[.int .i64 (k : Int), .int .i64 (i : Int), .int .i64 (j : Int)]] w (fun rr W => rr = .returned (.func (.func 130) #[] #[.pointer (some ⟨w.heap.size, 0, none⟩), .pointer (some ⟨w.heap.size + 1, 0, none⟩)]) ∧
    W = (w.alloc (.cells #[.pointer (some ⟨tb, 0, none⟩)] 62)).alloc (.cells #[.int .i64 (k : Int), .int .i64 (i : Int), .int .i64 (j : Int)] 70)) := by
  go_enter Tryz.func96, Tryz.ntmps96
  go_wp2_with fail
  go_ret
  exact ⟨rfl, rfl⟩
theorem wrap1 {i n c : Nat} (h : i < n) (hc : n ≤ c) (hm : c ≤ maxLen) : wrap64 ((i : Int) + 1) = (i : Int) + 1 := by
  unfold maxLen at hm; unfold wrap64; omega
theorem zero_sm : smS ⟨#[48]⟩ := by unfold smS; decide
theorem endM_ret {F : Fence} {n : Nat} {P : Program} {fn : Func} {R : Ending → World → Prop} {e : Exit} (he : e = .ret ∨ e = .normal) {a : Act} {w : World} (hd : a.defers = []) (hr : fn.results = #[]) (h : R (.returned (.tuple #[])) w) : bodyPostM F n P fn R e a w := by
  rcases he with rfl | rfl <;> (unfold bodyPostM; simp only []; rw [hd]; exact ⟨_, results_none hr _ _ _, h⟩)
theorem endM_mark {F : Fence} {n : Nat} {P : Program} {fn : Func} {R : Ending → World → Prop} {a : Act} {w : World} {D : Nat} (hd : a.defers = [{ target := .collected D, args := #[] }]) (hk : w.heap[D]? = some (.deferred (some []))) (hr : fn.results = #[])
    (h : R (.returned (.tuple #[])) (w.putObj D (.deferred none))) : bodyPostM F n P fn R .normal a w := by
  unfold bodyPostM; simp only []; rw [hd]; exact ⟨by simp, .inl ⟨D, _, rfl, run_takeDeferred hk, ⟨_, results_none hr _ _ _, h⟩⟩⟩
theorem stpC_nil {P : EP} {p : Pl} {s : ST} (h : s.1 p.1 p.2.1 p.2.2 = ⟨#[]⟩) : stpC P p s = s := by unfold stpC; rw [if_pos h]
theorem stp_zz {P : EP} {p : Pl} {s s' zz : ST} (hz : zz = stpC P p s) (h : s.1 p.1 p.2.1 p.2.2 ≠ ⟨#[]⟩) (hc : cpC P p s = s') : zz = if (p.1 : Int) = P.M.most then s' else edFold P p P.M.n s' := by
  rw [hz]; unfold stpC; rw [if_neg h, hc]
theorem cpC_no {P : EP} {p : Pl} {s : ST} (h : ¬ (p.2.1 < P.a ∧ p.2.2 < P.b ∧ P.x p.2.1 = P.y p.2.2)) : cpC P p s = s := by unfold cpC; rw [if_neg h]
theorem cpC_yes {P : EP} {p : Pl} {s : ST} (h : p.2.1 < P.a ∧ p.2.2 < P.b ∧ P.x p.2.1 = P.y p.2.2) : cpC P p s = reaC s.1 s.2 p (p.1, p.2.1 + 1, p.2.2 + 1) ⟨#[48]⟩ := by unfold cpC; rw [if_pos h]
set_option maxHeartbeats 8000000 in
theorem estep_any {w0 : World} {k i j B tb g cap na nb e : Nat} {r : Nat → Nat} {s : Nat → Nat → Nat} {X : XT} {ev xv yv : Value} {M : EM} {x y : Nat → Int} (w : World)
    (h : Cu w B g cap (M.most.toNat + 1) (na + 1) (nb + 1) r s X) (ht : TbM w tb g cap (M.most.toNat + 1) (na + 1) (nb + 1) ev xv yv M.most e) (hv : VE M) (hsz : ESz M)
    (hev : EdS none w0 ev M) (hx : Si none w0 xv na x) (hy : Si none w0 yv nb y) (hb : Below w0.heap.size w0 w) (hB : w0.heap.size ≤ B) (hT : w0.heap.size ≤ tb) (hk : k < M.most.toNat + 1) (hi : i < na + 1) (hj : j < nb + 1) (hTab : Tab w0) :
    Calls Tryz.prog 43 #[.pointer (some ⟨tb, 0, none⟩), plV k i j] w (ReaE B tb g cap (M.most.toNat + 1) (na + 1) (nb + 1) r s ev xv yv M.most (stpC ⟨M, na, x, nb, y⟩ (k, i, j) (X, e)) w) := by
  obtain ⟨w1, hw1⟩ : ∃ w1, w1 = w.alloc (.cells #[.pointer (some ⟨tb, 0, none⟩)] 62) := ⟨_, rfl⟩
  obtain ⟨w2, hw2⟩ : ∃ w2, w2 = w1.alloc (.cells #[.int .i64 (k : Int), .int .i64 (i : Int), .int .i64 (j : Int)] 70) := ⟨_, rfl⟩
  have hz1 : w1.heap.size = w.heap.size + 1 := by rw [hw1]; simp
  obtain ⟨tB, htB⟩ : ∃ tB, tB = w.heap.size := ⟨_, rfl⟩
  obtain ⟨pB, hpB⟩ : ∃ pB, pB = w.heap.size + 1 := ⟨_, rfl⟩
  have hf1 : Fr (fun _ => False) w w1 := by rw [hw1]; exact Fr.alloc _ _
  have hf2 : Fr (fun _ => False) w1 w2 := by rw [hw2]; exact Fr.alloc _ _
  have hf := hf1.trans hf2
  have hn1 : w1.heap[tB]? = some (.cells #[.pointer (some ⟨tb, 0, none⟩)] 62 (0, 0)) := by rw [hw1, htB]; exact heap_alloc_new w _
  have hn2 : w2.heap[pB]? = some (.cells #[.int .i64 (k : Int), .int .i64 (i : Int), .int .i64 (j : Int)] 70 (0, 0)) := by rw [hw2, hpB, ← hz1]; exact heap_alloc_new w1 _
  have hst : StW w0 w tB pB k i j B tb g cap (M.most.toNat + 1) (na + 1) (nb + 1) r s ev xv yv M.most (X, e) w2 :=
    ⟨h.new hf, ht.kept hf (fun e => e), Bx.kept (C := fun _ => False) hn1 hf2 (fun e => e), hn2, hb.trans (hf.below hb.size (fun _ e => e.elim)), hf.mono (fun _ _ e => e.elim)⟩
  clear hf1 hf2 hf hn1 hn2
  have HB0 := Lib.hid hb.size
  have hg1 := get_any w2 hst.cu hst.tm hk hi hj
  unfold plV at hg1
  obtain ⟨p0, p1, p2, p3⟩ := hst.cells
  have HG1 := Lib.hid hg1; clear hg1
  have HST := Lib.hid hst; clear hst h ht hb
  have HV := Lib.hid hv; clear hv
  have HSZ := Lib.hid hsz; clear hsz
  have HEV := Lib.hid hev; clear hev
  have HX := Lib.hid hx; clear hx
  have HY := Lib.hid hy; clear hy
  have HTB := Lib.hid hTab; clear hTab
  have HB := Lib.hid hB; clear hB
  have HT := Lib.hid hT; clear hT
  have HK := Lib.hid hk; clear hk
  have HI := Lib.hid hi; clear hi
  have HJ := Lib.hid hj; clear hj
  obtain ⟨zz, hzz⟩ : ∃ zz, zz = stpC ⟨M, na, x, nb, y⟩ (k, i, j) (X, e) := ⟨_, rfl⟩
  rw [← hzz]
  have HZ := Lib.hid hzz; clear hzz
  refine (callsIn_wide (n := 9)).1 (callsIn_of_wp_marks Tryz.func43 rfl trivial (wpIn_wide.2 ?_) rfl)
  simp only [Tryz.ntmps43, plV, List.size_toArray, List.length_cons, List.length_nil, Nat.reduceAdd, Nat.reduceSub, Array.replicate_succ, Array.replicate_zero, List.push_toArray, List.append_toArray, List.nil_append, List.cons_append]
  go_wp2_with fail
  rw [← hw1, ← hw2, ← hpB, ← htB]
  clear hw1 hw2 hz1 htB hpB p0 p1 p2 p3
  refine HG1.out.mono ?_
  rintro rr w3 ⟨rfl, hb3⟩
  have HS3 := Lib.hid (HST.out.new (Fr.of_below hb3)); clear HST HG1 hb3
  cases hO : ((X k i j).toList == [])
  case true =>
    have ho : X k i j = ⟨#[]⟩ := empty_eq hO
    have hz := HZ.out.trans (stpC_nil (P := ⟨M, na, x, nb, y⟩) (p := (k, i, j)) (s := (X, e)) ho)
    clear ho
    go_wp2_with fail
    refine endM_ret (.inl rfl) rfl rfl ?_
    rw [hz]
    exact ⟨rfl, HS3.out.cu, HS3.out.tm, HS3.out.fr⟩
  have hon : X k i j ≠ ⟨#[]⟩ := fun e => by rw [e] at hO; simp at hO
  have HON := Lib.hid hon; clear hon
  obtain ⟨ax, cx, bx, ox, hxv, hax, hcx, hcm, hxb, hxc⟩ := HX.out.open
  obtain ⟨ay, cy, by', oy, hyv, hay, hcy, hcym, hyb, hyc⟩ := HY.out.open
  obtain ⟨t0, t1, t2, t3, t4, t5⟩ := HS3.out.tm.cells
  obtain ⟨p0, p1, p2, p3⟩ := HS3.out.cells
  have hbe := HS3.out.be
  rw [hxv] at t2
  rw [hyv] at t3
  have HBE := Lib.hid hbe; clear hbe
  have HXV := Lib.hid hxv; clear hxv
  have HYV := Lib.hid hyv; clear hyv
  have HXB := Lib.hid hxb; clear hxb
  have HYB := Lib.hid hyb; clear hyb
  have HXC := Lib.hid hxc; clear hxc
  have HYC := Lib.hid hyc; clear hyc
  have HAX := Lib.hid hax; clear hax
  have HAY := Lib.hid hay; clear hay
  have HCX := Lib.hid hcx; clear hcx
  have HCY := Lib.hid hcy; clear hcy
  have HCM := Lib.hid hcm; clear hcm
  have HCYM := Lib.hid hcym; clear hcym
  by_cases hi : i < na
  · have hiz : (i : Int) < (na : Int) := by omega
    have hid : decide (i < na) = true := by simp [hi]
    have hiz0 : (0 : Int) ≤ (i : Int) := by omega
    obtain rfl := HAX.out (by omega)
    have c1 : w3.cell? ⟨bx, ox + i, none⟩ = some (.int .i64 (x i)) := (HBE.out.cell (p := ⟨bx, ox + i, none⟩) (HXB.out (by omega)).1).trans (HXC.out i hi)
    by_cases hj : j < nb
    · have hjz : (j : Int) < (nb : Int) := by omega
      have hjd : decide (j < nb) = true := by simp [hj]
      have hjz0 : (0 : Int) ≤ (j : Int) := by omega
      obtain rfl := HAY.out (by omega)
      have c2 : w3.cell? ⟨by', oy + j, none⟩ = some (.int .i64 (y j)) := (HBE.out.cell (p := ⟨by', oy + j, none⟩) (HYB.out (by omega)).1).trans (HYC.out j hj)
      cases hxy : (x i == y j)
      case false =>
        have HC := Lib.hid (stp_zz HZ.out HON.out (cpC_no (P := ⟨M, na, x, nb, y⟩) (p := (k, i, j)) (s := (X, e)) (fun h => by have h2 : x i = y j := h.2.2; rw [h2] at hxy; simp at hxy)))
        go_wp2_with fail
        go_quiet (fail)
        go_wp2_with fail
        have HS4 := Lib.hid (HS3.out.new (Fr.of_below (below_drewN (Below.refl _ w3) nq)))
        obtain ⟨w4, hw4⟩ : ∃ w4, w4 = w3.drewN nq := ⟨_, rfl⟩
        rw [← hw4] at HS4 ⊢
        clear hw4
        obtain ⟨z1, hz1⟩ : ∃ z1 : ST, z1 = (X, e) := ⟨_, rfl⟩
        rw [← hz1] at HS4 HC
        clear hz1
        clear t0 t1 t2 t3 t4 t5 p0 p1 p2 p3 HS3
        obtain ⟨t0, t1, t2, t3, t4, t5⟩ := HS4.out.tm.cells
        obtain ⟨p0, p1, p2, p3⟩ := HS4.out.cells
        cases hm : ((k : Int) == M.most)
        case true =>
          go_wp2_with fail
          go_quiet (fail)
          go_wp2_with fail
          have HS5 := Lib.hid (HS4.out.new (Fr.of_below (below_drewN (Below.refl _ w4) nq)))
          refine endM_ret (.inl rfl) rfl rfl ?_
          rw [HC.out, if_pos (eq_of_beq hm)]
          exact ⟨rfl, HS5.out.cu, HS5.out.tm, HS5.out.fr⟩
        case false =>
          have HC := Lib.hid (HC.out.trans (if_neg (fun e => by have e2 : (k : Int) = M.most := e; rw [e2] at hm; simp at hm)))
          go_wp2_with fail
          go_quiet (fail)
          go_wp2_with fail
          have HS5 := Lib.hid (HS4.out.new (Fr.of_below (below_drewN (Below.refl _ w4) nq)))
          obtain ⟨w5, hw5⟩ : ∃ w5, w5 = w4.drewN nq := ⟨_, rfl⟩
          rw [← hw5] at HS5
          rw [← hw5]
          clear hw5 HS4
          refine (edits_any _).mono ?_
          rintro rr w6 ⟨rfl, hw6⟩
          have HW6 := Lib.hid hw6; clear hw6
          clear t0 t1 t2 t3 t4 t5 p0 p1 p2 p3
          go_wp2_with fail
          have hz6 : (w5.alloc (.cells #[.pointer (some ⟨tb, 0, none⟩)] 62)).heap.size = w5.heap.size + 1 := by simp
          have hf5 : Fr (fun _ => False) w5 (w5.alloc (.cells #[.pointer (some ⟨tb, 0, none⟩)] 62)) := Fr.alloc _ _
          have hf56 : Fr (fun _ => False) (w5.alloc (.cells #[.pointer (some ⟨tb, 0, none⟩)] 62)) w6 := by rw [HW6.out]; exact Fr.alloc _ _
          have hkb : Bx w6 w5.heap.size 62 (.pointer (some ⟨tb, 0, none⟩)) := Bx.kept (C := fun _ => False) (heap_alloc_new w5 _) hf56 (fun e => e)
          have hkp : w6.heap[w5.heap.size + 1]? = some (.cells #[.int .i64 (k : Int), .int .i64 (i : Int), .int .i64 (j : Int)] 70 (0, 0)) := by rw [HW6.out, ← hz6]; exact heap_alloc_new _ _
          have hs6 := HS5.out.new (hf5.trans hf56)
          have hN : w.heap.size ≤ w6.heap.size := hs6.fr.size
          have hb0 : w0.heap.size ≤ w.heap.size := HB0.out
          have hN0 : w0.heap.size ≤ w6.heap.size := hs6.be.size
          obtain ⟨tbb, htbb⟩ : ∃ tbb, tbb = w5.heap.size := ⟨_, rfl⟩
          obtain ⟨plb, hplb⟩ : ∃ plb, plb = w5.heap.size + 1 := ⟨_, rfl⟩
          rw [← hplb, ← htbb]
          rw [← hplb] at hkp
          rw [← htbb] at hkb
          clear hf5 hf56 hz6 HW6 HS5 htbb hplb
          obtain ⟨ae, ce, be, oe, EA, EA', EC, EC', hev, hae, hce, hcem, hbe, hrow⟩ := HEV.out.open
          have hit : ∀ (z : ST) (W : World), StW w0 w tB pB k i j B tb g cap (M.most.toNat + 1) (na + 1) (nb + 1) r s ev xv yv M.most z W → Bx W tbb 62 (.pointer (some ⟨tb, 0, none⟩)) → W.heap[plb]? = some (.cells #[.int .i64 (k : Int), .int .i64 (i : Int), .int .i64 (j : Int)] 70 (0, 0)) → ItM W tbb plb tb be oe ce M EA EA' EC EC' ae xv yv na nb x y k i j :=
            fun _ _ hs hb hp => hs.itm hb hp hev HX.out HY.out hrow
          clear hev hrow hbe hce hcem
          refine act_in (fun T hT => (wpIn_wide (n := 9)).1 ?_)
          simp only [] at hT
          refine wpIn_rangeFunc_ownH (F := Fence.wide) (n := 9) rfl (by omega) (gf := 130) (lb := #[.pointer (some ⟨tbb, 0, none⟩), .pointer (some ⟨plb, 0, none⟩)]) (by rw [hT]; rfl) trivial enterE1
            (edits1_stops 8 w6 (hit _ _ hs6 hkb hkp) hae HV.out.n4 (by have := HK.out; have := HV.out.m6; omega) (Nat.le_of_lt_succ HI.out) (Nat.le_of_lt_succ HJ.out)) (fun h k x => k (h x)) (fun W l o o' _ hl hc _ h => h.put o' hl hc) (Below.refl _ _) (fun _ => rfl)
            (fun pre W => StW w0 w tB pB k i j B tb g cap (M.most.toNat + 1) (na + 1) (nb + 1) r s ev xv yv M.most (foldA ⟨M, na, x, nb, y⟩ (k, i, j) z1 pre) W ∧ Bx W tbb 62 (.pointer (some ⟨tb, 0, none⟩)) ∧ W.heap[plb]? = some (.cells #[.int .i64 (k : Int), .int .i64 (i : Int), .int .i64 (j : Int)] 70 (0, 0)))
            (fun _ _ _ => False) ?own (fun _ => ownFrom_pure _ _) ⟨hs6, hkb, hkp⟩
            (fun e a' W => ∃ Bq Bt, W.heap[Bq]? = some (.cells #[.slice (EA e.1) (M.e e.1).nf (EC e.1), .slice (EA' e.1) (M.e e.1).nt (EC' e.1), .string (M.e e.1).w] 50 (0, 0)) ∧
              W.heap[Bt]? = some (.cells #[.int .i64 ((k : Int) + 1), .int .i64 ((i : Int) + ((M.e e.1).nf : Int)), .int .i64 ((j : Int) + ((M.e e.1).nt : Int))] 70 (0, 0)) ∧
              a' = { tmps := (((T.setIfInBounds 70 (.agg #[.slice (EA e.1) (M.e e.1).nf (EC e.1), .slice (EA' e.1) (M.e e.1).nt (EC' e.1), .string (M.e e.1).w])).setIfInBounds 71 (.agg #[.int .i64 ((k : Int) + 1), .int .i64 ((i : Int) + ((M.e e.1).nf : Int)), .int .i64 ((j : Int) + ((M.e e.1).nt : Int))])).setIfInBounds 4 (.pointer (some ⟨Bq, 0, none⟩))).setIfInBounds 5 (.pointer (some ⟨Bt, 0, none⟩)), defers := [] })
            ?ownA ?assign ?body ?done (fun _ _ _ _ _ _ h => h.elim)
          case own =>
            rintro pre X Y row ⟨h1, h2, h3⟩ hg hr
            have hf : Fr (fun q => row = some q) X Y := Fr.of_gb hg (fun _ e => e)
            exact ⟨h1.own hg hr hN hN0, h2.kept hf (fun e => by obtain ⟨_, o, ho, hc⟩ := hr _ e; exact block_ne ho hc h2 rfl), (hf.block plb (lt_of_block h3) (fun e => by obtain ⟨_, o, ho, hc⟩ := hr _ e; exact block_ne ho hc h3 rfl)).trans h3⟩
          case ownA =>
            rintro e a' _ X Y row ⟨Bq, Bt, h1, h2, h3⟩ hg hr
            have hf : Fr (fun q => row = some q) X Y := Fr.of_gb hg (fun _ e => e)
            exact ⟨Bq, Bt, (hf.block Bq (lt_of_block h1) (fun e => by obtain ⟨_, o, ho, hc⟩ := hr _ e; exact block_ne ho hc h1 rfl)).trans h1, (hf.block Bt (lt_of_block h2) (fun e => by obtain ⟨_, o, ho, hc⟩ := hr _ e; exact block_ne ho hc h2 rfl)).trans h2, h3⟩
          case assign =>
            rintro l pre e W K ⟨h1, h2, h3⟩ hK
            rw [hT] at hK ⊢
            simp only [encE, toP, plV, Int.natCast_add, Int.natCast_one] at hK ⊢
            gi_wp2
            have hfa := Fr.alloc (C := fun _ => False) W (.cells #[.slice (EA e.1) (M.e e.1).nf (EC e.1), .slice (EA' e.1) (M.e e.1).nt (EC' e.1), .string (M.e e.1).w] 50)
            have hza : (W.alloc (.cells #[.slice (EA e.1) (M.e e.1).nf (EC e.1), .slice (EA' e.1) (M.e e.1).nt (EC' e.1), .string (M.e e.1).w] 50)).heap.size = W.heap.size + 1 := by simp
            have hfb := Fr.alloc (C := fun _ => False) (W.alloc (.cells #[.slice (EA e.1) (M.e e.1).nf (EC e.1), .slice (EA' e.1) (M.e e.1).nt (EC' e.1), .string (M.e e.1).w] 50)) (.cells #[.int .i64 ((k : Int) + 1), .int .i64 ((i : Int) + ((M.e e.1).nf : Int)), .int .i64 ((j : Int) + ((M.e e.1).nt : Int))] 70)
            have hi2 := h1.new (hfa.trans hfb)
            have hb2 := h2.kept (hfa.trans hfb) (fun e => e)
            have hp2 := ((hfa.trans hfb).block plb (lt_of_block h3) (fun e => e)).trans h3
            refine hK _ _ (h1.kf ((hfa.trans hfb).mono (fun _ _ e => e.elim))) (fun _ => hit _ _ hi2 hb2 hp2) ⟨hi2, hb2, hp2⟩ ⟨W.heap.size, W.heap.size + 1, (hfb.block _ (by rw [hza]; exact Nat.lt_succ_self _) (fun e => e)).trans (heap_alloc_new W _), by rw [← hza]; exact heap_alloc_new _ _, ?_⟩
            simp only [List.setIfInBounds_toArray, List.set_cons_zero, List.set_cons_succ]
          case body =>
            rintro l pre e a' W _ _ ⟨h1, h2, h3⟩ ⟨Bq, Bt, hq, hb, rfl⟩ _
            have hcan := canB_iff.1 e.2.2
            have hin : i + (M.e e.1).nf < na + 1 := Nat.lt_succ_of_le hcan.1.1
            have hjn : j + (M.e e.1).nt < nb + 1 := Nat.lt_succ_of_le hcan.2.1
            have hkn : k + 1 < M.most.toNat + 1 := by
              have h5 := HK.out; have h6 := HV.out.m0
              have h7 : (k : Int) ≠ M.most := fun e => by rw [e] at hm; simp at hm
              omega
            have hrea := reach_any (p := (k, i, j)) (q := toP ⟨M, na, x, nb, y⟩ (k, i, j) e.1) (wt := (M.e e.1).w) W h1.cu h1.tm ⟨HK.out, HI.out, HJ.out⟩ ⟨hkn, hin, hjn⟩ (by have := HSZ.out.w e.1; unfold smS; omega) (HTB.out.below h1.be (Nat.le_refl _))
            obtain ⟨z2, hz2⟩ : ∃ z2, z2 = reaC (foldA ⟨M, na, x, nb, y⟩ (k, i, j) z1 pre).1 (foldA ⟨M, na, x, nb, y⟩ (k, i, j) z1 pre).2 (k, i, j) (toP ⟨M, na, x, nb, y⟩ (k, i, j) e.1) (M.e e.1).w := ⟨_, rfl⟩
            rw [← hz2] at hrea
            have hz2' : foldA ⟨M, na, x, nb, y⟩ (k, i, j) z1 (pre ++ [e]) = z2 := foldA_snoc.trans hz2.symm
            have HZ2 := Lib.hid hz2'
            clear hz2 hz2' hcan hin hjn hkn
            simp only [toP, plV, Int.natCast_add, Int.natCast_one] at hrea
            have HREA := Lib.hid hrea; clear hrea
            rw [hT]
            simp only [List.setIfInBounds_toArray, List.set_cons_zero, List.set_cons_succ]
            have q2 := cell_of hq 2 rfl
            have b0 := cell_of hb 0 rfl
            have b1 := cell_of hb 1 rfl
            have b2 := cell_of hb 2 rfl
            obtain ⟨p0, p1, p2, p3⟩ := h1.cells
            have H1 := Lib.hid h1; clear h1
            have H2 := Lib.hid h2; clear h2
            have H3 := Lib.hid h3; clear h3
            have HIT := Lib.hid hit; clear hit
            clear hT hq hb
            gi_wp2_with fail
            refine ⟨trivial, (CallsIn.inRound l (callsIn_wide.2 HREA.out)).mono ?_⟩
            rintro rr W' hre
            have H5 := Lib.hid (H1.out.rea hre HB.out HT.out)
            have HFR := Lib.hid hre.2.2.2
            obtain rfl := hre.1
            clear hre HREA q2 b0 b1 b2 p0 p1 p2 p3
            gi_wp2
            have hb5 := H2.out.kept HFR.out (H1.out.nb H2.out (by decide) (by decide))
            have hp5 := (HFR.out.block plb (lt_of_block H3.out) (H1.out.nb H3.out (by decide) (by decide))).trans H3.out
            have H6 := H5.out
            rw [← HZ2.out] at H6
            exact ⟨H1.out.kf HFR.out, fun _ => HIT.out _ _ H5.out hb5 hp5, H6, hb5, hp5⟩
          case done =>
            rintro D xs W hD hxs ⟨h1, h2, h3⟩ hK
            rw [foldA_all hxs] at h1
            gi_wp2
            refine endM_mark rfl hK rfl ?_
            have h4 := h1.own (N := w.heap.size) (grownBy_putObj' W D (.deferred none)) (fun r e => by cases e; exact ⟨Nat.le_trans hN hD, _, hK, rfl⟩) (Nat.le_refl _) (Nat.le_trans hb0 (Nat.le_refl _))
            rw [HC.out]
            exact ⟨rfl, h4.cu, h4.tm, h4.fr⟩
      case true =>
        have HC := Lib.hid (stp_zz HZ.out HON.out (cpC_yes (P := ⟨M, na, x, nb, y⟩) (p := (k, i, j)) (s := (X, e)) ⟨hi, hj, eq_of_beq hxy⟩))
        have hwi := wrap1 hi HCX.out HCM.out
        have hwj := wrap1 hj HCY.out HCYM.out
        obtain ⟨z1, hz1⟩ : ∃ z1, z1 = reaC X e (k, i, j) (k, i + 1, j + 1) ⟨#[48]⟩ := ⟨_, rfl⟩
        rw [← hz1] at HC
        have HR : Hid (∀ nq, _) := Lib.hid fun nq => reach_any (wt := ⟨#[48]⟩) (p := (k, i, j)) (q := (k, i + 1, j + 1)) (w3.drewN nq) (HS3.out.new (Fr.of_below (below_drewN (Below.refl _ w3) nq))).cu (HS3.out.new (Fr.of_below (below_drewN (Below.refl _ w3) nq))).tm ⟨HK.out, HI.out, HJ.out⟩ ⟨HK.out, Nat.succ_lt_succ hi, Nat.succ_lt_succ hj⟩ zero_sm (HTB.out.below (HS3.out.new (Fr.of_below (below_drewN (Below.refl _ w3) nq))).be (Nat.le_refl _))
        simp only [plV, Int.natCast_add, Int.natCast_one] at HR
        rw [← hz1] at HR
        clear hi hj hz1
        go_wp2_with fail
        go_quiet (fail)
        go_wp2_with fail
        refine (HR.out nq).mono ?_
        intro rr w4 hre
        have HS4 := Lib.hid ((HS3.out.new (Fr.of_below (below_drewN (Below.refl _ w3) nq))).rea hre HB.out HT.out)
        obtain rfl := hre.1
        clear hre
        go_wp2_with fail
        clear t0 t1 t2 t3 t4 t5 p0 p1 p2 p3 HS3
        obtain ⟨t0, t1, t2, t3, t4, t5⟩ := HS4.out.tm.cells
        obtain ⟨p0, p1, p2, p3⟩ := HS4.out.cells
        cases hm : ((k : Int) == M.most)
        case true =>
          go_wp2_with fail
          go_quiet (fail)
          go_wp2_with fail
          have HS5 := Lib.hid (HS4.out.new (Fr.of_below (below_drewN (Below.refl _ w4) nq)))
          refine endM_ret (.inl rfl) rfl rfl ?_
          rw [HC.out, if_pos (eq_of_beq hm)]
          exact ⟨rfl, HS5.out.cu, HS5.out.tm, HS5.out.fr⟩
        case false =>
          have HC := Lib.hid (HC.out.trans (if_neg (fun e => by have e2 : (k : Int) = M.most := e; rw [e2] at hm; simp at hm)))
          go_wp2_with fail
          go_quiet (fail)
          go_wp2_with fail
          have HS5 := Lib.hid (HS4.out.new (Fr.of_below (below_drewN (Below.refl _ w4) nq)))
          obtain ⟨w5, hw5⟩ : ∃ w5, w5 = w4.drewN nq := ⟨_, rfl⟩
          rw [← hw5] at HS5
          rw [← hw5]
          clear hw5 HS4
          refine (edits_any _).mono ?_
          rintro rr w6 ⟨rfl, hw6⟩
          have HW6 := Lib.hid hw6; clear hw6
          clear t0 t1 t2 t3 t4 t5 p0 p1 p2 p3
          go_wp2_with fail
          have hz6 : (w5.alloc (.cells #[.pointer (some ⟨tb, 0, none⟩)] 62)).heap.size = w5.heap.size + 1 := by simp
          have hf5 : Fr (fun _ => False) w5 (w5.alloc (.cells #[.pointer (some ⟨tb, 0, none⟩)] 62)) := Fr.alloc _ _
          have hf56 : Fr (fun _ => False) (w5.alloc (.cells #[.pointer (some ⟨tb, 0, none⟩)] 62)) w6 := by rw [HW6.out]; exact Fr.alloc _ _
          have hkb : Bx w6 w5.heap.size 62 (.pointer (some ⟨tb, 0, none⟩)) := Bx.kept (C := fun _ => False) (heap_alloc_new w5 _) hf56 (fun e => e)
          have hkp : w6.heap[w5.heap.size + 1]? = some (.cells #[.int .i64 (k : Int), .int .i64 (i : Int), .int .i64 (j : Int)] 70 (0, 0)) := by rw [HW6.out, ← hz6]; exact heap_alloc_new _ _
          have hs6 := HS5.out.new (hf5.trans hf56)
          have hN : w.heap.size ≤ w6.heap.size := hs6.fr.size
          have hb0 : w0.heap.size ≤ w.heap.size := HB0.out
          have hN0 : w0.heap.size ≤ w6.heap.size := hs6.be.size
          obtain ⟨tbb, htbb⟩ : ∃ tbb, tbb = w5.heap.size := ⟨_, rfl⟩
          obtain ⟨plb, hplb⟩ : ∃ plb, plb = w5.heap.size + 1 := ⟨_, rfl⟩
          rw [← hplb, ← htbb]
          rw [← hplb] at hkp
          rw [← htbb] at hkb
          clear hf5 hf56 hz6 HW6 HS5 htbb hplb
          obtain ⟨ae, ce, be, oe, EA, EA', EC, EC', hev, hae, hce, hcem, hbe, hrow⟩ := HEV.out.open
          have hit : ∀ (z : ST) (W : World), StW w0 w tB pB k i j B tb g cap (M.most.toNat + 1) (na + 1) (nb + 1) r s ev xv yv M.most z W → Bx W tbb 62 (.pointer (some ⟨tb, 0, none⟩)) → W.heap[plb]? = some (.cells #[.int .i64 (k : Int), .int .i64 (i : Int), .int .i64 (j : Int)] 70 (0, 0)) → ItM W tbb plb tb be oe ce M EA EA' EC EC' ae xv yv na nb x y k i j :=
            fun _ _ hs hb hp => hs.itm hb hp hev HX.out HY.out hrow
          clear hev hrow hbe hce hcem
          refine act_in (fun T hT => (wpIn_wide (n := 9)).1 ?_)
          simp only [] at hT
          refine wpIn_rangeFunc_ownH (F := Fence.wide) (n := 9) rfl (by omega) (gf := 130) (lb := #[.pointer (some ⟨tbb, 0, none⟩), .pointer (some ⟨plb, 0, none⟩)]) (by rw [hT]; rfl) trivial enterE1
            (edits1_stops 8 w6 (hit _ _ hs6 hkb hkp) hae HV.out.n4 (by have := HK.out; have := HV.out.m6; omega) (Nat.le_of_lt_succ HI.out) (Nat.le_of_lt_succ HJ.out)) (fun h k x => k (h x)) (fun W l o o' _ hl hc _ h => h.put o' hl hc) (Below.refl _ _) (fun _ => rfl)
            (fun pre W => StW w0 w tB pB k i j B tb g cap (M.most.toNat + 1) (na + 1) (nb + 1) r s ev xv yv M.most (foldA ⟨M, na, x, nb, y⟩ (k, i, j) z1 pre) W ∧ Bx W tbb 62 (.pointer (some ⟨tb, 0, none⟩)) ∧ W.heap[plb]? = some (.cells #[.int .i64 (k : Int), .int .i64 (i : Int), .int .i64 (j : Int)] 70 (0, 0)))
            (fun _ _ _ => False) ?own (fun _ => ownFrom_pure _ _) ⟨hs6, hkb, hkp⟩
            (fun e a' W => ∃ Bq Bt, W.heap[Bq]? = some (.cells #[.slice (EA e.1) (M.e e.1).nf (EC e.1), .slice (EA' e.1) (M.e e.1).nt (EC' e.1), .string (M.e e.1).w] 50 (0, 0)) ∧
              W.heap[Bt]? = some (.cells #[.int .i64 ((k : Int) + 1), .int .i64 ((i : Int) + ((M.e e.1).nf : Int)), .int .i64 ((j : Int) + ((M.e e.1).nt : Int))] 70 (0, 0)) ∧
              a' = { tmps := (((T.setIfInBounds 70 (.agg #[.slice (EA e.1) (M.e e.1).nf (EC e.1), .slice (EA' e.1) (M.e e.1).nt (EC' e.1), .string (M.e e.1).w])).setIfInBounds 71 (.agg #[.int .i64 ((k : Int) + 1), .int .i64 ((i : Int) + ((M.e e.1).nf : Int)), .int .i64 ((j : Int) + ((M.e e.1).nt : Int))])).setIfInBounds 4 (.pointer (some ⟨Bq, 0, none⟩))).setIfInBounds 5 (.pointer (some ⟨Bt, 0, none⟩)), defers := [] })
            ?ownA ?assign ?body ?done (fun _ _ _ _ _ _ h => h.elim)
          case own =>
            rintro pre X Y row ⟨h1, h2, h3⟩ hg hr
            have hf : Fr (fun q => row = some q) X Y := Fr.of_gb hg (fun _ e => e)
            exact ⟨h1.own hg hr hN hN0, h2.kept hf (fun e => by obtain ⟨_, o, ho, hc⟩ := hr _ e; exact block_ne ho hc h2 rfl), (hf.block plb (lt_of_block h3) (fun e => by obtain ⟨_, o, ho, hc⟩ := hr _ e; exact block_ne ho hc h3 rfl)).trans h3⟩
          case ownA =>
            rintro e a' _ X Y row ⟨Bq, Bt, h1, h2, h3⟩ hg hr
            have hf : Fr (fun q => row = some q) X Y := Fr.of_gb hg (fun _ e => e)
            exact ⟨Bq, Bt, (hf.block Bq (lt_of_block h1) (fun e => by obtain ⟨_, o, ho, hc⟩ := hr _ e; exact block_ne ho hc h1 rfl)).trans h1, (hf.block Bt (lt_of_block h2) (fun e => by obtain ⟨_, o, ho, hc⟩ := hr _ e; exact block_ne ho hc h2 rfl)).trans h2, h3⟩
          case assign =>
            rintro l pre e W K ⟨h1, h2, h3⟩ hK
            rw [hT] at hK ⊢
            simp only [encE, toP, plV, Int.natCast_add, Int.natCast_one] at hK ⊢
            gi_wp2
            have hfa := Fr.alloc (C := fun _ => False) W (.cells #[.slice (EA e.1) (M.e e.1).nf (EC e.1), .slice (EA' e.1) (M.e e.1).nt (EC' e.1), .string (M.e e.1).w] 50)
            have hza : (W.alloc (.cells #[.slice (EA e.1) (M.e e.1).nf (EC e.1), .slice (EA' e.1) (M.e e.1).nt (EC' e.1), .string (M.e e.1).w] 50)).heap.size = W.heap.size + 1 := by simp
            have hfb := Fr.alloc (C := fun _ => False) (W.alloc (.cells #[.slice (EA e.1) (M.e e.1).nf (EC e.1), .slice (EA' e.1) (M.e e.1).nt (EC' e.1), .string (M.e e.1).w] 50)) (.cells #[.int .i64 ((k : Int) + 1), .int .i64 ((i : Int) + ((M.e e.1).nf : Int)), .int .i64 ((j : Int) + ((M.e e.1).nt : Int))] 70)
            have hi2 := h1.new (hfa.trans hfb)
            have hb2 := h2.kept (hfa.trans hfb) (fun e => e)
            have hp2 := ((hfa.trans hfb).block plb (lt_of_block h3) (fun e => e)).trans h3
            refine hK _ _ (h1.kf ((hfa.trans hfb).mono (fun _ _ e => e.elim))) (fun _ => hit _ _ hi2 hb2 hp2) ⟨hi2, hb2, hp2⟩ ⟨W.heap.size, W.heap.size + 1, (hfb.block _ (by rw [hza]; exact Nat.lt_succ_self _) (fun e => e)).trans (heap_alloc_new W _), by rw [← hza]; exact heap_alloc_new _ _, ?_⟩
            simp only [List.setIfInBounds_toArray, List.set_cons_zero, List.set_cons_succ]
          case body =>
            rintro l pre e a' W _ _ ⟨h1, h2, h3⟩ ⟨Bq, Bt, hq, hb, rfl⟩ _
            have hcan := canB_iff.1 e.2.2
            have hin : i + (M.e e.1).nf < na + 1 := Nat.lt_succ_of_le hcan.1.1
            have hjn : j + (M.e e.1).nt < nb + 1 := Nat.lt_succ_of_le hcan.2.1
            have hkn : k + 1 < M.most.toNat + 1 := by
              have h5 := HK.out; have h6 := HV.out.m0
              have h7 : (k : Int) ≠ M.most := fun e => by rw [e] at hm; simp at hm
              omega
            have hrea := reach_any (p := (k, i, j)) (q := toP ⟨M, na, x, nb, y⟩ (k, i, j) e.1) (wt := (M.e e.1).w) W h1.cu h1.tm ⟨HK.out, HI.out, HJ.out⟩ ⟨hkn, hin, hjn⟩ (by have := HSZ.out.w e.1; unfold smS; omega) (HTB.out.below h1.be (Nat.le_refl _))
            obtain ⟨z2, hz2⟩ : ∃ z2, z2 = reaC (foldA ⟨M, na, x, nb, y⟩ (k, i, j) z1 pre).1 (foldA ⟨M, na, x, nb, y⟩ (k, i, j) z1 pre).2 (k, i, j) (toP ⟨M, na, x, nb, y⟩ (k, i, j) e.1) (M.e e.1).w := ⟨_, rfl⟩
            rw [← hz2] at hrea
            have hz2' : foldA ⟨M, na, x, nb, y⟩ (k, i, j) z1 (pre ++ [e]) = z2 := foldA_snoc.trans hz2.symm
            have HZ2 := Lib.hid hz2'
            clear hz2 hz2' hcan hin hjn hkn
            simp only [toP, plV, Int.natCast_add, Int.natCast_one] at hrea
            have HREA := Lib.hid hrea; clear hrea
            rw [hT]
            simp only [List.setIfInBounds_toArray, List.set_cons_zero, List.set_cons_succ]
            have q2 := cell_of hq 2 rfl
            have b0 := cell_of hb 0 rfl
            have b1 := cell_of hb 1 rfl
            have b2 := cell_of hb 2 rfl
            obtain ⟨p0, p1, p2, p3⟩ := h1.cells
            have H1 := Lib.hid h1; clear h1
            have H2 := Lib.hid h2; clear h2
            have H3 := Lib.hid h3; clear h3
            have HIT := Lib.hid hit; clear hit
            clear hT hq hb
            gi_wp2_with fail
            refine ⟨trivial, (CallsIn.inRound l (callsIn_wide.2 HREA.out)).mono ?_⟩
            rintro rr W' hre
            have H5 := Lib.hid (H1.out.rea hre HB.out HT.out)
            have HFR := Lib.hid hre.2.2.2
            obtain rfl := hre.1
            clear hre HREA q2 b0 b1 b2 p0 p1 p2 p3
            gi_wp2
            have hb5 := H2.out.kept HFR.out (H1.out.nb H2.out (by decide) (by decide))
            have hp5 := (HFR.out.block plb (lt_of_block H3.out) (H1.out.nb H3.out (by decide) (by decide))).trans H3.out
            have H6 := H5.out
            rw [← HZ2.out] at H6
            exact ⟨H1.out.kf HFR.out, fun _ => HIT.out _ _ H5.out hb5 hp5, H6, hb5, hp5⟩
          case done =>
            rintro D xs W hD hxs ⟨h1, h2, h3⟩ hK
            rw [foldA_all hxs] at h1
            gi_wp2
            refine endM_mark rfl hK rfl ?_
            have h4 := h1.own (N := w.heap.size) (grownBy_putObj' W D (.deferred none)) (fun r e => by cases e; exact ⟨Nat.le_trans hN hD, _, hK, rfl⟩) (Nat.le_refl _) (Nat.le_trans hb0 (Nat.le_refl _))
            rw [HC.out]
            exact ⟨rfl, h4.cu, h4.tm, h4.fr⟩
    · have hjd : decide (j < nb) = false := by simp; omega
      have HC := Lib.hid (stp_zz HZ.out HON.out (cpC_no (P := ⟨M, na, x, nb, y⟩) (p := (k, i, j)) (s := (X, e)) (fun h => hj h.2.1)))
      clear hi hj
      go_wp2_with fail
      go_quiet (fail)
      go_wp2_with fail
      have HS4 := Lib.hid (HS3.out.new (Fr.of_below (below_drewN (Below.refl _ w3) nq)))
      obtain ⟨w4, hw4⟩ : ∃ w4, w4 = w3.drewN nq := ⟨_, rfl⟩
      rw [← hw4] at HS4 ⊢
      clear hw4
      obtain ⟨z1, hz1⟩ : ∃ z1 : ST, z1 = (X, e) := ⟨_, rfl⟩
      rw [← hz1] at HS4 HC
      clear hz1
      clear t0 t1 t2 t3 t4 t5 p0 p1 p2 p3 HS3
      obtain ⟨t0, t1, t2, t3, t4, t5⟩ := HS4.out.tm.cells
      obtain ⟨p0, p1, p2, p3⟩ := HS4.out.cells
      cases hm : ((k : Int) == M.most)
      case true =>
        go_wp2_with fail
        go_quiet (fail)
        go_wp2_with fail
        have HS5 := Lib.hid (HS4.out.new (Fr.of_below (below_drewN (Below.refl _ w4) nq)))
        refine endM_ret (.inl rfl) rfl rfl ?_
        rw [HC.out, if_pos (eq_of_beq hm)]
        exact ⟨rfl, HS5.out.cu, HS5.out.tm, HS5.out.fr⟩
      case false =>
        have HC := Lib.hid (HC.out.trans (if_neg (fun e => by have e2 : (k : Int) = M.most := e; rw [e2] at hm; simp at hm)))
        go_wp2_with fail
        go_quiet (fail)
        go_wp2_with fail
        have HS5 := Lib.hid (HS4.out.new (Fr.of_below (below_drewN (Below.refl _ w4) nq)))
        obtain ⟨w5, hw5⟩ : ∃ w5, w5 = w4.drewN nq := ⟨_, rfl⟩
        rw [← hw5] at HS5
        rw [← hw5]
        clear hw5 HS4
        refine (edits_any _).mono ?_
        rintro rr w6 ⟨rfl, hw6⟩
        have HW6 := Lib.hid hw6; clear hw6
        clear t0 t1 t2 t3 t4 t5 p0 p1 p2 p3
        go_wp2_with fail
        have hz6 : (w5.alloc (.cells #[.pointer (some ⟨tb, 0, none⟩)] 62)).heap.size = w5.heap.size + 1 := by simp
        have hf5 : Fr (fun _ => False) w5 (w5.alloc (.cells #[.pointer (some ⟨tb, 0, none⟩)] 62)) := Fr.alloc _ _
        have hf56 : Fr (fun _ => False) (w5.alloc (.cells #[.pointer (some ⟨tb, 0, none⟩)] 62)) w6 := by rw [HW6.out]; exact Fr.alloc _ _
        have hkb : Bx w6 w5.heap.size 62 (.pointer (some ⟨tb, 0, none⟩)) := Bx.kept (C := fun _ => False) (heap_alloc_new w5 _) hf56 (fun e => e)
        have hkp : w6.heap[w5.heap.size + 1]? = some (.cells #[.int .i64 (k : Int), .int .i64 (i : Int), .int .i64 (j : Int)] 70 (0, 0)) := by rw [HW6.out, ← hz6]; exact heap_alloc_new _ _
        have hs6 := HS5.out.new (hf5.trans hf56)
        have hN : w.heap.size ≤ w6.heap.size := hs6.fr.size
        have hb0 : w0.heap.size ≤ w.heap.size := HB0.out
        have hN0 : w0.heap.size ≤ w6.heap.size := hs6.be.size
        obtain ⟨tbb, htbb⟩ : ∃ tbb, tbb = w5.heap.size := ⟨_, rfl⟩
        obtain ⟨plb, hplb⟩ : ∃ plb, plb = w5.heap.size + 1 := ⟨_, rfl⟩
        rw [← hplb, ← htbb]
        rw [← hplb] at hkp
        rw [← htbb] at hkb
        clear hf5 hf56 hz6 HW6 HS5 htbb hplb
        obtain ⟨ae, ce, be, oe, EA, EA', EC, EC', hev, hae, hce, hcem, hbe, hrow⟩ := HEV.out.open
        have hit : ∀ (z : ST) (W : World), StW w0 w tB pB k i j B tb g cap (M.most.toNat + 1) (na + 1) (nb + 1) r s ev xv yv M.most z W → Bx W tbb 62 (.pointer (some ⟨tb, 0, none⟩)) → W.heap[plb]? = some (.cells #[.int .i64 (k : Int), .int .i64 (i : Int), .int .i64 (j : Int)] 70 (0, 0)) → ItM W tbb plb tb be oe ce M EA EA' EC EC' ae xv yv na nb x y k i j :=
          fun _ _ hs hb hp => hs.itm hb hp hev HX.out HY.out hrow
        clear hev hrow hbe hce hcem
        refine act_in (fun T hT => (wpIn_wide (n := 9)).1 ?_)
        simp only [] at hT
        refine wpIn_rangeFunc_ownH (F := Fence.wide) (n := 9) rfl (by omega) (gf := 130) (lb := #[.pointer (some ⟨tbb, 0, none⟩), .pointer (some ⟨plb, 0, none⟩)]) (by rw [hT]; rfl) trivial enterE1
          (edits1_stops 8 w6 (hit _ _ hs6 hkb hkp) hae HV.out.n4 (by have := HK.out; have := HV.out.m6; omega) (Nat.le_of_lt_succ HI.out) (Nat.le_of_lt_succ HJ.out)) (fun h k x => k (h x)) (fun W l o o' _ hl hc _ h => h.put o' hl hc) (Below.refl _ _) (fun _ => rfl)
          (fun pre W => StW w0 w tB pB k i j B tb g cap (M.most.toNat + 1) (na + 1) (nb + 1) r s ev xv yv M.most (foldA ⟨M, na, x, nb, y⟩ (k, i, j) z1 pre) W ∧ Bx W tbb 62 (.pointer (some ⟨tb, 0, none⟩)) ∧ W.heap[plb]? = some (.cells #[.int .i64 (k : Int), .int .i64 (i : Int), .int .i64 (j : Int)] 70 (0, 0)))
          (fun _ _ _ => False) ?own (fun _ => ownFrom_pure _ _) ⟨hs6, hkb, hkp⟩
          (fun e a' W => ∃ Bq Bt, W.heap[Bq]? = some (.cells #[.slice (EA e.1) (M.e e.1).nf (EC e.1), .slice (EA' e.1) (M.e e.1).nt (EC' e.1), .string (M.e e.1).w] 50 (0, 0)) ∧
            W.heap[Bt]? = some (.cells #[.int .i64 ((k : Int) + 1), .int .i64 ((i : Int) + ((M.e e.1).nf : Int)), .int .i64 ((j : Int) + ((M.e e.1).nt : Int))] 70 (0, 0)) ∧
            a' = { tmps := (((T.setIfInBounds 70 (.agg #[.slice (EA e.1) (M.e e.1).nf (EC e.1), .slice (EA' e.1) (M.e e.1).nt (EC' e.1), .string (M.e e.1).w])).setIfInBounds 71 (.agg #[.int .i64 ((k : Int) + 1), .int .i64 ((i : Int) + ((M.e e.1).nf : Int)), .int .i64 ((j : Int) + ((M.e e.1).nt : Int))])).setIfInBounds 4 (.pointer (some ⟨Bq, 0, none⟩))).setIfInBounds 5 (.pointer (some ⟨Bt, 0, none⟩)), defers := [] })
          ?ownA ?assign ?body ?done (fun _ _ _ _ _ _ h => h.elim)
        case own =>
          rintro pre X Y row ⟨h1, h2, h3⟩ hg hr
          have hf : Fr (fun q => row = some q) X Y := Fr.of_gb hg (fun _ e => e)
          exact ⟨h1.own hg hr hN hN0, h2.kept hf (fun e => by obtain ⟨_, o, ho, hc⟩ := hr _ e; exact block_ne ho hc h2 rfl), (hf.block plb (lt_of_block h3) (fun e => by obtain ⟨_, o, ho, hc⟩ := hr _ e; exact block_ne ho hc h3 rfl)).trans h3⟩
        case ownA =>
          rintro e a' _ X Y row ⟨Bq, Bt, h1, h2, h3⟩ hg hr
          have hf : Fr (fun q => row = some q) X Y := Fr.of_gb hg (fun _ e => e)
          exact ⟨Bq, Bt, (hf.block Bq (lt_of_block h1) (fun e => by obtain ⟨_, o, ho, hc⟩ := hr _ e; exact block_ne ho hc h1 rfl)).trans h1, (hf.block Bt (lt_of_block h2) (fun e => by obtain ⟨_, o, ho, hc⟩ := hr _ e; exact block_ne ho hc h2 rfl)).trans h2, h3⟩
        case assign =>
          rintro l pre e W K ⟨h1, h2, h3⟩ hK
          rw [hT] at hK ⊢
          simp only [encE, toP, plV, Int.natCast_add, Int.natCast_one] at hK ⊢
          gi_wp2
          have hfa := Fr.alloc (C := fun _ => False) W (.cells #[.slice (EA e.1) (M.e e.1).nf (EC e.1), .slice (EA' e.1) (M.e e.1).nt (EC' e.1), .string (M.e e.1).w] 50)
          have hza : (W.alloc (.cells #[.slice (EA e.1) (M.e e.1).nf (EC e.1), .slice (EA' e.1) (M.e e.1).nt (EC' e.1), .string (M.e e.1).w] 50)).heap.size = W.heap.size + 1 := by simp
          have hfb := Fr.alloc (C := fun _ => False) (W.alloc (.cells #[.slice (EA e.1) (M.e e.1).nf (EC e.1), .slice (EA' e.1) (M.e e.1).nt (EC' e.1), .string (M.e e.1).w] 50)) (.cells #[.int .i64 ((k : Int) + 1), .int .i64 ((i : Int) + ((M.e e.1).nf : Int)), .int .i64 ((j : Int) + ((M.e e.1).nt : Int))] 70)
          have hi2 := h1.new (hfa.trans hfb)
          have hb2 := h2.kept (hfa.trans hfb) (fun e => e)
          have hp2 := ((hfa.trans hfb).block plb (lt_of_block h3) (fun e => e)).trans h3
          refine hK _ _ (h1.kf ((hfa.trans hfb).mono (fun _ _ e => e.elim))) (fun _ => hit _ _ hi2 hb2 hp2) ⟨hi2, hb2, hp2⟩ ⟨W.heap.size, W.heap.size + 1, (hfb.block _ (by rw [hza]; exact Nat.lt_succ_self _) (fun e => e)).trans (heap_alloc_new W _), by rw [← hza]; exact heap_alloc_new _ _, ?_⟩
          simp only [List.setIfInBounds_toArray, List.set_cons_zero, List.set_cons_succ]
        case body =>
          rintro l pre e a' W _ _ ⟨h1, h2, h3⟩ ⟨Bq, Bt, hq, hb, rfl⟩ _
          have hcan := canB_iff.1 e.2.2
          have hin : i + (M.e e.1).nf < na + 1 := Nat.lt_succ_of_le hcan.1.1
          have hjn : j + (M.e e.1).nt < nb + 1 := Nat.lt_succ_of_le hcan.2.1
          have hkn : k + 1 < M.most.toNat + 1 := by
            have h5 := HK.out; have h6 := HV.out.m0
            have h7 : (k : Int) ≠ M.most := fun e => by rw [e] at hm; simp at hm
            omega
          have hrea := reach_any (p := (k, i, j)) (q := toP ⟨M, na, x, nb, y⟩ (k, i, j) e.1) (wt := (M.e e.1).w) W h1.cu h1.tm ⟨HK.out, HI.out, HJ.out⟩ ⟨hkn, hin, hjn⟩ (by have := HSZ.out.w e.1; unfold smS; omega) (HTB.out.below h1.be (Nat.le_refl _))
          obtain ⟨z2, hz2⟩ : ∃ z2, z2 = reaC (foldA ⟨M, na, x, nb, y⟩ (k, i, j) z1 pre).1 (foldA ⟨M, na, x, nb, y⟩ (k, i, j) z1 pre).2 (k, i, j) (toP ⟨M, na, x, nb, y⟩ (k, i, j) e.1) (M.e e.1).w := ⟨_, rfl⟩
          rw [← hz2] at hrea
          have hz2' : foldA ⟨M, na, x, nb, y⟩ (k, i, j) z1 (pre ++ [e]) = z2 := foldA_snoc.trans hz2.symm
          have HZ2 := Lib.hid hz2'
          clear hz2 hz2' hcan hin hjn hkn
          simp only [toP, plV, Int.natCast_add, Int.natCast_one] at hrea
          have HREA := Lib.hid hrea; clear hrea
          rw [hT]
          simp only [List.setIfInBounds_toArray, List.set_cons_zero, List.set_cons_succ]
          have q2 := cell_of hq 2 rfl
          have b0 := cell_of hb 0 rfl
          have b1 := cell_of hb 1 rfl
          have b2 := cell_of hb 2 rfl
          obtain ⟨p0, p1, p2, p3⟩ := h1.cells
          have H1 := Lib.hid h1; clear h1
          have H2 := Lib.hid h2; clear h2
          have H3 := Lib.hid h3; clear h3
          have HIT := Lib.hid hit; clear hit
          clear hT hq hb
          gi_wp2_with fail
          refine ⟨trivial, (CallsIn.inRound l (callsIn_wide.2 HREA.out)).mono ?_⟩
          rintro rr W' hre
          have H5 := Lib.hid (H1.out.rea hre HB.out HT.out)
          have HFR := Lib.hid hre.2.2.2
          obtain rfl := hre.1
          clear hre HREA q2 b0 b1 b2 p0 p1 p2 p3
          gi_wp2
          have hb5 := H2.out.kept HFR.out (H1.out.nb H2.out (by decide) (by decide))
          have hp5 := (HFR.out.block plb (lt_of_block H3.out) (H1.out.nb H3.out (by decide) (by decide))).trans H3.out
          have H6 := H5.out
          rw [← HZ2.out] at H6
          exact ⟨H1.out.kf HFR.out, fun _ => HIT.out _ _ H5.out hb5 hp5, H6, hb5, hp5⟩
        case done =>
          rintro D xs W hD hxs ⟨h1, h2, h3⟩ hK
          rw [foldA_all hxs] at h1
          gi_wp2
          refine endM_mark rfl hK rfl ?_
          have h4 := h1.own (N := w.heap.size) (grownBy_putObj' W D (.deferred none)) (fun r e => by cases e; exact ⟨Nat.le_trans hN hD, _, hK, rfl⟩) (Nat.le_refl _) (Nat.le_trans hb0 (Nat.le_refl _))
          rw [HC.out]
          exact ⟨rfl, h4.cu, h4.tm, h4.fr⟩
  · have hid : decide (i < na) = false := by simp; omega
    have HC := Lib.hid (stp_zz HZ.out HON.out (cpC_no (P := ⟨M, na, x, nb, y⟩) (p := (k, i, j)) (s := (X, e)) (fun h => hi h.1)))
    clear hi
    go_wp2_with fail
    go_quiet (fail)
    go_wp2_with fail
    have HS4 := Lib.hid (HS3.out.new (Fr.of_below (below_drewN (Below.refl _ w3) nq)))
    obtain ⟨w4, hw4⟩ : ∃ w4, w4 = w3.drewN nq := ⟨_, rfl⟩
    rw [← hw4] at HS4 ⊢
    clear hw4
    obtain ⟨z1, hz1⟩ : ∃ z1 : ST, z1 = (X, e) := ⟨_, rfl⟩
    rw [← hz1] at HS4 HC
    clear hz1
    clear t0 t1 t2 t3 t4 t5 p0 p1 p2 p3 HS3
    obtain ⟨t0, t1, t2, t3, t4, t5⟩ := HS4.out.tm.cells
    obtain ⟨p0, p1, p2, p3⟩ := HS4.out.cells
    cases hm : ((k : Int) == M.most)
    case true =>
      go_wp2_with fail
      go_quiet (fail)
      go_wp2_with fail
      have HS5 := Lib.hid (HS4.out.new (Fr.of_below (below_drewN (Below.refl _ w4) nq)))
      refine endM_ret (.inl rfl) rfl rfl ?_
      rw [HC.out, if_pos (eq_of_beq hm)]
      exact ⟨rfl, HS5.out.cu, HS5.out.tm, HS5.out.fr⟩
    case false =>
      have HC := Lib.hid (HC.out.trans (if_neg (fun e => by have e2 : (k : Int) = M.most := e; rw [e2] at hm; simp at hm)))
      go_wp2_with fail
      go_quiet (fail)
      go_wp2_with fail
      have HS5 := Lib.hid (HS4.out.new (Fr.of_below (below_drewN (Below.refl _ w4) nq)))
      obtain ⟨w5, hw5⟩ : ∃ w5, w5 = w4.drewN nq := ⟨_, rfl⟩
      rw [← hw5] at HS5
      rw [← hw5]
      clear hw5 HS4
      refine (edits_any _).mono ?_
      rintro rr w6 ⟨rfl, hw6⟩
      have HW6 := Lib.hid hw6; clear hw6
      clear t0 t1 t2 t3 t4 t5 p0 p1 p2 p3
      go_wp2_with fail
      have hz6 : (w5.alloc (.cells #[.pointer (some ⟨tb, 0, none⟩)] 62)).heap.size = w5.heap.size + 1 := by simp
      have hf5 : Fr (fun _ => False) w5 (w5.alloc (.cells #[.pointer (some ⟨tb, 0, none⟩)] 62)) := Fr.alloc _ _
      have hf56 : Fr (fun _ => False) (w5.alloc (.cells #[.pointer (some ⟨tb, 0, none⟩)] 62)) w6 := by rw [HW6.out]; exact Fr.alloc _ _
      have hkb : Bx w6 w5.heap.size 62 (.pointer (some ⟨tb, 0, none⟩)) := Bx.kept (C := fun _ => False) (heap_alloc_new w5 _) hf56 (fun e => e)
      have hkp : w6.heap[w5.heap.size + 1]? = some (.cells #[.int .i64 (k : Int), .int .i64 (i : Int), .int .i64 (j : Int)] 70 (0, 0)) := by rw [HW6.out, ← hz6]; exact heap_alloc_new _ _
      have hs6 := HS5.out.new (hf5.trans hf56)
      have hN : w.heap.size ≤ w6.heap.size := hs6.fr.size
      have hb0 : w0.heap.size ≤ w.heap.size := HB0.out
      have hN0 : w0.heap.size ≤ w6.heap.size := hs6.be.size
      obtain ⟨tbb, htbb⟩ : ∃ tbb, tbb = w5.heap.size := ⟨_, rfl⟩
      obtain ⟨plb, hplb⟩ : ∃ plb, plb = w5.heap.size + 1 := ⟨_, rfl⟩
      rw [← hplb, ← htbb]
      rw [← hplb] at hkp
      rw [← htbb] at hkb
      clear hf5 hf56 hz6 HW6 HS5 htbb hplb
      obtain ⟨ae, ce, be, oe, EA, EA', EC, EC', hev, hae, hce, hcem, hbe, hrow⟩ := HEV.out.open
      have hit : ∀ (z : ST) (W : World), StW w0 w tB pB k i j B tb g cap (M.most.toNat + 1) (na + 1) (nb + 1) r s ev xv yv M.most z W → Bx W tbb 62 (.pointer (some ⟨tb, 0, none⟩)) → W.heap[plb]? = some (.cells #[.int .i64 (k : Int), .int .i64 (i : Int), .int .i64 (j : Int)] 70 (0, 0)) → ItM W tbb plb tb be oe ce M EA EA' EC EC' ae xv yv na nb x y k i j :=
        fun _ _ hs hb hp => hs.itm hb hp hev HX.out HY.out hrow
      clear hev hrow hbe hce hcem
      refine act_in (fun T hT => (wpIn_wide (n := 9)).1 ?_)
      simp only [] at hT
      refine wpIn_rangeFunc_ownH (F := Fence.wide) (n := 9) rfl (by omega) (gf := 130) (lb := #[.pointer (some ⟨tbb, 0, none⟩), .pointer (some ⟨plb, 0, none⟩)]) (by rw [hT]; rfl) trivial enterE1
        (edits1_stops 8 w6 (hit _ _ hs6 hkb hkp) hae HV.out.n4 (by have := HK.out; have := HV.out.m6; omega) (Nat.le_of_lt_succ HI.out) (Nat.le_of_lt_succ HJ.out)) (fun h k x => k (h x)) (fun W l o o' _ hl hc _ h => h.put o' hl hc) (Below.refl _ _) (fun _ => rfl)
        (fun pre W => StW w0 w tB pB k i j B tb g cap (M.most.toNat + 1) (na + 1) (nb + 1) r s ev xv yv M.most (foldA ⟨M, na, x, nb, y⟩ (k, i, j) z1 pre) W ∧ Bx W tbb 62 (.pointer (some ⟨tb, 0, none⟩)) ∧ W.heap[plb]? = some (.cells #[.int .i64 (k : Int), .int .i64 (i : Int), .int .i64 (j : Int)] 70 (0, 0)))
        (fun _ _ _ => False) ?own (fun _ => ownFrom_pure _ _) ⟨hs6, hkb, hkp⟩
        (fun e a' W => ∃ Bq Bt, W.heap[Bq]? = some (.cells #[.slice (EA e.1) (M.e e.1).nf (EC e.1), .slice (EA' e.1) (M.e e.1).nt (EC' e.1), .string (M.e e.1).w] 50 (0, 0)) ∧
          W.heap[Bt]? = some (.cells #[.int .i64 ((k : Int) + 1), .int .i64 ((i : Int) + ((M.e e.1).nf : Int)), .int .i64 ((j : Int) + ((M.e e.1).nt : Int))] 70 (0, 0)) ∧
          a' = { tmps := (((T.setIfInBounds 70 (.agg #[.slice (EA e.1) (M.e e.1).nf (EC e.1), .slice (EA' e.1) (M.e e.1).nt (EC' e.1), .string (M.e e.1).w])).setIfInBounds 71 (.agg #[.int .i64 ((k : Int) + 1), .int .i64 ((i : Int) + ((M.e e.1).nf : Int)), .int .i64 ((j : Int) + ((M.e e.1).nt : Int))])).setIfInBounds 4 (.pointer (some ⟨Bq, 0, none⟩))).setIfInBounds 5 (.pointer (some ⟨Bt, 0, none⟩)), defers := [] })
        ?ownA ?assign ?body ?done (fun _ _ _ _ _ _ h => h.elim)
      case own =>
        rintro pre X Y row ⟨h1, h2, h3⟩ hg hr
        have hf : Fr (fun q => row = some q) X Y := Fr.of_gb hg (fun _ e => e)
        exact ⟨h1.own hg hr hN hN0, h2.kept hf (fun e => by obtain ⟨_, o, ho, hc⟩ := hr _ e; exact block_ne ho hc h2 rfl), (hf.block plb (lt_of_block h3) (fun e => by obtain ⟨_, o, ho, hc⟩ := hr _ e; exact block_ne ho hc h3 rfl)).trans h3⟩
      case ownA =>
        rintro e a' _ X Y row ⟨Bq, Bt, h1, h2, h3⟩ hg hr
        have hf : Fr (fun q => row = some q) X Y := Fr.of_gb hg (fun _ e => e)
        exact ⟨Bq, Bt, (hf.block Bq (lt_of_block h1) (fun e => by obtain ⟨_, o, ho, hc⟩ := hr _ e; exact block_ne ho hc h1 rfl)).trans h1, (hf.block Bt (lt_of_block h2) (fun e => by obtain ⟨_, o, ho, hc⟩ := hr _ e; exact block_ne ho hc h2 rfl)).trans h2, h3⟩
      case assign =>
        rintro l pre e W K ⟨h1, h2, h3⟩ hK
        rw [hT] at hK ⊢
        simp only [encE, toP, plV, Int.natCast_add, Int.natCast_one] at hK ⊢
        gi_wp2
        have hfa := Fr.alloc (C := fun _ => False) W (.cells #[.slice (EA e.1) (M.e e.1).nf (EC e.1), .slice (EA' e.1) (M.e e.1).nt (EC' e.1), .string (M.e e.1).w] 50)
        have hza : (W.alloc (.cells #[.slice (EA e.1) (M.e e.1).nf (EC e.1), .slice (EA' e.1) (M.e e.1).nt (EC' e.1), .string (M.e e.1).w] 50)).heap.size = W.heap.size + 1 := by simp
        have hfb := Fr.alloc (C := fun _ => False) (W.alloc (.cells #[.slice (EA e.1) (M.e e.1).nf (EC e.1), .slice (EA' e.1) (M.e e.1).nt (EC' e.1), .string (M.e e.1).w] 50)) (.cells #[.int .i64 ((k : Int) + 1), .int .i64 ((i : Int) + ((M.e e.1).nf : Int)), .int .i64 ((j : Int) + ((M.e e.1).nt : Int))] 70)
        have hi2 := h1.new (hfa.trans hfb)
        have hb2 := h2.kept (hfa.trans hfb) (fun e => e)
        have hp2 := ((hfa.trans hfb).block plb (lt_of_block h3) (fun e => e)).trans h3
        refine hK _ _ (h1.kf ((hfa.trans hfb).mono (fun _ _ e => e.elim))) (fun _ => hit _ _ hi2 hb2 hp2) ⟨hi2, hb2, hp2⟩ ⟨W.heap.size, W.heap.size + 1, (hfb.block _ (by rw [hza]; exact Nat.lt_succ_self _) (fun e => e)).trans (heap_alloc_new W _), by rw [← hza]; exact heap_alloc_new _ _, ?_⟩
        simp only [List.setIfInBounds_toArray, List.set_cons_zero, List.set_cons_succ]
      case body =>
        rintro l pre e a' W _ _ ⟨h1, h2, h3⟩ ⟨Bq, Bt, hq, hb, rfl⟩ _
        have hcan := canB_iff.1 e.2.2
        have hin : i + (M.e e.1).nf < na + 1 := Nat.lt_succ_of_le hcan.1.1
        have hjn : j + (M.e e.1).nt < nb + 1 := Nat.lt_succ_of_le hcan.2.1
        have hkn : k + 1 < M.most.toNat + 1 := by
          have h5 := HK.out; have h6 := HV.out.m0
          have h7 : (k : Int) ≠ M.most := fun e => by rw [e] at hm; simp at hm
          omega
        have hrea := reach_any (p := (k, i, j)) (q := toP ⟨M, na, x, nb, y⟩ (k, i, j) e.1) (wt := (M.e e.1).w) W h1.cu h1.tm ⟨HK.out, HI.out, HJ.out⟩ ⟨hkn, hin, hjn⟩ (by have := HSZ.out.w e.1; unfold smS; omega) (HTB.out.below h1.be (Nat.le_refl _))
        obtain ⟨z2, hz2⟩ : ∃ z2, z2 = reaC (foldA ⟨M, na, x, nb, y⟩ (k, i, j) z1 pre).1 (foldA ⟨M, na, x, nb, y⟩ (k, i, j) z1 pre).2 (k, i, j) (toP ⟨M, na, x, nb, y⟩ (k, i, j) e.1) (M.e e.1).w := ⟨_, rfl⟩
        rw [← hz2] at hrea
        have hz2' : foldA ⟨M, na, x, nb, y⟩ (k, i, j) z1 (pre ++ [e]) = z2 := foldA_snoc.trans hz2.symm
        have HZ2 := Lib.hid hz2'
        clear hz2 hz2' hcan hin hjn hkn
        simp only [toP, plV, Int.natCast_add, Int.natCast_one] at hrea
        have HREA := Lib.hid hrea; clear hrea
        rw [hT]
        simp only [List.setIfInBounds_toArray, List.set_cons_zero, List.set_cons_succ]
        have q2 := cell_of hq 2 rfl
        have b0 := cell_of hb 0 rfl
        have b1 := cell_of hb 1 rfl
        have b2 := cell_of hb 2 rfl
        obtain ⟨p0, p1, p2, p3⟩ := h1.cells
        have H1 := Lib.hid h1; clear h1
        have H2 := Lib.hid h2; clear h2
        have H3 := Lib.hid h3; clear h3
        have HIT := Lib.hid hit; clear hit
        clear hT hq hb
        gi_wp2_with fail
        refine ⟨trivial, (CallsIn.inRound l (callsIn_wide.2 HREA.out)).mono ?_⟩
        rintro rr W' hre
        have H5 := Lib.hid (H1.out.rea hre HB.out HT.out)
        have HFR := Lib.hid hre.2.2.2
        obtain rfl := hre.1
        clear hre HREA q2 b0 b1 b2 p0 p1 p2 p3
        gi_wp2
        have hb5 := H2.out.kept HFR.out (H1.out.nb H2.out (by decide) (by decide))
        have hp5 := (HFR.out.block plb (lt_of_block H3.out) (H1.out.nb H3.out (by decide) (by decide))).trans H3.out
        have H6 := H5.out
        rw [← HZ2.out] at H6
        exact ⟨H1.out.kf HFR.out, fun _ => HIT.out _ _ H5.out hb5 hp5, H6, hb5, hp5⟩
      case done =>
        rintro D xs W hD hxs ⟨h1, h2, h3⟩ hK
        rw [foldA_all hxs] at h1
        gi_wp2
        refine endM_mark rfl hK rfl ?_
        have h4 := h1.own (N := w.heap.size) (grownBy_putObj' W D (.deferred none)) (fun r e => by cases e; exact ⟨Nat.le_trans hN hD, _, hK, rfl⟩) (Nat.le_refl _) (Nat.le_trans hb0 (Nat.le_refl _))
        rw [HC.out]
        exact ⟨rfl, h4.cu, h4.tm, h4.fr⟩
end Go.Proofs.YtjekapjbigfkbaaGreatDoor
