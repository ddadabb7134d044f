/- Parts of a proof: EdO EdLi. -/
import Derived.Test.YtjekapjbigfkbaaGreatDoorS34
import Derived.Test.YtjekapjbigfkbaaGreatDoorS31
namespace Go.Proofs.YtjekapjbigfkbaaGreatDoor
open Go Go.RowKit Go.Deep
set_option maxRecDepth 100000
set_option linter.unusedSimpArgs false
structure SmD (D : MD) : Prop where
  fin : ∀ i, smS (D.fin i)
  aw : ∀ i k, smS (D.aw i k)
theorem SmD.state {D : MD} (h : SmD D) {f : ByteArray} (hf : smS f) : SmD (D.state f) := ⟨fun i => by show smS (if i = D.n then f else D.fin i); split; exact hf; exact h.fin i, h.aw⟩
theorem SmD.arc {D : MD} (h : SmD D) {q : Nat} {a b t : Int} {x : ByteArray} (hx : smS x) : SmD (D.arc q a b x t) := ⟨h.fin, fun i k => by show smS (if i = q ∧ k = D.na q then x else D.aw i k); split; exact hx; exact h.aw i k⟩
theorem one_sm : smS (oneF 1) := by unfold smS; decide +kernel
theorem nil_sm : smS (⟨#[]⟩ : ByteArray) := by unfold smS; decide
theorem edC_sm {d : ED} {m t : Nat} {s : MD × Nat × ByteArray} (h : SmD s.1) (hw : smS s.2.2) : ∀ i, SmD (edC d m t i s).1 ∧ smS (edC d m t i s).2.2
  | 0 => ⟨h, hw⟩
  | i + 1 => by
    obtain ⟨h1, h2⟩ := edC_sm (d := d) (m := m) (t := t) h hw i
    unfold edC; split
    · exact ⟨(h1.state nil_sm).arc h2, one_sm⟩
    · exact ⟨h1.arc h2, one_sm⟩
theorem stC_sm : ∀ k, SmD (stC (oneF 1) k)
  | 0 => ⟨fun _ => nil_sm, fun _ _ => nil_sm⟩
  | k + 1 => (stC_sm k).state one_sm
theorem arC_sm {k : Nat} {D : MD} (h : SmD D) : ∀ s, SmD (arC (oneF 1) k s D)
  | 0 => h
  | s + 1 => (arC_sm h s).arc one_sm
theorem edsC_sm {M : EM} (hs : ESz M) {k : Nat} {D : MD} (h : SmD D) : ∀ e, SmD (edsC M k e D)
  | 0 => h
  | e + 1 => by
    have ih := edsC_sm hs (k := k) h e
    unfold edsC; split
    · exact (edC_sm (s := (edsC M k e D, k, (M.e e).w)) ih (by have := hs.w e; show (M.e e).w.size ≤ _; omega) _).1
    · exact ih
theorem allC_sm {M : EM} (hs : ESz M) {sg : Nat} {D : MD} (h : SmD D) : ∀ k, SmD (allC M (oneF 1) sg k D)
  | 0 => h
  | k + 1 => edsC_sm hs (arC_sm (allC_sm hs h k) sg) M.n
theorem cmpC_sm {M : EM} (hs : ESz M) (sg : Nat) : SmD (cmpC M sg) := allC_sm hs (stC_sm _) _
theorem cmpC_msz {M : EM} (hv : VE M) (hs : ESz M) {sg : Nat} (hg : sg ≤ 500) : MSz (cmpC M sg) := by
  have h0 : (cmpC M sg).kind = 1 ∧ (cmpC M sg).start = 0 ∧ (cmpC M sg).lead = oneF 1 := allC_hd (stC_hd _ _) _
  have h1 := allC_grw (one := oneF 1) hv hg ((stC_grw (oneF 1) (M.most.toNat + 1)).mono (N' := 7) (A' := 0) (by have := hv.m6; omega) (Nat.le_refl _)) (M.most.toNat + 1)
  have h2 := cmpC_sm hs sg
  have h6 := hv.m6
  refine ⟨by rw [h0.2.2]; exact one_sm, h2.fin, h2.aw, fun i => ?_, ?_, by rw [h0.1]; omega⟩
  · have := h1.na i; show (allC M _ sg _ _).na i ≤ _; omega
  · have := h1.n; show (allC M _ sg _ _).n ≤ _; omega
theorem modelM_sz : ESz modelM := by
  refine ⟨by decide, fun i => ?_, fun i => ?_, fun i => ?_, by decide, by decide⟩
  all_goals (show _ ≤ (_ : Int); unfold modelM; simp only []; split <;> (try split) <;> decide)
theorem EdS.congr {z : Option Nat} {w : World} {v : Value} {M N : EM} (h : EdS z w v M) (hn : N.n = M.n) (he : ∀ i, i < M.n → (N.e i).w = (M.e i).w ∧ ((N.e i).nf = (M.e i).nf ∧ ∀ k, k < (M.e i).nf → (M.e i).f k = (N.e i).f k) ∧ (N.e i).nt = (M.e i).nt ∧ ∀ k, k < (M.e i).nt → (M.e i).t k = (N.e i).t k) : EdS z w v N := by
  rcases h with ⟨h0, h⟩ | ⟨b, off, cap, F, T, hv, h1, h2, h3, h4⟩
  · exact .inl ⟨by rw [hn]; exact h0, h⟩
  · refine .inr ⟨b, off, cap, F, T, by rw [hn]; exact hv, h1, by rw [hn]; exact h2, h3, fun i hi => ?_⟩
    rw [hn] at hi
    obtain ⟨c1, c2, c3, c4, c5⟩ := h4 i hi
    obtain ⟨e1, ⟨e2, e3⟩, e4, e5⟩ := he i hi
    exact ⟨c1, c2, by rw [e1]; exact c3, by rw [e2]; exact Rd.congr c4 fun k hk => by rw [e3 k hk], by rw [e4]; exact Rd.congr c5 fun k hk => by rw [e5 k hk]⟩
def half : ByteArray := ⟨#[49, 47, 50]⟩
def wantM : EM := ⟨4, fun i => if i = 0 then ⟨0, fun _ => 0, 1, fun _ => 1, ⟨#[49]⟩⟩ else if i = 1 then ⟨0, fun _ => 0, 1, fun _ => 2, ⟨#[49]⟩⟩ else if i = 2 then ⟨1, fun _ => 1, 1, fun _ => 2, half⟩ else ⟨1, fun _ => 2, 1, fun _ => 1, half⟩, 1⟩
def simM : EM := simE 2 x12 ⟨#[49]⟩ ⟨#[]⟩ half ⟨#[]⟩ 1
theorem simM_n : simM.n = 4 := by decide +kernel
theorem simM_most : simM.most = 1 := by decide +kernel
theorem simM_ok : okS 2 x12 ⟨#[49]⟩ ⟨#[]⟩ half ⟨#[]⟩ 1 = true := by decide +kernel
theorem simM_R : simR 2 x12 ⟨#[49]⟩ ⟨#[]⟩ half ⟨#[]⟩ 1 = (simM, 0) := by
  unfold simR
  rw [if_neg (by rw [simM_ok]; simp), if_neg (by rw [show (simE 2 x12 ⟨#[49]⟩ ⟨#[]⟩ half ⟨#[]⟩ 1).n = 4 from simM_n]; omega)]; rfl
theorem simM_eq : ∀ i, i < 4 → (simM.e i).w = (wantM.e i).w ∧ ((simM.e i).nf = (wantM.e i).nf ∧ ∀ k, k < (wantM.e i).nf → (wantM.e i).f k = (simM.e i).f k) ∧ (simM.e i).nt = (wantM.e i).nt ∧ ∀ k, k < (wantM.e i).nt → (wantM.e i).t k = (simM.e i).t k := by decide +kernel
def DSz (d : ED) : Prop := d.nf ≤ 140737488355328 ∧ d.nt ≤ 140737488355328 ∧ smS d.w
theorem apE_sz {M : EM} {d : ED} (h : ∀ i, DSz (M.e i)) (hd : DSz d) (i : Nat) : DSz ((apE M d).e i) := by
  show DSz (if i = M.n then d else M.e i); split
  · exact hd
  · exact h i
theorem oneE_sz {mk : Int → ED} {ws : ByteArray} {x : Nat → Int} {M : EM} (h : ∀ i, DSz (M.e i)) (hm : ∀ s, (mk s).nf ≤ 2 ∧ (mk s).nt ≤ 2) (hw : smS ws) : ∀ n i, DSz ((oneE mk ws x n M).e i)
  | 0, i => h i
  | n + 1, i => by
    unfold oneE; split
    · exact oneE_sz h hm hw n i
    · exact apE_sz (oneE_sz h hm hw n) ⟨by have := (hm (x n)).1; show (mk (x n)).nf ≤ _; omega, by have := (hm (x n)).2; show (mk (x n)).nt ≤ _; omega, hw⟩ i
theorem rowE_sz {mk : Int → Int → ED} {ws : ByteArray} {x : Nat → Int} {k : Nat} {M : EM} (h : ∀ i, DSz (M.e i)) (hm : ∀ s t, (mk s t).nf ≤ 2 ∧ (mk s t).nt ≤ 2) (hw : smS ws) : ∀ n i, DSz ((rowE mk ws x k n M).e i)
  | 0, i => h i
  | n + 1, i => by
    unfold rowE; split
    · exact apE_sz (rowE_sz h hm hw n) ⟨by have := (hm (x k) (x n)).1; show (mk (x k) (x n)).nf ≤ _; omega, by have := (hm (x k) (x n)).2; show (mk (x k) (x n)).nt ≤ _; omega, hw⟩ i
    · exact rowE_sz h hm hw n i
theorem twoE_sz {mk : Int → Int → ED} {ws : ByteArray} {x : Nat → Int} {m : Nat} {M : EM} (h : ∀ i, DSz (M.e i)) (hm : ∀ s t, (mk s t).nf ≤ 2 ∧ (mk s t).nt ≤ 2) (hw : smS ws) : ∀ n i, DSz ((twoE mk ws x m n M).e i)
  | 0, i => h i
  | n + 1, i => rowE_sz (twoE_sz h hm hw n) hm hw m i
theorem simE_sz {n : Nat} {x : Nat → Int} {a b c d : ByteArray} {most : Int} (h1 : smS a) (h2 : smS b) (h3 : smS c) (h4 : smS d) (hn : n ≤ 100) (hm : -9223372036854775808 ≤ most ∧ most ≤ 9223372036854775807) : ESz (simE n x a b c d most) := by
  have h0 : ∀ i, DSz ((⟨0, fun _ => insD 0, most⟩ : EM).e i) := fun _ => ⟨by show 0 ≤ _; omega, by show 1 ≤ _; omega, nil_sm⟩
  have hs := twoE_sz (mk := swpD) (ws := d) (x := x) (m := n) (twoE_sz (mk := repD) (ws := c) (x := x) (m := n) (oneE_sz (mk := remD) (ws := b) (x := x) (oneE_sz (mk := insD) (ws := a) (x := x) h0 (fun _ => ⟨by show 0 ≤ 2; omega, by show 1 ≤ 2; omega⟩) h1 n) (fun _ => ⟨by show 1 ≤ 2; omega, by show 0 ≤ 2; omega⟩) h2 n) (fun _ _ => ⟨by show 1 ≤ 2; omega, by show 1 ≤ 2; omega⟩) h3 n) (fun _ _ => ⟨by show 2 ≤ 2; omega, by show 2 ≤ 2; omega⟩) h4 n
  have hnn : n * n ≤ 10000 := Nat.mul_le_mul hn hn
  have b1 := oneE_most insD a x ⟨0, fun _ => insD 0, most⟩ n
  have b2 := oneE_most remD b x (oneE insD a x n ⟨0, fun _ => insD 0, most⟩) n
  have b3 := twoE_most repD c x n (oneE remD b x n (oneE insD a x n ⟨0, fun _ => insD 0, most⟩)) n
  have b4 := twoE_most swpD d x n (twoE repD c x n n (oneE remD b x n (oneE insD a x n ⟨0, fun _ => insD 0, most⟩))) n
  have b0 : (⟨0, fun _ => insD 0, most⟩ : EM).n = 0 := rfl
  have hmo : (simE n x a b c d most).most = most := by unfold simE; rw [b4.1, b3.1, b2.1, b1.1]
  refine ⟨?_, fun i => ?_, fun i => ?_, fun i => ?_, by rw [hmo]; exact hm.1, by rw [hmo]; exact hm.2⟩
  · have h5 := b1.2; have h6 := b2.2; have h7 := b3.2; have h8 := b4.2
    unfold simE
    omega
  · have := (hs i).1; unfold simE; omega
  · have := (hs i).2.1; unfold simE; omega
  · have := (hs i).2.2; unfold smS at this; unfold simE; omega
theorem simM_sz : ESz simM := simE_sz (by unfold smS; decide) nil_sm (by unfold smS; decide) nil_sm (by omega) (by omega)
theorem l1 : lcostC ⟨modelM, 2, fun _ => 1, 2, fun _ => 2⟩ = ⟨#[50]⟩ := by unfold lcostC; rw [ex_cost1]; rfl
theorem l2 : lcostC ⟨modelM, 3, fun _ => 1, 3, fun _ => 2⟩ = ⟨#[105, 110, 102]⟩ := by unfold lcostC; rw [ex_cost2]; rfl
theorem l3 : lcostC ⟨modelM, 2, x12, 2, x12⟩ = ⟨#[48]⟩ := by unfold lcostC; rw [ex_cost3]; rfl
def seven : EM := ⟨0, fun _ => insD 0, 7⟩
theorem seven_no : ¬ VE seven := fun h => by have := h.m6; exact absurd this (by decide)
theorem seven_sz : ESz seven := ⟨by decide, fun _ => by show ((0 : Nat) : Int) ≤ _; omega, fun _ => by show ((1 : Nat) : Int) ≤ _; omega, fun _ => by show (((⟨#[]⟩ : ByteArray).size : Nat) : Int) ≤ _; decide, by decide, by decide⟩
def TrueB (w : World) (r : Ending) (w' : World) : Prop := r = .returned (.bool true) ∧ Below w.heap.size w w'
set_option maxHeartbeats 16000000 in
theorem example37_any (w : World) (ht : Tab w) : Calls Tryz.prog 12 #[] w (TrueB w) := by
  have HTB := Lib.hid ht; clear ht
  go_enter Tryz.func12, Tryz.ntmps12
  go_wp2_with fail
  refine (model_any w).mono ?_
  rintro rr w1 ⟨hb1, sv1, rfl, hs1⟩
  have HB1 := Lib.hid hb1; clear hb1
  have HC := Lib.hid (compile_any (sg := 3) w1 (⟨_, rfl, hs1⟩ : Em none w1 (.agg #[sv1, .int .i64 modelM.most]) modelM) modelM_sz (HTB.out.below HB1.out (Nat.le_refl _)))
  clear hs1
  go_wp2_with fail
  refine HC.out.mono ?_
  rintro rr w2 ⟨hb2, hr⟩
  obtain ⟨sv2, R2, hrr, hom2⟩ : ∃ sv R, rr = .returned (.tuple #[.agg #[.int .i64 1, .int .i64 0, .string (oneF 1), sv], .int .i64 0]) ∧ OwM w2 w1.heap.size sv (cmpC modelM 3) R := by
    rcases hr with ⟨hno, _⟩ | ⟨_, _, _, _, ⟨hno, _⟩ | ⟨_, h⟩⟩
    · exact absurd ⟨modelM_valid, by omega, by omega, ex_in⟩ hno
    · exact absurd ex_size hno
    · exact h
  subst hrr
  have HB2 := Lib.hid (HB1.out.trans (hb2.mono HB1.out.size)); clear hb2 hr HC HB1
  have hd0 : (cmpC modelM 3).kind = 1 ∧ (cmpC modelM 3).start = 0 ∧ (cmpC modelM 3).lead = oneF 1 := allC_hd (stC_hd _ _) _
  obtain ⟨D, hD⟩ : ∃ D, D = cmpC modelM 3 := ⟨_, rfl⟩
  obtain ⟨one, hone⟩ : ∃ one, one = oneF 1 := ⟨_, rfl⟩
  rw [← hone] at hd0
  rw [← hD] at hom2 hd0
  rw [← hone]
  obtain ⟨sa2, sc2, hsv2, _, _⟩ := row_any hom2.top
  subst hsv2
  have hma : ∀ W, Below w2.heap.size w2 W → Ma none W (.agg #[.int .i64 1, .int .i64 0, .string one, .slice sa2 D.n sc2]) D := fun W h => ⟨.slice sa2 D.n sc2, by rw [hd0.1, hd0.2.1, hd0.2.2], hom2.sts.kept (gb_below h none)⟩
  have hwt := fun (W : World) (xv yv : Value) (h : Below w2.heap.size w2 W) (hx : Si none W xv 2 x12) (hy : Si none W yv 1 (fun _ => 3)) => weight_any W (hma W h) (by rw [hD]; exact cmpC_msz modelM_valid modelM_sz (by omega)) (HTB.out.below (HB2.out.trans (h.mono HB2.out.size)) (Nat.le_refl _)) hx hy (by decide) (by decide) (by rw [hD]; exact ex_nosil)
  have HWT := Lib.hid hwt; clear hwt
  have HWV := Lib.hid (show VM D ∧ isWord 2 x12 = true ∧ isWord 1 (fun _ => 3) = true ∧ wgtC D 2 x12 1 (fun _ => 3) = (⟨#[49]⟩, 0) from ⟨by rw [hD]; exact ex_valid, by decide +kernel, by decide +kernel, by rw [hD]; exact ex_weight⟩)
  clear hom2 hma hd0 hD hone
  obtain ⟨W3, hW3⟩ : ∃ W, W = (((w2.alloc (Obj.cells #[.int .i64 1, .int .i64 0, .string one, .slice sa2 D.n sc2] 36)).alloc (Obj.cells #[.int .i64 1, .int .i64 2] 3)).alloc (Obj.cells #[.int .i64 3] 3)) := ⟨_, rfl⟩
  have bW3_0 : W3.heap[w2.heap.size + 0]? = some (Obj.cells #[.int .i64 1, .int .i64 0, .string one, .slice sa2 D.n sc2] 36) := by rw [hW3]; exact allocs_get [Obj.cells #[.int .i64 1, .int .i64 0, .string one, .slice sa2 D.n sc2] 36, Obj.cells #[.int .i64 1, .int .i64 2] 3, Obj.cells #[.int .i64 3] 3] w2 (i := 0) rfl
  have bW3_1 : W3.heap[w2.heap.size + 1]? = some (Obj.cells #[.int .i64 1, .int .i64 2] 3) := by rw [hW3]; exact allocs_get [Obj.cells #[.int .i64 1, .int .i64 0, .string one, .slice sa2 D.n sc2] 36, Obj.cells #[.int .i64 1, .int .i64 2] 3, Obj.cells #[.int .i64 3] 3] w2 (i := 1) rfl
  have bW3_2 : W3.heap[w2.heap.size + 2]? = some (Obj.cells #[.int .i64 3] 3) := by rw [hW3]; exact allocs_get [Obj.cells #[.int .i64 1, .int .i64 0, .string one, .slice sa2 D.n sc2] 36, Obj.cells #[.int .i64 1, .int .i64 2] 3, Obj.cells #[.int .i64 3] 3] w2 (i := 2) rfl
  have hbW3 : Below w2.heap.size w2 W3 := by rw [hW3]; exact allocs_below [Obj.cells #[.int .i64 1, .int .i64 0, .string one, .slice sa2 D.n sc2] 36, Obj.cells #[.int .i64 1, .int .i64 2] 3, Obj.cells #[.int .i64 3] 3] w2 w2 w2.heap.size (Below.refl _ _) (Nat.le_refl _)
  have HC3 := Lib.hid (HWT.out W3 (.slice (some ⟨w2.heap.size + 1, 0, none⟩) 2 2) (.slice (some ⟨w2.heap.size + 1 + 1, 0, none⟩) 1 1) hbW3 (si_blk bW3_1 two_ml (lt2 rfl rfl)) (si_blk bW3_2 one_ml (lt1 rfl)))
  have HB3 := Lib.hid (HB2.out.trans (hbW3.mono HB2.out.size))
  clear bW3_0 bW3_1 bW3_2 hbW3 HWT
  go_wp2_with fail
  rw [← hW3]
  clear hW3
  refine HC3.out.mono ?_
  rintro rr w4 ⟨hb4, hr⟩
  obtain rfl : rr = .returned (.tuple #[.string ⟨#[49]⟩, .int .i64 0]) := by
    rcases hr with ⟨_, _, _, h⟩ | ⟨hno, _⟩
    · rw [HWV.out.2.2.2] at h; exact h
    · exact absurd ⟨HWV.out.1, HWV.out.2.1, HWV.out.2.2.1⟩ hno
  have HB4 := Lib.hid (HB3.out.trans (hb4.mono HB3.out.size)); clear hb4 hr HC3 HB3 HB2
  obtain ⟨W5, hW5⟩ : ∃ W, W = (w4.alloc (Obj.cells #[.int .i64 1, .int .i64 2] 3)) := ⟨_, rfl⟩
  have bW5_0 : W5.heap[w4.heap.size + 0]? = some (Obj.cells #[.int .i64 1, .int .i64 2] 3) := by rw [hW5]; exact allocs_get [Obj.cells #[.int .i64 1, .int .i64 2] 3] w4 (i := 0) rfl
  have hbW5 : Below w4.heap.size w4 W5 := by rw [hW5]; exact allocs_below [Obj.cells #[.int .i64 1, .int .i64 2] 3] w4 w4 w4.heap.size (Below.refl _ _) (Nat.le_refl _)
  have hsm := esimple_any ⟨#[49]⟩ ⟨#[]⟩ half ⟨#[]⟩ 1 W5 (si_blk (x := x12) bW5_0 two_ml (lt2 rfl rfl)) (by omega) (HTB.out.below (HB4.out.trans (hbW5.mono HB4.out.size)) (Nat.le_refl _)) (by unfold smS; decide) nil_sm (by unfold smS; decide) nil_sm
  rw [simM_R] at hsm
  unfold half at hsm
  have HSM := Lib.hid hsm; clear hsm
  have HB5 := Lib.hid (HB4.out.trans (hbW5.mono HB4.out.size))
  clear bW5_0 hbW5
  go_wp2_with fail
  rw [← hW5]
  clear hW5
  refine HSM.out.mono ?_
  rintro rr w6 ⟨hb6, sv6, rfl, hs6⟩
  have HB6 := Lib.hid (HB5.out.trans (hb6.mono HB5.out.size)); clear hb6 HSM HB5 HB4
  obtain ⟨a6, c6, _, _, _, _, _, _, hv6, _⟩ := hs6.open
  rw [simM_n] at hv6
  subst hv6
  rw [simM_most]
  have HS6 := Lib.hid hs6; clear hs6
  obtain ⟨W7, hW7⟩ : ∃ W, W = (((((((((w6.alloc (Obj.cells #[.slice a6 4 c6, .int .i64 1] 24)).alloc (Obj.cells #[.int .i64 1] 3)).alloc (Obj.cells #[.int .i64 2] 3)).alloc (Obj.cells #[.int .i64 1] 3)).alloc (Obj.cells #[.int .i64 2] 3)).alloc (Obj.cells #[.int .i64 2] 3)).alloc (Obj.cells #[.int .i64 1] 3)).alloc (Obj.cells #[.slice none 0 0, .slice (some ⟨w6.heap.size + 1, 0, none⟩) 1 1, .string ⟨#[49]⟩, .slice none 0 0, .slice (some ⟨w6.heap.size + 1 + 1, 0, none⟩) 1 1, .string ⟨#[49]⟩, .slice (some ⟨w6.heap.size + 1 + 1 + 1, 0, none⟩) 1 1, .slice (some ⟨w6.heap.size + 1 + 1 + 1 + 1, 0, none⟩) 1 1, .string ⟨#[49, 47, 50]⟩, .slice (some ⟨w6.heap.size + 1 + 1 + 1 + 1 + 1, 0, none⟩) 1 1, .slice (some ⟨w6.heap.size + 1 + 1 + 1 + 1 + 1 + 1, 0, none⟩) 1 1, .string ⟨#[49, 47, 50]⟩] 50)).alloc (Obj.cells #[.slice (some ⟨w6.heap.size + 1 + 1 + 1 + 1 + 1 + 1 + 1, 0, none⟩) 4 4, .int .i64 1] 24)) := ⟨_, rfl⟩
  have bW7_0 : W7.heap[w6.heap.size + 0]? = some (Obj.cells #[.slice a6 4 c6, .int .i64 1] 24) := by rw [hW7]; exact allocs_get [Obj.cells #[.slice a6 4 c6, .int .i64 1] 24, Obj.cells #[.int .i64 1] 3, Obj.cells #[.int .i64 2] 3, Obj.cells #[.int .i64 1] 3, Obj.cells #[.int .i64 2] 3, Obj.cells #[.int .i64 2] 3, Obj.cells #[.int .i64 1] 3, Obj.cells #[.slice none 0 0, .slice (some ⟨w6.heap.size + 1, 0, none⟩) 1 1, .string ⟨#[49]⟩, .slice none 0 0, .slice (some ⟨w6.heap.size + 1 + 1, 0, none⟩) 1 1, .string ⟨#[49]⟩, .slice (some ⟨w6.heap.size + 1 + 1 + 1, 0, none⟩) 1 1, .slice (some ⟨w6.heap.size + 1 + 1 + 1 + 1, 0, none⟩) 1 1, .string ⟨#[49, 47, 50]⟩, .slice (some ⟨w6.heap.size + 1 + 1 + 1 + 1 + 1, 0, none⟩) 1 1, .slice (some ⟨w6.heap.size + 1 + 1 + 1 + 1 + 1 + 1, 0, none⟩) 1 1, .string ⟨#[49, 47, 50]⟩] 50, Obj.cells #[.slice (some ⟨w6.heap.size + 1 + 1 + 1 + 1 + 1 + 1 + 1, 0, none⟩) 4 4, .int .i64 1] 24] w6 (i := 0) rfl
  have bW7_1 : W7.heap[w6.heap.size + 1]? = some (Obj.cells #[.int .i64 1] 3) := by rw [hW7]; exact allocs_get [Obj.cells #[.slice a6 4 c6, .int .i64 1] 24, Obj.cells #[.int .i64 1] 3, Obj.cells #[.int .i64 2] 3, Obj.cells #[.int .i64 1] 3, Obj.cells #[.int .i64 2] 3, Obj.cells #[.int .i64 2] 3, Obj.cells #[.int .i64 1] 3, Obj.cells #[.slice none 0 0, .slice (some ⟨w6.heap.size + 1, 0, none⟩) 1 1, .string ⟨#[49]⟩, .slice none 0 0, .slice (some ⟨w6.heap.size + 1 + 1, 0, none⟩) 1 1, .string ⟨#[49]⟩, .slice (some ⟨w6.heap.size + 1 + 1 + 1, 0, none⟩) 1 1, .slice (some ⟨w6.heap.size + 1 + 1 + 1 + 1, 0, none⟩) 1 1, .string ⟨#[49, 47, 50]⟩, .slice (some ⟨w6.heap.size + 1 + 1 + 1 + 1 + 1, 0, none⟩) 1 1, .slice (some ⟨w6.heap.size + 1 + 1 + 1 + 1 + 1 + 1, 0, none⟩) 1 1, .string ⟨#[49, 47, 50]⟩] 50, Obj.cells #[.slice (some ⟨w6.heap.size + 1 + 1 + 1 + 1 + 1 + 1 + 1, 0, none⟩) 4 4, .int .i64 1] 24] w6 (i := 1) rfl
  have bW7_2 : W7.heap[w6.heap.size + 2]? = some (Obj.cells #[.int .i64 2] 3) := by rw [hW7]; exact allocs_get [Obj.cells #[.slice a6 4 c6, .int .i64 1] 24, Obj.cells #[.int .i64 1] 3, Obj.cells #[.int .i64 2] 3, Obj.cells #[.int .i64 1] 3, Obj.cells #[.int .i64 2] 3, Obj.cells #[.int .i64 2] 3, Obj.cells #[.int .i64 1] 3, Obj.cells #[.slice none 0 0, .slice (some ⟨w6.heap.size + 1, 0, none⟩) 1 1, .string ⟨#[49]⟩, .slice none 0 0, .slice (some ⟨w6.heap.size + 1 + 1, 0, none⟩) 1 1, .string ⟨#[49]⟩, .slice (some ⟨w6.heap.size + 1 + 1 + 1, 0, none⟩) 1 1, .slice (some ⟨w6.heap.size + 1 + 1 + 1 + 1, 0, none⟩) 1 1, .string ⟨#[49, 47, 50]⟩, .slice (some ⟨w6.heap.size + 1 + 1 + 1 + 1 + 1, 0, none⟩) 1 1, .slice (some ⟨w6.heap.size + 1 + 1 + 1 + 1 + 1 + 1, 0, none⟩) 1 1, .string ⟨#[49, 47, 50]⟩] 50, Obj.cells #[.slice (some ⟨w6.heap.size + 1 + 1 + 1 + 1 + 1 + 1 + 1, 0, none⟩) 4 4, .int .i64 1] 24] w6 (i := 2) rfl
  have bW7_3 : W7.heap[w6.heap.size + 3]? = some (Obj.cells #[.int .i64 1] 3) := by rw [hW7]; exact allocs_get [Obj.cells #[.slice a6 4 c6, .int .i64 1] 24, Obj.cells #[.int .i64 1] 3, Obj.cells #[.int .i64 2] 3, Obj.cells #[.int .i64 1] 3, Obj.cells #[.int .i64 2] 3, Obj.cells #[.int .i64 2] 3, Obj.cells #[.int .i64 1] 3, Obj.cells #[.slice none 0 0, .slice (some ⟨w6.heap.size + 1, 0, none⟩) 1 1, .string ⟨#[49]⟩, .slice none 0 0, .slice (some ⟨w6.heap.size + 1 + 1, 0, none⟩) 1 1, .string ⟨#[49]⟩, .slice (some ⟨w6.heap.size + 1 + 1 + 1, 0, none⟩) 1 1, .slice (some ⟨w6.heap.size + 1 + 1 + 1 + 1, 0, none⟩) 1 1, .string ⟨#[49, 47, 50]⟩, .slice (some ⟨w6.heap.size + 1 + 1 + 1 + 1 + 1, 0, none⟩) 1 1, .slice (some ⟨w6.heap.size + 1 + 1 + 1 + 1 + 1 + 1, 0, none⟩) 1 1, .string ⟨#[49, 47, 50]⟩] 50, Obj.cells #[.slice (some ⟨w6.heap.size + 1 + 1 + 1 + 1 + 1 + 1 + 1, 0, none⟩) 4 4, .int .i64 1] 24] w6 (i := 3) rfl
  have bW7_4 : W7.heap[w6.heap.size + 4]? = some (Obj.cells #[.int .i64 2] 3) := by rw [hW7]; exact allocs_get [Obj.cells #[.slice a6 4 c6, .int .i64 1] 24, Obj.cells #[.int .i64 1] 3, Obj.cells #[.int .i64 2] 3, Obj.cells #[.int .i64 1] 3, Obj.cells #[.int .i64 2] 3, Obj.cells #[.int .i64 2] 3, Obj.cells #[.int .i64 1] 3, Obj.cells #[.slice none 0 0, .slice (some ⟨w6.heap.size + 1, 0, none⟩) 1 1, .string ⟨#[49]⟩, .slice none 0 0, .slice (some ⟨w6.heap.size + 1 + 1, 0, none⟩) 1 1, .string ⟨#[49]⟩, .slice (some ⟨w6.heap.size + 1 + 1 + 1, 0, none⟩) 1 1, .slice (some ⟨w6.heap.size + 1 + 1 + 1 + 1, 0, none⟩) 1 1, .string ⟨#[49, 47, 50]⟩, .slice (some ⟨w6.heap.size + 1 + 1 + 1 + 1 + 1, 0, none⟩) 1 1, .slice (some ⟨w6.heap.size + 1 + 1 + 1 + 1 + 1 + 1, 0, none⟩) 1 1, .string ⟨#[49, 47, 50]⟩] 50, Obj.cells #[.slice (some ⟨w6.heap.size + 1 + 1 + 1 + 1 + 1 + 1 + 1, 0, none⟩) 4 4, .int .i64 1] 24] w6 (i := 4) rfl
  have bW7_5 : W7.heap[w6.heap.size + 5]? = some (Obj.cells #[.int .i64 2] 3) := by rw [hW7]; exact allocs_get [Obj.cells #[.slice a6 4 c6, .int .i64 1] 24, Obj.cells #[.int .i64 1] 3, Obj.cells #[.int .i64 2] 3, Obj.cells #[.int .i64 1] 3, Obj.cells #[.int .i64 2] 3, Obj.cells #[.int .i64 2] 3, Obj.cells #[.int .i64 1] 3, Obj.cells #[.slice none 0 0, .slice (some ⟨w6.heap.size + 1, 0, none⟩) 1 1, .string ⟨#[49]⟩, .slice none 0 0, .slice (some ⟨w6.heap.size + 1 + 1, 0, none⟩) 1 1, .string ⟨#[49]⟩, .slice (some ⟨w6.heap.size + 1 + 1 + 1, 0, none⟩) 1 1, .slice (some ⟨w6.heap.size + 1 + 1 + 1 + 1, 0, none⟩) 1 1, .string ⟨#[49, 47, 50]⟩, .slice (some ⟨w6.heap.size + 1 + 1 + 1 + 1 + 1, 0, none⟩) 1 1, .slice (some ⟨w6.heap.size + 1 + 1 + 1 + 1 + 1 + 1, 0, none⟩) 1 1, .string ⟨#[49, 47, 50]⟩] 50, Obj.cells #[.slice (some ⟨w6.heap.size + 1 + 1 + 1 + 1 + 1 + 1 + 1, 0, none⟩) 4 4, .int .i64 1] 24] w6 (i := 5) rfl
  have bW7_6 : W7.heap[w6.heap.size + 6]? = some (Obj.cells #[.int .i64 1] 3) := by rw [hW7]; exact allocs_get [Obj.cells #[.slice a6 4 c6, .int .i64 1] 24, Obj.cells #[.int .i64 1] 3, Obj.cells #[.int .i64 2] 3, Obj.cells #[.int .i64 1] 3, Obj.cells #[.int .i64 2] 3, Obj.cells #[.int .i64 2] 3, Obj.cells #[.int .i64 1] 3, Obj.cells #[.slice none 0 0, .slice (some ⟨w6.heap.size + 1, 0, none⟩) 1 1, .string ⟨#[49]⟩, .slice none 0 0, .slice (some ⟨w6.heap.size + 1 + 1, 0, none⟩) 1 1, .string ⟨#[49]⟩, .slice (some ⟨w6.heap.size + 1 + 1 + 1, 0, none⟩) 1 1, .slice (some ⟨w6.heap.size + 1 + 1 + 1 + 1, 0, none⟩) 1 1, .string ⟨#[49, 47, 50]⟩, .slice (some ⟨w6.heap.size + 1 + 1 + 1 + 1 + 1, 0, none⟩) 1 1, .slice (some ⟨w6.heap.size + 1 + 1 + 1 + 1 + 1 + 1, 0, none⟩) 1 1, .string ⟨#[49, 47, 50]⟩] 50, Obj.cells #[.slice (some ⟨w6.heap.size + 1 + 1 + 1 + 1 + 1 + 1 + 1, 0, none⟩) 4 4, .int .i64 1] 24] w6 (i := 6) rfl
  have bW7_7 : W7.heap[w6.heap.size + 7]? = some (Obj.cells #[.slice none 0 0, .slice (some ⟨w6.heap.size + 1, 0, none⟩) 1 1, .string ⟨#[49]⟩, .slice none 0 0, .slice (some ⟨w6.heap.size + 1 + 1, 0, none⟩) 1 1, .string ⟨#[49]⟩, .slice (some ⟨w6.heap.size + 1 + 1 + 1, 0, none⟩) 1 1, .slice (some ⟨w6.heap.size + 1 + 1 + 1 + 1, 0, none⟩) 1 1, .string ⟨#[49, 47, 50]⟩, .slice (some ⟨w6.heap.size + 1 + 1 + 1 + 1 + 1, 0, none⟩) 1 1, .slice (some ⟨w6.heap.size + 1 + 1 + 1 + 1 + 1 + 1, 0, none⟩) 1 1, .string ⟨#[49, 47, 50]⟩] 50) := by rw [hW7]; exact allocs_get [Obj.cells #[.slice a6 4 c6, .int .i64 1] 24, Obj.cells #[.int .i64 1] 3, Obj.cells #[.int .i64 2] 3, Obj.cells #[.int .i64 1] 3, Obj.cells #[.int .i64 2] 3, Obj.cells #[.int .i64 2] 3, Obj.cells #[.int .i64 1] 3, Obj.cells #[.slice none 0 0, .slice (some ⟨w6.heap.size + 1, 0, none⟩) 1 1, .string ⟨#[49]⟩, .slice none 0 0, .slice (some ⟨w6.heap.size + 1 + 1, 0, none⟩) 1 1, .string ⟨#[49]⟩, .slice (some ⟨w6.heap.size + 1 + 1 + 1, 0, none⟩) 1 1, .slice (some ⟨w6.heap.size + 1 + 1 + 1 + 1, 0, none⟩) 1 1, .string ⟨#[49, 47, 50]⟩, .slice (some ⟨w6.heap.size + 1 + 1 + 1 + 1 + 1, 0, none⟩) 1 1, .slice (some ⟨w6.heap.size + 1 + 1 + 1 + 1 + 1 + 1, 0, none⟩) 1 1, .string ⟨#[49, 47, 50]⟩] 50, Obj.cells #[.slice (some ⟨w6.heap.size + 1 + 1 + 1 + 1 + 1 + 1 + 1, 0, none⟩) 4 4, .int .i64 1] 24] w6 (i := 7) rfl
  have bW7_8 : W7.heap[w6.heap.size + 8]? = some (Obj.cells #[.slice (some ⟨w6.heap.size + 1 + 1 + 1 + 1 + 1 + 1 + 1, 0, none⟩) 4 4, .int .i64 1] 24) := by rw [hW7]; exact allocs_get [Obj.cells #[.slice a6 4 c6, .int .i64 1] 24, Obj.cells #[.int .i64 1] 3, Obj.cells #[.int .i64 2] 3, Obj.cells #[.int .i64 1] 3, Obj.cells #[.int .i64 2] 3, Obj.cells #[.int .i64 2] 3, Obj.cells #[.int .i64 1] 3, Obj.cells #[.slice none 0 0, .slice (some ⟨w6.heap.size + 1, 0, none⟩) 1 1, .string ⟨#[49]⟩, .slice none 0 0, .slice (some ⟨w6.heap.size + 1 + 1, 0, none⟩) 1 1, .string ⟨#[49]⟩, .slice (some ⟨w6.heap.size + 1 + 1 + 1, 0, none⟩) 1 1, .slice (some ⟨w6.heap.size + 1 + 1 + 1 + 1, 0, none⟩) 1 1, .string ⟨#[49, 47, 50]⟩, .slice (some ⟨w6.heap.size + 1 + 1 + 1 + 1 + 1, 0, none⟩) 1 1, .slice (some ⟨w6.heap.size + 1 + 1 + 1 + 1 + 1 + 1, 0, none⟩) 1 1, .string ⟨#[49, 47, 50]⟩] 50, Obj.cells #[.slice (some ⟨w6.heap.size + 1 + 1 + 1 + 1 + 1 + 1 + 1, 0, none⟩) 4 4, .int .i64 1] 24] w6 (i := 8) rfl
  have hbW7 : Below w6.heap.size w6 W7 := by rw [hW7]; exact allocs_below [Obj.cells #[.slice a6 4 c6, .int .i64 1] 24, Obj.cells #[.int .i64 1] 3, Obj.cells #[.int .i64 2] 3, Obj.cells #[.int .i64 1] 3, Obj.cells #[.int .i64 2] 3, Obj.cells #[.int .i64 2] 3, Obj.cells #[.int .i64 1] 3, Obj.cells #[.slice none 0 0, .slice (some ⟨w6.heap.size + 1, 0, none⟩) 1 1, .string ⟨#[49]⟩, .slice none 0 0, .slice (some ⟨w6.heap.size + 1 + 1, 0, none⟩) 1 1, .string ⟨#[49]⟩, .slice (some ⟨w6.heap.size + 1 + 1 + 1, 0, none⟩) 1 1, .slice (some ⟨w6.heap.size + 1 + 1 + 1 + 1, 0, none⟩) 1 1, .string ⟨#[49, 47, 50]⟩, .slice (some ⟨w6.heap.size + 1 + 1 + 1 + 1 + 1, 0, none⟩) 1 1, .slice (some ⟨w6.heap.size + 1 + 1 + 1 + 1 + 1 + 1, 0, none⟩) 1 1, .string ⟨#[49, 47, 50]⟩] 50, Obj.cells #[.slice (some ⟨w6.heap.size + 1 + 1 + 1 + 1 + 1 + 1 + 1, 0, none⟩) 4 4, .int .i64 1] 24] w6 w6 w6.heap.size (Below.refl _ _) (Nat.le_refl _)
  have hwant : EdS none W7 (.slice (some ⟨w6.heap.size + 7, 0, none⟩) 4 4) simM := by
    refine EdS.congr (M := wantM) (eds_blk (M := wantM) (F := fun i => if i = 0 then .slice none 0 0 else if i = 1 then .slice none 0 0 else if i = 2 then .slice (some ⟨w6.heap.size + 3, 0, none⟩) 1 1 else .slice (some ⟨w6.heap.size + 5, 0, none⟩) 1 1) (T := fun i => if i = 0 then .slice (some ⟨w6.heap.size + 1, 0, none⟩) 1 1 else if i = 1 then .slice (some ⟨w6.heap.size + 2, 0, none⟩) 1 1 else if i = 2 then .slice (some ⟨w6.heap.size + 4, 0, none⟩) 1 1 else .slice (some ⟨w6.heap.size + 6, 0, none⟩) 1 1) bW7_7 (by show 4 ≤ maxLen; unfold maxLen; omega) (lt4 ?_ ?_ ?_ ?_)) simM_n simM_eq
    · exact ⟨rfl, rfl, rfl, si_nil _ _, (si_blk bW7_1 one_ml (lt1 rfl))⟩
    · exact ⟨rfl, rfl, rfl, si_nil _ _, (si_blk bW7_2 one_ml (lt1 rfl))⟩
    · exact ⟨rfl, rfl, rfl, (si_blk bW7_3 one_ml (lt1 rfl)), (si_blk bW7_4 one_ml (lt1 rfl))⟩
    · exact ⟨rfl, rfl, rfl, (si_blk bW7_5 one_ml (lt1 rfl)), (si_blk bW7_6 one_ml (lt1 rfl))⟩
  have hsame := rsame_any W7 (HS6.out.kept (gb_below hbW7 none)) hwant simM_sz
  rw [simM_most] at hsame
  have HSAME := Lib.hid hsame; clear hsame hwant
  have HB7 := Lib.hid (HB6.out.trans (hbW7.mono HB6.out.size))
  clear bW7_0 bW7_1 bW7_2 bW7_3 bW7_4 bW7_5 bW7_6 bW7_7 bW7_8 hbW7 HS6 HB6
  go_wp2_with fail
  rw [← hW7]
  clear hW7
  refine HSAME.out.mono ?_
  rintro rr w8 ⟨rfl, hb8⟩
  have HB8 := Lib.hid (HB7.out.trans (hb8.mono HB7.out.size)); clear hb8 HSAME HB7
  go_wp2_with fail
  refine (model_any _).mono ?_
  rintro rr w9 ⟨hb9, sv9, rfl, hs9⟩
  have HB9 := Lib.hid (HB8.out.trans (hb9.mono HB8.out.size)); clear hb9 HB8
  have HV9 := Lib.hid (evalid_any w9 (⟨_, rfl, hs9⟩ : Em none w9 (.agg #[sv9, .int .i64 modelM.most]) modelM) modelM_sz (HTB.out.below HB9.out (Nat.le_refl _)))
  clear hs9
  go_wp2_with fail
  refine HV9.out.mono ?_
  rintro rr w10 ⟨hb10, hr⟩
  obtain rfl : rr = .returned (.bool true) := by
    rcases hr with ⟨_, h⟩ | ⟨hno, _⟩
    · exact h
    · exact absurd modelM_valid hno
  have HB10 := Lib.hid (HB9.out.trans (hb10.mono HB9.out.size)); clear hb10 hr HB9 HV9
  have HV11 := Lib.hid (evalid_any w10 (⟨.slice none 0 0, rfl, .inl ⟨rfl, none, 0, rfl, Nat.zero_le _⟩⟩ : Em none w10 (.agg #[.slice none 0 0, .int .i64 7]) seven) seven_sz (HTB.out.below HB10.out (Nat.le_refl _)))
  go_wp2_with fail
  refine HV11.out.mono ?_
  rintro rr w11 ⟨hb11, hr⟩
  obtain rfl : rr = .returned (.bool false) := by
    rcases hr with ⟨h, _⟩ | ⟨_, h⟩
    · exact absurd h seven_no
    · exact h
  have HB11 := Lib.hid (HB10.out.trans (hb11.mono HB10.out.size)); clear hb11 hr HB10 HV11
  go_wp2_with fail
  refine (model_any _).mono ?_
  rintro rr w12 ⟨hb12, sv12, rfl, hs12⟩
  have HB12 := Lib.hid (HB11.out.trans (hb12.mono HB11.out.size)); clear hb12 HB11
  obtain ⟨W13, hW13⟩ : ∃ W, W = ((w12.alloc (Obj.cells #[.int .i64 1, .int .i64 1] 3)).alloc (Obj.cells #[.int .i64 2, .int .i64 2] 3)) := ⟨_, rfl⟩
  have bW13_0 : W13.heap[w12.heap.size + 0]? = some (Obj.cells #[.int .i64 1, .int .i64 1] 3) := by rw [hW13]; exact allocs_get [Obj.cells #[.int .i64 1, .int .i64 1] 3, Obj.cells #[.int .i64 2, .int .i64 2] 3] w12 (i := 0) rfl
  have bW13_1 : W13.heap[w12.heap.size + 1]? = some (Obj.cells #[.int .i64 2, .int .i64 2] 3) := by rw [hW13]; exact allocs_get [Obj.cells #[.int .i64 1, .int .i64 1] 3, Obj.cells #[.int .i64 2, .int .i64 2] 3] w12 (i := 1) rfl
  have hbW13 : Below w12.heap.size w12 W13 := by rw [hW13]; exact allocs_below [Obj.cells #[.int .i64 1, .int .i64 1] 3, Obj.cells #[.int .i64 2, .int .i64 2] 3] w12 w12 w12.heap.size (Below.refl _ _) (Nat.le_refl _)
  have hc12 := lcost_any W13 (⟨_, rfl, hs12.kept (gb_below hbW13 none)⟩ : Em none W13 (.agg #[sv12, .int .i64 modelM.most]) modelM) modelM_sz (HTB.out.below (HB12.out.trans (hbW13.mono HB12.out.size)) (Nat.le_refl _)) (si_blk (x := fun _ => 1) bW13_0 two_ml (lt2 rfl rfl)) (si_blk (x := fun _ => 2) bW13_1 two_ml (lt2 rfl rfl)) modelM_valid (by decide +kernel) (by decide +kernel)
  rw [l1] at hc12
  have HC12 := Lib.hid hc12; clear hc12 hs12
  have HB13 := Lib.hid (HB12.out.trans (hbW13.mono HB12.out.size))
  clear bW13_0 bW13_1 hbW13 HB12
  go_wp2_with fail
  rw [← hW13]
  clear hW13
  refine HC12.out.mono ?_
  rintro rr w14 ⟨rfl, hb14⟩
  have HB14 := Lib.hid (HB13.out.trans (hb14.mono HB13.out.size)); clear hb14 HC12 HB13
  go_wp2_with fail
  refine (model_any _).mono ?_
  rintro rr w15 ⟨hb15, sv15, rfl, hs15⟩
  have HB15 := Lib.hid (HB14.out.trans (hb15.mono HB14.out.size)); clear hb15 HB14
  obtain ⟨W16, hW16⟩ : ∃ W, W = ((w15.alloc (Obj.cells #[.int .i64 1, .int .i64 1, .int .i64 1] 3)).alloc (Obj.cells #[.int .i64 2, .int .i64 2, .int .i64 2] 3)) := ⟨_, rfl⟩
  have bW16_0 : W16.heap[w15.heap.size + 0]? = some (Obj.cells #[.int .i64 1, .int .i64 1, .int .i64 1] 3) := by rw [hW16]; exact allocs_get [Obj.cells #[.int .i64 1, .int .i64 1, .int .i64 1] 3, Obj.cells #[.int .i64 2, .int .i64 2, .int .i64 2] 3] w15 (i := 0) rfl
  have bW16_1 : W16.heap[w15.heap.size + 1]? = some (Obj.cells #[.int .i64 2, .int .i64 2, .int .i64 2] 3) := by rw [hW16]; exact allocs_get [Obj.cells #[.int .i64 1, .int .i64 1, .int .i64 1] 3, Obj.cells #[.int .i64 2, .int .i64 2, .int .i64 2] 3] w15 (i := 1) rfl
  have hbW16 : Below w15.heap.size w15 W16 := by rw [hW16]; exact allocs_below [Obj.cells #[.int .i64 1, .int .i64 1, .int .i64 1] 3, Obj.cells #[.int .i64 2, .int .i64 2, .int .i64 2] 3] w15 w15 w15.heap.size (Below.refl _ _) (Nat.le_refl _)
  have hc15 := lcost_any W16 (⟨_, rfl, hs15.kept (gb_below hbW16 none)⟩ : Em none W16 (.agg #[sv15, .int .i64 modelM.most]) modelM) modelM_sz (HTB.out.below (HB15.out.trans (hbW16.mono HB15.out.size)) (Nat.le_refl _)) (si_blk (x := fun _ => 1) bW16_0 three_ml (lt3 rfl rfl rfl)) (si_blk (x := fun _ => 2) bW16_1 three_ml (lt3 rfl rfl rfl)) modelM_valid (by decide +kernel) (by decide +kernel)
  rw [l2] at hc15
  have HC15 := Lib.hid hc15; clear hc15 hs15
  have HB16 := Lib.hid (HB15.out.trans (hbW16.mono HB15.out.size))
  clear bW16_0 bW16_1 hbW16 HB15
  go_wp2_with fail
  rw [← hW16]
  clear hW16
  refine HC15.out.mono ?_
  rintro rr w17 ⟨rfl, hb17⟩
  have HB17 := Lib.hid (HB16.out.trans (hb17.mono HB16.out.size)); clear hb17 HC15 HB16
  go_wp2_with fail
  refine (model_any _).mono ?_
  rintro rr w18 ⟨hb18, sv18, rfl, hs18⟩
  have HB18 := Lib.hid (HB17.out.trans (hb18.mono HB17.out.size)); clear hb18 HB17
  obtain ⟨W19, hW19⟩ : ∃ W, W = ((w18.alloc (Obj.cells #[.int .i64 1, .int .i64 2] 3)).alloc (Obj.cells #[.int .i64 1, .int .i64 2] 3)) := ⟨_, rfl⟩
  have bW19_0 : W19.heap[w18.heap.size + 0]? = some (Obj.cells #[.int .i64 1, .int .i64 2] 3) := by rw [hW19]; exact allocs_get [Obj.cells #[.int .i64 1, .int .i64 2] 3, Obj.cells #[.int .i64 1, .int .i64 2] 3] w18 (i := 0) rfl
  have bW19_1 : W19.heap[w18.heap.size + 1]? = some (Obj.cells #[.int .i64 1, .int .i64 2] 3) := by rw [hW19]; exact allocs_get [Obj.cells #[.int .i64 1, .int .i64 2] 3, Obj.cells #[.int .i64 1, .int .i64 2] 3] w18 (i := 1) rfl
  have hbW19 : Below w18.heap.size w18 W19 := by rw [hW19]; exact allocs_below [Obj.cells #[.int .i64 1, .int .i64 2] 3, Obj.cells #[.int .i64 1, .int .i64 2] 3] w18 w18 w18.heap.size (Below.refl _ _) (Nat.le_refl _)
  have hc18 := lcost_any W19 (⟨_, rfl, hs18.kept (gb_below hbW19 none)⟩ : Em none W19 (.agg #[sv18, .int .i64 modelM.most]) modelM) modelM_sz (HTB.out.below (HB18.out.trans (hbW19.mono HB18.out.size)) (Nat.le_refl _)) (si_blk (x := x12) bW19_0 two_ml (lt2 rfl rfl)) (si_blk (x := x12) bW19_1 two_ml (lt2 rfl rfl)) modelM_valid (by decide +kernel) (by decide +kernel)
  rw [l3] at hc18
  have HC18 := Lib.hid hc18; clear hc18 hs18
  have HB19 := Lib.hid (HB18.out.trans (hbW19.mono HB18.out.size))
  clear bW19_0 bW19_1 hbW19 HB18
  go_wp2_with fail
  rw [← hW19]
  clear hW19
  refine HC18.out.mono ?_
  rintro rr w20 ⟨rfl, hb20⟩
  have HB20 := Lib.hid (HB19.out.trans (hb20.mono HB19.out.size)); clear hb20 HC18 HB19
  go_wp2_with fail
  go_ret
  exact ⟨rfl, HB20.out⟩
end Go.Proofs.YtjekapjbigfkbaaGreatDoor

namespace Go.Proofs.YtjekapjbigfkbaaGreatDoor
open Go Go.RowKit Go.Deep
set_option maxRecDepth 100000
set_option linter.unusedSimpArgs false
def dgc (s : ByteArray) (i : Nat) : Nat := ((bts s).take i).countP dgt
theorem dig_count (n : Nat) : (dec n).countP dgt = (dec n).length := List.countP_eq_length.2 fun a ha => List.all_eq_true.1 (dgts_dec n) a ha
theorem dig_sz {q : Rat} (h : (txtL q).countP dgt ≤ 4) : szQ 5 q := by
  unfold txtL at h
  have h0 : (if negQ q then [45] else [] : List UInt8).countP dgt = 0 := by cases negQ q <;> decide
  rw [List.countP_append, List.countP_append, h0, dig_count] at h
  refine ⟨(dec_len_lt.1 (show (dec q.num.natAbs).length ≤ 5 by omega)).1, ?_⟩
  by_cases hd : q.den = 1
  · rw [hd]; decide
  · rw [if_neg hd, List.countP_cons, dig_count] at h
    exact (dec_len_lt.1 (show (dec q.den).length ≤ 5 by omega)).1
theorem dgc_sz {s : ByteArray} {q : Rat} (h : prs s = some q) (hd : dgc s s.size ≤ 4) : szQ 5 q := by
  obtain ⟨rfl, _⟩ := txt_prs h
  refine dig_sz ?_
  have h1 : bts (txt q) = txtL q := bts_str _
  unfold dgc at hd
  rw [List.take_of_length_le (by rw [bts_len]; exact Nat.le_refl _), h1] at hd
  exact hd
def TestP (p : Prop) (w : World) (r : Ending) (w' : World) : Prop := ∃ b : Bool, r = .returned (.bool b) ∧ (b = true ↔ p) ∧ Below w.heap.size w w'
def LitE (M : EM) : Prop := ∀ i, i < M.n → dgc (M.e i).w (M.e i).w.size ≤ 4
theorem LitE.fit {P : EP} (hV : VE P.M) (h : LitE P.M) : ¬ TooL P := small_fits hV.m0 hV.m6 fun i hi => dgc_sz (hV.ok i hi).q (h i hi)
set_option maxHeartbeats 4000000 in
theorem large37_any {M : EM} {sv : Value} (w : World) (hS : EdS none w sv M) :
    Calls Tryz.prog 15 #[.agg #[sv, .int .i64 M.most]] w (fun r w' => r = .returned (.bool (decide ((60 : Int) < (M.n : Int)))) ∧ Below w.heap.size w w') := by
  obtain ⟨a, cap, _, _, _, _, _, _, rfl, _⟩ := hS.open
  clear hS
  obtain ⟨w1, hw1⟩ : ∃ w1, w1 = w.alloc (.cells #[.slice a M.n cap, .int .i64 M.most] 24) := ⟨_, rfl⟩
  obtain ⟨mb, hmb⟩ : ∃ mb, mb = w.heap.size := ⟨_, rfl⟩
  have hbx : BoxE w1 mb M (.slice a M.n cap) := by rw [hw1, hmb]; exact BoxE.new w M _
  have hb1 : Below w.heap.size w w1 := by rw [hw1]; exact (Below.refl _ _).alloc (Nat.le_refl _) _
  have m0 := hbx.c0
  have HB1 := Lib.hid hb1; clear hb1 hbx
  go_enter Tryz.func15, Tryz.ntmps15
  go_wp2_with fail
  rw [← hw1, ← hmb]
  have HMB := Lib.hid hmb; clear hw1 hmb
  go_wp2_with fail
  go_ret
  exact ⟨rfl, HMB.out ▸ HB1.out⟩
set_option maxHeartbeats 4000000 in
theorem far37_any {n : Nat} {b : Nat} {V : Nat → Value} {L : Nat → Nat} (w : World) (hn : n ≤ 10) (hv : ∀ i, i < n → w.cell? ⟨b, i, none⟩ = some (V i) ∧ ∃ x, Si none w (V i) (L i) x) (hl : ∀ i, i < n → (L i : Int) ≤ 9223372036854775807) :
    Calls Tryz.prog 16 #[.slice (some ⟨b, 0, none⟩) n n] w (TestP (∃ i, i < n ∧ 12 < L i) w) := by
  have HV := Lib.hid hv; clear hv
  have HL := Lib.hid hl; clear hl
  go_enter Tryz.func16, Tryz.ntmps16
  go_wp2_with fail
  go_loopw [3] (fun i wr => ∃ q : Nat, q ≤ n ∧ i = .int .i64 (q : Int) ∧ (∀ j, j < q → L j ≤ 12) ∧ wr = w) (fun i _ => n - (intOf i).toNat)
  case atStart => exact ⟨0, Nat.zero_le _, rfl, fun j hj => by omega, rfl⟩
  case round =>
    obtain ⟨q, hq, rfl, hno, rfl⟩ := hrel
    have HNO := Lib.hid hno; clear hno
    by_cases hlt : q < n
    · have hqz : (q : Int) < (n : Int) := by omega
      have hqz0 : (0 : Int) ≤ (q : Int) := by omega
      obtain ⟨c0, x, hx⟩ := HV.out q hlt
      obtain ⟨a, cap, hx⟩ := hx.shape
      rw [hx] at c0
      have hlq := HL.out q hlt
      obtain ⟨lq, hlqe⟩ : ∃ lq, lq = L q := ⟨_, rfl⟩
      rw [← hlqe] at c0 hlq
      have HLQ := Lib.hid hlqe; clear hlqe hx
      by_cases h12 : (12 : Int) < (lq : Int)
      · go_wp2_with fail
        go_ret
        exact ⟨true, rfl, ⟨fun _ => ⟨q, hlt, by rw [← HLQ.out]; omega⟩, fun _ => rfl⟩, Below.refl _ _⟩
      · have h12' : decide ((12 : Int) < (lq : Int)) = false := by simp; omega
        go_wp2_with fail
        go_roundw
        case rel =>
          refine ⟨q + 1, by omega, by go_num, fun j hj => ?_, by first | rfl | trivial⟩
          by_cases e : j = q
          · rw [e, ← HLQ.out]; omega
          · exact HNO.out j (by omega)
        case measure => simp [intOf]; omega
    · have hqn : q = n := by omega
      have hgt : ¬ ((q : Int) < (n : Int)) := by omega
      have HQ := Lib.hid hqn; clear hqn
      go_wp2_with fail
      go_ret
      exact ⟨false, rfl, ⟨(fun h => by cases h), fun ⟨i, hi, h⟩ => by have := HNO.out i (by rw [HQ.out]; exact hi); omega⟩, Below.refl _ _⟩
end Go.Proofs.YtjekapjbigfkbaaGreatDoor
