/- Parts of a proof: EdC. -/
import Derived.Test.YtjekapjbigfkbaaGreatDoorS28
namespace Go.Proofs.YtjekapjbigfkbaaGreatDoor
open Go Go.RowKit Go.Deep
set_option maxRecDepth 100000
set_option linter.unusedSimpArgs false
def stC (one : ByteArray) : Nat → MD
  | 0 => emptyD 1 0 one
  | k + 1 => (stC one k).state one
def arC (one : ByteArray) (k : Nat) : Nat → MD → MD
  | 0, D => D
  | s + 1, D => (arC one k s D).arc k ((s + 1 : Nat) : Int) ((s + 1 : Nat) : Int) one (k : Int)
def mxE (d : ED) : Nat := max d.nf d.nt
def edsC (M : EM) (k : Nat) : Nat → MD → MD
  | 0, D => D
  | e + 1, D => if (k : Int) < M.most then (edC (M.e e) (mxE (M.e e)) (k + 1) (mxE (M.e e)) (edsC M k e D, k, (M.e e).w)).1 else edsC M k e D
def allC (M : EM) (one : ByteArray) (sg : Nat) : Nat → MD → MD
  | 0, D => D
  | k + 1, D => edsC M k M.n (arC one k sg (allC M one sg k D))
def cmpC (M : EM) (sg : Nat) : MD := allC M (oneF 1) sg (M.most.toNat + 1) (stC (oneF 1) (M.most.toNat + 1))
def szC (M : EM) : Nat → Nat
  | 0 => 0
  | i + 1 => szC M i + mxE (M.e i)
def InSg (M : EM) (sg : Int) : Prop := ∀ i, i < M.n → wordI (M.e i).nf (M.e i).f sg ∧ wordI (M.e i).nt (M.e i).t sg
def InSz (M : EM) (sg : Int) : Prop := M.most + 1 + M.most * ((szC M M.n : Int) - (M.n : Int)) ≤ 3000 ∧ (M.most + 1) * sg + M.most * (szC M M.n : Int) ≤ 30000
theorem szC_le {M : EM} (h : VE M) : ∀ n, n ≤ M.n → n ≤ szC M n ∧ szC M n ≤ 6 * n
  | 0, _ => ⟨Nat.le_refl _, Nat.le_refl _⟩
  | n + 1, hn => by
    have ih := szC_le h n (by omega)
    have hd := h.ok n (by omega)
    have h1 := hd.f6; have h2 := hd.t6; have h3 := hd.pos
    show n + 1 ≤ szC M n + max _ _ ∧ szC M n + max _ _ ≤ _
    omega
theorem stC_n (one : ByteArray) : ∀ k, (stC one k).n = k
  | 0 => rfl
  | k + 1 => by show (stC one k).n + 1 = k + 1; rw [stC_n one k]
theorem stC_grw (one : ByteArray) : ∀ k, Grw (stC one k) k 0
  | 0 => ⟨Nat.le_refl _, fun _ => Nat.le_refl _⟩
  | k + 1 => (stC_grw one k).state one
theorem arC_n {one : ByteArray} {k : Nat} {D : MD} : ∀ s, (arC one k s D).n = D.n
  | 0 => rfl
  | s + 1 => arC_n s
theorem arC_grw {one : ByteArray} {k N A : Nat} {D : MD} (h : Grw D N A) : ∀ s, Grw (arC one k s D) N (A + s)
  | 0 => h
  | s + 1 => (arC_grw h s).arc _ _ _ _ _
theorem mxE_le {M : EM} (h : VE M) {i : Nat} (hi : i < M.n) : mxE (M.e i) ≤ 6 := by have := (h.ok i hi).f6; have := (h.ok i hi).t6; unfold mxE; omega
theorem edsC_grw {M : EM} (hv : VE M) {k N A : Nat} {D : MD} (h : Grw D N A) : ∀ e, e ≤ M.n → Grw (edsC M k e D) (N + 6 * e) (A + 6 * e)
  | 0, _ => h
  | e + 1, he => by
    have ih := edsC_grw hv (k := k) h e (by omega)
    unfold edsC; split
    · exact (edC_grw (s := (edsC M k e D, k, (M.e e).w)) ih _).mono (by have := mxE_le hv (show e < M.n by omega); omega) (by have := mxE_le hv (show e < M.n by omega); omega)
    · exact ih.mono (by omega) (by omega)
theorem edsC_n {M : EM} {k : Nat} {D : MD} : ∀ e, D.n ≤ (edsC M k e D).n
  | 0 => Nat.le_refl _
  | e + 1 => by
    have ih := edsC_n (M := M) (k := k) (D := D) e
    unfold edsC; split
    · exact Nat.le_trans ih (edC_n (s := (edsC M k e D, k, (M.e e).w)) _)
    · exact ih
theorem allC_grw {M : EM} (hv : VE M) {one : ByteArray} {sg N A : Nat} (hs : sg ≤ 500) {D : MD} (h : Grw D N A) : ∀ k, Grw (allC M one sg k D) (N + 2400 * k) (A + 2900 * k)
  | 0 => h
  | k + 1 => (edsC_grw hv (arC_grw (allC_grw hv hs h k) sg) M.n (Nat.le_refl _)).mono (by have := hv.n4; omega) (by have := hv.n4; omega)
theorem allC_n {M : EM} {one : ByteArray} {sg : Nat} {D : MD} : ∀ k, D.n ≤ (allC M one sg k D).n
  | 0 => Nat.le_refl _
  | k + 1 => by
    have h1 := allC_n (M := M) (one := one) (sg := sg) (D := D) k
    have h2 := edsC_n (M := M) (k := k) (D := arC one k sg (allC M one sg k D)) M.n
    rw [arC_n] at h2
    exact Nat.le_trans h1 h2
def HdM (D : MD) (one : ByteArray) : Prop := D.kind = 1 ∧ D.start = 0 ∧ D.lead = one
theorem edC_hd {d : ED} {m t : Nat} {one : ByteArray} {s : MD × Nat × ByteArray} (h : HdM s.1 one) : ∀ i, HdM (edC d m t i s).1 one
  | 0 => h
  | i + 1 => by
    have ih := edC_hd (d := d) (m := m) (t := t) h i
    unfold edC; split
    · exact ih
    · exact ih
theorem stC_hd (one : ByteArray) : ∀ k, HdM (stC one k) one
  | 0 => ⟨rfl, rfl, rfl⟩
  | k + 1 => stC_hd one k
theorem arC_hd {one : ByteArray} {k : Nat} {D : MD} (h : HdM D one) : ∀ s, HdM (arC one k s D) one
  | 0 => h
  | s + 1 => arC_hd h s
theorem edsC_hd {M : EM} {one : ByteArray} {k : Nat} {D : MD} (h : HdM D one) : ∀ e, HdM (edsC M k e D) one
  | 0 => h
  | e + 1 => by
    have ih := edsC_hd (M := M) (k := k) h e
    unfold edsC; split
    · exact edC_hd (s := (edsC M k e D, k, (M.e e).w)) ih _
    · exact ih
theorem allC_hd {M : EM} {one : ByteArray} {sg : Nat} {D : MD} (h : HdM D one) : ∀ k, HdM (allC M one sg k D) one
  | 0 => h
  | k + 1 => edsC_hd (arC_hd (allC_hd h k) sg) M.n
def zeroM : Value := .agg #[.int .i64 0, .int .i64 0, .string ⟨#[]⟩, .slice none 0 0]
def CmpE (M : EM) (sg : Int) (w : World) (r : Ending) (w' : World) : Prop :=
  Below w.heap.size w w' ∧ ((¬ (VE M ∧ 0 ≤ sg ∧ sg ≤ 500 ∧ InSg M sg) ∧ r = .returned (.tuple #[zeroM, .int .i64 1])) ∨
    (VE M ∧ 0 ≤ sg ∧ sg ≤ 500 ∧ InSg M sg ∧ ((¬ InSz M sg ∧ r = .returned (.tuple #[zeroM, .int .i64 2])) ∨
      (InSz M sg ∧ ∃ sv R, r = .returned (.tuple #[.agg #[.int .i64 1, .int .i64 0, .string (oneF 1), sv], .int .i64 0]) ∧ OwM w' w.heap.size sv (cmpC M sg.toNat) R))))
structure CE (w wr : World) (mb rb : Nat) (M : EM) (sv : Value) : Prop where
  hb : Below w.heap.size w wr
  kb : BoxE wr mb M sv
  kr : wr.heap[rb]? = some (.cells #[.int .i64 0, .int .i64 0, .string ⟨#[]⟩, .slice none 0 0] 36 (0, 0))
  lr : w.heap.size ≤ rb
theorem CE.fr {w wr w' : World} {mb rb : Nat} {M : EM} {sv : Value} (h : CE w wr mb rb M sv) (hf : Fr (fun _ => False) wr w') : CE w w' mb rb M sv :=
  ⟨h.hb.trans (hf.below h.hb.size (fun _ e => e.elim)), (hf.block mb h.kb.lt (fun e => e)).trans h.kb, (hf.block rb (lt_of_block h.kr) (fun e => e)).trans h.kr, h.lr⟩
theorem CE.zero {w wr : World} {mb rb : Nat} {M : EM} {sv : Value} (h : CE w wr mb rb M sv) : Below w.heap.size w (wr.setCells rb 0 [.int .i64 0, .int .i64 0, .string ⟨#[]⟩, .slice none 0 0]) ∧ Box4 (wr.setCells rb 0 [.int .i64 0, .int .i64 0, .string ⟨#[]⟩, .slice none 0 0]) rb 0 0 ⟨#[]⟩ (.slice none 0 0) :=
  ⟨below_setCells4 h.hb h.lr _ _ _ _, box4_set wr rb _ _ _ _ h.kr⟩
theorem cells4 {w : World} {rb : Nat} {v0 v1 v2 v3 : Value} {t : TypeId} (h : w.heap[rb]? = some (.cells #[v0, v1, v2, v3] t (0, 0))) : (w.cell? ⟨rb, 0, none⟩ = some v0 ∧ w.cell? ⟨rb, 1, none⟩ = some v1 ∧ w.cell? ⟨rb, 2, none⟩ = some v2 ∧ w.cell? ⟨rb, 3, none⟩ = some v3) ∧ ∀ j, w.frozen? ⟨rb, j, none⟩ = false :=
  ⟨⟨by simp [World.cell?, h], by simp [World.cell?, h], by simp [World.cell?, h], by simp [World.cell?, h]⟩, fun j => by simp [World.frozen?, h]⟩
set_option maxHeartbeats 16000000 in
theorem compile_any {M : EM} {v : Value} {sg : Int} (w : World) (hM : Em none w v M) (hs : ESz M) (ht : Tab w) : Calls Tryz.prog 21 #[v, .int .i64 sg] w (CmpE M sg w) := by
  obtain ⟨sv, rfl, hS⟩ := hM
  obtain ⟨a, cap, b, off, A, A', C, C', rfl, ha, hc, hm, hb, hrow⟩ := hS.open
  unfold maxLen at hm
  have hm0 := hs.m0
  have hm1 := hs.m1
  have hnn := hs.n
  obtain ⟨w1, hw1⟩ : ∃ w1, w1 = w.alloc (.cells #[.slice a M.n cap, .int .i64 M.most] 24) := ⟨_, rfl⟩
  obtain ⟨w2, hw2⟩ : ∃ w2, w2 = w1.alloc (.cells #[.int .i64 0, .int .i64 0, .string ⟨#[]⟩, .slice none 0 0] 36) := ⟨_, rfl⟩
  have hz1 : w1.heap.size = w.heap.size + 1 := by rw [hw1]; simp
  have hf1 : Fr (fun _ => False) w w1 := by rw [hw1]; exact Fr.alloc _ _
  have hf2 : Fr (fun _ => False) w1 w2 := by rw [hw2]; exact Fr.alloc _ _
  have hkb1 : BoxE w1 w.heap.size M (.slice a M.n cap) := by rw [hw1]; exact BoxE.new w M _
  have hkb : BoxE w2 w.heap.size M (.slice a M.n cap) := (hf2.block _ hkb1.lt (fun e => e)).trans hkb1
  have hkr : w2.heap[w.heap.size + 1]? = some (.cells #[.int .i64 0, .int .i64 0, .string ⟨#[]⟩, .slice none 0 0] 36 (0, 0)) := by rw [← hz1, hw2]; exact heap_alloc_new w1 _
  obtain ⟨mb, hmb⟩ : ∃ mb, mb = w.heap.size := ⟨_, rfl⟩
  obtain ⟨rb, hrb⟩ : ∃ rb, rb = w.heap.size + 1 := ⟨_, rfl⟩
  have hce : CE w w2 mb rb M (.slice a M.n cap) := ⟨(hf1.trans hf2).below (Nat.le_refl _) (fun _ e => e.elim), by rw [hmb]; exact hkb, by rw [hrb]; exact hkr, by omega⟩
  have c0 := hce.kb.c0
  have c1 := hce.kb.c1
  have HVA := Lib.hid (evalid_any w2 (⟨_, rfl, hS.kept (gb_below hce.hb none)⟩ : Em none w2 (.agg #[.slice a M.n cap, .int .i64 M.most]) M) hs (ht.below hce.hb (Nat.le_refl _)))
  have HSZ := Lib.hid hs; clear hs
  have HT := Lib.hid ht; clear ht
  have HA := Lib.hid ha; clear ha
  have HB := Lib.hid hb; clear hb
  have HR := Lib.hid hrow; clear hrow hS
  have HCE := Lib.hid hce; clear hce hkb hkr hkb1 hf1 hf2 hz1
  rw [hmb, hw2, hw1] at c0 c1
  go_enter Tryz.func21, Tryz.ntmps21
  go_wp2_with fail
  rw [← hw1, ← hw2, ← hrb, ← hmb]
  clear c0 c1 hw1 hw2 hmb hrb
  refine HVA.out.mono ?_
  rintro r w3 ⟨hb3, hr⟩
  have hce3 := HCE.out.fr (Fr.of_below hb3)
  have HCE3 := Lib.hid hce3; clear hce3 hb3 HCE HVA
  obtain ⟨⟨r0, r1, r2, r3⟩, rz⟩ := cells4 HCE3.out.kr
  have f0 := rz 0
  have f1 := rz 1
  have f2 := rz 2
  have f3 := rz 3
  clear rz
  rcases hr with ⟨hv, rfl⟩ | ⟨hv, rfl⟩
  rotate_left
  · have HV := Lib.hid hv; clear hv
    go_wp2_with fail
    refine bodyPost_ret (results_m2 rfl _ (b := rb) rfl rfl HCE3.out.zero.2) rfl ⟨HCE3.out.zero.1, .inl ⟨fun h => HV.out h.1, rfl⟩⟩
  have HV := Lib.hid hv; clear hv
  by_cases hs0 : 0 ≤ sg
  rotate_left
  · have hsz : sg < 0 := by omega
    go_wp2_with fail
    refine bodyPost_ret (results_m2 rfl _ (b := rb) rfl rfl HCE3.out.zero.2) rfl ⟨HCE3.out.zero.1, .inl ⟨fun h => absurd h.2.1 (by omega), rfl⟩⟩
  have hsz : decide (sg < 0) = false := by simp; omega
  by_cases hs5 : sg ≤ 500
  rotate_left
  · have hsz5 : (500 : Int) < sg := by omega
    go_wp2_with fail
    refine bodyPost_ret (results_m2 rfl _ (b := rb) rfl rfl HCE3.out.zero.2) rfl ⟨HCE3.out.zero.1, .inl ⟨fun h => absurd h.2.2.1 (by omega), rfl⟩⟩
  have hsz5 : decide ((500 : Int) < sg) = false := by simp; omega
  obtain ⟨sn, hsn⟩ : ∃ sn : Nat, sg = (sn : Int) := ⟨sg.toNat, by omega⟩
  obtain ⟨mo, hmo⟩ : ∃ mo : Nat, M.most = (mo : Int) := ⟨M.most.toNat, by have := HV.out.m0; omega⟩
  have HSN := Lib.hid hsn; clear hsn
  have HMO := Lib.hid hmo; clear hmo
  have hn4 : M.n ≤ 400 := HV.out.n4
  have c0 := HCE3.out.kb.c0
  go_wp2_with fail
  clear hsz hsz5 c0 r0 r1 r2 r3 f0 f1 f2 f3
  go_loopw [6, 30] (fun v6 v30 wr => ∃ q : Nat, q ≤ M.n ∧ v30 = .int .i64 (q : Int) ∧ v6 = .int .i64 (szC M q : Int) ∧ (∀ i, i < q → wordI (M.e i).nf (M.e i).f sg ∧ wordI (M.e i).nt (M.e i).t sg) ∧ CE w wr mb rb M (.slice a M.n cap)) (fun _ v30 _ => M.n - (intOf v30).toNat)
  case atStart => exact ⟨0, Nat.zero_le _, rfl, rfl, fun i hi => absurd hi (Nat.not_lt_zero _), HCE3.out⟩
  case round =>
    obtain ⟨q, hq, rfl, rfl, hok, hce⟩ := hrel
    clear HCE3
    have HOK := Lib.hid hok; clear hok
    have HCE := Lib.hid hce; clear hce
    by_cases hlt : q < M.n
    · have hqz : (q : Int) < (M.n : Int) := by omega
      have hqz0 : (0 : Int) ≤ (q : Int) := by omega
      obtain rfl := HA.out (by omega)
      have hbb := (HB.out (by omega)).1
      obtain ⟨k1, k2, k3, k4, k5⟩ := HR.out q hlt
      have c0 := (HCE.out.hb.cell (p := ⟨b, off + q * 3, none⟩) hbb).trans k1
      have c1 := (HCE.out.hb.cell (p := ⟨b, off + q * 3 + 1, none⟩) hbb).trans k2
      have c2 := (HCE.out.hb.cell (p := ⟨b, off + q * 3 + 2, none⟩) hbb).trans k3
      clear k1 k2 k3
      have hdk := HV.out.ok q hlt
      have hszl := szC_le HV.out q (by omega)
      have hszs : szC M (q + 1) = szC M q + mxE (M.e q) := rfl
      obtain ⟨d, hd⟩ : ∃ d, d = M.e q := ⟨_, rfl⟩
      rw [← hd] at c0 c1 c2 k4 k5 hdk hszs
      have hnf : d.nf ≤ 6 := hdk.f6
      have hnt : d.nt ≤ 6 := hdk.t6
      obtain ⟨nf, hnfe⟩ : ∃ nf, nf = d.nf := ⟨_, rfl⟩
      obtain ⟨nt, hnte⟩ : ∃ nt, nt = d.nt := ⟨_, rfl⟩
      rw [← hnfe] at c0 k4 hnf
      rw [← hnte] at c1 k5 hnt
      obtain ⟨zq, hzq⟩ : ∃ zq, zq = szC M q := ⟨_, rfl⟩
      rw [← hzq] at hszs hszl
      rw [← hzq]
      have hmx : ((mxE d : Nat) : Int) = max (nf : Int) (nt : Int) := by unfold mxE; omega
      have HK4 := Lib.hid k4; clear k4
      have HK5 := Lib.hid k5; clear k5
      have HD := Lib.hid hd; clear hd hdk
      have HNF := Lib.hid hnfe; clear hnfe
      have HNT := Lib.hid hnte; clear hnte
      have HMX := Lib.hid hmx; clear hmx
      have HZQ := Lib.hid hzq; clear hzq
      have HZS := Lib.hid hszs; clear hszs
      obtain ⟨wa, hwa⟩ : ∃ wa, wa = wr.alloc (.cells #[.slice (A q) nf (C q), .slice (A' q) nt (C' q), .string d.w] 50) := ⟨_, rfl⟩
      have hfa : Fr (fun _ => False) wr wa := by rw [hwa]; exact Fr.alloc _ _
      obtain ⟨ab, hab⟩ : ∃ ab, ab = wr.heap.size := ⟨_, rfl⟩
      have hblk : wa.heap[ab]? = some (.cells #[.slice (A q) nf (C q), .slice (A' q) nt (C' q), .string d.w] 50 (0, 0)) := by rw [hwa, hab]; exact heap_alloc_new wr _
      have HCEA := Lib.hid (HCE.out.fr hfa)
      have HBLK := Lib.hid hblk; clear hblk hfa
      have HS1 := Lib.hid (symbols_any (sig := sg) wa (HK4.out.kept (gb_below HCEA.out.hb none)) (by omega))
      go_wp2_with fail
      rw [← hwa, ← hab]
      clear hwa hab c0 c1 c2
      refine HS1.out.mono ?_
      rintro r w1 ⟨rfl, hb1⟩
      have HCE1 := Lib.hid (HCEA.out.fr (Fr.of_below hb1)); clear HCEA
      have HBLK1 := Lib.hid ((hb1.block ab (lt_of_block HBLK.out)).trans HBLK.out); clear hb1 HBLK HS1
      have e0 : w1.cell? ⟨ab, 0, none⟩ = some (.slice (A q) nf (C q)) := by simp [World.cell?, HBLK1.out]
      have e1 : w1.cell? ⟨ab, 1, none⟩ = some (.slice (A' q) nt (C' q)) := by simp [World.cell?, HBLK1.out]
      obtain ⟨⟨r0, r1, r2, r3⟩, rz⟩ := cells4 HCE1.out.kr
      have f0 := rz 0
      have f1 := rz 1
      have f2 := rz 2
      have f3 := rz 3
      clear rz
      cases hw1 : wordB nf d.f sg
      · have hn := wordB_not.1 hw1
        have HN := Lib.hid hn; clear hn hw1
        go_wp2_with fail
        refine bodyPost_ret (results_m2 rfl _ (b := rb) rfl rfl HCE1.out.zero.2) rfl ⟨HCE1.out.zero.1, .inl ⟨fun h => HN.out ?_, rfl⟩⟩
        rw [HNF.out, HD.out]; exact (h.2.2.2 q hlt).1
      · have HW1 := Lib.hid (wordB_iff.1 hw1); clear hw1
        have HS2 := Lib.hid (symbols_any (sig := sg) w1 (HK5.out.kept (gb_below HCE1.out.hb none)) (by omega))
        go_wp2_with fail
        clear r0 r1 r2 r3 f0 f1 f2 f3 e0 e1
        refine HS2.out.mono ?_
        rintro r w2 ⟨rfl, hb2⟩
        have HCE2 := Lib.hid (HCE1.out.fr (Fr.of_below hb2)); clear HCE1
        have HBLK2 := Lib.hid ((hb2.block ab (lt_of_block HBLK1.out)).trans HBLK1.out); clear hb2 HBLK1 HS2
        have e0 : w2.cell? ⟨ab, 0, none⟩ = some (.slice (A q) nf (C q)) := by simp [World.cell?, HBLK2.out]
        have e1 : w2.cell? ⟨ab, 1, none⟩ = some (.slice (A' q) nt (C' q)) := by simp [World.cell?, HBLK2.out]
        obtain ⟨⟨r0, r1, r2, r3⟩, rz⟩ := cells4 HCE2.out.kr
        have f0 := rz 0
        have f1 := rz 1
        have f2 := rz 2
        have f3 := rz 3
        clear rz
        cases hw2 : wordB nt d.t sg
        · have hn := wordB_not.1 hw2
          have HN := Lib.hid hn; clear hn hw2
          go_wp2_with fail
          refine bodyPost_ret (results_m2 rfl _ (b := rb) rfl rfl HCE2.out.zero.2) rfl ⟨HCE2.out.zero.1, .inl ⟨fun h => HN.out ?_, rfl⟩⟩
          rw [HNT.out, HD.out]; exact (h.2.2.2 q hlt).2
        · have HW2 := Lib.hid (wordB_iff.1 hw2); clear hw2 r0 r1 r2 r3 f0 f1 f2 f3
          go_wp2_with fail
          go_roundw
          case rel =>
            refine ⟨q + 1, by omega, by go_num, ?_, fun i hi => ?_, HCE2.out⟩
            · rw [HZS.out, Int.natCast_add, HMX.out]
              try (first | rfl | (rw [IntKind.wrap_i64]; congr 1; omega))
            · by_cases e : i = q
              · subst e
                rw [← HD.out, ← HNF.out, ← HNT.out]; exact ⟨HW1.out, HW2.out⟩
              · exact HOK.out i (by omega)
          case measure => simp [intOf]; omega
    · have hqn : q = M.n := by omega
      have hgt : ¬ ((q : Int) < (M.n : Int)) := by omega
      have hsg : InSg M sg := fun i hi => HOK.out i (by rw [hqn]; exact hi)
      have HSG := Lib.hid hsg; clear hsg
      obtain ⟨z, hz⟩ : ∃ z, z = szC M M.n := ⟨_, rfl⟩
      have hzb := szC_le HV.out M.n (Nat.le_refl _)
      rw [← hz] at hzb
      rw [hqn, ← hz]
      have HZ := Lib.hid hz; clear hz
      have h60 : 0 ≤ M.most := HV.out.m0
      have h66 : M.most ≤ 6 := HV.out.m6
      obtain ⟨P, hP⟩ : ∃ P, P = M.most * ((z : Int) - (M.n : Int)) := ⟨_, rfl⟩
      obtain ⟨Q, hQ⟩ : ∃ Q, Q = (M.most + 1) * sg := ⟨_, rfl⟩
      obtain ⟨S, hS⟩ : ∃ S, S = M.most * (z : Int) := ⟨_, rfl⟩
      have hm7 : M.most = 0 ∨ M.most = 1 ∨ M.most = 2 ∨ M.most = 3 ∨ M.most = 4 ∨ M.most = 5 ∨ M.most = 6 := by omega
      have hPb : 0 ≤ P ∧ P ≤ 14400 := by rcases hm7 with e | e | e | e | e | e | e <;> rw [e] at hP <;> omega
      have hQb : 0 ≤ Q ∧ Q ≤ 3500 := by rcases hm7 with e | e | e | e | e | e | e <;> rw [e] at hQ <;> omega
      have hSb : 0 ≤ S ∧ S ≤ 14400 := by rcases hm7 with e | e | e | e | e | e | e <;> rw [e] at hS <;> omega
      obtain ⟨hP0, hP1⟩ := hPb
      obtain ⟨hQ0, hQ1⟩ := hQb
      obtain ⟨hS0, hS1⟩ := hSb
      have hwB : IntKind.i64.wrap ((z : Int) - (M.n : Int)) = (z : Int) - (M.n : Int) := by rw [IntKind.wrap_i64]; omega
      have hwC : IntKind.i64.wrap (M.most * ((z : Int) - (M.n : Int))) = P := by rw [← hP, IntKind.wrap_i64]; omega
      have hwE : IntKind.i64.wrap ((M.most + 1) * sg) = Q := by rw [← hQ, IntKind.wrap_i64]; omega
      have hwF : IntKind.i64.wrap (M.most * (z : Int)) = S := by rw [← hS, IntKind.wrap_i64]; omega
      have hin : InSz M sg ↔ (M.most + 1 + P ≤ 3000 ∧ Q + S ≤ 30000) := by unfold InSz; rw [← HZ.out, ← hP, ← hQ, ← hS]
      have HIN := Lib.hid hin; clear hin
      have HP := Lib.hid hP; clear hP
      have HQ := Lib.hid hQ; clear hQ
      have HS := Lib.hid hS; clear hS hm7
      have c0 := HCE.out.kb.c0
      have c1 := HCE.out.kb.c1
      obtain ⟨⟨r0, r1, r2, r3⟩, rz⟩ := cells4 HCE.out.kr
      have f0 := rz 0
      have f1 := rz 1
      have f2 := rz 2
      have f3 := rz 3
      clear rz
      by_cases hL1 : (3000 : Int) < M.most + 1 + P
      · go_wp2_with fail
        refine bodyPost_ret (results_m2 rfl _ (b := rb) rfl rfl HCE.out.zero.2) rfl ⟨HCE.out.zero.1, .inr ⟨HV.out, hs0, hs5, HSG.out, .inl ⟨fun h => by have := (HIN.out.1 h).1; omega, rfl⟩⟩⟩
      have hL1' : decide ((3000 : Int) < M.most + 1 + P) = false := by simp; omega
      by_cases hL2 : (30000 : Int) < Q + S
      · have hL2t : decide ((30000 : Int) < Q + S) = true := by simp; omega
        have HL2 := Lib.hid hL2; clear hL2
        go_wp2_with fail
        refine bodyPost_ret (results_m2 rfl _ (b := rb) rfl rfl HCE.out.zero.2) rfl ⟨HCE.out.zero.1, .inr ⟨HV.out, hs0, hs5, HSG.out, .inl ⟨fun h => by have := (HIN.out.1 h).2; have := HL2.out; omega, rfl⟩⟩⟩
      have hL2' : decide ((30000 : Int) < Q + S) = false := by simp; omega
      have HSZ2 := Lib.hid (HIN.out.2 ⟨by omega, by omega⟩)
      clear hL1 hL2
      have HON := Lib.hid (semione_any 1 wr)
      go_wp2_with fail
      clear hL1' hL2' r0 r1 r2 r3 f0 f1 f2 f3 hwB hwC hwE hwF hP0 hP1 hQ0 hQ1 hS0 hS1 c0 c1
      refine HON.out.mono ?_
      rintro r w4 ⟨rfl, hb4⟩
      have HCE4 := Lib.hid (HCE.out.fr (Fr.of_below hb4)); clear hb4 HCE HON
      obtain ⟨one, hone⟩ : ∃ one, one = oneF 1 := ⟨_, rfl⟩
      rw [← hone]
      have HONE := Lib.hid hone; clear hone
      have c1 := HCE4.out.kb.c1
      obtain ⟨db, hdb⟩ : ∃ db, db = w4.heap.size := ⟨_, rfl⟩
      obtain ⟨w5, hw5⟩ : ∃ w5, w5 = w4.alloc (.cells #[.int .i64 0, .int .i64 1, .int .i64 0, .string one, .slice none 0 0] 79) := ⟨_, rfl⟩
      have hf5 : Fr (fun _ => False) w4 w5 := by rw [hw5]; exact Fr.alloc _ _
      have hdw5 : ∃ R sv, Drw w5 w.heap.size db (stC one 0) R sv := ⟨fun _ => .slice none 0 0, .slice none 0 0, by rw [hw5, hdb]; exact heap_alloc_new w4 _, OwM.empty _ _ _ _ _ _, by have := HCE4.out.hb.size; omega⟩
      have HCE5 := Lib.hid (HCE4.out.fr hf5); clear HCE4 hf5
      have HDW5 := Lib.hid hdw5; clear hdw5
      have hdm : mb ≠ db := by
        rintro rfl
        obtain ⟨R, sv, h⟩ := HDW5.out
        have h1 := h.blk; have h2 := HCE5.out.kb; unfold BoxE at h2; rw [h2] at h1; simp at h1
      have hdr : rb ≠ db := by
        rintro rfl
        obtain ⟨R, sv, h⟩ := HDW5.out
        have h1 := h.blk; have h2 := HCE5.out.kr; rw [h2] at h1; simp at h1
      have HDM := Lib.hid hdm; clear hdm
      have HDR := Lib.hid hdr; clear hdr
      have hstp : ∀ wa wb D', CE w wa mb rb M (.slice a M.n cap) → DrE w.heap.size db D' wa wb → CE w wb mb rb M (.slice a M.n cap) := fun wa wb D' h1 h2 =>
        ⟨h1.hb.trans h2.2.1, by have h3 := h2.2.2.keep h1.kb HDM.out (by decide) (by decide); exact h3, h2.2.2.keep h1.kr HDR.out (by decide) (by decide), h1.lr⟩
      have HSTP := Lib.hid hstp; clear hstp
      rw [hw5] at HCE5
      have d1 := HCE5.out.kb.c1
      rw [← hw5] at HCE5
      go_wp2_with fail
      rw [← hw5, ← hdb]
      clear hw5 hdb c1 d1
      go_loopw [92] (fun v92 wr => ∃ k : Nat, (k : Int) ≤ M.most + 1 ∧ v92 = .int .i64 (k : Int) ∧ CE w wr mb rb M (.slice a M.n cap) ∧ ∃ R sv, Drw wr w.heap.size db (stC one k) R sv) (fun v92 _ => (M.most + 1).toNat - (intOf v92).toNat)
      case atStart => exact ⟨0, by omega, rfl, HCE5.out, HDW5.out⟩
      case round =>
        obtain ⟨k, hk, rfl, hce, hdw⟩ := hrel
        clear HCE5 HDW5
        have HCE := Lib.hid hce; clear hce
        have HDW := Lib.hid hdw; clear hdw
        by_cases hkt : (k : Int) < M.most + 1
        · obtain ⟨R, sv, hdw⟩ := HDW.out
          have HST := Lib.hid (dstate_any one wr hdw HCE.out.hb.size (by rw [stC_n]; omega))
          clear hdw HDW
          go_wp2_with fail
          refine HST.out.mono ?_
          rintro r w6 ⟨rfl, hde⟩
          have HCE6 := Lib.hid (HSTP.out _ _ _ HCE.out hde); clear HCE
          have HDW6 := Lib.hid hde.1; clear hde HST
          go_wp2_with fail
          go_roundw
          case rel => exact ⟨k + 1, by omega, by go_num, HCE6.out, HDW6.out⟩
          case measure => simp [intOf]; omega
        · have hkm : (k : Int) = M.most + 1 := by omega
          have hkn : k = M.most.toNat + 1 := by omega
          have HKN := Lib.hid hkn; clear hkn
          have c1 := HCE.out.kb.c1
          have hdw := HDW.out
          rw [HKN.out] at hdw
          have HDW := Lib.hid hdw; clear hdw
          obtain ⟨D0, hD0⟩ : ∃ D0, D0 = stC one (M.most.toNat + 1) := ⟨_, rfl⟩
          rw [← hD0] at HDW
          have hg0 : Grw D0 7 0 := by rw [hD0]; exact (stC_grw one _).mono (by omega) (Nat.le_refl _)
          have hn0 : D0.n = M.most.toNat + 1 := by rw [hD0]; exact stC_n one _
          have HD0 := Lib.hid hD0; clear hD0
          have HG0 := Lib.hid hg0; clear hg0
          have HN0 := Lib.hid hn0; clear hn0
          clear hkm
          go_wp2_with fail
          clear c1
          go_loopw [101] (fun v101 wr => ∃ k : Nat, (k : Int) ≤ M.most + 1 ∧ v101 = .int .i64 (k : Int) ∧ CE w wr mb rb M (.slice a M.n cap) ∧ ∃ R sv, Drw wr w.heap.size db (allC M one sn k D0) R sv) (fun v101 _ => (M.most + 1).toNat - (intOf v101).toNat)
          case atStart => exact ⟨0, by omega, rfl, HCE.out, HDW.out⟩
          case round =>
            obtain ⟨k, hk, rfl, hce, hdw⟩ := hrel
            clear HCE HDW
            have HCE := Lib.hid hce; clear hce
            have HDW := Lib.hid hdw; clear hdw
            have hgk := allC_grw (one := one) HV.out (show sn ≤ 500 by have := HSN.out; omega) HG0.out k
            have hnk : k ≤ M.most.toNat → k < (allC M one sn k D0).n := fun h => by have h1 := allC_n (M := M) (one := one) (sg := sn) (D := D0) k; have := HN0.out; omega
            obtain ⟨Dk, hDk⟩ : ∃ Dk, Dk = allC M one sn k D0 := ⟨_, rfl⟩
            have hnx : allC M one sn (k + 1) D0 = edsC M k M.n (arC one k sn Dk) := by rw [hDk]; rfl
            rw [← hDk] at HDW hgk hnk
            have HNX := Lib.hid hnx; clear hnx
            have HGK := Lib.hid hgk; clear hgk
            have HDK := Lib.hid hDk; clear hDk
            have HNK := Lib.hid hnk; clear hnk
            by_cases hkt : (k : Int) < M.most + 1
            · have hkd : k < Dk.n := HNK.out (by omega)
              have HKD := Lib.hid hkd; clear hkd
              go_wp2_with fail
              go_loopw [105] (fun v105 wr => ∃ s : Nat, (s : Int) ≤ sg ∧ v105 = .int .i64 (s : Int) ∧ CE w wr mb rb M (.slice a M.n cap) ∧ ∃ R sv, Drw wr w.heap.size db (arC one k s Dk) R sv) (fun v105 _ => sg.toNat - (intOf v105).toNat)
              case atStart => exact ⟨0, by omega, rfl, HCE.out, HDW.out⟩
              case round =>
                obtain ⟨s, hsl, rfl, hce, hdw⟩ := hrel
                clear HCE HDW
                have HCE := Lib.hid hce; clear hce
                have HDW := Lib.hid hdw; clear hdw
                by_cases hst : (s : Int) < sg
                · obtain ⟨R, sv, hdw⟩ := HDW.out
                  have hga := arC_grw (one := one) (k := k) HGK.out s
                  have har := darc_any (q := k) ((s + 1 : Nat) : Int) ((s + 1 : Nat) : Int) (k : Int) one wr hdw HCE.out.hb.size (by rw [arC_n]; exact HKD.out) (by have := hga.n; omega) (by have := hga.na k; omega)
                  rw [show (((s + 1 : Nat)) : Int) = (s : Int) + 1 by omega] at har
                  have HAR := Lib.hid har; clear har hdw HDW hga
                  go_wp2_with fail
                  refine HAR.out.mono ?_
                  rintro r w6 ⟨rfl, hde⟩
                  have HCE6 := Lib.hid (HSTP.out _ _ _ HCE.out hde); clear HCE
                  have hdd := hde.1
                  rw [← show (((s + 1 : Nat)) : Int) = (s : Int) + 1 by omega] at hdd
                  have HDW6 := Lib.hid (show ∃ R sv, Drw w6 w.heap.size db (arC one k (s + 1) Dk) R sv from hdd); clear hde HAR hdd
                  go_wp2_with fail
                  go_roundw
                  case rel => exact ⟨s + 1, by omega, by go_num, HCE6.out, HDW6.out⟩
                  case measure => simp [intOf]; omega
                · have hsm : (s : Int) = sg := by omega
                  have hss : s = sn := by have := HSN.out; omega
                  have hdw := HDW.out
                  rw [hss] at hdw
                  obtain ⟨Da, hDa⟩ : ∃ Da, Da = arC one k sn Dk := ⟨_, rfl⟩
                  have hgd := arC_grw (one := one) (k := k) HGK.out sn
                  have hka : k < Da.n := by rw [hDa, arC_n]; exact HKD.out
                  rw [← hDa] at hdw hgd
                  have HNX := Lib.hid (show allC M one sn (k + 1) D0 = edsC M k M.n Da by rw [hDa]; exact HNX.out)
                  have HGD := Lib.hid hgd; clear hgd
                  have HKA := Lib.hid hka; clear hka
                  have HDWA := Lib.hid hdw; clear hdw HDW hDa hsm hss
                  have c0 := HCE.out.kb.c0
                  go_wp2_with fail
                  clear c0
                  go_loopw [122] (fun v122 wr => ∃ e : Nat, e ≤ M.n ∧ v122 = .int .i64 (e : Int) ∧ CE w wr mb rb M (.slice a M.n cap) ∧ ∃ R sv, Drw wr w.heap.size db (edsC M k e Da) R sv) (fun v122 _ => M.n - (intOf v122).toNat)
                  case atStart => exact ⟨0, Nat.zero_le _, rfl, HCE.out, HDWA.out⟩
                  case round =>
                    obtain ⟨e, hel, rfl, hce, hdw⟩ := hrel
                    clear HCE HDWA
                    have HCE := Lib.hid hce; clear hce
                    have HDW := Lib.hid hdw; clear hdw
                    by_cases het : e < M.n
                    · have hez : (e : Int) < (M.n : Int) := by omega
                      have hez0 : (0 : Int) ≤ (e : Int) := by omega
                      obtain rfl := HA.out (by omega)
                      have hbb := (HB.out (by omega)).1
                      obtain ⟨k1, k2, k3, k4, k5⟩ := HR.out e het
                      have hge := edsC_grw HV.out (k := k) HGD.out e (by omega)
                      have hke : k < (edsC M k e Da).n := Nat.lt_of_lt_of_le HKA.out (edsC_n e)
                      have hsz5 : sn ≤ 500 := by have := HSN.out; omega
                      have HED := Lib.hid (HV.out.ok e het)
                      have hnxe : edsC M k (e + 1) Da = if (k : Int) < M.most then (edC (M.e e) (mxE (M.e e)) (k + 1) (mxE (M.e e)) (edsC M k e Da, k, (M.e e).w)).1 else edsC M k e Da := rfl
                      have HNXE := Lib.hid hnxe; clear hnxe
                      obtain ⟨wa, hwa⟩ : ∃ wa, wa = wr.alloc (.cells #[.slice (A e) (M.e e).nf (C e), .slice (A' e) (M.e e).nt (C' e), .string (M.e e).w] 50) := ⟨_, rfl⟩
                      have hfa : Fr (fun _ => False) wr wa := by rw [hwa]; exact Fr.alloc _ _
                      obtain ⟨R, sv, hdw⟩ := HDW.out
                      have hdwa : Drw wa w.heap.size db (edsC M k e Da) R sv := ⟨(hfa.block db hdw.lt (fun e => e)).trans hdw.blk, hdw.own.kept (z := none) (Fr.gb (hfa.mono (fun _ _ e => e.elim))) (by simp), hdw.low⟩
                      have hcea := HCE.out.fr hfa
                      have hdi := dedit_any (fr := k) (t := k + 1) w wa hcea.hb (Nat.le_refl _) ⟨R, sv, hdwa⟩ hcea.hb.size k4 k5 HED.out hke (hge.mono (by omega) (by omega))
                      rw [show (((k + 1 : Nat)) : Int) = (k : Int) + 1 by omega] at hdi
                      have HDI := Lib.hid hdi; clear hdi
                      have c0 := (HCE.out.hb.cell (p := ⟨b, off + e * 3, none⟩) hbb).trans k1
                      have c1 := (HCE.out.hb.cell (p := ⟨b, off + e * 3 + 1, none⟩) hbb).trans k2
                      have c2 := (HCE.out.hb.cell (p := ⟨b, off + e * 3 + 2, none⟩) hbb).trans k3
                      have m1 := hcea.kb.c1
                      rw [hwa] at m1
                      have HCEA := Lib.hid hcea; clear hcea
                      have HDWA := Lib.hid (show ∃ R sv, Drw wa w.heap.size db (edsC M k e Da) R sv from ⟨R, sv, hdwa⟩)
                      clear k1 k2 k3 k4 k5 hfa hdw hdwa HDW HCE hge hke hsz5
                      by_cases hkm : (k : Int) < M.most
                      · have hn2 : edsC M k (e + 1) Da = (edC (M.e e) (mxE (M.e e)) (k + 1) (mxE (M.e e)) (edsC M k e Da, k, (M.e e).w)).1 := by rw [HNXE.out, if_pos hkm]
                        have HN2 := Lib.hid hn2; clear hn2
                        go_wp2_with fail
                        rw [← hwa]
                        clear hwa c0 c1 c2 m1
                        refine HDI.out.mono ?_
                        rintro r w6 ⟨rfl, hde⟩
                        have HCE6 := Lib.hid (HSTP.out _ _ _ HCEA.out hde); clear HCEA
                        have HDW6 := Lib.hid (show ∃ R sv, Drw w6 w.heap.size db (edsC M k (e + 1) Da) R sv by rw [HN2.out]; exact hde.1); clear hde HDI HDWA
                        go_wp2_with fail
                        go_roundw
                        case rel => exact ⟨e + 1, by omega, by go_num, HCE6.out, HDW6.out⟩
                        case measure => simp [intOf]; omega
                      · have hn2 : edsC M k (e + 1) Da = edsC M k e Da := by rw [HNXE.out, if_neg hkm]
                        have HN2 := Lib.hid hn2; clear hn2
                        go_wp2_with fail
                        rw [← hwa]
                        clear hwa c0 c1 c2 m1
                        go_roundw
                        case rel => exact ⟨e + 1, by omega, by go_num, HCEA.out, by rw [HN2.out]; exact HDWA.out⟩
                        case measure => simp [intOf]; omega
                    · have hen : e = M.n := by omega
                      have hgt : ¬ ((e : Int) < (M.n : Int)) := by omega
                      have hdw := HDW.out
                      rw [hen] at hdw
                      have HDW2 := Lib.hid hdw; clear hdw HDW hen
                      go_wp2_with fail
                      go_roundw
                      case rel => exact ⟨k + 1, by omega, by go_num, HCE.out, by rw [HNX.out]; exact HDW2.out⟩
                      case measure => simp [intOf]; omega
            · have hkm : (k : Int) = M.most + 1 := by omega
              have hkn : k = M.most.toNat + 1 := by omega
              have hcm : Dk = cmpC M sn := by rw [HDK.out, hkn, HD0.out, HONE.out]; rfl
              have hhd : HdM Dk one := by rw [HDK.out]; exact allC_hd (by rw [HD0.out]; exact stC_hd one _) k
              obtain ⟨h1, h2, h3⟩ := hhd
              obtain ⟨R, sv, hdw⟩ := HDW.out
              have hblk := hdw.blk
              rw [h1, h2, h3] at hblk
              obtain ⟨sa, sc, hsv, _, _⟩ := row_any hdw.own.top
              rw [hsv] at hblk
              have d1 : wr.cell? ⟨db, 1, none⟩ = some (.int .i64 1) := by simp [World.cell?, hblk]
              have d2 : wr.cell? ⟨db, 2, none⟩ = some (.int .i64 0) := by simp [World.cell?, hblk]
              have d3 : wr.cell? ⟨db, 3, none⟩ = some (.string one) := by simp [World.cell?, hblk]
              have d4 : wr.cell? ⟨db, 4, none⟩ = some (.slice sa Dk.n sc) := by simp [World.cell?, hblk]
              obtain ⟨⟨r0, r1, r2, r3⟩, rz⟩ := cells4 HCE.out.kr
              have f0 := rz 0
              have f1 := rz 1
              have f2 := rz 2
              have f3 := rz 3
              have HOW := Lib.hid hdw.own
              have HSV := Lib.hid hsv
              have HCM := Lib.hid hcm
              clear rz hblk hdw hsv hcm h1 h2 h3 hkm hkn
              go_wp2_with fail
              refine bodyPost_ret (results_m2 rfl _ (b := rb) rfl rfl (box4_set wr rb _ _ _ _ HCE.out.kr)) rfl ⟨below_setCells4 HCE.out.hb HCE.out.lr _ _ _ _, .inr ⟨HV.out, hs0, hs5, HSG.out, .inr ⟨HSZ2.out, sv, R, by rw [← HONE.out, HSV.out]; rfl, ?_⟩⟩⟩
              have hsn2 : sg.toNat = sn := by have := HSN.out; omega
              rw [hsn2, ← HCM.out]
              have hrn : ∀ i, i < Dk.n → (R i).ownBlock ≠ some rb := fun i hi => own_blk (HOW.out.row i hi) HCE.out.kr (by decide)
              have htn : sv.ownBlock ≠ some rb := own_blk HOW.out.top HCE.out.kr (by decide)
              exact (((HOW.out.other (p := ⟨rb, 0, none⟩) htn hrn _).other (p := ⟨rb, 0 + 1, none⟩) htn hrn _).other (p := ⟨rb, 0 + 1 + 1, none⟩) htn hrn _).other (p := ⟨rb, 0 + 1 + 1 + 1, none⟩) htn hrn _
end Go.Proofs.YtjekapjbigfkbaaGreatDoor
