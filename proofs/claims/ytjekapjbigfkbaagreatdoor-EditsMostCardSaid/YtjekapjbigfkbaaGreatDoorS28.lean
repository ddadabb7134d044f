/- Parts of a proof: EdE Box. -/
import Derived.Test.YtjekapjbigfkbaaGreatDoorS26
import Derived.Test.YtjekapjbigfkbaaGreatDoorS20
import Derived.Test.YtjekapjbigfkbaaGreatDoorS21
import Derived.Laws.ResultCell
namespace Go.Proofs.YtjekapjbigfkbaaGreatDoor
open Go Go.RowKit Go.Deep
set_option maxRecDepth 100000
set_option linter.unusedSimpArgs false
def atI (n : Nat) (l : Nat → Int) (i : Nat) : Int := if i < n then l i else 0
def edC (d : ED) (m t : Nat) : Nat → MD × Nat × ByteArray → MD × Nat × ByteArray
  | 0, s => s
  | i + 1, s =>
    if i + 1 < m then (((edC d m t i s).1.state ⟨#[]⟩).arc (edC d m t i s).2.1 (atI d.nf d.f i) (atI d.nt d.t i) (edC d m t i s).2.2 ((edC d m t i s).1.n : Nat), (edC d m t i s).1.n, oneF 1)
    else ((edC d m t i s).1.arc (edC d m t i s).2.1 (atI d.nf d.f i) (atI d.nt d.t i) (edC d m t i s).2.2 (t : Nat), t, oneF 1)
structure Grw (D : MD) (N A : Nat) : Prop where
  n : D.n ≤ N
  na : ∀ q, D.na q ≤ A
theorem Grw.state {D : MD} {N A : Nat} (h : Grw D N A) (f : ByteArray) : Grw (D.state f) (N + 1) A := ⟨by show D.n + 1 ≤ _; have := h.n; omega, fun q => by show (if q = D.n then 0 else D.na q) ≤ A; split; omega; exact h.na q⟩
theorem Grw.arc {D : MD} {N A : Nat} (h : Grw D N A) (q : Nat) (a b : Int) (x : ByteArray) (t : Int) : Grw (D.arc q a b x t) N (A + 1) := ⟨h.n, fun i => by show (if i = q then D.na q + 1 else D.na i) ≤ A + 1; have := h.na q; have := h.na i; split <;> omega⟩
theorem Grw.mono {D : MD} {N N' A A' : Nat} (h : Grw D N A) (h1 : N ≤ N') (h2 : A ≤ A') : Grw D N' A' := ⟨Nat.le_trans h.n h1, fun q => Nat.le_trans (h.na q) h2⟩
theorem edC_grw {d : ED} {m t N A : Nat} {s : MD × Nat × ByteArray} (h : Grw s.1 N A) : ∀ i, Grw (edC d m t i s).1 (N + i) (A + i)
  | 0 => h
  | i + 1 => by
    have ih := edC_grw (d := d) (m := m) (t := t) h i
    unfold edC; split
    · exact ((ih.state _).arc _ _ _ _ _).mono (by omega) (by omega)
    · exact (ih.arc _ _ _ _ _).mono (by omega) (by omega)
theorem edC_n {d : ED} {m t : Nat} {s : MD × Nat × ByteArray} : ∀ i, s.1.n ≤ (edC d m t i s).1.n
  | 0 => Nat.le_refl _
  | i + 1 => by
    have ih := edC_n (d := d) (m := m) (t := t) (s := s) i
    unfold edC; split
    · show _ ≤ (edC d m t i s).1.n + 1; omega
    · exact ih
theorem edC_from {d : ED} {m t : Nat} {s : MD × Nat × ByteArray} (hs : s.2.1 < s.1.n) : ∀ i, i < m → (edC d m t i s).2.1 < (edC d m t i s).1.n
  | 0, _ => hs
  | i + 1, hi => by
    unfold edC; rw [if_pos hi]
    show (edC d m t i s).1.n < (edC d m t i s).1.n + 1; omega
theorem Kt.keep {db : Nat} {w w' : World} {b : Nat} {cs : Array Value} {t : TypeId} {fr : Nat × Nat} (hk : Kt db w w') (h : w.heap[b]? = some (.cells cs t fr)) (hb : b ≠ db) (h1 : t ≠ 87) (h2 : t ≠ 83) : w'.heap[b]? = some (.cells cs t fr) :=
  (hk.block b (lt_of_block h) hb (fun ⟨cs', t', fr', h3, h4⟩ => by rw [h] at h3; simp at h3; obtain ⟨_, rfl, _⟩ := h3; exact h4.elim h1 h2)).trans h
theorem at1_any {n i : Nat} {v : Value} {x : Nat → Int} (w : World) (hx : Si none w v n x) (hn : (n : Int) ≤ 4611686018427387903) : Calls Tryz.prog 104 #[v, .int .i64 (i : Int)] w (fun r w' => r = .returned (.int .i64 (atI n x i)) ∧ w' = w) := by
  obtain ⟨a, cap, b, off, rfl, ha, hc, hm, hb, hcell⟩ := hx.open
  unfold maxLen at hm
  clear hx
  by_cases h : i < n
  · have hz : (i : Int) < (n : Int) := by omega
    have hz0 : (0 : Int) ≤ (i : Int) := by omega
    obtain rfl := ha (by omega)
    have c0 := hcell i h
    have hat : atI n x i = x i := if_pos h
    rw [hat]
    clear hcell ha hb hat
    go_enter Tryz.func104, Tryz.ntmps104
    go_wp2_with fail
    go_ret
    exact ⟨rfl, rfl⟩
  · have hz : decide ((i : Int) < (n : Int)) = false := by simp; omega
    have hat : atI n x i = 0 := if_neg h
    rw [hat]
    clear hcell ha hb hat
    go_enter Tryz.func104, Tryz.ntmps104
    go_wp2_with fail
    go_ret
    exact ⟨rfl, rfl⟩
theorem enterAt : ∀ args w, (callFunc 104 args).run Tryz.prog w = .ok (.enter 104 args) w := fun args w => by kernel_rfl
set_option maxHeartbeats 8000000 in
theorem dedit_any {B db fr t : Nat} {D : MD} {d : ED} {F T : Value} (w0 w : World) (hb0 : Below w0.heap.size w0 w) (hB0 : w0.heap.size ≤ B) (h : ∃ R sv, Drw w B db D R sv) (hB : B ≤ w.heap.size) (hF : Si none w0 F d.nf d.f) (hT : Si none w0 T d.nt d.t) (hd : EdOk d)
    (hfr : fr < D.n) (hg : Grw D 90000 90000) : Calls Tryz.prog 52 #[.pointer (some ⟨db, 0, none⟩), .agg #[F, T, .string d.w], .int .i64 (fr : Int), .int .i64 (t : Int)] w
      (fun r w' => r = .returned (.tuple #[]) ∧ DrE B db (edC d (max d.nf d.nt) t (max d.nf d.nt) (D, fr, d.w)).1 w w') := by
  obtain ⟨m, hm⟩ : ∃ m, m = max d.nf d.nt := ⟨_, rfl⟩
  have hm6 : m ≤ 6 := by have := hd.f6; have := hd.t6; omega
  have hm1 : 1 ≤ m := by have := hd.pos; omega
  have hmm : max (d.nf : Int) (d.nt : Int) = (m : Int) := by omega
  have hwm : IntKind.i64.wrap ((m : Int) - 1) = (m : Int) - 1 := by rw [IntKind.wrap_i64]; omega
  rw [← hm]
  obtain ⟨fa, fc, rfl⟩ := hF.shape
  obtain ⟨ta, tc, rfl⟩ := hT.shape
  obtain ⟨w1, hw1⟩ : ∃ w1, w1 = w.alloc (.cells #[.slice fa d.nf fc, .slice ta d.nt tc, .string d.w] 50) := ⟨_, rfl⟩
  obtain ⟨xb, hxb⟩ : ∃ xb, xb = w.heap.size := ⟨_, rfl⟩
  have hf1 : Fr (fun _ => False) w w1 := by rw [hw1]; exact Fr.alloc _ _
  have hbx : w1.heap[xb]? = some (.cells #[.slice fa d.nf fc, .slice ta d.nt tc, .string d.w] 50 (0, 0)) := by rw [hw1, hxb]; exact heap_alloc_new w _
  obtain ⟨R, sv, hdr⟩ := h
  have hdn : xb ≠ db := by have := hdr.lt; omega
  have hdr1 : Drw w1 B db D R sv := ⟨(hf1.block db hdr.lt (fun e => e)).trans hdr.blk, hdr.own.kept (z := none) (Fr.gb (hf1.mono (fun _ _ e => e.elim))) (by simp), hdr.low⟩
  have hbl1 : Below B w w1 := hf1.below hB (fun _ e => e.elim)
  have hkt1 : Kt db w w1 := Kt.of_fr (hf1.mono (fun _ _ e => e.elim))
  have hen := enterAt
  have HM := Lib.hid hm; clear hm
  have HD := Lib.hid hd; clear hd
  have HF := Lib.hid hF; clear hF
  have HT := Lib.hid hT; clear hT
  have HB0 := Lib.hid hb0; clear hb0
  have HDR := Lib.hid (show ∃ R sv, Drw w1 B db D R sv from ⟨R, sv, hdr1⟩); clear hdr1
  have HBX := Lib.hid hbx; clear hbx
  have HBL := Lib.hid hbl1; clear hbl1
  have HKT := Lib.hid hkt1; clear hkt1
  have HDN := Lib.hid hdn; clear hdn
  have HG := Lib.hid hg; clear hg
  have HFR := Lib.hid hfr; clear hfr
  have hF6 : (d.nf : Int) ≤ 6 := by have := HD.out.f6; omega
  have hT6 : (d.nt : Int) ≤ 6 := by have := HD.out.t6; omega
  clear hf1 hdr
  go_enter Tryz.func52, Tryz.ntmps52
  go_wp2_with fail
  rw [← hw1, ← hxb]
  clear hw1 hxb
  go_loopw [2, 10, 23] (fun v2 v10 v23 wr => ∃ (i : Nat) (s : MD × Nat × ByteArray), i ≤ m ∧ s = edC d m t i (D, fr, d.w) ∧ v2 = .int .i64 (s.2.1 : Int) ∧ v10 = .string s.2.2 ∧ v23 = .int .i64 (i : Int) ∧ (∃ R sv, Drw wr B db s.1 R sv) ∧ Below B w wr ∧ Kt db w wr ∧
    wr.heap[xb]? = some (.cells #[.slice fa d.nf fc, .slice ta d.nt tc, .string d.w] 50 (0, 0))) (fun _ _ v23 _ => m - (intOf v23).toNat)
  case atStart => exact ⟨0, _, Nat.zero_le _, rfl, rfl, rfl, rfl, HDR.out, HBL.out, HKT.out, HBX.out⟩
  case round =>
    obtain ⟨i, s, hi, hs, rfl, rfl, rfl, hdr, hbl, hkt, hbx⟩ := hrel
    clear HDR HBX HBL HKT
    have HS := Lib.hid hs; clear hs
    have HDR := Lib.hid hdr; clear hdr
    have HBX := Lib.hid hbx; clear hbx
    have HBL := Lib.hid hbl; clear hbl
    have HKT := Lib.hid hkt; clear hkt
    by_cases hlt : i < m
    · have hiz : (i : Int) < (m : Int) := by omega
      have hgs := edC_grw (d := d) (m := m) (t := t) (s := (D, fr, d.w)) HG.out i
      rw [← HS.out] at hgs
      have HGS := Lib.hid hgs; clear hgs
      have hfs := edC_from (d := d) (m := m) (t := t) (s := (D, fr, d.w)) HFR.out i hlt
      rw [← HS.out] at hfs
      have HFS := Lib.hid hfs; clear hfs
      by_cases hl1 : i + 1 < m
      · have hlz : (i : Int) < (m : Int) - 1 := by omega
        obtain ⟨R, sv, hdr⟩ := HDR.out
        have HST := Lib.hid (dstate_any ⟨#[]⟩ wr hdr (by have := HBL.out.size; omega) (by have := HGS.out.n; omega))
        clear hdr HDR
        go_wp2_with fail
        refine HST.out.mono ?_
        rintro r w2 ⟨rfl, ⟨R2, sv2, hdr2⟩, hbl2, hkt2⟩
        have hbx2 := hkt2.keep HBX.out HDN.out (by decide) (by decide)
        have HDR2 := Lib.hid hdr2; clear hdr2
        have HBL2 := Lib.hid (HBL.out.trans hbl2); clear hbl2 HBL
        have HKT2 := Lib.hid (HKT.out.trans hkt2); clear hkt2 HKT
        have HBX2 := Lib.hid hbx2; clear hbx2 HBX HST
        have hnx : edC d m t (i + 1) (D, fr, d.w) = ((s.1.state ⟨#[]⟩).arc s.2.1 (atI d.nf d.f i) (atI d.nt d.t i) s.2.2 (s.1.n : Nat), s.1.n, oneF 1) := by
          unfold edC; rw [if_pos hl1, ← HS.out]
        have HNX := Lib.hid hnx; clear hnx
        have hgs2 : Grw (s.1.state ⟨#[]⟩) 100000 100000 := (HGS.out.state _).mono (by omega) (by omega)
        have hq2 : s.2.1 < (s.1.state ⟨#[]⟩).n := by show s.2.1 < s.1.n + 1; have := HFS.out; omega
        have HGS2 := Lib.hid hgs2; clear hgs2
        have HQ2 := Lib.hid hq2; clear hq2
        obtain ⟨nx, hnxt⟩ : ∃ nx, nx = s.1.n := ⟨_, rfl⟩
        rw [← hnxt] at HNX
        rw [← hnxt]
        have HNT := Lib.hid hnxt; clear hnxt
        obtain ⟨wd, hwd⟩ : ∃ wd, wd = w2.drew := ⟨_, rfl⟩
        have hfd : Fr (fun _ => False) w2 wd := by rw [hwd]; exact (Fr.refl _ _).drew
        have hbxd := (hfd.block xb (lt_of_block HBX2.out) (fun e => e)).trans HBX2.out
        have hS0 : wd.cell? ⟨xb, 0, none⟩ = some (.slice fa d.nf fc) ∧ wd.cell? ⟨xb, 1, none⟩ = some (.slice ta d.nt tc) := ⟨by simp [World.cell?, hbxd], by simp [World.cell?, hbxd]⟩
        have hb0d : Below w0.heap.size w0 wd := HB0.out.trans ((HBL2.out.mono hB0).trans (hfd.below (by have := HB0.out.size; have := HBL2.out.size; omega) (fun _ e => e.elim)))
        have hdrd : Drw wd B db _ R2 sv2 := ⟨(hfd.block db HDR2.out.lt (fun e => e)).trans HDR2.out.blk, HDR2.out.own.kept (z := none) (Fr.gb (hfd.mono (fun _ _ e => e.elim))) (by simp), HDR2.out.low⟩
        have HA1 := Lib.hid (at1_any (i := i) wd (HF.out.kept (gb_below hb0d none)) (by omega))
        have HA2 := Lib.hid (at1_any (i := i) wd (HT.out.kept (gb_below hb0d none)) (by omega))
        have HAR := Lib.hid (darc_any (atI d.nf d.f i) (atI d.nt d.t i) (nx : Int) s.2.2 wd hdrd (by have := HBL2.out.size; have := hfd.size; omega) HQ2.out HGS2.out.n (HGS2.out.na _))
        have HBXD := Lib.hid hbxd; clear hbxd
        have hbld := HBL2.out.trans (hfd.below (show B ≤ w2.heap.size by have := HBL2.out.size; omega) (fun _ e => e.elim))
        have HBLD := Lib.hid hbld; clear hbld
        have HKTD := Lib.hid (HKT2.out.trans (Kt.of_fr (hfd.mono (fun _ _ e => e.elim))))
        clear hfd hb0d hdrd HDR2 HBL2 HKT2 HBX2
        go_wp2_with fail
        refine region_heldK (fun wk' => wk'.cell? ⟨xb, 0, none⟩ = some (.slice fa d.nf fc) ∧ wk'.cell? ⟨xb, 1, none⟩ = some (.slice ta d.nt tc)) 15 (by kernel_rfl) ?_
        rw [← hwd]
        clear hwd
        refine AnyK.tk (i := 0) (v := ?vaa0) rfl (by kernel_rfl) hS0 (Or.inl ⟨by kernel_rfl, ?hyaa0⟩) ?restaa0
        case hyaa0 => rintro wk ⟨s1, s2⟩; go_simp; try with_reducible rfl
        refine AnyK.tk (i := 1) (v := ?vaa1) rfl (by kernel_rfl) hS0 (Or.inl ⟨by kernel_rfl, ?hyaa1⟩) ?restaa1
        case hyaa1 => rintro wk ⟨s1, s2⟩; go_simp; try with_reducible rfl
        refine AnyK.tk (i := 2) (v := ?vaa2) rfl (by kernel_rfl) hS0 (Or.inl ⟨by kernel_rfl, ?hyaa2⟩) ?restaa2
        case hyaa2 => rintro wk ⟨s1, s2⟩; go_simp; try with_reducible rfl
        refine AnyK.tk (i := 3) (v := ?vaa3) rfl (by kernel_rfl) hS0 (Or.inl ⟨by kernel_rfl, ?hyaa3⟩) ?restaa3
        case hyaa3 => rintro wk ⟨s1, s2⟩; go_simp; try with_reducible rfl
        refine AnyK.tk (i := 4) (v := ?vaa4) rfl (by kernel_rfl) hS0 (Or.inl ⟨by kernel_rfl, ?hyaa4⟩) ?restaa4
        case hyaa4 => rintro wk ⟨s1, s2⟩; go_simp; try with_reducible rfl
        refine AnyK.tk (i := 5) (v := ?vaa5) rfl (by kernel_rfl) hS0 (Or.inl ⟨by kernel_rfl, ?hyaa5⟩) ?restaa5
        case hyaa5 => rintro wk ⟨s1, s2⟩; go_simp; try with_reducible rfl
        try simp only [Act.put, List.setIfInBounds_toArray, List.set_cons_zero, List.set_cons_succ, List.getElem_toArray, List.getElem_cons_succ, List.getElem_cons_zero]
        refine AnyK.tk (i := 7) (v := ?vab7) rfl (by kernel_rfl) hS0 (Or.inl ⟨by kernel_rfl, ?hyab7⟩) ?restab7
        case hyab7 => rintro wk ⟨s1, s2⟩; go_simp; try with_reducible rfl
        refine AnyK.tk (i := 8) (v := ?vab8) rfl (by kernel_rfl) hS0 (Or.inl ⟨by kernel_rfl, ?hyab8⟩) ?restab8
        case hyab8 => rintro wk ⟨s1, s2⟩; go_simp; try with_reducible rfl
        refine AnyK.tk (i := 9) (v := ?vab9) rfl (by kernel_rfl) hS0 (Or.inl ⟨by kernel_rfl, ?hyab9⟩) ?restab9
        case hyab9 => rintro wk ⟨s1, s2⟩; go_simp; try with_reducible rfl
        refine AnyK.tk (i := 10) (v := ?vab10) rfl (by kernel_rfl) hS0 (Or.inl ⟨by kernel_rfl, ?hyab10⟩) ?restab10
        case hyab10 => rintro wk ⟨s1, s2⟩; go_simp; try with_reducible rfl
        try simp only [Act.put, List.setIfInBounds_toArray, List.set_cons_zero, List.set_cons_succ, List.getElem_toArray, List.getElem_cons_succ, List.getElem_cons_zero]
        refine AnyK.tk (i := 12) (v := ?vac12) rfl (by kernel_rfl) hS0 (Or.inl ⟨by kernel_rfl, ?hyac12⟩) ?restac12
        case hyac12 => rintro wk ⟨s1, s2⟩; go_simp; try with_reducible rfl
        refine AnyK.tk (i := 13) (v := ?vac13) rfl (by kernel_rfl) hS0 (Or.inl ⟨by kernel_rfl, ?hyac13⟩) ?restac13
        case hyac13 => rintro wk ⟨s1, s2⟩; go_simp; try with_reducible rfl
        try simp only [Act.put, List.setIfInBounds_toArray, List.set_cons_zero, List.set_cons_succ, List.getElem_toArray, List.getElem_cons_succ, List.getElem_cons_zero]
        refine AnyK.one (i := 6) rfl (by kernel_rfl) (by rfl) (fun K hK => ?_)
        go_simp
        refine HA1.out.mono ?_
        rintro r wz ⟨rfl, rfl⟩
        refine hK.out _ _ (.inr hS0) ?_
        clear hK K
        try simp only [Act.put, List.setIfInBounds_toArray, List.set_cons_zero, List.set_cons_succ, List.getElem_toArray, List.getElem_cons_succ, List.getElem_cons_zero]
        refine AnyK.one (i := 11) rfl (by kernel_rfl) (by rfl) (fun K hK => ?_)
        go_simp
        refine HA2.out.mono ?_
        rintro r wz2 ⟨rfl, rfl⟩
        refine hK.out _ _ (.inr hS0) ?_
        clear hK K
        try simp only [Act.put, List.setIfInBounds_toArray, List.set_cons_zero, List.set_cons_succ, List.getElem_toArray, List.getElem_cons_succ, List.getElem_cons_zero]
        refine AnyK.tk (i := 14) (v := ?vad14) rfl (by kernel_rfl) hS0 (Or.inl ⟨by kernel_rfl, ?hyad14⟩) ?restad14
        case hyad14 => rintro wk ⟨s1, s2⟩; go_simp; try with_reducible rfl
        try simp only [Act.put, List.setIfInBounds_toArray, List.set_cons_zero, List.set_cons_succ, List.getElem_toArray, List.getElem_cons_succ, List.getElem_cons_zero]
        refine AnyK.one (i := 15) rfl (by kernel_rfl) (by rfl) (fun K hK => ?_)
        go_simp
        refine HAR.out.mono ?_
        rintro r w3 ⟨rfl, hdr3, hbl3, hkt3⟩
        have HBX3 := Lib.hid (hkt3.keep HBXD.out HDN.out (by decide) (by decide))
        have HDR3 := Lib.hid hdr3; clear hdr3
        have HBL3 := Lib.hid (HBLD.out.trans hbl3); clear hbl3
        have HKT3 := Lib.hid (HKTD.out.trans hkt3); clear hkt3
        refine hK.out _ _ (.inl rfl) (AnyK.done (by kernel_rfl) ?_ _)
        clear hK K hS0 HA1 HA2 HAR
        have HON := Lib.hid (semione_any 1 w3)
        go_wp2_with fail
        refine HON.out.mono ?_
        rintro r w4 ⟨rfl, hb4⟩
        have hf4 : Fr (fun _ => False) w3 w4 := Fr.of_below hb4
        obtain ⟨R4, sv4, hdr4⟩ := HDR3.out
        have hdr5 : Drw w4 B db _ R4 sv4 := ⟨(hf4.block db hdr4.lt (fun e => e)).trans hdr4.blk, hdr4.own.kept (z := none) (Fr.gb (hf4.mono (fun _ _ e => e.elim))) (by simp), hdr4.low⟩
        have HBX4 := Lib.hid ((hf4.block xb (lt_of_block HBX3.out) (fun e => e)).trans HBX3.out)
        have HDR4 := Lib.hid hdr5; clear hdr5 hdr4
        have HBL4 := Lib.hid (HBL3.out.trans (hf4.below (show B ≤ w3.heap.size by have := HBL3.out.size; omega) (fun _ e => e.elim)))
        have HKT4 := Lib.hid (HKT3.out.trans (Kt.of_fr (hf4.mono (fun _ _ e => e.elim))))
        clear hf4 hb4 HDR3
        go_wp2_with fail
        go_roundw
        case rel => exact ⟨i + 1, _, by omega, rfl, by rw [HNX.out], by rw [HNX.out], by go_num, by rw [HNX.out]; exact ⟨_, _, HDR4.out⟩, HBL4.out, HKT4.out, HBX4.out⟩
        case measure => simp [intOf]; omega
      · have hlz : ¬ ((i : Int) < (m : Int) - 1) := by omega
        have hnx : edC d m t (i + 1) (D, fr, d.w) = (s.1.arc s.2.1 (atI d.nf d.f i) (atI d.nt d.t i) s.2.2 (t : Nat), t, oneF 1) := by
          unfold edC; rw [if_neg hl1, ← HS.out]
        have HNX := Lib.hid hnx; clear hnx
        obtain ⟨R2, sv2, hdr2⟩ := HDR.out
        have HDR2 := Lib.hid hdr2; clear hdr2 HDR
        have hgs2 : Grw s.1 100000 100000 := HGS.out.mono (by omega) (by omega)
        have HGS2 := Lib.hid hgs2; clear hgs2
        obtain ⟨wd, hwd⟩ : ∃ wd, wd = wr.drew := ⟨_, rfl⟩
        have hfd : Fr (fun _ => False) wr wd := by rw [hwd]; exact (Fr.refl _ _).drew
        have hbxd := (hfd.block xb (lt_of_block HBX.out) (fun e => e)).trans HBX.out
        have hS0 : wd.cell? ⟨xb, 0, none⟩ = some (.slice fa d.nf fc) ∧ wd.cell? ⟨xb, 1, none⟩ = some (.slice ta d.nt tc) := ⟨by simp [World.cell?, hbxd], by simp [World.cell?, hbxd]⟩
        have hb0d : Below w0.heap.size w0 wd := HB0.out.trans ((HBL.out.mono hB0).trans (hfd.below (by have := HB0.out.size; have := HBL.out.size; omega) (fun _ e => e.elim)))
        have hdrd : Drw wd B db _ R2 sv2 := ⟨(hfd.block db HDR2.out.lt (fun e => e)).trans HDR2.out.blk, HDR2.out.own.kept (z := none) (Fr.gb (hfd.mono (fun _ _ e => e.elim))) (by simp), HDR2.out.low⟩
        have HA1 := Lib.hid (at1_any (i := i) wd (HF.out.kept (gb_below hb0d none)) (by omega))
        have HA2 := Lib.hid (at1_any (i := i) wd (HT.out.kept (gb_below hb0d none)) (by omega))
        have HAR := Lib.hid (darc_any (atI d.nf d.f i) (atI d.nt d.t i) (t : Int) s.2.2 wd hdrd (by have := HBL.out.size; have := hfd.size; omega) HFS.out HGS2.out.n (HGS2.out.na _))
        have HBXD := Lib.hid hbxd; clear hbxd
        have hbld := HBL.out.trans (hfd.below (show B ≤ wr.heap.size by have := HBL.out.size; omega) (fun _ e => e.elim))
        have HBLD := Lib.hid hbld; clear hbld
        have HKTD := Lib.hid (HKT.out.trans (Kt.of_fr (hfd.mono (fun _ _ e => e.elim))))
        clear hfd hb0d hdrd HDR2 HBL HKT HBX
        go_wp2_with fail
        refine region_heldK (fun wk' => wk'.cell? ⟨xb, 0, none⟩ = some (.slice fa d.nf fc) ∧ wk'.cell? ⟨xb, 1, none⟩ = some (.slice ta d.nt tc)) 15 (by kernel_rfl) ?_
        rw [← hwd]
        clear hwd
        refine AnyK.tk (i := 0) (v := ?vba0) rfl (by kernel_rfl) hS0 (Or.inl ⟨by kernel_rfl, ?hyba0⟩) ?restba0
        case hyba0 => rintro wk ⟨s1, s2⟩; go_simp; try with_reducible rfl
        refine AnyK.tk (i := 1) (v := ?vba1) rfl (by kernel_rfl) hS0 (Or.inl ⟨by kernel_rfl, ?hyba1⟩) ?restba1
        case hyba1 => rintro wk ⟨s1, s2⟩; go_simp; try with_reducible rfl
        refine AnyK.tk (i := 2) (v := ?vba2) rfl (by kernel_rfl) hS0 (Or.inl ⟨by kernel_rfl, ?hyba2⟩) ?restba2
        case hyba2 => rintro wk ⟨s1, s2⟩; go_simp; try with_reducible rfl
        refine AnyK.tk (i := 3) (v := ?vba3) rfl (by kernel_rfl) hS0 (Or.inl ⟨by kernel_rfl, ?hyba3⟩) ?restba3
        case hyba3 => rintro wk ⟨s1, s2⟩; go_simp; try with_reducible rfl
        refine AnyK.tk (i := 4) (v := ?vba4) rfl (by kernel_rfl) hS0 (Or.inl ⟨by kernel_rfl, ?hyba4⟩) ?restba4
        case hyba4 => rintro wk ⟨s1, s2⟩; go_simp; try with_reducible rfl
        refine AnyK.tk (i := 5) (v := ?vba5) rfl (by kernel_rfl) hS0 (Or.inl ⟨by kernel_rfl, ?hyba5⟩) ?restba5
        case hyba5 => rintro wk ⟨s1, s2⟩; go_simp; try with_reducible rfl
        try simp only [Act.put, List.setIfInBounds_toArray, List.set_cons_zero, List.set_cons_succ, List.getElem_toArray, List.getElem_cons_succ, List.getElem_cons_zero]
        refine AnyK.tk (i := 7) (v := ?vbb7) rfl (by kernel_rfl) hS0 (Or.inl ⟨by kernel_rfl, ?hybb7⟩) ?restbb7
        case hybb7 => rintro wk ⟨s1, s2⟩; go_simp; try with_reducible rfl
        refine AnyK.tk (i := 8) (v := ?vbb8) rfl (by kernel_rfl) hS0 (Or.inl ⟨by kernel_rfl, ?hybb8⟩) ?restbb8
        case hybb8 => rintro wk ⟨s1, s2⟩; go_simp; try with_reducible rfl
        refine AnyK.tk (i := 9) (v := ?vbb9) rfl (by kernel_rfl) hS0 (Or.inl ⟨by kernel_rfl, ?hybb9⟩) ?restbb9
        case hybb9 => rintro wk ⟨s1, s2⟩; go_simp; try with_reducible rfl
        refine AnyK.tk (i := 10) (v := ?vbb10) rfl (by kernel_rfl) hS0 (Or.inl ⟨by kernel_rfl, ?hybb10⟩) ?restbb10
        case hybb10 => rintro wk ⟨s1, s2⟩; go_simp; try with_reducible rfl
        try simp only [Act.put, List.setIfInBounds_toArray, List.set_cons_zero, List.set_cons_succ, List.getElem_toArray, List.getElem_cons_succ, List.getElem_cons_zero]
        refine AnyK.tk (i := 12) (v := ?vbc12) rfl (by kernel_rfl) hS0 (Or.inl ⟨by kernel_rfl, ?hybc12⟩) ?restbc12
        case hybc12 => rintro wk ⟨s1, s2⟩; go_simp; try with_reducible rfl
        refine AnyK.tk (i := 13) (v := ?vbc13) rfl (by kernel_rfl) hS0 (Or.inl ⟨by kernel_rfl, ?hybc13⟩) ?restbc13
        case hybc13 => rintro wk ⟨s1, s2⟩; go_simp; try with_reducible rfl
        try simp only [Act.put, List.setIfInBounds_toArray, List.set_cons_zero, List.set_cons_succ, List.getElem_toArray, List.getElem_cons_succ, List.getElem_cons_zero]
        refine AnyK.one (i := 6) rfl (by kernel_rfl) (by rfl) (fun K hK => ?_)
        go_simp
        refine HA1.out.mono ?_
        rintro r wz ⟨rfl, rfl⟩
        refine hK.out _ _ (.inr hS0) ?_
        clear hK K
        try simp only [Act.put, List.setIfInBounds_toArray, List.set_cons_zero, List.set_cons_succ, List.getElem_toArray, List.getElem_cons_succ, List.getElem_cons_zero]
        refine AnyK.one (i := 11) rfl (by kernel_rfl) (by rfl) (fun K hK => ?_)
        go_simp
        refine HA2.out.mono ?_
        rintro r wz2 ⟨rfl, rfl⟩
        refine hK.out _ _ (.inr hS0) ?_
        clear hK K
        try simp only [Act.put, List.setIfInBounds_toArray, List.set_cons_zero, List.set_cons_succ, List.getElem_toArray, List.getElem_cons_succ, List.getElem_cons_zero]
        refine AnyK.tk (i := 14) (v := ?vbd14) rfl (by kernel_rfl) hS0 (Or.inl ⟨by kernel_rfl, ?hybd14⟩) ?restbd14
        case hybd14 => rintro wk ⟨s1, s2⟩; go_simp; try with_reducible rfl
        try simp only [Act.put, List.setIfInBounds_toArray, List.set_cons_zero, List.set_cons_succ, List.getElem_toArray, List.getElem_cons_succ, List.getElem_cons_zero]
        refine AnyK.one (i := 15) rfl (by kernel_rfl) (by rfl) (fun K hK => ?_)
        go_simp
        refine HAR.out.mono ?_
        rintro r w3 ⟨rfl, hdr3, hbl3, hkt3⟩
        have HBX3 := Lib.hid (hkt3.keep HBXD.out HDN.out (by decide) (by decide))
        have HDR3 := Lib.hid hdr3; clear hdr3
        have HBL3 := Lib.hid (HBLD.out.trans hbl3); clear hbl3
        have HKT3 := Lib.hid (HKTD.out.trans hkt3); clear hkt3
        refine hK.out _ _ (.inl rfl) (AnyK.done (by kernel_rfl) ?_ _)
        clear hK K hS0 HA1 HA2 HAR
        have HON := Lib.hid (semione_any 1 w3)
        go_wp2_with fail
        refine HON.out.mono ?_
        rintro r w4 ⟨rfl, hb4⟩
        have hf4 : Fr (fun _ => False) w3 w4 := Fr.of_below hb4
        obtain ⟨R4, sv4, hdr4⟩ := HDR3.out
        have hdr5 : Drw w4 B db _ R4 sv4 := ⟨(hf4.block db hdr4.lt (fun e => e)).trans hdr4.blk, hdr4.own.kept (z := none) (Fr.gb (hf4.mono (fun _ _ e => e.elim))) (by simp), hdr4.low⟩
        have HBX4 := Lib.hid ((hf4.block xb (lt_of_block HBX3.out) (fun e => e)).trans HBX3.out)
        have HDR4 := Lib.hid hdr5; clear hdr5 hdr4
        have HBL4 := Lib.hid (HBL3.out.trans (hf4.below (show B ≤ w3.heap.size by have := HBL3.out.size; omega) (fun _ e => e.elim)))
        have HKT4 := Lib.hid (HKT3.out.trans (Kt.of_fr (hf4.mono (fun _ _ e => e.elim))))
        clear hf4 hb4 HDR3
        go_wp2_with fail
        go_roundw
        case rel => exact ⟨i + 1, _, by omega, rfl, by rw [HNX.out], by rw [HNX.out], by go_num, by rw [HNX.out]; exact ⟨_, _, HDR4.out⟩, HBL4.out, HKT4.out, HBX4.out⟩
        case measure => simp [intOf]; omega
    · have him : i = m := by omega
      have hgt : ¬ ((i : Int) < (m : Int)) := by omega
      subst him
      go_wp2_with fail
      go_end0
      exact ⟨rfl, by rw [← HS.out]; exact ⟨HDR.out, HBL.out, HKT.out⟩⟩
end Go.Proofs.YtjekapjbigfkbaaGreatDoor

namespace Go.Proofs.YtjekapjbigfkbaaGreatDoor
open Go Go.RowKit Go.Deep
set_option maxRecDepth 100000
set_option linter.unusedSimpArgs false
def Box4 (w : World) (b : Nat) (kd st : Int) (ld : ByteArray) (sv : Value) : Prop := w.heap[b]? = some (.cells #[.int .i64 kd, .int .i64 st, .string ld, sv] 36 (0, 0))
theorem box4_set (w : World) (b : Nat) (x0 x1 x2 x3 : Value) {y0 y1 y2 y3 : Value} {t : TypeId} (h : w.heap[b]? = some (.cells #[y0, y1, y2, y3] t (0, 0))) : (w.setCells b 0 [x0, x1, x2, x3]).heap[b]? = some (.cells #[x0, x1, x2, x3] t (0, 0)) := by
  simp [World.setCells, World.setCell, Array.getElem?_modify, h]
theorem below_setCells4 {B b : Nat} {a w : World} (h : Below B a w) (hb : B ≤ b) (x0 x1 x2 x3 : Value) : Below B a (w.setCells b 0 [x0, x1, x2, x3]) :=
  (((h.setCell (p := ⟨b, 0, none⟩) hb x0).setCell (p := ⟨b, 0 + 1, none⟩) hb x1).setCell (p := ⟨b, 0 + 1 + 1, none⟩) hb x2).setCell (p := ⟨b, 0 + 1 + 1 + 1, none⟩) hb x3
theorem box4_there {w : World} {b : Nat} {y0 y1 y2 y3 : Value} {t : TypeId} (h : w.heap[b]? = some (.cells #[y0, y1, y2, y3] t (0, 0))) : w.there b 0 4 := by
  intro j hj
  have : j = 0 ∨ j = 1 ∨ j = 2 ∨ j = 3 := by omega
  rcases this with rfl | rfl | rfl | rfl <;> simp [World.cell?, World.frozen?, h]
theorem Box4.range {w : World} {b : Nat} {kd st : Int} {ld : ByteArray} {sv : Value} (h : Box4 w b kd st ld sv) : w.rangeAt b 0 [.int .i64 kd, .int .i64 st, .string ld, sv] := by
  intro j v hv
  unfold Box4 at h
  have hj : j < 4 := by have := (List.getElem?_eq_some_iff.1 hv).1; simpa using this
  have : j = 0 ∨ j = 1 ∨ j = 2 ∨ j = 3 := by omega
  rcases this with rfl | rfl | rfl | rfl <;> (simp at hv; subst hv; simp [World.cell?, h])
theorem run_load4 {w : World} {b : Nat} {kd st : Int} {ld : ByteArray} {sv : Value} (h : Box4 w b kd st ld sv) : (loadVar 36 ⟨b, 0, none⟩).run Tryz.prog w = .ok (.agg #[.int .i64 kd, .int .i64 st, .string ld, sv]) w :=
  run_loadVar_mid (P := Tryz.prog) w b 0 36 [.int .i64 kd, .int .i64 st, .string ld, sv] _ h.range Tryz.underlying36 rfl (by kernel_rfl)
theorem results_m2 {fn : Func} {p u : Tmp} (h : fn.results = #[.cell p 36, .tmp u]) (tmps : Array Value) {w : World} {b : Nat} {kd st : Int} {ld : ByteArray} {sv v : Value} (hp : tmps.getD p undef = .pointer (some ⟨b, 0, none⟩)) (hu : tmps.getD u undef = v) (hb : Box4 w b kd st ld sv) :
    (results fn tmps).run Tryz.prog w = .ok (.tuple #[.agg #[.int .i64 kd, .int .i64 st, .string ld, sv], v]) w := by
  rw [results_cell_tmp h, hp, hu]
  show ((loadVar 36 ⟨b, 0, none⟩).run Tryz.prog w).andThen _ = _
  rw [run_load4 hb]; rfl
end Go.Proofs.YtjekapjbigfkbaaGreatDoor
