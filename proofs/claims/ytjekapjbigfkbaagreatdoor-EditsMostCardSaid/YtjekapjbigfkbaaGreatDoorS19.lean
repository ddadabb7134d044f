/- Parts of a proof: WgF WgO. -/
import Derived.Test.YtjekapjbigfkbaaGreatDoorS17
import Derived.Test.YtjekapjbigfkbaaGreatDoorS18
import Derived.Laws.Cover3
namespace Go.Proofs.YtjekapjbigfkbaaGreatDoor
open Go Go.RowKit Go.Deep
set_option maxRecDepth 100000
set_option linter.unusedSimpArgs false
set_option maxHeartbeats 8000000 in
theorem finish_any {cb vb : Nat} {D : MD} {sv star : Value} {e : Nat} {v : Nat → ByteArray} (w0 w : World) (hv : VM D) (hD : StS none w0 sv D) (hb0 : Below w0.heap.size w0 w) (ht : Tab w0)
    (hs : Scl w cb D sv star e) (hvr : w.rowIs vb 9 D.n (fun j => .string (v j))) (hcb : w0.heap.size ≤ cb) (hvc : vb ≠ cb) (hvs : ∀ j, smS (v j)) (hfs : ∀ i, smS (D.fin i)) :
    Calls Tryz.prog 88 #[.pointer (some ⟨cb, 0, none⟩), .slice (some ⟨vb, 0, none⟩) D.n D.n] w (fun r w' => r = .returned (.tuple #[.string (finC D v e).1, .int .i64 ((finC D v e).2 : Int)]) ∧ Fr (fun q => q = cb) w w') := by
  obtain ⟨a, cp, b, off, A, C, BB, O, rfl, ha, hc, hm, hb, hrow⟩ := hD.open
  unfold maxLen at hm
  obtain ⟨n, hn⟩ : ∃ n, n = D.n := ⟨_, rfl⟩
  have hn3 : n ≤ 3000 := by rw [hn]; exact hv.n2
  have hn1 : 1 ≤ n := by rw [hn]; exact hv.n1
  rw [← hn] at ha hc hb hrow hvr hs ⊢
  have HN := Lib.hid hn; clear hn
  have HV := Lib.hid hv; clear hv
  have HA := Lib.hid ha; clear ha
  have HB := Lib.hid hb; clear hb
  have HR := Lib.hid hrow; clear hrow hD
  have HTB := Lib.hid ht; clear ht
  have HB0 := Lib.hid hb0; clear hb0
  have hk0 := hs.c0
  have HS := Lib.hid hs; clear hs
  have HVR := Lib.hid hvr; clear hvr
  have HVS := Lib.hid hvs; clear hvs
  have HFS := Lib.hid hfs; clear hfs
  have HVC := Lib.hid hvc; clear hvc
  have HCB := Lib.hid hcb; clear hcb
  obtain rfl := HA.out (by omega)
  go_enter Tryz.func88, Tryz.ntmps88
  go_wp2_with fail
  refine (semizero_any D.kind w).mono ?_
  rintro r w1 ⟨rfl, hb1⟩
  have hs1 : Scl w1 cb D (.slice (some ⟨b, off, none⟩) n cp) star e := by unfold Scl; rw [hb1.block cb HS.out.lt]; exact HS.out
  have hf1 : Fr (fun q => q = cb) w w1 := Fr.of_below hb1
  have HS1 := Lib.hid hs1; clear hs1 hb1 HS
  have HF1 := Lib.hid hf1; clear hf1 hk0
  go_wp2_with fail
  go_loopw [6, 18] (fun s i wr => ∃ q : Nat, q ≤ n ∧ i = .int .i64 (q : Int) ∧ s = .string (endC D v q (zeroF D.kind, e)).1 ∧ Scl wr cb D (.slice (some ⟨b, off, none⟩) n cp) star (endC D v q (zeroF D.kind, e)).2 ∧ Fr (fun q => q = cb) w wr) (fun _ i _ => n - (intOf i).toNat)
  case atStart => exact ⟨0, Nat.zero_le _, rfl, rfl, HS1.out, HF1.out⟩
  case round =>
    obtain ⟨q, hq, rfl, rfl, hsc, hfr⟩ := hrel
    clear HS1 HF1
    have HSC := Lib.hid hsc; clear hsc
    have HFR := Lib.hid hfr; clear hfr
    by_cases hlt : q < n
    · have hqz : (q : Int) < (n : Int) := by omega
      have hqz0 : (0 : Int) ≤ (q : Int) := by omega
      have cv := HFR.out.cell (HVR.out.cell hlt) (p := ⟨vb, q, none⟩) HVC.out
      have HBW := Lib.hid (HB0.out.trans (HFR.out.below HB0.out.size (fun k hk => by subst hk; exact HCB.out)))
      have hbb := (HB.out (by omega)).1
      obtain ⟨k1, _, _, _, _, _, _⟩ := HR.out q hlt
      have c1 := (HBW.out.cell (p := ⟨b, off + q * 2, none⟩) hbb).trans k1
      have m3 := HSC.out.c3
      clear k1
      obtain ⟨s0, hs0⟩ : ∃ s0, s0 = endC D v q (zeroF D.kind, e) := ⟨_, rfl⟩
      have hsm : smS s0.1 := by rw [hs0]; exact endC_sm HVS.out q (show smS (zeroF D.kind) from Nat.le_trans (zeroF_size D.kind) (by omega))
      have hnx : endC D v (q + 1) (zeroF D.kind, e) = if v q = ⟨#[]⟩ ∨ D.fin q = ⟨#[]⟩ then s0 else plusC D.kind s0.1 (timesC D.kind (v q) (D.fin q) s0.2).1 (timesC D.kind (v q) (D.fin q) s0.2).2 := by
        rw [hs0]; rfl
      rw [← hs0] at HSC
      rw [← hs0]
      have HSM := Lib.hid hsm; clear hsm
      have HNX := Lib.hid hnx; clear hnx hs0
      obtain ⟨vq, hvq⟩ : ∃ vq, vq = v q := ⟨_, rfl⟩
      obtain ⟨fq, hfq⟩ : ∃ fq, fq = D.fin q := ⟨_, rfl⟩
      rw [← hvq] at cv
      rw [← hfq] at c1
      rw [← hvq, ← hfq] at HNX
      have hvsm : smS vq := by rw [hvq]; exact HVS.out q
      have hfsm : smS fq := by rw [hfq]; exact HFS.out q
      have HVSM := Lib.hid hvsm; clear hvsm hvq
      have HFSM := Lib.hid hfsm; clear hfsm hfq
      cases hE : (vq.toList == [])
      · cases hF : (fq.toList == [])
        · have he0 : ¬ (vq = ⟨#[]⟩ ∨ fq = ⟨#[]⟩) := fun e => by
            rcases e with e | e
            · rw [e] at hE; simp at hE
            · rw [e] at hF; simp at hF
          rw [if_neg he0] at HNX
          clear he0
          obtain ⟨tp, htp⟩ : ∃ tp, tp = timesC D.kind vq fq s0.2 := ⟨_, rfl⟩
          obtain ⟨zp, hzp⟩ : ∃ zp, zp = plusC D.kind s0.1 tp.1 tp.2 := ⟨_, rfl⟩
          rw [← htp, ← hzp] at HNX
          have hTab1 : Tab wr := HTB.out.below HBW.out (Nat.le_refl _)
          have HTI := Lib.hid (wtimes_any vq fq wr HSC.out HVSM.out HFSM.out hTab1)
          rw [← htp] at HTI
          have htsm : smS tp.1 := by rw [htp]; exact timesC_sm HVSM.out
          have HTS := Lib.hid htsm; clear htsm htp hTab1
          have HZP := Lib.hid hzp; clear hzp
          go_wp2_with fail
          refine HTI.out.mono ?_
          rintro r w2 ⟨rfl, hsc2, hf2⟩
          have hf2' := HFR.out.trans hf2
          have hTab2 : Tab w2 := HTB.out.below (HB0.out.trans (hf2'.below HB0.out.size (fun k hk => by subst hk; exact HCB.out))) (Nat.le_refl _)
          have HPL := Lib.hid (wplus_any s0.1 tp.1 w2 hsc2 HSM.out HTS.out hTab2)
          rw [← HZP.out] at HPL
          have HF2 := Lib.hid hf2'; clear hf2' hf2 hsc2 hTab2 cv c1 m3
          go_wp2_with fail
          refine HPL.out.mono ?_
          rintro r w3 ⟨rfl, hsc3, hf3⟩
          have HF3 := Lib.hid (HF2.out.trans hf3); clear hf3
          have HSC3 := Lib.hid hsc3; clear hsc3
          go_wp2_with fail
          go_roundw
          case rel => exact ⟨q + 1, by omega, by go_num, by rw [HNX.out], by rw [HNX.out]; exact HSC3.out, HF3.out⟩
          case measure => simp [intOf]; omega
        · have he0 : (vq = ⟨#[]⟩ ∨ fq = ⟨#[]⟩) := .inr (empty_eq hF)
          rw [if_pos he0] at HNX
          clear he0
          go_wp2_with fail
          go_roundw
          case rel => exact ⟨q + 1, by omega, by go_num, by rw [HNX.out], by rw [HNX.out]; exact HSC.out, HFR.out⟩
          case measure => simp [intOf]; omega
      · have he0 : (vq = ⟨#[]⟩ ∨ fq = ⟨#[]⟩) := .inl (empty_eq hE)
        rw [if_pos he0] at HNX
        clear he0
        go_wp2_with fail
        go_roundw
        case rel => exact ⟨q + 1, by omega, by go_num, by rw [HNX.out], by rw [HNX.out]; exact HSC.out, HFR.out⟩
        case measure => simp [intOf]; omega
    · have hqn : q = n := by omega
      have hgt : ¬ ((q : Int) < (n : Int)) := by omega
      have HQN := Lib.hid hqn; clear hqn
      obtain ⟨s0, hs0⟩ : ∃ s0, s0 = endC D v q (zeroF D.kind, e) := ⟨_, rfl⟩
      have hfin : finC D v e = if s0.2 ≠ 0 then (⟨#[]⟩, s0.2) else (s0.1, 0) := by unfold finC; rw [← HN.out, ← HQN.out, ← hs0]
      rw [← hs0] at HSC
      rw [← hs0]
      have HFIN := Lib.hid hfin; clear hfin hs0
      have m5 := HSC.out.c5
      by_cases he : s0.2 = 0
      · rw [he] at m5
        have HE := Lib.hid he; clear he
        go_wp2_with fail
        go_ret2
        exact ⟨by rw [HFIN.out, if_neg (by rw [HE.out]; simp)]; rfl, HFR.out⟩
      · have hez : ¬ ((s0.2 : Int) = 0) := by omega
        have HE := Lib.hid he; clear he
        go_wp2_with fail
        go_quiet (fail)
        go_wp2_with fail
        go_ret2
        exact ⟨by rw [HFIN.out, if_pos HE.out]; rfl, ⟨HFR.out.os, HFR.out.tape, HFR.out.output, HFR.out.size, HFR.out.block⟩⟩
theorem enterWord : ∀ args w, (callFunc 123 args).run Tryz.prog w = .ok (.enter 123 args) w := fun args w => by kernel_rfl
theorem word1_any (w : World) (s : Int) : Calls Tryz.prog 123 #[.int .i64 s] w (fun r w' => r = .returned (.bool (offI 500 s)) ∧ w' = w) := by
  by_cases h1 : s < 1
  · go_enter Tryz.func123, Tryz.ntmps123
    go_wp2_with fail
    go_ret
    exact ⟨ret_bool (by simp [offI, h1]), rfl⟩
  · have h1' : decide (s < 1) = false := by simp; omega
    go_enter Tryz.func123, Tryz.ntmps123
    go_wp2_with fail
    go_ret
    exact ⟨ret_bool (by simp [offI, h1']), rfl⟩
def isWord (n : Nat) (x : Nat → Int) : Bool := decide (n ≤ 200) && wordB n x 500
theorem word_any {n : Nat} {v : Value} {x : Nat → Int} (w : World) (hx : Si none w v n x) (hn : (n : Int) ≤ 9223372036854775807) :
    Calls Tryz.prog 77 #[v] w (fun r w' => r = .returned (.bool (isWord n x)) ∧ w' = w) := by
  have hct := contains_any w hx hn (show TstF 123 #[] (offI 500) w from ⟨enterWord, fun s => word1_any w s⟩)
  obtain ⟨a, cap, rfl⟩ := hx.shape
  have HC := Lib.hid hct; clear hct hx
  by_cases h : (n : Int) ≤ 200
  · go_enter Tryz.func77, Tryz.ntmps77
    go_wp2_with fail
    refine HC.out.mono ?_
    rintro r w1 ⟨rfl, rfl⟩
    go_wp2_with fail
    go_ret
    exact ⟨ret_bool (by unfold isWord wordB; rw [show decide (n ≤ 200) = true by simp; omega]; simp), rfl⟩
  · have h' : decide ((n : Int) ≤ 200) = false := by simp; omega
    go_enter Tryz.func77, Tryz.ntmps77
    go_wp2_with fail
    go_ret
    exact ⟨ret_bool (by unfold isWord; rw [show decide (n ≤ 200) = false by simp; omega]; rfl), rfl⟩
theorem enterSilent : ∀ args w, (callFunc 79 args).run Tryz.prog w = .ok (.enter 79 args) w := fun args w => by kernel_rfl
def silB (i o : Int) : Bool := decide (i = 0) && decide (o = 0)
theorem silent_any (w : World) (i o : Int) (s : ByteArray) (t : Int) : Calls Tryz.prog 79 #[.agg #[.int .i64 i, .int .i64 o, .string s, .int .i64 t]] w (fun r w' => r = .returned (.bool (silB i o)) ∧ Below w.heap.size w w') := by
  have hbel := (Below.refl w.heap.size w).alloc (Nat.le_refl _) (.cells #[.int .i64 i, .int .i64 o, .string s, .int .i64 t] 83)
  have HB := Lib.hid hbel; clear hbel
  by_cases h1 : i = 0
  · subst h1
    go_enter Tryz.func79, Tryz.ntmps79
    go_wp2_with fail
    go_ret
    exact ⟨ret_bool (by by_cases h : o = 0 <;> simp [silB, h]), HB.out⟩
  · go_enter Tryz.func79, Tryz.ntmps79
    go_wp2_with fail
    go_ret
    exact ⟨ret_bool (by simp [silB, h1]), HB.out⟩
def BxI (w : World) (xb : Nat) (n : Nat) (x : Nat → Int) : Prop := ∃ v, w.cell? ⟨xb, 0, none⟩ = some v ∧ Si none w v n x
theorem enterW2 : ∀ args w, (callFunc 85 args).run Tryz.prog w = .ok (.enter 85 args) w := fun args w => by kernel_rfl
theorem enterW3 : ∀ args w, (callFunc 86 args).run Tryz.prog w = .ok (.enter 86 args) w := fun args w => by kernel_rfl
theorem enterW4 : ∀ args w, (callFunc 87 args).run Tryz.prog w = .ok (.enter 87 args) w := fun args w => by kernel_rfl
def sel2 (y : Int) (i o : Int) : Bool := decide (i = 0) && decide (o = y)
def sel3 (x : Int) (i o : Int) : Bool := decide (i = x) && decide (o = 0)
def sel4 (x y : Int) (i o : Int) : Bool := decide (i = x) && decide (o = y)
set_option maxHeartbeats 1000000 in
theorem w2_any {yb jb n j : Nat} {y : Nat → Int} (w : World) (hy : BxI w yb n y) (hj : w.cell? ⟨jb, 0, none⟩ = some (.int .i64 (j : Int))) (hjn : j < n) (i o : Int) (s : ByteArray) (t : Int) :
    Calls Tryz.prog 85 #[.agg #[.int .i64 i, .int .i64 o, .string s, .int .i64 t], .pointer (some ⟨yb, 0, none⟩), .pointer (some ⟨jb, 0, none⟩)] w (fun r w' => r = .returned (.bool (sel2 (y j) i o)) ∧ Below w.heap.size w w') := by
  obtain ⟨v, hv, hsi⟩ := hy
  obtain ⟨a, cap, b, off, rfl, ha, hc, hm, hb, hcell⟩ := hsi.open
  obtain rfl := ha (by omega)
  unfold maxLen at hm
  have c0 := hcell j hjn
  clear hcell hsi
  have hjz : (j : Int) < (n : Int) := by omega
  have hjz0 : (0 : Int) ≤ (j : Int) := by omega
  obtain ⟨wm, hwm⟩ : ∃ wm, wm = w.alloc (.cells #[.int .i64 i, .int .i64 o, .string s, .int .i64 t] 83) := ⟨_, rfl⟩
  obtain ⟨mb, hmb⟩ : ∃ mb, mb = w.heap.size := ⟨_, rfl⟩
  have hbel := (Below.refl w.heap.size w).alloc (Nat.le_refl _) (.cells #[.int .i64 i, .int .i64 o, .string s, .int .i64 t] 83)
  have hg : w.grownBy wm none := by rw [hwm]; exact World.grownBy_alloc _ _ _
  rw [← hwm] at hbel
  have a0 : wm.cell? ⟨mb, 0, none⟩ = some (.int .i64 i) := by rw [hwm, hmb]; exact cell_new w _ _ 0 _ rfl
  have a1 : wm.cell? ⟨mb, 1, none⟩ = some (.int .i64 o) := by rw [hwm, hmb]; exact cell_new w _ _ 1 _ rfl
  have d0 := hg.cell hv (by simp)
  have d1 := hg.cell hj (by simp)
  have d2 := hg.cell c0 (by simp)
  have HB := Lib.hid hbel; clear hbel hb ha hv hj c0 hg
  obtain ⟨yj, hyj⟩ : ∃ yj, yj = y j := ⟨_, rfl⟩
  rw [← hyj] at d2
  rw [← hyj]
  clear hyj
  by_cases h1 : i = 0
  · subst h1
    go_enter Tryz.func85, Tryz.ntmps85
    go_wp2_with fail
    rw [← hwm, ← hmb]
    have HWM := Lib.hid hwm; clear hwm
    have HMB := Lib.hid hmb; clear hmb
    go_quiet (fail)
    go_wp2_with fail
    go_ret
    exact ⟨ret_bool (by by_cases h : o = yj <;> simp [sel2, h]), below_drewN HB.out _⟩
  · go_enter Tryz.func85, Tryz.ntmps85
    go_wp2_with fail
    rw [← hwm, ← hmb]
    have HWM := Lib.hid hwm; clear hwm
    have HMB := Lib.hid hmb; clear hmb
    go_quiet (fail)
    go_wp2_with fail
    go_ret
    exact ⟨ret_bool (by simp [sel2, h1]), below_drewN HB.out _⟩
set_option maxHeartbeats 1000000 in
theorem w3_any {xb ib n j : Nat} {x : Nat → Int} (w : World) (hy : BxI w xb n x) (hj : w.cell? ⟨ib, 0, none⟩ = some (.int .i64 (j : Int))) (hjn : j < n) (i o : Int) (s : ByteArray) (t : Int) :
    Calls Tryz.prog 86 #[.agg #[.int .i64 i, .int .i64 o, .string s, .int .i64 t], .pointer (some ⟨xb, 0, none⟩), .pointer (some ⟨ib, 0, none⟩)] w (fun r w' => r = .returned (.bool (sel3 (x j) i o)) ∧ Below w.heap.size w w') := by
  obtain ⟨v, hv, hsi⟩ := hy
  obtain ⟨a, cap, b, off, rfl, ha, hc, hm, hb, hcell⟩ := hsi.open
  obtain rfl := ha (by omega)
  unfold maxLen at hm
  have c0 := hcell j hjn
  clear hcell hsi
  have hjz : (j : Int) < (n : Int) := by omega
  have hjz0 : (0 : Int) ≤ (j : Int) := by omega
  obtain ⟨wm, hwm⟩ : ∃ wm, wm = w.alloc (.cells #[.int .i64 i, .int .i64 o, .string s, .int .i64 t] 83) := ⟨_, rfl⟩
  obtain ⟨mb, hmb⟩ : ∃ mb, mb = w.heap.size := ⟨_, rfl⟩
  have hbel := (Below.refl w.heap.size w).alloc (Nat.le_refl _) (.cells #[.int .i64 i, .int .i64 o, .string s, .int .i64 t] 83)
  have hg : w.grownBy wm none := by rw [hwm]; exact World.grownBy_alloc _ _ _
  rw [← hwm] at hbel
  have a0 : wm.cell? ⟨mb, 0, none⟩ = some (.int .i64 i) := by rw [hwm, hmb]; exact cell_new w _ _ 0 _ rfl
  have a1 : wm.cell? ⟨mb, 1, none⟩ = some (.int .i64 o) := by rw [hwm, hmb]; exact cell_new w _ _ 1 _ rfl
  have d0 := hg.cell hv (by simp)
  have d1 := hg.cell hj (by simp)
  have d2 := hg.cell c0 (by simp)
  have HB := Lib.hid hbel; clear hbel hb ha hv hj c0 hg
  obtain ⟨yj, hyj⟩ : ∃ yj, yj = x j := ⟨_, rfl⟩
  rw [← hyj] at d2
  rw [← hyj]
  clear hyj
  by_cases h1 : i = yj
  · subst h1
    go_enter Tryz.func86, Tryz.ntmps86
    go_wp2_with fail
    rw [← hwm, ← hmb]
    have HWM := Lib.hid hwm; clear hwm
    have HMB := Lib.hid hmb; clear hmb
    go_quiet (fail)
    go_wp2_with fail
    go_ret
    exact ⟨ret_bool (by by_cases h : o = 0 <;> simp [sel3, h]), below_drewN HB.out _⟩
  · go_enter Tryz.func86, Tryz.ntmps86
    go_wp2_with fail
    rw [← hwm, ← hmb]
    have HWM := Lib.hid hwm; clear hwm
    have HMB := Lib.hid hmb; clear hmb
    go_quiet (fail)
    go_wp2_with fail
    go_ret
    exact ⟨ret_bool (by simp [sel3, h1]), below_drewN HB.out _⟩
set_option maxHeartbeats 1000000 in
theorem w4_any {xb ib m k yb jb n j : Nat} {x y : Nat → Int} (w : World) (hx : BxI w xb m x) (hk : w.cell? ⟨ib, 0, none⟩ = some (.int .i64 (k : Int))) (hkm : k < m) (hy : BxI w yb n y) (hj : w.cell? ⟨jb, 0, none⟩ = some (.int .i64 (j : Int))) (hjn : j < n) (i o : Int) (s : ByteArray) (t : Int) :
    Calls Tryz.prog 87 #[.agg #[.int .i64 i, .int .i64 o, .string s, .int .i64 t], .pointer (some ⟨xb, 0, none⟩), .pointer (some ⟨ib, 0, none⟩), .pointer (some ⟨yb, 0, none⟩), .pointer (some ⟨jb, 0, none⟩)] w (fun r w' => r = .returned (.bool (sel4 (x k) (y j) i o)) ∧ Below w.heap.size w w') := by
  obtain ⟨v', hv', hsi'⟩ := hx
  obtain ⟨a', cap', b', off', rfl, ha', hc', hm', hb', hcell'⟩ := hsi'.open
  obtain rfl := ha' (by omega)
  have c0' := hcell' k hkm
  unfold maxLen at hm'
  have hkz : (k : Int) < (m : Int) := by omega
  have hkz0 : (0 : Int) ≤ (k : Int) := by omega
  clear hcell' hsi'
  obtain ⟨v, hv, hsi⟩ := hy
  obtain ⟨a, cap, b, off, rfl, ha, hc, hm, hb, hcell⟩ := hsi.open
  obtain rfl := ha (by omega)
  unfold maxLen at hm
  have c0 := hcell j hjn
  clear hcell hsi
  have hjz : (j : Int) < (n : Int) := by omega
  have hjz0 : (0 : Int) ≤ (j : Int) := by omega
  obtain ⟨wm, hwm⟩ : ∃ wm, wm = w.alloc (.cells #[.int .i64 i, .int .i64 o, .string s, .int .i64 t] 83) := ⟨_, rfl⟩
  obtain ⟨mb, hmb⟩ : ∃ mb, mb = w.heap.size := ⟨_, rfl⟩
  have hbel := (Below.refl w.heap.size w).alloc (Nat.le_refl _) (.cells #[.int .i64 i, .int .i64 o, .string s, .int .i64 t] 83)
  have hg : w.grownBy wm none := by rw [hwm]; exact World.grownBy_alloc _ _ _
  rw [← hwm] at hbel
  have a0 : wm.cell? ⟨mb, 0, none⟩ = some (.int .i64 i) := by rw [hwm, hmb]; exact cell_new w _ _ 0 _ rfl
  have a1 : wm.cell? ⟨mb, 1, none⟩ = some (.int .i64 o) := by rw [hwm, hmb]; exact cell_new w _ _ 1 _ rfl
  have d0 := hg.cell hv (by simp)
  have d1 := hg.cell hj (by simp)
  have d2 := hg.cell c0 (by simp)
  have d0' := hg.cell hv' (by simp)
  have d1' := hg.cell hk (by simp)
  have d2' := hg.cell c0' (by simp)
  have HB := Lib.hid hbel; clear hbel hb ha hv hj c0 hg hb' ha' hv' hk c0'
  obtain ⟨xk, hxk⟩ : ∃ xk, xk = x k := ⟨_, rfl⟩
  rw [← hxk] at d2'
  rw [← hxk]
  clear hxk
  obtain ⟨yj, hyj⟩ : ∃ yj, yj = y j := ⟨_, rfl⟩
  rw [← hyj] at d2
  rw [← hyj]
  clear hyj
  by_cases h1 : i = xk
  · subst h1
    go_enter Tryz.func87, Tryz.ntmps87
    go_wp2_with fail
    rw [← hwm, ← hmb]
    have HWM := Lib.hid hwm; clear hwm
    have HMB := Lib.hid hmb; clear hmb
    go_quiet (fail)
    go_wp2_with fail
    go_ret
    exact ⟨ret_bool (by by_cases h : o = yj <;> simp [sel4, h]), below_drewN HB.out _⟩
  · go_enter Tryz.func87, Tryz.ntmps87
    go_wp2_with fail
    rw [← hwm, ← hmb]
    have HWM := Lib.hid hwm; clear hwm
    have HMB := Lib.hid hmb; clear hmb
    go_quiet (fail)
    go_wp2_with fail
    go_ret
    exact ⟨ret_bool (by simp [sel4, h1]), below_drewN HB.out _⟩
end Go.Proofs.YtjekapjbigfkbaaGreatDoor

namespace Go.Proofs.YtjekapjbigfkbaaGreatDoor
open Go Go.RowKit Go.Deep
set_option maxRecDepth 100000
set_option linter.unusedSimpArgs false
theorem eql_nil (t e : TypeId) (h : Tryz.prog.underlying t = some (.slice e)) (w : World) (a : Option Addr) (n c : Nat) : (binOp .eql t (.slice a n c) (.slice none 0 0)).run Tryz.prog w = .ok (.bool a.isNone) w := by
  simp only [binOp]
  simp [run_equal_slice_nil w t e a n c h]
theorem neq_nil (t e : TypeId) (h : Tryz.prog.underlying t = some (.slice e)) (w : World) (a : Option Addr) (n c : Nat) : (binOp .neq t (.slice a n c) (.slice none 0 0)).run Tryz.prog w = .ok (.bool (!a.isNone)) w := run_neq_slice_nil w t e a n c h
def NoSil (D : MD) : Prop := ∀ q k, q < D.n → k < D.na q → silB (D.ain q k) (D.aout q k) = false
def OpnE (D : MD) (sv : Value) (w : World) (r : Ending) (w' : World) : Prop :=
  Below w.heap.size w w' ∧ ∃ cb, r = .returned (.pointer (some ⟨cb, 0, none⟩)) ∧ w.heap.size ≤ cb ∧ Scl w' cb D sv (.slice none 0 0) 0
set_option maxHeartbeats 8000000 in
theorem open_any {D : MD} {sv : Value} (w : World) (hv : VM D) (hD : StS none w sv D) (hns : NoSil D) :
    Calls Tryz.prog 78 #[.agg #[.int .i64 D.kind, .int .i64 D.start, .string D.lead, sv], .func (.func 79) #[] #[]] w (OpnE D sv w) := by
  obtain ⟨a, cp, b, off, A, C, BB, O, rfl, ha, hc, hm, hb, hrow⟩ := hD.open
  unfold maxLen at hm
  obtain ⟨n, hn⟩ : ∃ n, n = D.n := ⟨_, rfl⟩
  have hn3 : n ≤ 3000 := by rw [hn]; exact hv.n2
  have hn1 : 1 ≤ n := by rw [hn]; exact hv.n1
  rw [← hn] at ha hc hb hrow ⊢
  have hmk : ∀ w, (Instr.makeSlice 66 (.int .i64 0) (.int .i64 60)).run Tryz.prog w = .ok (.slice (some ⟨w.heap.size, 0, none⟩) 0 60) (w.alloc (.cells (madeCells #[.slice none 0 0] 60) 67)) := fun _ => by kernel_rfl
  have hen := enterSilent
  have HN := Lib.hid hn; clear hn
  have HV := Lib.hid hv; clear hv
  have HA := Lib.hid ha; clear ha
  have HB := Lib.hid hb; clear hb
  have HR := Lib.hid hrow; clear hrow hD
  have HNS := Lib.hid hns; clear hns
  obtain rfl := HA.out (by omega)
  obtain ⟨w1, hw1⟩ : ∃ w1, w1 = w.alloc (.cells #[.int .i64 D.kind, .int .i64 D.start, .string D.lead, .slice (some ⟨b, off, none⟩) n cp] 36) := ⟨_, rfl⟩
  obtain ⟨w2, hw2⟩ : ∃ w2, w2 = w1.alloc (.cells #[.int .i64 D.kind, .int .i64 D.start, .string D.lead, .slice (some ⟨b, off, none⟩) n cp, .slice none 0 0, .int .i64 0] 127) := ⟨_, rfl⟩
  obtain ⟨w3, hw3⟩ : ∃ w3, w3 = w2.alloc (.cells (madeCells #[.slice none 0 0] 60) 67) := ⟨_, rfl⟩
  have hz1 : w1.heap.size = w.heap.size + 1 := by rw [hw1]; simp
  have hz2 : w2.heap.size = w.heap.size + 1 + 1 := by rw [hw2]; simp [hz1]
  have hb1 : Below w.heap.size w w1 := by rw [hw1]; exact (Below.refl _ _).alloc (Nat.le_refl _) _
  have hb2 : Below w.heap.size w w2 := by rw [hw2]; exact hb1.alloc (by omega) _
  have hb3 : Below w.heap.size w w3 := by rw [hw3]; exact hb2.alloc (by omega) _
  have hs2 : Scl w2 w1.heap.size D (.slice (some ⟨b, off, none⟩) n cp) (.slice none 0 0) 0 := by rw [hw2]; exact heap_alloc_new w1 _
  have hs3 : Scl w3 w1.heap.size D (.slice (some ⟨b, off, none⟩) n cp) (.slice none 0 0) 0 := by rw [hw3]; unfold Scl; rw [blk_alloc_lt _ _ _ hs2.lt]; exact hs2
  have m3 : w3.cell? ⟨w.heap.size, 3, none⟩ = some (.slice (some ⟨b, off, none⟩) n cp) := by
    rw [hw3, hw2, hw1]
    unfold World.cell?
    rw [blk_alloc_lt _ _ _ (by simp; omega), blk_alloc_lt _ _ _ (by simp), heap_alloc_new]; rfl
  rw [hz1] at hs3
  have HS3 := Lib.hid hs3; clear hs3 hs2
  have HB3 := Lib.hid hb3; clear hb3 hb2 hb1
  clear hz1 hz2
  go_enter Tryz.func78, Tryz.ntmps78
  go_wp2_with fail
  rw [← hw1, ← hw2, ← hw3]
  obtain ⟨cb, hcb⟩ : ∃ cb, cb = w.heap.size + 1 := ⟨_, rfl⟩
  have hwc : w.heap.size ≤ cb := by omega
  rw [← hcb] at HS3
  rw [← hcb]
  clear hw1 hw2 hw3 m3 hmk hcb
  go_loopw [7, 24] (fun y i wr => ∃ q : Nat, q ≤ n ∧ i = .int .i64 (q : Int) ∧ y = .bool false ∧ Scl wr cb D (.slice (some ⟨b, off, none⟩) n cp) (.slice none 0 0) 0 ∧ Below w.heap.size w wr) (fun _ i _ => n - (intOf i).toNat)
  case atStart => exact ⟨0, Nat.zero_le _, rfl, rfl, HS3.out, HB3.out⟩
  case round =>
    obtain ⟨q, hq, rfl, rfl, hsc, hbw⟩ := hrel
    clear HS3 HB3
    have HSC := Lib.hid hsc; clear hsc
    have HBW := Lib.hid hbw; clear hbw
    by_cases hlt : q < n
    · have hqz : (q : Int) < (n : Int) := by omega
      have hqz0 : (0 : Int) ≤ (q : Int) := by omega
      have hbb := (HB.out (by omega)).1
      obtain ⟨k1, k2, k3, k4, k5, k6, k7⟩ := HR.out q hlt
      obtain ⟨aq, haq⟩ : ∃ aq, aq = A q := ⟨_, rfl⟩
      rw [← haq] at k2 k5
      clear haq
      have c0 := (HBW.out.cell (p := ⟨b, off + q * 2, none⟩) hbb).trans k1
      have c1 := (HBW.out.cell (p := ⟨b, off + q * 2 + 1, none⟩) hbb).trans k2
      clear k1 k2
      unfold maxLen at k4
      have hna0 : D.na q ≤ 30000 := by have h1 := Nat.le_trans (arcsTo_mono D (show q + 1 ≤ D.n by have := HN.out; omega)) HV.out.arcs; have h2 : arcsTo D (q + 1) = arcsTo D q + D.na q := rfl; omega
      have HK7 := Lib.hid k7; clear k7
      have HK5 := Lib.hid k5; clear k5
      have HK6 := Lib.hid k6; clear k6
      obtain ⟨wa, hwa⟩ : ∃ wa, wa = wr.alloc (.cells #[.string (D.fin q), .slice aq (D.na q) (C q)] 87) := ⟨_, rfl⟩
      have hba : Below w.heap.size w wa := by rw [hwa]; exact HBW.out.alloc HBW.out.size _
      have hsa : Scl wa cb D (.slice (some ⟨b, off, none⟩) n cp) (.slice none 0 0) 0 := by rw [hwa]; unfold Scl; rw [blk_alloc_lt _ _ _ HSC.out.lt]; exact HSC.out
      have HBA := Lib.hid hba; clear hba
      have HSA := Lib.hid hsa; clear hsa
      go_wp2_with fail
      rw [← hwa]
      clear c0 c1 hwa HSC HBW
      go_loopw [7, 31] (fun y i wr => ∃ d : Nat, d ≤ D.na q ∧ i = .int .i64 (d : Int) ∧ y = .bool false ∧ Scl wr cb D (.slice (some ⟨b, off, none⟩) n cp) (.slice none 0 0) 0 ∧ Below w.heap.size w wr) (fun _ i _ => D.na q - (intOf i).toNat)
      case atStart => exact ⟨0, Nat.zero_le _, rfl, rfl, HSA.out, HBA.out⟩
      case round =>
        obtain ⟨d, hd, rfl, rfl, hsc, hbw⟩ := hrel
        clear HSA HBA
        have HSC := Lib.hid hsc; clear hsc
        have HBW := Lib.hid hbw; clear hbw
        by_cases hdt : d < D.na q
        · have hdz : (d : Int) < (D.na q : Int) := by omega
          have hdz0 : (0 : Int) ≤ (d : Int) := by omega
          have hbB := (HK6.out (by omega)).1
          obtain ⟨t0, t1, t2, t3⟩ := HK7.out d hdt
          obtain rfl := HK5.out (by omega)
          have c0 := (HBW.out.cell (p := ⟨BB q, O q + d * 4, none⟩) hbB).trans t0
          have c1 := (HBW.out.cell (p := ⟨BB q, O q + d * 4 + 1, none⟩) hbB).trans t1
          have c2 := (HBW.out.cell (p := ⟨BB q, O q + d * 4 + 2, none⟩) hbB).trans t2
          have c3 := (HBW.out.cell (p := ⟨BB q, O q + d * 4 + 3, none⟩) hbB).trans t3
          clear t0 t1 t2 t3
          have hsil := HNS.out q d (by have := HN.out; omega) hdt
          obtain ⟨wa, hwa⟩ : ∃ wa, wa = wr.alloc (.cells #[.int .i64 (D.ain q d), .int .i64 (D.aout q d), .string (D.aw q d), .int .i64 (D.ato q d)] 83) := ⟨_, rfl⟩
          have hba : Below w.heap.size w wa := by rw [hwa]; exact HBW.out.alloc HBW.out.size _
          have hsa : Scl wa cb D (.slice (some ⟨b, off, none⟩) n cp) (.slice none 0 0) 0 := by rw [hwa]; unfold Scl; rw [blk_alloc_lt _ _ _ HSC.out.lt]; exact HSC.out
          have hcall := silent_any wa (D.ain q d) (D.aout q d) (D.aw q d) (D.ato q d)
          rw [hsil] at hcall
          have HC := Lib.hid hcall; clear hcall hsil
          have HBA := Lib.hid hba; clear hba
          have HSA := Lib.hid hsa; clear hsa
          go_wp2_with fail
          rw [← hwa]
          clear hwa c0 c1 c2 c3
          refine HC.out.mono ?_
          rintro r w2 ⟨rfl, hb2⟩
          have hbx := HBA.out.trans (hb2.mono HBA.out.size)
          have hsx : Scl w2 cb D (.slice (some ⟨b, off, none⟩) n cp) (.slice none 0 0) 0 := by unfold Scl; rw [hb2.block cb HSA.out.lt]; exact HSA.out
          have HBX := Lib.hid hbx; clear hbx hb2
          have HSX := Lib.hid hsx; clear hsx
          go_wp2_with fail
          go_roundw
          case rel => exact ⟨d + 1, by omega, by go_num, rfl, HSX.out, HBX.out⟩
          case measure => simp [intOf]; omega
        · have hgt : ¬ ((d : Int) < (D.na q : Int)) := by omega
          go_wp2_with fail
          go_roundw
          case rel => exact ⟨q + 1, by omega, by go_num, rfl, HSC.out, HBW.out⟩
          case measure => simp [intOf]; omega
    · have hgt : ¬ ((q : Int) < (n : Int)) := by omega
      go_wp2_with fail
      go_ret
      exact ⟨HBW.out, cb, rfl, hwc, HSC.out⟩
theorem rest_any {cb : Nat} {D : MD} {sv v : Value} {e : Nat} (w : World) (hs : Scl w cb D sv (.slice none 0 0) e) {a : Option Addr} {n cap : Nat} (hv : v = .slice a n cap) :
    Calls Tryz.prog 83 #[.pointer (some ⟨cb, 0, none⟩), v] w (fun r w' => r = .returned v ∧ w' = w) := by
  subst hv
  have k4 := hs.c4
  clear hs
  have hq := fun w => eql_nil 66 67 Tryz.underlying66 w none 0 0
  rw [show (none : Option Addr).isNone = true from rfl] at hq
  go_enter Tryz.func83, Tryz.ntmps83
  go_wp2_with fail
  go_ret
  exact ⟨rfl, rfl⟩
end Go.Proofs.YtjekapjbigfkbaaGreatDoor
