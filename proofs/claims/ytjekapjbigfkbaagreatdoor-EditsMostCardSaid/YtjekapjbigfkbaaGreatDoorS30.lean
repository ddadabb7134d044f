/- Parts of a proof: WgW. -/
import Derived.Test.YtjekapjbigfkbaaGreatDoorS20
namespace Go.Proofs.YtjekapjbigfkbaaGreatDoor
open Go Go.RowKit Go.Deep
set_option maxRecDepth 100000
set_option linter.unusedSimpArgs false
def WgtE (D : MD) (na : Nat) (x : Nat → Int) (nb : Nat) (y : Nat → Int) (w : World) (r : Ending) (w' : World) : Prop :=
  Below w.heap.size w w' ∧ ((VM D ∧ isWord na x = true ∧ isWord nb y = true ∧ r = .returned (.tuple #[.string (wgtC D na x nb y).1, .int .i64 ((wgtC D na x nb y).2 : Int)])) ∨
    (¬ (VM D ∧ isWord na x = true ∧ isWord nb y = true) ∧ r = .returned (.tuple #[.string ⟨#[]⟩, .int .i64 1])))
theorem info_vals : (Tryz.prog.info? 124).map (fun i => (i.zero, i.size, i.bytes)) = some (some (.slice none 0 0), 1, 24) := by kernel_rfl
theorem Bx.ne_scl {w : World} {b cb e : Nat} {t : TypeId} {v : Value} {D : MD} {sv star : Value} (h : Bx w b t v) (h' : Scl w cb D sv star e) : b ≠ cb := by
  rintro rfl; unfold Scl at h'; unfold Bx at h; rw [h] at h'; simp at h'
def ixOf (v : Value) (w : World) : Nat := match v with | .pointer (some a) => (match w.cell? a with | some (.int _ i) => i.toNat | _ => 0) | _ => 0
theorem ixOf_eq {w : World} {b i : Nat} (h : w.cell? ⟨b, 0, none⟩ = some (.int .i64 (i : Int))) : ixOf (.pointer (some ⟨b, 0, none⟩)) w = i := by
  unfold ixOf; simp [h]
set_option maxHeartbeats 16000000 in
theorem weight_any {D : MD} {mv xv yv : Value} {na nb : Nat} {x y : Nat → Int} (w : World) (hM : Ma none w mv D) (hsz : MSz D) (ht : Tab w) (hx : Si none w xv na x) (hy : Si none w yv nb y) (hna : (na : Int) ≤ 9223372036854775807) (hnb : (nb : Int) ≤ 9223372036854775807) (hns : NoSil D) :
    Calls Tryz.prog 38 #[mv, xv, yv] w (WgtE D na x nb y w) := by
  obtain ⟨sv, rfl, hS⟩ := hM
  obtain ⟨a, cap, b, off, A, C, BB, O, hsv, _⟩ := hS.open
  obtain ⟨ax, cx, rfl⟩ := hx.shape
  obtain ⟨ay, cy, rfl⟩ := hy.shape
  subst hsv
  obtain ⟨w1, hw1⟩ : ∃ w1, w1 = w.alloc (.cells #[.int .i64 D.kind, .int .i64 D.start, .string D.lead, .slice a D.n cap] 36) := ⟨_, rfl⟩
  obtain ⟨w2, hw2⟩ : ∃ w2, w2 = w1.alloc (.cells #[.slice ax na cx] 27) := ⟨_, rfl⟩
  obtain ⟨w3, hw3⟩ : ∃ w3, w3 = w2.alloc (.cells #[.slice ay nb cy] 27) := ⟨_, rfl⟩
  have hz1 : w1.heap.size = w.heap.size + 1 := by rw [hw1]; simp
  have hz2 : w2.heap.size = w.heap.size + 1 + 1 := by rw [hw2]; simp [hz1]
  have hz3 : w3.heap.size = w.heap.size + 1 + 1 + 1 := by rw [hw3]; simp [hz2]
  have hf1 : Fr (fun _ => False) w w1 := by rw [hw1]; exact Fr.alloc _ _
  have hf2 : Fr (fun _ => False) w1 w2 := by rw [hw2]; exact Fr.alloc _ _
  have hf3 : Fr (fun _ => False) w2 w3 := by rw [hw3]; exact Fr.alloc _ _
  have hbm0 : BoxM w1 w.heap.size D (.slice a D.n cap) := by rw [hw1]; exact BoxM.new w D _
  have hbm : BoxM w3 w.heap.size D (.slice a D.n cap) := (((hf3.block _ (by omega) (fun e => e)).trans (hf2.block _ (by omega) (fun e => e))).trans hbm0)
  have hbx0 : Bx w2 (w.heap.size + 1) 27 (.slice ax na cx) := by rw [← hz1, hw2]; exact heap_alloc_new w1 _
  have hbx : Bx w3 (w.heap.size + 1) 27 (.slice ax na cx) := hbx0.kept hf3 (fun e => e)
  have hby : Bx w3 (w.heap.size + 1 + 1) 27 (.slice ay nb cy) := by rw [← hz2, hw3]; exact heap_alloc_new w2 _
  have hb3 : Below w.heap.size w w3 := ((hf1.trans hf2).trans hf3).below (Nat.le_refl _) (fun _ e => e.elim)
  obtain ⟨mb, hmb⟩ : ∃ mb, mb = w.heap.size := ⟨_, rfl⟩
  obtain ⟨xb, hxb⟩ : ∃ xb, xb = w.heap.size + 1 := ⟨_, rfl⟩
  obtain ⟨yb, hyb⟩ : ∃ yb, yb = w.heap.size + 1 + 1 := ⟨_, rfl⟩
  rw [← hmb] at hbm
  rw [← hxb] at hbx
  rw [← hyb] at hby
  have hlm : w.heap.size ≤ mb := by omega
  have m0 := hbm.c0
  have m1 := hbm.c1
  have m2 := hbm.c2
  have m3 := hbm.c3
  have HVA := Lib.hid (mvalid_any w3 (⟨_, rfl, hS.kept (gb_below hb3 none)⟩ : Ma none w3 (.agg #[.int .i64 D.kind, .int .i64 D.start, .string D.lead, .slice a D.n cap]) D) hsz (ht.below hb3 (Nat.le_refl _)))
  clear hf1 hf2 hf3 hbm0 hbx0 hz1 hz2 hz3
  have HB3 := Lib.hid hb3; clear hb3
  have HBM := Lib.hid hbm; clear hbm
  have HBXX := Lib.hid hbx; clear hbx
  have HBYY := Lib.hid hby; clear hby
  have HSZ := Lib.hid hsz; clear hsz
  have HTB := Lib.hid ht; clear ht
  have HX := Lib.hid hx; clear hx
  have HY := Lib.hid hy; clear hy
  have HSS := Lib.hid hS; clear hS
  have HNS := Lib.hid hns; clear hns
  go_enter Tryz.func38, Tryz.ntmps38
  go_wp2_with fail
  rw [← hw1, ← hw2, ← hw3, ← hyb, ← hxb, ← hmb]
  clear hw1 hw2 hw3 hmb hxb hyb m0 m1 m2 m3
  refine HVA.out.mono ?_
  rintro r w4 ⟨hb4, hr⟩
  have hb04 := HB3.out.trans (hb4.mono HB3.out.size)
  have hbm4 : BoxM w4 mb D (.slice a D.n cap) := (hb4.block _ HBM.out.lt).trans HBM.out
  have hbx4 : Bx w4 xb 27 (.slice ax na cx) := (hb4.block _ HBXX.out.lt).trans HBXX.out
  have hby4 : Bx w4 yb 27 (.slice ay nb cy) := (hb4.block _ HBYY.out.lt).trans HBYY.out
  have c4 := hbx4.cell
  have HB4 := Lib.hid hb04; clear hb04 hb4 HB3 HVA
  have HBM4 := Lib.hid hbm4; clear hbm4 HBM
  have HBX4 := Lib.hid hbx4; clear hbx4 HBXX
  have HBY4 := Lib.hid hby4; clear hby4 HBYY
  rcases hr with ⟨hv, rfl⟩ | ⟨hv, rfl⟩
  rotate_left
  · have HV := Lib.hid hv; clear hv
    go_wp2_with fail
    go_ret2
    exact ⟨HB4.out, .inr ⟨fun h => HV.out h.1, rfl⟩⟩
  have HV := Lib.hid hv; clear hv
  have HW1 := Lib.hid (word_any w4 (HX.out.kept (gb_below HB4.out none)) hna)
  go_wp2_with fail
  refine HW1.out.mono ?_
  rintro r w4' ⟨rfl, rfl⟩
  cases hwx : isWord na x
  · go_wp2_with fail
    go_ret2
    exact ⟨HB4.out, .inr ⟨fun h => absurd h.2.1 (by rw [hwx]; simp), rfl⟩⟩
  have hna2 : na ≤ 200 := by unfold isWord at hwx; simp at hwx; exact hwx.1
  have HWX := Lib.hid hwx; clear hwx HW1 hna
  have d4 := HBY4.out.cell
  have HW2 := Lib.hid (word_any w4' (HY.out.kept (gb_below HB4.out none)) hnb)
  go_wp2_with fail
  refine HW2.out.mono ?_
  rintro r w5 ⟨rfl, rfl⟩
  cases hwy : isWord nb y
  · go_wp2_with fail
    go_ret2
    exact ⟨HB4.out, .inr ⟨fun h => absurd h.2.2 (by rw [hwy]; simp), rfl⟩⟩
  have hnb2 : nb ≤ 200 := by unfold isWord at hwy; simp at hwy; exact hwy.1
  have HWY := Lib.hid hwy; clear hwy HW2 hnb c4
  have m0 := HBM4.out.c0
  have m1 := HBM4.out.c1
  have m2 := HBM4.out.c2
  have m3 := HBM4.out.c3
  have HOP := Lib.hid (open_any w5 HV.out (HSS.out.kept (gb_below HB4.out none)) HNS.out)
  go_wp2_with fail
  refine HOP.out.mono ?_
  rintro r w6 ⟨hb6, cb, rfl, hcb, hsc⟩
  obtain ⟨m, hm⟩ : ∃ m, m = nb + 1 := ⟨_, rfl⟩
  have hmk := run_make_row' (P := Tryz.prog) 123 124 (.slice none 0 0) 24 Tryz.underlying123 info_vals rfl .i64 .i64 m (by omega) (by omega)
  have hmz : ((m : Nat) : Int) = (nb : Int) + 1 := by omega
  rw [hmz] at hmk
  have HM := Lib.hid hm; clear hm
  have hb06 := HB4.out.trans (hb6.mono HB4.out.size)
  have hbx6 : Bx w6 xb 27 (.slice ax na cx) := (hb6.block _ HBX4.out.lt).trans HBX4.out
  have hby6 : Bx w6 yb 27 (.slice ay nb cy) := (hb6.block _ HBY4.out.lt).trans HBY4.out
  obtain ⟨w7, hw7⟩ : ∃ w7, w7 = w6.alloc (.cells #[.pointer (some ⟨cb, 0, none⟩)] 120) := ⟨_, rfl⟩
  obtain ⟨c8, hc8⟩ : ∃ c8, c8 = w6.heap.size := ⟨_, rfl⟩
  have hf7 : Fr (fun _ => False) w6 w7 := by rw [hw7]; exact Fr.alloc _ _
  have h8 : Bx w7 c8 120 (.pointer (some ⟨cb, 0, none⟩)) := by rw [hw7, hc8]; exact heap_alloc_new w6 _
  have hcb0 : w.heap.size ≤ cb := Nat.le_trans HB4.out.size hcb
  have hwe : WE w w7 cb c8 xb yb D (.slice a D.n cap) (.slice ax na cx) (.slice ay nb cy) 0 := ⟨hb06.trans (hf7.below hb06.size (fun _ e => e.elim)), hsc.kept hf7 (fun e => e), h8, hbx6.kept hf7 (fun e => e), hby6.kept hf7 (fun e => e), hcb0⟩
  have d6 := hwe.ky.cell
  obtain ⟨w8, hw8⟩ : ∃ w8, w8 = w7.alloc (.cells (madeCells #[.slice none 0 0] m) 124) := ⟨_, rfl⟩
  have hz7 : w7.heap.size = w6.heap.size + 1 := by rw [hw7]; simp
  obtain ⟨g, hg⟩ : ∃ g, g = w6.heap.size + 1 := ⟨_, rfl⟩
  have hf8 : Fr (fun _ => False) w7 w8 := by rw [hw8]; exact Fr.alloc _ _
  have hrow8 : w8.rowIs g 124 m (fun _ => .slice none 0 0) := by rw [hw8, hg, ← hz7]; exact World.rowIs_made w7 (.slice none 0 0) m 124
  have hwe8 := hwe.kept hf8 (fun e => e) (fun e => e) (fun e => e) (fun e => e) (fun _ e => e.elim)
  have k8 := hwe8.k8.cell
  have HST := Lib.hid (wstart_any w8 hwe8.sc HV.out.n1 (by have := HV.out.n2; omega) HV.out.s0 HV.out.s1)
  have f0 := hrow8.frozen 0
  have hlg : w.heap.size ≤ g := by have := hwe.hb.size; omega
  have HWE8 := Lib.hid hwe8; clear hwe8 hwe
  have HROW8 := Lib.hid hrow8; clear hrow8
  have HF7 := Lib.hid hf7; clear hf7
  have hlg8 : g < w8.heap.size := HROW8.out.lt
  have hB8 : Below w.heap.size w w8 := HWE8.out.hb
  clear hb06 hbx6 hby6 HBX4 HBY4 HBM4 HB4 hb6 hsc hcb m0 m1 m2 m3 d4 HOP h8 hf8 hz7
  rw [hw7] at d6
  rw [hw8, hw7] at k8
  go_wp2_with fail
  rw [← hg, ← hc8, ← hw7, ← hw8]
  clear d6 k8 hw7 hw8 hc8 hg HF7 hmk hmz
  refine HST.out.mono ?_
  rintro r w9 ⟨rfl, hst9, hf9⟩
  obtain ⟨r0, hr0⟩ : ∃ r0, r0 = w8.heap.size := ⟨_, rfl⟩
  rw [← hr0] at hst9
  rw [← hr0]
  have hwe9 := HWE8.out.kept hf9 (fun e => e) (fun e => e) (fun e => e) (fun e => e) (fun _ e => e.elim)
  have hrow9 := hf9.row HROW8.out (fun e => e)
  have hm0 : (0 : Int) < (m : Int) := by have := HM.out; omega
  have f0 := hrow9.frozen 0
  have g0 := hrow9.cell (i := 0) (by have := HM.out; omega)
  have hn0 : g ≠ r0 := by omega
  have hfs : Fr (fun q => q = g) w9 (w9.setCell ⟨g, 0, none⟩ (.slice (some ⟨r0, 0, none⟩) D.n D.n)) := (Fr.refl (fun q => q = g) w9).set (p := ⟨g, 0, none⟩) (.inl rfl) _
  have hwe10 : WE w (w9.setCell ⟨g, 0, none⟩ (.slice (some ⟨r0, 0, none⟩) D.n D.n)) cb c8 xb yb D (.slice a D.n cap) (.slice ax na cx) (.slice ay nb cy) 0 :=
    hwe9.kept hfs (fun e => rowIs_blk hrow9 hwe9.sc (by decide) e.symm) (fun e => rowIs_blk hrow9 hwe9.k8 (by decide) e.symm) (fun e => rowIs_blk hrow9 hwe9.kx (by decide) e.symm) (fun e => rowIs_blk hrow9 hwe9.ky (by decide) e.symm) (fun q e => by rw [e]; exact hlg)
  have hvr10 : VR1 (w9.setCell ⟨g, 0, none⟩ (.slice (some ⟨r0, 0, none⟩) D.n D.n)) w.heap.size g m D.n (fun j => if j = 0 then some r0 else none) (fun j => if j = 0 then some (startC D) else none) := by
    refine ⟨(hrow9.set 0 _).congr (fun j _ => ?_), hlg, fun j _ => ?_, fun j r x hj h1 h2 => ?_, fun j j' r hj hj' h1 h2 => ?_, fun j x h1 q => ?_⟩
    · by_cases e : j = 0
      · rw [if_pos e, if_pos e]; rfl
      · rw [if_neg e, if_neg e]; rfl
    · by_cases e : j = 0
      · rw [if_pos e, if_pos e]; simp
      · rw [if_neg e, if_neg e]; simp
    · by_cases e : j = 0
      · rw [if_pos e] at h1 h2; cases h1; cases h2
        exact ⟨hst9.setOther (a := ⟨g, 0, none⟩) (fun e => hn0 e.symm) _, by have := hB8.size; omega⟩
      · rw [if_neg e] at h1; cases h1
    · by_cases e : j = 0
      · by_cases e' : j' = 0
        · rw [e, e']
        · rw [if_neg e'] at h2; cases h2
      · rw [if_neg e] at h1; cases h1
    · by_cases e : j = 0
      · rw [if_pos e] at h1; cases h1
        unfold startC; split
        · exact HSZ.out.lead
        · exact noneC_sm 0
      · rw [if_neg e] at h1; cases h1
  have HWE10 := Lib.hid hwe10; clear hwe10 hfs
  have HVR10 := Lib.hid hvr10; clear hvr10
  clear HST hf9 hst9 hwe9 hrow9 HROW8 HWE8 hn0 hr0 hlg8 hB8
  obtain ⟨w10, hw10⟩ : ∃ w10, w10 = w9.setCell ⟨g, 0, none⟩ (.slice (some ⟨r0, 0, none⟩) D.n D.n) := ⟨_, rfl⟩
  rw [← hw10] at HWE10 HVR10
  obtain ⟨ib0, hib0⟩ : ∃ ib0, ib0 = w9.heap.size := ⟨_, rfl⟩
  have hz10 : w10.heap.size = w9.heap.size := by rw [hw10, nblk_setCell]
  obtain ⟨w11, hw11⟩ : ∃ w11, w11 = w10.alloc (.cells #[.int .i64 0] 3) := ⟨_, rfl⟩
  have hf11 : Fr (fun _ => False) w10 w11 := by rw [hw11]; exact Fr.alloc _ _
  have hib11 : Bx w11 ib0 3 (.int .i64 ((0 : Nat) : Int)) := by rw [hw11, hib0, ← hz10]; exact heap_alloc_new w10 _
  have HWE11 := Lib.hid (HWE10.out.kept hf11 (fun e => e) (fun e => e) (fun e => e) (fun e => e) (fun _ e => e.elim)); clear HWE10
  have HVR11 := Lib.hid (HVR10.out.kept hf11); clear HVR10 hf11
  have HIB11 := Lib.hid hib11; clear hib11
  go_wp2_with fail
  rw [← hw10, ← hw11, ← hib0]
  clear hw11 hib0 hz10 hw10 f0 g0 hm0
  have hm2 : m ≤ 201 := by have := HM.out; omega
  go_loopw [9, 10] (fun v9 v10 wr => ∃ (i e g ib : Nat) (R : Nat → Option Nat) (S : Nat → Option VV), i ≤ na + 1 ∧ v9 = .slice (some ⟨g, 0, none⟩) m m ∧ v10 = .pointer (some ⟨ib, 0, none⟩) ∧ Bx wr ib 3 (.int .i64 (i : Int)) ∧ VR1 wr w.heap.size g m D.n R S ∧
    WE w wr cb c8 xb yb D (.slice a D.n cap) (.slice ax na cx) (.slice ay nb cy) e ∧ outC D na x nb y (na + 1 - i) i S e = wgtC D na x nb y) (fun _ v10 wr => na + 2 - ixOf v10 wr)
  case atStart => exact ⟨0, 0, g, ib0, _, _, Nat.zero_le _, rfl, rfl, HIB11.out, HVR11.out, HWE11.out, rfl⟩
  case round =>
    obtain ⟨i, e, g, ib, R, S, hi, rfl, rfl, hib, hvr, hwe, heq⟩ := hrel
    clear HIB11 HVR11 HWE11 hlg
    have HIB := Lib.hid hib; clear hib
    have HVR := Lib.hid hvr; clear hvr
    have HWE := Lib.hid hwe; clear hwe
    have HEQ := Lib.hid heq; clear heq
    have HI := Lib.hid (ixOf_eq HIB.out.cell)
    have ci := HIB.out.cell
    have cx' := HWE.out.kx.cell
    have c8' := HWE.out.k8.cell
    have c5 := HWE.out.sc.c5
    by_cases hin : i ≤ na ∧ e = 0
    · obtain ⟨hi0, rfl⟩ := hin
      have hiz : (i : Int) ≤ (na : Int) := by omega
      have cy' := HWE.out.ky.cell
      have hmk := run_make_row' (P := Tryz.prog) 123 124 (.slice none 0 0) 24 Tryz.underlying123 info_vals rfl .i64 .i64 m (by have := HM.out; omega) (by have := HM.out; omega)
      have hmz : ((m : Nat) : Int) = (nb : Int) + 1 := by have := HM.out; omega
      rw [hmz] at hmk
      clear hmz
      have hmf : ∀ (fn : Fn) (first cap : Array Value) (w : World), (Instr.makeFunc fn first cap).run Tryz.prog w = .ok (.func fn first cap) w := fun _ _ _ _ => rfl
      obtain ⟨wn, hwn⟩ : ∃ wn, wn = wr.alloc (.cells (madeCells #[.slice none 0 0] m) 124) := ⟨_, rfl⟩
      obtain ⟨g2, hg2⟩ : ∃ g2, g2 = wr.heap.size := ⟨_, rfl⟩
      have hfn : Fr (fun _ => False) wr wn := by rw [hwn]; exact Fr.alloc _ _
      have hrown : wn.rowIs g2 124 m (fun _ => .slice none 0 0) := by rw [hwn, hg2]; exact World.rowIs_made wr (.slice none 0 0) m 124
      have hvr2 := HVR.out.two hfn (show wr.heap.size ≤ g2 by omega) HWE.out.hb.size hrown
      obtain ⟨gg, hgg⟩ : ∃ gg : Bool → Nat, gg = fun b => if b then g2 else g := ⟨_, rfl⟩
      rw [← hgg] at hvr2
      have hg0 : gg false = g := by rw [hgg]; rfl
      have hg1 : gg true = g2 := by rw [hgg]; rfl
      have HG0 := Lib.hid hg0; clear hg0
      have HG1 := Lib.hid hg1; clear hg1 hgg
      obtain ⟨R2, hR2⟩ : ∃ R2 : Bool → Nat → Option Nat, R2 = fun b => if b then fun _ => none else R := ⟨_, rfl⟩
      rw [← hR2] at hvr2
      clear hR2
      have HWEN := Lib.hid (HWE.out.kept hfn (fun e => e) (fun e => e) (fun e => e) (fun e => e) (fun _ e => e.elim)); clear HWE
      have HIBN := Lib.hid (HIB.out.kept hfn (fun e => e)); clear HIB
      have HVRN := Lib.hid hvr2; clear hvr2 HVR hfn hrown
      go_wp2_with fail
      rw [← hg2, ← hwn]
      clear hg2 hwn ci cx' c8' c5 cy'
      obtain ⟨s0, hs0⟩ : ∃ s0 : RS, s0 = (twoR S (fun _ => none), 0) := ⟨_, rfl⟩
      have HS00 := Lib.hid hs0
      go_loopw [57] (fun v57 wr => ∃ (j : Nat) (R : Bool → Nat → Option Nat) (s : RS), j ≤ m ∧ v57 = .int .i64 (j : Int) ∧ s = colC D na x nb y i j s0 ∧ VR wr w.heap.size gg m D.n R s.1 ∧ WE w wr cb c8 xb yb D (.slice a D.n cap) (.slice ax na cx) (.slice ay nb cy) s.2 ∧ Bx wr ib 3 (.int .i64 (i : Int))) (fun v57 _ => m - (intOf v57).toNat)
      case atStart => exact ⟨0, R2, s0, Nat.zero_le _, rfl, rfl, by rw [hs0]; exact HVRN.out, by rw [hs0]; exact HWEN.out, HIBN.out⟩
      case round =>
        obtain ⟨j, R, s1, hj, rfl, hs1, hvr, hwe, hib⟩ := hrel
        clear HVRN HWEN HIBN hs0
        have HVR := Lib.hid hvr; clear hvr
        have HWE := Lib.hid hwe; clear hwe
        have HIB := Lib.hid hib; clear hib
        have HS1 := Lib.hid hs1; clear hs1
        by_cases hjm : j < m
        · have HJX := Lib.hid hjm
          have hjz : (j : Int) < (m : Int) := by omega
          have hjz0 : (0 : Int) ≤ (j : Int) := by omega
          obtain ⟨wj, hwj⟩ : ∃ wj, wj = wr.alloc (.cells #[.int .i64 (j : Int)] 3) := ⟨_, rfl⟩
          obtain ⟨jb, hjb⟩ : ∃ jb, jb = wr.heap.size := ⟨_, rfl⟩
          have hfj : Fr (fun _ => False) wr wj := by rw [hwj]; exact Fr.alloc _ _
          have hbj : Bx wj jb 3 (.int .i64 (j : Int)) := by rw [hwj, hjb]; exact heap_alloc_new wr _
          have hvrj := HVR.out.kept hfj (fun _ e => e) (fun _ _ _ _ _ e => e)
          have hg := (hvrj.top false).cell hjm
          rw [HG0.out] at hg
          have HWEj := Lib.hid (HWE.out.kept hfj (fun e => e) (fun e => e) (fun e => e) (fun e => e) (fun _ e => e.elim)); clear HWE
          have HIBj := Lib.hid (HIB.out.kept hfj (fun e => e)); clear HIB
          have HJBj := Lib.hid hbj; clear hbj
          have HVRj := Lib.hid hvrj; clear hvrj HVR hfj
          cases hsv : s1.1 false j with
          | none =>
            have hr := (HVRj.out.non false j hjm).2 hsv
            rw [hr] at hg
            have hg' : wj.cell? ⟨g, j, none⟩ = some (.slice none 0 0) := hg
            have hq := fun w => eql_nil 124 9 Tryz.underlying124 w none 0 0
            rw [show (none : Option Addr).isNone = true from rfl] at hq
            rw [hwj] at hg'
            have hcol : colC D na x nb y i (j + 1) s0 = s1 := by show cellC D na x nb y i j (colC D na x nb y i j s0) = s1; rw [← HS1.out]; unfold cellC; rw [hsv]
            have HCOL := Lib.hid hcol; clear hcol hsv hr hg
            go_wp2_with fail
            rw [← hwj]
            go_roundw
            case rel => exact ⟨j + 1, R, s1, by have := HJX.out; omega, by go_num, HCOL.out.symm, HVRj.out, HWEj.out, HIBj.out⟩
            case measure => simp [intOf]; have := HJX.out; omega
          | some v =>
            obtain ⟨rv, hrv, _, _⟩ := HVRj.out.some_of hjm hsv
            rw [hrv] at hg
            have hg' : wj.cell? ⟨g, j, none⟩ = some (.slice (some ⟨rv, 0, none⟩) D.n D.n) := hg
            have hq := fun w => eql_nil 124 9 Tryz.underlying124 w (some ⟨rv, 0, none⟩) D.n D.n
            rw [show (some (⟨rv, 0, none⟩ : Addr)).isNone = false from rfl] at hq
            have hcol : colC D na x nb y i (j + 1) s0 = cell3 D na x nb y i j v (cell2 D na x i j v (cell1 D nb y j v s1)) := by show cellC D na x nb y i j (colC D na x nb y i j s0) = _; rw [← HS1.out]; unfold cellC; rw [hsv]
            have HCOL := Lib.hid hcol; clear hcol
            have HSV1 := Lib.hid hsv; clear hsv
            have HRV := Lib.hid hrv; clear hrv
            rw [hwj] at hg'
            go_wp2_with fail
            rw [← hjb, ← hwj]
            clear hwj hjb hg' hg hq
            have hfd : Fr (fun _ => False) wj wj.drew := (Fr.refl _ _).drew
            obtain ⟨wd, hwd⟩ : ∃ wd, wd = wj.drew := ⟨_, rfl⟩
            rw [← hwd] at hfd
            have hwed := HWEj.out.kept hfd (fun e => e) (fun e => e) (fun e => e) (fun e => e) (fun _ e => e.elim)
            have hvrd := HVRj.out.kept hfd (fun _ e => e) (fun _ _ _ _ _ e => e)
            have hibd := HIBj.out.kept hfd (fun e => e)
            have hjbd := HJBj.out.kept hfd (fun e => e)
            have hS0 : wd.cell? ⟨c8, 0, none⟩ = some (.pointer (some ⟨cb, 0, none⟩)) ∧ wd.cell? ⟨jb, 0, none⟩ = some (.int .i64 (j : Int)) ∧ wd.cell? ⟨g, j, none⟩ = some (.slice (some ⟨rv, 0, none⟩) D.n D.n) :=
              ⟨hwed.k8.cell, hjbd.cell, by have h1 := (hvrd.top false).cell hjm; rw [HG0.out, HRV.out] at h1; exact h1⟩
            have hsame := hvrd.same false (j := j)
            rw [HG0.out, HRV.out] at hsame
            have hsame' : VR (wd.setCell ⟨g, j, none⟩ (.slice (some ⟨rv, 0, none⟩) D.n D.n)) w.heap.size gg m D.n R s1.1 := hsame
            have hfst : Fr (fun q => q = g) wd (wd.setCell ⟨g, j, none⟩ (.slice (some ⟨rv, 0, none⟩) D.n D.n)) := (Fr.refl (fun q => q = g) wd).set (p := ⟨g, j, none⟩) (.inl rfl) _
            have hgc : ∀ q cs t fr, wd.heap[q]? = some (.cells cs t fr) → t ≠ 124 → ¬ (q = g) := fun q cs t fr h1 h2 e => hvrd.gne_of h1 h2 false (by rw [HG0.out]; exact e.symm)
            have hwes := hwed.kept hfst (hgc cb _ _ _ hwed.sc (by decide)) (hgc c8 _ _ _ hwed.k8 (by decide)) (hgc xb _ _ _ hwed.kx (by decide)) (hgc yb _ _ _ hwed.ky (by decide)) (fun q e => by rw [e, ← HG0.out]; exact hvrd.low false)
            have hibs := hibd.kept hfst (hgc ib _ _ _ hibd (by decide))
            have hjbs := hjbd.kept hfst (hgc jb _ _ _ hjbd (by decide))
            have fg := (hvrd.top false).frozen j
            rw [HG0.out] at fg
            have HRS := Lib.hid (rest_any (v := .slice (some ⟨rv, 0, none⟩) D.n D.n) wd hwed.sc rfl)
            have HVR := Lib.hid hsame'; clear hsame' hsame
            have HWE := Lib.hid hwes; clear hwes hwed HWEj
            have HIB := Lib.hid hibs; clear hibs hibd HIBj
            have HJB := Lib.hid hjbs; clear hjbs hjbd HJBj
            clear hvrd HVRj hfd hfst hgc
            refine region_heldK (fun wk' => wk'.cell? ⟨c8, 0, none⟩ = some (.pointer (some ⟨cb, 0, none⟩)) ∧ wk'.cell? ⟨jb, 0, none⟩ = some (.int .i64 (j : Int)) ∧ wk'.cell? ⟨g, j, none⟩ = some (.slice (some ⟨rv, 0, none⟩) D.n D.n)) 9 (by kernel_rfl) ?_
            rw [← hwd]
            clear hwd
            refine AnyK.tk (i := 0) (v := ?vr0) rfl (by kernel_rfl) hS0 (Or.inl ⟨by kernel_rfl, ?hyr0⟩) ?restr0
            case hyr0 => rintro wk ⟨s1', s2', s3'⟩; go_simp; try with_reducible rfl
            refine AnyK.tk (i := 1) (v := ?vr1) rfl (by kernel_rfl) hS0 (Or.inl ⟨by kernel_rfl, ?hyr1⟩) ?restr1
            case hyr1 => rintro wk ⟨s1', s2', s3'⟩; go_simp; try with_reducible rfl
            refine AnyK.tk (i := 2) (v := ?vr2) rfl (by kernel_rfl) hS0 (Or.inl ⟨by kernel_rfl, ?hyr2⟩) ?restr2
            case hyr2 => rintro wk ⟨s1', s2', s3'⟩; go_simp; try with_reducible rfl
            refine AnyK.tk (i := 3) (v := ?vr3) rfl (by kernel_rfl) hS0 (Or.inl ⟨by kernel_rfl, ?hyr3⟩) ?restr3
            case hyr3 => rintro wk ⟨s1', s2', s3'⟩; go_simp; try with_reducible rfl
            refine AnyK.tk (i := 4) (v := ?vr4) rfl (by kernel_rfl) hS0 (Or.inl ⟨by kernel_rfl, ?hyr4⟩) ?restr4
            case hyr4 => rintro wk ⟨s1', s2', s3'⟩; go_simp; try with_reducible rfl
            refine AnyK.tk (i := 5) (v := ?vr5) rfl (by kernel_rfl) hS0 (Or.inl ⟨by kernel_rfl, ?hyr5⟩) ?restr5
            case hyr5 => rintro wk ⟨s1', s2', s3'⟩; go_simp; try with_reducible rfl
            refine AnyK.tk (i := 6) (v := ?vr6) rfl (by kernel_rfl) hS0 (Or.inl ⟨by kernel_rfl, ?hyr6⟩) ?restr6
            case hyr6 => rintro wk ⟨s1', s2', s3'⟩; go_simp; try with_reducible rfl
            try simp only [Act.put, List.setIfInBounds_toArray, List.set_cons_zero, List.set_cons_succ, List.getElem_toArray, List.getElem_cons_succ, List.getElem_cons_zero]
            refine AnyK.one (i := 7) rfl (by kernel_rfl) (by rfl) (fun K hK => ?_)
            go_simp
            refine HRS.out.mono ?_
            rintro r wz ⟨rfl, rfl⟩
            refine hK.out _ _ (.inr hS0) ?_
            clear hK K
            try simp only [Act.put, List.setIfInBounds_toArray, List.set_cons_zero, List.set_cons_succ, List.getElem_toArray, List.getElem_cons_succ, List.getElem_cons_zero]
            refine AnyK.tk (i := 8) (v := ?vq8) rfl (by kernel_rfl) hS0 (Or.inl ⟨by kernel_rfl, ?hyq8⟩) ?restq8
            case hyq8 => rintro wk ⟨s1', s2', s3'⟩; go_simp; try with_reducible rfl
            try simp only [Act.put, List.setIfInBounds_toArray, List.set_cons_zero, List.set_cons_succ, List.getElem_toArray, List.getElem_cons_succ, List.getElem_cons_zero]
            have g0 := hS0.2.2
            refine AnyK.one (i := 9) rfl (by kernel_rfl) (by rfl) (fun K hK => ?_)
            go_simp
            refine hK.out _ _ (.inl rfl) (AnyK.done (by kernel_rfl) ?_ _)
            clear hK K HRS
            obtain ⟨ws, hws⟩ : ∃ ws, ws = wz.setCell ⟨g, j, none⟩ (.slice (some ⟨rv, 0, none⟩) D.n D.n) := ⟨_, rfl⟩
            rw [← hws] at HVR HWE HIB HJB
            rw [← hws]
            clear hws hS0 fg g0
            by_cases hj1 : j < nb
            · have hj1z : (j : Int) < (nb : Int) := by omega
              have ci := HIB.out.cell
              have cj := HJB.out.cell
              have cx' := HWE.out.kx.cell
              have cy' := HWE.out.ky.cell
              go_wp2_with fail
              clear ci cj cx' cy'
              have HJM := Lib.hid (show (j + 1) < m by have := HM.out; omega)
              have hfda : Fr (fun _ => False) ws ws.drew := (Fr.refl _ _).drew
              obtain ⟨wda, hwda⟩ : ∃ wda, wda = ws.drew := ⟨_, rfl⟩
              rw [← hwda] at hfda
              have hwea := HWE.out.kept hfda (fun e => e) (fun e => e) (fun e => e) (fun e => e) (fun _ e => e.elim)
              have hvra := HVR.out.kept hfda (fun _ e => e) (fun _ _ _ _ _ e => e)
              have hiba := HIB.out.kept hfda (fun e => e)
              have hjba := HJB.out.kept hfda (fun e => e)
              have hSa : wda.cell? ⟨c8, 0, none⟩ = some (.pointer (some ⟨cb, 0, none⟩)) ∧ wda.cell? ⟨jb, 0, none⟩ = some (.int .i64 (j : Int)) ∧ wda.cell? ⟨g, j, none⟩ = some (.slice (some ⟨rv, 0, none⟩) D.n D.n) :=
                ⟨hwea.k8.cell, hjba.cell, by have h1 := (hvra.top false).cell hjm; rw [HG0.out, HRV.out] at h1; exact h1⟩
              have hata := at_any (b := false) (j := (j + 1)) wda hvra hwea.sc hwea.k8.cell HJM.out hwea.hb.size HV.out.n1 (by have := HV.out.n2; omega)
              rw [HG0.out] at hata
              have hwr : IntKind.i64.wrap ((j : Int) + 1) = (j : Int) + 1 := by rw [IntKind.wrap_i64]; have := HM.out; omega
              rw [show (((j + 1 : Nat)) : Int) = (j : Int) + 1 by omega] at hata
              have HATa := Lib.hid hata; clear hata
              have HWEa := Lib.hid hwea; clear hwea HWE
              have HVRa := Lib.hid hvra; clear hvra HVR
              have HIBa := Lib.hid hiba; clear hiba HIB
              have HJBa := Lib.hid hjba; clear hjba HJB hfda
              refine region_heldK (fun wk' => wk'.cell? ⟨c8, 0, none⟩ = some (.pointer (some ⟨cb, 0, none⟩)) ∧ wk'.cell? ⟨jb, 0, none⟩ = some (.int .i64 (j : Int)) ∧ wk'.cell? ⟨g, j, none⟩ = some (.slice (some ⟨rv, 0, none⟩) D.n D.n)) 11 (by kernel_rfl) ?_
              rw [← hwda]
              clear hwda
              refine AnyK.tk (i := 0) (v := ?vtAa0) rfl (by kernel_rfl) hSa (Or.inl ⟨by kernel_rfl, ?hytAa0⟩) ?resttAa0
              case hytAa0 => rintro wk ⟨s1', s2', s3'⟩; go_simp; try with_reducible rfl
              refine AnyK.tk (i := 1) (v := ?vtAa1) rfl (by kernel_rfl) hSa (Or.inl ⟨by kernel_rfl, ?hytAa1⟩) ?resttAa1
              case hytAa1 => rintro wk ⟨s1', s2', s3'⟩; go_simp; try with_reducible rfl
              refine AnyK.tk (i := 2) (v := ?vtAa2) rfl (by kernel_rfl) hSa (Or.inl ⟨by kernel_rfl, ?hytAa2⟩) ?resttAa2
              case hytAa2 => rintro wk ⟨s1', s2', s3'⟩; go_simp; try with_reducible rfl
              refine AnyK.tk (i := 3) (v := ?vtAa3) rfl (by kernel_rfl) hSa (Or.inl ⟨by kernel_rfl, ?hytAa3⟩) ?resttAa3
              case hytAa3 => rintro wk ⟨s1', s2', s3'⟩; go_simp; try with_reducible rfl
              refine AnyK.tk (i := 4) (v := ?vtAa4) rfl (by kernel_rfl) hSa (Or.inl ⟨by kernel_rfl, ?hytAa4⟩) ?resttAa4
              case hytAa4 => rintro wk ⟨s1', s2', s3'⟩; go_simp; try with_reducible rfl
              try simp only [Act.put, List.setIfInBounds_toArray, List.set_cons_zero, List.set_cons_succ, List.getElem_toArray, List.getElem_cons_succ, List.getElem_cons_zero]
              refine AnyK.tk (i := 6) (v := ?vtBa6) rfl (by kernel_rfl) hSa (Or.inl ⟨by kernel_rfl, ?hytBa6⟩) ?resttBa6
              case hytBa6 => rintro wk ⟨s1', s2', s3'⟩; go_simp; try with_reducible rfl
              refine AnyK.tk (i := 7) (v := ?vtBa7) rfl (by kernel_rfl) hSa (Or.inl ⟨by kernel_rfl, ?hytBa7⟩) ?resttBa7
              case hytBa7 => rintro wk ⟨s1', s2', s3'⟩; go_simp; try with_reducible rfl
              refine AnyK.tk (i := 8) (v := ?vtBa8) rfl (by kernel_rfl) hSa (Or.inl ⟨by kernel_rfl, ?hytBa8⟩) ?resttBa8
              case hytBa8 => rintro wk ⟨s1', s2', s3'⟩; go_simp; try with_reducible rfl
              refine AnyK.tk (i := 9) (v := ?vtBa9) rfl (by kernel_rfl) hSa (Or.inl ⟨by kernel_rfl, ?hytBa9⟩) ?resttBa9
              case hytBa9 => rintro wk ⟨s1', s2', s3'⟩; go_simp; try with_reducible rfl
              refine AnyK.tk (i := 10) (v := ?vtBa10) rfl (by kernel_rfl) hSa (Or.inl ⟨by kernel_rfl, ?hytBa10⟩) ?resttBa10
              case hytBa10 => rintro wk ⟨s1', s2', s3'⟩; go_simp; try with_reducible rfl
              try simp only [Act.put, List.setIfInBounds_toArray, List.set_cons_zero, List.set_cons_succ, List.getElem_toArray, List.getElem_cons_succ, List.getElem_cons_zero]
              refine AnyK.one (i := 5) rfl (by kernel_rfl) (by rfl) (fun K hK => ?_)
              go_simp
              refine HATa.out.mono ?_
              rintro r waa ⟨Ra, r0a, rfl, hr0, hRn, hvr, hf⟩
              have hgc : ∀ q cs t fr, wda.heap[q]? = some (.cells cs t fr) → t ≠ 124 → ¬ (q = gg false) := fun q cs t fr h1 h2 e => HVRa.out.gne_of h1 h2 false e.symm
              have hwe := HWEa.out.kept hf (hgc cb _ _ _ HWEa.out.sc (by decide)) (hgc c8 _ _ _ HWEa.out.k8 (by decide)) (hgc xb _ _ _ HWEa.out.kx (by decide)) (hgc yb _ _ _ HWEa.out.ky (by decide)) (fun q e => by rw [e]; exact HVRa.out.low false)
              have hib := HIBa.out.kept hf (hgc ib _ _ _ HIBa.out (by decide))
              have hjb := HJBa.out.kept hf (hgc jb _ _ _ HJBa.out (by decide))
              have hne : ¬ (false = false ∧ j = (j + 1)) := fun e => by have := e.2; omega
              have hrv1 : Ra false j = some rv := (hRn false j hne).trans HRV.out
              have hsv1 : (updV s1.1 false (j + 1) ((s1.1 false (j + 1)).getD noneC)) false j = some v := (updV_ne hne).trans HSV1.out
              have hvrow := hvr.row false j rv v hjm hrv1 hsv1
              have hlrow := hvr.row false (j + 1) r0a ((s1.1 false (j + 1)).getD noneC) HJM.out hr0 (updV_at _ _ _ _)
              have hcr0 : cb ≠ r0a := (rowIs_blk hlrow.1 (show waa.heap[cb]? = _ from hwe.sc) (by decide)).symm
              have hcrv : rv ≠ cb := rowIs_blk hvrow.1 (show waa.heap[cb]? = _ from hwe.sc) (by decide)
              have hvl : rv ≠ r0a := fun e => hne (hvr.sep false j false (j + 1) rv hjm HJM.out hrv1 (by rw [e]; exact hr0))
              have hls : ∀ q, smS (((s1.1 false (j + 1)).getD noneC) q) := hvr.sm false (j + 1) _ (updV_at _ _ _ _)
              have hvs : ∀ q, smS (v q) := hvr.sm false j v hsv1
              have hni : ib ≠ cb := Bx.ne_scl hib hwe.sc
              have hnj : jb ≠ cb := Bx.ne_scl hjb hwe.sc
              have hP : PWt w cb xb yb ib jb (.slice ax na cx) (.slice ay nb cy) i j waa := ⟨hwe.hb, hwe.kx, hwe.ky, hib, hjb, hwe.nx, hwe.ny, hni, hnj⟩
              have lx := (rowIs_blk hlrow.1 hwe.kx (by decide)).symm
              have ly := (rowIs_blk hlrow.1 hwe.ky (by decide)).symm
              have li := (rowIs_blk hlrow.1 hib (by decide)).symm
              have lj := (rowIs_blk hlrow.1 hjb (by decide)).symm
              have hstp := step_any (nf := 85) (cap := #[.pointer (some ⟨yb, 0, none⟩), .pointer (some ⟨jb, 0, none⟩)]) (sel := sel2 (y j)) (P := PWt w cb xb yb ib jb (.slice ax na cx) (.slice ay nb cy) i j) w waa HV.out HSS.out hwe.hb HTB.out hwe.sc hlrow.1 hvrow.1 hwe.lc hlrow.2 hcr0 hvl hcrv hls hvs HSZ.out.aw hP
                (fun wa wb hp hf => hp.fr hf hwe.lc hlrow.2 lx ly li lj) (tst2 HY.out hj1)
              have hS'a : waa.cell? ⟨c8, 0, none⟩ = some (.pointer (some ⟨cb, 0, none⟩)) ∧ waa.cell? ⟨jb, 0, none⟩ = some (.int .i64 (j : Int)) ∧ waa.cell? ⟨g, j, none⟩ = some (.slice (some ⟨rv, 0, none⟩) D.n D.n) :=
                ⟨hwe.k8.cell, hjb.cell, by have h1 := (hvr.top false).cell hjm; rw [HG0.out, hrv1] at h1; exact h1⟩
              have hcg : ∀ b, gg b ≠ cb := fun b => hvr.gne_of (show waa.heap[cb]? = _ from hwe.sc) (by decide) b
              have hcr : ∀ b j r, j < m → Ra b j = some r → r ≠ cb := fun b j r h1 h2 => hvr.rne_of (show waa.heap[cb]? = _ from hwe.sc) (by decide) h1 h2
              have hmk2a := hvs
              have hnx : ∀ (wz : World) (lz : wz.rowIs r0a 9 D.n (fun q => .string ((stepC D (sel2 (y j)) v D.n ((s1.1 false (j + 1)).getD noneC, s1.2)).1 q))), Fr (fun q => q = cb ∨ q = r0a) waa wz → Scl wz cb D (.slice a D.n cap) (.slice none 0 0) (stepC D (sel2 (y j)) v D.n ((s1.1 false (j + 1)).getD noneC, s1.2)).2 →
                  VR wz w.heap.size gg m D.n Ra (stepAt D false (j + 1) (sel2 (y j)) v s1).1 ∧ WE w wz cb c8 xb yb D (.slice a D.n cap) (.slice ax na cx) (.slice ay nb cy) (stepAt D false (j + 1) (sel2 (y j)) v s1).2 ∧ Bx wz ib 3 (.int .i64 (i : Int)) ∧ Bx wz jb 3 (.int .i64 (j : Int)) := fun wz lz fz sz => by
                have h1 := hvr.step2 HJM.out hr0 fz hcg hcr lz (stepC_sm hvs D.n hls)
                rw [updV_twice] at h1
                exact ⟨h1, hwe.stepped fz sz hlrow.1 hlrow.2, hib.kept fz (fun e => e.elim hni li), hjb.kept fz (fun e => e.elim hnj lj)⟩
              have HSTPa := Lib.hid hstp; clear hstp
              have HNXa := Lib.hid hnx; clear hnx
              have HRV := Lib.hid hrv1; clear hrv1
              have hsv2 : (stepAt D false (j + 1) (sel2 (y j)) v s1).1 false j = some v := (stepAt_ne hne).trans HSV1.out
              clear hmk2a hgc hwe hib hjb hsv1 hvrow hlrow hcr0 hcrv hvl hls hvs hni hnj hP lx ly li lj hcg hcr hf hvr hRn hr0 hne
              have hmarka := hS'a
              refine hK.out _ _ (.inr hS'a) ?_
              clear hK K
              try simp only [Act.put, List.setIfInBounds_toArray, List.set_cons_zero, List.set_cons_succ, List.getElem_toArray, List.getElem_cons_succ, List.getElem_cons_zero]
              refine AnyK.one (i := 11) rfl (by kernel_rfl) (by rfl) (fun K hK => ?_)
              go_simp
              refine HSTPa.out.mono ?_
              rintro r wt ⟨rfl, hl2, hs2, hf2⟩
              obtain ⟨hvr, hwe, hib, hjb⟩ := HNXa.out wt hl2 hf2 hs2
              refine hK.out _ _ (.inl rfl) (AnyK.done (by kernel_rfl) ?_ _)
              clear hK K hmarka hwr hl2 hf2 hs2 HSTPa HNXa HATa hSa hS'a HVRa HWEa HIBa HJBa
              obtain ⟨s2, hs2⟩ : ∃ s2, s2 = stepAt D false (j + 1) (sel2 (y j)) v s1 := ⟨_, rfl⟩
              rw [← hs2] at hvr hwe hsv2
              have HS2 := Lib.hid hs2; clear hs2
              have HSV2 := Lib.hid hsv2; clear hsv2
              have HVR := Lib.hid hvr; clear hvr
              have HWE := Lib.hid hwe; clear hwe
              have HIB := Lib.hid hib; clear hib
              have HJB := Lib.hid hjb; clear hjb
              by_cases hi1 : i < na
              · have hi1z : (i : Int) < (na : Int) := by omega
                have ci := HIB.out.cell
                have cj := HJB.out.cell
                have cx' := HWE.out.kx.cell
                have cy' := HWE.out.ky.cell
                go_wp2_with fail
                clear ci cj cx' cy'
                have HJM := Lib.hid (show j < m by have := HM.out; omega)
                have hfdb : Fr (fun _ => False) wt wt.drew := (Fr.refl _ _).drew
                obtain ⟨wdb, hwdb⟩ : ∃ wdb, wdb = wt.drew := ⟨_, rfl⟩
                rw [← hwdb] at hfdb
                have hweb := HWE.out.kept hfdb (fun e => e) (fun e => e) (fun e => e) (fun e => e) (fun _ e => e.elim)
                have hvrb := HVR.out.kept hfdb (fun _ e => e) (fun _ _ _ _ _ e => e)
                have hibb := HIB.out.kept hfdb (fun e => e)
                have hjbb := HJB.out.kept hfdb (fun e => e)
                have hSb : wdb.cell? ⟨c8, 0, none⟩ = some (.pointer (some ⟨cb, 0, none⟩)) ∧ wdb.cell? ⟨jb, 0, none⟩ = some (.int .i64 (j : Int)) ∧ wdb.cell? ⟨g, j, none⟩ = some (.slice (some ⟨rv, 0, none⟩) D.n D.n) :=
                  ⟨hweb.k8.cell, hjbb.cell, by have h1 := (hvrb.top false).cell hjm; rw [HG0.out, HRV.out] at h1; exact h1⟩
                have hatb := at_any (b := true) (j := j) wdb hvrb hweb.sc hweb.k8.cell HJM.out hweb.hb.size HV.out.n1 (by have := HV.out.n2; omega)
                rw [HG1.out] at hatb
                have hwr := HV.out
                have HATb := Lib.hid hatb; clear hatb
                have HWEb := Lib.hid hweb; clear hweb HWE
                have HVRb := Lib.hid hvrb; clear hvrb HVR
                have HIBb := Lib.hid hibb; clear hibb HIB
                have HJBb := Lib.hid hjbb; clear hjbb HJB hfdb
                refine region_heldK (fun wk' => wk'.cell? ⟨c8, 0, none⟩ = some (.pointer (some ⟨cb, 0, none⟩)) ∧ wk'.cell? ⟨jb, 0, none⟩ = some (.int .i64 (j : Int)) ∧ wk'.cell? ⟨g, j, none⟩ = some (.slice (some ⟨rv, 0, none⟩) D.n D.n)) 10 (by kernel_rfl) ?_
                rw [← hwdb]
                clear hwdb
                refine AnyK.tk (i := 0) (v := ?vtAb0) rfl (by kernel_rfl) hSb (Or.inl ⟨by kernel_rfl, ?hytAb0⟩) ?resttAb0
                case hytAb0 => rintro wk ⟨s1', s2', s3'⟩; go_simp; try with_reducible rfl
                refine AnyK.tk (i := 1) (v := ?vtAb1) rfl (by kernel_rfl) hSb (Or.inl ⟨by kernel_rfl, ?hytAb1⟩) ?resttAb1
                case hytAb1 => rintro wk ⟨s1', s2', s3'⟩; go_simp; try with_reducible rfl
                refine AnyK.tk (i := 2) (v := ?vtAb2) rfl (by kernel_rfl) hSb (Or.inl ⟨by kernel_rfl, ?hytAb2⟩) ?resttAb2
                case hytAb2 => rintro wk ⟨s1', s2', s3'⟩; go_simp; try with_reducible rfl
                refine AnyK.tk (i := 3) (v := ?vtAb3) rfl (by kernel_rfl) hSb (Or.inl ⟨by kernel_rfl, ?hytAb3⟩) ?resttAb3
                case hytAb3 => rintro wk ⟨s1', s2', s3'⟩; go_simp; try with_reducible rfl
                try simp only [Act.put, List.setIfInBounds_toArray, List.set_cons_zero, List.set_cons_succ, List.getElem_toArray, List.getElem_cons_succ, List.getElem_cons_zero]
                refine AnyK.tk (i := 5) (v := ?vtBb5) rfl (by kernel_rfl) hSb (Or.inl ⟨by kernel_rfl, ?hytBb5⟩) ?resttBb5
                case hytBb5 => rintro wk ⟨s1', s2', s3'⟩; go_simp; try with_reducible rfl
                refine AnyK.tk (i := 6) (v := ?vtBb6) rfl (by kernel_rfl) hSb (Or.inl ⟨by kernel_rfl, ?hytBb6⟩) ?resttBb6
                case hytBb6 => rintro wk ⟨s1', s2', s3'⟩; go_simp; try with_reducible rfl
                refine AnyK.tk (i := 7) (v := ?vtBb7) rfl (by kernel_rfl) hSb (Or.inl ⟨by kernel_rfl, ?hytBb7⟩) ?resttBb7
                case hytBb7 => rintro wk ⟨s1', s2', s3'⟩; go_simp; try with_reducible rfl
                refine AnyK.tk (i := 8) (v := ?vtBb8) rfl (by kernel_rfl) hSb (Or.inl ⟨by kernel_rfl, ?hytBb8⟩) ?resttBb8
                case hytBb8 => rintro wk ⟨s1', s2', s3'⟩; go_simp; try with_reducible rfl
                refine AnyK.tk (i := 9) (v := ?vtBb9) rfl (by kernel_rfl) hSb (Or.inl ⟨by kernel_rfl, ?hytBb9⟩) ?resttBb9
                case hytBb9 => rintro wk ⟨s1', s2', s3'⟩; go_simp; try with_reducible rfl
                try simp only [Act.put, List.setIfInBounds_toArray, List.set_cons_zero, List.set_cons_succ, List.getElem_toArray, List.getElem_cons_succ, List.getElem_cons_zero]
                refine AnyK.one (i := 4) rfl (by kernel_rfl) (by rfl) (fun K hK => ?_)
                go_simp
                refine HATb.out.mono ?_
                rintro r wab ⟨Rb, r0b, rfl, hr0, hRn, hvr, hf⟩
                have hgc : ∀ q cs t fr, wdb.heap[q]? = some (.cells cs t fr) → t ≠ 124 → ¬ (q = gg true) := fun q cs t fr h1 h2 e => HVRb.out.gne_of h1 h2 true e.symm
                have hwe := HWEb.out.kept hf (hgc cb _ _ _ HWEb.out.sc (by decide)) (hgc c8 _ _ _ HWEb.out.k8 (by decide)) (hgc xb _ _ _ HWEb.out.kx (by decide)) (hgc yb _ _ _ HWEb.out.ky (by decide)) (fun q e => by rw [e]; exact HVRb.out.low true)
                have hib := HIBb.out.kept hf (hgc ib _ _ _ HIBb.out (by decide))
                have hjb := HJBb.out.kept hf (hgc jb _ _ _ HJBb.out (by decide))
                have hne : ¬ (false = true ∧ j = j) := fun e => by cases e.1
                have hrv1 : Rb false j = some rv := (hRn false j hne).trans HRV.out
                have hsv1 : (updV s2.1 true j ((s2.1 true j).getD noneC)) false j = some v := (updV_ne hne).trans HSV2.out
                have hvrow := hvr.row false j rv v hjm hrv1 hsv1
                have hlrow := hvr.row true j r0b ((s2.1 true j).getD noneC) HJM.out hr0 (updV_at _ _ _ _)
                have hcr0 : cb ≠ r0b := (rowIs_blk hlrow.1 (show wab.heap[cb]? = _ from hwe.sc) (by decide)).symm
                have hcrv : rv ≠ cb := rowIs_blk hvrow.1 (show wab.heap[cb]? = _ from hwe.sc) (by decide)
                have hvl : rv ≠ r0b := fun e => hne (hvr.sep false j true j rv hjm HJM.out hrv1 (by rw [e]; exact hr0))
                have hls : ∀ q, smS (((s2.1 true j).getD noneC) q) := hvr.sm true j _ (updV_at _ _ _ _)
                have hvs : ∀ q, smS (v q) := hvr.sm false j v hsv1
                have hni : ib ≠ cb := Bx.ne_scl hib hwe.sc
                have hnj : jb ≠ cb := Bx.ne_scl hjb hwe.sc
                have hP : PWt w cb xb yb ib jb (.slice ax na cx) (.slice ay nb cy) i j wab := ⟨hwe.hb, hwe.kx, hwe.ky, hib, hjb, hwe.nx, hwe.ny, hni, hnj⟩
                have lx := (rowIs_blk hlrow.1 hwe.kx (by decide)).symm
                have ly := (rowIs_blk hlrow.1 hwe.ky (by decide)).symm
                have li := (rowIs_blk hlrow.1 hib (by decide)).symm
                have lj := (rowIs_blk hlrow.1 hjb (by decide)).symm
                have hstp := step_any (nf := 86) (cap := #[.pointer (some ⟨xb, 0, none⟩), .pointer (some ⟨ib, 0, none⟩)]) (sel := sel3 (x i)) (P := PWt w cb xb yb ib jb (.slice ax na cx) (.slice ay nb cy) i j) w wab HV.out HSS.out hwe.hb HTB.out hwe.sc hlrow.1 hvrow.1 hwe.lc hlrow.2 hcr0 hvl hcrv hls hvs HSZ.out.aw hP
                  (fun wa wb hp hf => hp.fr hf hwe.lc hlrow.2 lx ly li lj) (tst3 HX.out hi1)
                have hS'b : wab.cell? ⟨c8, 0, none⟩ = some (.pointer (some ⟨cb, 0, none⟩)) ∧ wab.cell? ⟨jb, 0, none⟩ = some (.int .i64 (j : Int)) ∧ wab.cell? ⟨g, j, none⟩ = some (.slice (some ⟨rv, 0, none⟩) D.n D.n) :=
                  ⟨hwe.k8.cell, hjb.cell, by have h1 := (hvr.top false).cell hjm; rw [HG0.out, hrv1] at h1; exact h1⟩
                have hcg : ∀ b, gg b ≠ cb := fun b => hvr.gne_of (show wab.heap[cb]? = _ from hwe.sc) (by decide) b
                have hcr : ∀ b j r, j < m → Rb b j = some r → r ≠ cb := fun b j r h1 h2 => hvr.rne_of (show wab.heap[cb]? = _ from hwe.sc) (by decide) h1 h2
                have hmk2b := hvs
                have hnx : ∀ (wz : World) (lz : wz.rowIs r0b 9 D.n (fun q => .string ((stepC D (sel3 (x i)) v D.n ((s2.1 true j).getD noneC, s2.2)).1 q))), Fr (fun q => q = cb ∨ q = r0b) wab wz → Scl wz cb D (.slice a D.n cap) (.slice none 0 0) (stepC D (sel3 (x i)) v D.n ((s2.1 true j).getD noneC, s2.2)).2 →
                    VR wz w.heap.size gg m D.n Rb (stepAt D true j (sel3 (x i)) v s2).1 ∧ WE w wz cb c8 xb yb D (.slice a D.n cap) (.slice ax na cx) (.slice ay nb cy) (stepAt D true j (sel3 (x i)) v s2).2 ∧ Bx wz ib 3 (.int .i64 (i : Int)) ∧ Bx wz jb 3 (.int .i64 (j : Int)) := fun wz lz fz sz => by
                  have h1 := hvr.step2 HJM.out hr0 fz hcg hcr lz (stepC_sm hvs D.n hls)
                  rw [updV_twice] at h1
                  exact ⟨h1, hwe.stepped fz sz hlrow.1 hlrow.2, hib.kept fz (fun e => e.elim hni li), hjb.kept fz (fun e => e.elim hnj lj)⟩
                have HSTPb := Lib.hid hstp; clear hstp
                have HNXb := Lib.hid hnx; clear hnx
                have HRV := Lib.hid hrv1; clear hrv1
                have hsv2 : (stepAt D true j (sel3 (x i)) v s2).1 false j = some v := (stepAt_ne hne).trans HSV2.out
                clear hmk2b hgc hwe hib hjb hsv1 hvrow hlrow hcr0 hcrv hvl hls hvs hni hnj hP lx ly li lj hcg hcr hf hvr hRn hr0 hne
                have hmarkb := hS'b
                refine hK.out _ _ (.inr hS'b) ?_
                clear hK K
                try simp only [Act.put, List.setIfInBounds_toArray, List.set_cons_zero, List.set_cons_succ, List.getElem_toArray, List.getElem_cons_succ, List.getElem_cons_zero]
                refine AnyK.one (i := 10) rfl (by kernel_rfl) (by rfl) (fun K hK => ?_)
                go_simp
                refine HSTPb.out.mono ?_
                rintro r wu ⟨rfl, hl2, hs2, hf2⟩
                obtain ⟨hvr, hwe, hib, hjb⟩ := HNXb.out wu hl2 hf2 hs2
                refine hK.out _ _ (.inl rfl) (AnyK.done (by kernel_rfl) ?_ _)
                clear hK K hmarkb hwr hl2 hf2 hs2 HSTPb HNXb HATb hSb hS'b HVRb HWEb HIBb HJBb
                obtain ⟨s3, hs3⟩ : ∃ s3, s3 = stepAt D true j (sel3 (x i)) v s2 := ⟨_, rfl⟩
                rw [← hs3] at hvr hwe hsv2
                have HS3 := Lib.hid hs3; clear hs3
                have HSV3 := Lib.hid hsv2; clear hsv2
                have HVR := Lib.hid hvr; clear hvr
                have HWE := Lib.hid hwe; clear hwe
                have HIB := Lib.hid hib; clear hib
                have HJB := Lib.hid hjb; clear hjb
                have ci := HIB.out.cell
                have cj := HJB.out.cell
                have cx' := HWE.out.kx.cell
                have cy' := HWE.out.ky.cell
                go_wp2_with fail
                clear ci cj cx' cy'
                have HJM := Lib.hid (show (j + 1) < m by have := HM.out; omega)
                have hfdc : Fr (fun _ => False) wu wu.drew := (Fr.refl _ _).drew
                obtain ⟨wdc, hwdc⟩ : ∃ wdc, wdc = wu.drew := ⟨_, rfl⟩
                rw [← hwdc] at hfdc
                have hwec := HWE.out.kept hfdc (fun e => e) (fun e => e) (fun e => e) (fun e => e) (fun _ e => e.elim)
                have hvrc := HVR.out.kept hfdc (fun _ e => e) (fun _ _ _ _ _ e => e)
                have hibc := HIB.out.kept hfdc (fun e => e)
                have hjbc := HJB.out.kept hfdc (fun e => e)
                have hSc : wdc.cell? ⟨c8, 0, none⟩ = some (.pointer (some ⟨cb, 0, none⟩)) ∧ wdc.cell? ⟨jb, 0, none⟩ = some (.int .i64 (j : Int)) ∧ wdc.cell? ⟨g, j, none⟩ = some (.slice (some ⟨rv, 0, none⟩) D.n D.n) :=
                  ⟨hwec.k8.cell, hjbc.cell, by have h1 := (hvrc.top false).cell hjm; rw [HG0.out, HRV.out] at h1; exact h1⟩
                have hatc := at_any (b := true) (j := (j + 1)) wdc hvrc hwec.sc hwec.k8.cell HJM.out hwec.hb.size HV.out.n1 (by have := HV.out.n2; omega)
                rw [HG1.out] at hatc
                have hwr : IntKind.i64.wrap ((j : Int) + 1) = (j : Int) + 1 := by rw [IntKind.wrap_i64]; have := HM.out; omega
                rw [show (((j + 1 : Nat)) : Int) = (j : Int) + 1 by omega] at hatc
                have HATc := Lib.hid hatc; clear hatc
                have HWEc := Lib.hid hwec; clear hwec HWE
                have HVRc := Lib.hid hvrc; clear hvrc HVR
                have HIBc := Lib.hid hibc; clear hibc HIB
                have HJBc := Lib.hid hjbc; clear hjbc HJB hfdc
                refine region_heldK (fun wk' => wk'.cell? ⟨c8, 0, none⟩ = some (.pointer (some ⟨cb, 0, none⟩)) ∧ wk'.cell? ⟨jb, 0, none⟩ = some (.int .i64 (j : Int)) ∧ wk'.cell? ⟨g, j, none⟩ = some (.slice (some ⟨rv, 0, none⟩) D.n D.n)) 11 (by kernel_rfl) ?_
                rw [← hwdc]
                clear hwdc
                refine AnyK.tk (i := 0) (v := ?vtAc0) rfl (by kernel_rfl) hSc (Or.inl ⟨by kernel_rfl, ?hytAc0⟩) ?resttAc0
                case hytAc0 => rintro wk ⟨s1', s2', s3'⟩; go_simp; try with_reducible rfl
                refine AnyK.tk (i := 1) (v := ?vtAc1) rfl (by kernel_rfl) hSc (Or.inl ⟨by kernel_rfl, ?hytAc1⟩) ?resttAc1
                case hytAc1 => rintro wk ⟨s1', s2', s3'⟩; go_simp; try with_reducible rfl
                refine AnyK.tk (i := 2) (v := ?vtAc2) rfl (by kernel_rfl) hSc (Or.inl ⟨by kernel_rfl, ?hytAc2⟩) ?resttAc2
                case hytAc2 => rintro wk ⟨s1', s2', s3'⟩; go_simp; try with_reducible rfl
                refine AnyK.tk (i := 3) (v := ?vtAc3) rfl (by kernel_rfl) hSc (Or.inl ⟨by kernel_rfl, ?hytAc3⟩) ?resttAc3
                case hytAc3 => rintro wk ⟨s1', s2', s3'⟩; go_simp; try with_reducible rfl
                refine AnyK.tk (i := 4) (v := ?vtAc4) rfl (by kernel_rfl) hSc (Or.inl ⟨by kernel_rfl, ?hytAc4⟩) ?resttAc4
                case hytAc4 => rintro wk ⟨s1', s2', s3'⟩; go_simp; try with_reducible rfl
                try simp only [Act.put, List.setIfInBounds_toArray, List.set_cons_zero, List.set_cons_succ, List.getElem_toArray, List.getElem_cons_succ, List.getElem_cons_zero]
                refine AnyK.tk (i := 6) (v := ?vtBc6) rfl (by kernel_rfl) hSc (Or.inl ⟨by kernel_rfl, ?hytBc6⟩) ?resttBc6
                case hytBc6 => rintro wk ⟨s1', s2', s3'⟩; go_simp; try with_reducible rfl
                refine AnyK.tk (i := 7) (v := ?vtBc7) rfl (by kernel_rfl) hSc (Or.inl ⟨by kernel_rfl, ?hytBc7⟩) ?resttBc7
                case hytBc7 => rintro wk ⟨s1', s2', s3'⟩; go_simp; try with_reducible rfl
                refine AnyK.tk (i := 8) (v := ?vtBc8) rfl (by kernel_rfl) hSc (Or.inl ⟨by kernel_rfl, ?hytBc8⟩) ?resttBc8
                case hytBc8 => rintro wk ⟨s1', s2', s3'⟩; go_simp; try with_reducible rfl
                refine AnyK.tk (i := 9) (v := ?vtBc9) rfl (by kernel_rfl) hSc (Or.inl ⟨by kernel_rfl, ?hytBc9⟩) ?resttBc9
                case hytBc9 => rintro wk ⟨s1', s2', s3'⟩; go_simp; try with_reducible rfl
                refine AnyK.tk (i := 10) (v := ?vtBc10) rfl (by kernel_rfl) hSc (Or.inl ⟨by kernel_rfl, ?hytBc10⟩) ?resttBc10
                case hytBc10 => rintro wk ⟨s1', s2', s3'⟩; go_simp; try with_reducible rfl
                try simp only [Act.put, List.setIfInBounds_toArray, List.set_cons_zero, List.set_cons_succ, List.getElem_toArray, List.getElem_cons_succ, List.getElem_cons_zero]
                refine AnyK.one (i := 5) rfl (by kernel_rfl) (by rfl) (fun K hK => ?_)
                go_simp
                refine HATc.out.mono ?_
                rintro r wac ⟨Rc, r0c, rfl, hr0, hRn, hvr, hf⟩
                have hgc : ∀ q cs t fr, wdc.heap[q]? = some (.cells cs t fr) → t ≠ 124 → ¬ (q = gg true) := fun q cs t fr h1 h2 e => HVRc.out.gne_of h1 h2 true e.symm
                have hwe := HWEc.out.kept hf (hgc cb _ _ _ HWEc.out.sc (by decide)) (hgc c8 _ _ _ HWEc.out.k8 (by decide)) (hgc xb _ _ _ HWEc.out.kx (by decide)) (hgc yb _ _ _ HWEc.out.ky (by decide)) (fun q e => by rw [e]; exact HVRc.out.low true)
                have hib := HIBc.out.kept hf (hgc ib _ _ _ HIBc.out (by decide))
                have hjb := HJBc.out.kept hf (hgc jb _ _ _ HJBc.out (by decide))
                have hne : ¬ (false = true ∧ j = (j + 1)) := fun e => by cases e.1
                have hrv1 : Rc false j = some rv := (hRn false j hne).trans HRV.out
                have hsv1 : (updV s3.1 true (j + 1) ((s3.1 true (j + 1)).getD noneC)) false j = some v := (updV_ne hne).trans HSV3.out
                have hvrow := hvr.row false j rv v hjm hrv1 hsv1
                have hlrow := hvr.row true (j + 1) r0c ((s3.1 true (j + 1)).getD noneC) HJM.out hr0 (updV_at _ _ _ _)
                have hcr0 : cb ≠ r0c := (rowIs_blk hlrow.1 (show wac.heap[cb]? = _ from hwe.sc) (by decide)).symm
                have hcrv : rv ≠ cb := rowIs_blk hvrow.1 (show wac.heap[cb]? = _ from hwe.sc) (by decide)
                have hvl : rv ≠ r0c := fun e => hne (hvr.sep false j true (j + 1) rv hjm HJM.out hrv1 (by rw [e]; exact hr0))
                have hls : ∀ q, smS (((s3.1 true (j + 1)).getD noneC) q) := hvr.sm true (j + 1) _ (updV_at _ _ _ _)
                have hvs : ∀ q, smS (v q) := hvr.sm false j v hsv1
                have hni : ib ≠ cb := Bx.ne_scl hib hwe.sc
                have hnj : jb ≠ cb := Bx.ne_scl hjb hwe.sc
                have hP : PWt w cb xb yb ib jb (.slice ax na cx) (.slice ay nb cy) i j wac := ⟨hwe.hb, hwe.kx, hwe.ky, hib, hjb, hwe.nx, hwe.ny, hni, hnj⟩
                have lx := (rowIs_blk hlrow.1 hwe.kx (by decide)).symm
                have ly := (rowIs_blk hlrow.1 hwe.ky (by decide)).symm
                have li := (rowIs_blk hlrow.1 hib (by decide)).symm
                have lj := (rowIs_blk hlrow.1 hjb (by decide)).symm
                have hstp := step_any (nf := 87) (cap := #[.pointer (some ⟨xb, 0, none⟩), .pointer (some ⟨ib, 0, none⟩), .pointer (some ⟨yb, 0, none⟩), .pointer (some ⟨jb, 0, none⟩)]) (sel := sel4 (x i) (y j)) (P := PWt w cb xb yb ib jb (.slice ax na cx) (.slice ay nb cy) i j) w wac HV.out HSS.out hwe.hb HTB.out hwe.sc hlrow.1 hvrow.1 hwe.lc hlrow.2 hcr0 hvl hcrv hls hvs HSZ.out.aw hP
                  (fun wa wb hp hf => hp.fr hf hwe.lc hlrow.2 lx ly li lj) (tst4 HX.out hi1 HY.out hj1)
                have hS'c : wac.cell? ⟨c8, 0, none⟩ = some (.pointer (some ⟨cb, 0, none⟩)) ∧ wac.cell? ⟨jb, 0, none⟩ = some (.int .i64 (j : Int)) ∧ wac.cell? ⟨g, j, none⟩ = some (.slice (some ⟨rv, 0, none⟩) D.n D.n) :=
                  ⟨hwe.k8.cell, hjb.cell, by have h1 := (hvr.top false).cell hjm; rw [HG0.out, hrv1] at h1; exact h1⟩
                have hcg : ∀ b, gg b ≠ cb := fun b => hvr.gne_of (show wac.heap[cb]? = _ from hwe.sc) (by decide) b
                have hcr : ∀ b j r, j < m → Rc b j = some r → r ≠ cb := fun b j r h1 h2 => hvr.rne_of (show wac.heap[cb]? = _ from hwe.sc) (by decide) h1 h2
                have hmk2c := hvs
                have hnx : ∀ (wz : World) (lz : wz.rowIs r0c 9 D.n (fun q => .string ((stepC D (sel4 (x i) (y j)) v D.n ((s3.1 true (j + 1)).getD noneC, s3.2)).1 q))), Fr (fun q => q = cb ∨ q = r0c) wac wz → Scl wz cb D (.slice a D.n cap) (.slice none 0 0) (stepC D (sel4 (x i) (y j)) v D.n ((s3.1 true (j + 1)).getD noneC, s3.2)).2 →
                    VR wz w.heap.size gg m D.n Rc (stepAt D true (j + 1) (sel4 (x i) (y j)) v s3).1 ∧ WE w wz cb c8 xb yb D (.slice a D.n cap) (.slice ax na cx) (.slice ay nb cy) (stepAt D true (j + 1) (sel4 (x i) (y j)) v s3).2 ∧ Bx wz ib 3 (.int .i64 (i : Int)) ∧ Bx wz jb 3 (.int .i64 (j : Int)) := fun wz lz fz sz => by
                  have h1 := hvr.step2 HJM.out hr0 fz hcg hcr lz (stepC_sm hvs D.n hls)
                  rw [updV_twice] at h1
                  exact ⟨h1, hwe.stepped fz sz hlrow.1 hlrow.2, hib.kept fz (fun e => e.elim hni li), hjb.kept fz (fun e => e.elim hnj lj)⟩
                have HSTPc := Lib.hid hstp; clear hstp
                have HNXc := Lib.hid hnx; clear hnx
                have HRV := Lib.hid hrv1; clear hrv1
                have hsv2 : (stepAt D true (j + 1) (sel4 (x i) (y j)) v s3).1 false j = some v := (stepAt_ne hne).trans HSV3.out
                clear hmk2c hgc hwe hib hjb hsv1 hvrow hlrow hcr0 hcrv hvl hls hvs hni hnj hP lx ly li lj hcg hcr hf hvr hRn hr0 hne
                have hmarkc := hS'c
                refine hK.out _ _ (.inr hS'c) ?_
                clear hK K
                try simp only [Act.put, List.setIfInBounds_toArray, List.set_cons_zero, List.set_cons_succ, List.getElem_toArray, List.getElem_cons_succ, List.getElem_cons_zero]
                refine AnyK.one (i := 11) rfl (by kernel_rfl) (by rfl) (fun K hK => ?_)
                go_simp
                refine HSTPc.out.mono ?_
                rintro r wv ⟨rfl, hl2, hs2, hf2⟩
                obtain ⟨hvr, hwe, hib, hjb⟩ := HNXc.out wv hl2 hf2 hs2
                refine hK.out _ _ (.inl rfl) (AnyK.done (by kernel_rfl) ?_ _)
                clear hK K hmarkc hwr hl2 hf2 hs2 HSTPc HNXc HATc hSc hS'c HVRc HWEc HIBc HJBc
                obtain ⟨s4, hs4⟩ : ∃ s4, s4 = stepAt D true (j + 1) (sel4 (x i) (y j)) v s3 := ⟨_, rfl⟩
                rw [← hs4] at hvr hwe hsv2
                have HS4 := Lib.hid hs4; clear hs4
                have HSV4 := Lib.hid hsv2; clear hsv2
                have HVR := Lib.hid hvr; clear hvr
                have HWE := Lib.hid hwe; clear hwe
                have HIB := Lib.hid hib; clear hib
                have HJB := Lib.hid hjb; clear hjb
                have ci := HIB.out.cell
                have cj := HJB.out.cell
                have cx' := HWE.out.kx.cell
                have cy' := HWE.out.ky.cell
                go_wp2_with fail
                clear ci cj cx' cy'
                go_roundw
                case rel => exact ⟨j + 1, _, s4, by have := HJX.out; omega, by go_num, by rw [HCOL.out]; unfold cell1 cell2 cell3; rw [if_pos hj1, if_pos hi1, if_pos ⟨hi1, hj1⟩, HS4.out, HS3.out, HS2.out], HVR.out, HWE.out, HIB.out⟩
                case measure => simp [intOf]; have := HJX.out; omega
              · have hi1z : ¬ ((i : Int) < (na : Int)) := by omega
                have ci := HIB.out.cell
                have cj := HJB.out.cell
                have cx' := HWE.out.kx.cell
                have cy' := HWE.out.ky.cell
                go_wp2_with fail
                clear ci cj cx' cy'
                go_roundw
                case rel => exact ⟨j + 1, _, s2, by have := HJX.out; omega, by go_num, by rw [HCOL.out]; unfold cell1 cell2 cell3; rw [if_pos hj1, if_neg hi1, if_neg (fun h => hi1 h.1), HS2.out], HVR.out, HWE.out, HIB.out⟩
                case measure => simp [intOf]; have := HJX.out; omega
            · have hj1z : ¬ ((j : Int) < (nb : Int)) := by omega
              by_cases hi1 : i < na
              · have hi1z : (i : Int) < (na : Int) := by omega
                have ci := HIB.out.cell
                have cj := HJB.out.cell
                have cx' := HWE.out.kx.cell
                have cy' := HWE.out.ky.cell
                go_wp2_with fail
                clear ci cj cx' cy'
                have HJM := Lib.hid (show j < m by have := HM.out; omega)
                have hfdd : Fr (fun _ => False) ws ws.drew := (Fr.refl _ _).drew
                obtain ⟨wdd, hwdd⟩ : ∃ wdd, wdd = ws.drew := ⟨_, rfl⟩
                rw [← hwdd] at hfdd
                have hwed := HWE.out.kept hfdd (fun e => e) (fun e => e) (fun e => e) (fun e => e) (fun _ e => e.elim)
                have hvrd := HVR.out.kept hfdd (fun _ e => e) (fun _ _ _ _ _ e => e)
                have hibd := HIB.out.kept hfdd (fun e => e)
                have hjbd := HJB.out.kept hfdd (fun e => e)
                have hSd : wdd.cell? ⟨c8, 0, none⟩ = some (.pointer (some ⟨cb, 0, none⟩)) ∧ wdd.cell? ⟨jb, 0, none⟩ = some (.int .i64 (j : Int)) ∧ wdd.cell? ⟨g, j, none⟩ = some (.slice (some ⟨rv, 0, none⟩) D.n D.n) :=
                  ⟨hwed.k8.cell, hjbd.cell, by have h1 := (hvrd.top false).cell hjm; rw [HG0.out, HRV.out] at h1; exact h1⟩
                have hatd := at_any (b := true) (j := j) wdd hvrd hwed.sc hwed.k8.cell HJM.out hwed.hb.size HV.out.n1 (by have := HV.out.n2; omega)
                rw [HG1.out] at hatd
                have hwr := HV.out
                have HATd := Lib.hid hatd; clear hatd
                have HWEd := Lib.hid hwed; clear hwed HWE
                have HVRd := Lib.hid hvrd; clear hvrd HVR
                have HIBd := Lib.hid hibd; clear hibd HIB
                have HJBd := Lib.hid hjbd; clear hjbd HJB hfdd
                refine region_heldK (fun wk' => wk'.cell? ⟨c8, 0, none⟩ = some (.pointer (some ⟨cb, 0, none⟩)) ∧ wk'.cell? ⟨jb, 0, none⟩ = some (.int .i64 (j : Int)) ∧ wk'.cell? ⟨g, j, none⟩ = some (.slice (some ⟨rv, 0, none⟩) D.n D.n)) 10 (by kernel_rfl) ?_
                rw [← hwdd]
                clear hwdd
                refine AnyK.tk (i := 0) (v := ?vtAd0) rfl (by kernel_rfl) hSd (Or.inl ⟨by kernel_rfl, ?hytAd0⟩) ?resttAd0
                case hytAd0 => rintro wk ⟨s1', s2', s3'⟩; go_simp; try with_reducible rfl
                refine AnyK.tk (i := 1) (v := ?vtAd1) rfl (by kernel_rfl) hSd (Or.inl ⟨by kernel_rfl, ?hytAd1⟩) ?resttAd1
                case hytAd1 => rintro wk ⟨s1', s2', s3'⟩; go_simp; try with_reducible rfl
                refine AnyK.tk (i := 2) (v := ?vtAd2) rfl (by kernel_rfl) hSd (Or.inl ⟨by kernel_rfl, ?hytAd2⟩) ?resttAd2
                case hytAd2 => rintro wk ⟨s1', s2', s3'⟩; go_simp; try with_reducible rfl
                refine AnyK.tk (i := 3) (v := ?vtAd3) rfl (by kernel_rfl) hSd (Or.inl ⟨by kernel_rfl, ?hytAd3⟩) ?resttAd3
                case hytAd3 => rintro wk ⟨s1', s2', s3'⟩; go_simp; try with_reducible rfl
                try simp only [Act.put, List.setIfInBounds_toArray, List.set_cons_zero, List.set_cons_succ, List.getElem_toArray, List.getElem_cons_succ, List.getElem_cons_zero]
                refine AnyK.tk (i := 5) (v := ?vtBd5) rfl (by kernel_rfl) hSd (Or.inl ⟨by kernel_rfl, ?hytBd5⟩) ?resttBd5
                case hytBd5 => rintro wk ⟨s1', s2', s3'⟩; go_simp; try with_reducible rfl
                refine AnyK.tk (i := 6) (v := ?vtBd6) rfl (by kernel_rfl) hSd (Or.inl ⟨by kernel_rfl, ?hytBd6⟩) ?resttBd6
                case hytBd6 => rintro wk ⟨s1', s2', s3'⟩; go_simp; try with_reducible rfl
                refine AnyK.tk (i := 7) (v := ?vtBd7) rfl (by kernel_rfl) hSd (Or.inl ⟨by kernel_rfl, ?hytBd7⟩) ?resttBd7
                case hytBd7 => rintro wk ⟨s1', s2', s3'⟩; go_simp; try with_reducible rfl
                refine AnyK.tk (i := 8) (v := ?vtBd8) rfl (by kernel_rfl) hSd (Or.inl ⟨by kernel_rfl, ?hytBd8⟩) ?resttBd8
                case hytBd8 => rintro wk ⟨s1', s2', s3'⟩; go_simp; try with_reducible rfl
                refine AnyK.tk (i := 9) (v := ?vtBd9) rfl (by kernel_rfl) hSd (Or.inl ⟨by kernel_rfl, ?hytBd9⟩) ?resttBd9
                case hytBd9 => rintro wk ⟨s1', s2', s3'⟩; go_simp; try with_reducible rfl
                try simp only [Act.put, List.setIfInBounds_toArray, List.set_cons_zero, List.set_cons_succ, List.getElem_toArray, List.getElem_cons_succ, List.getElem_cons_zero]
                refine AnyK.one (i := 4) rfl (by kernel_rfl) (by rfl) (fun K hK => ?_)
                go_simp
                refine HATd.out.mono ?_
                rintro r wad ⟨Rd, r0d, rfl, hr0, hRn, hvr, hf⟩
                have hgc : ∀ q cs t fr, wdd.heap[q]? = some (.cells cs t fr) → t ≠ 124 → ¬ (q = gg true) := fun q cs t fr h1 h2 e => HVRd.out.gne_of h1 h2 true e.symm
                have hwe := HWEd.out.kept hf (hgc cb _ _ _ HWEd.out.sc (by decide)) (hgc c8 _ _ _ HWEd.out.k8 (by decide)) (hgc xb _ _ _ HWEd.out.kx (by decide)) (hgc yb _ _ _ HWEd.out.ky (by decide)) (fun q e => by rw [e]; exact HVRd.out.low true)
                have hib := HIBd.out.kept hf (hgc ib _ _ _ HIBd.out (by decide))
                have hjb := HJBd.out.kept hf (hgc jb _ _ _ HJBd.out (by decide))
                have hne : ¬ (false = true ∧ j = j) := fun e => by cases e.1
                have hrv1 : Rd false j = some rv := (hRn false j hne).trans HRV.out
                have hsv1 : (updV s1.1 true j ((s1.1 true j).getD noneC)) false j = some v := (updV_ne hne).trans HSV1.out
                have hvrow := hvr.row false j rv v hjm hrv1 hsv1
                have hlrow := hvr.row true j r0d ((s1.1 true j).getD noneC) HJM.out hr0 (updV_at _ _ _ _)
                have hcr0 : cb ≠ r0d := (rowIs_blk hlrow.1 (show wad.heap[cb]? = _ from hwe.sc) (by decide)).symm
                have hcrv : rv ≠ cb := rowIs_blk hvrow.1 (show wad.heap[cb]? = _ from hwe.sc) (by decide)
                have hvl : rv ≠ r0d := fun e => hne (hvr.sep false j true j rv hjm HJM.out hrv1 (by rw [e]; exact hr0))
                have hls : ∀ q, smS (((s1.1 true j).getD noneC) q) := hvr.sm true j _ (updV_at _ _ _ _)
                have hvs : ∀ q, smS (v q) := hvr.sm false j v hsv1
                have hni : ib ≠ cb := Bx.ne_scl hib hwe.sc
                have hnj : jb ≠ cb := Bx.ne_scl hjb hwe.sc
                have hP : PWt w cb xb yb ib jb (.slice ax na cx) (.slice ay nb cy) i j wad := ⟨hwe.hb, hwe.kx, hwe.ky, hib, hjb, hwe.nx, hwe.ny, hni, hnj⟩
                have lx := (rowIs_blk hlrow.1 hwe.kx (by decide)).symm
                have ly := (rowIs_blk hlrow.1 hwe.ky (by decide)).symm
                have li := (rowIs_blk hlrow.1 hib (by decide)).symm
                have lj := (rowIs_blk hlrow.1 hjb (by decide)).symm
                have hstp := step_any (nf := 86) (cap := #[.pointer (some ⟨xb, 0, none⟩), .pointer (some ⟨ib, 0, none⟩)]) (sel := sel3 (x i)) (P := PWt w cb xb yb ib jb (.slice ax na cx) (.slice ay nb cy) i j) w wad HV.out HSS.out hwe.hb HTB.out hwe.sc hlrow.1 hvrow.1 hwe.lc hlrow.2 hcr0 hvl hcrv hls hvs HSZ.out.aw hP
                  (fun wa wb hp hf => hp.fr hf hwe.lc hlrow.2 lx ly li lj) (tst3 HX.out hi1)
                have hS'd : wad.cell? ⟨c8, 0, none⟩ = some (.pointer (some ⟨cb, 0, none⟩)) ∧ wad.cell? ⟨jb, 0, none⟩ = some (.int .i64 (j : Int)) ∧ wad.cell? ⟨g, j, none⟩ = some (.slice (some ⟨rv, 0, none⟩) D.n D.n) :=
                  ⟨hwe.k8.cell, hjb.cell, by have h1 := (hvr.top false).cell hjm; rw [HG0.out, hrv1] at h1; exact h1⟩
                have hcg : ∀ b, gg b ≠ cb := fun b => hvr.gne_of (show wad.heap[cb]? = _ from hwe.sc) (by decide) b
                have hcr : ∀ b j r, j < m → Rd b j = some r → r ≠ cb := fun b j r h1 h2 => hvr.rne_of (show wad.heap[cb]? = _ from hwe.sc) (by decide) h1 h2
                have hmk2d := hvs
                have hnx : ∀ (wz : World) (lz : wz.rowIs r0d 9 D.n (fun q => .string ((stepC D (sel3 (x i)) v D.n ((s1.1 true j).getD noneC, s1.2)).1 q))), Fr (fun q => q = cb ∨ q = r0d) wad wz → Scl wz cb D (.slice a D.n cap) (.slice none 0 0) (stepC D (sel3 (x i)) v D.n ((s1.1 true j).getD noneC, s1.2)).2 →
                    VR wz w.heap.size gg m D.n Rd (stepAt D true j (sel3 (x i)) v s1).1 ∧ WE w wz cb c8 xb yb D (.slice a D.n cap) (.slice ax na cx) (.slice ay nb cy) (stepAt D true j (sel3 (x i)) v s1).2 ∧ Bx wz ib 3 (.int .i64 (i : Int)) ∧ Bx wz jb 3 (.int .i64 (j : Int)) := fun wz lz fz sz => by
                  have h1 := hvr.step2 HJM.out hr0 fz hcg hcr lz (stepC_sm hvs D.n hls)
                  rw [updV_twice] at h1
                  exact ⟨h1, hwe.stepped fz sz hlrow.1 hlrow.2, hib.kept fz (fun e => e.elim hni li), hjb.kept fz (fun e => e.elim hnj lj)⟩
                have HSTPd := Lib.hid hstp; clear hstp
                have HNXd := Lib.hid hnx; clear hnx
                have HRV := Lib.hid hrv1; clear hrv1
                have hsv2 : (stepAt D true j (sel3 (x i)) v s1).1 false j = some v := (stepAt_ne hne).trans HSV1.out
                clear hmk2d hgc hwe hib hjb hsv1 hvrow hlrow hcr0 hcrv hvl hls hvs hni hnj hP lx ly li lj hcg hcr hf hvr hRn hr0 hne
                have hmarkd := hS'd
                refine hK.out _ _ (.inr hS'd) ?_
                clear hK K
                try simp only [Act.put, List.setIfInBounds_toArray, List.set_cons_zero, List.set_cons_succ, List.getElem_toArray, List.getElem_cons_succ, List.getElem_cons_zero]
                refine AnyK.one (i := 10) rfl (by kernel_rfl) (by rfl) (fun K hK => ?_)
                go_simp
                refine HSTPd.out.mono ?_
                rintro r wt ⟨rfl, hl2, hs2, hf2⟩
                obtain ⟨hvr, hwe, hib, hjb⟩ := HNXd.out wt hl2 hf2 hs2
                refine hK.out _ _ (.inl rfl) (AnyK.done (by kernel_rfl) ?_ _)
                clear hK K hmarkd hwr hl2 hf2 hs2 HSTPd HNXd HATd hSd hS'd HVRd HWEd HIBd HJBd
                obtain ⟨s2, hs2⟩ : ∃ s2, s2 = stepAt D true j (sel3 (x i)) v s1 := ⟨_, rfl⟩
                rw [← hs2] at hvr hwe hsv2
                have HS2 := Lib.hid hs2; clear hs2
                have HSV2 := Lib.hid hsv2; clear hsv2
                have HVR := Lib.hid hvr; clear hvr
                have HWE := Lib.hid hwe; clear hwe
                have HIB := Lib.hid hib; clear hib
                have HJB := Lib.hid hjb; clear hjb
                have ci := HIB.out.cell
                have cj := HJB.out.cell
                have cx' := HWE.out.kx.cell
                have cy' := HWE.out.ky.cell
                go_wp2_with fail
                clear ci cj cx' cy'
                go_roundw
                case rel => exact ⟨j + 1, _, s2, by have := HJX.out; omega, by go_num, by rw [HCOL.out]; unfold cell1 cell2 cell3; rw [if_neg hj1, if_pos hi1, if_neg (fun h => hj1 h.2), HS2.out], HVR.out, HWE.out, HIB.out⟩
                case measure => simp [intOf]; have := HJX.out; omega
              · have hi1z : ¬ ((i : Int) < (na : Int)) := by omega
                have ci := HIB.out.cell
                have cj := HJB.out.cell
                have cx' := HWE.out.kx.cell
                have cy' := HWE.out.ky.cell
                go_wp2_with fail
                clear ci cj cx' cy'
                go_roundw
                case rel => exact ⟨j + 1, _, s1, by have := HJX.out; omega, by go_num, by rw [HCOL.out]; unfold cell1 cell2 cell3; rw [if_neg hj1, if_neg hi1, if_neg (fun h => hi1 h.1)], HVR.out, HWE.out, HIB.out⟩
                case measure => simp [intOf]; have := HJX.out; omega
        · have hjm2 : j = m := by omega
          have hgt : ¬ ((j : Int) < (m : Int)) := by omega
          have hnm : nb < m := by have := HM.out; omega
          have hnz : (nb : Int) < (m : Int) := by omega
          have hnz0 : (0 : Int) ≤ (nb : Int) := by omega
          subst hjm2
          have hk : na + 1 - i = (na - i) + 1 := by omega
          have heq := HEQ.out
          rw [hk] at heq
          unfold outC at heq
          rw [if_neg (by simp), ← HS00.out, ← HM.out, ← HS1.out] at heq
          clear hk HEQ
          have ci := HIB.out.cell
          have cx' := HWE.out.kx.cell
          have cy' := HWE.out.ky.cell
          have hg := (HVR.out.top false).cell hnm
          rw [HG0.out] at hg
          cases hf : s1.1 false nb with
          | none =>
            have hr := (HVR.out.non false nb hnm).2 hf
            rw [hr] at hg
            have hg' : wr.cell? ⟨g, nb, none⟩ = some (.slice none 0 0) := hg
            have hq := fun w => neq_nil 124 9 Tryz.underlying124 w none 0 0
            rw [show (!(none : Option Addr).isNone) = false from rfl] at hq
            rw [if_neg (fun h => by rw [hf] at h; cases h.2)] at heq
            have HEQ2 := Lib.hid heq; clear heq hf hr hg
            by_cases hin : i = na
            · have hin2 : na = i := hin.symm
              rw [hin2] at HEQ2
              subst hin2
              obtain ⟨ib2, hib2⟩ : ∃ ib2, ib2 = wr.heap.size := ⟨_, rfl⟩
              obtain ⟨wz, hwz⟩ : ∃ wz, wz = wr.alloc (.cells #[.int .i64 ((na : Int) + 1)] 3) := ⟨_, rfl⟩
              have hfz : Fr (fun _ => False) wr wz := by rw [hwz]; exact Fr.alloc wr _
              have hbz : Bx wz ib2 3 (.int .i64 ((na + 1 : Nat) : Int)) := by rw [hwz, hib2]; exact heap_alloc_new wr _
              have HWEZ := Lib.hid (HWE.out.kept hfz (fun e => e) (fun e => e) (fun e => e) (fun e => e) (fun _ e => e.elim))
              have hvz := (HVR.out.one true).kept hfz
              rw [HG1.out] at hvz
              have HVRZ := Lib.hid hvz; clear hvz
              have HBZ := Lib.hid hbz; clear hbz hfz
              go_wp2_with fail
              rw [← hwz, ← hib2]
              clear hwz hib2
              go_roundw
              case rel => exact ⟨na + 1, s1.2, g2, ib2, _, _, by omega, rfl, rfl, HBZ.out, HVRZ.out, HWEZ.out, by rw [show na + 1 - (na + 1) = na - na by omega]; exact HEQ2.out⟩
              case measure => rw [ixOf_eq HBZ.out.cell, HI.out]; omega
            · have hiz2 : ¬ ((i : Int) = (na : Int)) := by omega
              obtain ⟨ib2, hib2⟩ : ∃ ib2, ib2 = wr.heap.size := ⟨_, rfl⟩
              obtain ⟨wz, hwz⟩ : ∃ wz, wz = wr.alloc (.cells #[.int .i64 ((i : Int) + 1)] 3) := ⟨_, rfl⟩
              have hfz : Fr (fun _ => False) wr wz := by rw [hwz]; exact Fr.alloc wr _
              have hbz : Bx wz ib2 3 (.int .i64 ((i + 1 : Nat) : Int)) := by rw [hwz, hib2]; exact heap_alloc_new wr _
              have HWEZ := Lib.hid (HWE.out.kept hfz (fun e => e) (fun e => e) (fun e => e) (fun e => e) (fun _ e => e.elim))
              have hvz := (HVR.out.one true).kept hfz
              rw [HG1.out] at hvz
              have HVRZ := Lib.hid hvz; clear hvz
              have HBZ := Lib.hid hbz; clear hbz hfz
              go_wp2_with fail
              rw [← hwz, ← hib2]
              clear hwz hib2
              go_roundw
              case rel => exact ⟨i + 1, s1.2, g2, ib2, _, _, by omega, rfl, rfl, HBZ.out, HVRZ.out, HWEZ.out, by rw [show na + 1 - (i + 1) = na - i by omega]; exact HEQ2.out⟩
              case measure => rw [ixOf_eq HBZ.out.cell, HI.out]; omega
          | some v =>
            obtain ⟨rv, hrv, hvrow, _⟩ := HVR.out.some_of hnm hf
            rw [hrv] at hg
            have hg' : wr.cell? ⟨g, nb, none⟩ = some (.slice (some ⟨rv, 0, none⟩) D.n D.n) := hg
            have hq := fun w => neq_nil 124 9 Tryz.underlying124 w (some ⟨rv, 0, none⟩) D.n D.n
            rw [show (!(some (⟨rv, 0, none⟩ : Addr)).isNone) = true from rfl] at hq
            by_cases hin : i = na
            · subst hin
              rw [if_pos ⟨rfl, by rw [hf]; rfl⟩, hf] at heq
              have HEND := Lib.hid (show wgtC D i x nb y = finC D v s1.2 from heq.symm); clear heq
              have hfd : Fr (fun _ => False) wr wr.drew := (Fr.refl _ _).drew
              obtain ⟨wd, hwd⟩ : ∃ wd, wd = wr.drew := ⟨_, rfl⟩
              rw [← hwd] at hfd
              have hwed := HWE.out.kept hfd (fun e => e) (fun e => e) (fun e => e) (fun e => e) (fun _ e => e.elim)
              have hvrd := HVR.out.kept hfd (fun _ e => e) (fun _ _ _ _ _ e => e)
              have hrowd := hfd.row hvrow (fun e => e)
              have hcell : wd.cell? ⟨g, nb, none⟩ = some (.slice (some ⟨rv, 0, none⟩) D.n D.n) := hfd.cell hg' (fun e => e)
              have hS0 : wd.cell? ⟨c8, 0, none⟩ = some (.pointer (some ⟨cb, 0, none⟩)) ∧ wd.cell? ⟨yb, 0, none⟩ = some (.slice ay nb cy) ∧ wd.cell? ⟨g, nb, none⟩ = some (.slice (some ⟨rv, 0, none⟩) D.n D.n) := ⟨hwed.k8.cell, hwed.ky.cell, hcell⟩
              have HFI := Lib.hid (finish_any (v := v) w wd HV.out HSS.out hwed.hb HTB.out hwed.sc hrowd hwed.lc (rowIs_blk hrowd (show wd.heap[cb]? = _ from hwed.sc) (by decide)) (HVR.out.sm false nb v hf) HSZ.out.fin)
              have HN8 := Lib.hid hwed.n8
              have HNY := Lib.hid hwed.ny
              have HNG := Lib.hid (show g ≠ cb by rw [← HG0.out]; exact hvrd.gne_of (show wd.heap[cb]? = _ from hwed.sc) (by decide) false)
              have HWE := Lib.hid hwed; clear hwed hvrd hrowd hcell hfd
              clear hf hrv hvrow hg
              go_wp2_with fail
              refine region_heldK (fun wk' => wk'.cell? ⟨c8, 0, none⟩ = some (.pointer (some ⟨cb, 0, none⟩)) ∧ wk'.cell? ⟨yb, 0, none⟩ = some (.slice ay nb cy) ∧ wk'.cell? ⟨g, nb, none⟩ = some (.slice (some ⟨rv, 0, none⟩) D.n D.n)) 10 (by kernel_rfl) ?_
              rw [← hwd]
              clear hwd
              refine AnyK.tk (i := 0) (v := ?vf0) rfl (by kernel_rfl) hS0 (Or.inl ⟨by kernel_rfl, ?hyf0⟩) ?restf0
              case hyf0 => rintro wk ⟨s1', s2', s3'⟩; go_simp; try with_reducible rfl
              refine AnyK.tk (i := 1) (v := ?vf1) rfl (by kernel_rfl) hS0 (Or.inl ⟨by kernel_rfl, ?hyf1⟩) ?restf1
              case hyf1 => rintro wk ⟨s1', s2', s3'⟩; go_simp; try with_reducible rfl
              refine AnyK.tk (i := 2) (v := ?vf2) rfl (by kernel_rfl) hS0 (Or.inl ⟨by kernel_rfl, ?hyf2⟩) ?restf2
              case hyf2 => rintro wk ⟨s1', s2', s3'⟩; go_simp; try with_reducible rfl
              refine AnyK.tk (i := 3) (v := ?vf3) rfl (by kernel_rfl) hS0 (Or.inl ⟨by kernel_rfl, ?hyf3⟩) ?restf3
              case hyf3 => rintro wk ⟨s1', s2', s3'⟩; go_simp; try with_reducible rfl
              refine AnyK.tk (i := 4) (v := ?vf4) rfl (by kernel_rfl) hS0 (Or.inl ⟨by kernel_rfl, ?hyf4⟩) ?restf4
              case hyf4 => rintro wk ⟨s1', s2', s3'⟩; go_simp; try with_reducible rfl
              refine AnyK.tk (i := 5) (v := ?vf5) rfl (by kernel_rfl) hS0 (Or.inl ⟨by kernel_rfl, ?hyf5⟩) ?restf5
              case hyf5 => rintro wk ⟨s1', s2', s3'⟩; go_simp; try with_reducible rfl
              try simp only [Act.put, List.setIfInBounds_toArray, List.set_cons_zero, List.set_cons_succ, List.getElem_toArray, List.getElem_cons_succ, List.getElem_cons_zero]
              refine AnyK.one (i := 6) rfl (by kernel_rfl) (by rfl) (fun K hK => ?_)
              go_simp
              refine HFI.out.mono ?_
              rintro r wf ⟨rfl, hff⟩
              have hS1 : wf.cell? ⟨c8, 0, none⟩ = some (.pointer (some ⟨cb, 0, none⟩)) ∧ wf.cell? ⟨yb, 0, none⟩ = some (.slice ay nb cy) ∧ wf.cell? ⟨g, nb, none⟩ = some (.slice (some ⟨rv, 0, none⟩) D.n D.n) :=
                ⟨hff.cell hS0.1 HN8.out, hff.cell hS0.2.1 HNY.out, hff.cell hS0.2.2 HNG.out⟩
              have HFF := Lib.hid hff; clear hff
              refine hK.out _ _ (.inr hS1) ?_
              clear hK K
              try simp only [Act.put, List.setIfInBounds_toArray, List.set_cons_zero, List.set_cons_succ, List.getElem_toArray, List.getElem_cons_succ, List.getElem_cons_zero]
              refine AnyK.tk (i := 7) (v := ?vh7) rfl (by kernel_rfl) hS1 (Or.inl ⟨by kernel_rfl, ?hyh7⟩) ?resth7
              case hyh7 => rintro wk ⟨s1', s2', s3'⟩; go_simp; try with_reducible rfl
              refine AnyK.tk (i := 8) (v := ?vh8) rfl (by kernel_rfl) hS1 (Or.inl ⟨by kernel_rfl, ?hyh8⟩) ?resth8
              case hyh8 => rintro wk ⟨s1', s2', s3'⟩; go_simp; try with_reducible rfl
              refine AnyK.tk (i := 9) (v := ?vh9) rfl (by kernel_rfl) hS1 (Or.inl ⟨by kernel_rfl, ?hyh9⟩) ?resth9
              case hyh9 => rintro wk ⟨s1', s2', s3'⟩; go_simp; try with_reducible rfl
              try simp only [Act.put, List.setIfInBounds_toArray, List.set_cons_zero, List.set_cons_succ, List.getElem_toArray, List.getElem_cons_succ, List.getElem_cons_zero]
              refine AnyK.one (i := 10) rfl (by kernel_rfl) (by rfl) (fun K hK => ?_)
              go_simp
              refine hK.out _ _ (.inl rfl) (AnyK.done (by kernel_rfl) ?_ _)
              clear hK K
              go_wp2_with fail
              go_ret2
              exact ⟨HWE.out.hb.trans (HFF.out.below HWE.out.hb.size (fun q e => by rw [e]; exact HWE.out.lc)), .inl ⟨HV.out, HWX.out, HWY.out, by rw [HEND.out]; rfl⟩⟩
            · have hiz2 : ¬ ((i : Int) = (na : Int)) := by omega
              rw [if_neg (fun h => hin h.1)] at heq
              have HEQ2 := Lib.hid heq; clear heq hf hrv hvrow hg
              obtain ⟨ib2, hib2⟩ : ∃ ib2, ib2 = wr.heap.size := ⟨_, rfl⟩
              obtain ⟨wz, hwz⟩ : ∃ wz, wz = wr.alloc (.cells #[.int .i64 ((i : Int) + 1)] 3) := ⟨_, rfl⟩
              have hfz : Fr (fun _ => False) wr wz := by rw [hwz]; exact Fr.alloc wr _
              have hbz : Bx wz ib2 3 (.int .i64 ((i + 1 : Nat) : Int)) := by rw [hwz, hib2]; exact heap_alloc_new wr _
              have HWEZ := Lib.hid (HWE.out.kept hfz (fun e => e) (fun e => e) (fun e => e) (fun e => e) (fun _ e => e.elim))
              have hvz := (HVR.out.one true).kept hfz
              rw [HG1.out] at hvz
              have HVRZ := Lib.hid hvz; clear hvz
              have HBZ := Lib.hid hbz; clear hbz hfz
              go_wp2_with fail
              rw [← hwz, ← hib2]
              clear hwz hib2
              go_roundw
              case rel => exact ⟨i + 1, s1.2, g2, ib2, _, _, by omega, rfl, rfl, HBZ.out, HVRZ.out, HWEZ.out, by rw [show na + 1 - (i + 1) = na - i by omega]; exact HEQ2.out⟩
              case measure => rw [ixOf_eq HBZ.out.cell, HI.out]; omega
    · have HEND := Lib.hid (show wgtC D na x nb y = finC D noneC e by
        rw [← HEQ.out]
        by_cases hi1 : i = na + 1
        · rw [show na + 1 - i = 0 by omega]; rfl
        · rw [show na + 1 - i = (na - i) + 1 by omega]; unfold outC; rw [if_pos (fun h => hin ⟨by omega, h⟩)])
      have hfd : Fr (fun _ => False) wr wr.drew := (Fr.refl _ _).drew
      obtain ⟨wd, hwd⟩ : ∃ wd, wd = wr.drew := ⟨_, rfl⟩
      rw [← hwd] at hfd
      have hwed := HWE.out.kept hfd (fun e => e) (fun e => e) (fun e => e) (fun e => e) (fun _ e => e.elim)
      have hS0 : wd.cell? ⟨c8, 0, none⟩ = some (.pointer (some ⟨cb, 0, none⟩)) := hwed.k8.cell
      have HNO := Lib.hid (wnone_any wd hwed.sc HV.out.n1 (by have := HV.out.n2; omega))
      have HWE := Lib.hid hwed; clear hwed hfd HEQ HVR HIB
      by_cases hi1 : i ≤ na
      · have hi1z : (i : Int) ≤ (na : Int) := by omega
        have hez : ¬ ((e : Int) = 0) := by have := fun h : e = 0 => hin ⟨hi1, h⟩; omega
        go_wp2_with fail
        refine region_heldK (fun wk' => wk'.cell? ⟨c8, 0, none⟩ = some (.pointer (some ⟨cb, 0, none⟩))) 7 (by kernel_rfl) ?_
        rw [← hwd]
        clear hwd
        refine AnyK.tk (i := 0) (v := ?vak0) rfl (by kernel_rfl) hS0 (Or.inl ⟨by kernel_rfl, ?hyak0⟩) ?restak0
        case hyak0 => rintro wk s1'; go_simp; try with_reducible rfl
        refine AnyK.tk (i := 1) (v := ?vak1) rfl (by kernel_rfl) hS0 (Or.inl ⟨by kernel_rfl, ?hyak1⟩) ?restak1
        case hyak1 => rintro wk s1'; go_simp; try with_reducible rfl
        try simp only [Act.put, List.setIfInBounds_toArray, List.set_cons_zero, List.set_cons_succ, List.getElem_toArray, List.getElem_cons_succ, List.getElem_cons_zero]
        refine AnyK.one (i := 2) rfl (by kernel_rfl) (by rfl) (fun K hK => ?_)
        go_simp
        refine HNO.out.mono ?_
        rintro r wa ⟨rfl, hrow, hfa, _⟩
        obtain ⟨nbk, hnbk⟩ : ∃ nbk, nbk = wd.heap.size := ⟨_, rfl⟩
        rw [← hnbk] at hrow
        rw [← hnbk]
        have hwea := HWE.out.kept hfa (fun e => e) (fun e => e) (fun e => e) (fun e => e) (fun _ e => e.elim)
        have hS1 : wa.cell? ⟨c8, 0, none⟩ = some (.pointer (some ⟨cb, 0, none⟩)) := hwea.k8.cell
        have HFI := Lib.hid (finish_any (v := noneC) w wa HV.out HSS.out hwea.hb HTB.out hwea.sc hrow hwea.lc (rowIs_blk hrow (show wa.heap[cb]? = _ from hwea.sc) (by decide)) noneC_sm HSZ.out.fin)
        have HWEA := Lib.hid hwea; clear hwea hrow hfa hnbk
        refine hK.out _ _ (.inr hS1) ?_
        clear hK K
        try simp only [Act.put, List.setIfInBounds_toArray, List.set_cons_zero, List.set_cons_succ, List.getElem_toArray, List.getElem_cons_succ, List.getElem_cons_zero]
        refine AnyK.one (i := 3) rfl (by kernel_rfl) (by rfl) (fun K hK => ?_)
        go_simp
        refine HFI.out.mono ?_
        rintro r wf ⟨rfl, hff⟩
        have hS2 : wf.cell? ⟨c8, 0, none⟩ = some (.pointer (some ⟨cb, 0, none⟩)) := hff.cell hS1 HWEA.out.n8
        have HFF := Lib.hid hff; clear hff
        refine hK.out _ _ (.inr hS2) ?_
        clear hK K
        try simp only [Act.put, List.setIfInBounds_toArray, List.set_cons_zero, List.set_cons_succ, List.getElem_toArray, List.getElem_cons_succ, List.getElem_cons_zero]
        refine AnyK.tk (i := 4) (v := ?val4) rfl (by kernel_rfl) hS2 (Or.inl ⟨by kernel_rfl, ?hyal4⟩) ?restal4
        case hyal4 => rintro wk s1'; go_simp; try with_reducible rfl
        refine AnyK.tk (i := 5) (v := ?val5) rfl (by kernel_rfl) hS2 (Or.inl ⟨by kernel_rfl, ?hyal5⟩) ?restal5
        case hyal5 => rintro wk s1'; go_simp; try with_reducible rfl
        refine AnyK.tk (i := 6) (v := ?val6) rfl (by kernel_rfl) hS2 (Or.inl ⟨by kernel_rfl, ?hyal6⟩) ?restal6
        case hyal6 => rintro wk s1'; go_simp; try with_reducible rfl
        try simp only [Act.put, List.setIfInBounds_toArray, List.set_cons_zero, List.set_cons_succ, List.getElem_toArray, List.getElem_cons_succ, List.getElem_cons_zero]
        refine AnyK.one (i := 7) rfl (by kernel_rfl) (by rfl) (fun K hK => ?_)
        go_simp
        refine hK.out _ _ (.inl rfl) (AnyK.done (by kernel_rfl) ?_ _)
        clear hK K
        go_wp2_with fail
        go_ret2
        exact ⟨HWEA.out.hb.trans (HFF.out.below HWEA.out.hb.size (fun q e => by rw [e]; exact HWEA.out.lc)), .inl ⟨HV.out, HWX.out, HWY.out, by rw [HEND.out]; rfl⟩⟩
      · have hi1z : ¬ ((i : Int) ≤ (na : Int)) := by omega
        go_wp2_with fail
        refine region_heldK (fun wk' => wk'.cell? ⟨c8, 0, none⟩ = some (.pointer (some ⟨cb, 0, none⟩))) 7 (by kernel_rfl) ?_
        rw [← hwd]
        clear hwd
        refine AnyK.tk (i := 0) (v := ?vbk0) rfl (by kernel_rfl) hS0 (Or.inl ⟨by kernel_rfl, ?hybk0⟩) ?restbk0
        case hybk0 => rintro wk s1'; go_simp; try with_reducible rfl
        refine AnyK.tk (i := 1) (v := ?vbk1) rfl (by kernel_rfl) hS0 (Or.inl ⟨by kernel_rfl, ?hybk1⟩) ?restbk1
        case hybk1 => rintro wk s1'; go_simp; try with_reducible rfl
        try simp only [Act.put, List.setIfInBounds_toArray, List.set_cons_zero, List.set_cons_succ, List.getElem_toArray, List.getElem_cons_succ, List.getElem_cons_zero]
        refine AnyK.one (i := 2) rfl (by kernel_rfl) (by rfl) (fun K hK => ?_)
        go_simp
        refine HNO.out.mono ?_
        rintro r wa ⟨rfl, hrow, hfa, _⟩
        obtain ⟨nbk, hnbk⟩ : ∃ nbk, nbk = wd.heap.size := ⟨_, rfl⟩
        rw [← hnbk] at hrow
        rw [← hnbk]
        have hwea := HWE.out.kept hfa (fun e => e) (fun e => e) (fun e => e) (fun e => e) (fun _ e => e.elim)
        have hS1 : wa.cell? ⟨c8, 0, none⟩ = some (.pointer (some ⟨cb, 0, none⟩)) := hwea.k8.cell
        have HFI := Lib.hid (finish_any (v := noneC) w wa HV.out HSS.out hwea.hb HTB.out hwea.sc hrow hwea.lc (rowIs_blk hrow (show wa.heap[cb]? = _ from hwea.sc) (by decide)) noneC_sm HSZ.out.fin)
        have HWEA := Lib.hid hwea; clear hwea hrow hfa hnbk
        refine hK.out _ _ (.inr hS1) ?_
        clear hK K
        try simp only [Act.put, List.setIfInBounds_toArray, List.set_cons_zero, List.set_cons_succ, List.getElem_toArray, List.getElem_cons_succ, List.getElem_cons_zero]
        refine AnyK.one (i := 3) rfl (by kernel_rfl) (by rfl) (fun K hK => ?_)
        go_simp
        refine HFI.out.mono ?_
        rintro r wf ⟨rfl, hff⟩
        have hS2 : wf.cell? ⟨c8, 0, none⟩ = some (.pointer (some ⟨cb, 0, none⟩)) := hff.cell hS1 HWEA.out.n8
        have HFF := Lib.hid hff; clear hff
        refine hK.out _ _ (.inr hS2) ?_
        clear hK K
        try simp only [Act.put, List.setIfInBounds_toArray, List.set_cons_zero, List.set_cons_succ, List.getElem_toArray, List.getElem_cons_succ, List.getElem_cons_zero]
        refine AnyK.tk (i := 4) (v := ?vbl4) rfl (by kernel_rfl) hS2 (Or.inl ⟨by kernel_rfl, ?hybl4⟩) ?restbl4
        case hybl4 => rintro wk s1'; go_simp; try with_reducible rfl
        refine AnyK.tk (i := 5) (v := ?vbl5) rfl (by kernel_rfl) hS2 (Or.inl ⟨by kernel_rfl, ?hybl5⟩) ?restbl5
        case hybl5 => rintro wk s1'; go_simp; try with_reducible rfl
        refine AnyK.tk (i := 6) (v := ?vbl6) rfl (by kernel_rfl) hS2 (Or.inl ⟨by kernel_rfl, ?hybl6⟩) ?restbl6
        case hybl6 => rintro wk s1'; go_simp; try with_reducible rfl
        try simp only [Act.put, List.setIfInBounds_toArray, List.set_cons_zero, List.set_cons_succ, List.getElem_toArray, List.getElem_cons_succ, List.getElem_cons_zero]
        refine AnyK.one (i := 7) rfl (by kernel_rfl) (by rfl) (fun K hK => ?_)
        go_simp
        refine hK.out _ _ (.inl rfl) (AnyK.done (by kernel_rfl) ?_ _)
        clear hK K
        go_wp2_with fail
        go_ret2
        exact ⟨HWEA.out.hb.trans (HFF.out.below HWEA.out.hb.size (fun q e => by rw [e]; exact HWEA.out.lc)), .inl ⟨HV.out, HWX.out, HWY.out, by rw [HEND.out]; rfl⟩⟩
end Go.Proofs.YtjekapjbigfkbaaGreatDoor
