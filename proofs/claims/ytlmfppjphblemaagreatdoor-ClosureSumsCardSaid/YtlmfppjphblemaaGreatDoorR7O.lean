/- The walks of abugidaref07.Arcs and Final. The walks of abugidaref07.To, From and Total. The walk of abugidaref07.Total; what the program's and the reference's sums have in common. The walk of abugidalaw07.ClosureSums. -/
import Derived.Test.YtlmfppjphblemaaGreatDoorR7S
import Derived.Test.YtlmfppjphblemaaGreatDoorL2
import Derived.Deep.RegionLaw
namespace Go.Proofs.YtlmfppjphblemaaGreatDoor
open Go Go.RowKit Go.Deep
set_option maxRecDepth 100000
set_option linter.unusedSimpArgs false

/-- The matrix as far as it is filled; the rows behind are zero. -/
def Az {k : KK} (e : Nat) (D : MD) (W : Nat → Nat → RK k) (q d : Nat) (Y : Nat → Nat → ByteArray) : Prop :=
  MatTo e D W q d Y ∧ ∀ p l, p < D.n → l < D.n → q < p → Y p l = zeroF k.1
theorem Az.start {k : KK} (D : MD) (W : Nat → Nat → RK k) : Az 0 D W 0 0 (fun _ _ => zeroF k.1) :=
  ⟨fun p l _ _ => ⟨fun h => by omega, fun _ => Is.zero k 0⟩, fun _ _ _ _ _ => rfl⟩
theorem Az.next {k : KK} {e e' : Nat} {D : MD} {W : Nat → Nat → RK k} {i d t : Nat} {X : Nat → Nat → ByteArray} {u : ByteArray} (h : Az e D W i d X) (he : e' = 0 → e = 0) (ht : D.ato i d = (t : Int)) (hu : Is k e' u (arcV D W i d t + W i d)) :
    Az e' D W i (d + 1) (fun q l => if q = i ∧ l = t then u else X q l) :=
  ⟨h.1.next he ht hu, fun p l hp hl hq => by simp only [if_neg (show ¬ (p = i ∧ l = t) by omega)]; exact h.2 p l hp hl hq⟩
theorem Az.row {k : KK} {e : Nat} {D : MD} {W : Nat → Nat → RK k} {i : Nat} {X : Nat → Nat → ByteArray} (h : Az e D W i (D.na i) X) : Az e D W (i + 1) 0 X :=
  ⟨fun p l hp hl => ⟨fun hq => h.1.row p l hp hl hq, fun hq => by rw [h.2 p l hp hl (by omega)]; exact Is.zero k e⟩, fun p l hp hl hq => h.2 p l hp hl (by omega)⟩
theorem Az.done {k : KK} {e : Nat} {D : MD} {W : Nat → Nat → RK k} {X : Nat → Nat → ByteArray} (h : Az e D W D.n 0 X) : MatIs e D.n X (arcM D W) := fun i j hi hj => (h.1 i j hi hj).1 hi
/-- Behind Arcs. -/
def ArcE {k : KK} (F : Prop) (sb n : Nat) (M : Nat → Nat → RK k) (w : World) (r : Ending) (w' : World) : Prop :=
  ∃ v e' Y, r = .returned v ∧ Mt (some sb) w' v n (fun _ => n) Y ∧ MatIs e' n Y M ∧ Er F e' ∧ SumR w' sb k.1 e' ∧ w.grownBy w' (some sb)
theorem BoxM.other {wr : World} {mb : Nat} {D : MD} {sv : Value} (h : BoxM wr mb D sv) {p : Addr} (hp : mb ≠ p.block) (v : Value) : BoxM (wr.setCell p v) mb D sv := by
  unfold BoxM at *; rw [blk_setCell_other _ _ _ _ hp]; exact h

set_option maxHeartbeats 8000000 in
theorem arcs7_any {k : KK} {F : Prop} {D : MD} {W : Nat → Nat → RK k} {sb : Nat} {v : Value} (w : World) (hn : D.n ≤ 60) (hvm : VM D) (hs : MSz D) (hk : k.1 = D.kind) (hW : WtIs D W) (hS : SumR w sb k.1 0) (hM : Ma (some sb) w v D) (hF : F → FitP D W) :
    Calls Tryz.prog 53 #[.pointer (some ⟨sb, 0, none⟩), v] w (ArcE F sb D.n (arcM D W) w) := by
  obtain ⟨sv, rfl, hSt⟩ := hM
  obtain ⟨a, cap, b, off, A, C, BB, O, rfl, ha, hc, hm, hb, hrow⟩ := hSt.open
  unfold maxLen at hm
  clear hSt
  have hbox := BoxM.new w D (.slice a D.n cap)
  have hsl := hS.lt
  obtain ⟨wm, hwm⟩ : ∃ wm, wm = w.alloc (.cells #[.int .i64 D.kind, .int .i64 D.start, .string D.lead, .slice a D.n cap] 31) := ⟨_, rfl⟩
  obtain ⟨mb, hmb⟩ : ∃ mb, mb = w.heap.size := ⟨_, rfl⟩
  have hgm : w.grownBy wm (some sb) := by rw [hwm]; exact World.grownBy_alloc _ _ _
  have hbm : Below w.heap.size w wm := by rw [hwm]; exact box_below _ _
  rw [← hwm, ← hmb] at hbox
  have hml := hbox.lt
  have hsm := hS.kept hbm
  have s0 := hsm.c0
  have m3 := hbox.c3
  rw [hwm] at s0
  rw [hwm, hmb] at m3
  have hgr := Gr.of hgm (Nat.le_refl _)
  have hnn := hs.n
  have HSZ := Lib.hid hs; clear hs
  have HF := Lib.hid hF; clear hF
  have HVM := Lib.hid hvm; clear hvm
  have HW := Lib.hid hW; clear hW
  have HA := Lib.hid ha; clear ha
  have HB := Lib.hid hb; clear hb
  have HR := Lib.hid hrow; clear hrow
  have HBX := Lib.hid hbox; clear hbox
  have HS := Lib.hid hsm; clear hsm hS
  have HG := Lib.hid hgr; clear hgr hbm hgm
  have hcz := fun wx => zeros_any k.1 wx hn
  have HCZ := Lib.hid hcz; clear hcz
  have hmw : mb = w.heap.size := hmb
  have HMW := Lib.hid hmw; clear hmw
  have HK := Lib.hid hk; clear hk
  go_enter Tryz.func53, Tryz.ntmps53
  go_wp2_with fail
  rw [← hwm, ← hmb] at m3
  rw [← hwm] at s0
  rw [← hwm, ← hmb]
  clear hwm hmb
  have hd1 := drew_gb wm none
  have HKG := Lib.hid (fun wk' (hg : wm.grownBy wk' none) => (⟨hg.cell s0 (by simp), hg.cell m3 (by simp)⟩ : wk'.cell? ⟨sb, 0, none⟩ = some (.int .i64 k.1) ∧ wk'.cell? ⟨mb, 3, none⟩ = some (.slice a D.n cap)))
  go_region_held2 (fun wk' => wk'.cell? ⟨sb, 0, none⟩ = some (.int .i64 k.1) ∧ wk'.cell? ⟨mb, 3, none⟩ = some (.slice a D.n cap))
    (first | exact HKG.out _ (by assumption))
    (first
    | (go_at_call 67; refine (HCZ.out _).mono ?_; rintro r w3 ⟨g, R, rfl, hom, hgw, hb3⟩; have hn3 := gb_trans hd1 (gb_below hb3 none)))
  rename_i hH
  clear hH
  have hb3' := gb_none hn3
  have hgs : mb < g := Nat.lt_of_lt_of_le hml hgw
  have hsg : sb < g := by have := HMW.out; omega
  have hg3 := HG.out.more (gb_below hb3' (some sb)) HG.out.size (fun _ h => .inl h)
  have hs3 := HS.out.kept hb3'
  have hbx3 := HBX.out.kept (gb_below hb3' none) (by simp)
  clear s0 m3 hb3 hb3' hn3 hd1 HKG hgw HS HG HBX
  have hmsb : mb ≠ sb := by have := HMW.out; omega
  have HOM := Lib.hid hom; clear hom
  have HS := Lib.hid hs3; clear hs3
  have HG := Lib.hid hg3; clear hg3
  have HBX := Lib.hid hbx3; clear hbx3
  have HAZ := Lib.hid (Az.start D W)
  go_wp2_with fail
  -- ████ for i
  go_loopw [6] (fun i wr => ∃ (q e : Nat) (Y : Nat → Nat → ByteArray), q ≤ D.n ∧ i = .int .i64 (q : Int) ∧ OM wr (fun _ => False) g 9 33 g D.n R (fun _ => D.n) Y ∧ Az e D W q 0 Y ∧ Er F e ∧ SumR wr sb k.1 e ∧
    BoxM wr mb D (.slice a D.n cap) ∧ Gr w.heap.size (some sb) w wr) (fun i _ => D.n - (intOf i).toNat)
  case atStart => exact ⟨0, 0, _, Nat.zero_le _, rfl, HOM.out, HAZ.out, ⟨.inl rfl, fun _ => rfl⟩, HS.out, HBX.out, HG.out⟩
  case round =>
    obtain ⟨q, e, Y, hq, rfl, hom, haz, hE, hS, hbx, hG⟩ := hrel
    clear HOM HAZ HS HBX HG
    have m3 := hbx.c3
    have HOM := Lib.hid hom; clear hom
    have HAZ := Lib.hid haz; clear haz
    have HE := Lib.hid hE; clear hE
    have HS := Lib.hid hS; clear hS
    have HBX := Lib.hid hbx; clear hbx
    have HG := Lib.hid hG; clear hG
    by_cases hlt : q < D.n
    · have hqz : (q : Int) < (D.n : Int) := by omega
      have hqz0 : (0 : Int) ≤ (q : Int) := by omega
      obtain rfl := HA.out (by omega)
      obtain ⟨hbb, hbs⟩ := HB.out (by omega)
      obtain ⟨k1, k2, k3, k4, k5, k6, k7⟩ := HR.out q hlt
      obtain ⟨aq, haq⟩ : ∃ aq, aq = A q := ⟨_, rfl⟩
      rw [← haq] at k2 k5
      clear haq k1
      unfold maxLen at k4
      have HK2 := Lib.hid k2; clear k2
      have HK7 := Lib.hid k7; clear k7
      have HK5 := Lib.hid k5; clear k5
      have HK6 := Lib.hid k6; clear k6
      have hna := HSZ.out.na q
      go_wp2_with fail
      clear m3
      -- ████ for k
      go_loopw [7] (fun i wr => ∃ (d e : Nat) (Y : Nat → Nat → ByteArray), d ≤ D.na q ∧ i = .int .i64 (d : Int) ∧ OM wr (fun _ => False) g 9 33 g D.n R (fun _ => D.n) Y ∧ Az e D W q d Y ∧ Er F e ∧ SumR wr sb k.1 e ∧
        BoxM wr mb D (.slice (some ⟨b, off, none⟩) D.n cap) ∧ Gr w.heap.size (some sb) w wr) (fun i _ => D.na q - (intOf i).toNat)
      case atStart => exact ⟨0, e, Y, Nat.zero_le _, rfl, HOM.out, HAZ.out, HE.out, HS.out, HBX.out, HG.out⟩
      case round =>
        obtain ⟨d, e, Y, hd, rfl, hom, haz, hE, hS, hbx, hG⟩ := hrel
        clear HOM HAZ HE HS HBX HG
        have m3 := hbx.c3
        have HOM := Lib.hid hom; clear hom
        have HAZ := Lib.hid haz; clear haz
        have HE := Lib.hid hE; clear hE
        have HS := Lib.hid hS; clear hS
        have HBX := Lib.hid hbx; clear hbx
        have HG := Lib.hid hG; clear hG
        have c1 := HG.out.cell HK2.out hbb hbs
        by_cases hlt2 : d < D.na q
        · have hdz : (d : Int) < (D.na q : Int) := by omega
          have hdz0 : (0 : Int) ≤ (d : Int) := by omega
          obtain rfl := HK5.out (by omega)
          obtain ⟨hbq, hbqs⟩ := HK6.out (by omega)
          obtain ⟨j0, j1, j2, j3⟩ := HK7.out d hlt2
          have f0 := HG.out.cell j0 hbq hbqs
          have f1 := HG.out.cell j1 hbq hbqs
          have f2 := HG.out.cell j2 hbq hbqs
          have f3 := HG.out.cell j3 hbq hbqs
          clear j0 j1 j2 j3
          have hao := HVM.out.arc q d hlt hlt2
          obtain ⟨tt, htt⟩ : ∃ tt : Nat, D.ato q d = (tt : Int) := ⟨(D.ato q d).toNat, by have := hao.t0; omega⟩
          have httn : tt < D.n := by have := hao.t1; omega
          have htz : (tt : Int) < (D.n : Int) := by omega
          have htz0 : (0 : Int) ≤ (tt : Int) := by omega
          rw [htt] at f3
          have HTT := Lib.hid htt; clear htt hao
          obtain ⟨rb, rc, hRb, hrB, hrl, hrg, _, hc3, hc4, hfr, hcr⟩ := HOM.out.form hlt (by omega)
          unfold maxLen at hc4
          have r1 := HOM.out.cell hlt
          rw [hRb] at r1
          have r2 := hcr tt httn
          have rf := hfr tt
          have HRB := Lib.hid hRb; clear hRb hfr hcr
          obtain ⟨y, hy⟩ : ∃ y, y = Y q tt := ⟨_, rfl⟩
          rw [← hy] at r2
          have hxc : Is k e y (arcV D W q d tt) := by rw [hy]; exact (HAZ.out.1 q tt hlt httn).2 rfl
          have hxw : Is k e (D.aw q d) (W q d) := (HW.out.2 q d hlt hlt2).mono (fun _ => rfl)
          have HXC := Lib.hid hxc; clear hxc hy
          have HXW := Lib.hid hxw; clear hxw
          obtain ⟨aw, haw⟩ : ∃ aw, aw = D.aw q d := ⟨_, rfl⟩
          rw [← haw] at f2 HXW
          clear haw
          obtain ⟨wa, hwa⟩ : ∃ wa, wa = wr.alloc (.cells #[.int .i64 (D.ain q d), .int .i64 (D.aout q d), .string aw, .int .i64 (tt : Int)] 56) := ⟨_, rfl⟩
          obtain ⟨ab, hab⟩ : ∃ ab, ab = wr.heap.size := ⟨_, rfl⟩
          have a2 : wa.cell? ⟨ab, 2, none⟩ = some (.string aw) := by rw [hwa, hab]; exact cell_new wr _ _ 2 _ rfl
          have a3 : wa.cell? ⟨ab, 3, none⟩ = some (.int .i64 (tt : Int)) := by rw [hwa, hab]; exact cell_new wr _ _ 3 _ rfl
          have hga : wr.grownBy wa (some sb) := by rw [hwa]; exact World.grownBy_alloc _ _ _
          have hsa : SumR wa sb k.1 e := HS.out.kept (by rw [hwa]; exact box_below _ _)
          have hasb : sb < ab := by rw [hab]; exact HS.out.lt
          have t1 := hga.cell r1 (by simp; omega)
          have t2 := hga.cell r2 (by simp; omega)
          have hww := HG.out.size
          have hd1 := drew_gb wa (some sb)
          have hS0 : wa.drew.cell? ⟨g, q, none⟩ = some (.slice (some ⟨rb, 0, none⟩) D.n rc) ∧ wa.drew.cell? ⟨ab, 3, none⟩ = some (.int .i64 (tt : Int)) ∧ wa.drew.cell? ⟨rb, tt, none⟩ = some (.string y) ∧ wa.drew.cell? ⟨ab, 2, none⟩ = some (.string aw) := ⟨t1, a3, t2, a2⟩
          have hcl := rplus7_is (F := F) HXC.out HXW.out HE.out (fun f => (HF.out f).arcs q d tt hlt hlt2 httn HTT.out) hsa.drew
          have HCL := Lib.hid hcl; clear hcl
          have hgl := HOM.out.lt
          clear r1 r2
          go_wp2_with fail
          rw [← hab, ← hwa]
          clear hab hwa m3 c1 f0 f1 f2 f3
          refine region_heldK (fun wk' => wk'.cell? ⟨g, q, none⟩ = some (.slice (some ⟨rb, 0, none⟩) D.n rc) ∧ wk'.cell? ⟨ab, 3, none⟩ = some (.int .i64 (tt : Int)) ∧ wk'.cell? ⟨rb, tt, none⟩ = some (.string y) ∧ wk'.cell? ⟨ab, 2, none⟩ = some (.string aw)) 19 (by kernel_rfl) ?_
          refine AnyK.take (i := 0) (v := ?va0) rfl (by kernel_rfl) (by kernel_rfl) (by kernel_rfl) (by kernel_rfl) (by kernel_rfl) (fun _ _ _ h => h) hS0 (Or.inl ⟨by kernel_rfl, ?hya0⟩) ?resta0
          case hya0 => rintro wk ⟨s1, s2, s3, s4⟩; go_simp; try with_reducible rfl
          try simp only [Act.put, List.setIfInBounds_toArray, List.set_cons_zero, List.set_cons_succ, List.getElem_toArray, List.getElem_cons_succ, List.getElem_cons_zero]
          refine AnyK.take (i := 1) (v := ?va1) rfl (by kernel_rfl) (by kernel_rfl) (by kernel_rfl) (by kernel_rfl) (by kernel_rfl) (fun _ _ _ h => h) hS0 (Or.inl ⟨by kernel_rfl, ?hya1⟩) ?resta1
          case hya1 => rintro wk ⟨s1, s2, s3, s4⟩; go_simp; try with_reducible rfl
          try simp only [Act.put, List.setIfInBounds_toArray, List.set_cons_zero, List.set_cons_succ, List.getElem_toArray, List.getElem_cons_succ, List.getElem_cons_zero]
          refine AnyK.take (i := 2) (v := ?va2) rfl (by kernel_rfl) (by kernel_rfl) (by kernel_rfl) (by kernel_rfl) (by kernel_rfl) (fun _ _ _ h => h) hS0 (Or.inl ⟨by kernel_rfl, ?hya2⟩) ?resta2
          case hya2 => rintro wk ⟨s1, s2, s3, s4⟩; go_simp; try with_reducible rfl
          try simp only [Act.put, List.setIfInBounds_toArray, List.set_cons_zero, List.set_cons_succ, List.getElem_toArray, List.getElem_cons_succ, List.getElem_cons_zero]
          refine AnyK.take (i := 3) (v := ?va3) rfl (by kernel_rfl) (by kernel_rfl) (by kernel_rfl) (by kernel_rfl) (by kernel_rfl) (fun _ _ _ h => h) hS0 (Or.inl ⟨by kernel_rfl, ?hya3⟩) ?resta3
          case hya3 => rintro wk ⟨s1, s2, s3, s4⟩; go_simp; try with_reducible rfl
          try simp only [Act.put, List.setIfInBounds_toArray, List.set_cons_zero, List.set_cons_succ, List.getElem_toArray, List.getElem_cons_succ, List.getElem_cons_zero]
          refine AnyK.take (i := 4) (v := ?va4) rfl (by kernel_rfl) (by kernel_rfl) (by kernel_rfl) (by kernel_rfl) (by kernel_rfl) (fun _ _ _ h => h) hS0 (Or.inl ⟨by kernel_rfl, ?hya4⟩) ?resta4
          case hya4 => rintro wk ⟨s1, s2, s3, s4⟩; go_simp; try with_reducible rfl
          try simp only [Act.put, List.setIfInBounds_toArray, List.set_cons_zero, List.set_cons_succ, List.getElem_toArray, List.getElem_cons_succ, List.getElem_cons_zero]
          refine AnyK.take (i := 5) (v := ?va5) rfl (by kernel_rfl) (by kernel_rfl) (by kernel_rfl) (by kernel_rfl) (by kernel_rfl) (fun _ _ _ h => h) hS0 (Or.inl ⟨by kernel_rfl, ?hya5⟩) ?resta5
          case hya5 => rintro wk ⟨s1, s2, s3, s4⟩; go_simp; try with_reducible rfl
          try simp only [Act.put, List.setIfInBounds_toArray, List.set_cons_zero, List.set_cons_succ, List.getElem_toArray, List.getElem_cons_succ, List.getElem_cons_zero]
          refine AnyK.take (i := 6) (v := ?va6) rfl (by kernel_rfl) (by kernel_rfl) (by kernel_rfl) (by kernel_rfl) (by kernel_rfl) (fun _ _ _ h => h) hS0 (Or.inl ⟨by kernel_rfl, ?hya6⟩) ?resta6
          case hya6 => rintro wk ⟨s1, s2, s3, s4⟩; go_simp; try with_reducible rfl
          try simp only [Act.put, List.setIfInBounds_toArray, List.set_cons_zero, List.set_cons_succ, List.getElem_toArray, List.getElem_cons_succ, List.getElem_cons_zero]
          refine AnyK.take (i := 7) (v := ?va7) rfl (by kernel_rfl) (by kernel_rfl) (by kernel_rfl) (by kernel_rfl) (by kernel_rfl) (fun _ _ _ h => h) hS0 (Or.inl ⟨by kernel_rfl, ?hya7⟩) ?resta7
          case hya7 => rintro wk ⟨s1, s2, s3, s4⟩; go_simp; try with_reducible rfl
          try simp only [Act.put, List.setIfInBounds_toArray, List.set_cons_zero, List.set_cons_succ, List.getElem_toArray, List.getElem_cons_succ, List.getElem_cons_zero]
          refine AnyK.take (i := 8) (v := ?va8) rfl (by kernel_rfl) (by kernel_rfl) (by kernel_rfl) (by kernel_rfl) (by kernel_rfl) (fun _ _ _ h => h) hS0 (Or.inl ⟨by kernel_rfl, ?hya8⟩) ?resta8
          case hya8 => rintro wk ⟨s1, s2, s3, s4⟩; go_simp; try with_reducible rfl
          try simp only [Act.put, List.setIfInBounds_toArray, List.set_cons_zero, List.set_cons_succ, List.getElem_toArray, List.getElem_cons_succ, List.getElem_cons_zero]
          refine AnyK.take (i := 9) (v := ?va9) rfl (by kernel_rfl) (by kernel_rfl) (by kernel_rfl) (by kernel_rfl) (by kernel_rfl) (fun _ _ _ h => h) hS0 (Or.inl ⟨by kernel_rfl, ?hya9⟩) ?resta9
          case hya9 => rintro wk ⟨s1, s2, s3, s4⟩; go_simp; try with_reducible rfl
          try simp only [Act.put, List.setIfInBounds_toArray, List.set_cons_zero, List.set_cons_succ, List.getElem_toArray, List.getElem_cons_succ, List.getElem_cons_zero]
          refine AnyK.take (i := 10) (v := ?va10) rfl (by kernel_rfl) (by kernel_rfl) (by kernel_rfl) (by kernel_rfl) (by kernel_rfl) (fun _ _ _ h => h) hS0 (Or.inl ⟨by kernel_rfl, ?hya10⟩) ?resta10
          case hya10 => rintro wk ⟨s1, s2, s3, s4⟩; go_simp; try with_reducible rfl
          try simp only [Act.put, List.setIfInBounds_toArray, List.set_cons_zero, List.set_cons_succ, List.getElem_toArray, List.getElem_cons_succ, List.getElem_cons_zero]
          refine AnyK.take (i := 11) (v := ?va11) rfl (by kernel_rfl) (by kernel_rfl) (by kernel_rfl) (by kernel_rfl) (by kernel_rfl) (fun _ _ _ h => h) hS0 (Or.inl ⟨by kernel_rfl, ?hya11⟩) ?resta11
          case hya11 => rintro wk ⟨s1, s2, s3, s4⟩; go_simp; try with_reducible rfl
          try simp only [Act.put, List.setIfInBounds_toArray, List.set_cons_zero, List.set_cons_succ, List.getElem_toArray, List.getElem_cons_succ, List.getElem_cons_zero]
          refine AnyK.take (i := 12) (v := ?va12) rfl (by kernel_rfl) (by kernel_rfl) (by kernel_rfl) (by kernel_rfl) (by kernel_rfl) (fun _ _ _ h => h) hS0 (Or.inl ⟨by kernel_rfl, ?hya12⟩) ?resta12
          case hya12 => rintro wk ⟨s1, s2, s3, s4⟩; go_simp; try with_reducible rfl
          try simp only [Act.put, List.setIfInBounds_toArray, List.set_cons_zero, List.set_cons_succ, List.getElem_toArray, List.getElem_cons_succ, List.getElem_cons_zero]
          refine AnyK.take (i := 13) (v := ?va13) rfl (by kernel_rfl) (by kernel_rfl) (by kernel_rfl) (by kernel_rfl) (by kernel_rfl) (fun _ _ _ h => h) hS0 (Or.inl ⟨by kernel_rfl, ?hya13⟩) ?resta13
          case hya13 => rintro wk ⟨s1, s2, s3, s4⟩; go_simp; try with_reducible rfl
          try simp only [Act.put, List.setIfInBounds_toArray, List.set_cons_zero, List.set_cons_succ, List.getElem_toArray, List.getElem_cons_succ, List.getElem_cons_zero]
          refine AnyK.take (i := 14) (v := ?va14) rfl (by kernel_rfl) (by kernel_rfl) (by kernel_rfl) (by kernel_rfl) (by kernel_rfl) (fun _ _ _ h => h) hS0 (Or.inl ⟨by kernel_rfl, ?hya14⟩) ?resta14
          case hya14 => rintro wk ⟨s1, s2, s3, s4⟩; go_simp; try with_reducible rfl
          try simp only [Act.put, List.setIfInBounds_toArray, List.set_cons_zero, List.set_cons_succ, List.getElem_toArray, List.getElem_cons_succ, List.getElem_cons_zero]
          refine AnyK.take (i := 15) (v := ?va15) rfl (by kernel_rfl) (by kernel_rfl) (by kernel_rfl) (by kernel_rfl) (by kernel_rfl) (fun _ _ _ h => h) hS0 (Or.inl ⟨by kernel_rfl, ?hya15⟩) ?resta15
          case hya15 => rintro wk ⟨s1, s2, s3, s4⟩; go_simp; try with_reducible rfl
          try simp only [Act.put, List.setIfInBounds_toArray, List.set_cons_zero, List.set_cons_succ, List.getElem_toArray, List.getElem_cons_succ, List.getElem_cons_zero]
          refine AnyK.take (i := 16) (v := ?va16) rfl (by kernel_rfl) (by kernel_rfl) (by kernel_rfl) (by kernel_rfl) (by kernel_rfl) (fun _ _ _ h => h) hS0 (Or.inl ⟨by kernel_rfl, ?hya16⟩) ?resta16
          case hya16 => rintro wk ⟨s1, s2, s3, s4⟩; go_simp; try with_reducible rfl
          try simp only [Act.put, List.setIfInBounds_toArray, List.set_cons_zero, List.set_cons_succ, List.getElem_toArray, List.getElem_cons_succ, List.getElem_cons_zero]
          refine AnyK.one (i := 17) rfl (by kernel_rfl) (by rfl) (fun K hK => ?_)
          go_simp
          refine HCL.out.mono ?_
          rintro r w8 ⟨u8, e8, rfl, hu8, he8, hm8, hs8, hg8⟩
          have hn8 := gb_trans hd1 hg8
          have hS8 : w8.cell? ⟨g, q, none⟩ = some (.slice (some ⟨rb, 0, none⟩) D.n rc) ∧ w8.cell? ⟨ab, 3, none⟩ = some (.int .i64 (tt : Int)) ∧ w8.cell? ⟨rb, tt, none⟩ = some (.string y) ∧ w8.cell? ⟨ab, 2, none⟩ = some (.string aw) := ⟨hn8.cell t1 (by simp; omega), hn8.cell a3 (by simp; omega), hn8.cell t2 (by simp; omega), hn8.cell a2 (by simp; omega)⟩
          refine hK.out _ _ (.inr hS8) ?_
          clear hK K
          try simp only [Act.put, List.setIfInBounds_toArray, List.set_cons_zero, List.set_cons_succ, List.getElem_toArray, List.getElem_cons_succ, List.getElem_cons_zero]
          refine AnyK.take (i := 18) (v := ?va18) rfl (by kernel_rfl) (by kernel_rfl) (by kernel_rfl) (by kernel_rfl) (by kernel_rfl) (fun _ _ _ h => h) hS8 (Or.inl ⟨by kernel_rfl, ?hya18⟩) ?resta18
          case hya18 => rintro wk ⟨s1, s2, s3, s4⟩; go_simp; try with_reducible rfl
          try simp only [Act.put, List.setIfInBounds_toArray, List.set_cons_zero, List.set_cons_succ, List.getElem_toArray, List.getElem_cons_succ, List.getElem_cons_zero]
          have g8 := hS8.2.2.1
          have hn8' := gb_trans hga hn8
          have rf8 : w8.frozen? ⟨rb, tt, none⟩ = false := (hn8'.frozen_far ⟨rb, tt, none⟩ hrl (by simp; omega)).trans rf
          refine AnyK.one (i := 19) rfl (by kernel_rfl) (by rfl) (fun K hK => ?_)
          go_simp
          refine hK.out _ _ (.inl rfl) (AnyK.done (by kernel_rfl) ?_ _)
          clear hK K
          have hom8 := (HOM.out.kept hn8' (by intro j hj; cases hj; exact hsg)).stored hlt httn HRB.out u8
          have hG8 := (HG.out.more hn8' hww (fun _ e => .inl e)).set (p := ⟨rb, tt, none⟩) (.inr (by have := HMW.out; show _ ≤ rb; omega)) (.string u8)
          have hs8' := hs8.other (p := ⟨rb, tt, none⟩) (by show sb ≠ rb; omega) (.string u8)
          have hbx8 := (HBX.out.kept hn8' (by simp; exact hmsb)).other (p := ⟨rb, tt, none⟩) (by show mb ≠ rb; omega) (.string u8)
          clear hS0 hS8 g8 rf8 t1 t2 a2 a3
          go_wp2_with fail
          go_roundw
          case rel => exact ⟨d + 1, e8, _, by omega, by go_num, hom8, HAZ.out.next hm8 HTT.out hu8, he8, hs8', hbx8, hG8⟩
          case measure => simp [intOf]; omega
        · have hdn : d = D.na q := by omega
          have hgt : ¬ ((d : Int) < (D.na q : Int)) := by omega
          have haz := HAZ.out
          rw [hdn] at haz
          have HAZ2 := Lib.hid haz.row; clear haz HAZ
          have HDN := Lib.hid hdn; clear hdn
          go_wp2_with fail
          go_roundw
          case rel => exact ⟨q + 1, e, Y, by omega, by go_num, HOM.out, HAZ2.out, HE.out, HS.out, HBX.out, HG.out⟩
          case measure => simp [intOf]; omega
    · have hqn : q = D.n := by omega
      have hgt : ¬ ((q : Int) < (D.n : Int)) := by omega
      have haz := HAZ.out
      rw [hqn] at haz
      have HAZ2 := Lib.hid haz.done; clear haz HAZ
      have HQN := Lib.hid hqn; clear hqn
      go_wp2_with fail
      go_ret
      exact ⟨_, e, Y, rfl, HOM.out.mt (by unfold maxLen; omega) (by intro j hj; cases hj; exact .inl hsg), HAZ2.out, HE.out, HS.out, Gr.gb HG.out⟩

set_option maxHeartbeats 2000000 in
theorem final7_any {D : MD} {z : Option Nat} {v : Value} {p : Nat} (w : World) (hM : Ma z w v D) (hp : p < D.n) (hn : D.n ≤ 60) :
    Calls Tryz.prog 56 #[v, .int .i64 (p : Int)] w (fun r w' => r = .returned (.string (finS D p)) ∧ Below w.heap.size w w') := by
  obtain ⟨sv, rfl, hSt⟩ := hM
  obtain ⟨a, cap, b, off, A, C, BB, O, rfl, ha, hc, hm, hb, hrow⟩ := hSt.open
  unfold maxLen at hm
  clear hSt
  obtain rfl := ha (by omega)
  obtain ⟨hbb, hbs⟩ := hb (by omega)
  obtain ⟨k1, _⟩ := hrow p hp
  have hbel := box_below w (.cells #[.int .i64 D.kind, .int .i64 D.start, .string D.lead, .slice (some ⟨b, off, none⟩) D.n cap] 31)
  have c0 := (hbel.cell (p := ⟨b, off + p * 2, none⟩) hbb).trans k1
  have hbox := BoxM.new w D (.slice (some ⟨b, off, none⟩) D.n cap)
  have m0 := hbox.c0
  have m3 := hbox.c3
  have hpz : (p : Int) < (D.n : Int) := by omega
  have hpz0 : (0 : Int) ≤ (p : Int) := by omega
  have HBE := Lib.hid hbel; clear hbel
  have HZZ := Lib.hid (fun wx => r4zero_any D.kind wx)
  clear hb hrow ha k1 hbox
  cases hF : ((D.fin p).toList == [])
  · have hfs : finS D p = D.fin p := by unfold finS; rw [if_neg (fun h => by rw [h] at hF; exact absurd hF (by simp))]
    rw [hfs]
    clear hfs
    go_enter Tryz.func56, Tryz.ntmps56
    go_wp2_with fail
    go_ret
    exact ⟨rfl, HBE.out⟩
  · have hfs : finS D p = zeroF D.kind := by unfold finS; rw [if_pos (by rw [beq_iff_eq, Lib.toList_data] at hF; exact ByteArray.ext (Array.toList_inj.1 hF))]
    rw [hfs]
    clear hfs
    go_enter Tryz.func56, Tryz.ntmps56
    go_wp2_with fail
    refine (HZZ.out _).mono ?_
    rintro r w1 ⟨rfl, hb1⟩
    have HB1 := Lib.hid (HBE.out.trans (hb1.mono HBE.out.size)); clear hb1
    go_wp2_with fail
    go_ret
    exact ⟨rfl, HB1.out⟩
end Go.Proofs.YtlmfppjphblemaaGreatDoor

namespace Go.Proofs.YtlmfppjphblemaaGreatDoor
open Go Go.RowKit Go.Deep
set_option maxRecDepth 100000
set_option linter.unusedSimpArgs false

/-- Behind the reference's To. -/
def RToE (D : MD) (w : World) (r : Ending) (w' : World) : Prop := Below w.heap.size w w' ∧ ∃ (k : KK) (W : Nat → Nat → RK k) (V : Nat → RK k), k.1 = D.kind ∧ WtIs D W ∧ FinIs D V ∧
  ((∃ v Z, r = .returned (.tuple #[v, .int .i64 0]) ∧ Ss none w' v D.n Z ∧ ∀ i, i < D.n → Is k 0 (Z i) (toV D (CSR.starM (arcM D W) D.n) V i D.n)) ∨ (r = .returned (.tuple #[.slice none 0 0, .int .i64 2]) ∧ ¬ FitT D W V))
/-- Behind the reference's From. -/
def RFrE (D : MD) (w : World) (r : Ending) (w' : World) : Prop := Below w.heap.size w w' ∧ ∃ (k : KK) (W : Nat → Nat → RK k) (L : RK k) (st : Nat), k.1 = D.kind ∧ WtIs D W ∧ Is k 0 D.lead L ∧ D.start = (st : Int) ∧ st < D.n ∧
  ((∃ v Z, r = .returned (.tuple #[v, .int .i64 0]) ∧ Ss none w' v D.n Z ∧ ∀ j, j < D.n → Is k 0 (Z j) (L * CSR.starM (arcM D W) D.n st j)) ∨ (r = .returned (.tuple #[.slice none 0 0, .int .i64 2]) ∧ ¬ FitF D W L st))
/-- Behind the reference's Total. -/
def RTtE (D : MD) (w : World) (r : Ending) (w' : World) : Prop := Below w.heap.size w w' ∧ ∃ (k : KK) (W : Nat → Nat → RK k) (V : Nat → RK k) (L : RK k) (st : Nat), k.1 = D.kind ∧ WtIs D W ∧ FinIs D V ∧ Is k 0 D.lead L ∧ D.start = (st : Int) ∧ st < D.n ∧
  ((∃ u, r = .returned (.tuple #[.string u, .int .i64 0]) ∧ Is k 0 u (L * toV D (CSR.starM (arcM D W) D.n) V st D.n)) ∨
   (r = .returned (.tuple #[.string ⟨#[]⟩, .int .i64 2]) ∧ (¬ FitT D W V ∨ ¬ fitV (L * toV D (CSR.starM (arcM D W) D.n) V st D.n).1)))
theorem bel_gr {w w1 wr : World} {sb : Nat} (hb : Below w.heap.size w w1) (hg : Gr w1.heap.size (some sb) w1 wr) (hs : w.heap.size ≤ sb) : Below w.heap.size w wr :=
  ⟨hg.os.trans hb.os, hg.tape.trans hb.tape, hg.output.trans hb.output, Nat.le_trans hb.size hg.size, fun j hj => (hg.block j (by have := hb.size; omega) (by simp; omega)).trans (hb.block j hj)⟩

set_option maxHeartbeats 8000000 in
theorem rto_any {D : MD} {v : Value} (w : World) (hM : Ma none w v D) (hs : MSz D) (hvm : VM D) (hn : D.n ≤ 60) : Calls Tryz.prog 23 #[v] w (RToE D w) := by
  obtain ⟨sv, rfl, hSt⟩ := hM
  obtain ⟨a, cap, b, off, A, C, BB, O, hsv, _⟩ := hSt.open
  subst hsv
  obtain ⟨wm, hwm⟩ : ∃ wm, wm = w.alloc (.cells #[.int .i64 D.kind, .int .i64 D.start, .string D.lead, .slice a D.n cap] 31) := ⟨_, rfl⟩
  obtain ⟨mb, hmb⟩ : ∃ mb, mb = w.heap.size := ⟨_, rfl⟩
  have hbox := BoxM.new w D (.slice a D.n cap)
  have hbm : Below w.heap.size w wm := by rw [hwm]; exact box_below _ _
  rw [← hwm, ← hmb] at hbox
  have hva := valid6_any wm ⟨_, rfl, hSt.kept (gb_below hbm none)⟩ hs
  have m0 := hbox.c0
  have m1 := hbox.c1
  have m2 := hbox.c2
  have m3 := hbox.c3
  rw [hwm, hmb] at m0 m1 m2 m3
  have HBX := Lib.hid hbox; clear hbox
  have HBE := Lib.hid hbm; clear hbm
  have HVA := Lib.hid hva; clear hva
  have h60z : decide ((60 : Int) < (D.n : Int)) = false := by simp; omega
  obtain ⟨k, hk⟩ := hvm.kk
  obtain ⟨W, hW⟩ := hvm.wts hk
  have HMF := Lib.hid (fun wx (hb : Below w.heap.size w wx) => (⟨_, rfl, hSt.kept (gb_below hb none)⟩ : Ma none wx (.agg #[.int .i64 D.kind, .int .i64 D.start, .string D.lead, .slice a D.n cap]) D))
  have HMA := Lib.hid (fun sb wx (hx : w.heap.size ≤ sb) (hb : Below w.heap.size w wx) => (⟨_, rfl, (hSt.far (k := sb) hx).kept (gb_below hb _)⟩ : Ma (some sb) wx (.agg #[.int .i64 D.kind, .int .i64 D.start, .string D.lead, .slice a D.n cap]) D))
  have HZZ := Lib.hid (fun wx => r4zero_any D.kind wx)
  have HZS := Lib.hid (fun e => by have h := Is.zero k e; rw [hk] at h; exact h)
  have HSZM := Lib.hid hs; clear hs
  have HW := Lib.hid hW; clear hW
  clear hSt
  obtain ⟨V, hV⟩ := hvm.fins hk
  have HV := Lib.hid hV; clear hV
  have HVM := Lib.hid hvm; clear hvm
  have HK := Lib.hid hk; clear hk
  go_enter Tryz.func23, Tryz.ntmps23
  go_wp2_with fail
  rw [← hwm, ← hmb] at m0 m1 m2 m3
  rw [← hwm, ← hmb]
  have hmw : w.heap.size ≤ mb := by rw [hmb]; exact Nat.le_refl _
  clear hwm hmb
  refine HVA.out.mono ?_
  rintro r w1 ⟨hb1, hv⟩
  have hbx1 := HBX.out.kept (gb_below hb1 none) (by simp)
  have hbe1 := HBE.out.trans (hb1.mono HBE.out.size)
  clear hb1 HVA HBX HBE m0 m1 m2 m3
  obtain rfl : r = .returned (.bool true) := by
    rcases hv with ⟨_, h⟩ | ⟨h, _⟩
    · exact h
    · exact absurd HVM.out h
  clear hv
  have m3 := hbx1.c3
  have m0 := hbx1.c0
  have mA0 := fun o => BoxM.c0 (hbx1.kept (World.grownBy_alloc w1 o none) (by simp))
  have mA1 := fun o => BoxM.c1 (hbx1.kept (World.grownBy_alloc w1 o none) (by simp))
  have mA2 := fun o => BoxM.c2 (hbx1.kept (World.grownBy_alloc w1 o none) (by simp))
  have mA3 := fun o => BoxM.c3 (hbx1.kept (World.grownBy_alloc w1 o none) (by simp))
  obtain ⟨sb, hsb⟩ : ∃ sb, sb = w1.heap.size := ⟨_, rfl⟩
  obtain ⟨ws, hws0⟩ : ∃ ws, ws = w1.alloc (.cells #[.int .i64 D.kind, .bool false] 70) := ⟨_, rfl⟩
  have hs0 : SumR ws sb k.1 0 := by rw [hws0, hsb, HK.out]; exact SumR.new w1 _
  have hbs : Below w.heap.size w ws := by rw [hws0]; exact hbe1.alloc hbe1.size _
  have hws : w.heap.size ≤ sb := by rw [hsb]; exact hbe1.size
  have hbxs := hbx1.kept (w' := ws) (z := none) (by rw [hws0]; exact World.grownBy_alloc _ _ _) (by simp)
  have hmsb : mb < sb := by rw [hsb]; exact hbx1.lt
  have hac := arcs7_any (F := FitT D W V) ws hn HVM.out HSZM.out HK.out HW.out hs0 (HMA.out sb ws hws hbs) (fun f => f.path)
  have hws2 : w.heap.size ≤ ws.heap.size := hbs.size
  have HAC := Lib.hid hac; clear hac hs0
  have HBXS := Lib.hid hbxs; clear hbxs hbx1
  have HBS := Lib.hid hbs; clear hbs hbe1
  go_wp2_with fail
  rw [← hsb, ← hws0]
  clear hsb hws0 m0 m3 mA0 mA1 mA2 mA3
  refine HAC.out.mono ?_
  rintro r w2 ⟨v2, e2, Y2, rfl, hY2, hYM2, hE2, hs2, hg2⟩
  have hbx2 := HBXS.out.kept hg2 (by simp; omega)
  have hbe2 := HBS.out.grown hg2 hws2 (fun j hj => by cases hj; exact hws)
  have hst := stars_any (F := FitT D W V) w2 hn hs2 hE2 hY2 hYM2 (fun f => f.path.pow)
  have HST2 := Lib.hid hst; clear hst
  have HBX2 := Lib.hid hbx2; clear hbx2 HBXS
  have HBE2 := Lib.hid hbe2; clear hbe2 HBS
  clear hY2 hYM2 hE2 hs2 hg2 HAC
  go_wp2_with fail
  refine HST2.out.mono ?_
  rintro r w3 ⟨v3, e3, Y3, rfl, hY3, hYM3, hE3, hm3, hs3, hg3⟩
  have hbx3 := HBX2.out.kept hg3 (by simp; omega)
  have hbe3 := HBE2.out.grown hg3 HBE2.out.size (fun j hj => by cases hj; exact hws)
  obtain ⟨a2, cap2, b2, o2, A2, C2, B2, O2, rfl, ha2, hc2, hm2, hbb2, hrow2⟩ := hY3.open
  unfold maxLen at hm2
  have hmw3 : mb < w3.heap.size := hbx3.lt
  have hsl3 : sb < w3.heap.size := hs3.lt
  have hms' : some mb ≠ some sb := by simp; omega
  have HA2 := Lib.hid ha2; clear ha2
  have HBB2 := Lib.hid hbb2; clear hbb2
  have HR2 := Lib.hid hrow2; clear hrow2 hY3
  have HYM := Lib.hid hYM3; clear hYM3
  have HE3 := Lib.hid hE3; clear hE3
  have HS3 := Lib.hid hs3; clear hs3
  have HBX3 := Lib.hid hbx3; clear hbx3 HBX2
  have HBE3 := Lib.hid hbe3; clear hbe3 HBE2 HST2
  clear hm3 hg3
  go_wp2_with fail
  clear HMA
  -- ████ for i
  go_loopw [6, 7] (fun l i wr => ∃ (lv : Value) (p e : Nat) (Z : Nat → ByteArray), lv = l ∧ p ≤ D.n ∧ i = .int .i64 (p : Int) ∧ OwS wr w3.heap.size 9 lv p Z ∧ (∀ j, j < p → Is k e (Z j) (toV D (CSR.starM (arcM D W) D.n) V j D.n)) ∧ Er (FitT D W V) e ∧ (e = 0 → e3 = 0) ∧ SumR wr sb k.1 e ∧ Gr w3.heap.size (some sb) w3 wr)
    (fun _ i _ => D.n - (intOf i).toNat)
  case atStart => exact ⟨_, 0, e3, fun _ => ⟨#[]⟩, rfl, Nat.zero_le _, rfl, OwS.nil _ _ _ _, fun j hj => by omega, HE3.out, fun h => h, HS3.out, Gr.refl _ _ _⟩
  case round =>
    obtain ⟨lv, p, e, Z, hlv, hp, rfl, how, hto, hE, hm, hS, hG⟩ := hrel
    subst hlv
    clear HS3 HE3
    have HOW := Lib.hid how; clear how
    have HTO := Lib.hid hto; clear hto
    have HE := Lib.hid hE; clear hE
    have HM := Lib.hid hm; clear hm
    have HS := Lib.hid hS; clear hS
    have HG := Lib.hid hG; clear hG
    by_cases hlt : p < D.n
    · have hpz : (p : Int) < (D.n : Int) := by omega
      have hpz0 : (0 : Int) ≤ (p : Int) := by omega
      have m0 := HG.out.cell HBX3.out.c0 hmw3 hms'
      go_wp2_with fail
      refine (HZZ.out _).mono ?_
      rintro r wz ⟨rfl, hbz⟩
      clear m0
      have hGz := HG.out.more (gb_below hbz (some sb)) HG.out.size (fun _ h => .inl h)
      have hSz := HS.out.kept hbz
      have howz := HOW.out.kept (gb_below hbz (some sb)) (by intro j hj; cases hj; exact hsl3)
      clear hbz
      have HGZ := Lib.hid hGz; clear hGz
      have HSZ := Lib.hid hSz; clear hSz HS
      have HOZ := Lib.hid howz; clear howz HOW
      go_wp2_with fail
      -- ████ for j
      go_loopw [8, 9] (fun x j wr => ∃ (q e' : Nat) (u : ByteArray), q ≤ D.n ∧ j = .int .i64 (q : Int) ∧ x = .string u ∧ Is k e' u (toV D (CSR.starM (arcM D W) D.n) V p q) ∧ Er (FitT D W V) e' ∧ (e' = 0 → e = 0) ∧ SumR wr sb k.1 e' ∧ OwS wr w3.heap.size 9 lv p Z ∧ Gr w3.heap.size (some sb) w3 wr) (fun _ j _ => D.n - (intOf j).toNat)
      case atStart => exact ⟨0, e, _, Nat.zero_le _, rfl, rfl, HZS.out e, HE.out, fun h => h, HSZ.out, HOZ.out, HGZ.out⟩
      case round =>
        obtain ⟨q, e', u, hq, rfl, rfl, hu, hE, hm, hS, how, hG⟩ := hrel
        clear HGZ HSZ HOZ HG
        have HU := Lib.hid hu; clear hu
        have HE' := Lib.hid hE; clear hE
        have HM' := Lib.hid hm; clear hm
        have HS := Lib.hid hS; clear hS
        have HOW := Lib.hid how; clear how
        have HG := Lib.hid hG; clear hG
        by_cases hlt2 : q < D.n
        · have hqz : (q : Int) < (D.n : Int) := by omega
          have hqz0 : (0 : Int) ≤ (q : Int) := by omega
          obtain rfl := HA2.out (by omega)
          obtain ⟨hb21, hb22⟩ := HBB2.out (by omega)
          obtain ⟨r1, r2, r3, r4, r5, _, r7⟩ := HR2.out p hlt
          have r4' := r4 (by omega)
          have r5' := r5 (by omega)
          rw [r4'] at r1
          have y0 := HG.out.cell r1 hb21 hb22
          have y1 := HG.out.cell (r7 q hlt2) r5'.1 r5'.2
          have m0 := HG.out.cell HBX3.out.c0 hmw3 hms'
          have m1 := HG.out.cell HBX3.out.c1 hmw3 hms'
          have m2 := HG.out.cell HBX3.out.c2 hmw3 hms'
          have m3 := HG.out.cell HBX3.out.c3 hmw3 hms'
          unfold maxLen at r3
          have hcn : (C2 p : Int) ≤ 9223372036854775807 := by omega
          have hxi := (HYM.out p q hlt hlt2).mono (fun h => HM.out (HM'.out h))
          obtain ⟨y, hy⟩ : ∃ y, y = Y3 p q := ⟨_, rfl⟩
          rw [← hy] at y1 hxi
          have HXI := Lib.hid hxi; clear hxi hy
          have HKG := Lib.hid (fun wk (hg : Gr w3.heap.size (some sb) wr wk) => (⟨hg.cell y0 hb21 hb22, hg.cell y1 r5'.1 r5'.2, hg.cell m0 hmw3 hms', hg.cell m1 hmw3 hms', hg.cell m2 hmw3 hms', hg.cell m3 hmw3 hms'⟩ :
            wk.cell? ⟨b2, o2 + p, none⟩ = some (.slice (some ⟨B2 p, O2 p, none⟩) D.n (C2 p)) ∧ wk.cell? ⟨B2 p, O2 p + q, none⟩ = some (.string y) ∧ wk.cell? ⟨mb, 0, none⟩ = some (.int .i64 D.kind) ∧ wk.cell? ⟨mb, 1, none⟩ = some (.int .i64 D.start) ∧ wk.cell? ⟨mb, 2, none⟩ = some (.string D.lead) ∧ wk.cell? ⟨mb, 3, none⟩ = some (.slice a D.n cap)))
          have hfi := final7_any (p := q) wr.drew (HMF.out _ (bel_gr HBE3.out HG.out hws).drew) hlt2 hn
          have HFI := Lib.hid hfi; clear hfi
          have hfs := (finS_is HK.out HV.out hlt2).mono (e' := e') (fun _ => rfl)
          have HFS := Lib.hid hfs; clear hfs
          have hgsz := HG.out.size
          have hG0 : Gr w3.heap.size (some sb) wr wr.drew := (Gr.refl _ _ _).drew
          clear r1 r4 r5 r7 r4' r5' hb21 hb22
          go_wp2_with fail
          go_region_held2 (fun wk => wk.cell? ⟨b2, o2 + p, none⟩ = some (.slice (some ⟨B2 p, O2 p, none⟩) D.n (C2 p)) ∧ wk.cell? ⟨B2 p, O2 p + q, none⟩ = some (.string y) ∧ wk.cell? ⟨mb, 0, none⟩ = some (.int .i64 D.kind) ∧ wk.cell? ⟨mb, 1, none⟩ = some (.int .i64 D.start) ∧ wk.cell? ⟨mb, 2, none⟩ = some (.string D.lead) ∧ wk.cell? ⟨mb, 3, none⟩ = some (.slice a D.n cap))
            (first | exact HKG.out _ (by assumption))
            (first
            | (go_at_call 56; refine HFI.out.mono ?_; rintro r w5 ⟨rfl, hb5⟩; have hs5 := HS.out.drew.kept hb5; have hn5 := hG0.more (gb_below hb5 (some sb)) hgsz (fun _ e => .inl e))
            | (go_at_call 55; refine (rtimes7_is (F := FitT D W V) HXI.out HFS.out HE'.out (fun f => f.prodF hlt hlt2) hs5).mono ?_; rintro r w6 ⟨u6, e6, rfl, hu6, he6, hm6, hs6, hg6⟩; have hn6 := hn5.more hg6 (by have := hn5.size; omega) (fun _ e => .inl e))
            | (go_at_call 54; refine (rplus7_is (F := FitT D W V) (HU.out.mono hm6) hu6 he6 (fun f => f.sumF hlt hlt2) hs6).mono ?_; rintro r w7 ⟨u7, e7, rfl, hu7, he7, hm7, hs7, hg7⟩; have hn7 := hn6.more hg7 (by have := hn6.size; omega) (fun _ e => .inl e)))
          rename_i hH
          clear hH
          have how7 := ((HOW.out.kept (drew_gb wr (some sb)) (by intro j hj; cases hj; exact hsl3)).kept (gb_below hb5 (some sb)) (by intro j hj; cases hj; exact hsl3)).kept hg6 (by intro j hj; cases hj; exact hsl3)
          have how8 := how7.kept hg7 (by intro j hj; cases hj; exact hsl3)
          clear how7 y0 y1 m0 m1 m2 m3
          go_wp2_with fail
          go_roundw
          case rel => exact ⟨q + 1, e7, u7, by omega, by go_num, rfl, by rw [toV_fin]; exact hu7, he7, fun h => HM'.out (hm6 (hm7 h)), hs7, how8, HG.out.trans hn7⟩
          case measure => simp [intOf]; omega
        · have hqn : q = D.n := by omega
          have hgt : ¬ ((q : Int) < (D.n : Int)) := by omega
          have hu := HU.out
          rw [hqn] at hu
          have HUN := Lib.hid hu; clear hu HU
          have HQN := Lib.hid hqn; clear hqn
          obtain ⟨i0, hi0, hz0, hz1, hz2⟩ := info_parts info_str
          have hrz := HOW.out.kept (World.grownBy_alloc wr (.cells #[.string u] 9) none) (by simp)
          have HRZ := Lib.hid hrz; clear hrz
          have hnew : (wr.alloc (.cells #[.string u] 9)).cell? ⟨wr.heap.size, 0, none⟩ = some (.string u) := cell_new wr _ _ 0 _ rfl
          have HNW := Lib.hid hnew; clear hnew
          have hwsz : w3.heap.size ≤ (wr.alloc (.cells #[.string u] 9)).heap.size := by have := HG.out.size; simp; omega
          go_wp2_with (at_builtin; refine wpList_append_lies _ rfl (.tmp 56) (.tmp 58) 33 rfl w3.heap.size 9 i0 (.string ⟨#[]⟩) 1 16 Tryz.underlying33 hi0 hz0 hz1 hz2 rfl (by omega) lv p _ (by first | rfl | simp [Act.eval, Act.put]) HRZ.out ⟨wr.heap.size, 0, none⟩ 1 1 [.string u] (by first | rfl | simp [Act.eval, Act.put]) rfl (news1 HNW.out) (one_str _) (by omega) (by unfold maxLen; omega) (by omega) hwsz _ rfl ?_; intro go cap' wa hown hgrow hat hlt')
          go_roundw
          case rel =>
            have hsa : SumR (wr.alloc (.cells #[.string u] 9)) sb k.1 e' := HS.out.kept (box_below _ _)
            have hsb5 : SumR wa sb k.1 e' := by
              unfold SumR at *
              rw [hgrow.block sb (Array.getElem?_eq_some_iff.1 hsa).1 (fun e => by have := (World.ownsRow.lt HOW.out sb e.symm).1; omega)]; exact hsa
            have hown' : OwS wa w3.heap.size 9 (.slice (some ⟨go, 0, none⟩) (p + 1) cap') (p + 1) (fun j => if j = p then u else Z j) := by
              unfold OwS
              rw [← strs_snoc, strs_congr (Y := Z) (fun j hj => by rw [if_neg (by omega)]), if_pos rfl]; exact hown
            have hGa := (HG.out.alloc HG.out.size (.cells #[.string u] 9)).more hgrow hwsz (fun j hj => .inr (World.ownsRow.lt HOW.out j hj).1)
            refine ⟨_, p + 1, e', _, rfl, by omega, by go_num, hown', fun j hj => ?_, HE'.out, fun h => HM.out (HM'.out h), hsb5, hGa⟩
            by_cases hjp : j = p
            · subst hjp; simp only [if_true]; exact HUN.out
            · simp only [if_neg hjp]; exact (HTO.out j (by omega)).mono HM'.out
          case measure => simp [intOf]; omega
    · have hpn : p = D.n := by omega
      have hgt : ¬ ((p : Int) < (D.n : Int)) := by omega
      have HPN := Lib.hid hpn; clear hpn
      have HBF := Lib.hid (bel_gr HBE3.out HG.out hws)
      rcases HE.out.1 with rfl | rfl
      · have e1 := HS.out.c1 (b := false) (by simp)
        go_wp2_with fail
        go_ret2
        have how := HOW.out
        rw [HPN.out] at how
        exact ⟨HBF.out, k, W, V, HK.out, HW.out, HV.out, .inl ⟨_, Z, rfl, how.ss (by simp), fun j hj => HTO.out j (by rw [HPN.out]; exact hj)⟩⟩
      · have e1 := HS.out.c1 (b := true) (by simp)
        go_wp2_with fail
        go_ret2
        exact ⟨HBF.out, k, W, V, HK.out, HW.out, HV.out, .inr ⟨rfl, fun f => by have := HE.out.2 f; omega⟩⟩

set_option maxHeartbeats 8000000 in
theorem rfrom_any {D : MD} {v : Value} (w : World) (hM : Ma none w v D) (hs : MSz D) (hvm : VM D) (hn : D.n ≤ 60) : Calls Tryz.prog 24 #[v] w (RFrE D w) := by
  obtain ⟨sv, rfl, hSt⟩ := hM
  obtain ⟨a, cap, b, off, A, C, BB, O, hsv, _⟩ := hSt.open
  subst hsv
  obtain ⟨wm, hwm⟩ : ∃ wm, wm = w.alloc (.cells #[.int .i64 D.kind, .int .i64 D.start, .string D.lead, .slice a D.n cap] 31) := ⟨_, rfl⟩
  obtain ⟨mb, hmb⟩ : ∃ mb, mb = w.heap.size := ⟨_, rfl⟩
  have hbox := BoxM.new w D (.slice a D.n cap)
  have hbm : Below w.heap.size w wm := by rw [hwm]; exact box_below _ _
  rw [← hwm, ← hmb] at hbox
  have hva := valid6_any wm ⟨_, rfl, hSt.kept (gb_below hbm none)⟩ hs
  have m0 := hbox.c0
  have m1 := hbox.c1
  have m2 := hbox.c2
  have m3 := hbox.c3
  rw [hwm, hmb] at m0 m1 m2 m3
  have HBX := Lib.hid hbox; clear hbox
  have HBE := Lib.hid hbm; clear hbm
  have HVA := Lib.hid hva; clear hva
  have h60z : decide ((60 : Int) < (D.n : Int)) = false := by simp; omega
  obtain ⟨k, hk⟩ := hvm.kk
  obtain ⟨W, hW⟩ := hvm.wts hk
  have HMF := Lib.hid (fun wx (hb : Below w.heap.size w wx) => (⟨_, rfl, hSt.kept (gb_below hb none)⟩ : Ma none wx (.agg #[.int .i64 D.kind, .int .i64 D.start, .string D.lead, .slice a D.n cap]) D))
  have HMA := Lib.hid (fun sb wx (hx : w.heap.size ≤ sb) (hb : Below w.heap.size w wx) => (⟨_, rfl, (hSt.far (k := sb) hx).kept (gb_below hb _)⟩ : Ma (some sb) wx (.agg #[.int .i64 D.kind, .int .i64 D.start, .string D.lead, .slice a D.n cap]) D))
  have HZZ := Lib.hid (fun wx => r4zero_any D.kind wx)
  have HZS := Lib.hid (fun e => by have h := Is.zero k e; rw [hk] at h; exact h)
  have HSZM := Lib.hid hs; clear hs
  have HW := Lib.hid hW; clear hW
  clear hSt
  obtain ⟨L, hL⟩ := hvm.leads hk
  obtain ⟨st, hst⟩ : ∃ st : Nat, D.start = (st : Int) := ⟨D.start.toNat, by have := hvm.s0; omega⟩
  have hstn : st < D.n := by have := hvm.s1; omega
  have HL := Lib.hid hL; clear hL
  have HST := Lib.hid hst; clear hst
  have HVM := Lib.hid hvm; clear hvm
  have HK := Lib.hid hk; clear hk
  go_enter Tryz.func24, Tryz.ntmps24
  go_wp2_with fail
  rw [← hwm, ← hmb] at m0 m1 m2 m3
  rw [← hwm, ← hmb]
  have hmw : w.heap.size ≤ mb := by rw [hmb]; exact Nat.le_refl _
  clear hwm hmb
  refine HVA.out.mono ?_
  rintro r w1 ⟨hb1, hv⟩
  have hbx1 := HBX.out.kept (gb_below hb1 none) (by simp)
  have hbe1 := HBE.out.trans (hb1.mono HBE.out.size)
  clear hb1 HVA HBX HBE m0 m1 m2 m3
  obtain rfl : r = .returned (.bool true) := by
    rcases hv with ⟨_, h⟩ | ⟨h, _⟩
    · exact h
    · exact absurd HVM.out h
  clear hv
  have m3 := hbx1.c3
  have m0 := hbx1.c0
  have mA0 := fun o => BoxM.c0 (hbx1.kept (World.grownBy_alloc w1 o none) (by simp))
  have mA1 := fun o => BoxM.c1 (hbx1.kept (World.grownBy_alloc w1 o none) (by simp))
  have mA2 := fun o => BoxM.c2 (hbx1.kept (World.grownBy_alloc w1 o none) (by simp))
  have mA3 := fun o => BoxM.c3 (hbx1.kept (World.grownBy_alloc w1 o none) (by simp))
  obtain ⟨sb, hsb⟩ : ∃ sb, sb = w1.heap.size := ⟨_, rfl⟩
  obtain ⟨ws, hws0⟩ : ∃ ws, ws = w1.alloc (.cells #[.int .i64 D.kind, .bool false] 70) := ⟨_, rfl⟩
  have hs0 : SumR ws sb k.1 0 := by rw [hws0, hsb, HK.out]; exact SumR.new w1 _
  have hbs : Below w.heap.size w ws := by rw [hws0]; exact hbe1.alloc hbe1.size _
  have hws : w.heap.size ≤ sb := by rw [hsb]; exact hbe1.size
  have hbxs := hbx1.kept (w' := ws) (z := none) (by rw [hws0]; exact World.grownBy_alloc _ _ _) (by simp)
  have hmsb : mb < sb := by rw [hsb]; exact hbx1.lt
  have hac := arcs7_any (F := FitF D W L st) ws hn HVM.out HSZM.out HK.out HW.out hs0 (HMA.out sb ws hws hbs) (fun f => f.path)
  have hws2 : w.heap.size ≤ ws.heap.size := hbs.size
  have HAC := Lib.hid hac; clear hac hs0
  have HBXS := Lib.hid hbxs; clear hbxs hbx1
  have HBS := Lib.hid hbs; clear hbs hbe1
  go_wp2_with fail
  rw [← hsb, ← hws0]
  clear hsb hws0 m0 m3 mA0 mA1 mA2 mA3
  refine HAC.out.mono ?_
  rintro r w2 ⟨v2, e2, Y2, rfl, hY2, hYM2, hE2, hs2, hg2⟩
  have hbx2 := HBXS.out.kept hg2 (by simp; omega)
  have hbe2 := HBS.out.grown hg2 hws2 (fun j hj => by cases hj; exact hws)
  have hst := stars_any (F := FitF D W L st) w2 hn hs2 hE2 hY2 hYM2 (fun f => f.path.pow)
  have HST2 := Lib.hid hst; clear hst
  have HBX2 := Lib.hid hbx2; clear hbx2 HBXS
  have HBE2 := Lib.hid hbe2; clear hbe2 HBS
  clear hY2 hYM2 hE2 hs2 hg2 HAC
  go_wp2_with fail
  refine HST2.out.mono ?_
  rintro r w3 ⟨v3, e3, Y3, rfl, hY3, hYM3, hE3, hm3, hs3, hg3⟩
  have hbx3 := HBX2.out.kept hg3 (by simp; omega)
  have hbe3 := HBE2.out.grown hg3 HBE2.out.size (fun j hj => by cases hj; exact hws)
  obtain ⟨a2, cap2, b2, o2, A2, C2, B2, O2, rfl, ha2, hc2, hm2, hbb2, hrow2⟩ := hY3.open
  unfold maxLen at hm2
  have hmw3 : mb < w3.heap.size := hbx3.lt
  have hsl3 : sb < w3.heap.size := hs3.lt
  have hms' : some mb ≠ some sb := by simp; omega
  have HA2 := Lib.hid ha2; clear ha2
  have HBB2 := Lib.hid hbb2; clear hbb2
  have HR2 := Lib.hid hrow2; clear hrow2 hY3
  have HYM := Lib.hid hYM3; clear hYM3
  have HE3 := Lib.hid hE3; clear hE3
  have HS3 := Lib.hid hs3; clear hs3
  have HBX3 := Lib.hid hbx3; clear hbx3 HBX2
  have HBE3 := Lib.hid hbe3; clear hbe3 HBE2 HST2
  clear hm3 hg3
  go_wp2_with fail
  clear HMA HMF HZZ HZS
  -- ████ for j
  go_loopw [6, 7] (fun l i wr => ∃ (lv : Value) (p e : Nat) (Z : Nat → ByteArray), lv = l ∧ p ≤ D.n ∧ i = .int .i64 (p : Int) ∧ OwS wr w3.heap.size 9 lv p Z ∧ (∀ j, j < p → Is k e (Z j) (L * CSR.starM (arcM D W) D.n st j)) ∧ Er (FitF D W L st) e ∧ (e = 0 → e3 = 0) ∧ SumR wr sb k.1 e ∧ Gr w3.heap.size (some sb) w3 wr)
    (fun _ i _ => D.n - (intOf i).toNat)
  case atStart => exact ⟨_, 0, e3, fun _ => ⟨#[]⟩, rfl, Nat.zero_le _, rfl, OwS.nil _ _ _ _, fun j hj => by omega, HE3.out, fun h => h, HS3.out, Gr.refl _ _ _⟩
  case round =>
    obtain ⟨lv, p, e, Z, hlv, hp, rfl, how, hto, hE, hm, hS, hG⟩ := hrel
    subst hlv
    clear HS3 HE3
    have HOW := Lib.hid how; clear how
    have HTO := Lib.hid hto; clear hto
    have HE := Lib.hid hE; clear hE
    have HM := Lib.hid hm; clear hm
    have HS := Lib.hid hS; clear hS
    have HG := Lib.hid hG; clear hG
    by_cases hlt : p < D.n
    · have hpz : (p : Int) < (D.n : Int) := by omega
      have hpz0 : (0 : Int) ≤ (p : Int) := by omega
      have hsz : (st : Int) < (D.n : Int) := by omega
      have hsz0 : (0 : Int) ≤ (st : Int) := by omega
      obtain rfl := HA2.out (by omega)
      obtain ⟨hb21, hb22⟩ := HBB2.out (by omega)
      obtain ⟨r1, r2, r3, r4, r5, _, r7⟩ := HR2.out st hstn
      have r4' := r4 (by omega)
      have r5' := r5 (by omega)
      rw [r4'] at r1
      have y0 := HG.out.cell r1 hb21 hb22
      have y1 := HG.out.cell (r7 p hlt) r5'.1 r5'.2
      have m2 := HG.out.cell HBX3.out.c2 hmw3 hms'
      have m1 := HG.out.cell HBX3.out.c1 hmw3 hms'
      rw [HST.out] at m1
      unfold maxLen at r3
      have hcn : (C2 st : Int) ≤ 9223372036854775807 := by omega
      have hxi := (HYM.out st p hstn hlt).mono HM.out
      obtain ⟨y, hy⟩ : ∃ y, y = Y3 st p := ⟨_, rfl⟩
      rw [← hy] at y1 hxi
      have HXI := Lib.hid hxi; clear hxi hy
      have HKG := Lib.hid (fun wk (hg : Gr w3.heap.size (some sb) wr wk) => keepG hg m2 m1 y0 y1 ⟨hmw3, hms'⟩ ⟨hmw3, hms'⟩ ⟨hb21, hb22⟩ r5')
      have HSX := Lib.hid HS.out.drew
      have hgsz := HG.out.size
      have hG0 : Gr w3.heap.size (some sb) wr wr.drew := (Gr.refl _ _ _).drew
      clear r1 r4 r5 r7 r4' r5' hb21 hb22
      obtain ⟨i0, hi0, hz0, hz1, hz2⟩ := info_parts info_str
      go_wp2_with fail
      go_region_held2 (fun wk => wk.cell? ⟨mb, 2, none⟩ = some (.string D.lead) ∧ wk.cell? ⟨mb, 1, none⟩ = some (.int .i64 (st : Int)) ∧ wk.cell? ⟨b2, o2 + st, none⟩ = some (.slice (some ⟨B2 st, O2 st, none⟩) D.n (C2 st)) ∧ wk.cell? ⟨B2 st, O2 st + p, none⟩ = some (.string y))
        (first | exact HKG.out _ (by assumption) | exact HKG.out _ (hn5a _))
        (first
        | (go_at_call 55; refine (rtimes7_is (F := FitF D W L st) (HL.out.mono (fun _ => rfl)) HXI.out HE.out (fun f => f.prod p hlt) HSX.out).mono ?_; rintro r w5 ⟨u5, e5, rfl, hu5, he5, hm5, hs5, hg5⟩; have hn5 := hG0.more hg5 hgsz (fun _ e => .inl e); have hn5a := fun o => hn5.alloc (by have := hn5.size; omega) o; have hw5 : w3.heap.size ≤ w5.heap.size := by { have := hn5.size; omega })
        | (refine step_append_lies _ rfl (.tmp 30) (.tmp 43) 33 rfl w3.heap.size 9 i0 (.string ⟨#[]⟩) 1 16 Tryz.underlying33 hi0 hz0 hz1 hz2 rfl (by omega) lv p (strs p Z) (by simp [Act.eval, Act.put]) ((HOW.out.kept (gb_trans (drew_gb wr (some sb)) hg5) (by intro j hj; cases hj; exact hsl3)).kept (World.grownBy_alloc _ _ none) (by simp)) ⟨w5.heap.size, 0, none⟩ 1 1 [.string u5] (by simp [Act.eval, Act.put]) rfl
            (news1 (cell_new w5 _ _ 0 _ rfl)) (one_str _) (by omega) (by unfold maxLen; omega) (by omega) (by simp; omega) _ rfl ?_
           intro go cap' wa hown hgrow hat hlt'
           have hn6 := (hn5a _).more hgrow (by simp; omega) (fun j hj => .inr (World.ownsRow.lt HOW.out j hj).1)))
      rename_i hH
      clear hH
      go_wp2_with fail
      go_roundw
      case rel =>
        have hsb5 : SumR (w5.alloc (.cells #[.string u5] 9)) sb k.1 e5 := hs5.kept (box_below _ _)
        have hsba : SumR wa sb k.1 e5 := by
          unfold SumR at *
          rw [hgrow.block sb (Array.getElem?_eq_some_iff.1 hsb5).1 (fun e => by have := (World.ownsRow.lt HOW.out sb e.symm).1; omega)]; exact hsb5
        have hown' : OwS wa w3.heap.size 9 (.slice (some ⟨go, 0, none⟩) (p + 1) cap') (p + 1) (fun j => if j = p then u5 else Z j) := by
          unfold OwS
          rw [← strs_snoc, strs_congr (Y := Z) (fun j hj => by rw [if_neg (by omega)]), if_pos rfl]; exact hown
        refine ⟨_, p + 1, e5, _, rfl, by omega, by go_num, hown', fun j hj => ?_, he5, fun h => HM.out (hm5 h), hsba, HG.out.trans hn6⟩
        by_cases hjp : j = p
        · subst hjp; simp only [if_true]; exact hu5
        · simp only [if_neg hjp]; exact (HTO.out j (by omega)).mono hm5
      case measure => simp [intOf]; omega
    · have hpn : p = D.n := by omega
      have hgt : ¬ ((p : Int) < (D.n : Int)) := by omega
      have HPN := Lib.hid hpn; clear hpn
      have HBF := Lib.hid (bel_gr HBE3.out HG.out hws)
      rcases HE.out.1 with rfl | rfl
      · have e1 := HS.out.c1 (b := false) (by simp)
        go_wp2_with fail
        go_ret2
        have how := HOW.out
        rw [HPN.out] at how
        exact ⟨HBF.out, k, W, L, st, HK.out, HW.out, HL.out, HST.out, hstn, .inl ⟨_, Z, rfl, how.ss (by simp), fun j hj => HTO.out j (by rw [HPN.out]; exact hj)⟩⟩
      · have e1 := HS.out.c1 (b := true) (by simp)
        go_wp2_with fail
        go_ret2
        exact ⟨HBF.out, k, W, L, st, HK.out, HW.out, HL.out, HST.out, hstn, .inr ⟨rfl, fun f => by have := HE.out.2 f; omega⟩⟩
end Go.Proofs.YtlmfppjphblemaaGreatDoor

namespace Go.Proofs.YtlmfppjphblemaaGreatDoor
open Go Go.RowKit Go.Deep
set_option maxRecDepth 100000
set_option linter.unusedSimpArgs false

set_option maxHeartbeats 8000000 in
theorem rtotal_any {D : MD} {v : Value} (w : World) (hM : Ma none w v D) (hs : MSz D) (hvm : VM D) (hn : D.n ≤ 60) : Calls Tryz.prog 25 #[v] w (RTtE D w) := by
  obtain ⟨sv, rfl, hSt⟩ := hM
  obtain ⟨a, cap, b, off, A, C, BB, O, hsv, _⟩ := hSt.open
  subst hsv
  obtain ⟨wm, hwm⟩ : ∃ wm, wm = w.alloc (.cells #[.int .i64 D.kind, .int .i64 D.start, .string D.lead, .slice a D.n cap] 31) := ⟨_, rfl⟩
  obtain ⟨mb, hmb⟩ : ∃ mb, mb = w.heap.size := ⟨_, rfl⟩
  have hbox := BoxM.new w D (.slice a D.n cap)
  have hbm : Below w.heap.size w wm := by rw [hwm]; exact box_below _ _
  rw [← hwm, ← hmb] at hbox
  have hto := rto_any wm ⟨_, rfl, hSt.kept (gb_below hbm none)⟩ hs hvm hn
  have m0 := hbox.c0
  have m1 := hbox.c1
  have m2 := hbox.c2
  have m3 := hbox.c3
  rw [hwm, hmb] at m0 m1 m2 m3
  have HBX := Lib.hid hbox; clear hbox
  have HBE := Lib.hid hbm; clear hbm
  have HTO := Lib.hid hto; clear hto
  clear hSt
  go_enter Tryz.func25, Tryz.ntmps25
  go_wp2_with fail
  rw [← hwm, ← hmb] at m0 m1 m2 m3
  rw [← hwm, ← hmb]
  have hmw : w.heap.size ≤ mb := by rw [hmb]; exact Nat.le_refl _
  clear hwm hmb
  refine HTO.out.mono ?_
  rintro r w1 ⟨hb1, k, W, V, hk, hW, hV, hv⟩
  have hbx1 := HBX.out.kept (gb_below hb1 none) (by simp)
  have hbe1 := HBE.out.trans (hb1.mono HBE.out.size)
  clear hb1 HTO HBX HBE m0 m1 m2 m3
  obtain ⟨L, hL⟩ := hvm.leads hk
  obtain ⟨st, hst⟩ : ∃ st : Nat, D.start = (st : Int) := ⟨D.start.toNat, by have := hvm.s0; omega⟩
  have hstn : st < D.n := by have := hvm.s1; omega
  rcases hv with ⟨v1, Z, rfl, hZ, hZs⟩ | ⟨rfl, hnf⟩
  · obtain ⟨a2, cap2, b2, o2, rfl, ha2, hc2, hm2, hb2, hcell⟩ := Rd.open hZ
    obtain rfl := ha2 (by omega)
    have l0 := hcell st hstn
    have hb2' := (hb2 (by omega)).1
    have m0 := hbx1.c0
    unfold maxLen at hm2
    have hsz : (st : Int) < (D.n : Int) := by omega
    have hsz0 : (0 : Int) ≤ (st : Int) := by omega
    obtain ⟨sb, hsb⟩ : ∃ sb, sb = w1.heap.size := ⟨_, rfl⟩
    obtain ⟨ws, hws0⟩ : ∃ ws, ws = w1.alloc (.cells #[.int .i64 D.kind, .bool false] 70) := ⟨_, rfl⟩
    have hs0 : SumR ws sb k.1 0 := by rw [hws0, hsb, hk]; exact SumR.new w1 _
    have hbs : Below w.heap.size w ws := by rw [hws0]; exact hbe1.alloc hbe1.size _
    have hws : w.heap.size ≤ sb := by rw [hsb]; exact hbe1.size
    have hgs : w1.grownBy ws none := by rw [hws0]; exact World.grownBy_alloc _ _ _
    have hbxs := hbx1.kept hgs (by simp)
    have hmsb : mb < sb := by rw [hsb]; exact hbx1.lt
    have hb2s : b2 < sb := by rw [hsb]; exact hb2'
    have l0s := hgs.cell l0 (by simp)
    have c1 := hbxs.c1
    have c2 := hbxs.c2
    rw [hst] at c1
    have hzi := hZs st hstn
    obtain ⟨z, hz⟩ : ∃ z, z = Z st := ⟨_, rfl⟩
    rw [← hz] at l0s hzi
    have hti := rtimes7_is (F := fitV (L * toV D (CSR.starM (arcM D W) D.n) V st D.n).1) hL hzi ⟨.inl rfl, fun _ => rfl⟩ (fun f => f) hs0.drew
    have HTI := Lib.hid hti; clear hti hzi hz hs0
    have hd1 := drew_gb ws (some sb)
    have HKG := Lib.hid (fun wk (hg : ws.grownBy wk (some sb)) => (⟨hg.cell c1 (by simp; omega), hg.cell c2 (by simp; omega), hg.cell l0s (by simp; omega)⟩ :
      wk.cell? ⟨mb, 1, none⟩ = some (.int .i64 (st : Int)) ∧ wk.cell? ⟨mb, 2, none⟩ = some (.string D.lead) ∧ wk.cell? ⟨b2, o2 + st, none⟩ = some (.string z)))
    have HVM := Lib.hid hvm; clear hvm
    have HW := Lib.hid hW; clear hW
    have HV := Lib.hid hV; clear hV
    have HL := Lib.hid hL; clear hL
    have HK := Lib.hid hk; clear hk
    have HST := Lib.hid hst; clear hst
    have HBS := Lib.hid hbs; clear hbs
    clear hZs hcell hZ ha2 hb2 hbxs hbx1 l0 hgs c1 c2 l0s
    go_wp2_with fail
    rw [← hsb, ← hws0]
    clear hsb hws0 m0
    go_region_held2 (fun wk => wk.cell? ⟨mb, 1, none⟩ = some (.int .i64 (st : Int)) ∧ wk.cell? ⟨mb, 2, none⟩ = some (.string D.lead) ∧ wk.cell? ⟨b2, o2 + st, none⟩ = some (.string z))
      (first | exact HKG.out _ (by assumption))
      (first
      | (go_at_call 55; refine HTI.out.mono ?_; rintro r w5 ⟨u5, e5, rfl, hu5, he5, hm5, hs5, hg5⟩; have hn5 := gb_trans hd1 hg5))
    rename_i hH
    clear hH
    have hbf := HBS.out.grown hn5 HBS.out.size (fun j hj => by cases hj; exact hws)
    have HBF := Lib.hid hbf; clear hbf
    rcases he5.1 with rfl | rfl
    · have e1 := hs5.c1 (b := false) (by simp)
      clear hs5
      go_wp2_with fail
      go_ret2
      exact ⟨HBF.out, k, W, V, L, st, HK.out, HW.out, HV.out, HL.out, HST.out, hstn, .inl ⟨u5, rfl, hu5⟩⟩
    · have e1 := hs5.c1 (b := true) (by simp)
      clear hs5
      go_wp2_with fail
      go_ret2
      exact ⟨HBF.out, k, W, V, L, st, HK.out, HW.out, HV.out, HL.out, HST.out, hstn, .inr ⟨rfl, .inr (fun f => by have := he5.2 f; omega)⟩⟩
  · have HBF := Lib.hid hbe1; clear hbe1
    go_wp2_with fail
    go_ret2
    exact ⟨HBF.out, k, W, V, L, st, hk, hW, hV, hL, hst, hstn, .inr ⟨rfl, .inl hnf⟩⟩

/-! ### What the law compares -/
/-- A list of values, or ErrLong for what is not little. -/
def LsE {k : KK} (D : MD) (F : Nat → RK k) (w : World) (r : Ending) (w' : World) : Prop := Below w.heap.size w w' ∧ ∃ (tv : Value) (te n : Nat) (Z : Nat → ByteArray), r = .returned (.tuple #[tv, .int .i64 (te : Int)]) ∧ Ss none w' tv n Z ∧ (te = 0 ∨ te = 2) ∧
  (te = 0 → n = D.n ∧ ∀ i, i < D.n → Is k 0 (Z i) (F i)) ∧ (te = 2 → ¬ LitM D)
def VlE {k : KK} (D : MD) (x : RK k) (w : World) (r : Ending) (w' : World) : Prop := Below w.heap.size w w' ∧ ∃ (s : ByteArray) (te : Nat), r = .returned (.tuple #[.string s, .int .i64 (te : Int)]) ∧ (te = 0 ∨ te = 2) ∧ (te = 0 → Is k 0 s x) ∧ (te = 2 → ¬ LitM D)
theorem ss_nil (w : World) : Ss none w (.slice none 0 0) 0 (fun _ => ⟨#[]⟩) := (OwS.nil w 0 9 (fun _ => ⟨#[]⟩)).ss (by simp)
theorem lim_ok {k : KK} {x : RK k} (h : fitV x.1) : Is k 0 (limV x.1).1 x ∧ (limV x.1).2 = 0 := by
  rcases limV_cases x.1 with ⟨h1, h2⟩ | ⟨h1, _⟩
  · rw [h2]; exact ⟨⟨by have := limV_size x.1; rw [h2] at this; exact Nat.le_trans this (by omega), fun _ => ⟨rfl, h1⟩⟩, rfl⟩
  · exact absurd h h1
variable {D : MD} {k : KK} {W : Nat → Nat → RK k} {V : Nat → RK k} {L : RK k} {st : Nat} {w w' : World} {r : Ending}
theorem ToE.sum (h : ToE D w r w') (hv : VM D) (hn : D.n ≤ 60) (hk : k.1 = D.kind) (hW : WtIs D W) (hV : FinIs D V) : LsE D (fun i => toV D (CSR.starM (arcM D W) D.n) V i D.n) w r w' := by
  refine ⟨h.1, ?_⟩
  rcases h.2 with ⟨h1, _⟩ | ⟨_, h1, _⟩ | ⟨_, _, k', W', V', hk', hW', hV', hr⟩
  · exact absurd hv h1
  · omega
  · obtain rfl : k' = k := Subtype.ext (hk'.trans hk.symm)
    obtain rfl : W' = W := hW'.1.trans hW.1.symm
    obtain rfl : V' = V := hV'.1.trans hV.1.symm
    rcases hr with ⟨v, Z, rfl, hs, hz⟩ | ⟨rfl, hnf⟩
    · exact ⟨v, 0, D.n, Z, rfl, hs, .inl rfl, fun _ => ⟨rfl, hz⟩, fun h => by omega⟩
    · exact ⟨_, 2, 0, _, rfl, ss_nil w', .inr rfl, fun h => by omega, fun _ hl => hnf (hl.fitT hv hW hV)⟩
theorem RToE.sum (h : RToE D w r w') (hv : VM D) (hk : k.1 = D.kind) (hW : WtIs D W) (hV : FinIs D V) : LsE D (fun i => toV D (CSR.starM (arcM D W) D.n) V i D.n) w r w' := by
  refine ⟨h.1, ?_⟩
  obtain ⟨_, k', W', V', hk', hW', hV', hr⟩ := h
  obtain rfl : k' = k := Subtype.ext (hk'.trans hk.symm)
  obtain rfl : W' = W := hW'.1.trans hW.1.symm
  obtain rfl : V' = V := hV'.1.trans hV.1.symm
  rcases hr with ⟨v, Z, rfl, hs, hz⟩ | ⟨rfl, hnf⟩
  · exact ⟨v, 0, D.n, Z, rfl, hs, .inl rfl, fun _ => ⟨rfl, hz⟩, fun h => by omega⟩
  · exact ⟨_, 2, 0, _, rfl, ss_nil w', .inr rfl, fun h => by omega, fun _ hl => hnf (hl.fitT hv hW hV)⟩
theorem FromE.sum (h : FromE D w r w') (hv : VM D) (hn : D.n ≤ 60) (hk : k.1 = D.kind) (hW : WtIs D W) (hL : Is k 0 D.lead L) (hst : D.start = (st : Int)) : LsE D (fun j => L * CSR.starM (arcM D W) D.n st j) w r w' := by
  refine ⟨h.1, ?_⟩
  rcases h.2 with ⟨h1, _⟩ | ⟨_, h1, _⟩ | ⟨_, _, k', W', L', st', hk', hW', hL', hs', hst', hr⟩
  · exact absurd hv h1
  · omega
  · obtain rfl : k' = k := Subtype.ext (hk'.trans hk.symm)
    obtain rfl : W' = W := hW'.1.trans hW.1.symm
    obtain rfl : L' = L := hL'.same hL
    obtain rfl : st' = st := by omega
    rcases hr with ⟨v, Z, rfl, hs, hz⟩ | ⟨rfl, hnf⟩
    · exact ⟨v, 0, D.n, Z, rfl, hs, .inl rfl, fun _ => ⟨rfl, hz⟩, fun h => by omega⟩
    · exact ⟨_, 2, 0, _, rfl, ss_nil w', .inr rfl, fun h => by omega, fun _ hl => hnf (hl.fitF hv hW hL hst')⟩
theorem RFrE.sum (h : RFrE D w r w') (hv : VM D) (hk : k.1 = D.kind) (hW : WtIs D W) (hL : Is k 0 D.lead L) (hst : D.start = (st : Int)) : LsE D (fun j => L * CSR.starM (arcM D W) D.n st j) w r w' := by
  refine ⟨h.1, ?_⟩
  obtain ⟨_, k', W', L', st', hk', hW', hL', hs', hst', hr⟩ := h
  obtain rfl : k' = k := Subtype.ext (hk'.trans hk.symm)
  obtain rfl : W' = W := hW'.1.trans hW.1.symm
  obtain rfl : L' = L := hL'.same hL
  obtain rfl : st' = st := by omega
  rcases hr with ⟨v, Z, rfl, hs, hz⟩ | ⟨rfl, hnf⟩
  · exact ⟨v, 0, D.n, Z, rfl, hs, .inl rfl, fun _ => ⟨rfl, hz⟩, fun h => by omega⟩
  · exact ⟨_, 2, 0, _, rfl, ss_nil w', .inr rfl, fun h => by omega, fun _ hl => hnf (hl.fitF hv hW hL hst')⟩
theorem TotE.sum (h : TotE D w r w') (hv : VM D) (hn : D.n ≤ 60) (hk : k.1 = D.kind) (hW : WtIs D W) (hV : FinIs D V) (hL : Is k 0 D.lead L) (hst : D.start = (st : Int)) : VlE D (L * toV D (CSR.starM (arcM D W) D.n) V st D.n) w r w' := by
  refine ⟨h.1, ?_⟩
  rcases h.2 with ⟨h1, _⟩ | ⟨_, h1, _⟩ | ⟨_, _, k', W', V', L', st', hk', hW', hV', hL', hs', hst', hr⟩
  · exact absurd hv h1
  · omega
  · obtain rfl : k' = k := Subtype.ext (hk'.trans hk.symm)
    obtain rfl : W' = W := hW'.1.trans hW.1.symm
    obtain rfl : V' = V := hV'.1.trans hV.1.symm
    obtain rfl : L' = L := hL'.same hL
    obtain rfl : st' = st := by omega
    rcases hr with ⟨q, rfl, rfl⟩ | ⟨rfl, hnf⟩
    · by_cases hf : fitV (L' * toV D (CSR.starM (arcM D W') D.n) V' st' D.n).1
      · obtain ⟨h1, h2⟩ := lim_ok hf
        exact ⟨_, _, rfl, .inl h2, fun _ => h1, fun h => by omega⟩
      · rcases limV_cases (L' * toV D (CSR.starM (arcM D W') D.n) V' st' D.n).1 with ⟨h1, _⟩ | ⟨_, h2⟩
        · exact absurd h1 hf
        · exact ⟨_, _, rfl, .inr h2, fun h => by omega, fun _ hl => hf (hl.fitL hv hW hV hL hst')⟩
    · exact ⟨_, 2, rfl, .inr rfl, fun h => by omega, fun _ hl => hnf (hl.fitT hv hW hV)⟩
theorem RTtE.sum (h : RTtE D w r w') (hv : VM D) (hk : k.1 = D.kind) (hW : WtIs D W) (hV : FinIs D V) (hL : Is k 0 D.lead L) (hst : D.start = (st : Int)) : VlE D (L * toV D (CSR.starM (arcM D W) D.n) V st D.n) w r w' := by
  refine ⟨h.1, ?_⟩
  obtain ⟨_, k', W', V', L', st', hk', hW', hV', hL', hs', hst', hr⟩ := h
  obtain rfl : k' = k := Subtype.ext (hk'.trans hk.symm)
  obtain rfl : W' = W := hW'.1.trans hW.1.symm
  obtain rfl : V' = V := hV'.1.trans hV.1.symm
  obtain rfl : L' = L := hL'.same hL
  obtain rfl : st' = st := by omega
  rcases hr with ⟨u, rfl, hu⟩ | ⟨rfl, hnf⟩
  · exact ⟨u, 0, rfl, .inl rfl, fun _ => hu, fun h => by omega⟩
  · refine ⟨_, 2, rfl, .inr rfl, fun h => by omega, fun _ hl => ?_⟩
    rcases hnf with hnf | hnf
    · exact hnf (hl.fitT hv hW hV)
    · exact hnf (hl.fitL hv hW hV hL hst')
end Go.Proofs.YtlmfppjphblemaaGreatDoor

namespace Go.Proofs.YtlmfppjphblemaaGreatDoor
open Go Go.RowKit Go.Deep
set_option maxRecDepth 100000
set_option linter.unusedSimpArgs false

theorem right_any (e f : Nat) (l s : Bool) (w : World) (he : e = 0 ∨ e = 2) (hf : f = 0 ∨ f = 2) (h1 : e = 2 ∨ f = 2 → l = true) (h2 : e = 0 → f = 0 → s = true) :
    Calls Tryz.prog 26 #[.int .i64 (e : Int), .int .i64 (f : Int), .bool l, .bool s] w (fun r w' => r = .returned (.bool true) ∧ w = w') := by
  rcases he with rfl | rfl
  · rcases hf with rfl | rfl
    · obtain rfl := h2 rfl rfl
      clear h1 h2
      show Calls _ _ #[.int .i64 0, .int .i64 0, .bool l, .bool true] w _
      go_enter Tryz.func26, Tryz.ntmps26
      go_wp2_with fail
      go_ret
      exact ⟨rfl, rfl⟩
    · obtain rfl := h1 (.inr rfl)
      clear h1 h2
      show Calls _ _ #[.int .i64 0, .int .i64 2, .bool true, .bool s] w _
      go_enter Tryz.func26, Tryz.ntmps26
      go_wp2_with fail
      go_ret
      exact ⟨rfl, rfl⟩
  · obtain rfl := h1 (.inl rfl)
    clear h1 h2
    rcases hf with rfl | rfl
    · show Calls _ _ #[.int .i64 2, .int .i64 0, .bool true, .bool s] w _
      go_enter Tryz.func26, Tryz.ntmps26
      go_wp2_with fail
      go_ret
      exact ⟨rfl, rfl⟩
    · show Calls _ _ #[.int .i64 2, .int .i64 2, .bool true, .bool s] w _
      go_enter Tryz.func26, Tryz.ntmps26
      go_wp2_with fail
      go_ret
      exact ⟨rfl, rfl⟩
variable {D : MD} {w w' : World} {r : Ending}
theorem ToE.no (h : ToE D w r w') (hv : ¬ VM D) : Below w.heap.size w w' ∧ r = .returned (.tuple #[.slice none 0 0, .int .i64 1]) := by
  rcases h.2 with ⟨_, h1⟩ | ⟨h1, _⟩ | ⟨h1, _⟩
  · exact ⟨h.1, h1⟩
  · exact absurd h1 hv
  · exact absurd h1 hv
theorem FromE.no (h : FromE D w r w') (hv : ¬ VM D) : Below w.heap.size w w' ∧ r = .returned (.tuple #[.slice none 0 0, .int .i64 1]) := by
  rcases h.2 with ⟨_, h1⟩ | ⟨h1, _⟩ | ⟨h1, _⟩
  · exact ⟨h.1, h1⟩
  · exact absurd h1 hv
  · exact absurd h1 hv
theorem TotE.no (h : TotE D w r w') (hv : ¬ VM D) : Below w.heap.size w w' ∧ r = .returned (.tuple #[.string ⟨#[]⟩, .int .i64 1]) := by
  rcases h.2 with ⟨_, h1⟩ | ⟨h1, _⟩ | ⟨h1, _⟩
  · exact ⟨h.1, h1⟩
  · exact absurd h1 hv
  · exact absurd h1 hv
theorem ToE.big (h : ToE D w r w') (hv : VM D) (hn : 60 < D.n) : Below w.heap.size w w' ∧ r = .returned (.tuple #[.slice none 0 0, .int .i64 2]) := by
  rcases h.2 with ⟨h1, _⟩ | ⟨_, _, h1⟩ | ⟨_, h1, _⟩
  · exact absurd hv h1
  · exact ⟨h.1, h1⟩
  · omega
theorem FromE.big (h : FromE D w r w') (hv : VM D) (hn : 60 < D.n) : Below w.heap.size w w' ∧ r = .returned (.tuple #[.slice none 0 0, .int .i64 2]) := by
  rcases h.2 with ⟨h1, _⟩ | ⟨_, _, h1⟩ | ⟨_, h1, _⟩
  · exact absurd hv h1
  · exact ⟨h.1, h1⟩
  · omega
theorem TotE.big (h : TotE D w r w') (hv : VM D) (hn : 60 < D.n) : Below w.heap.size w w' ∧ r = .returned (.tuple #[.string ⟨#[]⟩, .int .i64 2]) := by
  rcases h.2 with ⟨h1, _⟩ | ⟨_, _, h1⟩ | ⟨_, h1, _⟩
  · exact absurd hv h1
  · exact ⟨h.1, h1⟩
  · omega

set_option maxHeartbeats 16000000 in
theorem closureSums_any {D : MD} {v : Value} (w : World) (hM : Ma none w v D) (hs : MSz D) (ht : Tab w) : Calls Tryz.prog 4 #[v] w (TrueE w) := by
  obtain ⟨sv, rfl, hS⟩ := hM
  obtain ⟨a, cap, b, off, A, C, BB, O, hsv, _⟩ := hS.open
  subst hsv
  have hbox := BoxM.new w D (.slice a D.n cap)
  have hbel := box_below w (.cells #[.int .i64 D.kind, .int .i64 D.start, .string D.lead, .slice a D.n cap] 31)
  have hnn := hs.n
  obtain ⟨wb, hwb⟩ : ∃ wb, wb = w.alloc (.cells #[.int .i64 D.kind, .int .i64 D.start, .string D.lead, .slice a D.n cap] 31) := ⟨_, rfl⟩
  obtain ⟨mb, hmb⟩ : ∃ mb, mb = w.heap.size := ⟨_, rfl⟩
  rw [← hwb] at hbox hbel
  rw [← hmb] at hbox
  have HMS := Lib.hid (fun wx (hb : Below w.heap.size w wx) => hS.kept (gb_below hb none)); clear hS
  have HSZ := Lib.hid hs; clear hs
  have HT := Lib.hid ht; clear ht
  have HEX := Lib.hid (fun wk' (hb : Below w.heap.size w wk') => example_any wk' (HT.out.below hb (Nat.le_refl _)))
  have hkeep : ∀ w', Below wb.heap.size wb w' → BoxM w' mb D (.slice a D.n cap) ∧ Ma none w' (.agg #[.int .i64 D.kind, .int .i64 D.start, .string D.lead, .slice a D.n cap]) D ∧ Below w.heap.size w w' ∧ Tab w' := fun w' hb =>
    have hbw : Below w.heap.size w w' := hbel.trans (hb.mono hbel.size)
    ⟨hbox.kept (gb_below hb none) (by simp), ⟨_, rfl, HMS.out _ hbw⟩, hbw, HT.out.below hbw (Nat.le_refl _)⟩
  have HK := Lib.hid hkeep; clear hkeep
  have HB0 := Lib.hid (Below.refl wb.heap.size wb)
  have m0 := hbox.c0
  have m1 := hbox.c1
  have m2 := hbox.c2
  have m3 := hbox.c3
  rw [hwb, hmb] at m0 m1 m2 m3
  clear hbox hbel
  by_cases h9 : D.n ≤ 9
  · have g1 : decide ((9 : Int) < (D.n : Int)) = false := by simp; omega
    have g3 : decide ((100 : Int) < (D.n : Int)) = false := by simp; omega
    go_enter Tryz.func4, Tryz.ntmps4
    go_wp2_with fail
    rw [← hwb, ← hmb] at m0 m1 m2 m3
    rw [← hwb, ← hmb]
    clear hwb hmb
    refine (arcs6_any _ (HK.out _ HB0.out).2.1 HSZ.out (by omega)).mono ?_
    intro r w1 hr
    obtain ⟨rfl, hb⟩ := hr
    have HB1 := Lib.hid (HB0.out.trans (hb.mono HB0.out.size)); clear hb
    obtain ⟨ct, hct⟩ : ∃ ct, ct = arcsTo D D.n := ⟨_, rfl⟩
    rw [← hct]
    clear hct
    by_cases hbig : 1000 < ct
    · have hbz : decide ((1000 : Int) < (ct : Int)) = true := by simp; omega
      clear m0 m1 m2 m3
      go_wp2_with fail
      refine (HEX.out _ (HK.out _ HB1.out).2.2.1).mono ?_
      rintro r w9 ⟨rfl, hb9⟩
      have HF := Lib.hid ((HK.out _ HB1.out).2.2.1.trans (hb9.mono (HK.out _ HB1.out).2.2.1.size)); clear hb9
      go_wp2_with fail
      go_ret
      exact ⟨rfl, HF.out⟩
    · have hbz : decide ((1000 : Int) < (ct : Int)) = false := by simp; omega
      by_cases hvm : VM D
      · have HVM := Lib.hid hvm; clear hvm
        obtain ⟨k, hk⟩ := HVM.out.kk
        obtain ⟨W, hW⟩ := HVM.out.wts hk
        obtain ⟨V, hV⟩ := HVM.out.fins hk
        obtain ⟨L, hL⟩ := HVM.out.leads hk
        obtain ⟨st, hst⟩ : ∃ st : Nat, D.start = (st : Int) := ⟨D.start.toNat, by have := HVM.out.s0; omega⟩
        have HKK := Lib.hid hk; clear hk
        have HW := Lib.hid hW; clear hW
        have HV := Lib.hid hV; clear hV
        have HL := Lib.hid hL; clear hL
        have HST := Lib.hid hst; clear hst
        have g60 : decide ((60 : Int) < (D.n : Int)) = false := by simp; omega
        clear m0 m1 m2 m3
        have m0 := (HK.out _ HB1.out).1.c0
        have m1 := (HK.out _ HB1.out).1.c1
        have m2 := (HK.out _ HB1.out).1.c2
        have m3 := (HK.out _ HB1.out).1.c3
        go_wp2_with fail
        refine (to_any _ (HK.out _ HB1.out).2.1 HSZ.out (HK.out _ HB1.out).2.2.2).mono ?_
        intro r w2 hr
        obtain ⟨hb, tv, te, tn, tZ, rfl, hts, hte, htz, htl⟩ := hr.sum HVM.out (by omega) HKK.out HW.out HV.out
        have HB_t := Lib.hid hb
        have HSt := Lib.hid hts; clear hts
        have HEt := Lib.hid hte; clear hte
        have HZt := Lib.hid htz; clear htz
        have HLt := Lib.hid htl; clear htl
        have HB2 := Lib.hid (HB1.out.trans (hb.mono HB1.out.size)); clear hb
        clear m0 m1 m2 m3
        have m0 := (HK.out _ HB2.out).1.c0
        have m1 := (HK.out _ HB2.out).1.c1
        have m2 := (HK.out _ HB2.out).1.c2
        have m3 := (HK.out _ HB2.out).1.c3
        go_wp2_with fail
        refine (from_any _ (HK.out _ HB2.out).2.1 HSZ.out (HK.out _ HB2.out).2.2.2).mono ?_
        intro r w3 hr
        obtain ⟨hb, fv, fe, fn, fZ, rfl, hfs, hfe, hfz, hfl⟩ := hr.sum HVM.out (by omega) HKK.out HW.out HL.out HST.out
        have HB_f := Lib.hid hb
        have HSf := Lib.hid hfs; clear hfs
        have HEf := Lib.hid hfe; clear hfe
        have HZf := Lib.hid hfz; clear hfz
        have HLf := Lib.hid hfl; clear hfl
        have HB3 := Lib.hid (HB2.out.trans (hb.mono HB2.out.size)); clear hb
        clear m0 m1 m2 m3
        have m0 := (HK.out _ HB3.out).1.c0
        have m1 := (HK.out _ HB3.out).1.c1
        have m2 := (HK.out _ HB3.out).1.c2
        have m3 := (HK.out _ HB3.out).1.c3
        go_wp2_with fail
        refine (total_any _ (HK.out _ HB3.out).2.1 HSZ.out (HK.out _ HB3.out).2.2.2).mono ?_
        intro r w4 hr
        obtain ⟨hb, gv, ge, rfl, hge, hgz, hgl⟩ := hr.sum HVM.out (by omega) HKK.out HW.out HV.out HL.out HST.out
        have HB_g := Lib.hid hb
        have HEg := Lib.hid hge; clear hge
        have HZg := Lib.hid hgz; clear hgz
        have HLg := Lib.hid hgl; clear hgl
        have HB4 := Lib.hid (HB3.out.trans (hb.mono HB3.out.size)); clear hb
        clear m0 m1 m2 m3
        have m0 := (HK.out _ HB4.out).1.c0
        have m1 := (HK.out _ HB4.out).1.c1
        have m2 := (HK.out _ HB4.out).1.c2
        have m3 := (HK.out _ HB4.out).1.c3
        go_wp2_with fail
        refine (valid6_any _ (HK.out _ HB4.out).2.1 HSZ.out).mono ?_
        intro r w5 hr
        have hb := hr.1
        obtain rfl : r = .returned (.bool true) := by
          rcases hr.2 with ⟨h1, h2⟩ | ⟨h1, h2⟩
          · exact h2
          · exact absurd HVM.out h1
        have HB_5 := Lib.hid hb
        have HB5 := Lib.hid (HB4.out.trans (hb.mono HB4.out.size)); clear hb
        clear m0 m1 m2 m3
        have m0 := (HK.out _ HB5.out).1.c0
        have m1 := (HK.out _ HB5.out).1.c1
        have m2 := (HK.out _ HB5.out).1.c2
        have m3 := (HK.out _ HB5.out).1.c3
        obtain ⟨wl, hwl⟩ : ∃ wl, wl = w5.alloc (.cells #[.int .i64 D.kind, .int .i64 D.start, .string D.lead, .slice a D.n cap] 31) := ⟨_, rfl⟩
        obtain ⟨lb, hlb⟩ : ∃ lb, lb = w5.heap.size := ⟨_, rfl⟩
        have l0 : wl.cell? ⟨lb, 0, none⟩ = some (.int .i64 D.kind) := by rw [hwl, hlb]; exact cell_new w5 _ _ 0 _ rfl
        have l1 : wl.cell? ⟨lb, 1, none⟩ = some (.int .i64 D.start) := by rw [hwl, hlb]; exact cell_new w5 _ _ 1 _ rfl
        have l2 : wl.cell? ⟨lb, 2, none⟩ = some (.string D.lead) := by rw [hwl, hlb]; exact cell_new w5 _ _ 2 _ rfl
        have l3 : wl.cell? ⟨lb, 3, none⟩ = some (.slice a D.n cap) := by rw [hwl, hlb]; exact cell_new w5 _ _ 3 _ rfl
        have hlw : lb < wl.heap.size := by rw [hwl, hlb]; simp
        have hbl : Below wb.heap.size wb wl := by rw [hwl]; exact HB5.out.alloc HB5.out.size _
        have hb5l : Below w5.heap.size w5 wl := by rw [hwl]; exact box_below _ _
        have hli := little6_any wl hlw l0 l1 l2 l3 ((HMS.out _ ((HK.out _ hbl).2.2.1))) HSZ.out (by omega) (LitM D) Iff.rfl
        have HLI := Lib.hid hli; clear hli l0 l1 l2 l3
        have HBL := Lib.hid hbl; clear hbl
        have HB_L := Lib.hid hb5l; clear hb5l
        go_wp2_with fail
        rw [← hlb, ← hwl]
        clear hlb hwl hlw
        refine HLI.out.mono ?_
        rintro r w6 ⟨lit, rfl, hlit, hb⟩
        have HB_6 := Lib.hid hb
        have HB6 := Lib.hid (HBL.out.trans (hb.mono HBL.out.size)); clear hb
        have HLT := Lib.hid hlit; clear hlit
        clear m0 m1 m2 m3
        have m0 := (HK.out _ HB6.out).1.c0
        have m1 := (HK.out _ HB6.out).1.c1
        have m2 := (HK.out _ HB6.out).1.c2
        have m3 := (HK.out _ HB6.out).1.c3
        go_wp2_with fail
        refine (rto_any _ (HK.out _ HB6.out).2.1 HSZ.out HVM.out (by omega)).mono ?_
        intro r w7 hr
        obtain ⟨hb, uv, ue, un, uZ, rfl, hus, hue, huz, hul⟩ := hr.sum HVM.out HKK.out HW.out HV.out
        have HB_u := Lib.hid hb
        have HSu := Lib.hid hus; clear hus
        have HEu := Lib.hid hue; clear hue
        have HZu := Lib.hid huz; clear huz
        have HLu := Lib.hid hul; clear hul
        have HB7 := Lib.hid (HB6.out.trans (hb.mono HB6.out.size)); clear hb
        clear m0 m1 m2 m3
        have m0 := (HK.out _ HB7.out).1.c0
        have m1 := (HK.out _ HB7.out).1.c1
        have m2 := (HK.out _ HB7.out).1.c2
        have m3 := (HK.out _ HB7.out).1.c3
        go_wp2_with fail
        refine (rfrom_any _ (HK.out _ HB7.out).2.1 HSZ.out HVM.out (by omega)).mono ?_
        intro r w8 hr
        obtain ⟨hb, pv, pe, pn, pZ, rfl, hps, hpe, hpz, hpl⟩ := hr.sum HVM.out HKK.out HW.out HL.out HST.out
        have HB_p := Lib.hid hb
        have HSp := Lib.hid hps; clear hps
        have HEp := Lib.hid hpe; clear hpe
        have HZp := Lib.hid hpz; clear hpz
        have HLp := Lib.hid hpl; clear hpl
        have HB8 := Lib.hid (HB7.out.trans (hb.mono HB7.out.size)); clear hb
        clear m0 m1 m2 m3
        have m0 := (HK.out _ HB8.out).1.c0
        have m1 := (HK.out _ HB8.out).1.c1
        have m2 := (HK.out _ HB8.out).1.c2
        have m3 := (HK.out _ HB8.out).1.c3
        go_wp2_with fail
        refine (rtotal_any _ (HK.out _ HB8.out).2.1 HSZ.out HVM.out (by omega)).mono ?_
        intro r w10 hr
        obtain ⟨hb, qv, qe, rfl, hqe, hqz, hql⟩ := hr.sum HVM.out HKK.out HW.out HV.out HL.out HST.out
        have HB_q := Lib.hid hb
        have HEq := Lib.hid hqe; clear hqe
        have HZq := Lib.hid hqz; clear hqz
        have HLq := Lib.hid hql; clear hql
        have HB10 := Lib.hid (HB8.out.trans (hb.mono HB8.out.size)); clear hb
        clear m0 m1 m2 m3
        -- what is compared
        have hkf : ∀ {v n Z}, Ss none w3 v n Z → Ss none w10 v n Z := fun h => (((((((h.kept (gb_below HB_g.out none)).kept (gb_below HB_5.out none)).kept (gb_below HB_L.out none)).kept (gb_below HB_6.out none)).kept (gb_below HB_u.out none)).kept (gb_below HB_p.out none)).kept (gb_below HB_q.out none))
        have hs1 := same_any w10 (hkf (HSt.out.kept (gb_below HB_f.out none))) ((HSu.out.kept (gb_below HB_p.out none)).kept (gb_below HB_q.out none)) _ Iff.rfl
        have HS1 := Lib.hid hs1; clear hs1
        go_wp2_with fail
        refine HS1.out.mono ?_
        rintro r w11 ⟨b1, rfl, hb1, hb⟩
        have HB_11 := Lib.hid hb
        have HB11 := Lib.hid (HB10.out.trans (hb.mono HB10.out.size)); clear hb
        have HP1 := Lib.hid hb1; clear hb1
        have hr1 := fun wx => right_any te ue (!lit) b1 wx HEt.out HEu.out (fun h => by
            cases lit
            · rfl
            · exact absurd (HLT.out.1 rfl) (by rcases h with h | h; exact HLt.out h; exact HLu.out h))
          (fun h1 h2 => HP1.out.2 ⟨(HZt.out h1).1.trans (HZu.out h2).1.symm, fun i hi => ((HZt.out h1).2 i (by have := (HZt.out h1).1; omega)).eq ((HZu.out h2).2 i (by have := (HZt.out h1).1; omega)) rfl⟩)
        have HR1 := Lib.hid hr1; clear hr1
        go_wp2_with fail
        refine (HR1.out _).mono ?_
        rintro r wx ⟨rfl, rfl⟩
        have hs2 := same_any w11 ((hkf HSf.out).kept (gb_below HB_11.out none)) ((HSp.out.kept (gb_below HB_q.out none)).kept (gb_below HB_11.out none)) _ Iff.rfl
        have HS2 := Lib.hid hs2; clear hs2 hkf
        go_wp2_with fail
        refine HS2.out.mono ?_
        rintro r w12 ⟨b2, rfl, hb2, hb⟩
        have HB12 := Lib.hid (HB11.out.trans (hb.mono HB11.out.size)); clear hb
        have HP2 := Lib.hid hb2; clear hb2
        have hr2 := fun wx => right_any fe pe (!lit) b2 wx HEf.out HEp.out (fun h => by
            cases lit
            · rfl
            · exact absurd (HLT.out.1 rfl) (by rcases h with h | h; exact HLf.out h; exact HLp.out h))
          (fun h1 h2 => HP2.out.2 ⟨(HZf.out h1).1.trans (HZp.out h2).1.symm, fun i hi => ((HZf.out h1).2 i (by have := (HZf.out h1).1; omega)).eq ((HZp.out h2).2 i (by have := (HZf.out h1).1; omega)) rfl⟩)
        have HR2 := Lib.hid hr2; clear hr2
        go_wp2_with fail
        refine (HR2.out _).mono ?_
        rintro r wx ⟨rfl, rfl⟩
        have hr3 := fun wx => right_any ge qe (!lit) (gv.toList == qv.toList) wx HEg.out HEq.out (fun h => by
            cases lit
            · rfl
            · exact absurd (HLT.out.1 rfl) (by rcases h with h | h; exact HLg.out h; exact HLq.out h))
          (fun h1 h2 => by rw [(HZg.out h1).eq (HZq.out h2) rfl]; simp)
        have HR3 := Lib.hid hr3; clear hr3
        go_wp2_with fail
        refine (HR3.out _).mono ?_
        rintro r wx ⟨rfl, rfl⟩
        go_wp2_with fail
        refine (HEX.out _ (HK.out _ HB12.out).2.2.1).mono ?_
        rintro r w9 ⟨rfl, hb9⟩
        have HF := Lib.hid ((HK.out _ HB12.out).2.2.1.trans (hb9.mono (HK.out _ HB12.out).2.2.1.size)); clear hb9
        go_wp2_with fail
        go_ret
        exact ⟨rfl, HF.out⟩
      · have HVM := Lib.hid hvm; clear hvm
        clear m0 m1 m2 m3
        have m0 := (HK.out _ HB1.out).1.c0
        have m1 := (HK.out _ HB1.out).1.c1
        have m2 := (HK.out _ HB1.out).1.c2
        have m3 := (HK.out _ HB1.out).1.c3
        go_wp2_with fail
        refine (to_any _ (HK.out _ HB1.out).2.1 HSZ.out (HK.out _ HB1.out).2.2.2).mono ?_
        intro r w2 hr
        obtain ⟨hb, rfl⟩ := hr.no HVM.out
        have HB2 := Lib.hid (HB1.out.trans (hb.mono HB1.out.size)); clear hb
        clear m0 m1 m2 m3
        have m0 := (HK.out _ HB2.out).1.c0
        have m1 := (HK.out _ HB2.out).1.c1
        have m2 := (HK.out _ HB2.out).1.c2
        have m3 := (HK.out _ HB2.out).1.c3
        go_wp2_with fail
        refine (from_any _ (HK.out _ HB2.out).2.1 HSZ.out (HK.out _ HB2.out).2.2.2).mono ?_
        intro r w3 hr
        obtain ⟨hb, rfl⟩ := hr.no HVM.out
        have HB3 := Lib.hid (HB2.out.trans (hb.mono HB2.out.size)); clear hb
        clear m0 m1 m2 m3
        have m0 := (HK.out _ HB3.out).1.c0
        have m1 := (HK.out _ HB3.out).1.c1
        have m2 := (HK.out _ HB3.out).1.c2
        have m3 := (HK.out _ HB3.out).1.c3
        go_wp2_with fail
        refine (total_any _ (HK.out _ HB3.out).2.1 HSZ.out (HK.out _ HB3.out).2.2.2).mono ?_
        intro r w4 hr
        obtain ⟨hb, rfl⟩ := hr.no HVM.out
        have HB4 := Lib.hid (HB3.out.trans (hb.mono HB3.out.size)); clear hb
        clear m0 m1 m2 m3
        have m0 := (HK.out _ HB4.out).1.c0
        have m1 := (HK.out _ HB4.out).1.c1
        have m2 := (HK.out _ HB4.out).1.c2
        have m3 := (HK.out _ HB4.out).1.c3
        go_wp2_with fail
        refine (valid6_any _ (HK.out _ HB4.out).2.1 HSZ.out).mono ?_
        intro r w5 hr
        have hb := hr.1
        obtain rfl : r = .returned (.bool false) := by
          rcases hr.2 with ⟨h1, h2⟩ | ⟨h1, h2⟩
          · exact absurd h1 HVM.out
          · exact h2
        have HB5 := Lib.hid (HB4.out.trans (hb.mono HB4.out.size)); clear hb
        clear m0 m1 m2 m3
        have m0 := (HK.out _ HB5.out).1.c0
        have m1 := (HK.out _ HB5.out).1.c1
        have m2 := (HK.out _ HB5.out).1.c2
        have m3 := (HK.out _ HB5.out).1.c3
        go_wp2_with fail
        refine (HEX.out _ (HK.out _ HB5.out).2.2.1).mono ?_
        rintro r w9 ⟨rfl, hb9⟩
        have HF := Lib.hid ((HK.out _ HB5.out).2.2.1.trans (hb9.mono (HK.out _ HB5.out).2.2.1.size)); clear hb9
        go_wp2_with fail
        go_ret
        exact ⟨rfl, HF.out⟩
  · have g1 : decide ((9 : Int) < (D.n : Int)) = true := by simp; omega
    by_cases h60' : D.n ≤ 60
    · have g2 : decide ((D.n : Int) ≤ 60) = true := by simp; omega
      go_enter Tryz.func4, Tryz.ntmps4
      go_wp2_with fail
      rw [← hwb, ← hmb]
      clear hwb hmb m0 m1 m2 m3
      refine (HEX.out _ (HK.out _ HB0.out).2.2.1).mono ?_
      rintro r w9 ⟨rfl, hb9⟩
      have HF := Lib.hid ((HK.out _ HB0.out).2.2.1.trans (hb9.mono (HK.out _ HB0.out).2.2.1.size)); clear hb9
      go_wp2_with fail
      go_ret
      exact ⟨rfl, HF.out⟩
    · have g2 : decide ((D.n : Int) ≤ 60) = false := by simp; omega
      have h60 : 60 < D.n := by omega
      by_cases h100 : 100 < D.n
      · have g3 : decide ((100 : Int) < (D.n : Int)) = true := by simp; omega
        go_enter Tryz.func4, Tryz.ntmps4
        go_wp2_with fail
        rw [← hwb, ← hmb]
        clear hwb hmb m0 m1 m2 m3
        refine (HEX.out _ (HK.out _ HB0.out).2.2.1).mono ?_
        rintro r w9 ⟨rfl, hb9⟩
        have HF := Lib.hid ((HK.out _ HB0.out).2.2.1.trans (hb9.mono (HK.out _ HB0.out).2.2.1.size)); clear hb9
        go_wp2_with fail
        go_ret
        exact ⟨rfl, HF.out⟩
      · have g3 : decide ((100 : Int) < (D.n : Int)) = false := by simp; omega
        go_enter Tryz.func4, Tryz.ntmps4
        go_wp2_with fail
        rw [← hwb, ← hmb] at m0 m1 m2 m3
        rw [← hwb, ← hmb]
        clear hwb hmb
        refine (arcs6_any _ (HK.out _ HB0.out).2.1 HSZ.out (by omega)).mono ?_
        intro r w1 hr
        obtain ⟨rfl, hb⟩ := hr
        have HB1 := Lib.hid (HB0.out.trans (hb.mono HB0.out.size)); clear hb
        obtain ⟨ct, hct⟩ : ∃ ct, ct = arcsTo D D.n := ⟨_, rfl⟩
        rw [← hct]
        clear hct
        by_cases hbig : 1000 < ct
        · have hbz : decide ((1000 : Int) < (ct : Int)) = true := by simp; omega
          clear m0 m1 m2 m3
          go_wp2_with fail
          refine (HEX.out _ (HK.out _ HB1.out).2.2.1).mono ?_
          rintro r w9 ⟨rfl, hb9⟩
          have HF := Lib.hid ((HK.out _ HB1.out).2.2.1.trans (hb9.mono (HK.out _ HB1.out).2.2.1.size)); clear hb9
          go_wp2_with fail
          go_ret
          exact ⟨rfl, HF.out⟩
        · have hbz : decide ((1000 : Int) < (ct : Int)) = false := by simp; omega
          by_cases hvm : VM D
          · have HVM := Lib.hid hvm; clear hvm
            have g60 : decide ((60 : Int) < (D.n : Int)) = true := by simp; omega
            clear m0 m1 m2 m3
            have m0 := (HK.out _ HB1.out).1.c0
            have m1 := (HK.out _ HB1.out).1.c1
            have m2 := (HK.out _ HB1.out).1.c2
            have m3 := (HK.out _ HB1.out).1.c3
            go_wp2_with fail
            refine (to_any _ (HK.out _ HB1.out).2.1 HSZ.out (HK.out _ HB1.out).2.2.2).mono ?_
            intro r w2 hr
            obtain ⟨hb, rfl⟩ := hr.big HVM.out h60
            have HB2 := Lib.hid (HB1.out.trans (hb.mono HB1.out.size)); clear hb
            clear m0 m1 m2 m3
            have m0 := (HK.out _ HB2.out).1.c0
            have m1 := (HK.out _ HB2.out).1.c1
            have m2 := (HK.out _ HB2.out).1.c2
            have m3 := (HK.out _ HB2.out).1.c3
            go_wp2_with fail
            refine (from_any _ (HK.out _ HB2.out).2.1 HSZ.out (HK.out _ HB2.out).2.2.2).mono ?_
            intro r w3 hr
            obtain ⟨hb, rfl⟩ := hr.big HVM.out h60
            have HB3 := Lib.hid (HB2.out.trans (hb.mono HB2.out.size)); clear hb
            clear m0 m1 m2 m3
            have m0 := (HK.out _ HB3.out).1.c0
            have m1 := (HK.out _ HB3.out).1.c1
            have m2 := (HK.out _ HB3.out).1.c2
            have m3 := (HK.out _ HB3.out).1.c3
            go_wp2_with fail
            refine (total_any _ (HK.out _ HB3.out).2.1 HSZ.out (HK.out _ HB3.out).2.2.2).mono ?_
            intro r w4 hr
            obtain ⟨hb, rfl⟩ := hr.big HVM.out h60
            have HB4 := Lib.hid (HB3.out.trans (hb.mono HB3.out.size)); clear hb
            clear m0 m1 m2 m3
            have m0 := (HK.out _ HB4.out).1.c0
            have m1 := (HK.out _ HB4.out).1.c1
            have m2 := (HK.out _ HB4.out).1.c2
            have m3 := (HK.out _ HB4.out).1.c3
            go_wp2_with fail
            refine (valid6_any _ (HK.out _ HB4.out).2.1 HSZ.out).mono ?_
            intro r w5 hr
            have hb := hr.1
            obtain rfl : r = .returned (.bool true) := by
              rcases hr.2 with ⟨h1, h2⟩ | ⟨h1, h2⟩
              · exact h2
              · exact absurd HVM.out h1
            have HB5 := Lib.hid (HB4.out.trans (hb.mono HB4.out.size)); clear hb
            clear m0 m1 m2 m3
            have m0 := (HK.out _ HB5.out).1.c0
            have m1 := (HK.out _ HB5.out).1.c1
            have m2 := (HK.out _ HB5.out).1.c2
            have m3 := (HK.out _ HB5.out).1.c3
            go_wp2_with fail
            refine (HEX.out _ (HK.out _ HB5.out).2.2.1).mono ?_
            rintro r w9 ⟨rfl, hb9⟩
            have HF := Lib.hid ((HK.out _ HB5.out).2.2.1.trans (hb9.mono (HK.out _ HB5.out).2.2.1.size)); clear hb9
            go_wp2_with fail
            go_ret
            exact ⟨rfl, HF.out⟩
          · have HVM := Lib.hid hvm; clear hvm
            clear m0 m1 m2 m3
            have m0 := (HK.out _ HB1.out).1.c0
            have m1 := (HK.out _ HB1.out).1.c1
            have m2 := (HK.out _ HB1.out).1.c2
            have m3 := (HK.out _ HB1.out).1.c3
            go_wp2_with fail
            refine (to_any _ (HK.out _ HB1.out).2.1 HSZ.out (HK.out _ HB1.out).2.2.2).mono ?_
            intro r w2 hr
            obtain ⟨hb, rfl⟩ := hr.no HVM.out
            have HB2 := Lib.hid (HB1.out.trans (hb.mono HB1.out.size)); clear hb
            clear m0 m1 m2 m3
            have m0 := (HK.out _ HB2.out).1.c0
            have m1 := (HK.out _ HB2.out).1.c1
            have m2 := (HK.out _ HB2.out).1.c2
            have m3 := (HK.out _ HB2.out).1.c3
            go_wp2_with fail
            refine (from_any _ (HK.out _ HB2.out).2.1 HSZ.out (HK.out _ HB2.out).2.2.2).mono ?_
            intro r w3 hr
            obtain ⟨hb, rfl⟩ := hr.no HVM.out
            have HB3 := Lib.hid (HB2.out.trans (hb.mono HB2.out.size)); clear hb
            clear m0 m1 m2 m3
            have m0 := (HK.out _ HB3.out).1.c0
            have m1 := (HK.out _ HB3.out).1.c1
            have m2 := (HK.out _ HB3.out).1.c2
            have m3 := (HK.out _ HB3.out).1.c3
            go_wp2_with fail
            refine (total_any _ (HK.out _ HB3.out).2.1 HSZ.out (HK.out _ HB3.out).2.2.2).mono ?_
            intro r w4 hr
            obtain ⟨hb, rfl⟩ := hr.no HVM.out
            have HB4 := Lib.hid (HB3.out.trans (hb.mono HB3.out.size)); clear hb
            clear m0 m1 m2 m3
            have m0 := (HK.out _ HB4.out).1.c0
            have m1 := (HK.out _ HB4.out).1.c1
            have m2 := (HK.out _ HB4.out).1.c2
            have m3 := (HK.out _ HB4.out).1.c3
            go_wp2_with fail
            refine (valid6_any _ (HK.out _ HB4.out).2.1 HSZ.out).mono ?_
            intro r w5 hr
            have hb := hr.1
            obtain rfl : r = .returned (.bool false) := by
              rcases hr.2 with ⟨h1, h2⟩ | ⟨h1, h2⟩
              · exact absurd h1 HVM.out
              · exact h2
            have HB5 := Lib.hid (HB4.out.trans (hb.mono HB4.out.size)); clear hb
            clear m0 m1 m2 m3
            have m0 := (HK.out _ HB5.out).1.c0
            have m1 := (HK.out _ HB5.out).1.c1
            have m2 := (HK.out _ HB5.out).1.c2
            have m3 := (HK.out _ HB5.out).1.c3
            go_wp2_with fail
            refine (HEX.out _ (HK.out _ HB5.out).2.2.1).mono ?_
            rintro r w9 ⟨rfl, hb9⟩
            have HF := Lib.hid ((HK.out _ HB5.out).2.2.1.trans (hb9.mono (HK.out _ HB5.out).2.2.1.size)); clear hb9
            go_wp2_with fail
            go_ret
            exact ⟨rfl, HF.out⟩
end Go.Proofs.YtlmfppjphblemaaGreatDoor
