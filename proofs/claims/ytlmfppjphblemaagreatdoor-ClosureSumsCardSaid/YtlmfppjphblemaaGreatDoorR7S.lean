/- The walk of abugidaref07.Stars. The walk of abugidaref07.Star. -/
import Derived.Test.YtlmfppjphblemaaGreatDoorR7A
namespace Go.Proofs.YtlmfppjphblemaaGreatDoor
open Go Go.RowKit Go.Deep
set_option maxRecDepth 100000
set_option linter.unusedSimpArgs false

/-- Behind Stars. -/
def StaR {k : KK} (F : Prop) (sb n e : Nat) (M : Nat → Nat → RK k) (w : World) (r : Ending) (w' : World) : Prop :=
  ∃ v e' Y, r = .returned v ∧ Mt (some sb) w' v n (fun _ => n) Y ∧ MatIs e' n Y (CSR.starM M n) ∧ Er F e' ∧ (e' = 0 → e = 0) ∧ SumR w' sb k.1 e' ∧ w.grownBy w' (some sb)
/-- A row of an own matrix, to be read. -/
def Rw1 (w : World) (g sb gc n : Nat) (Y : Nat → Nat → ByteArray) (i : Nat) : Prop :=
  ∃ rb cap, w.cell? ⟨g, i, none⟩ = some (.slice (some ⟨rb, 0, none⟩) n cap) ∧ rb < gc ∧ rb ≠ sb ∧ n ≤ cap ∧ cap ≤ 9223372036854775807 ∧ ∀ j, j < n → w.cell? ⟨rb, j, none⟩ = some (.string (Y i j))
theorem OM.rw1 {w : World} {g sb gc n : Nat} {R : Nat → Value} {Y : Nat → Nat → ByteArray} (h : OM w (fun _ => False) g 9 33 g n R (fun _ => n) Y) (hs : sb < g) (hgc : w.heap.size ≤ gc) {i : Nat} (hi : i < n) : Rw1 w g sb gc n Y i := by
  obtain ⟨rb, cap, hR, h1, h2, _, _, h3, h4, _, h5⟩ := h.form hi (by omega)
  unfold maxLen at h4
  exact ⟨rb, cap, by rw [← hR]; exact h.cell hi, by omega, by omega, h3, by omega, h5⟩
theorem SumR.other {w : World} {sb e : Nat} {k : Int} (h : SumR w sb k e) {p : Addr} (hp : sb ≠ p.block) (v : Value) : SumR (w.setCell p v) sb k e := by
  unfold SumR at *; rw [blk_setCell_other _ _ _ _ hp]; exact h
theorem elim_zero {k : KK} {e q n d m : Nat} {Y : Nat → Nat → ByteArray} {M : Nat → Nat → RK k} (h : MatIs e n Y M) (hd : d < n) (hm : m < n) (hq : q < n) (hz : Y d q = zeroF k.1 ∨ Y q m = zeroF k.1) : Is k e (Y d m) (CSR.elim q M d m) := by
  refine ⟨(h d m hd hm).1, fun h0 => ?_⟩
  subst h0
  have e1 : CSR.elim q M d m = M d m := by
    show M d m + M d q * CSR.star (M q q) * M q m = M d m
    rcases hz with hz | hz
    · rw [((h d q hd hq).eq_zero).1 hz, CSR.zm, CSR.zm, CSR.a0]
    · rw [((h q m hq hm).eq_zero).1 hz, CSR.m0, CSR.a0]
  rw [e1]; exact (h d m hd hm).2 rfl
theorem Rw1.gr {w wr : World} {g sb gc n : Nat} {Y : Nat → Nat → ByteArray} {i : Nat} (h : Rw1 w g sb gc n Y i) (hG : Gr gc (some sb) w wr) (hg : g < gc) (hgs : g ≠ sb) : Rw1 wr g sb gc n Y i := by
  obtain ⟨rb, cap, h1, h2, h3, h4, h5, h6⟩ := h
  exact ⟨rb, cap, hG.cell h1 hg (by simp; exact hgs), h2, h3, h4, h5, fun j hj => hG.cell (h6 j hj) h2 (by simp; exact h3)⟩

set_option maxHeartbeats 16000000 in
theorem stars_any {k : KK} {F : Prop} {n sb e : Nat} {X : Nat → Nat → ByteArray} {M : Nat → Nat → RK k} {v : Value} (w : World) (hn : n ≤ 60) (hs : SumR w sb k.1 e) (he : Er F e) (hA : Mt (some sb) w v n (fun _ => n) X) (hX : MatIs e n X M) (hF : F → FitM n M) :
    Calls Tryz.prog 45 #[.pointer (some ⟨sb, 0, none⟩), v] w (StaR F sb n e M w) := by
  obtain ⟨a1, cap1, b1, o1, A1, C1, BB1, O1, rfl, ha1, hc1, hm1, hb1, hrow1⟩ := hA.open
  unfold maxLen at hm1
  clear hA
  have hsl := hs.lt
  have s0 := hs.c0
  have HA1 := Lib.hid ha1; clear ha1
  have HB1 := Lib.hid hb1; clear hb1
  have HR1 := Lib.hid hrow1; clear hrow1
  have HX := Lib.hid hX; clear hX
  have HE := Lib.hid he; clear he
  have HF := Lib.hid hF; clear hF
  have HS := Lib.hid hs; clear hs
  go_enter Tryz.func45, Tryz.ntmps45
  go_wp2_with fail
  refine (zeros_any k.1 w hn).mono ?_
  rintro r w1 ⟨g, R, rfl, hom, hgw, hb1⟩
  clear s0
  have hsg : sb < g := by omega
  have HOM := Lib.hid hom; clear hom
  have HBW1 := Lib.hid hb1; clear hb1
  go_wp2_with fail
  -- ████ copy(b[i], a[i])
  go_loopw [7] (fun i wr => ∃ (q : Nat) (Y : Nat → Nat → ByteArray), q ≤ n ∧ i = .int .i64 (q : Int) ∧ OM wr (fun _ => False) g 9 33 g n R (fun _ => n) Y ∧ (∀ l j, l < n → j < n → l < q → Y l j = X l j) ∧ Below w.heap.size w wr) (fun i _ => n - (intOf i).toNat)
  case atStart => exact ⟨0, _, Nat.zero_le _, rfl, HOM.out, fun _ _ _ _ h => by omega, HBW1.out⟩
  case round =>
    obtain ⟨q, Y, hq, rfl, hom, hy, hbw⟩ := hrel
    clear HOM HBW1
    have HOM := Lib.hid hom; clear hom
    have HY := Lib.hid hy; clear hy
    have HBW := Lib.hid hbw; clear hbw
    by_cases hlt : q < n
    · have hqz : (q : Int) < (n : Int) := by omega
      have hqz0 : (0 : Int) ≤ (q : Int) := by omega
      obtain ⟨rb, rc, hRb, hrB, hrl, hrg, _, hc3, hc4, hfr, hcr⟩ := HOM.out.form hlt (by omega)
      unfold maxLen at hc4
      have s1 := HOM.out.cell hlt
      rw [hRb] at s1
      obtain rfl := HA1.out (by omega)
      obtain ⟨k1, _, k3, k4, k5, _, k7⟩ := HR1.out q hlt
      have k4' := k4 (by omega)
      have k5' := (k5 (by omega)).1
      rw [k4'] at k1
      unfold maxLen at k3
      have hcn : (C1 q : Int) ≤ 9223372036854775807 := by omega
      have s2 := (HBW.out.cell (p := ⟨b1, o1 + q, none⟩) (HB1.out (by omega)).1).trans k1
      have hsrc : ∀ j (u : Value), ((List.range' 0 n).map fun j => Value.string (X q j))[j]? = some u → wr.drew.cell? ((⟨BB1 q, O1 q, none⟩ : Addr).add j) = some u := fun j u hu => by
        rw [List.getElem?_map] at hu
        obtain ⟨x, hx, rfl⟩ := Option.map_eq_some_iff.1 hu
        have hj : j < n := by have := (List.getElem?_eq_some_iff.1 hx).1; simpa using this
        have hxj : x = j := by have := (List.getElem?_eq_some_iff.1 hx).2; simp at this; omega
        subst hxj
        rw [Addr.add_lit]
        exact (HBW.out.cell (p := ⟨BB1 q, O1 q + x, none⟩) k5').trans (k7 x hj)
      have hsz : (Tryz.prog.info? 9).map (·.size) = some 1 := by kernel_rfl
      have hcp := run_copy_cells (P := Tryz.prog) wr.drew 33 33 3 9 rb 0 n rc ⟨BB1 q, O1 q, none⟩ n (C1 q) ((List.range' 0 n).map fun j => Value.string (X q j)) Tryz.underlying33 hsz (by simp) hsrc
        (fun j hj => by rw [Nat.zero_add, show wr.drew.cell? ⟨rb, j, none⟩ = some (.string (Y q j)) from hcr j (by simpa using hj)]; rfl) (fun j hj => by rw [Nat.zero_add]; exact hfr j) (fun u hu => by obtain ⟨x, _, rfl⟩ := List.mem_map.1 hu; rfl)
      have homc := OM.copied hlt hRb (X q) n 0 wr.drew Y (by omega) (HOM.out.kept (drew_gb wr none) (by simp))
      have HOC := Lib.hid homc; clear homc
      have HCP := Lib.hid hcp; clear hcp
      clear k1 k4 k5 k7 k4' k5' hfr hcr hsrc
      have hS0 : wr.drew.cell? ⟨g, q, none⟩ = some (.slice (some ⟨rb, 0, none⟩) n rc) ∧ wr.drew.cell? ⟨b1, o1 + q, none⟩ = some (.slice (some ⟨BB1 q, O1 q, none⟩) n (C1 q)) := ⟨s1, s2⟩
      go_wp2_with fail
      refine region_heldK (fun wk' => wk'.cell? ⟨g, q, none⟩ = some (.slice (some ⟨rb, 0, none⟩) n rc) ∧ wk'.cell? ⟨b1, o1 + q, none⟩ = some (.slice (some ⟨BB1 q, O1 q, none⟩) n (C1 q))) 8 (by kernel_rfl) ?_
      refine AnyK.take (i := 0) (v := ?vc0) rfl (by kernel_rfl) (by kernel_rfl) (by kernel_rfl) (by kernel_rfl) (by kernel_rfl) (fun _ _ _ h => h) hS0 (Or.inl ⟨by kernel_rfl, ?hyc0⟩) ?restc0
      case hyc0 => rintro wk ⟨s1, s2⟩; go_simp; try with_reducible rfl
      try simp only [Act.put, List.setIfInBounds_toArray, List.set_cons_zero, List.set_cons_succ, List.getElem_toArray, List.getElem_cons_succ, List.getElem_cons_zero]
      refine AnyK.take (i := 1) (v := ?vc1) rfl (by kernel_rfl) (by kernel_rfl) (by kernel_rfl) (by kernel_rfl) (by kernel_rfl) (fun _ _ _ h => h) hS0 (Or.inl ⟨by kernel_rfl, ?hyc1⟩) ?restc1
      case hyc1 => rintro wk ⟨s1, s2⟩; go_simp; try with_reducible rfl
      try simp only [Act.put, List.setIfInBounds_toArray, List.set_cons_zero, List.set_cons_succ, List.getElem_toArray, List.getElem_cons_succ, List.getElem_cons_zero]
      refine AnyK.take (i := 2) (v := ?vc2) rfl (by kernel_rfl) (by kernel_rfl) (by kernel_rfl) (by kernel_rfl) (by kernel_rfl) (fun _ _ _ h => h) hS0 (Or.inl ⟨by kernel_rfl, ?hyc2⟩) ?restc2
      case hyc2 => rintro wk ⟨s1, s2⟩; go_simp; try with_reducible rfl
      try simp only [Act.put, List.setIfInBounds_toArray, List.set_cons_zero, List.set_cons_succ, List.getElem_toArray, List.getElem_cons_succ, List.getElem_cons_zero]
      refine AnyK.take (i := 3) (v := ?vc3) rfl (by kernel_rfl) (by kernel_rfl) (by kernel_rfl) (by kernel_rfl) (by kernel_rfl) (fun _ _ _ h => h) hS0 (Or.inl ⟨by kernel_rfl, ?hyc3⟩) ?restc3
      case hyc3 => rintro wk ⟨s1, s2⟩; go_simp; try with_reducible rfl
      try simp only [Act.put, List.setIfInBounds_toArray, List.set_cons_zero, List.set_cons_succ, List.getElem_toArray, List.getElem_cons_succ, List.getElem_cons_zero]
      refine AnyK.take (i := 4) (v := ?vc4) rfl (by kernel_rfl) (by kernel_rfl) (by kernel_rfl) (by kernel_rfl) (by kernel_rfl) (fun _ _ _ h => h) hS0 (Or.inl ⟨by kernel_rfl, ?hyc4⟩) ?restc4
      case hyc4 => rintro wk ⟨s1, s2⟩; go_simp; try with_reducible rfl
      try simp only [Act.put, List.setIfInBounds_toArray, List.set_cons_zero, List.set_cons_succ, List.getElem_toArray, List.getElem_cons_succ, List.getElem_cons_zero]
      refine AnyK.take (i := 5) (v := ?vc5) rfl (by kernel_rfl) (by kernel_rfl) (by kernel_rfl) (by kernel_rfl) (by kernel_rfl) (fun _ _ _ h => h) hS0 (Or.inl ⟨by kernel_rfl, ?hyc5⟩) ?restc5
      case hyc5 => rintro wk ⟨s1, s2⟩; go_simp; try with_reducible rfl
      try simp only [Act.put, List.setIfInBounds_toArray, List.set_cons_zero, List.set_cons_succ, List.getElem_toArray, List.getElem_cons_succ, List.getElem_cons_zero]
      refine AnyK.take (i := 6) (v := ?vc6) rfl (by kernel_rfl) (by kernel_rfl) (by kernel_rfl) (by kernel_rfl) (by kernel_rfl) (fun _ _ _ h => h) hS0 (Or.inl ⟨by kernel_rfl, ?hyc6⟩) ?restc6
      case hyc6 => rintro wk ⟨s1, s2⟩; go_simp; try with_reducible rfl
      try simp only [Act.put, List.setIfInBounds_toArray, List.set_cons_zero, List.set_cons_succ, List.getElem_toArray, List.getElem_cons_succ, List.getElem_cons_zero]
      refine AnyK.take (i := 7) (v := ?vc7) rfl (by kernel_rfl) (by kernel_rfl) (by kernel_rfl) (by kernel_rfl) (by kernel_rfl) (fun _ _ _ h => h) hS0 (Or.inl ⟨by kernel_rfl, ?hyc7⟩) ?restc7
      case hyc7 => rintro wk ⟨s1, s2⟩; go_simp; try with_reducible rfl
      try simp only [Act.put, List.setIfInBounds_toArray, List.set_cons_zero, List.set_cons_succ, List.getElem_toArray, List.getElem_cons_succ, List.getElem_cons_zero]
      refine AnyK.one (i := 8) rfl (by kernel_rfl) (by rfl) (fun K hK => ?_)
      refine Lib.wp_copy_run _ (.tmp 30) (.tmp 34) 33 33 rfl _ _ (by simp [Act.eval]) (by simp [Act.eval]) HCP.out ?_
      refine hK.out _ _ (.inl rfl) (AnyK.done (by kernel_rfl) ?_ _)
      clear hK K
      go_wp2_with fail
      go_roundw
      case rel =>
        refine ⟨q + 1, _, by omega, by go_num, HOC.out, fun l j hl hj hlq => ?_, Lib.below_setCells rb (by omega) _ _ HBW.out.drew⟩
        by_cases e : l = q
        · rw [if_pos ⟨e, Nat.zero_le _⟩, e]
        · rw [if_neg (fun h => e h.1)]; exact HY.out l j hl hj (by omega)
      case measure => simp [intOf]; omega
    · have hqn : q = n := by omega
      have hgt2 : ¬ ((q : Int) < (n : Int)) := by omega
      have hxy : MatIs e n Y M := fun l j hl hj => by rw [HY.out l j hl hj (by omega)]; exact HX.out l j hl hj
      have HXY := Lib.hid hxy; clear hxy
      have HQN := Lib.hid hqn; clear hqn
      have HS1 := Lib.hid (HS.out.kept HBW.out); clear HS
      go_wp2_with fail
      clear HR1 HB1 HA1 HX
      -- ████ for k
      go_loopw [6, 8, 9, 10, 11, 12] (fun bv i _ _ _ _ wr => ∃ (q e' g : Nat) (R : Nat → Value) (Y : Nat → Nat → ByteArray), q ≤ n ∧ bv = .slice (some ⟨g, 0, none⟩) n n ∧ i = .int .i64 (q : Int) ∧
        OM wr (fun _ => False) g 9 33 g n R (fun _ => n) Y ∧ sb < g ∧ w.heap.size ≤ g ∧ MatIs e' n Y (CSR.elims M q) ∧ Er F e' ∧ (e' = 0 → e = 0) ∧ SumR wr sb k.1 e' ∧ Gr w.heap.size (some sb) w wr) (fun _ i _ _ _ _ _ => n - (intOf i).toNat)
      case atStart => exact ⟨0, e, g, R, Y, Nat.zero_le _, rfl, rfl, HOM.out, hsg, hgw, HXY.out, HE.out, fun h => h, HS1.out, Gr.of (gb_below HBW.out _) (Nat.le_refl _)⟩
      case round =>
        clear HOM HY HBW HXY HS1
        clear hsg hgw
        obtain ⟨q, e', g, R, Y, hq, rfl, rfl, hom, hsg, hgw, hxy, hE, hm, hS, hG⟩ := hrel
        have HOM := Lib.hid hom; clear hom
        have HXY := Lib.hid hxy; clear hxy
        have HEE := Lib.hid hE; clear hE
        have HM := Lib.hid hm; clear hm
        have HS := Lib.hid hS; clear hS
        have HG := Lib.hid hG; clear hG
        by_cases hlt : q < n
        · have hqz : (q : Int) < (n : Int) := by omega
          have hqz0 : (0 : Int) ≤ (q : Int) := by omega
          have s0 := HS.out.c0
          go_wp2_with fail
          refine (zeros_any k.1 wr hn).mono ?_
          rintro r w4 ⟨gc, Rc, rfl, homc, hgc, hb4⟩
          have hgl := HOM.out.lt
          have hsz4 := hb4.size
          have hob := HOM.out.kept (gb_below hb4 none) (by simp)
          have hrw : ∀ i, i < n → Rw1 w4 g sb gc n Y i := fun i hi => by
            obtain ⟨rb, cap, h1, h2, h3, h4, h5, h6⟩ := HOM.out.rw1 hsg (Nat.le_refl _) hi
            exact ⟨rb, cap, (gb_below hb4 none).cell h1 (by simp), by omega, h3, h4, h5, fun j hj => (gb_below hb4 none).cell (h6 j hj) (by simp)⟩
          have hs4 := HS.out.kept hb4
          have hG4 := HG.out.more (gb_below hb4 none) (HG.out.size) (fun _ h => by cases h)
          have hggc : g < gc := by omega
          clear s0
          have HRW := Lib.hid hrw; clear hrw hob
          have HS4 := Lib.hid hs4; clear hs4
          have HG4 := Lib.hid hG4; clear hG4 hb4 HG HS HOM
          have HOC := Lib.hid homc; clear homc
          -- ████ loop := s.Star(b[k][k])
          obtain ⟨rq, cq, p1, p2, p3, p4, p5, p6⟩ := HRW.out q hlt
          have p7 := p6 q hlt
          clear p6
          have hcl := rstar7_is (F := F) (HXY.out q q hlt hlt) HEE.out (fun f => ((HF.out f).steps q hlt).star) HS4.out
          have HCL := Lib.hid hcl; clear hcl
          go_wp2_with fail
          refine HCL.out.mono ?_
          rintro r w5 ⟨lp, e5, rfl, hlp, he5, hm5, hs5, hg5⟩
          have hsgc : sb < gc := by omega
          have homc := HOC.out.kept hg5 (by intro j hj; cases hj; exact hsgc)
          have hrw : ∀ i, i < n → Rw1 w5 g sb gc n Y i := fun i hi => (HRW.out i hi).gr (Gr.of hg5 (by have := HOC.out.lt; omega)) hggc (by omega)
          clear p1 p2 p3 p4 p5 p7
          have hG5 := HG4.out.more hg5 (by have := HG4.out.size; omega) (fun _ h => .inl h)
          have HRW5 := Lib.hid hrw; clear hrw HRW
          have HOC5 := Lib.hid homc; clear homc HOC
          have HG5 := Lib.hid hG5; clear hG5 HG4 hg5
          have HXY5 := Lib.hid (HXY.out.mono hm5); clear HXY
          have HLP := Lib.hid hlp; clear hlp
          have HE5 := Lib.hid he5; clear he5 HEE
          have HM5 := Lib.hid (show e5 = 0 → e = 0 from fun h => HM.out (hm5 h)); clear hm5 HM
          have HS5 := Lib.hid hs5; clear hs5 HS4
          have hgs : g ≠ sb := by omega
          go_wp2_with fail
          -- ████ for i
          go_loopw [11, 12] (fun i _ wr => ∃ (d e6 : Nat) (Yc : Nat → Nat → ByteArray), d ≤ n ∧ i = .int .i64 (d : Int) ∧ OM wr (fun _ => False) gc 9 33 gc n Rc (fun _ => n) Yc ∧
            (∀ l j, l < n → j < n → l < d → Is k e6 (Yc l j) (CSR.elim q (CSR.elims M q) l j)) ∧ Er F e6 ∧ (e6 = 0 → e5 = 0) ∧ SumR wr sb k.1 e6 ∧ Gr gc (some sb) w5 wr) (fun i _ _ => n - (intOf i).toNat)
          case atStart => exact ⟨0, e5, _, Nat.zero_le _, rfl, HOC5.out, fun _ _ _ _ h => by omega, HE5.out, fun h => h, HS5.out, Gr.refl _ _ _⟩
          case round =>
            obtain ⟨d, e6, Yc, hd, rfl, hom, hyc, hE, hm, hS, hG⟩ := hrel
            clear HOC5 HS5
            have HOC := Lib.hid hom; clear hom
            have HYC := Lib.hid hyc; clear hyc
            have HE6 := Lib.hid hE; clear hE
            have HM6 := Lib.hid hm; clear hm
            have HS6 := Lib.hid hS; clear hS
            have HG6 := Lib.hid hG; clear hG
            by_cases hlt2 : d < n
            · have hdz : (d : Int) < (n : Int) := by omega
              have hdz0 : (0 : Int) ≤ (d : Int) := by omega
              go_wp2_with fail
              -- ████ for j
              go_loopw [12] (fun i wr => ∃ (m e6 : Nat) (Yc : Nat → Nat → ByteArray), m ≤ n ∧ i = .int .i64 (m : Int) ∧ OM wr (fun _ => False) gc 9 33 gc n Rc (fun _ => n) Yc ∧
                (∀ l j, l < n → j < n → (l < d ∨ (l = d ∧ j < m)) → Is k e6 (Yc l j) (CSR.elim q (CSR.elims M q) l j)) ∧ Er F e6 ∧ (e6 = 0 → e5 = 0) ∧ SumR wr sb k.1 e6 ∧ Gr gc (some sb) w5 wr) (fun i _ => n - (intOf i).toNat)
              case atStart => exact ⟨0, e6, Yc, Nat.zero_le _, rfl, HOC.out, fun l j hl hj h => HYC.out l j hl hj (by omega), HE6.out, HM6.out, HS6.out, HG6.out⟩
              case round =>
                obtain ⟨m, e6, Yc, hm', rfl, hom, hyc, hE, hm, hS, hG⟩ := hrel
                clear HOC HYC HE6 HM6 HS6 HG6
                have HOC := Lib.hid hom; clear hom
                have HYC := Lib.hid hyc; clear hyc
                have HE6 := Lib.hid hE; clear hE
                have HM6 := Lib.hid hm; clear hm
                have HS6 := Lib.hid hS; clear hS
                have HG6 := Lib.hid hG; clear hG
                by_cases hlt3 : m < n
                · have hmz : (m : Int) < (n : Int) := by omega
                  have hmz0 : (0 : Int) ≤ (m : Int) := by omega
                  obtain ⟨rd, cd, d1, d2, d3, d4, d5, d6⟩ := (HRW5.out d hlt2).gr HG6.out hggc hgs
                  obtain ⟨rc, cc, hRc, hrB, hrl, hrg, _, hc3, hc4, hfr, hcr⟩ := HOC.out.form hlt2 (by omega)
                  unfold maxLen at hc4
                  have s1 := HOC.out.cell hlt2
                  rw [hRc] at s1
                  have s2 := hcr m hlt3
                  have rf := hfr m
                  have HRC := Lib.hid hRc; clear hRc hfr hcr
                  obtain ⟨y3, hy3⟩ : ∃ y3, y3 = Y d m := ⟨_, rfl⟩
                  have s4 := d6 m hlt3
                  rw [← hy3] at s4
                  have HY3 := Lib.hid hy3; clear hy3
                  have hS0 : wr.drew.cell? ⟨gc, d, none⟩ = some (.slice (some ⟨rc, 0, none⟩) n cc) ∧ wr.drew.cell? ⟨rc, m, none⟩ = some (.string (Yc d m)) ∧ wr.drew.cell? ⟨g, d, none⟩ = some (.slice (some ⟨rd, 0, none⟩) n cd) ∧ wr.drew.cell? ⟨rd, m, none⟩ = some (.string y3) := ⟨s1, s2, d1, s4⟩
                  have D6 := Lib.hid d6; clear d6
                  go_wp2_with fail
                  refine region_heldK (fun wk' => wk'.cell? ⟨gc, d, none⟩ = some (.slice (some ⟨rc, 0, none⟩) n cc) ∧ wk'.cell? ⟨rc, m, none⟩ = some (.string (Yc d m)) ∧ wk'.cell? ⟨g, d, none⟩ = some (.slice (some ⟨rd, 0, none⟩) n cd) ∧ wk'.cell? ⟨rd, m, none⟩ = some (.string y3)) 13 (by kernel_rfl) ?_
                  refine AnyK.take (i := 0) (v := ?va0) rfl (by kernel_rfl) (by kernel_rfl) (by kernel_rfl) (by kernel_rfl) (by kernel_rfl) (fun _ _ _ h => h) hS0 (Or.inl ⟨by kernel_rfl, ?hya0⟩) ?resta0
                  case hya0 => rintro wk ⟨s1, s2, s3, s4⟩; go_simp; try with_reducible rfl
                  try simp only [Act.put, List.setIfInBounds_toArray, List.set_cons_zero, List.set_cons_succ, List.getElem_toArray, List.getElem_cons_succ, List.getElem_cons_zero]
                  refine AnyK.take (i := 1) (v := ?va1) rfl (by kernel_rfl) (by kernel_rfl) (by kernel_rfl) (by kernel_rfl) (by kernel_rfl) (fun _ _ _ h => h) hS0 (Or.inl ⟨by kernel_rfl, ?hya1⟩) ?resta1
                  case hya1 => rintro wk ⟨s1, s2, s3, s4⟩; go_simp; try with_reducible rfl
                  try simp only [Act.put, List.setIfInBounds_toArray, List.set_cons_zero, List.set_cons_succ, List.getElem_toArray, List.getElem_cons_succ, List.getElem_cons_zero]
                  refine AnyK.take (i := 2) (v := ?va2) rfl (by kernel_rfl) (by kernel_rfl) (by kernel_rfl) (by kernel_rfl) (by kernel_rfl) (fun _ _ _ h => h) hS0 (Or.inl ⟨by kernel_rfl, ?hya2⟩) ?resta2
                  case hya2 => rintro wk ⟨s1, s2, s3, s4⟩; go_simp; try with_reducible rfl
                  try simp only [Act.put, List.setIfInBounds_toArray, List.set_cons_zero, List.set_cons_succ, List.getElem_toArray, List.getElem_cons_succ, List.getElem_cons_zero]
                  refine AnyK.take (i := 3) (v := ?va3) rfl (by kernel_rfl) (by kernel_rfl) (by kernel_rfl) (by kernel_rfl) (by kernel_rfl) (fun _ _ _ h => h) hS0 (Or.inl ⟨by kernel_rfl, ?hya3⟩) ?resta3
                  case hya3 => rintro wk ⟨s1, s2, s3, s4⟩; go_simp; try with_reducible rfl
                  try simp only [Act.put, List.setIfInBounds_toArray, List.set_cons_zero, List.set_cons_succ, List.getElem_toArray, List.getElem_cons_succ, List.getElem_cons_zero]
                  refine AnyK.take (i := 4) (v := ?va4) rfl (by kernel_rfl) (by kernel_rfl) (by kernel_rfl) (by kernel_rfl) (by kernel_rfl) (fun _ _ _ h => h) hS0 (Or.inl ⟨by kernel_rfl, ?hya4⟩) ?resta4
                  case hya4 => rintro wk ⟨s1, s2, s3, s4⟩; go_simp; try with_reducible rfl
                  try simp only [Act.put, List.setIfInBounds_toArray, List.set_cons_zero, List.set_cons_succ, List.getElem_toArray, List.getElem_cons_succ, List.getElem_cons_zero]
                  refine AnyK.take (i := 5) (v := ?va5) rfl (by kernel_rfl) (by kernel_rfl) (by kernel_rfl) (by kernel_rfl) (by kernel_rfl) (fun _ _ _ h => h) hS0 (Or.inl ⟨by kernel_rfl, ?hya5⟩) ?resta5
                  case hya5 => rintro wk ⟨s1, s2, s3, s4⟩; go_simp; try with_reducible rfl
                  try simp only [Act.put, List.setIfInBounds_toArray, List.set_cons_zero, List.set_cons_succ, List.getElem_toArray, List.getElem_cons_succ, List.getElem_cons_zero]
                  refine AnyK.take (i := 6) (v := ?va6) rfl (by kernel_rfl) (by kernel_rfl) (by kernel_rfl) (by kernel_rfl) (by kernel_rfl) (fun _ _ _ h => h) hS0 (Or.inl ⟨by kernel_rfl, ?hya6⟩) ?resta6
                  case hya6 => rintro wk ⟨s1, s2, s3, s4⟩; go_simp; try with_reducible rfl
                  try simp only [Act.put, List.setIfInBounds_toArray, List.set_cons_zero, List.set_cons_succ, List.getElem_toArray, List.getElem_cons_succ, List.getElem_cons_zero]
                  refine AnyK.take (i := 7) (v := ?va7) rfl (by kernel_rfl) (by kernel_rfl) (by kernel_rfl) (by kernel_rfl) (by kernel_rfl) (fun _ _ _ h => h) hS0 (Or.inl ⟨by kernel_rfl, ?hya7⟩) ?resta7
                  case hya7 => rintro wk ⟨s1, s2, s3, s4⟩; go_simp; try with_reducible rfl
                  try simp only [Act.put, List.setIfInBounds_toArray, List.set_cons_zero, List.set_cons_succ, List.getElem_toArray, List.getElem_cons_succ, List.getElem_cons_zero]
                  refine AnyK.take (i := 8) (v := ?va8) rfl (by kernel_rfl) (by kernel_rfl) (by kernel_rfl) (by kernel_rfl) (by kernel_rfl) (fun _ _ _ h => h) hS0 (Or.inl ⟨by kernel_rfl, ?hya8⟩) ?resta8
                  case hya8 => rintro wk ⟨s1, s2, s3, s4⟩; go_simp; try with_reducible rfl
                  try simp only [Act.put, List.setIfInBounds_toArray, List.set_cons_zero, List.set_cons_succ, List.getElem_toArray, List.getElem_cons_succ, List.getElem_cons_zero]
                  refine AnyK.take (i := 9) (v := ?va9) rfl (by kernel_rfl) (by kernel_rfl) (by kernel_rfl) (by kernel_rfl) (by kernel_rfl) (fun _ _ _ h => h) hS0 (Or.inl ⟨by kernel_rfl, ?hya9⟩) ?resta9
                  case hya9 => rintro wk ⟨s1, s2, s3, s4⟩; go_simp; try with_reducible rfl
                  try simp only [Act.put, List.setIfInBounds_toArray, List.set_cons_zero, List.set_cons_succ, List.getElem_toArray, List.getElem_cons_succ, List.getElem_cons_zero]
                  refine AnyK.take (i := 10) (v := ?va10) rfl (by kernel_rfl) (by kernel_rfl) (by kernel_rfl) (by kernel_rfl) (by kernel_rfl) (fun _ _ _ h => h) hS0 (Or.inl ⟨by kernel_rfl, ?hya10⟩) ?resta10
                  case hya10 => rintro wk ⟨s1, s2, s3, s4⟩; go_simp; try with_reducible rfl
                  try simp only [Act.put, List.setIfInBounds_toArray, List.set_cons_zero, List.set_cons_succ, List.getElem_toArray, List.getElem_cons_succ, List.getElem_cons_zero]
                  refine AnyK.take (i := 11) (v := ?va11) rfl (by kernel_rfl) (by kernel_rfl) (by kernel_rfl) (by kernel_rfl) (by kernel_rfl) (fun _ _ _ h => h) hS0 (Or.inl ⟨by kernel_rfl, ?hya11⟩) ?resta11
                  case hya11 => rintro wk ⟨s1, s2, s3, s4⟩; go_simp; try with_reducible rfl
                  try simp only [Act.put, List.setIfInBounds_toArray, List.set_cons_zero, List.set_cons_succ, List.getElem_toArray, List.getElem_cons_succ, List.getElem_cons_zero]
                  refine AnyK.take (i := 12) (v := ?va12) rfl (by kernel_rfl) (by kernel_rfl) (by kernel_rfl) (by kernel_rfl) (by kernel_rfl) (fun _ _ _ h => h) hS0 (Or.inl ⟨by kernel_rfl, ?hya12⟩) ?resta12
                  case hya12 => rintro wk ⟨s1, s2, s3, s4⟩; go_simp; try with_reducible rfl
                  try simp only [Act.put, List.setIfInBounds_toArray, List.set_cons_zero, List.set_cons_succ, List.getElem_toArray, List.getElem_cons_succ, List.getElem_cons_zero]
                  have g0 := hS0.2.1
                  have rfd : wr.drew.frozen? ⟨rc, m, none⟩ = false := rf
                  refine AnyK.one (i := 13) rfl (by kernel_rfl) (by rfl) (fun K hK => ?_)
                  go_simp
                  refine hK.out _ _ (.inl rfl) (AnyK.done (by kernel_rfl) ?_ _)
                  clear hK K
                  have hom6 := (HOC.out.stored hlt2 hlt3 HRC.out y3).kept (drew_gb _ none) (by simp)
                  have hG6' := (HG6.out.set (p := ⟨rc, m, none⟩) (.inr hrB) (.string y3)).drew
                  have hs6 := (HS6.out.other (p := ⟨rc, m, none⟩) (by show sb ≠ rc; omega) (.string y3)).drew
                  clear g0 rfd hS0 s1 s2 s4 d1 rf
                  obtain ⟨w6, hw6⟩ : ∃ w6, w6 = (wr.setCell ⟨rc, m, none⟩ (.string y3)).drew := ⟨_, rfl⟩
                  rw [← hw6] at hom6 hG6' hs6
                  rw [← hw6]
                  clear hw6 HS6 HG6 D6
                  have HOC6 := Lib.hid hom6; clear hom6
                  have HGG := Lib.hid hG6'; clear hG6'
                  have HSS := Lib.hid hs6; clear hs6
                  -- ████ if b[i][k] != Zero && b[k][j] != Zero
                  obtain ⟨rd', cd', d1, d2', d3', d4', d5', d6⟩ := (HRW5.out d hlt2).gr HGG.out hggc hgs
                  obtain ⟨rq, cq, q1, q2, q3, q4, q5, q6⟩ := (HRW5.out q hlt).gr HGG.out hggc hgs
                  obtain ⟨y1, hy1⟩ : ∃ y1, y1 = Y d q := ⟨_, rfl⟩
                  obtain ⟨y2, hy2⟩ : ∃ y2, y2 = Y q m := ⟨_, rfl⟩
                  have t2 := d6 q hlt
                  have t5 := q6 m hlt3
                  have t6 := d6 m hlt3
                  rw [← hy1] at t2
                  rw [← hy2] at t5
                  rw [← HY3.out] at t6
                  have t3 := HSS.out.c0
                  clear d6 q6
                  have hzz := fun wk' => r4zero_any k.1 wk'
                  have HZZ := Lib.hid hzz; clear hzz
                  have HK6 := Lib.hid (fun wk' (hg : w6.grownBy wk' (some sb)) => (⟨hg.cell d1 (by simp; exact hgs), hg.cell t2 (by simp; exact d3'), hg.cell q1 (by simp; exact hgs), hg.cell t5 (by simp; exact q3)⟩ :
                    wk'.cell? ⟨g, d, none⟩ = some (.slice (some ⟨rd', 0, none⟩) n cd') ∧ wk'.cell? ⟨rd', q, none⟩ = some (.string y1) ∧ wk'.cell? ⟨g, q, none⟩ = some (.slice (some ⟨rq, 0, none⟩) n cq) ∧ wk'.cell? ⟨rq, m, none⟩ = some (.string y2)))
                  have HKS := Lib.hid (fun wk' (hb : Below w6.heap.size w6 wk') => (⟨(HK6.out _ (gb_below hb _)).1, (HK6.out _ (gb_below hb _)).2.1, (HSS.out.kept hb).c0, (HK6.out _ (gb_below hb _)).2.2.1, (HK6.out _ (gb_below hb _)).2.2.2⟩ :
                    wk'.cell? ⟨g, d, none⟩ = some (.slice (some ⟨rd', 0, none⟩) n cd') ∧ wk'.cell? ⟨rd', q, none⟩ = some (.string y1) ∧ wk'.cell? ⟨sb, 0, none⟩ = some (.int .i64 k.1) ∧ wk'.cell? ⟨g, q, none⟩ = some (.slice (some ⟨rq, 0, none⟩) n cq) ∧ wk'.cell? ⟨rq, m, none⟩ = some (.string y2)))
                  obtain ⟨zs, hzs⟩ : ∃ zs, zs = zeroF k.1 := ⟨_, rfl⟩
                  rw [← hzs] at HZZ
                  have HZS := Lib.hid hzs; clear hzs
                  have HY1 := Lib.hid hy1; clear hy1
                  have HY2 := Lib.hid hy2; clear hy2
                  have hb0 : Below w6.heap.size w6 w6.drew := (Below.refl _ _).drew
                  have hS0 := HKS.out _ hb0
                  cases hq1 : (y1.toList == zs.toList)
                  · cases hq2 : (y2.toList == zs.toList)
                    · go_wp2_with fail
                      refine wp_region_held (S := fun wk' => wk'.cell? ⟨g, d, none⟩ = some (.slice (some ⟨rd', 0, none⟩) n cd') ∧ wk'.cell? ⟨rd', q, none⟩ = some (.string y1) ∧ wk'.cell? ⟨sb, 0, none⟩ = some (.int .i64 k.1) ∧ wk'.cell? ⟨g, q, none⟩ = some (.slice (some ⟨rq, 0, none⟩) n cq) ∧ wk'.cell? ⟨rq, m, none⟩ = some (.string y2)) (by kernel_rfl) ?_
                      refine wpAnyH_take (i := 0) (v := ?vx0) rfl (by kernel_rfl) (by kernel_rfl) (by kernel_rfl) (fun _ _ _ h => h) (Or.inl ⟨by kernel_rfl, ?hyx0⟩) hS0 ?restx0
                      case hyx0 => rintro wk ⟨s1, s2, s3, s4, s5⟩; go_simp; try with_reducible rfl
                      try simp only [Act.put, List.setIfInBounds_toArray, List.set_cons_zero, List.set_cons_succ, List.getElem_toArray, List.getElem_cons_succ, List.getElem_cons_zero]
                      refine wpAnyH_take (i := 1) (v := ?vx1) rfl (by kernel_rfl) (by kernel_rfl) (by kernel_rfl) (fun _ _ _ h => h) (Or.inl ⟨by kernel_rfl, ?hyx1⟩) hS0 ?restx1
                      case hyx1 => rintro wk ⟨s1, s2, s3, s4, s5⟩; go_simp; try with_reducible rfl
                      try simp only [Act.put, List.setIfInBounds_toArray, List.set_cons_zero, List.set_cons_succ, List.getElem_toArray, List.getElem_cons_succ, List.getElem_cons_zero]
                      refine wpAnyH_take (i := 2) (v := ?vx2) rfl (by kernel_rfl) (by kernel_rfl) (by kernel_rfl) (fun _ _ _ h => h) (Or.inl ⟨by kernel_rfl, ?hyx2⟩) hS0 ?restx2
                      case hyx2 => rintro wk ⟨s1, s2, s3, s4, s5⟩; go_simp; try with_reducible rfl
                      try simp only [Act.put, List.setIfInBounds_toArray, List.set_cons_zero, List.set_cons_succ, List.getElem_toArray, List.getElem_cons_succ, List.getElem_cons_zero]
                      refine wpAnyH_take (i := 3) (v := ?vx3) rfl (by kernel_rfl) (by kernel_rfl) (by kernel_rfl) (fun _ _ _ h => h) (Or.inl ⟨by kernel_rfl, ?hyx3⟩) hS0 ?restx3
                      case hyx3 => rintro wk ⟨s1, s2, s3, s4, s5⟩; go_simp; try with_reducible rfl
                      try simp only [Act.put, List.setIfInBounds_toArray, List.set_cons_zero, List.set_cons_succ, List.getElem_toArray, List.getElem_cons_succ, List.getElem_cons_zero]
                      refine wpAnyH_take (i := 4) (v := ?vx4) rfl (by kernel_rfl) (by kernel_rfl) (by kernel_rfl) (fun _ _ _ h => h) (Or.inl ⟨by kernel_rfl, ?hyx4⟩) hS0 ?restx4
                      case hyx4 => rintro wk ⟨s1, s2, s3, s4, s5⟩; go_simp; try with_reducible rfl
                      try simp only [Act.put, List.setIfInBounds_toArray, List.set_cons_zero, List.set_cons_succ, List.getElem_toArray, List.getElem_cons_succ, List.getElem_cons_zero]
                      refine wpAnyH_take (i := 5) (v := ?vx5) rfl (by kernel_rfl) (by kernel_rfl) (by kernel_rfl) (fun _ _ _ h => h) (Or.inl ⟨by kernel_rfl, ?hyx5⟩) hS0 ?restx5
                      case hyx5 => rintro wk ⟨s1, s2, s3, s4, s5⟩; go_simp; try with_reducible rfl
                      try simp only [Act.put, List.setIfInBounds_toArray, List.set_cons_zero, List.set_cons_succ, List.getElem_toArray, List.getElem_cons_succ, List.getElem_cons_zero]
                      refine wpAnyH_take (i := 6) (v := ?vx6) rfl (by kernel_rfl) (by kernel_rfl) (by kernel_rfl) (fun _ _ _ h => h) (Or.inl ⟨by kernel_rfl, ?hyx6⟩) hS0 ?restx6
                      case hyx6 => rintro wk ⟨s1, s2, s3, s4, s5⟩; go_simp; try with_reducible rfl
                      try simp only [Act.put, List.setIfInBounds_toArray, List.set_cons_zero, List.set_cons_succ, List.getElem_toArray, List.getElem_cons_succ, List.getElem_cons_zero]
                      refine wpAnyH_take (i := 7) (v := ?vx7) rfl (by kernel_rfl) (by kernel_rfl) (by kernel_rfl) (fun _ _ _ h => h) (Or.inl ⟨by kernel_rfl, ?hyx7⟩) hS0 ?restx7
                      case hyx7 => rintro wk ⟨s1, s2, s3, s4, s5⟩; go_simp; try with_reducible rfl
                      try simp only [Act.put, List.setIfInBounds_toArray, List.set_cons_zero, List.set_cons_succ, List.getElem_toArray, List.getElem_cons_succ, List.getElem_cons_zero]
                      refine wpAnyH_take (i := 8) (v := ?vx8) rfl (by kernel_rfl) (by kernel_rfl) (by kernel_rfl) (fun _ _ _ h => h) (Or.inl ⟨by kernel_rfl, ?hyx8⟩) hS0 ?restx8
                      case hyx8 => rintro wk ⟨s1, s2, s3, s4, s5⟩; go_simp; try with_reducible rfl
                      try simp only [Act.put, List.setIfInBounds_toArray, List.set_cons_zero, List.set_cons_succ, List.getElem_toArray, List.getElem_cons_succ, List.getElem_cons_zero]
                      refine wpAnyH_take (i := 9) (v := ?vx9) rfl (by kernel_rfl) (by kernel_rfl) (by kernel_rfl) (fun _ _ _ h => h) (Or.inl ⟨by kernel_rfl, ?hyx9⟩) hS0 ?restx9
                      case hyx9 => rintro wk ⟨s1, s2, s3, s4, s5⟩; go_simp; try with_reducible rfl
                      try simp only [Act.put, List.setIfInBounds_toArray, List.set_cons_zero, List.set_cons_succ, List.getElem_toArray, List.getElem_cons_succ, List.getElem_cons_zero]
                      refine wpAnyH_take (i := 10) (v := ?vx10) rfl (by kernel_rfl) (by kernel_rfl) (by kernel_rfl) (fun _ _ _ h => h) (Or.inl ⟨by kernel_rfl, ?hyx10⟩) hS0 ?restx10
                      case hyx10 => rintro wk ⟨s1, s2, s3, s4, s5⟩; go_simp; try with_reducible rfl
                      try simp only [Act.put, List.setIfInBounds_toArray, List.set_cons_zero, List.set_cons_succ, List.getElem_toArray, List.getElem_cons_succ, List.getElem_cons_zero]
                      refine wpAnyH_ready (rs := [11]) (by kernel_rfl) (by simp) (AllReadyH.cons rfl (fun K hK => ?_) AllReadyH.nil)
                      rw [if_pos (by kernel_rfl)]
                      go_simp
                      refine (HZZ.out _).mono ?_
                      rintro r wz0 ⟨rfl, hbz0⟩
                      have hbz1 := hb0.trans hbz0
                      have hSz0 := HKS.out _ hbz1
                      refine hK.out _ _ hSz0 (fun _ => ?_)
                      clear hK K
                      try simp only [Act.put, List.setIfInBounds_toArray, List.set_cons_zero, List.set_cons_succ, List.getElem_toArray, List.getElem_cons_succ, List.getElem_cons_zero]
                      refine wpAnyH_take (i := 12) (v := ?vx12) rfl (by kernel_rfl) (by kernel_rfl) (by kernel_rfl) (fun _ _ _ h => h) (Or.inl ⟨by kernel_rfl, ?hyx12⟩) hSz0 ?restx12
                      case hyx12 => rintro wk ⟨s1, s2, s3, s4, s5⟩; go_simp; try with_reducible rfl
                      try simp only [Act.put, List.setIfInBounds_toArray, List.set_cons_zero, List.set_cons_succ, List.getElem_toArray, List.getElem_cons_succ, List.getElem_cons_zero]
                      refine wpAnyH_take (i := 13) (v := ?vx13) rfl (by kernel_rfl) (by kernel_rfl) (by kernel_rfl) (fun _ _ _ h => h) (Or.inl ⟨by kernel_rfl, ?hyx13⟩) hSz0 ?restx13
                      case hyx13 => rintro wk ⟨s1, s2, s3, s4, s5⟩; go_simp; try with_reducible rfl
                      try simp only [Act.put, List.setIfInBounds_toArray, List.set_cons_zero, List.set_cons_succ, List.getElem_toArray, List.getElem_cons_succ, List.getElem_cons_zero]
                      refine wpAnyH_take (i := 14) (v := ?vx14) rfl (by kernel_rfl) (by kernel_rfl) (by kernel_rfl) (fun _ _ _ h => h) (Or.inl ⟨by kernel_rfl, ?hyx14⟩) hSz0 ?restx14
                      case hyx14 => rintro wk ⟨s1, s2, s3, s4, s5⟩; go_simp; try with_reducible rfl
                      try simp only [Act.put, List.setIfInBounds_toArray, List.set_cons_zero, List.set_cons_succ, List.getElem_toArray, List.getElem_cons_succ, List.getElem_cons_zero]
                      refine wpAnyH_take (i := 15) (v := ?vx15) rfl (by kernel_rfl) (by kernel_rfl) (by kernel_rfl) (fun _ _ _ h => h) (Or.inl ⟨by kernel_rfl, ?hyx15⟩) hSz0 ?restx15
                      case hyx15 => rintro wk ⟨s1, s2, s3, s4, s5⟩; go_simp; try with_reducible rfl
                      try simp only [Act.put, List.setIfInBounds_toArray, List.set_cons_zero, List.set_cons_succ, List.getElem_toArray, List.getElem_cons_succ, List.getElem_cons_zero]
                      refine wpAnyH_take (i := 16) (v := ?vx16) rfl (by kernel_rfl) (by kernel_rfl) (by kernel_rfl) (fun _ _ _ h => h) (Or.inl ⟨by kernel_rfl, ?hyx16⟩) hSz0 ?restx16
                      case hyx16 => rintro wk ⟨s1, s2, s3, s4, s5⟩; go_simp; try with_reducible rfl
                      try simp only [Act.put, List.setIfInBounds_toArray, List.set_cons_zero, List.set_cons_succ, List.getElem_toArray, List.getElem_cons_succ, List.getElem_cons_zero]
                      refine wpAnyH_take (i := 17) (v := ?vx17) rfl (by kernel_rfl) (by kernel_rfl) (by kernel_rfl) (fun _ _ _ h => h) (Or.inl ⟨by kernel_rfl, ?hyx17⟩) hSz0 ?restx17
                      case hyx17 => rintro wk ⟨s1, s2, s3, s4, s5⟩; go_simp; try with_reducible rfl
                      try simp only [Act.put, List.setIfInBounds_toArray, List.set_cons_zero, List.set_cons_succ, List.getElem_toArray, List.getElem_cons_succ, List.getElem_cons_zero]
                      refine wpAnyH_take (i := 18) (v := ?vx18) rfl (by kernel_rfl) (by kernel_rfl) (by kernel_rfl) (fun _ _ _ h => h) (Or.inl ⟨by kernel_rfl, ?hyx18⟩) hSz0 ?restx18
                      case hyx18 => rintro wk ⟨s1, s2, s3, s4, s5⟩; go_simp; try with_reducible rfl
                      try simp only [Act.put, List.setIfInBounds_toArray, List.set_cons_zero, List.set_cons_succ, List.getElem_toArray, List.getElem_cons_succ, List.getElem_cons_zero]
                      refine wpAnyH_take (i := 19) (v := ?vx19) rfl (by kernel_rfl) (by kernel_rfl) (by kernel_rfl) (fun _ _ _ h => h) (Or.inl ⟨by kernel_rfl, ?hyx19⟩) hSz0 ?restx19
                      case hyx19 => rintro wk ⟨s1, s2, s3, s4, s5⟩; go_simp; try with_reducible rfl
                      try simp only [Act.put, List.setIfInBounds_toArray, List.set_cons_zero, List.set_cons_succ, List.getElem_toArray, List.getElem_cons_succ, List.getElem_cons_zero]
                      refine wpAnyH_take (i := 20) (v := ?vx20) rfl (by kernel_rfl) (by kernel_rfl) (by kernel_rfl) (fun _ _ _ h => h) (Or.inl ⟨by kernel_rfl, ?hyx20⟩) hSz0 ?restx20
                      case hyx20 => rintro wk ⟨s1, s2, s3, s4, s5⟩; go_simp; try with_reducible rfl
                      try simp only [Act.put, List.setIfInBounds_toArray, List.set_cons_zero, List.set_cons_succ, List.getElem_toArray, List.getElem_cons_succ, List.getElem_cons_zero]
                      refine wpAnyH_take (i := 21) (v := ?vx21) rfl (by kernel_rfl) (by kernel_rfl) (by kernel_rfl) (fun _ _ _ h => h) (Or.inl ⟨by kernel_rfl, ?hyx21⟩) hSz0 ?restx21
                      case hyx21 => rintro wk ⟨s1, s2, s3, s4, s5⟩; go_simp; try with_reducible rfl
                      try simp only [Act.put, List.setIfInBounds_toArray, List.set_cons_zero, List.set_cons_succ, List.getElem_toArray, List.getElem_cons_succ, List.getElem_cons_zero]
                      refine wpAnyH_take (i := 22) (v := ?vx22) rfl (by kernel_rfl) (by kernel_rfl) (by kernel_rfl) (fun _ _ _ h => h) (Or.inl ⟨by kernel_rfl, ?hyx22⟩) hSz0 ?restx22
                      case hyx22 => rintro wk ⟨s1, s2, s3, s4, s5⟩; go_simp; try with_reducible rfl
                      try simp only [Act.put, List.setIfInBounds_toArray, List.set_cons_zero, List.set_cons_succ, List.getElem_toArray, List.getElem_cons_succ, List.getElem_cons_zero]
                      refine wpAnyH_take (i := 23) (v := ?vx23) rfl (by kernel_rfl) (by kernel_rfl) (by kernel_rfl) (fun _ _ _ h => h) (Or.inl ⟨by kernel_rfl, ?hyx23⟩) hSz0 ?restx23
                      case hyx23 => rintro wk ⟨s1, s2, s3, s4, s5⟩; go_simp; try with_reducible rfl
                      try simp only [Act.put, List.setIfInBounds_toArray, List.set_cons_zero, List.set_cons_succ, List.getElem_toArray, List.getElem_cons_succ, List.getElem_cons_zero]
                      refine wpAnyH_take (i := 24) (v := ?vx24) rfl (by kernel_rfl) (by kernel_rfl) (by kernel_rfl) (fun _ _ _ h => h) (Or.inl ⟨by kernel_rfl, ?hyx24⟩) hSz0 ?restx24
                      case hyx24 => rintro wk ⟨s1, s2, s3, s4, s5⟩; go_simp; try with_reducible rfl
                      try simp only [Act.put, List.setIfInBounds_toArray, List.set_cons_zero, List.set_cons_succ, List.getElem_toArray, List.getElem_cons_succ, List.getElem_cons_zero]
                      refine wpAnyH_ready (rs := [25]) (by kernel_rfl) (by simp) (AllReadyH.cons rfl (fun K hK => ?_) AllReadyH.nil)
                      rw [if_pos (by kernel_rfl)]
                      go_simp
                      refine (HZZ.out _).mono ?_
                      rintro r wz ⟨rfl, hbz⟩
                      have hbz' := hbz1.trans (hbz.mono hbz1.size)
                      have hSz := HKS.out _ hbz'
                      refine hK.out _ _ hSz (fun _ => ?_)
                      clear hK K
                      try simp only [Act.put, List.setIfInBounds_toArray, List.set_cons_zero, List.set_cons_succ, List.getElem_toArray, List.getElem_cons_succ, List.getElem_cons_zero]
                      refine wpAnyH_take (i := 26) (v := ?vx26) rfl (by kernel_rfl) (by kernel_rfl) (by kernel_rfl) (fun _ _ _ h => h) (Or.inl ⟨by kernel_rfl, ?hyx26⟩) hSz ?restx26
                      case hyx26 => rintro wk ⟨s1, s2, s3, s4, s5⟩; go_simp; try with_reducible rfl
                      try simp only [Act.put, List.setIfInBounds_toArray, List.set_cons_zero, List.set_cons_succ, List.getElem_toArray, List.getElem_cons_succ, List.getElem_cons_zero]
                      refine wpAnyH_take (i := 27) (v := ?vx27) rfl (by kernel_rfl) (by kernel_rfl) (by kernel_rfl) (fun _ _ _ h => h) (Or.inl ⟨by kernel_rfl, ?hyx27⟩) hSz ?restx27
                      case hyx27 => rintro wk ⟨s1, s2, s3, s4, s5⟩; go_simp; try with_reducible rfl
                      try simp only [Act.put, List.setIfInBounds_toArray, List.set_cons_zero, List.set_cons_succ, List.getElem_toArray, List.getElem_cons_succ, List.getElem_cons_zero]
                      refine wpAnyH_done (by kernel_rfl) ?_ _
                      have homz := HOC6.out.kept (gb_below hbz' none) (by simp)
                      have hGz := HGG.out.more (gb_below hbz' none) (by have := HGG.out.size; have := HOC6.out.lt; omega) (fun _ h => by cases h)
                      have hsz := HSS.out.kept hbz'
                      have k6 := (gb_below hbz' none).cell t6 (by simp)
                      clear hS0 hSz0 hb0 d1 q1 t2 t3 t5 t6
                      obtain ⟨z1, z2, _, z4, z5⟩ := hSz
                      obtain ⟨rc2, cc2, hRc2, hrB2, hrl2, hrg2, _, _, _, hfr2, hcr2⟩ := homz.form hlt2 (by omega)
                      have e2 := HRC.out.symm.trans hRc2
                      simp only [Value.slice.injEq, Option.some.injEq, Addr.mk.injEq, and_true, true_and] at e2
                      obtain ⟨e2, e3⟩ := e2
                      subst e2 e3
                      clear hRc2
                      obtain ⟨y0, hy0⟩ : ∃ y0, wz.cell? ⟨rc, m, none⟩ = some (.string y0) := ⟨_, hcr2 m hlt3⟩
                      have u1 := homz.cell hlt2
                      rw [HRC.out] at u1
                      have rfz := hfr2 m
                      clear hfr2 hcr2
                      have HOZ := Lib.hid homz; clear homz
                      have HGZ := Lib.hid hGz; clear hGz
                      have HSZ := Lib.hid hsz; clear hsz
                      go_wp2_with fail
                      have HK20 := Lib.hid (fun wk' (hg : wz.grownBy wk' (some sb)) => (⟨hg.cell u1 (by simp; omega), hg.cell hy0 (by simp; omega), hg.cell z1 (by simp; exact hgs), hg.cell k6 (by simp; exact d3'), hg.cell z2 (by simp; exact d3'), hg.cell z4 (by simp; exact hgs), hg.cell z5 (by simp; exact q3)⟩ : wk'.cell? ⟨gc, d, none⟩ = some (.slice (some ⟨rc, 0, none⟩) n cc) ∧ wk'.cell? ⟨rc, m, none⟩ = some (.string y0) ∧ wk'.cell? ⟨g, d, none⟩ = some (.slice (some ⟨rd', 0, none⟩) n cd') ∧ wk'.cell? ⟨rd', m, none⟩ = some (.string y3) ∧ wk'.cell? ⟨rd', q, none⟩ = some (.string y1) ∧ wk'.cell? ⟨g, q, none⟩ = some (.slice (some ⟨rq, 0, none⟩) n cq) ∧ wk'.cell? ⟨rq, m, none⟩ = some (.string y2)))
                      have hd1 := drew_gb wz (some sb)
                      have hS20 := HK20.out _ hd1
                      have hm1 : Is k e6 y1 (CSR.elims M q d q) := by rw [HY1.out]; exact (HXY5.out d q hlt2 hlt).mono HM6.out
                      have hm2 : Is k e6 y2 (CSR.elims M q q m) := by rw [HY2.out]; exact (HXY5.out q m hlt hlt3).mono HM6.out
                      have hm3 : Is k e6 y3 (CSR.elims M q d m) := by rw [HY3.out]; exact (HXY5.out d m hlt2 hlt3).mono HM6.out
                      have hc1 := rtimes7_is (F := F) hm1 (HLP.out.mono HM6.out) HE6.out (fun f => ((HF.out f).steps q hlt).first d hlt2) HSZ.out.drew
                      have HC1 := Lib.hid hc1; clear hc1
                      have HMM2 := Lib.hid hm2; clear hm2 hm1
                      have HMM3 := Lib.hid hm3; clear hm3
                      clear hbz hbz0 hbz1 hbz'
                      refine region_heldK (fun wk' => wk'.cell? ⟨gc, d, none⟩ = some (.slice (some ⟨rc, 0, none⟩) n cc) ∧ wk'.cell? ⟨rc, m, none⟩ = some (.string y0) ∧ wk'.cell? ⟨g, d, none⟩ = some (.slice (some ⟨rd', 0, none⟩) n cd') ∧ wk'.cell? ⟨rd', m, none⟩ = some (.string y3) ∧ wk'.cell? ⟨rd', q, none⟩ = some (.string y1) ∧ wk'.cell? ⟨g, q, none⟩ = some (.slice (some ⟨rq, 0, none⟩) n cq) ∧ wk'.cell? ⟨rq, m, none⟩ = some (.string y2)) 34 (by kernel_rfl) ?_
                      refine AnyK.take (i := 0) (v := ?vw0) rfl (by kernel_rfl) (by kernel_rfl) (by kernel_rfl) (by kernel_rfl) (by kernel_rfl) (fun _ _ _ h => h) hS20 (Or.inl ⟨by kernel_rfl, ?hyw0⟩) ?restw0
                      case hyw0 => rintro wk ⟨s1, s2, s3, s4, s5, s6, s7⟩; go_simp; try with_reducible rfl
                      try simp only [Act.put, List.setIfInBounds_toArray, List.set_cons_zero, List.set_cons_succ, List.getElem_toArray, List.getElem_cons_succ, List.getElem_cons_zero]
                      refine AnyK.take (i := 1) (v := ?vw1) rfl (by kernel_rfl) (by kernel_rfl) (by kernel_rfl) (by kernel_rfl) (by kernel_rfl) (fun _ _ _ h => h) hS20 (Or.inl ⟨by kernel_rfl, ?hyw1⟩) ?restw1
                      case hyw1 => rintro wk ⟨s1, s2, s3, s4, s5, s6, s7⟩; go_simp; try with_reducible rfl
                      try simp only [Act.put, List.setIfInBounds_toArray, List.set_cons_zero, List.set_cons_succ, List.getElem_toArray, List.getElem_cons_succ, List.getElem_cons_zero]
                      refine AnyK.take (i := 2) (v := ?vw2) rfl (by kernel_rfl) (by kernel_rfl) (by kernel_rfl) (by kernel_rfl) (by kernel_rfl) (fun _ _ _ h => h) hS20 (Or.inl ⟨by kernel_rfl, ?hyw2⟩) ?restw2
                      case hyw2 => rintro wk ⟨s1, s2, s3, s4, s5, s6, s7⟩; go_simp; try with_reducible rfl
                      try simp only [Act.put, List.setIfInBounds_toArray, List.set_cons_zero, List.set_cons_succ, List.getElem_toArray, List.getElem_cons_succ, List.getElem_cons_zero]
                      refine AnyK.take (i := 3) (v := ?vw3) rfl (by kernel_rfl) (by kernel_rfl) (by kernel_rfl) (by kernel_rfl) (by kernel_rfl) (fun _ _ _ h => h) hS20 (Or.inl ⟨by kernel_rfl, ?hyw3⟩) ?restw3
                      case hyw3 => rintro wk ⟨s1, s2, s3, s4, s5, s6, s7⟩; go_simp; try with_reducible rfl
                      try simp only [Act.put, List.setIfInBounds_toArray, List.set_cons_zero, List.set_cons_succ, List.getElem_toArray, List.getElem_cons_succ, List.getElem_cons_zero]
                      refine AnyK.take (i := 4) (v := ?vw4) rfl (by kernel_rfl) (by kernel_rfl) (by kernel_rfl) (by kernel_rfl) (by kernel_rfl) (fun _ _ _ h => h) hS20 (Or.inl ⟨by kernel_rfl, ?hyw4⟩) ?restw4
                      case hyw4 => rintro wk ⟨s1, s2, s3, s4, s5, s6, s7⟩; go_simp; try with_reducible rfl
                      try simp only [Act.put, List.setIfInBounds_toArray, List.set_cons_zero, List.set_cons_succ, List.getElem_toArray, List.getElem_cons_succ, List.getElem_cons_zero]
                      refine AnyK.take (i := 5) (v := ?vw5) rfl (by kernel_rfl) (by kernel_rfl) (by kernel_rfl) (by kernel_rfl) (by kernel_rfl) (fun _ _ _ h => h) hS20 (Or.inl ⟨by kernel_rfl, ?hyw5⟩) ?restw5
                      case hyw5 => rintro wk ⟨s1, s2, s3, s4, s5, s6, s7⟩; go_simp; try with_reducible rfl
                      try simp only [Act.put, List.setIfInBounds_toArray, List.set_cons_zero, List.set_cons_succ, List.getElem_toArray, List.getElem_cons_succ, List.getElem_cons_zero]
                      refine AnyK.take (i := 6) (v := ?vw6) rfl (by kernel_rfl) (by kernel_rfl) (by kernel_rfl) (by kernel_rfl) (by kernel_rfl) (fun _ _ _ h => h) hS20 (Or.inl ⟨by kernel_rfl, ?hyw6⟩) ?restw6
                      case hyw6 => rintro wk ⟨s1, s2, s3, s4, s5, s6, s7⟩; go_simp; try with_reducible rfl
                      try simp only [Act.put, List.setIfInBounds_toArray, List.set_cons_zero, List.set_cons_succ, List.getElem_toArray, List.getElem_cons_succ, List.getElem_cons_zero]
                      refine AnyK.take (i := 7) (v := ?vw7) rfl (by kernel_rfl) (by kernel_rfl) (by kernel_rfl) (by kernel_rfl) (by kernel_rfl) (fun _ _ _ h => h) hS20 (Or.inl ⟨by kernel_rfl, ?hyw7⟩) ?restw7
                      case hyw7 => rintro wk ⟨s1, s2, s3, s4, s5, s6, s7⟩; go_simp; try with_reducible rfl
                      try simp only [Act.put, List.setIfInBounds_toArray, List.set_cons_zero, List.set_cons_succ, List.getElem_toArray, List.getElem_cons_succ, List.getElem_cons_zero]
                      refine AnyK.take (i := 8) (v := ?vw8) rfl (by kernel_rfl) (by kernel_rfl) (by kernel_rfl) (by kernel_rfl) (by kernel_rfl) (fun _ _ _ h => h) hS20 (Or.inl ⟨by kernel_rfl, ?hyw8⟩) ?restw8
                      case hyw8 => rintro wk ⟨s1, s2, s3, s4, s5, s6, s7⟩; go_simp; try with_reducible rfl
                      try simp only [Act.put, List.setIfInBounds_toArray, List.set_cons_zero, List.set_cons_succ, List.getElem_toArray, List.getElem_cons_succ, List.getElem_cons_zero]
                      refine AnyK.take (i := 9) (v := ?vw9) rfl (by kernel_rfl) (by kernel_rfl) (by kernel_rfl) (by kernel_rfl) (by kernel_rfl) (fun _ _ _ h => h) hS20 (Or.inl ⟨by kernel_rfl, ?hyw9⟩) ?restw9
                      case hyw9 => rintro wk ⟨s1, s2, s3, s4, s5, s6, s7⟩; go_simp; try with_reducible rfl
                      try simp only [Act.put, List.setIfInBounds_toArray, List.set_cons_zero, List.set_cons_succ, List.getElem_toArray, List.getElem_cons_succ, List.getElem_cons_zero]
                      refine AnyK.take (i := 10) (v := ?vw10) rfl (by kernel_rfl) (by kernel_rfl) (by kernel_rfl) (by kernel_rfl) (by kernel_rfl) (fun _ _ _ h => h) hS20 (Or.inl ⟨by kernel_rfl, ?hyw10⟩) ?restw10
                      case hyw10 => rintro wk ⟨s1, s2, s3, s4, s5, s6, s7⟩; go_simp; try with_reducible rfl
                      try simp only [Act.put, List.setIfInBounds_toArray, List.set_cons_zero, List.set_cons_succ, List.getElem_toArray, List.getElem_cons_succ, List.getElem_cons_zero]
                      refine AnyK.take (i := 11) (v := ?vw11) rfl (by kernel_rfl) (by kernel_rfl) (by kernel_rfl) (by kernel_rfl) (by kernel_rfl) (fun _ _ _ h => h) hS20 (Or.inl ⟨by kernel_rfl, ?hyw11⟩) ?restw11
                      case hyw11 => rintro wk ⟨s1, s2, s3, s4, s5, s6, s7⟩; go_simp; try with_reducible rfl
                      try simp only [Act.put, List.setIfInBounds_toArray, List.set_cons_zero, List.set_cons_succ, List.getElem_toArray, List.getElem_cons_succ, List.getElem_cons_zero]
                      refine AnyK.take (i := 12) (v := ?vw12) rfl (by kernel_rfl) (by kernel_rfl) (by kernel_rfl) (by kernel_rfl) (by kernel_rfl) (fun _ _ _ h => h) hS20 (Or.inl ⟨by kernel_rfl, ?hyw12⟩) ?restw12
                      case hyw12 => rintro wk ⟨s1, s2, s3, s4, s5, s6, s7⟩; go_simp; try with_reducible rfl
                      try simp only [Act.put, List.setIfInBounds_toArray, List.set_cons_zero, List.set_cons_succ, List.getElem_toArray, List.getElem_cons_succ, List.getElem_cons_zero]
                      refine AnyK.take (i := 13) (v := ?vw13) rfl (by kernel_rfl) (by kernel_rfl) (by kernel_rfl) (by kernel_rfl) (by kernel_rfl) (fun _ _ _ h => h) hS20 (Or.inl ⟨by kernel_rfl, ?hyw13⟩) ?restw13
                      case hyw13 => rintro wk ⟨s1, s2, s3, s4, s5, s6, s7⟩; go_simp; try with_reducible rfl
                      try simp only [Act.put, List.setIfInBounds_toArray, List.set_cons_zero, List.set_cons_succ, List.getElem_toArray, List.getElem_cons_succ, List.getElem_cons_zero]
                      refine AnyK.take (i := 14) (v := ?vw14) rfl (by kernel_rfl) (by kernel_rfl) (by kernel_rfl) (by kernel_rfl) (by kernel_rfl) (fun _ _ _ h => h) hS20 (Or.inl ⟨by kernel_rfl, ?hyw14⟩) ?restw14
                      case hyw14 => rintro wk ⟨s1, s2, s3, s4, s5, s6, s7⟩; go_simp; try with_reducible rfl
                      try simp only [Act.put, List.setIfInBounds_toArray, List.set_cons_zero, List.set_cons_succ, List.getElem_toArray, List.getElem_cons_succ, List.getElem_cons_zero]
                      refine AnyK.take (i := 15) (v := ?vw15) rfl (by kernel_rfl) (by kernel_rfl) (by kernel_rfl) (by kernel_rfl) (by kernel_rfl) (fun _ _ _ h => h) hS20 (Or.inl ⟨by kernel_rfl, ?hyw15⟩) ?restw15
                      case hyw15 => rintro wk ⟨s1, s2, s3, s4, s5, s6, s7⟩; go_simp; try with_reducible rfl
                      try simp only [Act.put, List.setIfInBounds_toArray, List.set_cons_zero, List.set_cons_succ, List.getElem_toArray, List.getElem_cons_succ, List.getElem_cons_zero]
                      refine AnyK.take (i := 16) (v := ?vw16) rfl (by kernel_rfl) (by kernel_rfl) (by kernel_rfl) (by kernel_rfl) (by kernel_rfl) (fun _ _ _ h => h) hS20 (Or.inl ⟨by kernel_rfl, ?hyw16⟩) ?restw16
                      case hyw16 => rintro wk ⟨s1, s2, s3, s4, s5, s6, s7⟩; go_simp; try with_reducible rfl
                      try simp only [Act.put, List.setIfInBounds_toArray, List.set_cons_zero, List.set_cons_succ, List.getElem_toArray, List.getElem_cons_succ, List.getElem_cons_zero]
                      refine AnyK.take (i := 17) (v := ?vw17) rfl (by kernel_rfl) (by kernel_rfl) (by kernel_rfl) (by kernel_rfl) (by kernel_rfl) (fun _ _ _ h => h) hS20 (Or.inl ⟨by kernel_rfl, ?hyw17⟩) ?restw17
                      case hyw17 => rintro wk ⟨s1, s2, s3, s4, s5, s6, s7⟩; go_simp; try with_reducible rfl
                      try simp only [Act.put, List.setIfInBounds_toArray, List.set_cons_zero, List.set_cons_succ, List.getElem_toArray, List.getElem_cons_succ, List.getElem_cons_zero]
                      refine AnyK.take (i := 18) (v := ?vw18) rfl (by kernel_rfl) (by kernel_rfl) (by kernel_rfl) (by kernel_rfl) (by kernel_rfl) (fun _ _ _ h => h) hS20 (Or.inl ⟨by kernel_rfl, ?hyw18⟩) ?restw18
                      case hyw18 => rintro wk ⟨s1, s2, s3, s4, s5, s6, s7⟩; go_simp; try with_reducible rfl
                      try simp only [Act.put, List.setIfInBounds_toArray, List.set_cons_zero, List.set_cons_succ, List.getElem_toArray, List.getElem_cons_succ, List.getElem_cons_zero]
                      refine AnyK.take (i := 19) (v := ?vw19) rfl (by kernel_rfl) (by kernel_rfl) (by kernel_rfl) (by kernel_rfl) (by kernel_rfl) (fun _ _ _ h => h) hS20 (Or.inl ⟨by kernel_rfl, ?hyw19⟩) ?restw19
                      case hyw19 => rintro wk ⟨s1, s2, s3, s4, s5, s6, s7⟩; go_simp; try with_reducible rfl
                      try simp only [Act.put, List.setIfInBounds_toArray, List.set_cons_zero, List.set_cons_succ, List.getElem_toArray, List.getElem_cons_succ, List.getElem_cons_zero]
                      refine AnyK.take (i := 20) (v := ?vw20) rfl (by kernel_rfl) (by kernel_rfl) (by kernel_rfl) (by kernel_rfl) (by kernel_rfl) (fun _ _ _ h => h) hS20 (Or.inl ⟨by kernel_rfl, ?hyw20⟩) ?restw20
                      case hyw20 => rintro wk ⟨s1, s2, s3, s4, s5, s6, s7⟩; go_simp; try with_reducible rfl
                      try simp only [Act.put, List.setIfInBounds_toArray, List.set_cons_zero, List.set_cons_succ, List.getElem_toArray, List.getElem_cons_succ, List.getElem_cons_zero]
                      refine AnyK.take (i := 21) (v := ?vw21) rfl (by kernel_rfl) (by kernel_rfl) (by kernel_rfl) (by kernel_rfl) (by kernel_rfl) (fun _ _ _ h => h) hS20 (Or.inl ⟨by kernel_rfl, ?hyw21⟩) ?restw21
                      case hyw21 => rintro wk ⟨s1, s2, s3, s4, s5, s6, s7⟩; go_simp; try with_reducible rfl
                      try simp only [Act.put, List.setIfInBounds_toArray, List.set_cons_zero, List.set_cons_succ, List.getElem_toArray, List.getElem_cons_succ, List.getElem_cons_zero]
                      refine AnyK.take (i := 22) (v := ?vw22) rfl (by kernel_rfl) (by kernel_rfl) (by kernel_rfl) (by kernel_rfl) (by kernel_rfl) (fun _ _ _ h => h) hS20 (Or.inl ⟨by kernel_rfl, ?hyw22⟩) ?restw22
                      case hyw22 => rintro wk ⟨s1, s2, s3, s4, s5, s6, s7⟩; go_simp; try with_reducible rfl
                      try simp only [Act.put, List.setIfInBounds_toArray, List.set_cons_zero, List.set_cons_succ, List.getElem_toArray, List.getElem_cons_succ, List.getElem_cons_zero]
                      refine AnyK.take (i := 24) (v := ?vw24) rfl (by kernel_rfl) (by kernel_rfl) (by kernel_rfl) (by kernel_rfl) (by kernel_rfl) (fun _ _ _ h => h) hS20 (Or.inl ⟨by kernel_rfl, ?hyw24⟩) ?restw24
                      case hyw24 => rintro wk ⟨s1, s2, s3, s4, s5, s6, s7⟩; go_simp; try with_reducible rfl
                      try simp only [Act.put, List.setIfInBounds_toArray, List.set_cons_zero, List.set_cons_succ, List.getElem_toArray, List.getElem_cons_succ, List.getElem_cons_zero]
                      refine AnyK.take (i := 25) (v := ?vw25) rfl (by kernel_rfl) (by kernel_rfl) (by kernel_rfl) (by kernel_rfl) (by kernel_rfl) (fun _ _ _ h => h) hS20 (Or.inl ⟨by kernel_rfl, ?hyw25⟩) ?restw25
                      case hyw25 => rintro wk ⟨s1, s2, s3, s4, s5, s6, s7⟩; go_simp; try with_reducible rfl
                      try simp only [Act.put, List.setIfInBounds_toArray, List.set_cons_zero, List.set_cons_succ, List.getElem_toArray, List.getElem_cons_succ, List.getElem_cons_zero]
                      refine AnyK.take (i := 26) (v := ?vw26) rfl (by kernel_rfl) (by kernel_rfl) (by kernel_rfl) (by kernel_rfl) (by kernel_rfl) (fun _ _ _ h => h) hS20 (Or.inl ⟨by kernel_rfl, ?hyw26⟩) ?restw26
                      case hyw26 => rintro wk ⟨s1, s2, s3, s4, s5, s6, s7⟩; go_simp; try with_reducible rfl
                      try simp only [Act.put, List.setIfInBounds_toArray, List.set_cons_zero, List.set_cons_succ, List.getElem_toArray, List.getElem_cons_succ, List.getElem_cons_zero]
                      refine AnyK.take (i := 27) (v := ?vw27) rfl (by kernel_rfl) (by kernel_rfl) (by kernel_rfl) (by kernel_rfl) (by kernel_rfl) (fun _ _ _ h => h) hS20 (Or.inl ⟨by kernel_rfl, ?hyw27⟩) ?restw27
                      case hyw27 => rintro wk ⟨s1, s2, s3, s4, s5, s6, s7⟩; go_simp; try with_reducible rfl
                      try simp only [Act.put, List.setIfInBounds_toArray, List.set_cons_zero, List.set_cons_succ, List.getElem_toArray, List.getElem_cons_succ, List.getElem_cons_zero]
                      refine AnyK.take (i := 28) (v := ?vw28) rfl (by kernel_rfl) (by kernel_rfl) (by kernel_rfl) (by kernel_rfl) (by kernel_rfl) (fun _ _ _ h => h) hS20 (Or.inl ⟨by kernel_rfl, ?hyw28⟩) ?restw28
                      case hyw28 => rintro wk ⟨s1, s2, s3, s4, s5, s6, s7⟩; go_simp; try with_reducible rfl
                      try simp only [Act.put, List.setIfInBounds_toArray, List.set_cons_zero, List.set_cons_succ, List.getElem_toArray, List.getElem_cons_succ, List.getElem_cons_zero]
                      refine AnyK.take (i := 29) (v := ?vw29) rfl (by kernel_rfl) (by kernel_rfl) (by kernel_rfl) (by kernel_rfl) (by kernel_rfl) (fun _ _ _ h => h) hS20 (Or.inl ⟨by kernel_rfl, ?hyw29⟩) ?restw29
                      case hyw29 => rintro wk ⟨s1, s2, s3, s4, s5, s6, s7⟩; go_simp; try with_reducible rfl
                      try simp only [Act.put, List.setIfInBounds_toArray, List.set_cons_zero, List.set_cons_succ, List.getElem_toArray, List.getElem_cons_succ, List.getElem_cons_zero]
                      refine AnyK.take (i := 30) (v := ?vw30) rfl (by kernel_rfl) (by kernel_rfl) (by kernel_rfl) (by kernel_rfl) (by kernel_rfl) (fun _ _ _ h => h) hS20 (Or.inl ⟨by kernel_rfl, ?hyw30⟩) ?restw30
                      case hyw30 => rintro wk ⟨s1, s2, s3, s4, s5, s6, s7⟩; go_simp; try with_reducible rfl
                      try simp only [Act.put, List.setIfInBounds_toArray, List.set_cons_zero, List.set_cons_succ, List.getElem_toArray, List.getElem_cons_succ, List.getElem_cons_zero]
                      refine AnyK.one (i := 23) rfl (by kernel_rfl) (by rfl) (fun K hK => ?_)
                      go_simp
                      refine HC1.out.mono ?_
                      rintro r w7 ⟨u7, e7, rfl, hu7, he7, hm7, hs7, hg7⟩
                      have hn7 := gb_trans hd1 hg7
                      have hS7 := HK20.out _ hn7
                      refine hK.out _ _ (.inr hS7) ?_
                      clear hK K
                      try simp only [Act.put, List.setIfInBounds_toArray, List.set_cons_zero, List.set_cons_succ, List.getElem_toArray, List.getElem_cons_succ, List.getElem_cons_zero]
                      refine AnyK.one (i := 31) rfl (by kernel_rfl) (by rfl) (fun K hK => ?_)
                      go_simp
                      refine (rtimes7_is (F := F) hu7 (HMM2.out.mono hm7) he7 (fun f => ((HF.out f).steps q hlt).second d m hlt2 hlt3) hs7).mono ?_
                      rintro r w8 ⟨u8, e8, rfl, hu8, he8, hm8, hs8, hg8⟩
                      have hn8 := gb_trans hn7 hg8
                      have hS8 := HK20.out _ hn8
                      refine hK.out _ _ (.inr hS8) ?_
                      clear hK K
                      try simp only [Act.put, List.setIfInBounds_toArray, List.set_cons_zero, List.set_cons_succ, List.getElem_toArray, List.getElem_cons_succ, List.getElem_cons_zero]
                      refine AnyK.one (i := 32) rfl (by kernel_rfl) (by rfl) (fun K hK => ?_)
                      go_simp
                      refine (rplus7_is (F := F) (HMM3.out.mono (fun h => hm7 (hm8 h))) hu8 he8 (fun f => ((HF.out f).steps q hlt).sum d m hlt2 hlt3) hs8).mono ?_
                      rintro r w9 ⟨u9, e9, rfl, hu9, he9, hm9, hs9, hg9⟩
                      have hn9 := gb_trans hn8 hg9
                      have hS9 := HK20.out _ hn9
                      refine hK.out _ _ (.inr hS9) ?_
                      clear hK K
                      try simp only [Act.put, List.setIfInBounds_toArray, List.set_cons_zero, List.set_cons_succ, List.getElem_toArray, List.getElem_cons_succ, List.getElem_cons_zero]
                      refine AnyK.take (i := 33) (v := ?vw33) rfl (by kernel_rfl) (by kernel_rfl) (by kernel_rfl) (by kernel_rfl) (by kernel_rfl) (fun _ _ _ h => h) hS9 (Or.inl ⟨by kernel_rfl, ?hyw33⟩) ?restw33
                      case hyw33 => rintro wk ⟨s1, s2, s3, s4, s5, s6, s7⟩; go_simp; try with_reducible rfl
                      try simp only [Act.put, List.setIfInBounds_toArray, List.set_cons_zero, List.set_cons_succ, List.getElem_toArray, List.getElem_cons_succ, List.getElem_cons_zero]
                      have g9 := hS9.2.1
                      have rf9 : w9.frozen? ⟨rc, m, none⟩ = false := (hn9.frozen_far ⟨rc, m, none⟩ hrl2 (by simp; omega)).trans rfz
                      refine AnyK.one (i := 34) rfl (by kernel_rfl) (by rfl) (fun K hK => ?_)
                      go_simp
                      refine hK.out _ _ (.inl rfl) (AnyK.done (by kernel_rfl) ?_ _)
                      clear hK K
                      have hom9 := (HOZ.out.kept hn9 (by intro j hj; cases hj; exact hsgc)).stored hlt2 hlt3 HRC.out u9
                      have hG9 := (HGZ.out.more hn9 (by have := HGZ.out.size; have := HOC6.out.lt; have := HGG.out.size; have := HOZ.out.lt; omega) (fun _ e => .inl e)).set (p := ⟨rc, m, none⟩) (.inr hrB) (.string u9)
                      have hs9' := hs9.other (p := ⟨rc, m, none⟩) (by show sb ≠ rc; omega) (.string u9)
                      clear hS20 hS7 hS8 hS9 g9 rf9 u1 hy0 z1 z2 z4 z5 k6
                      go_wp2_with fail
                      go_roundw
                      case rel =>
                        refine ⟨m + 1, e9, _, by omega, by go_num, hom9, fun l j hl hj hlj => ?_, he9, fun h => HM6.out (hm7 (hm8 (hm9 h))), hs9', hG9⟩
                        by_cases e : l = d ∧ j = m
                        · rw [if_pos e, e.1, e.2]; exact hu9
                        · rw [if_neg e, if_neg e]; exact (HYC.out l j hl hj (by omega)).mono (fun h => hm7 (hm8 (hm9 h)))
                      case measure => simp [intOf]; omega
                    · have hez : Y d q = zeroF k.1 ∨ Y q m = zeroF k.1 := .inr (by rw [← HY2.out, ← HZS.out]; exact toList_eq hq2)
                      have HEZ := Lib.hid hez; clear hez
                      go_wp2_with fail
                      refine wp_region_held (S := fun wk' => wk'.cell? ⟨g, d, none⟩ = some (.slice (some ⟨rd', 0, none⟩) n cd') ∧ wk'.cell? ⟨rd', q, none⟩ = some (.string y1) ∧ wk'.cell? ⟨sb, 0, none⟩ = some (.int .i64 k.1) ∧ wk'.cell? ⟨g, q, none⟩ = some (.slice (some ⟨rq, 0, none⟩) n cq) ∧ wk'.cell? ⟨rq, m, none⟩ = some (.string y2)) (by kernel_rfl) ?_
                      refine wpAnyH_take (i := 0) (v := ?vy0) rfl (by kernel_rfl) (by kernel_rfl) (by kernel_rfl) (fun _ _ _ h => h) (Or.inl ⟨by kernel_rfl, ?hyy0⟩) hS0 ?resty0
                      case hyy0 => rintro wk ⟨s1, s2, s3, s4, s5⟩; go_simp; try with_reducible rfl
                      try simp only [Act.put, List.setIfInBounds_toArray, List.set_cons_zero, List.set_cons_succ, List.getElem_toArray, List.getElem_cons_succ, List.getElem_cons_zero]
                      refine wpAnyH_take (i := 1) (v := ?vy1) rfl (by kernel_rfl) (by kernel_rfl) (by kernel_rfl) (fun _ _ _ h => h) (Or.inl ⟨by kernel_rfl, ?hyy1⟩) hS0 ?resty1
                      case hyy1 => rintro wk ⟨s1, s2, s3, s4, s5⟩; go_simp; try with_reducible rfl
                      try simp only [Act.put, List.setIfInBounds_toArray, List.set_cons_zero, List.set_cons_succ, List.getElem_toArray, List.getElem_cons_succ, List.getElem_cons_zero]
                      refine wpAnyH_take (i := 2) (v := ?vy2) rfl (by kernel_rfl) (by kernel_rfl) (by kernel_rfl) (fun _ _ _ h => h) (Or.inl ⟨by kernel_rfl, ?hyy2⟩) hS0 ?resty2
                      case hyy2 => rintro wk ⟨s1, s2, s3, s4, s5⟩; go_simp; try with_reducible rfl
                      try simp only [Act.put, List.setIfInBounds_toArray, List.set_cons_zero, List.set_cons_succ, List.getElem_toArray, List.getElem_cons_succ, List.getElem_cons_zero]
                      refine wpAnyH_take (i := 3) (v := ?vy3) rfl (by kernel_rfl) (by kernel_rfl) (by kernel_rfl) (fun _ _ _ h => h) (Or.inl ⟨by kernel_rfl, ?hyy3⟩) hS0 ?resty3
                      case hyy3 => rintro wk ⟨s1, s2, s3, s4, s5⟩; go_simp; try with_reducible rfl
                      try simp only [Act.put, List.setIfInBounds_toArray, List.set_cons_zero, List.set_cons_succ, List.getElem_toArray, List.getElem_cons_succ, List.getElem_cons_zero]
                      refine wpAnyH_take (i := 4) (v := ?vy4) rfl (by kernel_rfl) (by kernel_rfl) (by kernel_rfl) (fun _ _ _ h => h) (Or.inl ⟨by kernel_rfl, ?hyy4⟩) hS0 ?resty4
                      case hyy4 => rintro wk ⟨s1, s2, s3, s4, s5⟩; go_simp; try with_reducible rfl
                      try simp only [Act.put, List.setIfInBounds_toArray, List.set_cons_zero, List.set_cons_succ, List.getElem_toArray, List.getElem_cons_succ, List.getElem_cons_zero]
                      refine wpAnyH_take (i := 5) (v := ?vy5) rfl (by kernel_rfl) (by kernel_rfl) (by kernel_rfl) (fun _ _ _ h => h) (Or.inl ⟨by kernel_rfl, ?hyy5⟩) hS0 ?resty5
                      case hyy5 => rintro wk ⟨s1, s2, s3, s4, s5⟩; go_simp; try with_reducible rfl
                      try simp only [Act.put, List.setIfInBounds_toArray, List.set_cons_zero, List.set_cons_succ, List.getElem_toArray, List.getElem_cons_succ, List.getElem_cons_zero]
                      refine wpAnyH_take (i := 6) (v := ?vy6) rfl (by kernel_rfl) (by kernel_rfl) (by kernel_rfl) (fun _ _ _ h => h) (Or.inl ⟨by kernel_rfl, ?hyy6⟩) hS0 ?resty6
                      case hyy6 => rintro wk ⟨s1, s2, s3, s4, s5⟩; go_simp; try with_reducible rfl
                      try simp only [Act.put, List.setIfInBounds_toArray, List.set_cons_zero, List.set_cons_succ, List.getElem_toArray, List.getElem_cons_succ, List.getElem_cons_zero]
                      refine wpAnyH_take (i := 7) (v := ?vy7) rfl (by kernel_rfl) (by kernel_rfl) (by kernel_rfl) (fun _ _ _ h => h) (Or.inl ⟨by kernel_rfl, ?hyy7⟩) hS0 ?resty7
                      case hyy7 => rintro wk ⟨s1, s2, s3, s4, s5⟩; go_simp; try with_reducible rfl
                      try simp only [Act.put, List.setIfInBounds_toArray, List.set_cons_zero, List.set_cons_succ, List.getElem_toArray, List.getElem_cons_succ, List.getElem_cons_zero]
                      refine wpAnyH_take (i := 8) (v := ?vy8) rfl (by kernel_rfl) (by kernel_rfl) (by kernel_rfl) (fun _ _ _ h => h) (Or.inl ⟨by kernel_rfl, ?hyy8⟩) hS0 ?resty8
                      case hyy8 => rintro wk ⟨s1, s2, s3, s4, s5⟩; go_simp; try with_reducible rfl
                      try simp only [Act.put, List.setIfInBounds_toArray, List.set_cons_zero, List.set_cons_succ, List.getElem_toArray, List.getElem_cons_succ, List.getElem_cons_zero]
                      refine wpAnyH_take (i := 9) (v := ?vy9) rfl (by kernel_rfl) (by kernel_rfl) (by kernel_rfl) (fun _ _ _ h => h) (Or.inl ⟨by kernel_rfl, ?hyy9⟩) hS0 ?resty9
                      case hyy9 => rintro wk ⟨s1, s2, s3, s4, s5⟩; go_simp; try with_reducible rfl
                      try simp only [Act.put, List.setIfInBounds_toArray, List.set_cons_zero, List.set_cons_succ, List.getElem_toArray, List.getElem_cons_succ, List.getElem_cons_zero]
                      refine wpAnyH_take (i := 10) (v := ?vy10) rfl (by kernel_rfl) (by kernel_rfl) (by kernel_rfl) (fun _ _ _ h => h) (Or.inl ⟨by kernel_rfl, ?hyy10⟩) hS0 ?resty10
                      case hyy10 => rintro wk ⟨s1, s2, s3, s4, s5⟩; go_simp; try with_reducible rfl
                      try simp only [Act.put, List.setIfInBounds_toArray, List.set_cons_zero, List.set_cons_succ, List.getElem_toArray, List.getElem_cons_succ, List.getElem_cons_zero]
                      refine wpAnyH_ready (rs := [11]) (by kernel_rfl) (by simp) (AllReadyH.cons rfl (fun K hK => ?_) AllReadyH.nil)
                      rw [if_pos (by kernel_rfl)]
                      go_simp
                      refine (HZZ.out _).mono ?_
                      rintro r wz0 ⟨rfl, hbz0⟩
                      have hbz1 := hb0.trans hbz0
                      have hSz0 := HKS.out _ hbz1
                      refine hK.out _ _ hSz0 (fun _ => ?_)
                      clear hK K
                      try simp only [Act.put, List.setIfInBounds_toArray, List.set_cons_zero, List.set_cons_succ, List.getElem_toArray, List.getElem_cons_succ, List.getElem_cons_zero]
                      refine wpAnyH_take (i := 12) (v := ?vy12) rfl (by kernel_rfl) (by kernel_rfl) (by kernel_rfl) (fun _ _ _ h => h) (Or.inl ⟨by kernel_rfl, ?hyy12⟩) hSz0 ?resty12
                      case hyy12 => rintro wk ⟨s1, s2, s3, s4, s5⟩; go_simp; try with_reducible rfl
                      try simp only [Act.put, List.setIfInBounds_toArray, List.set_cons_zero, List.set_cons_succ, List.getElem_toArray, List.getElem_cons_succ, List.getElem_cons_zero]
                      refine wpAnyH_take (i := 13) (v := ?vy13) rfl (by kernel_rfl) (by kernel_rfl) (by kernel_rfl) (fun _ _ _ h => h) (Or.inl ⟨by kernel_rfl, ?hyy13⟩) hSz0 ?resty13
                      case hyy13 => rintro wk ⟨s1, s2, s3, s4, s5⟩; go_simp; try with_reducible rfl
                      try simp only [Act.put, List.setIfInBounds_toArray, List.set_cons_zero, List.set_cons_succ, List.getElem_toArray, List.getElem_cons_succ, List.getElem_cons_zero]
                      refine wpAnyH_take (i := 14) (v := ?vy14) rfl (by kernel_rfl) (by kernel_rfl) (by kernel_rfl) (fun _ _ _ h => h) (Or.inl ⟨by kernel_rfl, ?hyy14⟩) hSz0 ?resty14
                      case hyy14 => rintro wk ⟨s1, s2, s3, s4, s5⟩; go_simp; try with_reducible rfl
                      try simp only [Act.put, List.setIfInBounds_toArray, List.set_cons_zero, List.set_cons_succ, List.getElem_toArray, List.getElem_cons_succ, List.getElem_cons_zero]
                      refine wpAnyH_take (i := 15) (v := ?vy15) rfl (by kernel_rfl) (by kernel_rfl) (by kernel_rfl) (fun _ _ _ h => h) (Or.inl ⟨by kernel_rfl, ?hyy15⟩) hSz0 ?resty15
                      case hyy15 => rintro wk ⟨s1, s2, s3, s4, s5⟩; go_simp; try with_reducible rfl
                      try simp only [Act.put, List.setIfInBounds_toArray, List.set_cons_zero, List.set_cons_succ, List.getElem_toArray, List.getElem_cons_succ, List.getElem_cons_zero]
                      refine wpAnyH_take (i := 16) (v := ?vy16) rfl (by kernel_rfl) (by kernel_rfl) (by kernel_rfl) (fun _ _ _ h => h) (Or.inl ⟨by kernel_rfl, ?hyy16⟩) hSz0 ?resty16
                      case hyy16 => rintro wk ⟨s1, s2, s3, s4, s5⟩; go_simp; try with_reducible rfl
                      try simp only [Act.put, List.setIfInBounds_toArray, List.set_cons_zero, List.set_cons_succ, List.getElem_toArray, List.getElem_cons_succ, List.getElem_cons_zero]
                      refine wpAnyH_take (i := 17) (v := ?vy17) rfl (by kernel_rfl) (by kernel_rfl) (by kernel_rfl) (fun _ _ _ h => h) (Or.inl ⟨by kernel_rfl, ?hyy17⟩) hSz0 ?resty17
                      case hyy17 => rintro wk ⟨s1, s2, s3, s4, s5⟩; go_simp; try with_reducible rfl
                      try simp only [Act.put, List.setIfInBounds_toArray, List.set_cons_zero, List.set_cons_succ, List.getElem_toArray, List.getElem_cons_succ, List.getElem_cons_zero]
                      refine wpAnyH_take (i := 18) (v := ?vy18) rfl (by kernel_rfl) (by kernel_rfl) (by kernel_rfl) (fun _ _ _ h => h) (Or.inl ⟨by kernel_rfl, ?hyy18⟩) hSz0 ?resty18
                      case hyy18 => rintro wk ⟨s1, s2, s3, s4, s5⟩; go_simp; try with_reducible rfl
                      try simp only [Act.put, List.setIfInBounds_toArray, List.set_cons_zero, List.set_cons_succ, List.getElem_toArray, List.getElem_cons_succ, List.getElem_cons_zero]
                      refine wpAnyH_take (i := 19) (v := ?vy19) rfl (by kernel_rfl) (by kernel_rfl) (by kernel_rfl) (fun _ _ _ h => h) (Or.inl ⟨by kernel_rfl, ?hyy19⟩) hSz0 ?resty19
                      case hyy19 => rintro wk ⟨s1, s2, s3, s4, s5⟩; go_simp; try with_reducible rfl
                      try simp only [Act.put, List.setIfInBounds_toArray, List.set_cons_zero, List.set_cons_succ, List.getElem_toArray, List.getElem_cons_succ, List.getElem_cons_zero]
                      refine wpAnyH_take (i := 20) (v := ?vy20) rfl (by kernel_rfl) (by kernel_rfl) (by kernel_rfl) (fun _ _ _ h => h) (Or.inl ⟨by kernel_rfl, ?hyy20⟩) hSz0 ?resty20
                      case hyy20 => rintro wk ⟨s1, s2, s3, s4, s5⟩; go_simp; try with_reducible rfl
                      try simp only [Act.put, List.setIfInBounds_toArray, List.set_cons_zero, List.set_cons_succ, List.getElem_toArray, List.getElem_cons_succ, List.getElem_cons_zero]
                      refine wpAnyH_take (i := 21) (v := ?vy21) rfl (by kernel_rfl) (by kernel_rfl) (by kernel_rfl) (fun _ _ _ h => h) (Or.inl ⟨by kernel_rfl, ?hyy21⟩) hSz0 ?resty21
                      case hyy21 => rintro wk ⟨s1, s2, s3, s4, s5⟩; go_simp; try with_reducible rfl
                      try simp only [Act.put, List.setIfInBounds_toArray, List.set_cons_zero, List.set_cons_succ, List.getElem_toArray, List.getElem_cons_succ, List.getElem_cons_zero]
                      refine wpAnyH_take (i := 22) (v := ?vy22) rfl (by kernel_rfl) (by kernel_rfl) (by kernel_rfl) (fun _ _ _ h => h) (Or.inl ⟨by kernel_rfl, ?hyy22⟩) hSz0 ?resty22
                      case hyy22 => rintro wk ⟨s1, s2, s3, s4, s5⟩; go_simp; try with_reducible rfl
                      try simp only [Act.put, List.setIfInBounds_toArray, List.set_cons_zero, List.set_cons_succ, List.getElem_toArray, List.getElem_cons_succ, List.getElem_cons_zero]
                      refine wpAnyH_take (i := 23) (v := ?vy23) rfl (by kernel_rfl) (by kernel_rfl) (by kernel_rfl) (fun _ _ _ h => h) (Or.inl ⟨by kernel_rfl, ?hyy23⟩) hSz0 ?resty23
                      case hyy23 => rintro wk ⟨s1, s2, s3, s4, s5⟩; go_simp; try with_reducible rfl
                      try simp only [Act.put, List.setIfInBounds_toArray, List.set_cons_zero, List.set_cons_succ, List.getElem_toArray, List.getElem_cons_succ, List.getElem_cons_zero]
                      refine wpAnyH_take (i := 24) (v := ?vy24) rfl (by kernel_rfl) (by kernel_rfl) (by kernel_rfl) (fun _ _ _ h => h) (Or.inl ⟨by kernel_rfl, ?hyy24⟩) hSz0 ?resty24
                      case hyy24 => rintro wk ⟨s1, s2, s3, s4, s5⟩; go_simp; try with_reducible rfl
                      try simp only [Act.put, List.setIfInBounds_toArray, List.set_cons_zero, List.set_cons_succ, List.getElem_toArray, List.getElem_cons_succ, List.getElem_cons_zero]
                      refine wpAnyH_ready (rs := [25]) (by kernel_rfl) (by simp) (AllReadyH.cons rfl (fun K hK => ?_) AllReadyH.nil)
                      rw [if_pos (by kernel_rfl)]
                      go_simp
                      refine (HZZ.out _).mono ?_
                      rintro r wz ⟨rfl, hbz⟩
                      have hbz' := hbz1.trans (hbz.mono hbz1.size)
                      have hSz := HKS.out _ hbz'
                      refine hK.out _ _ hSz (fun _ => ?_)
                      clear hK K
                      try simp only [Act.put, List.setIfInBounds_toArray, List.set_cons_zero, List.set_cons_succ, List.getElem_toArray, List.getElem_cons_succ, List.getElem_cons_zero]
                      refine wpAnyH_take (i := 26) (v := ?vy26) rfl (by kernel_rfl) (by kernel_rfl) (by kernel_rfl) (fun _ _ _ h => h) (Or.inl ⟨by kernel_rfl, ?hyy26⟩) hSz ?resty26
                      case hyy26 => rintro wk ⟨s1, s2, s3, s4, s5⟩; go_simp; try with_reducible rfl
                      try simp only [Act.put, List.setIfInBounds_toArray, List.set_cons_zero, List.set_cons_succ, List.getElem_toArray, List.getElem_cons_succ, List.getElem_cons_zero]
                      refine wpAnyH_take (i := 27) (v := ?vy27) rfl (by kernel_rfl) (by kernel_rfl) (by kernel_rfl) (fun _ _ _ h => h) (Or.inl ⟨by kernel_rfl, ?hyy27⟩) hSz ?resty27
                      case hyy27 => rintro wk ⟨s1, s2, s3, s4, s5⟩; go_simp; try with_reducible rfl
                      try simp only [Act.put, List.setIfInBounds_toArray, List.set_cons_zero, List.set_cons_succ, List.getElem_toArray, List.getElem_cons_succ, List.getElem_cons_zero]
                      refine wpAnyH_done (by kernel_rfl) ?_ _
                      have homz := HOC6.out.kept (gb_below hbz' none) (by simp)
                      have hGz := HGG.out.more (gb_below hbz' none) (by have := HGG.out.size; have := HOC6.out.lt; omega) (fun _ h => by cases h)
                      have hsz := HSS.out.kept hbz'
                      clear hS0 hSz hb0 d1 d2' d3' d4' d5' q1 q2 q3 q4 q5 t2 t3 t5 t6
                      go_wp2_with fail
                      go_roundw
                      case rel =>
                        refine ⟨m + 1, e6, _, by omega, by go_num, homz, fun l j hl hj hlj => ?_, HE6.out, HM6.out, hsz, hGz⟩
                        by_cases e : l = d ∧ j = m
                        · rw [if_pos e, e.1, e.2, HY3.out]
                          exact elim_zero (HXY5.out.mono HM6.out) hlt2 hlt3 hlt HEZ.out
                        · rw [if_neg e]; exact HYC.out l j hl hj (by omega)
                      case measure => simp [intOf]; omega
                  · have hez : Y d q = zeroF k.1 ∨ Y q m = zeroF k.1 := .inl (by rw [← HY1.out, ← HZS.out]; exact toList_eq hq1)
                    have HEZ := Lib.hid hez; clear hez
                    go_wp2_with fail
                    refine wp_region_held (S := fun wk' => wk'.cell? ⟨g, d, none⟩ = some (.slice (some ⟨rd', 0, none⟩) n cd') ∧ wk'.cell? ⟨rd', q, none⟩ = some (.string y1) ∧ wk'.cell? ⟨sb, 0, none⟩ = some (.int .i64 k.1) ∧ wk'.cell? ⟨g, q, none⟩ = some (.slice (some ⟨rq, 0, none⟩) n cq) ∧ wk'.cell? ⟨rq, m, none⟩ = some (.string y2)) (by kernel_rfl) ?_
                    refine wpAnyH_take (i := 0) (v := ?vz0) rfl (by kernel_rfl) (by kernel_rfl) (by kernel_rfl) (fun _ _ _ h => h) (Or.inl ⟨by kernel_rfl, ?hyz0⟩) hS0 ?restz0
                    case hyz0 => rintro wk ⟨s1, s2, s3, s4, s5⟩; go_simp; try with_reducible rfl
                    try simp only [Act.put, List.setIfInBounds_toArray, List.set_cons_zero, List.set_cons_succ, List.getElem_toArray, List.getElem_cons_succ, List.getElem_cons_zero]
                    refine wpAnyH_take (i := 1) (v := ?vz1) rfl (by kernel_rfl) (by kernel_rfl) (by kernel_rfl) (fun _ _ _ h => h) (Or.inl ⟨by kernel_rfl, ?hyz1⟩) hS0 ?restz1
                    case hyz1 => rintro wk ⟨s1, s2, s3, s4, s5⟩; go_simp; try with_reducible rfl
                    try simp only [Act.put, List.setIfInBounds_toArray, List.set_cons_zero, List.set_cons_succ, List.getElem_toArray, List.getElem_cons_succ, List.getElem_cons_zero]
                    refine wpAnyH_take (i := 2) (v := ?vz2) rfl (by kernel_rfl) (by kernel_rfl) (by kernel_rfl) (fun _ _ _ h => h) (Or.inl ⟨by kernel_rfl, ?hyz2⟩) hS0 ?restz2
                    case hyz2 => rintro wk ⟨s1, s2, s3, s4, s5⟩; go_simp; try with_reducible rfl
                    try simp only [Act.put, List.setIfInBounds_toArray, List.set_cons_zero, List.set_cons_succ, List.getElem_toArray, List.getElem_cons_succ, List.getElem_cons_zero]
                    refine wpAnyH_take (i := 3) (v := ?vz3) rfl (by kernel_rfl) (by kernel_rfl) (by kernel_rfl) (fun _ _ _ h => h) (Or.inl ⟨by kernel_rfl, ?hyz3⟩) hS0 ?restz3
                    case hyz3 => rintro wk ⟨s1, s2, s3, s4, s5⟩; go_simp; try with_reducible rfl
                    try simp only [Act.put, List.setIfInBounds_toArray, List.set_cons_zero, List.set_cons_succ, List.getElem_toArray, List.getElem_cons_succ, List.getElem_cons_zero]
                    refine wpAnyH_take (i := 4) (v := ?vz4) rfl (by kernel_rfl) (by kernel_rfl) (by kernel_rfl) (fun _ _ _ h => h) (Or.inl ⟨by kernel_rfl, ?hyz4⟩) hS0 ?restz4
                    case hyz4 => rintro wk ⟨s1, s2, s3, s4, s5⟩; go_simp; try with_reducible rfl
                    try simp only [Act.put, List.setIfInBounds_toArray, List.set_cons_zero, List.set_cons_succ, List.getElem_toArray, List.getElem_cons_succ, List.getElem_cons_zero]
                    refine wpAnyH_take (i := 5) (v := ?vz5) rfl (by kernel_rfl) (by kernel_rfl) (by kernel_rfl) (fun _ _ _ h => h) (Or.inl ⟨by kernel_rfl, ?hyz5⟩) hS0 ?restz5
                    case hyz5 => rintro wk ⟨s1, s2, s3, s4, s5⟩; go_simp; try with_reducible rfl
                    try simp only [Act.put, List.setIfInBounds_toArray, List.set_cons_zero, List.set_cons_succ, List.getElem_toArray, List.getElem_cons_succ, List.getElem_cons_zero]
                    refine wpAnyH_take (i := 6) (v := ?vz6) rfl (by kernel_rfl) (by kernel_rfl) (by kernel_rfl) (fun _ _ _ h => h) (Or.inl ⟨by kernel_rfl, ?hyz6⟩) hS0 ?restz6
                    case hyz6 => rintro wk ⟨s1, s2, s3, s4, s5⟩; go_simp; try with_reducible rfl
                    try simp only [Act.put, List.setIfInBounds_toArray, List.set_cons_zero, List.set_cons_succ, List.getElem_toArray, List.getElem_cons_succ, List.getElem_cons_zero]
                    refine wpAnyH_take (i := 7) (v := ?vz7) rfl (by kernel_rfl) (by kernel_rfl) (by kernel_rfl) (fun _ _ _ h => h) (Or.inl ⟨by kernel_rfl, ?hyz7⟩) hS0 ?restz7
                    case hyz7 => rintro wk ⟨s1, s2, s3, s4, s5⟩; go_simp; try with_reducible rfl
                    try simp only [Act.put, List.setIfInBounds_toArray, List.set_cons_zero, List.set_cons_succ, List.getElem_toArray, List.getElem_cons_succ, List.getElem_cons_zero]
                    refine wpAnyH_take (i := 8) (v := ?vz8) rfl (by kernel_rfl) (by kernel_rfl) (by kernel_rfl) (fun _ _ _ h => h) (Or.inl ⟨by kernel_rfl, ?hyz8⟩) hS0 ?restz8
                    case hyz8 => rintro wk ⟨s1, s2, s3, s4, s5⟩; go_simp; try with_reducible rfl
                    try simp only [Act.put, List.setIfInBounds_toArray, List.set_cons_zero, List.set_cons_succ, List.getElem_toArray, List.getElem_cons_succ, List.getElem_cons_zero]
                    refine wpAnyH_take (i := 9) (v := ?vz9) rfl (by kernel_rfl) (by kernel_rfl) (by kernel_rfl) (fun _ _ _ h => h) (Or.inl ⟨by kernel_rfl, ?hyz9⟩) hS0 ?restz9
                    case hyz9 => rintro wk ⟨s1, s2, s3, s4, s5⟩; go_simp; try with_reducible rfl
                    try simp only [Act.put, List.setIfInBounds_toArray, List.set_cons_zero, List.set_cons_succ, List.getElem_toArray, List.getElem_cons_succ, List.getElem_cons_zero]
                    refine wpAnyH_take (i := 10) (v := ?vz10) rfl (by kernel_rfl) (by kernel_rfl) (by kernel_rfl) (fun _ _ _ h => h) (Or.inl ⟨by kernel_rfl, ?hyz10⟩) hS0 ?restz10
                    case hyz10 => rintro wk ⟨s1, s2, s3, s4, s5⟩; go_simp; try with_reducible rfl
                    try simp only [Act.put, List.setIfInBounds_toArray, List.set_cons_zero, List.set_cons_succ, List.getElem_toArray, List.getElem_cons_succ, List.getElem_cons_zero]
                    refine wpAnyH_ready (rs := [11]) (by kernel_rfl) (by simp) (AllReadyH.cons rfl (fun K hK => ?_) AllReadyH.nil)
                    rw [if_pos (by kernel_rfl)]
                    go_simp
                    refine (HZZ.out _).mono ?_
                    rintro r wz ⟨rfl, hbz⟩
                    have hbz' := hb0.trans hbz
                    have hSz := HKS.out _ hbz'
                    refine hK.out _ _ hSz (fun _ => ?_)
                    clear hK K
                    try simp only [Act.put, List.setIfInBounds_toArray, List.set_cons_zero, List.set_cons_succ, List.getElem_toArray, List.getElem_cons_succ, List.getElem_cons_zero]
                    refine wpAnyH_take (i := 12) (v := ?vz12) rfl (by kernel_rfl) (by kernel_rfl) (by kernel_rfl) (fun _ _ _ h => h) (Or.inl ⟨by kernel_rfl, ?hyz12⟩) hSz ?restz12
                    case hyz12 => rintro wk ⟨s1, s2, s3, s4, s5⟩; go_simp; try with_reducible rfl
                    try simp only [Act.put, List.setIfInBounds_toArray, List.set_cons_zero, List.set_cons_succ, List.getElem_toArray, List.getElem_cons_succ, List.getElem_cons_zero]
                    refine wpAnyH_take (i := 13) (v := ?vz13) rfl (by kernel_rfl) (by kernel_rfl) (by kernel_rfl) (fun _ _ _ h => h) (Or.inl ⟨by kernel_rfl, ?hyz13⟩) hSz ?restz13
                    case hyz13 => rintro wk ⟨s1, s2, s3, s4, s5⟩; go_simp; try with_reducible rfl
                    try simp only [Act.put, List.setIfInBounds_toArray, List.set_cons_zero, List.set_cons_succ, List.getElem_toArray, List.getElem_cons_succ, List.getElem_cons_zero]
                    refine wpAnyH_take (i := 14) (v := undef) rfl (by kernel_rfl) (by kernel_rfl) (by kernel_rfl) (fun _ _ _ h => h) (Or.inr ⟨by kernel_rfl, rfl⟩) hSz ?_
                    try simp only [Act.put, List.setIfInBounds_toArray, List.set_cons_zero, List.set_cons_succ, List.getElem_toArray, List.getElem_cons_succ, List.getElem_cons_zero]
                    refine wpAnyH_take (i := 15) (v := undef) rfl (by kernel_rfl) (by kernel_rfl) (by kernel_rfl) (fun _ _ _ h => h) (Or.inr ⟨by kernel_rfl, rfl⟩) hSz ?_
                    try simp only [Act.put, List.setIfInBounds_toArray, List.set_cons_zero, List.set_cons_succ, List.getElem_toArray, List.getElem_cons_succ, List.getElem_cons_zero]
                    refine wpAnyH_take (i := 16) (v := undef) rfl (by kernel_rfl) (by kernel_rfl) (by kernel_rfl) (fun _ _ _ h => h) (Or.inr ⟨by kernel_rfl, rfl⟩) hSz ?_
                    try simp only [Act.put, List.setIfInBounds_toArray, List.set_cons_zero, List.set_cons_succ, List.getElem_toArray, List.getElem_cons_succ, List.getElem_cons_zero]
                    refine wpAnyH_take (i := 17) (v := undef) rfl (by kernel_rfl) (by kernel_rfl) (by kernel_rfl) (fun _ _ _ h => h) (Or.inr ⟨by kernel_rfl, rfl⟩) hSz ?_
                    try simp only [Act.put, List.setIfInBounds_toArray, List.set_cons_zero, List.set_cons_succ, List.getElem_toArray, List.getElem_cons_succ, List.getElem_cons_zero]
                    refine wpAnyH_take (i := 18) (v := undef) rfl (by kernel_rfl) (by kernel_rfl) (by kernel_rfl) (fun _ _ _ h => h) (Or.inr ⟨by kernel_rfl, rfl⟩) hSz ?_
                    try simp only [Act.put, List.setIfInBounds_toArray, List.set_cons_zero, List.set_cons_succ, List.getElem_toArray, List.getElem_cons_succ, List.getElem_cons_zero]
                    refine wpAnyH_take (i := 19) (v := undef) rfl (by kernel_rfl) (by kernel_rfl) (by kernel_rfl) (fun _ _ _ h => h) (Or.inr ⟨by kernel_rfl, rfl⟩) hSz ?_
                    try simp only [Act.put, List.setIfInBounds_toArray, List.set_cons_zero, List.set_cons_succ, List.getElem_toArray, List.getElem_cons_succ, List.getElem_cons_zero]
                    refine wpAnyH_take (i := 20) (v := undef) rfl (by kernel_rfl) (by kernel_rfl) (by kernel_rfl) (fun _ _ _ h => h) (Or.inr ⟨by kernel_rfl, rfl⟩) hSz ?_
                    try simp only [Act.put, List.setIfInBounds_toArray, List.set_cons_zero, List.set_cons_succ, List.getElem_toArray, List.getElem_cons_succ, List.getElem_cons_zero]
                    refine wpAnyH_take (i := 21) (v := undef) rfl (by kernel_rfl) (by kernel_rfl) (by kernel_rfl) (fun _ _ _ h => h) (Or.inr ⟨by kernel_rfl, rfl⟩) hSz ?_
                    try simp only [Act.put, List.setIfInBounds_toArray, List.set_cons_zero, List.set_cons_succ, List.getElem_toArray, List.getElem_cons_succ, List.getElem_cons_zero]
                    refine wpAnyH_take (i := 22) (v := undef) rfl (by kernel_rfl) (by kernel_rfl) (by kernel_rfl) (fun _ _ _ h => h) (Or.inr ⟨by kernel_rfl, rfl⟩) hSz ?_
                    try simp only [Act.put, List.setIfInBounds_toArray, List.set_cons_zero, List.set_cons_succ, List.getElem_toArray, List.getElem_cons_succ, List.getElem_cons_zero]
                    refine wpAnyH_take (i := 23) (v := undef) rfl (by kernel_rfl) (by kernel_rfl) (by kernel_rfl) (fun _ _ _ h => h) (Or.inr ⟨by kernel_rfl, rfl⟩) hSz ?_
                    try simp only [Act.put, List.setIfInBounds_toArray, List.set_cons_zero, List.set_cons_succ, List.getElem_toArray, List.getElem_cons_succ, List.getElem_cons_zero]
                    refine wpAnyH_take (i := 24) (v := undef) rfl (by kernel_rfl) (by kernel_rfl) (by kernel_rfl) (fun _ _ _ h => h) (Or.inr ⟨by kernel_rfl, rfl⟩) hSz ?_
                    try simp only [Act.put, List.setIfInBounds_toArray, List.set_cons_zero, List.set_cons_succ, List.getElem_toArray, List.getElem_cons_succ, List.getElem_cons_zero]
                    refine wpAnyH_take (i := 25) (v := undef) rfl (by kernel_rfl) (by kernel_rfl) (by kernel_rfl) (fun _ _ _ h => h) (Or.inr ⟨by kernel_rfl, rfl⟩) hSz ?_
                    try simp only [Act.put, List.setIfInBounds_toArray, List.set_cons_zero, List.set_cons_succ, List.getElem_toArray, List.getElem_cons_succ, List.getElem_cons_zero]
                    refine wpAnyH_take (i := 26) (v := undef) rfl (by kernel_rfl) (by kernel_rfl) (by kernel_rfl) (fun _ _ _ h => h) (Or.inr ⟨by kernel_rfl, rfl⟩) hSz ?_
                    try simp only [Act.put, List.setIfInBounds_toArray, List.set_cons_zero, List.set_cons_succ, List.getElem_toArray, List.getElem_cons_succ, List.getElem_cons_zero]
                    refine wpAnyH_take (i := 27) (v := ?vz27) rfl (by kernel_rfl) (by kernel_rfl) (by kernel_rfl) (fun _ _ _ h => h) (Or.inl ⟨by kernel_rfl, ?hyz27⟩) hSz ?restz27
                    case hyz27 => rintro wk ⟨s1, s2, s3, s4, s5⟩; go_simp; try with_reducible rfl
                    try simp only [Act.put, List.setIfInBounds_toArray, List.set_cons_zero, List.set_cons_succ, List.getElem_toArray, List.getElem_cons_succ, List.getElem_cons_zero]
                    refine wpAnyH_done (by kernel_rfl) ?_ _
                    have homz := HOC6.out.kept (gb_below hbz' none) (by simp)
                    have hGz := HGG.out.more (gb_below hbz' none) (by have := HGG.out.size; have := HOC6.out.lt; omega) (fun _ h => by cases h)
                    have hsz := HSS.out.kept hbz'
                    clear hS0 hSz hb0 d1 d2' d3' d4' d5' q1 q2 q3 q4 q5 t2 t3 t5 t6
                    go_wp2_with fail
                    go_roundw
                    case rel =>
                      refine ⟨m + 1, e6, _, by omega, by go_num, homz, fun l j hl hj hlj => ?_, HE6.out, HM6.out, hsz, hGz⟩
                      by_cases e : l = d ∧ j = m
                      · rw [if_pos e, e.1, e.2, HY3.out]
                        exact elim_zero (HXY5.out.mono HM6.out) hlt2 hlt3 hlt HEZ.out
                      · rw [if_neg e]; exact HYC.out l j hl hj (by omega)
                    case measure => simp [intOf]; omega
                · have hmn : m = n := by omega
                  have hgt2 : ¬ ((m : Int) < (n : Int)) := by omega
                  have HMN := Lib.hid hmn; clear hmn
                  go_wp2_with fail
                  go_roundw
                  case rel => exact ⟨d + 1, e6, Yc, by omega, by go_num, HOC.out, fun l j hl hj h => HYC.out l j hl hj (by have := HMN.out; omega), HE6.out, HM6.out, HS6.out, HG6.out⟩
                  case measure => simp [intOf]; omega
            · have hdn : d = n := by omega
              have hgt2 : ¬ ((d : Int) < (n : Int)) := by omega
              have HDN := Lib.hid hdn; clear hdn
              go_wp2_with fail
              go_roundw
              case rel =>
                refine ⟨q + 1, e6, gc, Rc, Yc, by omega, rfl, by go_num, HOC.out, hsgc, by omega, fun l j hl hj => HYC.out l j hl hj (by have := HDN.out; omega), HE6.out, fun h => HM5.out (HM6.out h), HS6.out, ?_⟩
                exact HG5.out.trans (HG6.out.mono (by omega))
              case measure => simp [intOf]; omega
        · have hqn : q = n := by omega
          have hgt2 : ¬ ((q : Int) < (n : Int)) := by omega
          have hdg : Diag e' n 0 Y (CSR.elims M n) := Diag.start (by have h := HXY.out; rw [hqn] at h; exact h)
          have HDG := Lib.hid hdg; clear hdg
          have HQ2 := Lib.hid hqn; clear hqn
          go_wp2_with fail
          -- ████ b[i][i] = s.Plus(One, b[i][i])
          go_loopw [13] (fun i wr => ∃ (c e3 : Nat) (Z : Nat → Nat → ByteArray), c ≤ n ∧ i = .int .i64 (c : Int) ∧ OM wr (fun _ => False) g 9 33 g n R (fun _ => n) Z ∧ Diag e3 n c Z (CSR.elims M n) ∧ Er F e3 ∧ (e3 = 0 → e' = 0) ∧ SumR wr sb k.1 e3 ∧ Gr w.heap.size (some sb) w wr) (fun i _ => n - (intOf i).toNat)
          case atStart => exact ⟨0, e', Y, Nat.zero_le _, rfl, HOM.out, HDG.out, HEE.out, fun h => h, HS.out, HG.out⟩
          case round =>
            clear HOM HDG HEE HS HG HXY
            obtain ⟨c, e3, Z, hcn, rfl, hom, hdg, hE, hm, hS, hG⟩ := hrel
            have HOM := Lib.hid hom; clear hom
            have HDG := Lib.hid hdg; clear hdg
            have HE3 := Lib.hid hE; clear hE
            have HM3 := Lib.hid hm; clear hm
            have HS := Lib.hid hS; clear hS
            have HG := Lib.hid hG; clear hG
            by_cases hlt : c < n
            · have hcz : (c : Int) < (n : Int) := by omega
              have hcz0 : (0 : Int) ≤ (c : Int) := by omega
              obtain ⟨rb, rc, hRb, hrB, hrl, hrg, _, hc3, hc4, hfr, hcr⟩ := HOM.out.form hlt (by omega)
              unfold maxLen at hc4
              have s1 := HOM.out.cell hlt
              rw [hRb] at s1
              have s2 := hcr c hlt
              have s3 := HS.out.c0
              have rf := hfr c
              have HRB := Lib.hid hRb; clear hRb hfr hcr
              obtain ⟨y, hy⟩ : ∃ y, y = Z c c := ⟨_, rfl⟩
              rw [← hy] at s2
              have hxc : Is k e3 y (CSR.elims M n c c) := by have := HDG.out c c hlt hlt; rw [if_neg (by omega)] at this; rw [hy]; exact this
              have HXC := Lib.hid hxc; clear hxc hy
              have hgl := HOM.out.lt
              have hd1 := drew_gb wr (some sb)
              have hww := HG.out.size
              have hS0 : wr.drew.cell? ⟨g, c, none⟩ = some (.slice (some ⟨rb, 0, none⟩) n rc) ∧ wr.drew.cell? ⟨rb, c, none⟩ = some (.string y) ∧ wr.drew.cell? ⟨sb, 0, none⟩ = some (.int .i64 k.1) := ⟨s1, s2, s3⟩
              go_wp2_with fail
              refine region_heldK (fun wk' => wk'.cell? ⟨g, c, none⟩ = some (.slice (some ⟨rb, 0, none⟩) n rc) ∧ wk'.cell? ⟨rb, c, none⟩ = some (.string y) ∧ wk'.cell? ⟨sb, 0, none⟩ = some (.int .i64 k.1)) 20 (by kernel_rfl) ?_
              refine AnyK.take (i := 0) (v := ?vv0) rfl (by kernel_rfl) (by kernel_rfl) (by kernel_rfl) (by kernel_rfl) (by kernel_rfl) (fun _ _ _ h => h) hS0 (Or.inl ⟨by kernel_rfl, ?hyv0⟩) ?restv0
              case hyv0 => rintro wk ⟨s1, s2, s3⟩; go_simp; try with_reducible rfl
              try simp only [Act.put, List.setIfInBounds_toArray, List.set_cons_zero, List.set_cons_succ, List.getElem_toArray, List.getElem_cons_succ, List.getElem_cons_zero]
              refine AnyK.take (i := 1) (v := ?vv1) rfl (by kernel_rfl) (by kernel_rfl) (by kernel_rfl) (by kernel_rfl) (by kernel_rfl) (fun _ _ _ h => h) hS0 (Or.inl ⟨by kernel_rfl, ?hyv1⟩) ?restv1
              case hyv1 => rintro wk ⟨s1, s2, s3⟩; go_simp; try with_reducible rfl
              try simp only [Act.put, List.setIfInBounds_toArray, List.set_cons_zero, List.set_cons_succ, List.getElem_toArray, List.getElem_cons_succ, List.getElem_cons_zero]
              refine AnyK.take (i := 2) (v := ?vv2) rfl (by kernel_rfl) (by kernel_rfl) (by kernel_rfl) (by kernel_rfl) (by kernel_rfl) (fun _ _ _ h => h) hS0 (Or.inl ⟨by kernel_rfl, ?hyv2⟩) ?restv2
              case hyv2 => rintro wk ⟨s1, s2, s3⟩; go_simp; try with_reducible rfl
              try simp only [Act.put, List.setIfInBounds_toArray, List.set_cons_zero, List.set_cons_succ, List.getElem_toArray, List.getElem_cons_succ, List.getElem_cons_zero]
              refine AnyK.take (i := 3) (v := ?vv3) rfl (by kernel_rfl) (by kernel_rfl) (by kernel_rfl) (by kernel_rfl) (by kernel_rfl) (fun _ _ _ h => h) hS0 (Or.inl ⟨by kernel_rfl, ?hyv3⟩) ?restv3
              case hyv3 => rintro wk ⟨s1, s2, s3⟩; go_simp; try with_reducible rfl
              try simp only [Act.put, List.setIfInBounds_toArray, List.set_cons_zero, List.set_cons_succ, List.getElem_toArray, List.getElem_cons_succ, List.getElem_cons_zero]
              refine AnyK.take (i := 4) (v := ?vv4) rfl (by kernel_rfl) (by kernel_rfl) (by kernel_rfl) (by kernel_rfl) (by kernel_rfl) (fun _ _ _ h => h) hS0 (Or.inl ⟨by kernel_rfl, ?hyv4⟩) ?restv4
              case hyv4 => rintro wk ⟨s1, s2, s3⟩; go_simp; try with_reducible rfl
              try simp only [Act.put, List.setIfInBounds_toArray, List.set_cons_zero, List.set_cons_succ, List.getElem_toArray, List.getElem_cons_succ, List.getElem_cons_zero]
              refine AnyK.take (i := 5) (v := ?vv5) rfl (by kernel_rfl) (by kernel_rfl) (by kernel_rfl) (by kernel_rfl) (by kernel_rfl) (fun _ _ _ h => h) hS0 (Or.inl ⟨by kernel_rfl, ?hyv5⟩) ?restv5
              case hyv5 => rintro wk ⟨s1, s2, s3⟩; go_simp; try with_reducible rfl
              try simp only [Act.put, List.setIfInBounds_toArray, List.set_cons_zero, List.set_cons_succ, List.getElem_toArray, List.getElem_cons_succ, List.getElem_cons_zero]
              refine AnyK.take (i := 6) (v := ?vv6) rfl (by kernel_rfl) (by kernel_rfl) (by kernel_rfl) (by kernel_rfl) (by kernel_rfl) (fun _ _ _ h => h) hS0 (Or.inl ⟨by kernel_rfl, ?hyv6⟩) ?restv6
              case hyv6 => rintro wk ⟨s1, s2, s3⟩; go_simp; try with_reducible rfl
              try simp only [Act.put, List.setIfInBounds_toArray, List.set_cons_zero, List.set_cons_succ, List.getElem_toArray, List.getElem_cons_succ, List.getElem_cons_zero]
              refine AnyK.take (i := 7) (v := ?vv7) rfl (by kernel_rfl) (by kernel_rfl) (by kernel_rfl) (by kernel_rfl) (by kernel_rfl) (fun _ _ _ h => h) hS0 (Or.inl ⟨by kernel_rfl, ?hyv7⟩) ?restv7
              case hyv7 => rintro wk ⟨s1, s2, s3⟩; go_simp; try with_reducible rfl
              try simp only [Act.put, List.setIfInBounds_toArray, List.set_cons_zero, List.set_cons_succ, List.getElem_toArray, List.getElem_cons_succ, List.getElem_cons_zero]
              refine AnyK.take (i := 8) (v := ?vv8) rfl (by kernel_rfl) (by kernel_rfl) (by kernel_rfl) (by kernel_rfl) (by kernel_rfl) (fun _ _ _ h => h) hS0 (Or.inl ⟨by kernel_rfl, ?hyv8⟩) ?restv8
              case hyv8 => rintro wk ⟨s1, s2, s3⟩; go_simp; try with_reducible rfl
              try simp only [Act.put, List.setIfInBounds_toArray, List.set_cons_zero, List.set_cons_succ, List.getElem_toArray, List.getElem_cons_succ, List.getElem_cons_zero]
              refine AnyK.take (i := 9) (v := ?vv9) rfl (by kernel_rfl) (by kernel_rfl) (by kernel_rfl) (by kernel_rfl) (by kernel_rfl) (fun _ _ _ h => h) hS0 (Or.inl ⟨by kernel_rfl, ?hyv9⟩) ?restv9
              case hyv9 => rintro wk ⟨s1, s2, s3⟩; go_simp; try with_reducible rfl
              try simp only [Act.put, List.setIfInBounds_toArray, List.set_cons_zero, List.set_cons_succ, List.getElem_toArray, List.getElem_cons_succ, List.getElem_cons_zero]
              refine AnyK.take (i := 11) (v := ?vv11) rfl (by kernel_rfl) (by kernel_rfl) (by kernel_rfl) (by kernel_rfl) (by kernel_rfl) (fun _ _ _ h => h) hS0 (Or.inl ⟨by kernel_rfl, ?hyv11⟩) ?restv11
              case hyv11 => rintro wk ⟨s1, s2, s3⟩; go_simp; try with_reducible rfl
              try simp only [Act.put, List.setIfInBounds_toArray, List.set_cons_zero, List.set_cons_succ, List.getElem_toArray, List.getElem_cons_succ, List.getElem_cons_zero]
              refine AnyK.take (i := 12) (v := ?vv12) rfl (by kernel_rfl) (by kernel_rfl) (by kernel_rfl) (by kernel_rfl) (by kernel_rfl) (fun _ _ _ h => h) hS0 (Or.inl ⟨by kernel_rfl, ?hyv12⟩) ?restv12
              case hyv12 => rintro wk ⟨s1, s2, s3⟩; go_simp; try with_reducible rfl
              try simp only [Act.put, List.setIfInBounds_toArray, List.set_cons_zero, List.set_cons_succ, List.getElem_toArray, List.getElem_cons_succ, List.getElem_cons_zero]
              refine AnyK.take (i := 13) (v := ?vv13) rfl (by kernel_rfl) (by kernel_rfl) (by kernel_rfl) (by kernel_rfl) (by kernel_rfl) (fun _ _ _ h => h) hS0 (Or.inl ⟨by kernel_rfl, ?hyv13⟩) ?restv13
              case hyv13 => rintro wk ⟨s1, s2, s3⟩; go_simp; try with_reducible rfl
              try simp only [Act.put, List.setIfInBounds_toArray, List.set_cons_zero, List.set_cons_succ, List.getElem_toArray, List.getElem_cons_succ, List.getElem_cons_zero]
              refine AnyK.take (i := 14) (v := ?vv14) rfl (by kernel_rfl) (by kernel_rfl) (by kernel_rfl) (by kernel_rfl) (by kernel_rfl) (fun _ _ _ h => h) hS0 (Or.inl ⟨by kernel_rfl, ?hyv14⟩) ?restv14
              case hyv14 => rintro wk ⟨s1, s2, s3⟩; go_simp; try with_reducible rfl
              try simp only [Act.put, List.setIfInBounds_toArray, List.set_cons_zero, List.set_cons_succ, List.getElem_toArray, List.getElem_cons_succ, List.getElem_cons_zero]
              refine AnyK.take (i := 15) (v := ?vv15) rfl (by kernel_rfl) (by kernel_rfl) (by kernel_rfl) (by kernel_rfl) (by kernel_rfl) (fun _ _ _ h => h) hS0 (Or.inl ⟨by kernel_rfl, ?hyv15⟩) ?restv15
              case hyv15 => rintro wk ⟨s1, s2, s3⟩; go_simp; try with_reducible rfl
              try simp only [Act.put, List.setIfInBounds_toArray, List.set_cons_zero, List.set_cons_succ, List.getElem_toArray, List.getElem_cons_succ, List.getElem_cons_zero]
              refine AnyK.take (i := 16) (v := ?vv16) rfl (by kernel_rfl) (by kernel_rfl) (by kernel_rfl) (by kernel_rfl) (by kernel_rfl) (fun _ _ _ h => h) hS0 (Or.inl ⟨by kernel_rfl, ?hyv16⟩) ?restv16
              case hyv16 => rintro wk ⟨s1, s2, s3⟩; go_simp; try with_reducible rfl
              try simp only [Act.put, List.setIfInBounds_toArray, List.set_cons_zero, List.set_cons_succ, List.getElem_toArray, List.getElem_cons_succ, List.getElem_cons_zero]
              refine AnyK.take (i := 17) (v := ?vv17) rfl (by kernel_rfl) (by kernel_rfl) (by kernel_rfl) (by kernel_rfl) (by kernel_rfl) (fun _ _ _ h => h) hS0 (Or.inl ⟨by kernel_rfl, ?hyv17⟩) ?restv17
              case hyv17 => rintro wk ⟨s1, s2, s3⟩; go_simp; try with_reducible rfl
              try simp only [Act.put, List.setIfInBounds_toArray, List.set_cons_zero, List.set_cons_succ, List.getElem_toArray, List.getElem_cons_succ, List.getElem_cons_zero]
              refine AnyK.one (i := 10) rfl (by kernel_rfl) (by rfl) (fun K hK => ?_)
              go_simp
              refine (r4one_any k.1 _).mono ?_
              rintro r w7 ⟨rfl, hb7⟩
              have hn7 := gb_trans hd1 (gb_below hb7 (some sb))
              have hs7 := HS.out.drew.kept hb7
              have hS7 : w7.cell? ⟨g, c, none⟩ = some (.slice (some ⟨rb, 0, none⟩) n rc) ∧ w7.cell? ⟨rb, c, none⟩ = some (.string y) ∧ w7.cell? ⟨sb, 0, none⟩ = some (.int .i64 k.1) := ⟨hn7.cell s1 (by simp; omega), hn7.cell s2 (by simp; omega), hs7.c0⟩
              refine hK.out _ _ (.inr hS7) ?_
              clear hK K
              try simp only [Act.put, List.setIfInBounds_toArray, List.set_cons_zero, List.set_cons_succ, List.getElem_toArray, List.getElem_cons_succ, List.getElem_cons_zero]
              refine AnyK.one (i := 18) rfl (by kernel_rfl) (by rfl) (fun K hK => ?_)
              go_simp
              refine (rplus7_is (F := F) (Is.one k e3) HXC.out HE3.out (fun f => by rw [CSR.aC]; exact (HF.out f).last c hlt) hs7).mono ?_
              rintro r w8 ⟨u8, e8, rfl, hu8, he8, hm8, hs8, hg8⟩
              have hn8 := gb_trans hn7 hg8
              have hS8 : w8.cell? ⟨g, c, none⟩ = some (.slice (some ⟨rb, 0, none⟩) n rc) ∧ w8.cell? ⟨rb, c, none⟩ = some (.string y) ∧ w8.cell? ⟨sb, 0, none⟩ = some (.int .i64 k.1) := ⟨hn8.cell s1 (by simp; omega), hn8.cell s2 (by simp; omega), hs8.c0⟩
              refine hK.out _ _ (.inr hS8) ?_
              clear hK K
              try simp only [Act.put, List.setIfInBounds_toArray, List.set_cons_zero, List.set_cons_succ, List.getElem_toArray, List.getElem_cons_succ, List.getElem_cons_zero]
              refine AnyK.take (i := 19) (v := ?vv19) rfl (by kernel_rfl) (by kernel_rfl) (by kernel_rfl) (by kernel_rfl) (by kernel_rfl) (fun _ _ _ h => h) hS8 (Or.inl ⟨by kernel_rfl, ?hyv19⟩) ?restv19
              case hyv19 => rintro wk ⟨s1, s2, s3⟩; go_simp; try with_reducible rfl
              try simp only [Act.put, List.setIfInBounds_toArray, List.set_cons_zero, List.set_cons_succ, List.getElem_toArray, List.getElem_cons_succ, List.getElem_cons_zero]
              have g8 := hS8.2.1
              have rf8 : w8.frozen? ⟨rb, c, none⟩ = false := (hn8.frozen_far ⟨rb, c, none⟩ hrl (by simp; omega)).trans rf
              refine AnyK.one (i := 20) rfl (by kernel_rfl) (by rfl) (fun K hK => ?_)
              go_simp
              refine hK.out _ _ (.inl rfl) (AnyK.done (by kernel_rfl) ?_ _)
              clear hK K
              have hom8 := (HOM.out.kept hn8 (by intro j hj; cases hj; exact hsg)).stored hlt hlt HRB.out u8
              have hG8 := (HG.out.more hn8 hww (fun _ e => .inl e)).set (p := ⟨rb, c, none⟩) (.inr (by show _ ≤ rb; omega)) (.string u8)
              have hs8' := hs8.other (p := ⟨rb, c, none⟩) (by show sb ≠ rb; omega) (.string u8)
              clear hS0 hS7 hS8 g8 rf8 s1 s2 s3
              go_wp2_with fail
              go_roundw
              case rel =>
                rw [CSR.aC] at hu8
                exact ⟨c + 1, e8, _, by omega, by go_num, hom8, HDG.out.next hm8 hu8, he8, fun h => HM3.out (hm8 h), hs8', hG8⟩
              case measure => simp [intOf]; omega
            · have hcn2 : c = n := by omega
              have hgt3 : ¬ ((c : Int) < (n : Int)) := by omega
              have hdd := HDG.out
              rw [hcn2] at hdd
              have HDD := Lib.hid hdd; clear hdd hcn2
              go_wp2_with fail
              go_ret
              exact ⟨_, e3, Z, rfl, HOM.out.mt (by unfold maxLen; omega) (by intro j hj; cases hj; exact .inl hsg), HDD.out.done, HE3.out, fun h => HM.out (HM3.out h), HS.out, Gr.gb HG.out⟩
end Go.Proofs.YtlmfppjphblemaaGreatDoor

namespace Go.Proofs.YtlmfppjphblemaaGreatDoor
open Go Go.RowKit Go.Deep
set_option maxRecDepth 100000
set_option linter.unusedSimpArgs false

end Go.Proofs.YtlmfppjphblemaaGreatDoor
