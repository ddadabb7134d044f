/- The walks of abugidalaw07's ready and ClosureWalks. -/
import Derived.Test.YtlmfppjphblemaaGreatDoorLawA
namespace Go.Proofs.YtlmfppjphblemaaGreatDoor
open Go Go.RowKit Go.Deep
set_option maxRecDepth 100000
set_option linter.unusedSimpArgs false

theorem Is.valid {k : KK} {s : ByteArray} {x : RK k} (h : Is k 0 s x) : validF k.1 s = true := by unfold validF; rw [h.vprs]; rfl
theorem kk_kind (k : KK) : kindB k.1 = true := by unfold kindB; have := k.2; simp; omega
theorem ready_any {k0 : Int} {n : Nat} {L : Nat → Nat} {X : Nat → Nat → ByteArray} {v : Value} (w : World) (hA : Mt none w v n L X) (hz : ∀ i j, (X i j).size ≤ maxLen) :
    Calls Tryz.prog 28 #[.int .i64 k0, v] w (TestE (n ≤ 9 ∧ kindB k0 = true ∧ Sq k0 n L X) w) := by
  have hm := matrix_any (k0 := k0) w hA hz _ Iff.rfl
  obtain ⟨a, cap, rfl⟩ := hA.shape
  clear hA hz
  have HM := Lib.hid hm; clear hm
  by_cases hn : n ≤ 9
  · have hnz : decide ((n : Int) ≤ 9) = true := by simp; omega
    go_enter Tryz.func28, Tryz.ntmps28
    go_wp2_with fail
    refine HM.out.mono ?_
    rintro r w1 ⟨b, rfl, hb, hb1⟩
    have HB := Lib.hid hb; clear hb
    have HB1 := Lib.hid hb1; clear hb1
    go_wp2_with fail
    go_ret
    exact ⟨b, rfl, ⟨fun h => ⟨hn, HB.out.1 h⟩, fun h => HB.out.2 h.2⟩, HB1.out⟩
  · have hnz : decide ((n : Int) ≤ 9) = false := by simp; omega
    go_enter Tryz.func28, Tryz.ntmps28
    go_wp2_with fail
    go_ret
    exact ⟨false, rfl, ⟨fun h => (by cases h), fun h => absurd h.1 hn⟩, Below.refl _ _⟩

/-- Star of a matrix of up to 60 rows: the stars, or that a number is too long. -/
theorem StarE.good {k0 : Int} {n : Nat} {L : Nat → Nat} {X : Nat → Nat → ByteArray} {w w' : World} {r : Ending} (h : StarE k0 n L X w r w') (hn : n ≤ 60) (hk : kindB k0 = true) (hs : Sq k0 n L X) :
    Below w.heap.size w w' ∧ ∃ k : KK, k.1 = k0 ∧ MatIs 0 n X (fun i j => wval k (X i j)) ∧ ((∃ v Y, r = .returned (.tuple #[v, .int .i64 0]) ∧ Mt none w' v n (fun _ => n) Y ∧ MatIs 0 n Y (CSR.starM (fun i j => wval k (X i j)) n) ∧ Sq k0 n (fun _ => n) Y ∧ ∀ i j, (Y i j).size ≤ maxLen) ∨
      r = .returned (.tuple #[.slice none 0 0, .int .i64 2])) := by
  refine ⟨h.1, ?_⟩
  rcases h.2 with ⟨h1, _⟩ | ⟨h1, _⟩ | ⟨_, k, M, hk0, _, rfl, hM, h2⟩
  · exact absurd ⟨hk, hs⟩ h1
  · omega
  · refine ⟨k, hk0, hM, ?_⟩
    rcases h2 with ⟨v, Y, hr, hm, hy⟩ | ⟨hr, _⟩
    · left
      refine ⟨v, fun i j => if i < n ∧ j < n then Y i j else ⟨#[]⟩, hr, hm.congr (fun _ _ => rfl) (fun i j hi hj => by rw [if_pos ⟨hi, hj⟩]), fun i j hi hj => ?_, fun i hi => ⟨rfl, fun j hj => ?_⟩, fun i j => ?_⟩
      · simp only [hi, hj, and_self, if_true]; exact hy i j hi hj
      · simp only [hi, hj, and_self, if_true]; rw [← hk0]; exact (hy i j hi hj).valid
      · simp only; split
        · rename_i hij
          have := (hy i j hij.1 hij.2).1; unfold maxLen; omega
        · exact Nat.zero_le _
    · exact .inr hr
theorem below_more {B : Nat} {w w1 w2 : World} {sb : Nat} (h : Below B w w1) (hg : w1.grownBy w2 (some sb)) (hB : B ≤ sb ∧ B ≤ w.heap.size) : Below B w w2 :=
  h.trans ⟨hg.os, hg.tape, hg.output, hg.size, fun q hq => hg.block q (by have := h.size; omega) (by simp; omega)⟩
theorem CSR_better {k : KK} {a b : RK k} (h : CSR.le a b) : 0 ≤ betterV k.1 a.1 b.1 := RK.better_of_le h
theorem SumL.new (w : World) (k : Int) : SumL (w.alloc (.cells #[.int .i64 k, .bool false] 45)) w.heap.size k 0 := heap_alloc_new w _

set_option maxHeartbeats 8000000 in
theorem closureWalks_any {k0 : Int} {n m : Nat} {L : Nat → Nat} {X : Nat → Nat → ByteArray} {wk : Nat → Int} {v u : Value} (w : World) (hA : Mt none w v n L X) (hz : ∀ i j, (X i j).size ≤ maxLen) (hu : Rd none w u m fun i => .int .i64 (wk i)) (ht : Tab w) :
    Calls Tryz.prog 10 #[.int .i64 k0, v, u] w (TrueE w) := by
  have hrd := ready_any (k0 := k0) w hA hz
  have HT := Lib.hid ht; clear ht
  have HZ := Lib.hid hz; clear hz
  have HMT := Lib.hid hA
  obtain ⟨a, cap, b, off, A, C, BB, O, rfl, ha, hc, hm, hb, hrow⟩ := hA.open
  clear hA
  obtain ⟨a2, cap2, b2, off2, rfl, ha2, hc2, hm2, hb2, hcell2⟩ := Rd.open hu
  unfold maxLen at hm hm2
  clear hu
  have HRD := Lib.hid hrd; clear hrd
  have HA := Lib.hid ha; clear ha
  have HB := Lib.hid hb; clear hb
  have HR := Lib.hid hrow; clear hrow
  have HA2 := Lib.hid ha2; clear ha2
  have HB2 := Lib.hid hb2; clear hb2
  have HC2 := Lib.hid hcell2; clear hcell2
  go_enter Tryz.func10, Tryz.ntmps10
  go_wp2_with fail
  refine HRD.out.mono ?_
  rintro r w1 ⟨bb, rfl, hbb, hb1⟩
  have HB1 := Lib.hid hb1; clear hb1
  have HBB := Lib.hid hbb; clear hbb
  have hex := example_any w1 (HT.out.below HB1.out (Nat.le_refl _))
  have HEX := Lib.hid hex; clear hex
  cases bb
  · go_wp2_with fail
    refine HEX.out.mono ?_
    rintro r w2 ⟨rfl, hb2⟩
    have HB2 := Lib.hid (HB1.out.trans (hb2.mono HB1.out.size)); clear hb2
    go_wp2_with fail
    go_ret
    exact ⟨rfl, HB2.out⟩
  · obtain ⟨hn9, hkd, hsq⟩ := HBB.out.1 rfl
    by_cases hm0 : 0 < m ∧ m ≤ 12
    · obtain ⟨hm0, hm12⟩ := hm0
      have hz1 : ((m : Int) == 0) = false := by simp; omega
      have hz2 : decide ((12 : Int) < (m : Int)) = false := by simp; omega
      have hst := star_any (k0 := k0) w1 (by omega) (HMT.out.kept (gb_below HB1.out none)) HZ.out (HT.out.below HB1.out (Nat.le_refl _))
      have HST := Lib.hid hst; clear hst
      have HSQ := Lib.hid hsq; clear hsq
      go_wp2_with fail
      refine HST.out.mono ?_
      intro r w2 hr
      obtain ⟨hb2', k, rfl, hX, hr⟩ := hr.good (by omega) hkd HSQ.out
      have HB2' := Lib.hid (HB1.out.trans (hb2'.mono HB1.out.size)); clear hb2' HEX
      have HX := Lib.hid hX; clear hX
      have hex := example_any w2 (HT.out.below HB2'.out (Nat.le_refl _))
      have HEX := Lib.hid hex; clear hex
      rcases hr with ⟨v3, Y, rfl, hY, hYs, hYq, hYz⟩ | rfl
      · have hmx := matrix_any (k0 := k.1) w2 hY hYz True (by simp only [true_iff]; exact ⟨hkd, hYq⟩)
        have HY := Lib.hid hY
        obtain ⟨a3, cap3, b3, off3, A3, C3, BB3, O3, rfl, ha3, hc3, hm3, hb3, hrow3⟩ := hY.open
        clear hY hYz hYq
        unfold maxLen at hm3
        have HMX := Lib.hid hmx; clear hmx
        have HA3 := Lib.hid ha3; clear ha3
        have HB3 := Lib.hid hb3; clear hb3
        have HR3 := Lib.hid hrow3; clear hrow3
        have HYS := Lib.hid hYs; clear hYs
        have hnn : ((n : Int) == (n : Int)) = true := by simp
        go_wp2_with fail
        refine HMX.out.mono ?_
        rintro r w3 ⟨bb, rfl, hbb, hb3'⟩
        obtain rfl : bb = true := hbb.2 trivial
        clear hbb hnn
        have HB3' := Lib.hid (HB2'.out.trans (hb3'.mono HB2'.out.size))
        have HB23 := Lib.hid hb3'; clear hb3'
        go_wp2_with fail
        have hnew := SumL.new w3 k.1
        have hbn : Below w3.heap.size w3 (w3.alloc (.cells #[.int .i64 k.1, .bool false] 45)) := (Below.refl _ _).alloc (Nat.le_refl _) _
        refine (semione_any k.1 _).mono ?_
        rintro r w4 ⟨rfl, hb4⟩
        have hs4 := hnew.kept hb4
        have hb34 := hbn.trans (hb4.mono hbn.size)
        clear hnew hbn hb4
        obtain ⟨sb, hsb⟩ : ∃ sb, sb = w3.heap.size := ⟨_, rfl⟩
        rw [← hsb] at hs4
        rw [← hsb]
        have HS4 := Lib.hid hs4; clear hs4
        have HB34 := Lib.hid hb34; clear hb34
        have HSB := Lib.hid hsb; clear hsb
        go_wp2_with fail
        go_loopw [10, 11] (fun uv i wr => ∃ (q e : Nat) (us : ByteArray) (x : RK k), q ≤ m ∧ uv = .string us ∧ i = .int .i64 (q : Int) ∧ (∀ j, j < q → ∃ t : Nat, wk j = (t : Int) ∧ t < n) ∧ Is k e us x ∧ (q = 0 → x = CSR.one) ∧
            (0 < q → CSR.le x (CSR.starM (fun i j => wval k (X i j)) n (wk 0).toNat (wk (q - 1)).toNat)) ∧ Er False e ∧ SumL wr sb k.1 e ∧ Below w3.heap.size w3 wr) (fun _ i _ => m - (intOf i).toNat)
        case atStart => exact ⟨0, 0, _, _, Nat.zero_le _, rfl, rfl, fun j hj => by omega, Is.one k 0, fun _ => rfl, fun h => by omega, ⟨.inl rfl, fun _ => rfl⟩, HS4.out, HB34.out⟩
        case round =>
          obtain ⟨q, e, us, x, hq, rfl, rfl, hin, hx, hx0, hxl, hE, hS, hB⟩ := hrel
          clear HS4 HB34
          have HIN := Lib.hid hin; clear hin
          have HXX := Lib.hid hx; clear hx
          have HX0 := Lib.hid hx0; clear hx0
          have HXL := Lib.hid hxl; clear hxl
          have HE := Lib.hid hE; clear hE
          have HS := Lib.hid hS; clear hS
          have HBW := Lib.hid hB; clear hB
          have hgA : w.grownBy wr none := gb_below (HB3'.out.trans (HBW.out.mono HB3'.out.size)) none
          have HGA := Lib.hid hgA; clear hgA
          by_cases hlt : q < m
          · have hqz : (q : Int) < (m : Int) := by omega
            have hqz0 : (0 : Int) ≤ (q : Int) := by omega
            obtain rfl := HA2.out (by omega)
            obtain ⟨z, hz⟩ : ∃ z, z = wk q := ⟨_, rfl⟩
            have c0 := HGA.out.cell (a := ⟨b2, off2 + q, none⟩) (HC2.out q hlt) (by simp)
            rw [← hz] at c0
            by_cases hzt : ∃ t : Nat, z = (t : Int) ∧ t < n
            · obtain ⟨t, rfl, htn⟩ := hzt
              have ht0 : decide ((t : Int) < 0) = false := by simp
              have ht1 : decide ((n : Int) ≤ (t : Int)) = false := by simp; omega
              have HZQ := Lib.hid hz; clear hz
              by_cases hq0 : q = 0
              · subst hq0
                rw [Nat.add_zero] at c0
                clear hqz0
                go_wp2_with fail
                go_roundw
                case rel =>
                  refine ⟨1, e, us, x, by omega, rfl, rfl, fun j hj => ⟨t, ?_, htn⟩, HXX.out, fun h => by omega, fun _ => ?_, HE.out, HS.out, HBW.out⟩
                  · obtain rfl : j = 0 := by omega
                    exact HZQ.out.symm
                  · rw [HX0.out rfl, ← HZQ.out]; exact CSR.starM_one_le _ htn
                case measure => show m - 1 < m - 0; omega
              · have hq1 : 0 < q := by omega
                obtain ⟨p, hp⟩ : ∃ p, p = q - 1 := ⟨_, rfl⟩
                obtain ⟨s, hs, hsn⟩ := HIN.out p (by omega)
                have hpw : IntKind.i64.wrap ((q : Int) - 1) = (p : Int) := by rw [IntKind.wrap_i64]; omega
                have hpz : (p : Int) < (m : Int) := by omega
                have hsz : (s : Int) < (n : Int) := by omega
                have htz : (t : Int) < (n : Int) := by omega
                obtain rfl := HA.out (by omega)
                obtain ⟨r1, _, _, r4, r5, _, r7⟩ := HR.out s hsn
                have hLs := (HSQ.out s hsn).1
                rw [hLs] at r1 r4 r5 r7
                have r4' := r4 (by omega)
                rw [r4'] at r1
                have c1 := HGA.out.cell (a := ⟨b2, off2 + p, none⟩) (HC2.out p (by omega)) (by simp)
                rw [hs] at c1
                have c2 := HGA.out.cell (a := ⟨b, off + s, none⟩) r1 (by simp)
                have c3 := HGA.out.cell (a := ⟨BB s, O s + t, none⟩) (r7 t htn) (by simp)
                obtain ⟨y, hy⟩ : ∃ y, y = X s t := ⟨_, rfl⟩
                rw [← hy] at c3
                have hsbn : ∀ bk, bk < w.heap.size → some bk ≠ some sb := fun bk hbk => by
                  have := HSB.out; have := HB3'.out.size; simp; omega
                have n0 := hsbn _ (HB2.out hm0).1
                have n2 := hsbn _ (HB.out (by omega)).1
                have n3 := hsbn _ (r5 (by omega)).1
                have HK := Lib.hid (fun wk' (hg : wr.grownBy wk' (some sb)) => (⟨hg.cell c0 n0, hg.cell c1 n0, hg.cell c2 n2, hg.cell c3 n3⟩ :
                  wk'.cell? ⟨b2, off2 + q, none⟩ = some (.int .i64 (t : Int)) ∧ wk'.cell? ⟨b2, off2 + p, none⟩ = some (.int .i64 (s : Int)) ∧ wk'.cell? ⟨b, off + s, none⟩ = some (.slice (some ⟨BB s, O s, none⟩) n (C s)) ∧ wk'.cell? ⟨BB s, O s + t, none⟩ = some (.string y)))
                have hyv : Is k e y (wval k (X s t)) := by rw [hy]; exact (HX.out s t hsn htn).mono (fun _ => rfl)
                have hti := ltimes_is HXX.out hyv HE.out (fun h => h.elim) (HT.out.below (Below.drew (HB3'.out.trans (HBW.out.mono HB3'.out.size))) (Nat.le_refl _)) HS.out.drew
                have HTI := Lib.hid hti; clear hti hyv
                have HSS := Lib.hid hs; clear hs
                have HPQ := Lib.hid hp; clear hp
                have HY := Lib.hid hy; clear hy
                clear r1 r4 r4' r5 r7 hsbn hLs n0 n2 n3
                have hd1 := drew_gb wr (some sb)
                go_wp2_with fail
                go_region_held2 (fun wk' => wk'.cell? ⟨b2, off2 + q, none⟩ = some (.int .i64 (t : Int)) ∧ wk'.cell? ⟨b2, off2 + p, none⟩ = some (.int .i64 (s : Int)) ∧ wk'.cell? ⟨b, off + s, none⟩ = some (.slice (some ⟨BB s, O s, none⟩) n (C s)) ∧ wk'.cell? ⟨BB s, O s + t, none⟩ = some (.string y))
                  (first | exact HK.out _ (by assumption))
                  (first
                  | (go_at_call 36; refine HTI.out.mono ?_; rintro r w5 ⟨u5, e5, rfl, hu5, he5, hm5, hs5, hg5⟩; have hn5 := gb_trans hd1 hg5))
                rename_i hH
                clear hH
                go_wp2_with fail
                go_roundw
                case rel =>
                  refine ⟨q + 1, e5, u5, _, by omega, rfl, by go_num, fun j hj => ?_, hu5, fun h => by omega, fun _ => ?_, he5, hs5, ?_⟩
                  · rcases Nat.lt_succ_iff_lt_or_eq.1 hj with h2 | h2
                    · exact HIN.out j h2
                    · subst h2; exact ⟨t, HZQ.out.symm, htn⟩
                  · have h1 := HXL.out hq1
                    rw [← HPQ.out, HSS.out] at h1
                    rw [Nat.add_sub_cancel, ← HZQ.out]
                    obtain ⟨t0, ht0', ht0n⟩ := HIN.out 0 hq1
                    rw [ht0'] at h1 ⊢
                    exact CSR.starM_step_le (M := fun i j => wval k (X i j)) (k := t) (by simpa using ht0n) (by simpa using hsn) h1
                  · exact below_more HBW.out hn5 (by rw [HSB.out]; exact ⟨Nat.le_refl _, Nat.le_refl _⟩)
                case measure => simp [intOf]; omega
            · have hzz : z < 0 ∨ (¬ z < 0 ∧ (n : Int) ≤ z) := by
                by_cases h : z < 0
                · exact .inl h
                · refine .inr ⟨h, ?_⟩
                  rcases Int.lt_or_le z (n : Int) with h2 | h2
                  · exact absurd ⟨z.toNat, by omega, by omega⟩ hzt
                  · exact h2
              have HZT := Lib.hid hzt; clear hzt
              have HZQ := Lib.hid hz; clear hz
              have hex := example_any wr (HT.out.below (HB3'.out.trans (HBW.out.mono HB3'.out.size)) (Nat.le_refl _))
              have HEX := Lib.hid hex; clear hex
              rcases hzz with h1 | ⟨h1, h2⟩
              · go_wp2_with fail
                refine HEX.out.mono ?_
                rintro r w5 ⟨rfl, hb5⟩
                have hfin := (HB3'.out.trans (HBW.out.mono HB3'.out.size)).trans (hb5.mono (HB3'.out.trans (HBW.out.mono HB3'.out.size)).size)
                have HF := Lib.hid hfin; clear hfin hb5
                go_wp2_with fail
                go_ret
                exact ⟨rfl, HF.out⟩
              · go_wp2_with fail
                refine HEX.out.mono ?_
                rintro r w5 ⟨rfl, hb5⟩
                have hfin := (HB3'.out.trans (HBW.out.mono HB3'.out.size)).trans (hb5.mono (HB3'.out.trans (HBW.out.mono HB3'.out.size)).size)
                have HF := Lib.hid hfin; clear hfin hb5
                go_wp2_with fail
                go_ret
                exact ⟨rfl, HF.out⟩
          · have hqn : q = m := by omega
            subst hqn
            have hgt : ¬ ((q : Int) < (q : Int)) := by omega
            have hex : ∀ wk', Below wr.heap.size wr wk' → Calls Tryz.prog 11 #[] wk' (TrueE wk') := fun wk' hb => example_any wk' (HT.out.below ((HB3'.out.trans (HBW.out.mono HB3'.out.size)).trans (hb.mono (HB3'.out.trans (HBW.out.mono HB3'.out.size)).size)) (Nat.le_refl _))
            have HEX := Lib.hid hex; clear hex
            have hd1 := (Below.refl wr.heap.size wr).drew
            by_cases he0 : e = 0
            · subst he0
              have c1 := HS.out.c1 (b := false) (by simp)
              have hq1 : 0 < q := hm0
              obtain ⟨p, hp⟩ : ∃ p, p = q - 1 := ⟨_, rfl⟩
              obtain ⟨s, hs, hsn⟩ := HIN.out 0 hq1
              obtain ⟨t, ht, htn⟩ := HIN.out p (by omega)
              have hpw : IntKind.i64.wrap ((q : Int) - 1) = (p : Int) := by rw [IntKind.wrap_i64]; omega
              have hpz : (p : Int) < (q : Int) := by omega
              have hpz0 : (0 : Int) ≤ (p : Int) := by omega
              have hqz1 : (0 : Int) < (q : Int) := by omega
              have hsz : (s : Int) < (n : Int) := by omega
              have htz : (t : Int) < (n : Int) := by omega
              obtain rfl := HA2.out hq1
              obtain rfl := HA3.out (by omega)
              obtain ⟨r1, _, _, r4, r5, _, r7⟩ := HR3.out s hsn
              have r4' := r4 (by omega)
              rw [r4'] at r1
              have d0 := HGA.out.cell (a := ⟨b2, off2 + 0, none⟩) (HC2.out 0 hq1) (by simp)
              rw [hs, Nat.add_zero] at d0
              have d1 := HGA.out.cell (a := ⟨b2, off2 + p, none⟩) (HC2.out p (by omega)) (by simp)
              rw [ht] at d1
              have hg2 : w2.grownBy wr none := gb_below (HB23.out.trans (HBW.out.mono HB23.out.size)) none
              have d2 := hg2.cell (a := ⟨b3, off3 + s, none⟩) r1 (by simp)
              have d3 := hg2.cell (a := ⟨BB3 s, O3 s + t, none⟩) (r7 t htn) (by simp)
              have hyv := HYS.out s t hsn htn
              obtain ⟨y, hy⟩ : ∃ y, y = Y s t := ⟨_, rfl⟩
              rw [← hy] at d3 hyv
              have hle := HXL.out hq1
              rw [← hp, hs, ht] at hle
              simp only [Int.toNat_natCast] at hle
              have hbt := CSR_better hle
              rw [← betterF_eq HXX.out.vprs hyv.vprs] at hbt
              have hcb := semibetter_any k.1 us y wr.drew (by have := HXX.out.1; omega) (by have := hyv.1; omega) (HT.out.below (Below.drew (HB3'.out.trans (HBW.out.mono HB3'.out.size))) (Nat.le_refl _))
              obtain ⟨bt, hbe⟩ : ∃ bt, bt = betterF k.1 us y := ⟨_, rfl⟩
              rw [← hbe] at hcb hbt
              have HCB := Lib.hid hcb; clear hcb
              have HK := Lib.hid (fun wk' (hg : Below wr.heap.size wr wk') => (⟨(gb_below hg none).cell c1 (by simp), (gb_below hg none).cell d0 (by simp), (gb_below hg none).cell d1 (by simp), (gb_below hg none).cell d2 (by simp), (gb_below hg none).cell d3 (by simp)⟩ :
                wk'.cell? ⟨sb, 1, none⟩ = some (.bool false) ∧ wk'.cell? ⟨b2, off2, none⟩ = some (.int .i64 (s : Int)) ∧ wk'.cell? ⟨b2, off2 + p, none⟩ = some (.int .i64 (t : Int)) ∧ wk'.cell? ⟨b3, off3 + s, none⟩ = some (.slice (some ⟨BB3 s, O3 s, none⟩) n (C3 s)) ∧ wk'.cell? ⟨BB3 s, O3 s + t, none⟩ = some (.string y)))
              clear r1 r4 r4' r5 r7 hg2 hle hyv hbe hy hs ht hp
              go_wp2_with fail
              go_region_held2 (fun wk' => wk'.cell? ⟨sb, 1, none⟩ = some (.bool false) ∧ wk'.cell? ⟨b2, off2, none⟩ = some (.int .i64 (s : Int)) ∧ wk'.cell? ⟨b2, off2 + p, none⟩ = some (.int .i64 (t : Int)) ∧ wk'.cell? ⟨b3, off3 + s, none⟩ = some (.slice (some ⟨BB3 s, O3 s, none⟩) n (C3 s)) ∧ wk'.cell? ⟨BB3 s, O3 s + t, none⟩ = some (.string y))
                (first | exact HK.out _ (by assumption))
                (first
                | (go_at_call 38; refine HCB.out.mono ?_; rintro r w5 ⟨rfl, hb5⟩; have hn5 := hd1.trans hb5)
                | (go_at_call 11; refine (HEX.out _ hn5).mono ?_; rintro r w6 ⟨rfl, hb6⟩; have hn6 := hn5.trans (hb6.mono hn5.size)))
              rename_i hH
              clear hH
              have hfin := (HB3'.out.trans (HBW.out.mono HB3'.out.size)).trans (hn6.mono (HB3'.out.trans (HBW.out.mono HB3'.out.size)).size)
              have HF := Lib.hid hfin; clear hfin
              go_wp2_with fail
              go_ret
              exact ⟨rfl, HF.out⟩
            · have c1 := HS.out.c1 (b := true) (by simp; exact he0)
              have HE0 := Lib.hid he0; clear he0
              have c1d : wr.drew.cell? ⟨sb, 1, none⟩ = some (.bool true) := c1
              go_wp2_with fail
              refine wp_region_held (S := fun wk' => wk'.cell? ⟨sb, 1, none⟩ = some (.bool true)) (by kernel_rfl) ?_
              refine wpAnyH_take (i := 0) (v := ?vbb0) rfl (by kernel_rfl) (by kernel_rfl) (by kernel_rfl) (fun _ _ _ h => h) (Or.inl ⟨by kernel_rfl, ?hybb0⟩) c1d ?restbb0
              case hybb0 => rintro wk s1; go_simp; try with_reducible rfl
              try simp only [Act.put, List.setIfInBounds_toArray, List.set_cons_zero, List.set_cons_succ]
              refine wpAnyH_take (i := 1) (v := ?vbb1) rfl (by kernel_rfl) (by kernel_rfl) (by kernel_rfl) (fun _ _ _ h => h) (Or.inl ⟨by kernel_rfl, ?hybb1⟩) c1d ?restbb1
              case hybb1 => rintro wk s1; go_simp; try with_reducible rfl
              try simp only [Act.put, List.setIfInBounds_toArray, List.set_cons_zero, List.set_cons_succ]
              refine wpAnyH_take (i := 2) (v := ?vbb2) rfl (by kernel_rfl) (by kernel_rfl) (by kernel_rfl) (fun _ _ _ h => h) (Or.inl ⟨by kernel_rfl, ?hybb2⟩) c1d ?restbb2
              case hybb2 => rintro wk s1; go_simp; try with_reducible rfl
              try simp only [Act.put, List.setIfInBounds_toArray, List.set_cons_zero, List.set_cons_succ]
              refine wpAnyH_take (i := 3) (v := ?vbb3) rfl (by kernel_rfl) (by kernel_rfl) (by kernel_rfl) (fun _ _ _ h => h) (Or.inl ⟨by kernel_rfl, ?hybb3⟩) c1d ?restbb3
              case hybb3 => rintro wk s1; go_simp; try with_reducible rfl
              try simp only [Act.put, List.setIfInBounds_toArray, List.set_cons_zero, List.set_cons_succ]
              refine wpAnyH_take (i := 4) (v := ?vbb4) rfl (by kernel_rfl) (by kernel_rfl) (by kernel_rfl) (fun _ _ _ h => h) (Or.inl ⟨by kernel_rfl, ?hybb4⟩) c1d ?restbb4
              case hybb4 => rintro wk s1; go_simp; try with_reducible rfl
              try simp only [Act.put, List.setIfInBounds_toArray, List.set_cons_zero, List.set_cons_succ]
              refine wpAnyH_take (i := 5) (v := undef) rfl (by kernel_rfl) (by kernel_rfl) (by kernel_rfl) (fun _ _ _ h => h) (Or.inr ⟨by kernel_rfl, rfl⟩) c1d ?_
              try simp only [Act.put, List.setIfInBounds_toArray, List.set_cons_zero, List.set_cons_succ]
              refine wpAnyH_take (i := 6) (v := undef) rfl (by kernel_rfl) (by kernel_rfl) (by kernel_rfl) (fun _ _ _ h => h) (Or.inr ⟨by kernel_rfl, rfl⟩) c1d ?_
              try simp only [Act.put, List.setIfInBounds_toArray, List.set_cons_zero, List.set_cons_succ]
              refine wpAnyH_take (i := 7) (v := undef) rfl (by kernel_rfl) (by kernel_rfl) (by kernel_rfl) (fun _ _ _ h => h) (Or.inr ⟨by kernel_rfl, rfl⟩) c1d ?_
              try simp only [Act.put, List.setIfInBounds_toArray, List.set_cons_zero, List.set_cons_succ]
              refine wpAnyH_take (i := 8) (v := undef) rfl (by kernel_rfl) (by kernel_rfl) (by kernel_rfl) (fun _ _ _ h => h) (Or.inr ⟨by kernel_rfl, rfl⟩) c1d ?_
              try simp only [Act.put, List.setIfInBounds_toArray, List.set_cons_zero, List.set_cons_succ]
              refine wpAnyH_take (i := 9) (v := undef) rfl (by kernel_rfl) (by kernel_rfl) (by kernel_rfl) (fun _ _ _ h => h) (Or.inr ⟨by kernel_rfl, rfl⟩) c1d ?_
              try simp only [Act.put, List.setIfInBounds_toArray, List.set_cons_zero, List.set_cons_succ]
              refine wpAnyH_take (i := 10) (v := undef) rfl (by kernel_rfl) (by kernel_rfl) (by kernel_rfl) (fun _ _ _ h => h) (Or.inr ⟨by kernel_rfl, rfl⟩) c1d ?_
              try simp only [Act.put, List.setIfInBounds_toArray, List.set_cons_zero, List.set_cons_succ]
              refine wpAnyH_take (i := 11) (v := undef) rfl (by kernel_rfl) (by kernel_rfl) (by kernel_rfl) (fun _ _ _ h => h) (Or.inr ⟨by kernel_rfl, rfl⟩) c1d ?_
              try simp only [Act.put, List.setIfInBounds_toArray, List.set_cons_zero, List.set_cons_succ]
              refine wpAnyH_take (i := 12) (v := undef) rfl (by kernel_rfl) (by kernel_rfl) (by kernel_rfl) (fun _ _ _ h => h) (Or.inr ⟨by kernel_rfl, rfl⟩) c1d ?_
              try simp only [Act.put, List.setIfInBounds_toArray, List.set_cons_zero, List.set_cons_succ]
              refine wpAnyH_take (i := 13) (v := undef) rfl (by kernel_rfl) (by kernel_rfl) (by kernel_rfl) (fun _ _ _ h => h) (Or.inr ⟨by kernel_rfl, rfl⟩) c1d ?_
              try simp only [Act.put, List.setIfInBounds_toArray, List.set_cons_zero, List.set_cons_succ]
              refine wpAnyH_take (i := 14) (v := undef) rfl (by kernel_rfl) (by kernel_rfl) (by kernel_rfl) (fun _ _ _ h => h) (Or.inr ⟨by kernel_rfl, rfl⟩) c1d ?_
              try simp only [Act.put, List.setIfInBounds_toArray, List.set_cons_zero, List.set_cons_succ]
              refine wpAnyH_take (i := 15) (v := undef) rfl (by kernel_rfl) (by kernel_rfl) (by kernel_rfl) (fun _ _ _ h => h) (Or.inr ⟨by kernel_rfl, rfl⟩) c1d ?_
              try simp only [Act.put, List.setIfInBounds_toArray, List.set_cons_zero, List.set_cons_succ]
              refine wpAnyH_take (i := 16) (v := undef) rfl (by kernel_rfl) (by kernel_rfl) (by kernel_rfl) (fun _ _ _ h => h) (Or.inr ⟨by kernel_rfl, rfl⟩) c1d ?_
              try simp only [Act.put, List.setIfInBounds_toArray, List.set_cons_zero, List.set_cons_succ]
              refine wpAnyH_take (i := 17) (v := undef) rfl (by kernel_rfl) (by kernel_rfl) (by kernel_rfl) (fun _ _ _ h => h) (Or.inr ⟨by kernel_rfl, rfl⟩) c1d ?_
              try simp only [Act.put, List.setIfInBounds_toArray, List.set_cons_zero, List.set_cons_succ]
              refine wpAnyH_take (i := 18) (v := undef) rfl (by kernel_rfl) (by kernel_rfl) (by kernel_rfl) (fun _ _ _ h => h) (Or.inr ⟨by kernel_rfl, rfl⟩) c1d ?_
              try simp only [Act.put, List.setIfInBounds_toArray, List.set_cons_zero, List.set_cons_succ]
              refine wpAnyH_take (i := 19) (v := undef) rfl (by kernel_rfl) (by kernel_rfl) (by kernel_rfl) (fun _ _ _ h => h) (Or.inr ⟨by kernel_rfl, rfl⟩) c1d ?_
              try simp only [Act.put, List.setIfInBounds_toArray, List.set_cons_zero, List.set_cons_succ]
              refine wpAnyH_take (i := 20) (v := undef) rfl (by kernel_rfl) (by kernel_rfl) (by kernel_rfl) (fun _ _ _ h => h) (Or.inr ⟨by kernel_rfl, rfl⟩) c1d ?_
              try simp only [Act.put, List.setIfInBounds_toArray, List.set_cons_zero, List.set_cons_succ]
              refine wpAnyH_take (i := 21) (v := undef) rfl (by kernel_rfl) (by kernel_rfl) (by kernel_rfl) (fun _ _ _ h => h) (Or.inr ⟨by kernel_rfl, rfl⟩) c1d ?_
              try simp only [Act.put, List.setIfInBounds_toArray, List.set_cons_zero, List.set_cons_succ]
              refine wpAnyH_take (i := 22) (v := undef) rfl (by kernel_rfl) (by kernel_rfl) (by kernel_rfl) (fun _ _ _ h => h) (Or.inr ⟨by kernel_rfl, rfl⟩) c1d ?_
              try simp only [Act.put, List.setIfInBounds_toArray, List.set_cons_zero, List.set_cons_succ]
              refine wpAnyH_take (i := 23) (v := ?vbb23) rfl (by kernel_rfl) (by kernel_rfl) (by kernel_rfl) (fun _ _ _ h => h) (Or.inl ⟨by kernel_rfl, ?hybb23⟩) c1d ?restbb23
              case hybb23 => rintro wk s1; go_simp; try with_reducible rfl
              try simp only [Act.put, List.setIfInBounds_toArray, List.set_cons_zero, List.set_cons_succ]
              refine wpAnyH_take (i := 24) (v := ?vbb24) rfl (by kernel_rfl) (by kernel_rfl) (by kernel_rfl) (fun _ _ _ h => h) (Or.inl ⟨by kernel_rfl, ?hybb24⟩) c1d ?restbb24
              case hybb24 => rintro wk s1; go_simp; try with_reducible rfl
              try simp only [Act.put, List.setIfInBounds_toArray, List.set_cons_zero, List.set_cons_succ]
              refine wpAnyH_ready (rs := [25]) (by kernel_rfl) (by simp) (AllReadyH.cons rfl (fun K hK => ?_) AllReadyH.nil)
              rw [if_pos (by kernel_rfl)]
              go_simp
              refine (HEX.out _ hd1).mono ?_
              rintro r w5 ⟨rfl, hb5⟩
              have hn5 := hd1.trans hb5
              have c1e : w5.cell? ⟨sb, 1, none⟩ = some (.bool true) := (gb_below hn5 none).cell c1 (by simp)
              refine hK.out _ _ c1e (fun _ => ?_)
              clear hK K
              try simp only [Act.put, List.setIfInBounds_toArray, List.set_cons_zero, List.set_cons_succ]
              refine wpAnyH_take (i := 26) (v := ?vbb26) rfl (by kernel_rfl) (by kernel_rfl) (by kernel_rfl) (fun _ _ _ h => h) (Or.inl ⟨by kernel_rfl, ?hybb26⟩) c1e ?restbb26
              case hybb26 => rintro wk s1; go_simp; try with_reducible rfl
              try simp only [Act.put, List.setIfInBounds_toArray, List.set_cons_zero, List.set_cons_succ]
              refine wpAnyH_ready (rs := [27]) (by kernel_rfl) (by simp) (AllReadyH.cons rfl (fun K hK => ?_) AllReadyH.nil)
              rw [if_pos (by kernel_rfl)]
              go_simp
              refine hK.out _ _ c1e (fun _ => wpAnyH_done (by kernel_rfl) ?_ _)
              clear hK K
              have hfin := (HB3'.out.trans (HBW.out.mono HB3'.out.size)).trans (hn5.mono (HB3'.out.trans (HBW.out.mono HB3'.out.size)).size)
              have HF := Lib.hid hfin; clear hfin
              go_wp2_with fail
              go_ret
              exact ⟨rfl, HF.out⟩
      · go_wp2_with fail
        refine HEX.out.mono ?_
        rintro r w3 ⟨rfl, hb3⟩
        have HB3 := Lib.hid (HB2'.out.trans (hb3.mono HB2'.out.size)); clear hb3
        go_wp2_with fail
        go_ret
        exact ⟨rfl, HB3.out⟩
    · have hgo : ((m : Int) == 0) = true ∨ (((m : Int) == 0) = false ∧ decide ((12 : Int) < (m : Int)) = true) := by
        simp; omega
      rcases hgo with h1 | ⟨h1, h2⟩
      · go_wp2_with fail
        refine HEX.out.mono ?_
        rintro r w2 ⟨rfl, hb2⟩
        have HB2 := Lib.hid (HB1.out.trans (hb2.mono HB1.out.size)); clear hb2
        go_wp2_with fail
        go_ret
        exact ⟨rfl, HB2.out⟩
      · go_wp2_with fail
        refine HEX.out.mono ?_
        rintro r w2 ⟨rfl, hb2⟩
        have HB2 := Lib.hid (HB1.out.trans (hb2.mono HB1.out.size)); clear hb2
        go_wp2_with fail
        go_ret
        exact ⟨rfl, HB2.out⟩
end Go.Proofs.YtlmfppjphblemaaGreatDoor
