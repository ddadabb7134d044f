/- The walk of abugidalaw07.ClosureFixed. -/
import Derived.Test.YtlmfppjphblemaaGreatDoorW1
namespace Go.Proofs.YtlmfppjphblemaaGreatDoor
open Go Go.RowKit Go.Deep
set_option maxRecDepth 100000
set_option linter.unusedSimpArgs false

set_option maxHeartbeats 8000000 in
theorem closureFixed_any {k0 : Int} {n : Nat} {L : Nat → Nat} {X : Nat → Nat → ByteArray} {v : Value} (w : World) (hA : Mt none w v n L X) (hz : ∀ i j, (X i j).size ≤ maxLen) (ht : Tab w) :
    Calls Tryz.prog 5 #[.int .i64 k0, v] w (TrueE w) := by
  have hrd := ready_any (k0 := k0) w hA hz
  have HT := Lib.hid ht; clear ht
  have HZ := Lib.hid hz; clear hz
  have HMT := Lib.hid hA
  obtain ⟨a, cap, rfl⟩ := hA.shape
  clear hA
  have HRD := Lib.hid hrd; clear hrd
  go_enter Tryz.func5, Tryz.ntmps5
  go_wp2_with fail
  refine HRD.out.mono ?_
  rintro r w1 ⟨bb, rfl, hbb, hb1⟩
  have HB1 := Lib.hid hb1; clear hb1
  have HBB := Lib.hid hbb; clear hbb
  have hex : ∀ wk', Below w.heap.size w wk' → Calls Tryz.prog 11 #[] wk' (TrueE wk') := fun wk' hb => example_any wk' (HT.out.below hb (Nat.le_refl _))
  have HEX := Lib.hid hex; clear hex
  cases bb
  · go_wp2_with fail
    refine (HEX.out _ HB1.out).mono ?_
    rintro r w2 ⟨rfl, hb2⟩
    have HB2 := Lib.hid (HB1.out.trans (hb2.mono HB1.out.size)); clear hb2
    go_wp2_with fail
    go_ret
    exact ⟨rfl, HB2.out⟩
  · obtain ⟨hn9, hkd, hsq⟩ := HBB.out.1 rfl
    have hst := star_any (k0 := k0) w1 (by omega) (HMT.out.kept (gb_below HB1.out none)) HZ.out (HT.out.below HB1.out (Nat.le_refl _))
    have HST := Lib.hid hst; clear hst
    have HSQ := Lib.hid hsq; clear hsq
    go_wp2_with fail
    refine HST.out.mono ?_
    intro r w2 hr
    obtain ⟨hb2', k, rfl, hX, hr⟩ := hr.good (by omega) hkd HSQ.out
    have HB2 := Lib.hid (HB1.out.trans (hb2'.mono HB1.out.size)); clear hb2'
    have HX := Lib.hid hX; clear hX
    rcases hr with ⟨v3, Y, rfl, hY, hYs, hYq, hYz⟩ | rfl
    · obtain ⟨a3, cap3, rfl⟩ := hY.shape
      have hnew := SumL.new w2 k.1
      have hbn : Below w2.heap.size w2 (w2.alloc (.cells #[.int .i64 k.1, .bool false] 45)) := (Below.refl _ _).alloc (Nat.le_refl _) _
      have hmx := matrix_any (k0 := k.1) (w2.alloc (.cells #[.int .i64 k.1, .bool false] 45)) (hY.kept (gb_below hbn none)) hYz True (by simp only [true_iff]; exact ⟨hkd, hYq⟩)
      have hm1 : Mt (some w2.heap.size) w2 (.slice a n cap) n (fun _ => n) X := (((HMT.out.kept (gb_below HB2.out none)).far (Nat.le_refl _)).congr (fun i hi => (HSQ.out i hi).1) (fun _ _ _ _ => rfl))
      have hm2 : Mt (some w2.heap.size) w2 (.slice a3 n cap3) n (fun _ => n) Y := hY.far (Nat.le_refl _)
      clear hY hYz hYq
      have HMX := Lib.hid hmx; clear hmx
      have HYS := Lib.hid hYs; clear hYs
      have HNEW := Lib.hid hnew; clear hnew
      have HBN := Lib.hid hbn; clear hbn
      have HM1 := Lib.hid hm1; clear hm1
      have HM2 := Lib.hid hm2; clear hm2
      have hnn : ((n : Int) == (n : Int)) = true := by simp
      go_wp2_with fail
      refine HMX.out.mono ?_
      rintro r w3 ⟨bb, rfl, hbb, hb3⟩
      obtain rfl : bb = true := hbb.2 trivial
      clear hbb hnn
      have hs3 := HNEW.out.kept hb3
      have hg23 : w2.grownBy w3 (some w2.heap.size) := gb_trans (gb_below HBN.out _) (gb_below hb3 _)
      clear hb3 HMX HNEW HBN
      obtain ⟨sb, hsb⟩ : ∃ sb, sb = w2.heap.size := ⟨_, rfl⟩
      rw [← hsb] at HM1 HM2 hs3 hg23
      rw [← hsb]
      have hwsb : w.heap.size ≤ sb := by rw [hsb]; exact HB2.out.size
      have HSB := Lib.hid hsb; clear hsb
      have hgw : ∀ wk', w2.grownBy wk' (some sb) → Below w.heap.size w wk' := fun wk' hg => below_more HB2.out hg ⟨hwsb, Nat.le_refl _⟩
      have htb : ∀ wk', w2.grownBy wk' (some sb) → TabB w.heap.size wk' := fun wk' hg => (TabB.of HT.out).kept (z := none) (gb_below (hgw wk' hg) none) (by simp) (Nat.le_refl _)
      have HGW := Lib.hid hgw; clear hgw
      have HTB := Lib.hid htb; clear htb
      have HS3 := Lib.hid hs3; clear hs3
      have HG3 := Lib.hid hg23; clear hg23
      have her : Er False 0 := ⟨.inl rfl, fun _ => rfl⟩
      have hxm : ∀ e, MatIs e n X (fun i j => wval k (X i j)) := fun e => HX.out.mono (fun _ => rfl)
      have hym : ∀ e, MatIs e n Y (CSR.starM (fun i j => wval k (X i j)) n) := fun e => (show MatIs 0 n Y _ from HYS.out).mono (fun _ => rfl)
      have HXM := Lib.hid hxm; clear hxm
      have HYM := Lib.hid hym; clear hym
      go_wp2_with fail
      refine (ones_any (k := k) w3 hn9 HS3.out her).mono ?_
      rintro r w4 ⟨v4, e4, Y4, rfl, hm4, hi4, he4, _, hs4, hg4⟩
      have HG4 := Lib.hid (gb_trans HG3.out hg4); clear hg4
      obtain ⟨a4, cap4, rfl⟩ := hm4.shape
      have HM4 := Lib.hid hm4; clear hm4
      have HI4 := Lib.hid hi4; clear hi4
      go_wp2_with fail
      refine (product_any (B0 := w.heap.size) w4 hn9 hs4 he4 (HM1.out.kept HG4.out) (HM2.out.kept HG4.out) (HXM.out e4) (HYM.out e4) (HTB.out _ HG4.out) hwsb).mono ?_
      rintro r w5 ⟨v5, e5, Y5, rfl, hm5, hi5, he5, h54, hs5, hg5⟩
      have HG5 := Lib.hid (gb_trans HG4.out hg5)
      obtain ⟨a5, cap5, rfl⟩ := hm5.shape
      have HM4' := Lib.hid (HM4.out.kept hg5); clear HM4 hg5
      have HM5 := Lib.hid hm5; clear hm5
      have HI5 := Lib.hid hi5; clear hi5
      have HE54 := Lib.hid h54; clear h54
      go_wp2_with fail
      refine (added_any (B0 := w.heap.size) w5 hn9 hs5 he5 HM4'.out HM5.out (HI4.out.mono HE54.out) HI5.out (HTB.out _ HG5.out) hwsb).mono ?_
      rintro r w6 ⟨v6, e6, Y6, rfl, hm6, hi6, he6, h65, hs6, hg6⟩
      have HG6 := Lib.hid (gb_trans HG5.out hg6); clear hg6
      obtain ⟨a6, cap6, rfl⟩ := hm6.shape
      have HM6 := Lib.hid hm6; clear hm6
      have HI6 := Lib.hid hi6; clear hi6
      clear HM4' HM5 HI4 HI5 HE54 hs4 hs5 he4 he5 h65
      go_wp2_with fail
      refine (ones_any (k := k) w6 hn9 hs6 he6).mono ?_
      rintro r w7 ⟨v7, e7, Y7, rfl, hm7, hi7, he7, h76, hs7, hg7⟩
      have HG7 := Lib.hid (gb_trans HG6.out hg7)
      have HM6b := Lib.hid (HM6.out.kept hg7); clear HM6 hg7
      obtain ⟨a7, cap7, rfl⟩ := hm7.shape
      have HM7 := Lib.hid hm7; clear hm7
      have HI7 := Lib.hid hi7; clear hi7
      have HE76 := Lib.hid h76; clear h76
      go_wp2_with fail
      refine (product_any (B0 := w.heap.size) w7 hn9 hs7 he7 (HM2.out.kept HG7.out) (HM1.out.kept HG7.out) (HYM.out e7) (HXM.out e7) (HTB.out _ HG7.out) hwsb).mono ?_
      rintro r w8 ⟨v8, e8, Y8, rfl, hm8, hi8, he8, h87, hs8, hg8⟩
      have HG8 := Lib.hid (gb_trans HG7.out hg8)
      have HM6c := Lib.hid (HM6b.out.kept hg8); clear HM6b
      have HM7b := Lib.hid (HM7.out.kept hg8); clear HM7 hg8
      obtain ⟨a8, cap8, rfl⟩ := hm8.shape
      have HM8 := Lib.hid hm8; clear hm8
      have HI8 := Lib.hid hi8; clear hi8
      have HE87 := Lib.hid h87; clear h87
      go_wp2_with fail
      refine (added_any (B0 := w.heap.size) w8 hn9 hs8 he8 HM7b.out HM8.out (HI7.out.mono HE87.out) HI8.out (HTB.out _ HG8.out) hwsb).mono ?_
      rintro r w9 ⟨v9, e9, Y9, rfl, hm9, hi9, he9, h98, hs9, hg9⟩
      have HG9 := Lib.hid (gb_trans HG8.out hg9)
      have HM6d := Lib.hid (HM6c.out.kept hg9); clear HM6c hg9
      obtain ⟨a9, cap9, rfl⟩ := hm9.shape
      have HM9 := Lib.hid hm9; clear hm9
      have HI9 := Lib.hid hi9; clear hi9
      have HM3 := Lib.hid (HM2.out.kept HG9.out)
      have hbf := HGW.out _ HG9.out
      have HBF := Lib.hid hbf; clear hbf
      clear hs6 hs7 hs8 he6 he7 he8 he9 HM7b HM8
      by_cases he0 : e9 = 0
      · subst he0
        have e80 : e8 = 0 := h98 rfl
        have e70 : e7 = 0 := HE87.out e80
        have e60 : e6 = 0 := HE76.out e70
        subst e80 e70 e60
        have c1 := hs9.c1 (b := false) (by simp)
        have hq1 := samem_any w9 HM3.out.any HM6d.out.any True (by
          simp only [true_iff, true_and]
          intro i hi j hj
          have h1 := HYM.out 0 i j hi hj
          have h2 := HI6.out i j hi hj
          exact h1.eq h2 (CSR.starM_left _ hj))
        have hq2 : ∀ wk', Below w9.heap.size w9 wk' → Calls Tryz.prog 16 #[.slice a3 n cap3, .slice a9 n cap9] wk' (TestE True wk') := fun wk' hb => samem_any wk' (HM3.out.any.kept (gb_below hb none)) (HM9.out.any.kept (gb_below hb none)) True (by
          simp only [true_iff, true_and]
          intro i hi j hj
          have h1 := HYM.out 0 i j hi hj
          have h2 := HI9.out i j hi hj
          exact h1.eq h2 (CSR.starM_right _ hi))
        have HQ1 := Lib.hid hq1; clear hq1
        have HQ2 := Lib.hid hq2; clear hq2
        clear h98 hs9
        go_wp2_with fail
        refine HQ1.out.mono ?_
        rintro r w10 ⟨bb, rfl, hbb, hb10⟩
        obtain rfl : bb = true := hbb.2 trivial
        clear hbb
        have HB10 := Lib.hid hb10; clear hb10
        go_wp2_with fail
        refine (HQ2.out _ HB10.out).mono ?_
        rintro r w11 ⟨bb, rfl, hbb, hb11⟩
        obtain rfl : bb = true := hbb.2 trivial
        clear hbb
        have HB11 := Lib.hid (HBF.out.trans ((HB10.out.trans (hb11.mono HB10.out.size)).mono HBF.out.size)); clear hb11
        go_wp2_with fail
        refine (HEX.out _ HB11.out).mono ?_
        rintro r w12 ⟨rfl, hb12⟩
        have HF := Lib.hid (HB11.out.trans (hb12.mono HB11.out.size)); clear hb12
        go_wp2_with fail
        go_ret
        exact ⟨rfl, HF.out⟩
      · have c1 := hs9.c1 (b := true) (by simp; exact he0)
        have HE0 := Lib.hid he0; clear he0 h98 hs9
        go_wp2_with fail
        refine (HEX.out _ HBF.out).mono ?_
        rintro r w12 ⟨rfl, hb12⟩
        have HF := Lib.hid (HBF.out.trans (hb12.mono HBF.out.size)); clear hb12
        go_wp2_with fail
        go_ret
        exact ⟨rfl, HF.out⟩
    · go_wp2_with fail
      refine (HEX.out _ HB2.out).mono ?_
      rintro r w3 ⟨rfl, hb3⟩
      have HB3 := Lib.hid (HB2.out.trans (hb3.mono HB2.out.size)); clear hb3
      go_wp2_with fail
      go_ret
      exact ⟨rfl, HB3.out⟩
end Go.Proofs.YtlmfppjphblemaaGreatDoor
