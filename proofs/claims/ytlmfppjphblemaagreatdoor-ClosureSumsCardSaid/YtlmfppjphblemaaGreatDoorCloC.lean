/- The walk of closure's over: one elimination step on the table's rows. -/
import Derived.Test.YtlmfppjphblemaaGreatDoorC3
import Derived.Deep.RegionLaw
namespace Go.Proofs.YtlmfppjphblemaaGreatDoor
open Go Go.RowKit Go.Deep
set_option maxRecDepth 100000

theorem drew_gb (w : World) (z : Option Nat) : w.grownBy w.drew z := ⟨rfl, rfl, rfl, Nat.le_refl _, fun _ _ _ => rfl⟩
theorem TabB.drew {B : Nat} {w : World} (h : TabB B w) : TabB B w.drew := fun w2 hb => h w2 ((Below.refl B w).drew.trans hb)
theorem SumB.drew {w : World} {sb e : Nat} {k : Int} (h : SumB w sb k e) : SumB w.drew sb k e := h
/-- The cells that a statement reads stay while only the sums turn. -/
theorem keep4 {W wk : World} {z : Option Nat} {a b c d : Addr} {u v x y : Value} (hg : W.grownBy wk z) (ha : W.cell? a = some u) (hb : W.cell? b = some v) (hc : W.cell? c = some x) (hd : W.cell? d = some y)
    (na : some a.block ≠ z) (nb : some b.block ≠ z) (nc : some c.block ≠ z) (nd : some d.block ≠ z) :
    W.grownBy wk z ∧ wk.cell? a = some u ∧ wk.cell? b = some v ∧ wk.cell? c = some x ∧ wk.cell? d = some y :=
  ⟨hg, hg.cell ha na, hg.cell hb nb, hg.cell hc nc, hg.cell hd nd⟩

theorem keep7 {W wk : World} {z : Option Nat} {a b c d f g h : Addr} {u v x y r s t : Value} (hg : W.grownBy wk z) (ha : W.cell? a = some u) (hb : W.cell? b = some v) (hc : W.cell? c = some x) (hd : W.cell? d = some y)
    (hf : W.cell? f = some r) (hh : W.cell? g = some s) (hi : W.cell? h = some t)
    (na : some a.block ≠ z) (nb : some b.block ≠ z) (nc : some c.block ≠ z) (nd : some d.block ≠ z) (nf : some f.block ≠ z) (ng : some g.block ≠ z) (nh : some h.block ≠ z) :
    wk.cell? a = some u ∧ wk.cell? b = some v ∧ wk.cell? c = some x ∧ wk.cell? d = some y ∧ wk.cell? f = some r ∧ wk.cell? g = some s ∧ wk.cell? h = some t :=
  ⟨hg.cell ha na, hg.cell hb nb, hg.cell hc nc, hg.cell hd nd, hg.cell hf nf, hg.cell hh ng, hg.cell hi nh⟩
theorem keep7s {wk : World} {o : Addr} {q : Value} {a b c d f g h : Addr} {u v x y r s t : Value}
    (hk : wk.cell? a = some u ∧ wk.cell? b = some v ∧ wk.cell? c = some x ∧ wk.cell? d = some y ∧ wk.cell? f = some r ∧ wk.cell? g = some s ∧ wk.cell? h = some t)
    (na : o.block ≠ a.block) (nb : o.block ≠ b.block) (nc : o.block ≠ c.block) (nd : o.block ≠ d.block) (nf : o.block ≠ f.block) (ng : o.block ≠ g.block) (nh : o.block ≠ h.block) :
    (wk.setCell o q).cell? a = some u ∧ (wk.setCell o q).cell? b = some v ∧ (wk.setCell o q).cell? c = some x ∧ (wk.setCell o q).cell? d = some y ∧ (wk.setCell o q).cell? f = some r ∧ (wk.setCell o q).cell? g = some s ∧ (wk.setCell o q).cell? h = some t := by
  obtain ⟨h1, h2, h3, h4, h5, h6, h7⟩ := hk
  refine ⟨?_, ?_, ?_, ?_, ?_, ?_, ?_⟩
  · rw [World.cell?_setCell_other _ _ _ _ (fun e => na (by rw [e]))]; exact h1
  · rw [World.cell?_setCell_other _ _ _ _ (fun e => nb (by rw [e]))]; exact h2
  · rw [World.cell?_setCell_other _ _ _ _ (fun e => nc (by rw [e]))]; exact h3
  · rw [World.cell?_setCell_other _ _ _ _ (fun e => nd (by rw [e]))]; exact h4
  · rw [World.cell?_setCell_other _ _ _ _ (fun e => nf (by rw [e]))]; exact h5
  · rw [World.cell?_setCell_other _ _ _ _ (fun e => ng (by rw [e]))]; exact h6
  · rw [World.cell?_setCell_other _ _ _ _ (fun e => nh (by rw [e]))]; exact h7
theorem strs_cells {w : World} {b n : Nat} {X : Nat → ByteArray} (h : ∀ j, j < n → w.cell? ⟨b, j, none⟩ = some (.string (X j))) : ∀ j u, (strs n X)[j]? = some u → w.cell? ((⟨b, 0, none⟩ : Addr).add j) = some u := by
  intro j u hu
  have hj : j < n := by
    rcases Nat.lt_or_ge j n with h1 | h1
    · exact h1
    · rw [List.getElem?_eq_none (by rw [strs_len]; exact h1)] at hu; cases hu
  rw [strs_get _ _ _ hj] at hu; cases hu
  rw [Addr.add_lit, Nat.zero_add]; exact h j hj
theorem toList_eq {a b : ByteArray} (h : (a.toList == b.toList) = true) : a = b := by
  rw [beq_iff_eq, Lib.toList_data, Lib.toList_data] at h
  exact ByteArray.ext (Array.toList_inj.1 h)
set_option maxHeartbeats 8000000 in
theorem over_any {k : KK} {F : Prop} {B0 B tb sb g n p e : Nat} {R : Nat → Value} {X : Nat → Nat → ByteArray} {M : Nat → Nat → RK k} {w : World} (x : Value) (hn : n ≤ 60) (hp : p < n)
    (hT : Tb w k.1 B tb sb g n e R X) (hX : MatIs e n X M) (he : Er F e) (hF : F → FitE n p M) (ht : TabB B0 w) (hB : B0 ≤ sb) :
    Calls Tryz.prog 64 #[.pointer (some ⟨tb, 0, none⟩), .int .i64 (p : Int), x] w (OverE F B tb sb g n p e R M w) := by
  have t0 := hT.c0
  have s0 := hT.sum.c0
  have hpz : (p : Int) < (n : Int) := by omega
  have hpz0 : (0 : Int) ≤ (p : Int) := by omega
  have HT := Lib.hid hT; clear hT
  have HX := Lib.hid hX; clear hX
  have HE := Lib.hid he; clear he
  have HF := Lib.hid hF; clear hF
  have HTB := Lib.hid ht; clear ht
  have hz := fun wx => semizero_any k.1 wx
  have HZ := Lib.hid hz; clear hz
  go_enter Tryz.func64, Tryz.ntmps64
  go_wp2_with fail
  refine (HZ.out _).mono ?_
  rintro r w1 ⟨rfl, hb1⟩
  clear t0 s0
  have hT1 := HT.out.below hb1
  have hTB1 : TabB B0 w1 := HTB.out.kept (z := none) (gb_below hb1 _) (by simp) (by have := HT.out.sum.lt; omega)
  have hG1 : Gr B (some sb) w w1 := (Gr.refl _ _ _).more (gb_below hb1 none) (by have := HT.out.om.lt; have := HT.out.om.base; omega) (by simp)
  clear hb1
  -- ████ loop := t.star(t.rows[k][k])
  have t0 := hT1.c0
  have t1 := hT1.c1
  obtain ⟨bp, cp, hRp, hbB, hbl, hbg, hbt, hc1, hc2, hfp, hcp⟩ := hT1.om.form hp (by omega)
  unfold maxLen at hc2
  have g0 := hT1.om.cell hp
  rw [hRp] at g0
  have g1 := hcp p hp
  have sbB := hT1.sbB
  have tbB := hT1.tbB
  have gB := hT1.om.base
  have HK := Lib.hid (fun wk (hg : w1.grownBy wk (some sb)) => keep4 hg t0 t1 g0 g1 (by simp; omega) (by simp; omega) (by simp; omega) (by simp; omega))
  have HT1 := Lib.hid hT1; clear hT1
  have HTB1 := Lib.hid hTB1; clear hTB1 HTB
  have HG1 := Lib.hid hG1; clear hG1 HT
  have hd1 := drew_gb w1 (some sb)
  clear hcp hbg hbt hbl hfp
  go_wp2_with fail
  go_region_held2 (fun wk => w1.grownBy wk (some sb) ∧ wk.cell? ⟨tb, 0, none⟩ = some (.pointer (some ⟨sb, 0, none⟩)) ∧ wk.cell? ⟨tb, 1, none⟩ = some (.slice (some ⟨g, 0, none⟩) n n) ∧
      wk.cell? ⟨g, p, none⟩ = some (.slice (some ⟨bp, 0, none⟩) n cp) ∧ wk.cell? ⟨bp, p, none⟩ = some (.string (X p p)))
    (first | exact HK.out _ (by assumption))
    (first
    | (go_at_call 77; refine (cstar_is (HX.out p p hp hp) HE.out (fun f => (HF.out f).star) HTB1.out.drew.tab HT1.out.sum.drew).mono ?_; rintro r w2 ⟨lp, e2, rfl, hlp, he2, hm2, hs2, hg2⟩; have hn2 := gb_trans hd1 hg2))
  rename_i hH
  clear hH g0 g1 t0 t1
  have hT2 := HT1.out.kept hn2 hs2
  have hTB2 : TabB B0 w2 := HTB1.out.kept hn2 (by intro q hq; cases hq; exact hB) (by have := HT1.out.sum.lt; omega)
  have hG2 : Gr B (some sb) w w2 := HG1.out.more hn2 (by have := HT1.out.tbLt; omega) (fun _ e => .inl e)
  have hX2 := HX.out.mono hm2
  clear hn2 hg2 hd1 hs2
  have t1 := hT2.c1
  have tl2 := hT2.om.lt
  have HT2 := Lib.hid hT2; clear hT2 HT1 HK
  have HTB2 := Lib.hid hTB2; clear hTB2 HTB1
  have HG2 := Lib.hid hG2; clear hG2 HG1
  have HX2 := Lib.hid hX2; clear hX2 HX
  have HLP := Lib.hid hlp; clear hlp
  have HE2 := Lib.hid he2; clear he2 HE
  have HM2 := Lib.hid hm2; clear hm2
  clear hRp hbB hc1 hc2
  -- ████ old := make([][]string, len(t.rows))
  have hmk := run_make_row' (P := Tryz.prog) 22 33 (.slice none 0 0) 24 Tryz.underlying22 info_strs rfl .i64 .i64 n (by omega) (by omega)
  have hom : OM (w2.alloc (.cells (madeCells #[.slice none 0 0] n) 33)) (fun _ => False) w2.heap.size 9 33 w2.heap.size n (fun _ => .slice none 0 0) (fun q => if q < 0 then n else 0) X :=
    (OM.made w2 (fun _ => False) (by simp) w2.heap.size (Nat.le_refl _) 9 33 n X).congrL (fun _ _ => by simp)
  have HOM := Lib.hid hom; clear hom
  have HB3 := Lib.hid ((Below.refl w2.heap.size w2).alloc (Nat.le_refl _) (.cells (madeCells #[.slice none 0 0] n) 33))
  go_wp2_with fail
  clear hmk t1
  -- ████ old[i] = append(old[i], t.rows[i]...)
  go_loopw [44] (fun i wr => ∃ (q : Nat) (R2 : Nat → Value), q ≤ n ∧ i = .int .i64 (q : Int) ∧ OM wr (fun _ => False) w2.heap.size 9 33 w2.heap.size n R2 (fun l => if l < q then n else 0) X ∧
    (∀ l, q ≤ l → R2 l = .slice none 0 0) ∧ Below w2.heap.size w2 wr) (fun i _ => n - (intOf i).toNat)
  case atStart => exact ⟨0, _, Nat.zero_le _, rfl, HOM.out, fun _ _ => rfl, HB3.out⟩
  case round =>
    obtain ⟨q, R2, hq, rfl, hom, hnil, hbw⟩ := hrel
    clear HOM HB3
    have HOM := Lib.hid hom; clear hom
    have HNL := Lib.hid hnil; clear hnil
    have HBW := Lib.hid hbw; clear hbw
    by_cases hlt : q < n
    · have hqz : (q : Int) < (n : Int) := by omega
      have hqz0 : (0 : Int) ≤ (q : Int) := by omega
      have hTr := HT2.out.below HBW.out
      obtain ⟨bq, cq, hRq, hbB, hbl, hbg, hbt, hc1, hc2, hfp, hcp⟩ := hTr.om.form hlt (by omega)
      unfold maxLen at hc2
      have t1 := hTr.c1
      have g0 := hTr.om.cell hlt
      rw [hRq] at g0
      have o0 := HOM.out.cell hlt
      rw [HNL.out q (Nat.le_refl _)] at o0
      have HTr := Lib.hid hTr; clear hTr
      have HCP := Lib.hid hcp; clear hcp
      have HK := Lib.hid (fun wk (hg : wr.grownBy wk none) => keep4 hg t1 g0 o0 o0 (by simp) (by simp) (by simp) (by simp))
      have hd1 := drew_gb wr none
      have ogl := HOM.out.lt
      have wsz := HBW.out.size
      obtain ⟨i0, hi0, hz0, hz1, hz2⟩ := info_parts info_str
      go_wp2_with fail
      have d0 : wr.drew.cell? ⟨w2.heap.size, q, none⟩ = some (.slice none 0 0) := o0
      have HCD := Lib.hid (show ∀ j, j < n → wr.drew.cell? ⟨bq, j, none⟩ = some (.string (X q j)) from HCP.out)
      go_region_law
        (first
        | (refine step_append_lies _ rfl (.tmp 52) (.tmp 59) 33 rfl w2.heap.size 9 i0 (.string ⟨#[]⟩) 1 16 Tryz.underlying33 hi0 hz0 hz1 hz2 rfl (by omega) (.slice none 0 0) 0 [] rfl (World.ownsRow_nil _ _ _ _) ⟨bq, 0, none⟩ n cq (strs n (X q)) rfl (by rw [strs_len, Nat.mul_one])
            (strs_cells HCD.out) (str_cells _ _) (by omega) (by unfold maxLen; omega) (by omega) wsz wr.heap.size rfl ?_
           intro go cap wa hown hgrow hat hlt'
           have hn1 := gb_trans hd1 hgrow
           have hfz := (hn1.frozen_far ⟨w2.heap.size, q, none⟩ ogl (by simp)).trans (HOM.out.frozen q)
           have hcl := hn1.cell o0 (by simp)))
      all_goals
        go_wp2_with fail
        go_roundw
        case rel =>
          obtain ⟨R3, h1, h2⟩ := copy_step HOM.out hlt HNL.out hown hgrow hat
          exact ⟨q + 1, R3, by omega, by go_num, h1, h2, ((HBW.out.drew).grown hgrow (by show w2.heap.size ≤ wr.heap.size; omega) (by simp [Value.ownBlock])).setCell (Nat.le_refl _) _⟩
        case measure => simp [intOf]; omega
    · have hqn : q = n := by omega
      subst hqn
      have hod : OM wr (fun _ => False) w2.heap.size 9 33 w2.heap.size q R2 (fun _ => q) X := HOM.out.congrL fun l hl => by rw [if_pos hl]
      have hgt : ¬ ((q : Int) < (q : Int)) := by omega
      clear HOM HNL
      have HOD := Lib.hid hod; clear hod
      have hT3 := HT2.out.below HBW.out
      have hTB3 : TabB B0 wr := HTB2.out.kept (z := none) (gb_below HBW.out _) (by simp) (by have := HT2.out.sum.lt; omega)
      have hG3 : Gr B (some sb) w wr := HG2.out.more (gb_below HBW.out none) (by have := HT2.out.tbLt; omega) (by simp)
      have hg3 : g < w2.heap.size := tl2
      have htb2 : tb < w2.heap.size := HT2.out.tbLt
      have hrl := fun (i : Nat) (hi : i < q) (b : Nat) (hb : (R i).ownBlock = some b) => (HT2.out.om.rowLt hi b hb).2
      have HRL := Lib.hid hrl; clear hrl
      have HT3 := Lib.hid hT3; clear hT3 HT2
      have HTB3 := Lib.hid hTB3; clear hTB3 HTB2
      have HG3 := Lib.hid hG3; clear hG3 HG2
      have hw3 := HBW.out.size
      clear HBW
      generalize hB2 : w2.heap.size = B2 at *
      clear hB2
      obtain ⟨Z0, hZ0⟩ : ∃ Z0, Z0 = zeroF k.1 := ⟨_, rfl⟩
      rw [← hZ0]
      have HZ0 := Lib.hid hZ0; clear hZ0
      go_wp2_with fail
      -- ████ for i := range old
      go_loopw [65] (fun i wr => ∃ (c e3 : Nat) (Y : Nat → Nat → ByteArray), c ≤ q ∧ i = .int .i64 (c : Int) ∧ Tb wr k.1 B tb sb g q e3 R Y ∧ Prog e3 p q c 0 M X Y ∧
        OM wr (fun _ => False) B2 9 33 B2 q R2 (fun _ => q) X ∧ Er F e3 ∧ (e3 = 0 → e2 = 0) ∧ TabB B0 wr ∧ Gr B (some sb) w wr) (fun i _ => q - (intOf i).toNat)
      case atStart => exact ⟨0, e2, X, Nat.zero_le _, rfl, HT3.out, Prog.start _ _ _ _ _, HOD.out, HE2.out, fun h => h, HTB3.out, HG3.out⟩
      case round =>
        obtain ⟨c, e3, Y, hcq, rfl, hT, hP, hO, hE, hm, hTB, hG⟩ := hrel
        clear HT3 HTB3 HG3 HOD
        have HT := Lib.hid hT; clear hT
        have HP := Lib.hid hP; clear hP
        have HO := Lib.hid hO; clear hO
        have HE := Lib.hid hE; clear hE
        have HM := Lib.hid hm; clear hm
        have HTB := Lib.hid hTB; clear hTB
        have HG := Lib.hid hG; clear hG
        by_cases hlt : c < q
        · have hcz : (c : Int) < (q : Int) := by omega
          have hcz0 : (0 : Int) ≤ (c : Int) := by omega
          obtain ⟨oc, uc, hRc, hcB, hcl, hcg, _, hu1, hu2, hfc, hcc⟩ := HO.out.form hlt (by omega)
          unfold maxLen at hu2
          have o0 := HO.out.cell hlt
          rw [hRc] at o0
          have o1 := hcc p hp
          have HCC := Lib.hid hcc; clear hcc
          have HFC := Lib.hid hfc; clear hfc
          have HRC := Lib.hid hRc; clear hRc
          cases hz : ((X c p).toList == Z0.toList)
          · -- the row is touched
            have hTt := HT.out
            have t0 := hTt.c0
            have HK := Lib.hid (fun wk (hg : World.grownBy _ wk (some sb)) => keep4 hg t0 o0 o1 o1 (by simp; omega) (by simp; omega) (by simp; omega) (by simp; omega))
            clear hTt
            have hd1 := drew_gb wr (some sb)
            go_wp2_with fail
            go_region_held2 (fun wk => wr.grownBy wk (some sb) ∧ wk.cell? ⟨tb, 0, none⟩ = some (.pointer (some ⟨sb, 0, none⟩)) ∧ wk.cell? ⟨B2, c, none⟩ = some (.slice (some ⟨oc, 0, none⟩) q uc) ∧
                wk.cell? ⟨oc, p, none⟩ = some (.string (X c p)) ∧ wk.cell? ⟨oc, p, none⟩ = some (.string (X c p)))
              (first | exact HK.out _ (by assumption))
              (first
              | (go_at_call 49; refine (ctimes_is ((HX2.out c p hlt hp).mono HM.out) (HLP.out.mono HM.out) HE.out (fun f => (HF.out f).first c hlt) HTB.out.drew.tab HT.out.sum.drew).mono ?_; rintro r w4 ⟨fs, e4, rfl, hfs, he4, hm4, hs4, hg4⟩; have hn4 := gb_trans hd1 hg4))
            rename_i hH
            clear hH
            have hT4 := HT.out.kept hn4 hs4
            have hTB4 : TabB B0 w4 := HTB.out.kept hn4 (by intro q hq; cases hq; exact hB) (by have := HT.out.sum.lt; omega)
            have hG4 : Gr B (some sb) w w4 := HG.out.more hn4 (by have := HT.out.tbLt; omega) (fun _ e => .inl e)
            have hO4 := HO.out.kept hn4 (by intro k hk; cases hk; omega)
            have hP4 := HP.out.mono hm4
            have hM4 : e4 = 0 → e2 = 0 := fun h => HM.out (hm4 h)
            clear hn4 hg4 hd1 hs4 hm4 t0 o0 o1
            have HT4 := Lib.hid hT4; clear hT4 HT
            have HTB4 := Lib.hid hTB4; clear hTB4 HTB
            have HG4 := Lib.hid hG4; clear hG4 HG
            have HO4 := Lib.hid hO4; clear hO4 HO HK
            have HP4 := Lib.hid hP4; clear hP4 HP
            have HM4 := Lib.hid hM4; clear hM4 HM
            have HE4 := Lib.hid he4; clear he4 HE
            have HFS := Lib.hid hfs; clear hfs
            go_wp2_with fail
            -- ████ for j := range old
            go_loopw [92] (fun i wr => ∃ (d e5 : Nat) (Y : Nat → Nat → ByteArray), d ≤ q ∧ i = .int .i64 (d : Int) ∧ Tb wr k.1 B tb sb g q e5 R Y ∧ Prog e5 p q c d M X Y ∧
              OM wr (fun _ => False) B2 9 33 B2 q R2 (fun _ => q) X ∧ Er F e5 ∧ (e5 = 0 → e4 = 0) ∧ TabB B0 wr ∧ Gr B (some sb) w wr) (fun i _ => q - (intOf i).toNat)
            case atStart => exact ⟨0, e4, Y, Nat.zero_le _, rfl, HT4.out, HP4.out, HO4.out, HE4.out, fun h => h, HTB4.out, HG4.out⟩
            case round =>
              obtain ⟨d, e5, Y, hdq, rfl, hT, hP, hO, hE, hm, hTB, hG⟩ := hrel
              clear HT4 HTB4 HG4 HO4 HP4 HE4
              have HT := Lib.hid hT; clear hT
              have HP := Lib.hid hP; clear hP
              have HO := Lib.hid hO; clear hO
              have HE := Lib.hid hE; clear hE
              have HM := Lib.hid hm; clear hm
              have HTB := Lib.hid hTB; clear hTB
              have HG := Lib.hid hG; clear hG
              by_cases hlt2 : d < q
              · have hdz : (d : Int) < (q : Int) := by omega
                have hdz0 : (0 : Int) ≤ (d : Int) := by omega
                obtain ⟨op, up, hRp2, hpB, hpl, hpg, _, hv1, hv2, hfp2, hcp2⟩ := HO.out.form hp (by omega)
                unfold maxLen at hv2
                have o0 := HO.out.cell hp
                rw [hRp2] at o0
                have o1 := hcp2 d hlt2
                clear hfp2 hcp2 hRp2
                cases hz2 : ((X p d).toList == Z0.toList)
                · -- the element is touched
                  have a0 := HO.out.cell hlt
                  rw [HRC.out] at a0
                  obtain ⟨oc', uc', hRc', _, hcl2, _, _, _, _, _, hcc'⟩ := HO.out.form hlt (by omega)
                  rw [HRC.out] at hRc'
                  obtain ⟨rfl, rfl⟩ : oc = oc' ∧ uc = uc' := by simpa using hRc'
                  have a1 := hcc' d hlt2
                  clear hcc' hRc'
                  obtain ⟨bc, cc, hRb, hbB2, hbl2, hbg2, hbt2, hc3, hc4, hfb, hcb⟩ := HT.out.om.form hlt (by omega)
                  unfold maxLen at hc4
                  have r0 := HT.out.om.cell hlt
                  rw [hRb] at r0
                  have r1 := hcb d hlt2
                  have rf := hfb d
                  have t0 := HT.out.c0
                  have t1 := HT.out.c1
                  have hbB4 : bc < B2 := HRL.out c hlt bc (by rw [hRb]; rfl)
                  have HK := Lib.hid (fun wk (hg : World.grownBy _ wk (some sb)) => keep7 hg t0 t1 r0 a0 a1 o0 o1 (by simp; omega) (by simp; omega) (by simp; omega) (by simp; omega) (by simp; omega) (by simp; omega) (by simp; omega))
                  have HKS := Lib.hid (fun wk u (hg : World.grownBy _ wk (some sb)) => keep7s (o := ⟨bc, d, none⟩) (q := .string u) (HK.out wk hg) (by simp; omega) (by simp; omega) (by simp; omega) (by simp; omega) (by simp; omega) (by simp; omega) (by simp; omega))
                  have HRB := Lib.hid hRb; clear hRb
                  clear hfb hcb
                  have hd1 := drew_gb wr (some sb)
                  go_wp2_with fail
                  go_region_held2 (fun wk => wk.cell? ⟨tb, 0, none⟩ = some (.pointer (some ⟨sb, 0, none⟩)) ∧ wk.cell? ⟨tb, 1, none⟩ = some (.slice (some ⟨g, 0, none⟩) q q) ∧ wk.cell? ⟨g, c, none⟩ = some (.slice (some ⟨bc, 0, none⟩) q cc) ∧
                      wk.cell? ⟨B2, c, none⟩ = some (.slice (some ⟨oc, 0, none⟩) q uc) ∧ wk.cell? ⟨oc, d, none⟩ = some (.string (X c d)) ∧ wk.cell? ⟨B2, p, none⟩ = some (.slice (some ⟨op, 0, none⟩) q up) ∧ wk.cell? ⟨op, d, none⟩ = some (.string (X p d)))
                    (first | exact HK.out _ (by assumption) | exact HKS.out _ _ (by assumption))
                    (first
                    | (go_at_call 49; refine (ctimes_is (HFS.out.mono HM.out) ((HX2.out p d hp hlt2).mono (fun h => HM4.out (HM.out h))) HE.out (fun f => (HF.out f).second c d hlt hlt2) HTB.out.drew.tab HT.out.sum.drew).mono ?_; rintro r w5 ⟨u5, e6, rfl, hu5, he6, hm6, hs6, hg6⟩; have hn5 := gb_trans hd1 hg6)
                    | (go_at_call 48; refine (cplus_is ((HX2.out c d hlt hlt2).mono (fun h => HM4.out (HM.out (hm6 h)))) hu5 he6 (fun f => (HF.out f).sum c d hlt hlt2) (HTB.out.kept hn5 (by intro q hq; cases hq; exact hB) (by have := HT.out.sum.lt; omega)).tab hs6).mono ?_; rintro r w6 ⟨u6, e7, rfl, hu6, he7, hm7, hs7, hg7⟩; have hn6 := gb_trans hn5 hg7; have rf6 := (hn6.frozen_far ⟨bc, d, none⟩ hbl2 (by simp; omega)).trans rf; have rc6 := hn6.cell r1 (by simp; omega)))
                  rename_i hH
                  clear hH
                  go_wp2_with fail
                  go_roundw
                  case rel =>
                    have hgr := ((Gr.refl B (some sb) wr).more hn6 (by have := HT.out.tbLt; omega) (fun _ e => .inl e)).set (p := ⟨bc, d, none⟩) (.inr hbB2) (.string u6)
                    exact ⟨d + 1, e7, _, by omega, by go_num, (HT.out.kept hn6 hs7).stored hlt hlt2 HRB.out u6, (HP.out.mono (fun h => hm6 (hm7 h))).next hu6,
                      (HO.out.kept hn6 (by intro k hk; cases hk; omega)).other (.inr hbB4) _, he7, fun h => HM.out (hm6 (hm7 h)), HTB.out.gr hgr (by intro q hq; cases hq; exact hB) (by omega), HG.out.trans hgr⟩
                  case measure => simp [intOf]; omega
                · -- a zero: the element stays
                  go_wp2_with fail
                  go_roundw
                  case rel =>
                    exact ⟨d + 1, e5, Y, by omega, by go_num, HT.out, HP.out.skip hlt hlt2 (Is.elim_r (HX2.out.mono (fun h => HM4.out (HM.out h))) hlt hp hlt2 ((toList_eq hz2).trans HZ0.out)), HO.out, HE.out, HM.out, HTB.out, HG.out⟩
                  case measure => simp [intOf]; omega
              · have hdq' : d = q := by omega
                subst hdq'
                have hgt : ¬ ((d : Int) < (d : Int)) := by omega
                go_wp2_with fail
                go_roundw
                case rel =>
                  exact ⟨c + 1, e5, Y, by omega, by go_num, HT.out, HP.out.row, HO.out, HE.out, fun h => HM4.out (HM.out h), HTB.out, HG.out⟩
                case measure => simp [intOf]; omega
          · -- a zero: the row stays
            go_wp2_with fail
            go_roundw
            case rel =>
              have hX := HX2.out.mono HM.out
              exact ⟨c + 1, e3, Y, by omega, by go_num, HT.out, HP.out.skipRow hlt (Is.elim_l hX hlt hp ((toList_eq hz).trans HZ0.out)), HO.out, HE.out, HM.out, HTB.out, HG.out⟩
            case measure => simp [intOf]; omega
        · have hcq' : c = q := by omega
          subst hcq'
          have hgt : ¬ ((c : Int) < (c : Int)) := by omega
          go_wp2_with fail
          go_end0
          exact ⟨e3, Y, rfl, HT.out, HP.out.done, HE.out, fun h => HM2.out (HM.out h), HG.out⟩
end Go.Proofs.YtlmfppjphblemaaGreatDoor
