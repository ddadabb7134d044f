/- Parts of a proof: LEa AM ArgI. -/
import Derived.Test.YtjekapjbigfkbaaGreatDoorR36
import Derived.Test.YtjekapjbigfkbaaGreatDoorR15
import Derived.Deep.Slices
import Derived.SliceStrings
import Derived.ChangeSlices
import Derived.Test.YtjekapjbigfkbaaGreatDoorR16
import Derived.Lib.SmallJoins
import Derived.Deep.SlicePairs
import Derived.SizedLaws
namespace Go.Proofs.YtjekapjbigfkbaaGreatDoor
open Go Go.RowKit Go.Deep
set_option maxRecDepth 100000
set_option linter.unusedSimpArgs false
structure ApI (w0 w : World) (mb : Nat) (M : EM) (mv : Value) (na : Nat) (x : Nat → Int) (q k i ny : Nat) (yv : Value) (ws : ByteArray) (c : Rat) (yy : Nat → Int) : Prop where
  km : BoxE w mb M mv
  row : w.ownsRow w0.heap.size 3 1 yv ny (ivs ny yy)
  be : Below w0.heap.size w0 w
  num : prs ws = some c
  apl : Apl M na x k i ny yy c
  le : ny ≤ 6 * q
  kle : (k : Int) ≤ M.most
  wd : wordI ny yy 500
section
variable {w0 w w' we : World} {mb : Nat} {M : EM} {mv : Value} {na : Nat} {x : Nat → Int} {q k i ny : Nat} {yv : Value} {ws : ByteArray} {c : Rat} {yy : Nat → Int}
theorem ApI.next (h : ApI w0 w mb M mv na x q k i ny yv ws c yy) : ApI w0 w mb M mv na x (q + 1) k i ny yv ws c yy := ⟨h.km, h.row, h.be, h.num, h.apl, by have := h.le; omega, h.kle, h.wd⟩
theorem ApI.fr (h : ApI w0 w mb M mv na x q k i ny yv ws c yy) (hf : Fr (fun _ => False) w w') : ApI w0 w' mb M mv na x q k i ny yv ws c yy :=
  ⟨(hf.block mb h.km.lt (fun e => e)).trans h.km, row_kept h.row (z := none) (Fr.gb (hf.mono (fun _ _ e => e.elim))) (fun _ _ e => by cases e), h.be.trans (hf.below h.be.size (fun _ e => e.elim)), h.num, h.apl, h.le, h.kle, h.wd⟩
theorem ApI.app (h : ApI w0 w mb M mv na x q k i ny yv ws c yy) {o : Obj} (h2 : (w.alloc o).grownBy we yv.ownBlock) : BoxE we mb M mv ∧ Below w0.heap.size w0 we := by
  have hfa : Fr (fun _ => False) w (w.alloc o) := Fr.alloc _ _
  have hfw : Fr (fun c => yv.ownBlock = some c) w we := (hfa.mono (fun _ _ e => e.elim)).trans (Fr.of_gb h2 (fun _ e => e))
  exact ⟨(hfw.block mb h.km.lt (fun e => own_blk h.row h.km (by decide) e)).trans h.km, h.be.trans (hfw.below h.be.size (fun c e => (World.ownsRow.lt h.row c e).1))⟩
theorem ApI.app0 (h : ApI w0 w mb M mv na x q k i ny yv ws c yy) (h2 : w.grownBy we yv.ownBlock) : BoxE we mb M mv ∧ Below w0.heap.size w0 we := by
  have hfw : Fr (fun c => yv.ownBlock = some c) w we := Fr.of_gb h2 (fun _ e => e)
  exact ⟨(hfw.block mb h.km.lt (fun e => own_blk h.row h.km (by decide) e)).trans h.km, h.be.trans (hfw.below h.be.size (fun c e => (World.ownsRow.lt h.row c e).1))⟩
theorem ApI.copy (h : ApI w0 w mb M mv na x q k i ny yv ws c yy) (hi : i < na) (hw : wordI na x 500) {o : Obj} {v : Value} (h1 : we.ownsRow w0.heap.size 3 1 v (ny + 1) (ivs ny yy ++ [.int .i64 (x i)])) (h2 : (w.alloc o).grownBy we yv.ownBlock) :
    ApI w0 we mb M mv na x (q + 1) k (i + 1) (ny + 1) v ws c (fun j => if j < ny then yy j else x i) := by
  obtain ⟨k1, k2⟩ := h.app h2
  refine ⟨k1, ?_, k2, h.num, h.apl.copy hi, by have := h.le; omega, h.kle, fun j hj => ?_⟩
  · have := ivs_app ny 1 yy (fun _ => x i)
    rw [← this]; exact h1
  · by_cases e : j < ny
    · simp only [if_pos e]; exact h.wd j e
    · simp only [if_neg e]; exact hw i hi
theorem ApI.edit (h : ApI w0 w mb M mv na x q k i ny yv ws c yy) (hV : VE M) {e : Nat} (he : e < M.n) (hk : (k : Int) < M.most) (hb : bgs na x i (M.e e).nf (M.e e).f) {ws' : ByteArray} (hw : prs ws' = some (c + qv (M.e e).w)) {v : Value}
    (h1 : we.ownsRow w0.heap.size 3 1 v (ny + (M.e e).nt) (ivs ny yy ++ ivs (M.e e).nt (M.e e).t)) (h2 : w.grownBy we yv.ownBlock) :
    ApI w0 we mb M mv na x (q + 1) (k + 1) (i + (M.e e).nf) (ny + (M.e e).nt) v ws' (c + qv (M.e e).w) (fun j => if j < ny then yy j else (M.e e).t (j - ny)) := by
  obtain ⟨k1, k2⟩ := h.app0 h2
  refine ⟨k1, by rw [← ivs_app]; exact h1, k2, hw, h.apl.edit he hk hb, by have := h.le; have := (hV.ok e he).t6; omega, by omega, fun j hj => ?_⟩
  by_cases e1 : j < ny
  · simp only [if_pos e1]; exact h.wd j e1
  · simp only [if_neg e1]; exact (hV.ok e he).tw (j - ny) (by omega)
theorem ApI.end (h : ApI w0 w mb M mv na x q k i ny yv ws c yy) (hw : wordI na x 500) (hna : na ≤ 12) (hq : q ≤ 30) {v : Value}
    (h1 : we.ownsRow w0.heap.size 3 1 v (ny + (na - i)) (ivs ny yy ++ ivs (na - i) (fun t => x (i + t)))) (h2 : w.grownBy we yv.ownBlock) :
    ∃ y, BoxE we mb M mv ∧ Below w0.heap.size w0 we ∧ Si none we v (ny + (na - i)) y ∧ isWord (ny + (na - i)) y = true ∧ (VE M → ∀ o, IsCost ⟨M, na, x, ny + (na - i), y⟩ o → ∃ u, o = some u ∧ u ≤ c) := by
  obtain ⟨k1, k2⟩ := h.app0 h2
  have hi := h.apl.1
  rw [ivs_app] at h1
  refine ⟨_, k1, k2, ivs_si h1, ?_, fun hV o ho => IsCost.applied (P := ⟨M, na, x, ny + (na - i), _⟩) (h.apl.end (m := na - i) (by omega)) rfl (fun j _ => rfl) ho⟩
  unfold isWord
  rw [Bool.and_eq_true]
  refine ⟨by have := h.le; simp; omega, wordB_iff.2 fun j hj => ?_⟩
  by_cases e : j < ny
  · simp only [if_pos e]; exact h.wd j e
  · simp only [if_neg e]; exact hw _ (by omega)
end
theorem ge_better {c u : Rat} (h : u ≤ c) : 0 ≤ cmpV (.fin c) (.fin u) := by
  show 0 ≤ cmpQ c u
  rcases cmpQ_cases c u with ⟨h1, _⟩ | ⟨_, h1⟩ | ⟨_, h1⟩
  · exact absurd h (Rat.not_le.2 h1)
  · rw [h1]; omega
  · rw [h1]; omega
set_option maxHeartbeats 16000000 in
theorem editsApplied_any {M : EM} {v xv zv : Value} {na nc : Nat} {x z : Nat → Int} (w : World) (hM : Em none w v M) (hs : ESz M) (hx : Si none w xv na x) (hz : Si none w zv nc z) (ht : Tab w) : Calls Tryz.prog 9 #[v, xv, zv] w (TrueB w) := by
  obtain ⟨sv, rfl, hS⟩ := hM
  have hna := le_of_len hx
  have hnc := le_of_len hz
  obtain ⟨a, cap, b, off, A, A', C, C', rfl, ha, hcp, hcm, hbb, hrow⟩ := hS.open
  obtain ⟨ax, cx, bx, ox, rfl, hax, _, _, hbx0, hxc⟩ := hx.open
  obtain ⟨az, cz, bz, oz, rfl, haz, _, _, hbz0, hzc⟩ := hz.open
  obtain ⟨i0, hi0, hy0, hy1, hy2⟩ := info_parts2 info_int1
  have HI0 := Lib.hid hi0; clear hi0
  have HY0 := Lib.hid hy0; clear hy0
  have HY1 := Lib.hid hy1; clear hy1
  have HY2 := Lib.hid hy2; clear hy2
  obtain ⟨w1, hw1⟩ : ∃ w1, w1 = w.alloc (.cells #[.slice a M.n cap, .int .i64 M.most] 24) := ⟨_, rfl⟩
  obtain ⟨mb, hmb⟩ : ∃ mb, mb = w.heap.size := ⟨_, rfl⟩
  have hf1 : Fr (fun _ => False) w w1 := by rw [hw1]; exact Fr.alloc _ _
  have hbx : BoxE w1 mb M (.slice a M.n cap) := by rw [hw1, hmb]; exact BoxE.new w M _
  have hb1 : Below w.heap.size w w1 := hf1.below (Nat.le_refl _) (fun _ e => e.elim)
  have hex : ∀ W, Below w.heap.size w W → Calls Tryz.prog 12 #[] W (TrueB W) := fun W h => example37_any W (ht.below h (Nat.le_refl _))
  have hed : ∀ W, Below w.heap.size w W → EdS none W (.slice a M.n cap) M := fun W h => hS.kept (gb_below h none)
  have hco := fun W (h : Below w.heap.size w W) (yv : Value) (nb : Nat) (y : Nat → Int) (hy : Si none W yv nb y) => ecost_any W (⟨_, rfl, hed W h⟩ : Em none W (.agg #[.slice a M.n cap, .int .i64 M.most]) M) hs (ht.below h (Nat.le_refl _)) (hx.kept (gb_below h none)) hy
  have hla := fun W (h : Below w.heap.size w W) => large37_any W (hed W h)
  have hva := fun W (h : Below w.heap.size w W) => evalid_any W (⟨_, rfl, hed W h⟩ : Em none W (.agg #[.slice a M.n cap, .int .i64 M.most]) M) hs (ht.below h (Nat.le_refl _))
  have hwo := fun W (h : Below w.heap.size w W) => rword_any W (hx.kept (gb_below h none)) hna
  have hfa := fun W (h : Below w.heap.size w W) => far37_any (n := 1) (b := W.heap.size) (V := fun _ => .slice ax na cx) (L := fun _ => na) (W.alloc (.cells #[.slice ax na cx] 27)) (by omega)
    (fun i hi => by
      have h2 : Below w.heap.size w (W.alloc (.cells #[.slice ax na cx] 27)) := h.alloc h.size _
      have hn := heap_alloc_new W (.cells #[.slice ax na cx] 27)
      generalize W.alloc (.cells #[.slice ax na cx] 27) = WW at hn h2
      obtain rfl : i = 0 := by omega
      exact ⟨by simp [World.cell?, hn], x, hx.kept (gb_below h2 none)⟩)
    (fun i _ => hna)
  have hbg := fun W (h : Below w.heap.size w W) (i e : Nat) (hi : i ≤ na) (he : e < M.n) => lbegins_any W (Si.drop (hx.kept (gb_below h none)) hi) ((hrow e he).2.2.2.1.kept (gb_below h none)) (by omega) (by have := hs.f e; omega)
  have had := fun W (h : Below w.heap.size w W) (s : ByteArray) (hs1 : s.size ≤ 9223372036854775807) (e : Nat) => qadd_any s (M.e e).w W hs1 (by have := hs.w e; omega) (ht.below h (Nat.le_refl _))
  have hbe := fun W (h : Below w.heap.size w W) (s t : ByteArray) (hs1 : s.size ≤ 9223372036854775807) (ht1 : t.size ≤ 9223372036854775807) => sbetter_1 s t W hs1 ht1 (ht.below h (Nat.le_refl _))
  have hft := hs.f
  have htt := hs.t
  have m0 := hbx.c0
  have m1 := hbx.c1
  have HEX := Lib.hid hex; clear hex
  have HCO := Lib.hid hco; clear hco
  have HLA := Lib.hid hla; clear hla
  have HFA := Lib.hid hfa; clear hfa
  have HVA := Lib.hid hva; clear hva
  have HWO := Lib.hid hwo; clear hwo
  have HBG := Lib.hid hbg; clear hbg
  have HAD := Lib.hid had; clear had
  have HBE := Lib.hid hbe; clear hbe
  have HB1 := Lib.hid hb1; clear hb1
  have HBM := Lib.hid hbx; clear hbx
  have HA := Lib.hid ha; clear ha
  have HBB := Lib.hid hbb; clear hbb
  have HROW := Lib.hid hrow; clear hrow
  have HAX := Lib.hid hax; clear hax
  have HBX := Lib.hid hbx0; clear hbx0
  have HX := Lib.hid hxc; clear hxc
  have HXS := Lib.hid hx; clear hx
  have HAZ := Lib.hid haz; clear haz
  have HBZ := Lib.hid hbz0; clear hbz0
  have HZ := Lib.hid hzc; clear hzc
  have HFT := Lib.hid hft; clear hft
  have HTT := Lib.hid htt; clear htt
  clear hS hs ht hf1 hed hz hcp hcm
  go_enter Tryz.func9, Tryz.ntmps9
  go_wp2_with fail
  rw [← hw1, ← hmb]
  clear hw1 hmb
  refine (HLA.out w1 HB1.out).mono ?_
  rintro rr w2 ⟨rfl, hb2⟩
  have HB2 := Lib.hid (HB1.out.trans (hb2.mono HB1.out.size))
  have HBX2 := Lib.hid (show BoxE w2 mb M (.slice a M.n cap) from (hb2.block mb HBM.out.lt).trans HBM.out)
  clear hb2 m0 m1 HB1 HBM HLA
  by_cases h6 : (60 : Int) < (M.n : Int)
  · have h6' : decide ((60 : Int) < (M.n : Int)) = true := by simp; omega
    go_wp2_with fail
    refine (HEX.out w2 HB2.out).mono ?_
    rintro rr w3 ⟨rfl, hb3⟩
    have HB3 := Lib.hid ((HB2.out).trans (hb3.mono (HB2.out).size))
    clear hb3
    go_wp2_with fail
    go_ret
    exact ⟨rfl, HB3.out⟩
  have h6' : decide ((60 : Int) < (M.n : Int)) = false := by simp; omega
  have hb3 : Below w.heap.size w (w2.alloc (.cells #[.slice ax na cx] 27)) := HB2.out.alloc HB2.out.size _
  have hbx3 : BoxE (w2.alloc (.cells #[.slice ax na cx] 27)) mb M (.slice a M.n cap) := ((Fr.alloc (C := fun _ => False) w2 _).block mb HBX2.out.lt (fun e => e)).trans HBX2.out
  have HB3 := Lib.hid hb3; clear hb3
  have HBX3 := Lib.hid hbx3; clear hbx3
  go_wp2_with fail
  refine (HFA.out w2 HB2.out).mono ?_
  rintro rr w4 ⟨fb, rfl, hfb, hb4⟩
  have HB4 := Lib.hid (HB3.out.trans (hb4.mono HB3.out.size))
  have HBX4 := Lib.hid (show BoxE w4 mb M (.slice a M.n cap) from (hb4.block mb HBX3.out.lt).trans HBX3.out)
  have m0 := HBX4.out.c0
  have m1 := HBX4.out.c1
  clear hb4 HB3 HBX3 HB2 HBX2 HFA
  cases fb
  rotate_left
  · clear hfb
    go_wp2_with fail
    refine (HEX.out w4 HB4.out).mono ?_
    rintro rr w5 ⟨rfl, hb5⟩
    have HB5 := Lib.hid ((HB4.out).trans (hb5.mono (HB4.out).size))
    clear hb5
    go_wp2_with fail
    go_ret
    exact ⟨rfl, HB5.out⟩
  have hn12 : na ≤ 12 := Nat.le_of_not_lt fun h => by
    have := hfb.2 ⟨0, by omega, h⟩
    cases this
  clear hfb
  by_cases h30 : (30 : Int) < (nc : Int)
  · have h30' : decide ((30 : Int) < (nc : Int)) = true := by simp; omega
    go_wp2_with fail
    refine (HEX.out w4 HB4.out).mono ?_
    rintro rr w5 ⟨rfl, hb5⟩
    have HB5 := Lib.hid ((HB4.out).trans (hb5.mono (HB4.out).size))
    clear hb5
    go_wp2_with fail
    go_ret
    exact ⟨rfl, HB5.out⟩
  have h30' : decide ((30 : Int) < (nc : Int)) = false := by simp; omega
  go_wp2_with fail
  refine (HVA.out w4 HB4.out).mono ?_
  rintro rr w5 ⟨hb5, hr5⟩
  obtain ⟨bv, rfl, hbv⟩ : ∃ bv, rr = .returned (.bool bv) ∧ (bv = true → VE M) := by
    rcases hr5 with ⟨h, rfl⟩ | ⟨h, rfl⟩
    · exact ⟨true, rfl, fun _ => h⟩
    · exact ⟨false, rfl, fun e => by cases e⟩
  have HB5 := Lib.hid (HB4.out.trans (hb5.mono HB4.out.size))
  have HBX5 := Lib.hid (show BoxE w5 mb M (.slice a M.n cap) from (hb5.block mb HBX4.out.lt).trans HBX4.out)
  clear hb5 hr5 HB4 HBX4 HVA m0 m1
  cases bv
  · clear hbv
    go_wp2_with fail
    refine (HEX.out w5 HB5.out).mono ?_
    rintro rr w6 ⟨rfl, hb6⟩
    have HB6 := Lib.hid ((HB5.out).trans (hb6.mono (HB5.out).size))
    clear hb6
    go_wp2_with fail
    go_ret
    exact ⟨rfl, HB6.out⟩
  have HV := Lib.hid (hbv rfl); clear hbv
  go_wp2_with fail
  refine (HWO.out w5 HB5.out).mono ?_
  rintro rr w6 ⟨rfl, rfl⟩
  clear HWO
  cases hiw : isWord na x
  · go_wp2_with fail
    refine (HEX.out w6 HB5.out).mono ?_
    rintro rr w7 ⟨rfl, hb7⟩
    have HB7 := Lib.hid ((HB5.out).trans (hb7.mono (HB5.out).size))
    clear hb7
    go_wp2_with fail
    go_ret
    exact ⟨rfl, HB7.out⟩
  have HIW := Lib.hid hiw
  have HWX := Lib.hid (show wordI na x 500 from wordB_iff.1 (by unfold isWord at hiw; rw [Bool.and_eq_true] at hiw; exact hiw.2))
  clear hiw
  have hnn : M.n ≤ 60 := by omega
  have hc30 : nc ≤ 30 := by omega
  clear h6 h6' h30 h30'
  have HI := Lib.hid (show ApI w w6 mb M (.slice a M.n cap) na x 0 0 0 0 (.slice none 0 0) ⟨#[48]⟩ 0 x from ⟨HBX5.out, World.ownsRow_nil _ _ _ _, HB5.out, prs_0s, Apl.start M na x x, Nat.le_refl _, HV.out.m0, fun j hj => absurd hj (Nat.not_lt_zero _)⟩)
  clear HB5 HBX5
  go_wp2_with fail
  go_loopw [7, 8, 9, 10, 11] (fun v7 v8 v9 v10 v11 wr => ∃ (q k i ny : Nat) (yv : Value) (ws : ByteArray) (c : Rat) (yy : Nat → Int), q ≤ nc ∧ yv = v7 ∧ v8 = .string ws ∧ v9 = .int .i64 (i : Int) ∧ v10 = .int .i64 (k : Int) ∧ v11 = .int .i64 (q : Int) ∧ ApI w wr mb M (.slice a M.n cap) na x q k i ny yv ws c yy) (fun _ _ _ _ v11 _ => nc - (intOf v11).toNat)
  case atStart => exact ⟨0, 0, 0, 0, _, _, 0, x, Nat.zero_le _, rfl, rfl, rfl, rfl, rfl, HI.out⟩
  case round =>
    obtain ⟨q, k, i, ny, yv, ws, c, yy, hq, rfl, rfl, rfl, rfl, rfl, hiv⟩ := hrel
    clear HI
    have HIV := Lib.hid hiv; clear hiv
    have m0 := HIV.out.km.c0
    have m1 := HIV.out.km.c1
    have hws : ws.size ≤ 9223372036854775807 := by
      obtain ⟨rfl, hf⟩ := txt_prs HIV.out.num
      have := txt_size hf; omega
    have HWS := Lib.hid hws; clear hws
    by_cases hqt : q < nc
    · have hqz : (q : Int) < (nc : Int) := by omega
      have hqz0 : (0 : Int) ≤ (q : Int) := by omega
      obtain rfl := HAZ.out (by omega)
      have cz0 := (HIV.out.be.cell (p := ⟨bz, oz + q, none⟩) (HBZ.out (by omega)).1).trans (HZ.out q hqt)
      obtain ⟨ch, hch⟩ : ∃ ch, ch = z q := ⟨_, rfl⟩
      rw [← hch] at cz0
      clear hch
      by_cases hk0 : ch < 0
      · have hk0' : decide (ch < 0) = true := by simp; omega
        by_cases hit : i < na
        · have hiz : (i : Int) < (na : Int) := by omega
          have hiz0 : (0 : Int) ≤ (i : Int) := by omega
          obtain rfl := HAX.out (by omega)
          have cx0 := (HIV.out.be.cell (p := ⟨bx, ox + i, none⟩) (HBX.out (by omega)).1).trans (HX.out i hit)
          obtain ⟨ya, yc, hyv, _, _⟩ := row_any HIV.out.row
          subst hyv
          have hadd : ∀ (we : World) (go cp : Nat), we.ownsRow w.heap.size 3 1 (.slice (some ⟨go, 0, none⟩) (ny + 1) cp) (ny + 1) (ivs ny yy ++ [.int .i64 (x i)]) → (wr.alloc (.cells #[.int .i64 (x i)] 3)).grownBy we (Value.slice ya ny yc).ownBlock →
              ApI w we mb M (.slice a M.n cap) na x (q + 1) k (i + 1) (ny + 1) (.slice (some ⟨go, 0, none⟩) (ny + 1) cp) ws c (fun j => if j < ny then yy j else x i) := fun we go cp h1 h2 => HIV.out.copy hit HWX.out h1 h2
          have HADD := Lib.hid hadd; clear hadd
          have hny := HIV.out.le
          have hsz := HIV.out.be.size
          have HOW := Lib.hid HIV.out.row
          obtain ⟨xi, hxi⟩ : ∃ xi, xi = x i := ⟨_, rfl⟩
          rw [← hxi] at cx0 HADD
          clear hxi
          go_wp2_with (at_builtin; refine wpList_append_lies _ rfl (.tmp 70) (.tmp 75) 27 rfl w.heap.size 3 i0 (.int .i64 0) 1 8 Tryz.underlying27 HI0.out HY0.out HY1.out HY2.out rfl (by omega) (.slice ya ny yc) ny _ (by first | rfl | simp [Act.eval, Act.put]) (World.ownsRow.alloc HOW.out _) ⟨wr.heap.size, 0, none⟩ 1 1 [.int .i64 xi] (by first | rfl | simp [Act.eval, Act.put]) rfl (news_st (cs := #[.int .i64 xi]) (heap_alloc_new wr _)) (one_cell _ _) (by omega) (by unfold maxLen; omega) (by omega) (by simp; omega) _ rfl ?_; intro go cp we hown2 hgrow hat hlt; have HT := Lib.hid (HADD.out we go cp hown2 hgrow); clear hown2 hgrow hat hlt)
          go_roundw
          case rel => exact ⟨q + 1, k, i + 1, ny + 1, _, ws, c, _, by omega, rfl, rfl, by go_num, by first | rfl | rw [hk2], by go_num, HT.out⟩
          case measure => simp [intOf]; omega
        · have hgt : ¬ ((i : Int) < (na : Int)) := by omega
          have hgt' : decide ((i : Int) < (na : Int)) = false := by simp; omega
          go_wp2_with fail
          go_roundw
          case rel => exact ⟨q + 1, k, i, ny, yv, ws, c, yy, by omega, rfl, rfl, rfl, by first | rfl | rw [hk2], by go_num, HIV.out.next⟩
          case measure => simp [intOf]; omega
      have hk0' : decide (ch < 0) = false := by simp; omega
      by_cases hk1 : (M.n : Int) ≤ ch
      · have hk1' : decide ((M.n : Int) ≤ ch) = true := by simp; omega
        by_cases hit : i < na
        · have hiz : (i : Int) < (na : Int) := by omega
          have hiz0 : (0 : Int) ≤ (i : Int) := by omega
          obtain rfl := HAX.out (by omega)
          have cx0 := (HIV.out.be.cell (p := ⟨bx, ox + i, none⟩) (HBX.out (by omega)).1).trans (HX.out i hit)
          obtain ⟨ya, yc, hyv, _, _⟩ := row_any HIV.out.row
          subst hyv
          have hadd : ∀ (we : World) (go cp : Nat), we.ownsRow w.heap.size 3 1 (.slice (some ⟨go, 0, none⟩) (ny + 1) cp) (ny + 1) (ivs ny yy ++ [.int .i64 (x i)]) → (wr.alloc (.cells #[.int .i64 (x i)] 3)).grownBy we (Value.slice ya ny yc).ownBlock →
              ApI w we mb M (.slice a M.n cap) na x (q + 1) k (i + 1) (ny + 1) (.slice (some ⟨go, 0, none⟩) (ny + 1) cp) ws c (fun j => if j < ny then yy j else x i) := fun we go cp h1 h2 => HIV.out.copy hit HWX.out h1 h2
          have HADD := Lib.hid hadd; clear hadd
          have hny := HIV.out.le
          have hsz := HIV.out.be.size
          have HOW := Lib.hid HIV.out.row
          obtain ⟨xi, hxi⟩ : ∃ xi, xi = x i := ⟨_, rfl⟩
          rw [← hxi] at cx0 HADD
          clear hxi
          go_wp2_with (at_builtin; refine wpList_append_lies _ rfl (.tmp 70) (.tmp 75) 27 rfl w.heap.size 3 i0 (.int .i64 0) 1 8 Tryz.underlying27 HI0.out HY0.out HY1.out HY2.out rfl (by omega) (.slice ya ny yc) ny _ (by first | rfl | simp [Act.eval, Act.put]) (World.ownsRow.alloc HOW.out _) ⟨wr.heap.size, 0, none⟩ 1 1 [.int .i64 xi] (by first | rfl | simp [Act.eval, Act.put]) rfl (news_st (cs := #[.int .i64 xi]) (heap_alloc_new wr _)) (one_cell _ _) (by omega) (by unfold maxLen; omega) (by omega) (by simp; omega) _ rfl ?_; intro go cp we hown2 hgrow hat hlt; have HT := Lib.hid (HADD.out we go cp hown2 hgrow); clear hown2 hgrow hat hlt)
          go_roundw
          case rel => exact ⟨q + 1, k, i + 1, ny + 1, _, ws, c, _, by omega, rfl, rfl, by go_num, by first | rfl | rw [hk2], by go_num, HT.out⟩
          case measure => simp [intOf]; omega
        · have hgt : ¬ ((i : Int) < (na : Int)) := by omega
          have hgt' : decide ((i : Int) < (na : Int)) = false := by simp; omega
          go_wp2_with fail
          go_roundw
          case rel => exact ⟨q + 1, k, i, ny, yv, ws, c, yy, by omega, rfl, rfl, rfl, by first | rfl | rw [hk2], by go_num, HIV.out.next⟩
          case measure => simp [intOf]; omega
      have hk1' : decide ((M.n : Int) ≤ ch) = false := by simp; omega
      by_cases hk2 : (k : Int) = M.most
      · have hk2' : decide ((k : Int) = M.most) = true := by simp; omega
        have hk2b : ((k : Int) == M.most) = true := by simp; omega
        by_cases hit : i < na
        · have hiz : (i : Int) < (na : Int) := by omega
          have hiz0 : (0 : Int) ≤ (i : Int) := by omega
          obtain rfl := HAX.out (by omega)
          have cx0 := (HIV.out.be.cell (p := ⟨bx, ox + i, none⟩) (HBX.out (by omega)).1).trans (HX.out i hit)
          obtain ⟨ya, yc, hyv, _, _⟩ := row_any HIV.out.row
          subst hyv
          have hadd : ∀ (we : World) (go cp : Nat), we.ownsRow w.heap.size 3 1 (.slice (some ⟨go, 0, none⟩) (ny + 1) cp) (ny + 1) (ivs ny yy ++ [.int .i64 (x i)]) → (wr.alloc (.cells #[.int .i64 (x i)] 3)).grownBy we (Value.slice ya ny yc).ownBlock →
              ApI w we mb M (.slice a M.n cap) na x (q + 1) k (i + 1) (ny + 1) (.slice (some ⟨go, 0, none⟩) (ny + 1) cp) ws c (fun j => if j < ny then yy j else x i) := fun we go cp h1 h2 => HIV.out.copy hit HWX.out h1 h2
          have HADD := Lib.hid hadd; clear hadd
          have hny := HIV.out.le
          have hsz := HIV.out.be.size
          have HOW := Lib.hid HIV.out.row
          obtain ⟨xi, hxi⟩ : ∃ xi, xi = x i := ⟨_, rfl⟩
          rw [← hxi] at cx0 HADD
          clear hxi
          go_wp2_with (at_builtin; refine wpList_append_lies _ rfl (.tmp 70) (.tmp 75) 27 rfl w.heap.size 3 i0 (.int .i64 0) 1 8 Tryz.underlying27 HI0.out HY0.out HY1.out HY2.out rfl (by omega) (.slice ya ny yc) ny _ (by first | rfl | simp [Act.eval, Act.put]) (World.ownsRow.alloc HOW.out _) ⟨wr.heap.size, 0, none⟩ 1 1 [.int .i64 xi] (by first | rfl | simp [Act.eval, Act.put]) rfl (news_st (cs := #[.int .i64 xi]) (heap_alloc_new wr _)) (one_cell _ _) (by omega) (by unfold maxLen; omega) (by omega) (by simp; omega) _ rfl ?_; intro go cp we hown2 hgrow hat hlt; have HT := Lib.hid (HADD.out we go cp hown2 hgrow); clear hown2 hgrow hat hlt)
          go_roundw
          case rel => exact ⟨q + 1, k, i + 1, ny + 1, _, ws, c, _, by omega, rfl, rfl, by go_num, by first | rfl | rw [hk2], by go_num, HT.out⟩
          case measure => simp [intOf]; omega
        · have hgt : ¬ ((i : Int) < (na : Int)) := by omega
          have hgt' : decide ((i : Int) < (na : Int)) = false := by simp; omega
          go_wp2_with fail
          go_roundw
          case rel => exact ⟨q + 1, k, i, ny, yv, ws, c, yy, by omega, rfl, rfl, rfl, by first | rfl | rw [hk2], by go_num, HIV.out.next⟩
          case measure => simp [intOf]; omega
      have hk2' : decide ((k : Int) = M.most) = false := by simp; omega
      have hk2b : ((k : Int) == M.most) = false := by simp; omega
      obtain ⟨e, rfl⟩ : ∃ e : Nat, ch = (e : Int) := ⟨ch.toNat, by omega⟩
      have hen : e < M.n := by omega
      have hkm : (k : Int) < M.most := by have := HIV.out.kle; omega
      have hez : (e : Int) < (M.n : Int) := by omega
      have hez0 : (0 : Int) ≤ (e : Int) := by omega
      obtain rfl := HA.out (by omega)
      have hbl := (HBB.out (by omega)).1
      obtain ⟨k1, k2, k3, _, k5⟩ := HROW.out e hen
      have c0 := (HIV.out.be.cell (p := ⟨b, off + e * 3, none⟩) hbl).trans k1
      have c1 := (HIV.out.be.cell (p := ⟨b, off + e * 3 + 1, none⟩) hbl).trans k2
      have c2 := (HIV.out.be.cell (p := ⟨b, off + e * 3 + 2, none⟩) hbl).trans k3
      have HK5 := Lib.hid k5
      have hnf := HFT.out e
      have hnt := HTT.out e
      have hn6 := (HV.out.ok e hen).t6
      have hf6 := (HV.out.ok e hen).f6
      clear k1 k2 k3 k5 hk0 hk1 hk2
      have hBD : Below w.heap.size w (wr.alloc (.cells #[.slice (A e) (M.e e).nf (C e), .slice (A' e) (M.e e).nt (C' e), .string (M.e e).w] 50)).drew := (HIV.out.be.alloc HIV.out.be.size _).drew
      have hia : i ≤ na := HIV.out.apl.1
      have hbg := HBG.out _ hBD i e hia hen
      obtain ⟨bg, hbgv⟩ : ∃ bg, bg = bgB (na - i) (M.e e).nf (fun t => x (i + t)) (M.e e).f := ⟨_, rfl⟩
      rw [← hbgv] at hbg
      have had := fun W h => HAD.out W h ws HWS.out e
      obtain ⟨ad, hadv⟩ : ∃ ad, ad = qaddF ws (M.e e).w := ⟨_, rfl⟩
      rw [← hadv] at had
      have had2 : ad.2 = 0 → prs ad.1 = some (c + qv (M.e e).w) := fun h0 => by
        have h1 : qaddF ws (M.e e).w = limR (c + qv (M.e e).w) := by unfold qaddF; rw [HIV.out.num, (HV.out.ok e hen).q]
        by_cases hf : fitQ (c + qv (M.e e).w)
        · rw [h1, limR_fit hf] at hadv
          rw [hadv]; exact prs_txt hf
        · rw [h1, limR_long hf] at hadv
          rw [hadv] at h0; cases h0
      have hbgs : bg = true → bgs na x i (M.e e).nf (M.e e).f := fun hb => by
        rw [hbgv] at hb
        obtain ⟨h1, h2⟩ := bgB_iff.1 hb
        have := HIV.out.apl.1
        exact ⟨by omega, h2⟩
      have hadd : ∀ (W we : World) (g : Option Addr) (cp : Nat), Fr (fun _ => False) wr W → bg = true → ad.2 = 0 → we.ownsRow w.heap.size 3 1 (.slice g (ny + (M.e e).nt) cp) (ny + (M.e e).nt) (ivs ny yy ++ ivs (M.e e).nt (M.e e).t) → W.grownBy we yv.ownBlock →
          ApI w we mb M (.slice (some ⟨b, off, none⟩) M.n cap) na x (q + 1) (k + 1) (i + (M.e e).nf) (ny + (M.e e).nt) (.slice g (ny + (M.e e).nt) cp) ad.1 (c + qv (M.e e).w) (fun j => if j < ny then yy j else (M.e e).t (j - ny)) := fun W we g cp h0 hb ha h1 h2 =>
        (HIV.out.fr h0).edit HV.out hen hkm (hbgs hb) (had2 ha) h1 h2
      have HADD := Lib.hid hadd; clear hadd had2 hbgs
      have HBGC := Lib.hid hbg; clear hbg
      have HADC := Lib.hid had; clear had
      have hnfi : i + (M.e e).nf ≤ 4611686018427387903 + 12 := by have := HIV.out.apl.1; omega
      obtain ⟨nt, hnte⟩ : ∃ nt, nt = (M.e e).nt := ⟨_, rfl⟩
      obtain ⟨nf, hnfe⟩ : ∃ nf, nf = (M.e e).nf := ⟨_, rfl⟩
      obtain ⟨ds, hds⟩ : ∃ ds, ds = (M.e e).w := ⟨_, rfl⟩
      rw [← hnte] at c1 HK5 hnt hn6
      rw [← hnfe] at c0 hnf hnfi hf6
      rw [← hds] at c2
      rw [← hnte, ← hnfe] at HADD
      rw [← hnte, ← hnfe, ← hds] at HBGC
      rw [← hds] at HADC
      clear hbgv hadv
      have HNTE := Lib.hid hnte; clear hnte
      have HNFE := Lib.hid hnfe; clear hnfe
      have HDSE := Lib.hid hds; clear hds
      obtain ⟨wa, hwa⟩ : ∃ wa, wa = wr.alloc (.cells #[.slice (A e) nf (C e), .slice (A' e) nt (C' e), .string ds] 50) := ⟨_, rfl⟩
      obtain ⟨db, hdb⟩ : ∃ db, db = wr.heap.size := ⟨_, rfl⟩
      have hnd : wa.drew.heap[db]? = some (.cells #[.slice (A e) nf (C e), .slice (A' e) nt (C' e), .string ds] 50 (0, 0)) := by rw [hwa, hdb]; exact heap_alloc_new wr _
      have hfd : Fr (fun _ => False) wr wa.drew := by rw [hwa]; exact Fr.of_below (((Below.refl wr.heap.size wr).alloc (Nat.le_refl _) _).drew)
      go_wp2_with fail
      rw [← hwa] at HBGC
      rw [← hwa, ← hdb]
      clear hwa hdb HNTE HNFE HDSE hBD m0 m1 c0 c1 c2 cz0
      have HFD := Lib.hid hfd; clear hfd
      have hS0 : (fun wk : World => wk.cell? ⟨db, 0, none⟩ = some (.slice (A e) nf (C e))) wa.drew := cell_of hnd 0 rfl
      have HND := Lib.hid hnd; clear hnd
      refine region_heldK (fun wk : World => wk.cell? ⟨db, 0, none⟩ = some (.slice (A e) nf (C e))) 6 (by kernel_rfl) ?_
      refine AnyK.tk (i := 0) (v := ?va0) rfl (by kernel_rfl) hS0 (Or.inl ⟨by kernel_rfl, ?hya0⟩) ?resta0
      case hya0 => rintro wk s1; go_simp; try with_reducible rfl
      refine AnyK.tk (i := 1) (v := ?va1) rfl (by kernel_rfl) hS0 (Or.inl ⟨by kernel_rfl, ?hya1⟩) ?resta1
      case hya1 => rintro wk s1; go_simp; try with_reducible rfl
      try simp only [Act.put, List.setIfInBounds_toArray, List.set_cons_zero, List.set_cons_succ, List.getElem_toArray, List.getElem_cons_succ, List.getElem_cons_zero]
      refine AnyK.tk (i := 2) (v := .slice (if cx = i then ax else ax.map (fun p => p.add i)) (na - i) (cx - i)) rfl (by kernel_rfl) hS0 (Or.inl ⟨by kernel_rfl, ?hya2⟩) ?_
      case hya2 => rintro wk s1; go_simp
      refine AnyK.tk (i := 3) (v := ?vb3) rfl (by kernel_rfl) hS0 (Or.inl ⟨by kernel_rfl, ?hyb3⟩) ?restb3
      case hyb3 => rintro wk s1; go_simp; try with_reducible rfl
      refine AnyK.tk (i := 4) (v := ?vb4) rfl (by kernel_rfl) hS0 (Or.inl ⟨by kernel_rfl, ?hyb4⟩) ?restb4
      case hyb4 => rintro wk s1; go_simp; try with_reducible rfl
      try simp only [Act.put, List.setIfInBounds_toArray, List.set_cons_zero, List.set_cons_succ, List.getElem_toArray, List.getElem_cons_succ, List.getElem_cons_zero]
      refine AnyK.one (i := 5) rfl (by kernel_rfl) (by rfl) (fun K hK => ?_)
      go_simp
      refine HBGC.out.mono ?_
      rintro rr w7 ⟨rfl, hb7⟩
      have hf7 : Fr (fun _ => False) wa.drew w7 := Fr.of_below hb7
      have HF7 := Lib.hid (HFD.out.trans hf7)
      have HND7 := Lib.hid ((hb7.block db (lt_of_block HND.out)).trans HND.out)
      have hS7 : (fun wk : World => wk.cell? ⟨db, 0, none⟩ = some (.slice (A e) nf (C e))) w7 := cell_of HND7.out 0 rfl
      clear hb7 hf7 HND HFD HBGC hS0
      refine hK.out _ _ (.inr hS7) ?_
      clear hK K
      try simp only [Act.put, List.setIfInBounds_toArray, List.set_cons_zero, List.set_cons_succ, List.getElem_toArray, List.getElem_cons_succ, List.getElem_cons_zero]
      refine AnyK.one (i := 6) rfl (by kernel_rfl) (by rfl) (fun K hK => ?_)
      go_simp
      refine hK.out _ _ (.inl rfl) (AnyK.done (by kernel_rfl) ?_ _)
      clear hK K hS7
      generalize (if cx = i then ax else ax.map (fun p => p.add i)) = sx
      have HI7 := Lib.hid (HIV.out.fr HF7.out)
      cases bg
      · go_wp2_with fail
        go_roundw
        case rel => exact ⟨q + 1, k, i, ny, yv, ws, c, yy, by omega, rfl, rfl, rfl, rfl, by go_num, HI7.out.next⟩
        case measure => simp [intOf]; omega
      · have d0 := cell_of HND7.out 0 rfl
        have d1 := cell_of HND7.out 1 rfl
        have d2 := cell_of HND7.out 2 rfl
        go_wp2_with fail
        refine (HADC.out w7 HI7.out.be).mono ?_
        rintro rr w8 ⟨rfl, hb8⟩
        have HF8 := Lib.hid (HF7.out.trans (Fr.of_below hb8))
        have HND8 := Lib.hid ((hb8.block db (lt_of_block HND7.out)).trans HND7.out)
        have HI8 := Lib.hid (HIV.out.fr HF8.out)
        clear hb8 HF7 HND7 HI7 HADC d0 d1 d2
        by_cases he2 : ad.2 = 0
        · have hez2 : (ad.2 : Int) = 0 := by omega
          have hezd : decide ((ad.2 : Int) = 0) = true := by simp; omega
          have hezb : ((ad.2 : Int) == 0) = true := by simp; omega
          have hadd := fun we g cp => HADD.out w8 we g cp HF8.out (by first | trivial | rfl) he2
          have HADD2 := Lib.hid hadd; clear hadd HADD
          have d0 := cell_of HND8.out 0 rfl
          have d1 := cell_of HND8.out 1 rfl
          obtain ⟨ya, yc, hyv, _, _⟩ := row_any HI8.out.row
          subst hyv
          have hny := HI8.out.le
          have hsz := HI8.out.be.size
          have HOW := Lib.hid HI8.out.row
          have HNW := Lib.hid (si_news (HK5.out.kept (gb_below HI8.out.be none)))
          have hw1 : IntKind.i64.wrap ((k : Int) + 1) = (k : Int) + 1 := by have := HIV.out.kle; have := HV.out.m6; rw [IntKind.wrap_i64]; omega
          have hw2 : IntKind.i64.wrap ((i : Int) + (nf : Int)) = (i : Int) + (nf : Int) := by rw [IntKind.wrap_i64]; omega
          go_wp2_with (at_builtin; refine wpList_append_any _ rfl (.tmp 109) (.tmp 111) 27 rfl w.heap.size 3 i0 (.int .i64 0) 1 8 Tryz.underlying27 HI0.out HY0.out HY1.out HY2.out rfl (by omega) ya ny yc _ (by first | rfl | simp [Act.eval, Act.put]) HOW.out (A' e) nt (C' e) (ivs nt (M.e e).t) (by first | rfl | simp [Act.eval, Act.put]) (by rw [ivs_len, Nat.mul_one]) HNW.out (ivs_one _ _) (by unfold maxLen; omega) (by omega) hsz ?_; intro g cp we hown2 hgrow; have HT := Lib.hid (HADD2.out we g cp hown2 hgrow); clear hown2 hgrow)
          go_roundw
          case rel => exact ⟨q + 1, k + 1, i + nf, ny + nt, _, _, _, _, by omega, rfl, rfl, by go_num, by go_num, by go_num, HT.out⟩
          case measure => simp [intOf]; omega
        · have hez2 : ¬ ((ad.2 : Int) = 0) := by omega
          have hezd : decide ((ad.2 : Int) = 0) = false := by simp; omega
          have hezb : ((ad.2 : Int) == 0) = false := by simp; omega
          go_wp2_with fail
          refine (HEX.out w8 HI8.out.be).mono ?_
          rintro rr w9 ⟨rfl, hb9⟩
          have HB9 := Lib.hid ((HI8.out.be).trans (hb9.mono (HI8.out.be).size))
          clear hb9
          go_wp2_with fail
          go_ret
          exact ⟨rfl, HB9.out⟩
    · obtain rfl : q = nc := by omega
      have hgt : ¬ ((q : Int) < (q : Int)) := by omega
      obtain ⟨ya, yc, hyv, _, _⟩ := row_any HIV.out.row
      subst hyv
      have hny := HIV.out.le
      have hsz := HIV.out.be.size
      have hia := HIV.out.apl.1
      have hiz : (i : Int) ≤ (na : Int) := by omega
      have hiz0 : (0 : Int) ≤ (i : Int) := by omega
      have HOW := Lib.hid HIV.out.row
      have HNW := Lib.hid (si_news (Si.drop (HXS.out.kept (gb_below HIV.out.be none)) hia))
      have hend := fun we g cp => HIV.out.end (we := we) (v := .slice g (ny + (na - i)) cp) HWX.out hn12 hc30
      have HEND := Lib.hid hend; clear hend
      clear m0 m1
      go_wp2_with (at_builtin; refine wpList_append_any _ rfl (.tmp 113) (.tmp 116) 27 rfl w.heap.size 3 i0 (.int .i64 0) 1 8 Tryz.underlying27 HI0.out HY0.out HY1.out HY2.out rfl (by omega) ya ny yc _ (by first | rfl | simp [Act.eval, Act.put]) HOW.out (if cx = i then ax else ax.map (fun p => p.add i)) (na - i) (cx - i) (ivs (na - i) (fun t => x (i + t))) (by first | rfl | simp [Act.eval, Act.put]) (by rw [ivs_len, Nat.mul_one]) HNW.out (ivs_one _ _) (by unfold maxLen; omega) (by omega) hsz ?_; intro g cp we hown2 hgrow; generalize (if cx = i then ax else ax.map (fun p => p.add i)) = sx; obtain ⟨yy2, hk2, hbe2, hsi2, hiw2, hle2⟩ := HEND.out we g cp hown2 hgrow; have HBE2 := Lib.hid hbe2; have HSI2 := Lib.hid hsi2; have HIW2 := Lib.hid hiw2; have HLE2 := Lib.hid hle2; have HKM2 := Lib.hid hk2; have m0 := hk2.c0; have m1 := hk2.c1; clear hown2 hgrow hk2 hbe2 hsi2 hiw2 hle2 HEND HNW HOW)
      refine (HCO.out we HBE2.out _ _ _ HSI2.out).mono ?_
      rintro rr w9 hr
      obtain ⟨W, E, rfl, hr1, hb9⟩ := hr.val
      have HB9 := Lib.hid (HBE2.out.trans (hb9.mono HBE2.out.size))
      have HR1 := Lib.hid hr1
      clear hr hb9 HCO m0 m1
      rcases hr1.val HV.out HIW.out HIW2.out with h0 | ⟨h2, _⟩
      · clear hr1
        obtain ⟨_, _, _, o, ho, hfo, hW⟩ := HR1.out.ok h0
        obtain ⟨u, rfl, hu⟩ := HLE2.out HV.out o ho
        have hWz : W.size ≤ 9223372036854775807 := by
          rw [hW]; have := txt_size (q := u) hfo; show (txt u).size ≤ _; omega
        have hcf : fitQ c := (txt_prs HIV.out.num).2
        have hwe : ws = costT (some c) := (txt_prs HIV.out.num).1
        have hbt : betterF 1 ws W = cmpV (.fin c) (.fin u) := by
          rw [hwe, hW]; exact better_cost (o := some c) (o' := some u) hcf hfo
        have hge : (0 : Int) ≤ betterF 1 ws W := by rw [hbt]; exact ge_better hu
        have hbc := HBE.out w9 HB9.out ws W HWS.out hWz
        obtain ⟨bt, hbte⟩ : ∃ bt, bt = betterF 1 ws W := ⟨_, rfl⟩
        rw [← hbte] at hge hbc
        have HBC := Lib.hid hbc; clear hbc
        have hge' : decide ((0 : Int) ≤ bt) = true := by simp; omega
        subst h0
        clear hbte hbt hwe hcf hWz ho hfo hu hW HR1
        go_wp2_with fail
        refine HBC.out.mono ?_
        rintro rr w10 ⟨rfl, hb10⟩
        have HB10 := Lib.hid (HB9.out.trans (hb10.mono HB9.out.size))
        clear hb10 HBC
        go_wp2_with fail
        refine (HEX.out w10 HB10.out).mono ?_
        rintro rr w11 ⟨rfl, hb11⟩
        have HB11 := Lib.hid ((HB10.out).trans (hb11.mono (HB10.out).size))
        clear hb11
        go_wp2_with fail
        go_ret
        exact ⟨rfl, HB11.out⟩
      · clear hr1 HR1
        subst h2
        go_wp2_with fail
        refine (HEX.out w9 HB9.out).mono ?_
        rintro rr w10 ⟨rfl, hb10⟩
        have HB10 := Lib.hid ((HB9.out).trans (hb10.mono (HB9.out).size))
        clear hb10
        go_wp2_with fail
        go_ret
        exact ⟨rfl, HB10.out⟩
end Go.Proofs.YtjekapjbigfkbaaGreatDoor

namespace Go.Proofs.YtjekapjbigfkbaaGreatDoor
open Go Go.RowKit Go.Deep Go.ChangeShapes Go.WideShapes
set_option maxRecDepth 100000
end Go.Proofs.YtjekapjbigfkbaaGreatDoor
namespace Go.Proofs.YtjekapjbigfkbaaGreatDoor
open Go Go.RowKit Go.Deep Go.ChangeShapes Go.WideShapes Go.Joins
set_option maxRecDepth 100000
theorem weightsAll_mem {H : Type} {P : Program} {e : TypeId} {d : DataW H} {n : Nat} : ∀ {ds : List (DataW H)}, d ∈ ds → n ∈ d.weights P e → n ∈ DataW.weightsAll P e ds
  | d0 :: r, h, hn => by
    simp only [DataW.weightsAll, List.mem_append]
    rcases List.mem_cons.1 h with rfl | h
    · exact .inl hn
    · exact .inr (weightsAll_mem h hn)
theorem slice_weight {H : Type} {t e : TypeId} {el sp : List (DataW H)} (hu : Tryz.prog.underlying t = some (.slice e)) (hB : 1 ≤ Tryz.prog.bytesOf e) {b : Nat} (hb : ∀ m ∈ (DataW.slice el sp).weights Tryz.prog t, m ≤ b) : el.length ≤ b := by
  have h := hb ((el.length + sp.length) * Tryz.prog.bytesOf e) (by simp [DataW.weights, hu])
  have := Nat.le_mul_of_pos_right (el.length + sp.length) hB
  omega
theorem weights_part {H : Type} {t e : TypeId} {el sp : List (DataW H)} {d : DataW H} {m : Nat} (hu : Tryz.prog.underlying t = some (.slice e)) (hd : d ∈ el) (hm : m ∈ d.weights Tryz.prog e) : m ∈ (DataW.slice el sp).weights Tryz.prog t := by
  simp only [DataW.weights, hu, List.mem_cons, List.mem_append]
  exact .inr (.inl (weightsAll_mem hd hm))
end Go.Proofs.YtjekapjbigfkbaaGreatDoor

namespace Go.Proofs.YtjekapjbigfkbaaGreatDoor
open Go Go.RowKit Go.Deep Go.ChangeShapes Go.WideShapes
set_option maxRecDepth 100000
theorem arg_ints {H : Type} {enc : TypeId × Value → H} {W : World} {held : Bool} {fuel : Nat} {v : Value} {x : DataW H × List MemPlace} (h : DataW.trod enc Tryz.prog W 0 (fun _ => true) held fuel 27 [v] = some x) :
    ∃ (n : Nat) (wk : Nat → Int), Rd none W v n fun i => .int .i64 (wk i) := by
  rcases open_slice1 Tryz.underlying27 (by kernel_rfl) h with ⟨hc, _⟩ | ⟨a, len, cap, m, n', V, D, Pl, hc, _, hl, hm, hmm, _, hx⟩
  · simp only [List.cons.injEq, and_true] at hc
    exact ⟨0, fun _ => 0, .inl ⟨rfl, none, 0, hc, Nat.zero_le _⟩⟩
  · simp only [List.cons.injEq, and_true] at hc
    simp only [if_true] at hmm
    subst hmm
    classical
    have hall : ∀ i, ∃ z : Int, i < m → V i = .int .i64 z := fun i => by
      by_cases hi : i < m
      · obtain ⟨z, hz, _⟩ := DataW.trod_int Tryz.underlying3 (hx i hi).2
        exact ⟨z, fun _ => by simpa using hz⟩
      · exact ⟨0, fun h => absurd h hi⟩
    refine ⟨len, fun i => Classical.choose (hall i), ?_⟩
    by_cases h0 : len = 0
    · subst h0; exact .inl ⟨rfl, some a, m, hc, hm⟩
    · have c0 := (hx 0 (by omega)).1
      have hs : a.spot = none := by simpa [Addr.add] using World.cell?_spot c0
      obtain ⟨b, off, sp⟩ := a
      simp only at hs; subst hs
      refine .inr ⟨b, off, m, hc, ⟨?_, by simp⟩, hl, hm, fun j hj => ?_⟩
      · have := World.block_lt_of_cell? _ _ c0
        rw [Addr.add_lit] at this; exact this
      · have := (hx j (by omega)).1
        rw [Addr.add_lit, Classical.choose_spec (hall j) (by omega)] at this; exact this
end Go.Proofs.YtjekapjbigfkbaaGreatDoor
