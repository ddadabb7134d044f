/- The walk of abugidalaw07.ClosureKnown: it returns true. (The walk's lines are written by gencloknown.py.) -/
import Derived.Test.YtlmfppjphblemaaGreatDoorC10
namespace Go.Proofs.YtlmfppjphblemaaGreatDoor
set_option maxRecDepth 100000
set_option linter.unusedSimpArgs false
open Go Go.RowKit Go.Deep

def K1 := tb2 ⟨#[49, 47, 50]⟩ ⟨#[50]⟩ ⟨#[49, 47, 52]⟩ ⟨#[48]⟩
def K2 : Nat → Nat → ByteArray := fun _ _ => ⟨#[49]⟩
def K3 : Nat → Nat → ByteArray := fun _ _ => ⟨#[50]⟩
theorem K1_sq : Sq 3 2 (fun _ => 2) K1 := sq_of (by decide +kernel)
theorem K2_sq : Sq 2 1 (fun _ => 1) K2 := sq_of (by decide +kernel)
theorem K3_sq : Sq 3 1 (fun _ => 1) K3 := sq_of (by decide +kernel)
theorem K1_fit : FitM 2 (fun i j => wval k3 (K1 i j)) := fitM_of (by decide +kernel)
theorem K2_fit : FitM 1 (fun i j => wval k2 (K2 i j)) := fitM_of (by decide +kernel)
theorem K3_fit : FitM 1 (fun i j => wval k3 (K3 i j)) := fitM_of (by decide +kernel)
theorem K1_val : ∀ i, i < 2 → ∀ j, j < 2 → rdV (tb2 ⟨#[49]⟩ ⟨#[50]⟩ ⟨#[49, 47, 52]⟩ ⟨#[49]⟩ i j) = some (CSR.starM (fun i j => wval k3 (K1 i j)) 2 i j).1 := by decide +kernel
theorem K2_val : rdV ⟨#[105, 110, 102]⟩ = some (CSR.starM (fun i j => wval k2 (K2 i j)) 1 0 0).1 := by decide +kernel
theorem K3_val : rdV ⟨#[105, 110, 102]⟩ = some (CSR.starM (fun i j => wval k3 (K3 i j)) 1 0 0).1 := by decide +kernel
/-- Star of what is no matrix of a kind. -/
theorem starE_no {k0 : Int} {n : Nat} {L : Nat → Nat} {X : Nat → Nat → ByteArray} {w w' : World} {r : Ending} (h : StarE k0 n L X w r w') (hn : ¬ (kindB k0 = true ∧ Sq k0 n L X)) :
    Below w.heap.size w w' ∧ r = .returned (.tuple #[.slice none 0 0, .int .i64 1]) := by
  refine ⟨h.1, ?_⟩
  rcases h.2 with ⟨_, h2⟩ | ⟨_, h1, h2, _⟩ | ⟨_, k, M, hk, h2, _⟩
  · exact h2
  · exact absurd ⟨h1, h2⟩ hn
  · exact absurd ⟨by rw [← hk]; unfold kindB; have := k.2; simp; omega, h2⟩ hn
def W12 (w : World) (a b : ByteArray) : World := (w.alloc (.cells #[.string a, .string b] 9)).alloc (.cells #[.slice (some ⟨w.heap.size, 0, none⟩) 2 2] 33)
theorem W12_mt (w : World) (a b : ByteArray) : Mt none (W12 w a b) (.slice (some ⟨w.heap.size + 1, 0, none⟩) 1 1) 1 (fun _ => 2) (fun _ j => if j = 0 then a else b) := by
  have h1 := (ss_new w #[.string a, .string b] 2 (fun j => if j = 0 then a else b) (fun i hi => by match i, hi with | 0, _ => rfl | 1, _ => rfl) (by unfold maxLen; omega))
  have e3 : (w.alloc (.cells #[.string a, .string b] 9)).heap.size = w.heap.size + 1 := by simp
  refine ⟨fun _ => .slice (some ⟨w.heap.size, 0, none⟩) 2 2, .inr ⟨_, 0, 1, rfl, ⟨?_, by simp⟩, Nat.le_refl _, by unfold maxLen; omega, fun i hi => ?_⟩, fun i hi => Rd.kept h1 (World.grownBy_alloc _ _ none)⟩
  · unfold W12; simp
  · rw [Nat.zero_add]
    have := cell_new (w.alloc (.cells #[.string a, .string b] 9)) #[.slice (some ⟨w.heap.size, 0, none⟩) 2 2] 33 i
    rw [e3] at this
    exact this _ (by match i, hi with | 0, _ => rfl)
theorem W12_below (w : World) (a b : ByteArray) : Below w.heap.size w (W12 w a b) := ((Below.refl _ _).alloc (Nat.le_refl _) _).alloc (by simp) _
/-- The machine. -/
def DK : MD := { kind := 2, start := 0, lead := ⟨#[49]⟩, n := 1, fin := fun _ => ⟨#[49, 47, 50]⟩, na := fun _ => 1, ain := fun _ _ => 0, aout := fun _ _ => 0, aw := fun _ _ => ⟨#[49, 47, 50]⟩, ato := fun _ _ => 0 }
theorem DK_vm : VM DK := by
  refine ⟨by decide, by decide, by decide, by decide, by decide, by decide +kernel, by decide, fun _ _ => .inr (show weightF 2 ⟨#[49, 47, 50]⟩ = true by decide +kernel), fun _ _ _ _ => ⟨show (0 : Int) ≤ 0 by decide, show (0 : Int) ≤ 500 by decide, show (0 : Int) ≤ 0 by decide, show (0 : Int) ≤ 500 by decide, show (0 : Int) ≤ 0 by decide, show (0 : Int) < 1 by decide, show weightF 2 ⟨#[49, 47, 50]⟩ = true by decide +kernel⟩⟩
def DKR : Nat → Nat → RK k2 := fun i d => wval k2 (DK.aw i d)
def DKV : Nat → RK k2 := fun p => wval k2 (DK.fin p)
theorem DK_fitP : FitP DK DKR := by
  refine ⟨?_, fitM_of (by decide +kernel)⟩
  intro i d j hi hd hj _
  have h : ∀ i, i < 1 → ∀ d, d < 1 → ∀ j, j < 1 → fitV (arcV DK DKR i d j + DKR i d).1 := by decide +kernel
  exact h i hi d hd j hj
theorem DK_fitT : FitT DK DKR DKV := by
  refine ⟨DK_fitP, ?_, ?_⟩
  · intro i p hi hp _
    have h : ∀ i, i < 1 → ∀ p, p < 1 → fitV (CSR.starM (arcM DK DKR) 1 i p * DKV p).1 := by decide +kernel
    exact h i hi p hp
  · intro i p hi hp _
    have h : ∀ i, i < 1 → ∀ p, p < 1 → fitV (toV DK (CSR.starM (arcM DK DKR) 1) DKV i p + CSR.starM (arcM DK DKR) 1 i p * DKV p).1 := by decide +kernel
    exact h i hi p hp
theorem DK_fitF : FitF DK DKR (wval k2 DK.lead) 0 := ⟨DK_fitP, by
  intro j hj
  have h : ∀ j, j < 1 → fitV (wval k2 DK.lead * CSR.starM (arcM DK DKR) 1 0 j).1 := by decide +kernel
  exact h j hj⟩
theorem DK_to : ∀ i, i < 1 → rdV ⟨#[49]⟩ = some (toV DK (CSR.starM (arcM DK DKR) 1) DKV i 1).1 := by decide +kernel
theorem DK_from : ∀ i, i < 1 → rdV ⟨#[50]⟩ = some (wval k2 DK.lead * CSR.starM (arcM DK DKR) 1 0 i).1 := by decide +kernel
theorem DK_total : rdV ⟨#[49]⟩ = some (wval k2 DK.lead * toV DK (CSR.starM (arcM DK DKR) 1) DKV 0 1).1 := by decide +kernel
def DKW (w : World) : World := ((w.alloc (.cells #[.int .i64 0, .int .i64 0, .string ⟨#[49, 47, 50]⟩, .int .i64 0] 56)).alloc (.cells #[.string ⟨#[49, 47, 50]⟩, .slice (some ⟨w.heap.size, 0, none⟩) 1 1] 53)).alloc
  (.cells #[.int .i64 2, .int .i64 0, .string ⟨#[49]⟩, .slice (some ⟨w.heap.size + 1, 0, none⟩) 1 1] 31)
theorem DKW_below (w : World) : Below w.heap.size w (DKW w) := (((Below.refl _ _).alloc (Nat.le_refl _) _).alloc (by simp) _).alloc (by simp; omega) _
theorem DKW_box (w : World) : BoxM (DKW w) (w.heap.size + 1 + 1) DK (.slice (some ⟨w.heap.size + 1, 0, none⟩) 1 1) := by
  have h := heap_alloc_new ((w.alloc (.cells #[.int .i64 0, .int .i64 0, .string ⟨#[49, 47, 50]⟩, .int .i64 0] 56)).alloc (.cells #[.string ⟨#[49, 47, 50]⟩, .slice (some ⟨w.heap.size, 0, none⟩) 1 1] 53))
    (.cells #[.int .i64 2, .int .i64 0, .string ⟨#[49]⟩, .slice (some ⟨w.heap.size + 1, 0, none⟩) 1 1] 31)
  rw [show ((w.alloc (.cells #[.int .i64 0, .int .i64 0, .string ⟨#[49, 47, 50]⟩, .int .i64 0] 56)).alloc (.cells #[.string ⟨#[49, 47, 50]⟩, .slice (some ⟨w.heap.size, 0, none⟩) 1 1] 53)).heap.size = w.heap.size + 1 + 1 by simp] at h
  exact h
theorem DKW_ma (w : World) : Ma none (DKW w) (.agg #[.int .i64 2, .int .i64 0, .string ⟨#[49]⟩, .slice (some ⟨w.heap.size + 1, 0, none⟩) 1 1]) DK := by
  refine ⟨_, rfl, ?_⟩
  obtain ⟨wa, hwa⟩ : ∃ wa, wa = w.alloc (.cells #[.int .i64 0, .int .i64 0, .string ⟨#[49, 47, 50]⟩, .int .i64 0] 56) := ⟨_, rfl⟩
  obtain ⟨wc, hwc⟩ : ∃ wc, wc = wa.alloc (.cells #[.string ⟨#[49, 47, 50]⟩, .slice (some ⟨w.heap.size, 0, none⟩) 1 1] 53) := ⟨_, rfl⟩
  have ea : wa.heap.size = w.heap.size + 1 := by rw [hwa]; simp
  have ec : wc.heap.size = w.heap.size + 1 + 1 := by rw [hwc]; simp; exact ea
  have gac : wa.grownBy wc none := by rw [hwc]; exact World.grownBy_alloc _ _ _
  have a0 : ArS none wa (.slice (some ⟨w.heap.size, 0, none⟩) 1 1) DK 0 := .inr ⟨_, 0, 1, rfl, ⟨by rw [ea]; omega, by simp⟩, Nat.le_refl _, by unfold maxLen; omega, fun k hk => by
    have hk0 : k = 0 := by have : DK.na 0 = 1 := rfl; omega
    subst hk0
    rw [hwa]
    exact ⟨cell_new w _ _ 0 _ rfl, cell_new w _ _ 1 _ rfl, cell_new w _ _ 2 _ rfl, cell_new w _ _ 3 _ rfl⟩⟩
  have hs : StS none wc (.slice (some ⟨w.heap.size + 1, 0, none⟩) 1 1) DK := by
    refine .inr ⟨_, 0, 1, fun _ => .slice (some ⟨w.heap.size, 0, none⟩) 1 1, rfl, ⟨by rw [ec]; omega, by simp⟩, Nat.le_refl _, by unfold maxLen; omega, fun i hi => ?_⟩
    match i, hi with
    | 0, _ =>
      refine ⟨?_, ?_, ?_⟩
      · rw [hwc, ← ea]; exact cell_new wa _ _ 0 _ rfl
      · rw [hwc, ← ea]; exact cell_new wa _ _ 1 _ rfl
      · exact a0.kept gac
  have : DKW w = wc.alloc (.cells #[.int .i64 2, .int .i64 0, .string ⟨#[49]⟩, .slice (some ⟨w.heap.size + 1, 0, none⟩) 1 1] 31) := by rw [hwc, hwa]; rfl
  rw [this]
  exact hs.kept (World.grownBy_alloc _ _ _)
theorem DK_sz : MSz DK := ⟨by decide +kernel, fun i => by show (⟨#[49, 47, 50]⟩ : ByteArray).size ≤ _; decide +kernel, fun i k => by show (⟨#[49, 47, 50]⟩ : ByteArray).size ≤ _; decide +kernel, fun _ => by show 1 ≤ 140737488355328; omega, by decide, by decide⟩
theorem ktoE_ok {w w' : World} {r : Ending} (h : ToE DK w r w') : Below w.heap.size w w' ∧ ∃ v Z, r = .returned (.tuple #[v, .int .i64 0]) ∧ Ss none w' v 1 Z ∧ ∀ i, i < 1 → Z i = ⟨#[49]⟩ := by
  refine ⟨h.1, ?_⟩
  rcases h.2 with ⟨h1, _⟩ | ⟨_, h1, _⟩ | ⟨_, _, k, W, V, hk, hW, hV, h2⟩
  · exact absurd DK_vm h1
  · exact absurd h1 (by decide)
  · obtain rfl : k = k2 := Subtype.ext hk
    obtain rfl : W = DKR := hW.1
    obtain rfl : V = DKV := hV.1
    rcases h2 with ⟨v, Z, h3, h4, h5⟩ | ⟨_, h3⟩
    · exact ⟨v, Z, h3, h4, fun i hi => (h5 i hi).rd (DK_to i hi)⟩
    · exact absurd DK_fitT h3
theorem kfromE_ok {w w' : World} {r : Ending} (h : FromE DK w r w') : Below w.heap.size w w' ∧ ∃ v Z, r = .returned (.tuple #[v, .int .i64 0]) ∧ Ss none w' v 1 Z ∧ ∀ i, i < 1 → Z i = ⟨#[50]⟩ := by
  refine ⟨h.1, ?_⟩
  rcases h.2 with ⟨h1, _⟩ | ⟨_, h1, _⟩ | ⟨_, _, k, W, L, st, hk, hW, hL, hst, _, h2⟩
  · exact absurd DK_vm h1
  · exact absurd h1 (by decide)
  · obtain rfl : k = k2 := Subtype.ext hk
    obtain rfl : W = DKR := hW.1
    obtain rfl : wval k2 DK.lead = L := hL.val
    obtain rfl : st = 0 := by have : (0 : Int) = (st : Int) := hst; omega
    rcases h2 with ⟨v, Z, h3, h4, h5⟩ | ⟨_, h3⟩
    · exact ⟨v, Z, h3, h4, fun i hi => (h5 i hi).rd (DK_from i hi)⟩
    · exact absurd DK_fitF h3
theorem ktotE_ok {w w' : World} {r : Ending} (h : TotE DK w r w') : Below w.heap.size w w' ∧ r = .returned (.tuple #[.string ⟨#[49]⟩, .int .i64 0]) := by
  refine ⟨h.1, ?_⟩
  rcases h.2 with ⟨h1, _⟩ | ⟨_, h1, _⟩ | ⟨_, _, k, W, V, L, st, hk, hW, hV, hL, hst, _, h2⟩
  · exact absurd DK_vm h1
  · exact absurd h1 (by decide)
  · obtain rfl : k = k2 := Subtype.ext hk
    obtain rfl : W = DKR := hW.1
    obtain rfl : V = DKV := hV.1
    obtain rfl : wval k2 DK.lead = L := hL.val
    obtain rfl : st = 0 := by have : (0 : Int) = (st : Int) := hst; omega
    rcases h2 with ⟨q, hq, h3⟩ | ⟨_, h3⟩
    · have := lim_of DK_total
      rw [show DK.n = 1 from rfl, this] at hq
      rw [h3, hq]; rfl
    · exact absurd DK_fitT h3
set_option maxHeartbeats 8000000 in
theorem closureKnown_any (w : World) (ht : Tab w) : Calls Tryz.prog 9 #[] w (TrueE w) := by
  have HT := Lib.hid ht; clear ht
  go_enter Tryz.func9, Tryz.ntmps9
  go_wp2_with fail
  have hb0 := W22_below w ⟨#[49, 47, 50]⟩ ⟨#[50]⟩ ⟨#[49, 47, 52]⟩ ⟨#[48]⟩
  refine (star_any (k0 := 3) (L := fun _ => 2) (X := K1) (W22 w ⟨#[49, 47, 50]⟩ ⟨#[50]⟩ ⟨#[49, 47, 52]⟩ ⟨#[48]⟩) (by omega) (W22_mt w _ _ _ _) (tb2_size (by decide +kernel) (by decide +kernel) (by decide +kernel) (by decide +kernel)) (HT.out.below hb0 (Nat.le_refl _))).mono ?_
  intro r w1 hr
  obtain ⟨hb1, v1, Y1, rfl, hm1, hv1⟩ := starE_ok (k := k3) hr K1_sq (by omega) K1_fit
  have hbb := hb0.trans (hb1.mono hb0.size)
  have HBa := Lib.hid (hb0.trans (hb1.mono hb0.size))
  clear hb0 hb1 hbb hr
  have HM1 := Lib.hid hm1; clear hm1
  have HV1 := Lib.hid hv1; clear hv1
  go_wp2_with fail
  have hb0 := W11_below w1 ⟨#[49]⟩
  refine (star_any (k0 := 2) (L := fun _ => 1) (X := K2) (W11 w1 ⟨#[49]⟩) (by omega) (W11_mt w1 _) (fun _ _ => by unfold K2; decide +kernel) ((HT.out.below HBa.out (Nat.le_refl _)).below hb0 (Nat.le_refl _))).mono ?_
  intro r w2 hr
  obtain ⟨hb2, v2, Y2, rfl, hm2, hv2⟩ := starE_ok (k := k2) hr K2_sq (by omega) K2_fit
  have hbb := hb0.trans (hb2.mono hb0.size)
  have HM1' := Lib.hid (Mt.kept HM1.out (gb_below hbb none)); clear HM1
  have HBa' := Lib.hid (HBa.out.trans ((hb0.trans (hb2.mono hb0.size)).mono HBa.out.size)); clear HBa
  clear hb0 hb2 hbb hr
  have HM2 := Lib.hid hm2; clear hm2
  have HV2 := Lib.hid hv2; clear hv2
  go_wp2_with fail
  have hb0 := W11_below w2 ⟨#[50]⟩
  refine (star_any (k0 := 3) (L := fun _ => 1) (X := K3) (W11 w2 ⟨#[50]⟩) (by omega) (W11_mt w2 _) (fun _ _ => by unfold K3; decide +kernel) ((HT.out.below HBa'.out (Nat.le_refl _)).below hb0 (Nat.le_refl _))).mono ?_
  intro r w3 hr
  obtain ⟨hb3, v3, Y3, rfl, hm3, hv3⟩ := starE_ok (k := k3) hr K3_sq (by omega) K3_fit
  have hbb := hb0.trans (hb3.mono hb0.size)
  have HM1'' := Lib.hid (Mt.kept HM1'.out (gb_below hbb none)); clear HM1'
  have HM2' := Lib.hid (Mt.kept HM2.out (gb_below hbb none)); clear HM2
  have HBa'' := Lib.hid (HBa'.out.trans ((hb0.trans (hb3.mono hb0.size)).mono HBa'.out.size)); clear HBa'
  clear hb0 hb3 hbb hr
  have HM3 := Lib.hid hm3; clear hm3
  have HV3 := Lib.hid hv3; clear hv3
  go_wp2_with fail
  refine (star_any (k0 := 1) (L := fun _ => 0) (X := fun _ _ => ⟨#[]⟩) w3 (n := 0) (by omega) ⟨fun _ => .slice none 0 0, .inl ⟨rfl, rfl⟩, fun i hi => by omega⟩ (fun _ _ => by decide +kernel) (HT.out.below HBa''.out (Nat.le_refl _))).mono ?_
  intro r w4 hr
  obtain ⟨hb4, v4, Y4, rfl, hm4, _⟩ := starE_ok (k := k1) hr (fun i hi => by omega) (by omega) (fitM_of rfl)
  obtain ⟨a4, cap4, rfl⟩ := hm4.shape
  have HM1''' := Lib.hid (Mt.kept HM1''.out (gb_below hb4 none)); clear HM1''
  have HM2'' := Lib.hid (Mt.kept HM2'.out (gb_below hb4 none)); clear HM2'
  have HM3' := Lib.hid (Mt.kept HM3.out (gb_below hb4 none)); clear HM3
  have HBa''' := Lib.hid (HBa''.out.trans (((Below.refl w3.heap.size w3).trans (hb4.mono (Below.refl w3.heap.size w3).size)).mono HBa''.out.size)); clear HBa''
  clear hb4 hr hm4
  go_wp2_with fail
  have hb0 := W12_below w4 ⟨#[49]⟩ ⟨#[50]⟩
  refine (star_any (k0 := 1) (L := fun _ => 2) (X := fun _ j => if j = 0 then ⟨#[49]⟩ else ⟨#[50]⟩) (W12 w4 ⟨#[49]⟩ ⟨#[50]⟩) (n := 1) (by omega) (W12_mt w4 _ _) (fun _ _ => by split <;> decide +kernel) ((HT.out.below HBa'''.out (Nat.le_refl _)).below hb0 (Nat.le_refl _))).mono ?_
  intro r w5 hr
  obtain ⟨hb5, rfl⟩ := starE_no hr (fun h => absurd (h.2 0 (by omega)).1 (by decide))
  have hbb := hb0.trans (hb5.mono hb0.size)
  have HM1'''' := Lib.hid (Mt.kept HM1'''.out (gb_below hbb none)); clear HM1'''
  have HM2''' := Lib.hid (Mt.kept HM2''.out (gb_below hbb none)); clear HM2''
  have HM3'' := Lib.hid (Mt.kept HM3'.out (gb_below hbb none)); clear HM3'
  have HBa'''' := Lib.hid (HBa'''.out.trans ((hb0.trans (hb5.mono hb0.size)).mono HBa'''.out.size)); clear HBa'''
  clear hb0 hb5 hbb hr
  go_wp2_with fail
  refine (star_any (k0 := 4) (L := fun _ => 0) (X := fun _ _ => ⟨#[]⟩) w5 (n := 0) (by omega) ⟨fun _ => .slice none 0 0, .inl ⟨rfl, rfl⟩, fun i hi => by omega⟩ (fun _ _ => by decide +kernel) (HT.out.below HBa''''.out (Nat.le_refl _))).mono ?_
  intro r w6 hr
  obtain ⟨hb6, rfl⟩ := starE_no hr (fun h => absurd h.1 (by decide))
  have HM1''''' := Lib.hid (Mt.kept HM1''''.out (gb_below hb6 none)); clear HM1''''
  have HM2'''' := Lib.hid (Mt.kept HM2'''.out (gb_below hb6 none)); clear HM2'''
  have HM3''' := Lib.hid (Mt.kept HM3''.out (gb_below hb6 none)); clear HM3''
  have HBa''''' := Lib.hid (HBa''''.out.trans (((Below.refl w5.heap.size w5).trans (hb6.mono (Below.refl w5.heap.size w5).size)).mono HBa''''.out.size)); clear HBa''''
  clear hb6 hr
  go_wp2_with fail
  have hb0 := DKW_below w6
  refine (to_any (D := DK) (DKW w6) (DKW_ma w6) DK_sz ((HT.out.below HBa'''''.out (Nat.le_refl _)).below hb0 (Nat.le_refl _))).mono ?_
  intro r w7 hr
  obtain ⟨hb7, v7, Z7, rfl, hz7, hv7⟩ := ktoE_ok hr
  have hma : Ma none w7 (.agg #[.int .i64 2, .int .i64 0, .string ⟨#[49]⟩, .slice (some ⟨w6.heap.size + 1, 0, none⟩) 1 1]) DK := by obtain ⟨sv, e, h⟩ := DKW_ma w6; exact ⟨sv, e, h.kept (gb_below hb7 none)⟩
  have hbx4 := (DKW_box w6).kept (gb_below hb7 none) (by simp)
  have hbb := hb0.trans (hb7.mono hb0.size)
  have HM1'''''' := Lib.hid (Mt.kept HM1'''''.out (gb_below hbb none)); clear HM1'''''
  have HM2''''' := Lib.hid (Mt.kept HM2''''.out (gb_below hbb none)); clear HM2''''
  have HM3'''' := Lib.hid (Mt.kept HM3'''.out (gb_below hbb none)); clear HM3'''
  have HBa'''''' := Lib.hid (HBa'''''.out.trans ((hb0.trans (hb7.mono hb0.size)).mono HBa'''''.out.size)); clear HBa'''''
  clear hb0 hb7 hbb hr
  obtain ⟨bx, hbx⟩ : ∃ bx, bx = w6.heap.size + 1 + 1 := ⟨_, rfl⟩
  rw [← hbx] at hbx4
  rw [← hbx]
  clear hbx
  obtain ⟨sv, hsv⟩ : ∃ sv, sv = Value.slice (some ⟨w6.heap.size + 1, 0, none⟩) 1 1 := ⟨_, rfl⟩
  rw [← hsv] at hma hbx4
  clear hsv
  have b0 : w7.cell? ⟨bx, 0, none⟩ = some (.int .i64 2) := hbx4.c0
  have b1 : w7.cell? ⟨bx, 1, none⟩ = some (.int .i64 0) := hbx4.c1
  have b2 : w7.cell? ⟨bx, 2, none⟩ = some (.string ⟨#[49]⟩) := hbx4.c2
  have b3 := hbx4.c3
  have HBX4 := Lib.hid hbx4; clear hbx4
  have HMA := Lib.hid hma; clear hma
  have HZ7 := Lib.hid hz7; clear hz7
  have HV7 := Lib.hid hv7; clear hv7
  go_wp2_with fail
  refine (from_any (D := DK) w7 HMA.out DK_sz (HT.out.below HBa''''''.out (Nat.le_refl _))).mono ?_
  intro r w8 hr
  obtain ⟨hb8, v8, Z8, rfl, hz8, hv8⟩ := kfromE_ok hr
  have HMA' := Lib.hid (show Ma none w8 _ DK from by obtain ⟨sv, e, h⟩ := HMA.out; exact ⟨sv, e, h.kept (gb_below hb8 none)⟩); clear HMA
  have hbx4 := HBX4.out.kept (gb_below hb8 none) (by simp)
  clear b0 b1 b2 b3 HBX4
  have HM1''''''' := Lib.hid (Mt.kept HM1''''''.out (gb_below hb8 none)); clear HM1''''''
  have HM2'''''' := Lib.hid (Mt.kept HM2'''''.out (gb_below hb8 none)); clear HM2'''''
  have HM3''''' := Lib.hid (Mt.kept HM3''''.out (gb_below hb8 none)); clear HM3''''
  have HZ7' := Lib.hid (Rd.kept HZ7.out (gb_below hb8 none)); clear HZ7
  have HBa''''''' := Lib.hid (HBa''''''.out.trans (((Below.refl w7.heap.size w7).trans (hb8.mono (Below.refl w7.heap.size w7).size)).mono HBa''''''.out.size)); clear HBa''''''
  clear hb8 hr
  have b0 : w8.cell? ⟨bx, 0, none⟩ = some (.int .i64 2) := hbx4.c0
  have b1 : w8.cell? ⟨bx, 1, none⟩ = some (.int .i64 0) := hbx4.c1
  have b2 : w8.cell? ⟨bx, 2, none⟩ = some (.string ⟨#[49]⟩) := hbx4.c2
  have b3 := hbx4.c3
  have HBX4 := Lib.hid hbx4; clear hbx4
  have HZ8 := Lib.hid hz8; clear hz8
  have HV8 := Lib.hid hv8; clear hv8
  go_wp2_with fail
  refine (total_any (D := DK) w8 HMA'.out DK_sz (HT.out.below HBa'''''''.out (Nat.le_refl _))).mono ?_
  intro r w9 hr
  obtain ⟨hb9, rfl⟩ := ktotE_ok hr
  have HM1'''''''' := Lib.hid (Mt.kept HM1'''''''.out (gb_below hb9 none)); clear HM1'''''''
  have HM2''''''' := Lib.hid (Mt.kept HM2''''''.out (gb_below hb9 none)); clear HM2''''''
  have HM3'''''' := Lib.hid (Mt.kept HM3'''''.out (gb_below hb9 none)); clear HM3'''''
  have HZ7'' := Lib.hid (Rd.kept HZ7'.out (gb_below hb9 none)); clear HZ7'
  have HZ8' := Lib.hid (Rd.kept HZ8.out (gb_below hb9 none)); clear HZ8
  have HBa'''''''' := Lib.hid (HBa'''''''.out.trans (((Below.refl w8.heap.size w8).trans (hb9.mono (Below.refl w8.heap.size w8).size)).mono HBa'''''''.out.size)); clear HBa'''''''
  clear hb9 hr b0 b1 b2 b3 HBX4 HMA'
  go_wp2_with fail
  have hb0 := W22_below w9 ⟨#[49]⟩ ⟨#[50]⟩ ⟨#[49, 47, 52]⟩ ⟨#[49]⟩
  refine (samem_any (W22 w9 ⟨#[49]⟩ ⟨#[50]⟩ ⟨#[49, 47, 52]⟩ ⟨#[49]⟩) (Mt.kept HM1''''''''.out (gb_below hb0 none)) (W22_mt w9 _ _ _ _) _ Iff.rfl).mono ?_
  rintro r w10 ⟨bb, rfl, hbb, hb10⟩
  obtain rfl : bb = true := hbb.2 ⟨rfl, fun i hi => ⟨rfl, fun j hj => (HV1.out i j hi hj).rd (K1_val i hi j hj)⟩⟩
  have hbc := hb0.trans (hb10.mono hb0.size)
  have HM2'''''''' := Lib.hid (Mt.kept HM2'''''''.out (gb_below hbc none)); clear HM2'''''''
  have HM3''''''' := Lib.hid (Mt.kept HM3''''''.out (gb_below hbc none)); clear HM3''''''
  have HZ7''' := Lib.hid (Rd.kept HZ7''.out (gb_below hbc none)); clear HZ7''
  have HZ8'' := Lib.hid (Rd.kept HZ8'.out (gb_below hbc none)); clear HZ8'
  have HBa''''''''' := Lib.hid (HBa''''''''.out.trans ((hb0.trans (hb10.mono hb0.size)).mono HBa''''''''.out.size)); clear HBa''''''''
  clear hb0 hb10 hbc hbb HM1''''''''
  go_wp2_with fail
  have hb0 := W11_below w10 ⟨#[105, 110, 102]⟩
  refine (samem_any (W11 w10 ⟨#[105, 110, 102]⟩) (Mt.kept HM2''''''''.out (gb_below hb0 none)) (W11_mt w10 _) _ Iff.rfl).mono ?_
  rintro r w11 ⟨bb, rfl, hbb, hb11⟩
  obtain rfl : bb = true := hbb.2 ⟨rfl, fun i hi => ⟨rfl, fun j hj => by obtain rfl : i = 0 := by { omega }; obtain rfl : j = 0 := by { have : j < 1 := hj; omega }; exact (HV2.out 0 0 (by omega) (by omega)).rd K2_val⟩⟩
  have hbc := hb0.trans (hb11.mono hb0.size)
  have HM3'''''''' := Lib.hid (Mt.kept HM3'''''''.out (gb_below hbc none)); clear HM3'''''''
  have HZ7'''' := Lib.hid (Rd.kept HZ7'''.out (gb_below hbc none)); clear HZ7'''
  have HZ8''' := Lib.hid (Rd.kept HZ8''.out (gb_below hbc none)); clear HZ8''
  have HBa'''''''''' := Lib.hid (HBa'''''''''.out.trans ((hb0.trans (hb11.mono hb0.size)).mono HBa'''''''''.out.size)); clear HBa'''''''''
  clear hb0 hb11 hbc hbb HM2''''''''
  go_wp2_with fail
  have hb0 := W11_below w11 ⟨#[105, 110, 102]⟩
  refine (samem_any (W11 w11 ⟨#[105, 110, 102]⟩) (Mt.kept HM3''''''''.out (gb_below hb0 none)) (W11_mt w11 _) _ Iff.rfl).mono ?_
  rintro r w12 ⟨bb, rfl, hbb, hb12⟩
  obtain rfl : bb = true := hbb.2 ⟨rfl, fun i hi => ⟨rfl, fun j hj => by obtain rfl : i = 0 := by { omega }; obtain rfl : j = 0 := by { have : j < 1 := hj; omega }; exact (HV3.out 0 0 (by omega) (by omega)).rd K3_val⟩⟩
  have hbc := hb0.trans (hb12.mono hb0.size)
  have HZ7''''' := Lib.hid (Rd.kept HZ7''''.out (gb_below hbc none)); clear HZ7''''
  have HZ8'''' := Lib.hid (Rd.kept HZ8'''.out (gb_below hbc none)); clear HZ8'''
  have HBa''''''''''' := Lib.hid (HBa''''''''''.out.trans ((hb0.trans (hb12.mono hb0.size)).mono HBa''''''''''.out.size)); clear HBa''''''''''
  clear hb0 hb12 hbc hbb HM3''''''''
  go_wp2_with fail
  refine (same_any _ (Rd.kept HZ7'''''.out (World.grownBy_alloc _ _ none)) (ss_new w12 #[.string ⟨#[49]⟩] 1 (fun _ => ⟨#[49]⟩) (fun i hi => by match i, hi with | 0, _ => rfl) (by unfold maxLen; omega)) _ Iff.rfl).mono ?_
  rintro r w13 ⟨bb, rfl, hbb, hb13⟩
  obtain rfl : bb = true := hbb.2 ⟨rfl, HV7.out⟩
  have hb0 := (Below.refl w12.heap.size w12).alloc (Nat.le_refl _) (.cells #[.string ⟨#[49]⟩] 9)
  have hbc := hb0.trans (hb13.mono (by simp))
  have HZ8''''' := Lib.hid (Rd.kept HZ8''''.out (gb_below hbc none)); clear HZ8''''
  have HBa'''''''''''' := Lib.hid (HBa'''''''''''.out.trans (hbc.mono HBa'''''''''''.out.size)); clear HBa'''''''''''
  clear hb0 hb13 hbc hbb HZ7'''''
  go_wp2_with fail
  refine (same_any _ (Rd.kept HZ8'''''.out (World.grownBy_alloc _ _ none)) (ss_new w13 #[.string ⟨#[50]⟩] 1 (fun _ => ⟨#[50]⟩) (fun i hi => by match i, hi with | 0, _ => rfl) (by unfold maxLen; omega)) _ Iff.rfl).mono ?_
  rintro r w14 ⟨bb, rfl, hbb, hb14⟩
  obtain rfl : bb = true := hbb.2 ⟨rfl, HV8.out⟩
  have hb0 := (Below.refl w13.heap.size w13).alloc (Nat.le_refl _) (.cells #[.string ⟨#[50]⟩] 9)
  have hbc := hb0.trans (hb14.mono (by simp))
  have HBa''''''''''''' := Lib.hid (HBa''''''''''''.out.trans (hbc.mono HBa''''''''''''.out.size)); clear HBa''''''''''''
  clear hb0 hb14 hbc hbb HZ8'''''
  go_wp2_with fail
  refine (example_any w14 (HT.out.below HBa'''''''''''''.out (Nat.le_refl _))).mono ?_
  rintro r w15 ⟨rfl, hb15⟩
  have HBz := Lib.hid (HBa'''''''''''''.out.trans (hb15.mono HBa'''''''''''''.out.size)); clear HBa''''''''''''' hb15
  go_wp2_with fail
  go_ret
  exact ⟨rfl, HBz.out⟩
end Go.Proofs.YtlmfppjphblemaaGreatDoor
