/- The walk of closure.To: for each state, the sum of all paths to the end. The walks of closure.From and closure.Total. -/
import Derived.Test.YtlmfppjphblemaaGreatDoorC8
import Derived.Deep.RegionLaw
namespace Go.Proofs.YtlmfppjphblemaaGreatDoor
set_option maxRecDepth 100000
set_option linter.unusedSimpArgs false
open Go Go.RowKit Go.Deep

theorem Gr.cell {B : Nat} {z : Option Nat} {w w' : World} (h : Gr B z w w') {a : Addr} {v : Value} (hc : w.cell? a = some v) (hb : a.block < B) (hz : some a.block ≠ z) : w'.cell? a = some v :=
  (World.cell?_of_block (w := w) (h.block a.block hb hz)).trans hc
/-- The final weights are what the strings say. -/
def FinIs {k : KK} (D : MD) (V : Nat → RK k) : Prop := (V = fun p => wval k (D.fin p)) ∧ ∀ p, p < D.n → D.fin p ≠ ⟨#[]⟩ → Is k 0 (D.fin p) (V p)
theorem VM.fins {D : MD} (h : VM D) {k : KK} (hk : k.1 = D.kind) : ∃ V : Nat → RK k, FinIs D V :=
  ⟨_, rfl, fun p hp hf => wval_is (by rw [hk]; exact wt_valid ((h.fin p hp).resolve_left hf))⟩
/-- The sum over the first p states. -/
def toV {k : KK} (D : MD) (S : Nat → Nat → RK k) (V : Nat → RK k) (i : Nat) : Nat → RK k
  | 0 => CSR.zero
  | p + 1 => if D.fin p = ⟨#[]⟩ then toV D S V i p else toV D S V i p + S i p * V p
/-- All that To computes fits. -/
structure FitT {k : KK} (D : MD) (W : Nat → Nat → RK k) (V : Nat → RK k) : Prop where
  path : FitP D W
  prod : ∀ i p, i < D.n → p < D.n → D.fin p ≠ ⟨#[]⟩ → fitV (CSR.starM (arcM D W) D.n i p * V p).1
  sum : ∀ i p, i < D.n → p < D.n → D.fin p ≠ ⟨#[]⟩ → fitV (toV D (CSR.starM (arcM D W) D.n) V i p + CSR.starM (arcM D W) D.n i p * V p).1
/-- The list, as far as it is filled. -/
def ToTo {k : KK} (e : Nat) (D : MD) (S : Nat → Nat → RK k) (V : Nat → RK k) (q p : Nat) (Z : Nat → ByteArray) : Prop :=
  ∀ l, l < D.n → (l < q → Is k e (Z l) (toV D S V l D.n)) ∧ (l = q → Is k e (Z l) (toV D S V l p)) ∧ (q < l → Z l = zeroF k.1)
theorem ToTo.next {k : KK} {e e' : Nat} {D : MD} {S : Nat → Nat → RK k} {V : Nat → RK k} {q p : Nat} {Z : Nat → ByteArray} {u : ByteArray} (h : ToTo e D S V q p Z) (he : e' = 0 → e = 0) (hf : D.fin p ≠ ⟨#[]⟩) (hu : Is k e' u (toV D S V q p + S q p * V p)) :
    ToTo e' D S V q (p + 1) (fun l => if l = q then u else Z l) := fun l hl => by
  refine ⟨fun h1 => ?_, fun h1 => ?_, fun h1 => ?_⟩
  · simp only [if_neg (show ¬ l = q by omega)]; exact ((h l hl).1 h1).mono he
  · subst h1
    show Is k e' (if l = l then u else Z l) (if D.fin p = ⟨#[]⟩ then toV D S V l p else toV D S V l p + S l p * V p)
    rw [if_pos rfl, if_neg hf]; exact hu
  · simp only [if_neg (show ¬ l = q by omega)]; exact (h l hl).2.2 h1
theorem ToTo.skip {k : KK} {e : Nat} {D : MD} {S : Nat → Nat → RK k} {V : Nat → RK k} {q p : Nat} {Z : Nat → ByteArray} (h : ToTo e D S V q p Z) (hf : D.fin p = ⟨#[]⟩) : ToTo e D S V q (p + 1) Z := fun l hl => by
  refine ⟨(h l hl).1, fun h1 => ?_, (h l hl).2.2⟩
  show Is k e (Z l) (if D.fin p = ⟨#[]⟩ then toV D S V l p else toV D S V l p + S l p * V p)
  rw [if_pos hf]; exact (h l hl).2.1 h1
theorem ToTo.row {k : KK} {e : Nat} {D : MD} {S : Nat → Nat → RK k} {V : Nat → RK k} {q : Nat} {Z : Nat → ByteArray} (h : ToTo e D S V q D.n Z) : ToTo e D S V (q + 1) 0 Z := fun l hl => by
  refine ⟨fun h1 => ?_, fun h1 => ?_, fun h1 => (h l hl).2.2 (by omega)⟩
  · by_cases h2 : l < q
    · exact (h l hl).1 h2
    · have : l = q := by omega
      exact (h l hl).2.1 this
  · rw [(h l hl).2.2 (by omega)]; exact Is.zero k e
/-- Behind To. -/
def ToE (D : MD) (w : World) (r : Ending) (w' : World) : Prop := Below w.heap.size w w' ∧
  ((¬ VM D ∧ r = .returned (.tuple #[.slice none 0 0, .int .i64 1])) ∨
   (VM D ∧ 60 < D.n ∧ r = .returned (.tuple #[.slice none 0 0, .int .i64 2])) ∨
   (VM D ∧ D.n ≤ 60 ∧ ∃ (k : KK) (W : Nat → Nat → RK k) (V : Nat → RK k), k.1 = D.kind ∧ WtIs D W ∧ FinIs D V ∧
     ((∃ v Z, r = .returned (.tuple #[v, .int .i64 0]) ∧ Ss none w' v D.n Z ∧ ∀ i, i < D.n → Is k 0 (Z i) (toV D (CSR.starM (arcM D W) D.n) V i D.n)) ∨
      (r = .returned (.tuple #[.slice none 0 0, .int .i64 2]) ∧ ¬ FitT D W V))))

set_option maxHeartbeats 8000000 in
theorem to_any {D : MD} {v : Value} (w : World) (hM : Ma none w v D) (hs : MSz D) (ht : Tab w) : Calls Tryz.prog 18 #[v] w (ToE D w) := by
  obtain ⟨sv, rfl, hS⟩ := hM
  have hSk := hS
  obtain ⟨a, cap, b, off, A, C, BB, O, rfl, ha, hc, hm, hb, hrow⟩ := hS.open
  unfold maxLen at hm
  clear hS
  have hbox := BoxM.new w D (.slice a D.n cap)
  have hbel : Below w.heap.size w (w.alloc (.cells #[.int .i64 D.kind, .int .i64 D.start, .string D.lead, .slice a D.n cap] 31)) := (Below.refl _ _).alloc (Nat.le_refl _) _
  have hMA : Ma none (w.alloc (.cells #[.int .i64 D.kind, .int .i64 D.start, .string D.lead, .slice a D.n cap] 31)) (.agg #[.int .i64 D.kind, .int .i64 D.start, .string D.lead, .slice a D.n cap]) D := ⟨_, rfl, hSk.kept (World.grownBy_alloc _ _ _)⟩
  have hpa := paths_any _ hMA hs (ht.below hbel (Nat.le_refl _))
  clear hMA hSk
  have hnn := hs.n
  have HSZ := Lib.hid hs; clear hs
  have HT := Lib.hid ht; clear ht
  have HA := Lib.hid ha; clear ha
  have HB := Lib.hid hb; clear hb
  have HR := Lib.hid hrow; clear hrow
  have HBX := Lib.hid hbox; clear hbox
  have HBE := Lib.hid hbel; clear hbel
  have HPA := Lib.hid hpa; clear hpa
  go_enter Tryz.func18, Tryz.ntmps18
  go_wp2_with fail
  refine HPA.out.mono ?_
  rintro r w1 ⟨hb1, hv⟩
  have hbx1 := HBX.out.kept (gb_below hb1 none) (by simp)
  have hbe1 := HBE.out.trans (hb1.mono HBE.out.size)
  have hbsz : w.heap.size + 1 ≤ w1.heap.size := by have := hb1.size; simp at this; exact this
  have hsbx : (w.alloc (.cells #[.int .i64 D.kind, .int .i64 D.start, .string D.lead, .slice a D.n cap] 31)).heap.size = w.heap.size + 1 := by simp
  rw [hsbx] at hv
  clear hb1 HPA hsbx
  obtain ⟨mb, hmb⟩ : ∃ mb, mb = w.heap.size := ⟨_, rfl⟩
  rw [← hmb] at hbx1
  rw [← hmb]
  have hmw : w.heap.size ≤ mb := by rw [hmb]; exact Nat.le_refl _
  have hmw1 : mb < w1.heap.size := by omega
  clear HBX HBE
  have HBX1 := Lib.hid hbx1; clear hbx1
  have HBE1 := Lib.hid hbe1; clear hbe1
  rcases hv with ⟨hvm, rfl⟩ | ⟨hvm, h60, rfl⟩ | ⟨hvm, h60, k, W, sb, e, v2, Y, hk, hW, rfl, hY, hYM, hE, hS1, hsw⟩
  · clear hmb
    go_wp2_with fail
    go_ret2
    exact ⟨HBE1.out, .inl ⟨hvm, rfl⟩⟩
  · clear hmb
    go_wp2_with fail
    go_ret2
    exact ⟨HBE1.out, .inr (.inl ⟨hvm, h60, rfl⟩)⟩
  · obtain ⟨V, hV⟩ := hvm.fins hk
    have hms : mb ≠ sb := by omega
    have hws : w.heap.size ≤ sb := by omega
    have HVM := Lib.hid hvm; clear hvm
    have HW := Lib.hid hW; clear hW
    have HV := Lib.hid hV; clear hV
    have HK := Lib.hid hk; clear hk
    have HMBE := Lib.hid hmb; clear hmb
    rcases hE.1 with rfl | rfl
    · obtain ⟨a2, cap2, b2, o2, A2, C2, B2, O2, rfl, ha2, hc2, hm2, hbb2, hrow2⟩ := hY.open
      unfold maxLen at hm2
      have HA2 := Lib.hid ha2; clear ha2
      have HBB2 := Lib.hid hbb2; clear hbb2
      have HR2 := Lib.hid hrow2; clear hrow2 hY
      have HYM := Lib.hid hYM; clear hYM
      have HS1 := Lib.hid hS1; clear hS1
      have hzz := fun wx => semizero_any D.kind wx
      have HZZ := Lib.hid hzz; clear hzz
      have m0 := HBX1.out.c0
      clear hE
      go_wp2_with fail
      refine (HZZ.out _).mono ?_
      rintro r w3 ⟨rfl, hb3⟩
      clear m0
      go_wp2_with fail
      refine (filled_any D.n (zeroF D.kind) w3 (by omega)).mono ?_
      rintro r w4 ⟨rfl, how, hb4⟩
      have hgr0 : Gr w1.heap.size (some sb) w1 w4 := Gr.of (gb_trans (gb_below hb3 _) (gb_below hb4 _)) (Nat.le_refl _)
      have hs4 := (HS1.out.kept hb3).kept hb4
      obtain ⟨lb, hlb⟩ : ∃ lb, lb = w3.heap.size := ⟨_, rfl⟩
      have hlbw : w1.heap.size ≤ lb := by rw [hlb]; exact hb3.size
      have how' : OwS w4 w1.heap.size 9 (.slice (some ⟨lb, 0, none⟩) D.n D.n) D.n (fun _ => zeroF D.kind) := by rw [hlb]; exact how.low hb3.size
      rw [← hlb]
      have hsl := HS1.out.lt
      clear hlb how hb3 hb4 HS1
      have HOW := Lib.hid how'; clear how'
      have HS4 := Lib.hid hs4; clear hs4
      have HGR := Lib.hid hgr0; clear hgr0
      have ht0 : ToTo 0 D (CSR.starM (arcM D W) D.n) V 0 0 (fun _ => zeroF D.kind) := fun l hl => ⟨fun h => by omega, fun h => by rw [← HK.out]; exact Is.zero k 0, fun _ => by rw [HK.out]⟩
      have HT0 := Lib.hid ht0; clear ht0
      go_wp2_with fail
      -- ████ for q := range b
      go_loopw [26] (fun i wr => ∃ (q e : Nat) (Z : Nat → ByteArray), q ≤ D.n ∧ i = .int .i64 (q : Int) ∧ OwS wr w1.heap.size 9 (.slice (some ⟨lb, 0, none⟩) D.n D.n) D.n Z ∧ ToTo e D (CSR.starM (arcM D W) D.n) V q 0 Z ∧ Er (FitT D W V) e ∧ SumB wr sb k.1 e ∧ Gr w1.heap.size (some sb) w1 wr)
        (fun i _ => D.n - (intOf i).toNat)
      case atStart => exact ⟨0, 0, _, Nat.zero_le _, rfl, HOW.out, HT0.out, ⟨.inl rfl, fun _ => rfl⟩, HS4.out, HGR.out⟩
      case round =>
        obtain ⟨q, e, Z, hq, rfl, how, hto, hE, hS, hG⟩ := hrel
        clear HOW HT0 HS4 HGR
        have HOW := Lib.hid how; clear how
        have HTO := Lib.hid hto; clear hto
        have HE := Lib.hid hE; clear hE
        have HS := Lib.hid hS; clear hS
        have HG := Lib.hid hG; clear hG
        by_cases hlt : q < D.n
        · have hqz : (q : Int) < (D.n : Int) := by omega
          have hqz0 : (0 : Int) ≤ (q : Int) := by omega
          have m3 := HG.out.cell HBX1.out.c3 hmw1 (by simp; exact hms)
          go_wp2_with fail
          clear m3
          -- ████ for p, x := range m.States
          go_loopw [32] (fun i wr => ∃ (p e' : Nat) (Z : Nat → ByteArray), p ≤ D.n ∧ i = .int .i64 (p : Int) ∧ OwS wr w1.heap.size 9 (.slice (some ⟨lb, 0, none⟩) D.n D.n) D.n Z ∧ ToTo e' D (CSR.starM (arcM D W) D.n) V q p Z ∧ Er (FitT D W V) e' ∧ SumB wr sb k.1 e' ∧ Gr w1.heap.size (some sb) w1 wr)
            (fun i _ => D.n - (intOf i).toNat)
          case atStart => exact ⟨0, e, _, Nat.zero_le _, rfl, HOW.out, HTO.out, HE.out, HS.out, HG.out⟩
          case round =>
            obtain ⟨p, e', Z, hp, rfl, how, hto, hE, hS, hG⟩ := hrel
            clear HOW HTO HE HS HG
            have HOW := Lib.hid how; clear how
            have HTO := Lib.hid hto; clear hto
            have HE := Lib.hid hE; clear hE
            have HS := Lib.hid hS; clear hS
            have HG := Lib.hid hG; clear hG
            by_cases hlt2 : p < D.n
            · have hpz : (p : Int) < (D.n : Int) := by omega
              have hpz0 : (0 : Int) ≤ (p : Int) := by omega
              obtain rfl := HA.out (by omega)
              have hbb := (HB.out (by omega)).1
              obtain ⟨k1, k2, _⟩ := HR.out p hlt2
              have c0 := HG.out.cell (HBE1.out.cell (p := ⟨b, off + p * 2, none⟩) hbb |>.trans k1) (by show b < w1.heap.size; omega) (by simp; omega)
              have c1 := HG.out.cell (HBE1.out.cell (p := ⟨b, off + p * 2 + 1, none⟩) hbb |>.trans k2) (by show b < w1.heap.size; omega) (by simp; omega)
              clear k1 k2
              have hga := HG.out.size
              cases hF : ((D.fin p).toList == [])
              · obtain rfl := HA2.out (by omega)
                obtain ⟨hb21, hb22⟩ := HBB2.out (by omega)
                obtain ⟨r1, r2, r3, r4, r5, _, r7⟩ := HR2.out q hlt
                have r4' := r4 (by omega)
                have r5' := r5 (by omega)
                rw [r4'] at r1
                have y0 := HG.out.cell r1 hb21 hb22
                have y1 := HG.out.cell (r7 p hlt2) r5'.1 r5'.2
                have hB2l : B2 q < w1.heap.size := r5'.1
                have hB2s : B2 q ≠ sb := by have := r5'.2; simpa using this
                have hb2s : b2 ≠ sb := by simpa using hb22
                unfold maxLen at r3
                have hcn : (C2 q : Int) ≤ 9223372036854775807 := by omega
                clear r1 r4 r5 r7 r4' r5' hb22
                obtain ⟨wa, hwa⟩ : ∃ wa, wa = wr.alloc (.cells #[.string (D.fin p), .slice (A p) (D.na p) (C p)] 53) := ⟨_, rfl⟩
                obtain ⟨xb, hxb⟩ : ∃ xb, xb = wr.heap.size := ⟨_, rfl⟩
                have x0 : wa.cell? ⟨xb, 0, none⟩ = some (.string (D.fin p)) := by rw [hwa, hxb]; exact cell_new wr _ _ 0 _ rfl
                have hgwa : wr.grownBy wa none := by rw [hwa]; exact World.grownBy_alloc _ _ _
                have hlc : wr.cell? ⟨lb, q, none⟩ = some (.string (Z q)) := by
                  have := World.ownsRow.cells HOW.out (g := lb) rfl q _ (strs_get D.n Z q hlt)
                  rw [Addr.add_lit, Nat.zero_add] at this; exact this
                have hll : lb < wr.heap.size := World.block_lt_of_cell? _ _ hlc
                have hlf : wr.frozen? ⟨lb, q, none⟩ = false := by
                  rcases HOW.out.2 with ⟨h, _⟩ | ⟨g', cap', cur, hv', _, hgg, _⟩
                  · cases h
                  · cases hv'; simp [World.frozen?, hgg]
                have l0 := hgwa.cell hlc (by simp)
                have lf := (hgwa.frozen_far ⟨lb, q, none⟩ hll (by simp)).trans hlf
                have yy0 := hgwa.cell y0 (by simp)
                have yy1 := hgwa.cell y1 (by simp)
                have hsa : SumB wa sb k.1 e' := HS.out.kept (gb_none hgwa)
                have hTB : TabB w.heap.size wa := (((TabB.of HT.out).kept (z := none) (gb_below HBE1.out none) (by simp) (Nat.le_refl _)).gr HG.out (by intro j hj; cases hj; exact hws) (by omega)).kept hgwa (by simp) (by omega)
                have hxl : xb < wa.heap.size := by rw [hwa, hxb]; simp
                have hlwa : lb < wa.heap.size := Nat.lt_of_lt_of_le hll hgwa.size
                have hsx : sb < xb := by rw [hxb]; exact HS.out.lt
                have hlx : lb < xb := by rw [hxb]; exact hll
                have HGWA := Lib.hid hgwa; clear hgwa hlc hlf y0 y1
                have HSA := Lib.hid hsa; clear hsa
                have HTBA := Lib.hid hTB; clear hTB
                have hS0 : S4 ⟨lb, q, none⟩ ⟨b2, o2 + q, none⟩ ⟨B2 q, O2 q + p, none⟩ ⟨xb, 0, none⟩ (.string (Z q)) (.slice (some ⟨B2 q, O2 q, none⟩) D.n (C2 q)) (.string (Y q p)) (.string (D.fin p)) wa.drew := ⟨l0, yy0, yy1, x0⟩
                have hd1 := drew_gb wa (some sb)
                go_wp2_with fail
                rw [← hxb, ← hwa]
                have HWA := Lib.hid hwa; clear hwa
                have HXB := Lib.hid hxb; clear hxb
                clear c0 c1
                have nlb : some lb ≠ some sb := by simp; omega
                have nb2 : some b2 ≠ some sb := by simp; exact hb2s
                have nB2 : some (B2 q) ≠ some sb := by simp; exact hB2s
                have nxb : some xb ≠ some sb := by simp; omega
                have hfne : D.fin p ≠ ⟨#[]⟩ := fun h => by rw [h] at hF; exact absurd hF (by simp)
                refine region_heldK (S4 ⟨lb, q, none⟩ ⟨b2, o2 + q, none⟩ ⟨B2 q, O2 q + p, none⟩ ⟨xb, 0, none⟩ (.string (Z q)) (.slice (some ⟨B2 q, O2 q, none⟩) D.n (C2 q)) (.string (Y q p)) (.string (D.fin p))) 20 (by kernel_rfl) ?_
                refine AnyK.take (i := 0) (v := ?v0) rfl (by kernel_rfl) (by kernel_rfl) (by kernel_rfl) (by kernel_rfl) (by kernel_rfl) (fun _ _ _ h => h) hS0 (Or.inl ⟨by rfl, ?hy0⟩) ?rest0
                case hy0 => rintro wk ⟨s1, s2, s3, s4⟩; go_simp; try with_reducible rfl
                try simp only [Act.put, List.setIfInBounds_toArray, List.set_cons_zero, List.set_cons_succ]
                refine AnyK.take (i := 1) (v := ?v1) rfl (by kernel_rfl) (by kernel_rfl) (by kernel_rfl) (by kernel_rfl) (by kernel_rfl) (fun _ _ _ h => h) hS0 (Or.inl ⟨by rfl, ?hy1⟩) ?rest1
                case hy1 => rintro wk ⟨s1, s2, s3, s4⟩; go_simp; try with_reducible rfl
                try simp only [Act.put, List.setIfInBounds_toArray, List.set_cons_zero, List.set_cons_succ]
                refine AnyK.take (i := 2) (v := ?v2) rfl (by kernel_rfl) (by kernel_rfl) (by kernel_rfl) (by kernel_rfl) (by kernel_rfl) (fun _ _ _ h => h) hS0 (Or.inl ⟨by rfl, ?hy2⟩) ?rest2
                case hy2 => rintro wk ⟨s1, s2, s3, s4⟩; go_simp; try with_reducible rfl
                try simp only [Act.put, List.setIfInBounds_toArray, List.set_cons_zero, List.set_cons_succ]
                refine AnyK.take (i := 3) (v := ?v3) rfl (by kernel_rfl) (by kernel_rfl) (by kernel_rfl) (by kernel_rfl) (by kernel_rfl) (fun _ _ _ h => h) hS0 (Or.inl ⟨by rfl, ?hy3⟩) ?rest3
                case hy3 => rintro wk ⟨s1, s2, s3, s4⟩; go_simp; try with_reducible rfl
                try simp only [Act.put, List.setIfInBounds_toArray, List.set_cons_zero, List.set_cons_succ]
                refine AnyK.take (i := 4) (v := ?v4) rfl (by kernel_rfl) (by kernel_rfl) (by kernel_rfl) (by kernel_rfl) (by kernel_rfl) (fun _ _ _ h => h) hS0 (Or.inl ⟨by rfl, ?hy4⟩) ?rest4
                case hy4 => rintro wk ⟨s1, s2, s3, s4⟩; go_simp; try with_reducible rfl
                try simp only [Act.put, List.setIfInBounds_toArray, List.set_cons_zero, List.set_cons_succ]
                refine AnyK.take (i := 5) (v := ?v5) rfl (by kernel_rfl) (by kernel_rfl) (by kernel_rfl) (by kernel_rfl) (by kernel_rfl) (fun _ _ _ h => h) hS0 (Or.inl ⟨by rfl, ?hy5⟩) ?rest5
                case hy5 => rintro wk ⟨s1, s2, s3, s4⟩; go_simp; try with_reducible rfl
                try simp only [Act.put, List.setIfInBounds_toArray, List.set_cons_zero, List.set_cons_succ]
                refine AnyK.take (i := 6) (v := ?v6) rfl (by kernel_rfl) (by kernel_rfl) (by kernel_rfl) (by kernel_rfl) (by kernel_rfl) (fun _ _ _ h => h) hS0 (Or.inl ⟨by rfl, ?hy6⟩) ?rest6
                case hy6 => rintro wk ⟨s1, s2, s3, s4⟩; go_simp; try with_reducible rfl
                try simp only [Act.put, List.setIfInBounds_toArray, List.set_cons_zero, List.set_cons_succ]
                refine AnyK.take (i := 7) (v := ?v7) rfl (by kernel_rfl) (by kernel_rfl) (by kernel_rfl) (by kernel_rfl) (by kernel_rfl) (fun _ _ _ h => h) hS0 (Or.inl ⟨by rfl, ?hy7⟩) ?rest7
                case hy7 => rintro wk ⟨s1, s2, s3, s4⟩; go_simp; try with_reducible rfl
                try simp only [Act.put, List.setIfInBounds_toArray, List.set_cons_zero, List.set_cons_succ]
                refine AnyK.take (i := 8) (v := ?v8) rfl (by kernel_rfl) (by kernel_rfl) (by kernel_rfl) (by kernel_rfl) (by kernel_rfl) (fun _ _ _ h => h) hS0 (Or.inl ⟨by rfl, ?hy8⟩) ?rest8
                case hy8 => rintro wk ⟨s1, s2, s3, s4⟩; go_simp; try with_reducible rfl
                try simp only [Act.put, List.setIfInBounds_toArray, List.set_cons_zero, List.set_cons_succ]
                refine AnyK.take (i := 9) (v := ?v9) rfl (by kernel_rfl) (by kernel_rfl) (by kernel_rfl) (by kernel_rfl) (by kernel_rfl) (fun _ _ _ h => h) hS0 (Or.inl ⟨by rfl, ?hy9⟩) ?rest9
                case hy9 => rintro wk ⟨s1, s2, s3, s4⟩; go_simp; try with_reducible rfl
                try simp only [Act.put, List.setIfInBounds_toArray, List.set_cons_zero, List.set_cons_succ]
                refine AnyK.take (i := 10) (v := ?v10) rfl (by kernel_rfl) (by kernel_rfl) (by kernel_rfl) (by kernel_rfl) (by kernel_rfl) (fun _ _ _ h => h) hS0 (Or.inl ⟨by rfl, ?hy10⟩) ?rest10
                case hy10 => rintro wk ⟨s1, s2, s3, s4⟩; go_simp; try with_reducible rfl
                try simp only [Act.put, List.setIfInBounds_toArray, List.set_cons_zero, List.set_cons_succ]
                refine AnyK.take (i := 11) (v := ?v11) rfl (by kernel_rfl) (by kernel_rfl) (by kernel_rfl) (by kernel_rfl) (by kernel_rfl) (fun _ _ _ h => h) hS0 (Or.inl ⟨by rfl, ?hy11⟩) ?rest11
                case hy11 => rintro wk ⟨s1, s2, s3, s4⟩; go_simp; try with_reducible rfl
                try simp only [Act.put, List.setIfInBounds_toArray, List.set_cons_zero, List.set_cons_succ]
                refine AnyK.take (i := 12) (v := ?v12) rfl (by kernel_rfl) (by kernel_rfl) (by kernel_rfl) (by kernel_rfl) (by kernel_rfl) (fun _ _ _ h => h) hS0 (Or.inl ⟨by rfl, ?hy12⟩) ?rest12
                case hy12 => rintro wk ⟨s1, s2, s3, s4⟩; go_simp; try with_reducible rfl
                try simp only [Act.put, List.setIfInBounds_toArray, List.set_cons_zero, List.set_cons_succ]
                refine AnyK.take (i := 13) (v := ?v13) rfl (by kernel_rfl) (by kernel_rfl) (by kernel_rfl) (by kernel_rfl) (by kernel_rfl) (fun _ _ _ h => h) hS0 (Or.inl ⟨by rfl, ?hy13⟩) ?rest13
                case hy13 => rintro wk ⟨s1, s2, s3, s4⟩; go_simp; try with_reducible rfl
                try simp only [Act.put, List.setIfInBounds_toArray, List.set_cons_zero, List.set_cons_succ]
                refine AnyK.take (i := 14) (v := ?v14) rfl (by kernel_rfl) (by kernel_rfl) (by kernel_rfl) (by kernel_rfl) (by kernel_rfl) (fun _ _ _ h => h) hS0 (Or.inl ⟨by rfl, ?hy14⟩) ?rest14
                case hy14 => rintro wk ⟨s1, s2, s3, s4⟩; go_simp; try with_reducible rfl
                try simp only [Act.put, List.setIfInBounds_toArray, List.set_cons_zero, List.set_cons_succ]
                refine AnyK.take (i := 15) (v := ?v15) rfl (by kernel_rfl) (by kernel_rfl) (by kernel_rfl) (by kernel_rfl) (by kernel_rfl) (fun _ _ _ h => h) hS0 (Or.inl ⟨by rfl, ?hy15⟩) ?rest15
                case hy15 => rintro wk ⟨s1, s2, s3, s4⟩; go_simp; try with_reducible rfl
                try simp only [Act.put, List.setIfInBounds_toArray, List.set_cons_zero, List.set_cons_succ]
                refine AnyK.take (i := 16) (v := ?v16) rfl (by kernel_rfl) (by kernel_rfl) (by kernel_rfl) (by kernel_rfl) (by kernel_rfl) (fun _ _ _ h => h) hS0 (Or.inl ⟨by rfl, ?hy16⟩) ?rest16
                case hy16 => rintro wk ⟨s1, s2, s3, s4⟩; go_simp; try with_reducible rfl
                try simp only [Act.put, List.setIfInBounds_toArray, List.set_cons_zero, List.set_cons_succ]
                refine AnyK.one (i := 17) rfl (by kernel_rfl) (by rfl) (fun K hK => ?_)
                go_simp
                refine (ctimes_is ((HYM.out q p hlt hlt2).mono (fun _ => rfl)) ((HV.out.2 p hlt2 hfne).mono (fun _ => rfl)) HE.out (fun f => f.prod q p hlt hlt2 hfne) HTBA.out.drew.tab HSA.out.drew).mono ?_
                rintro r w5 ⟨u5, e5, rfl, hu5, he5, hm5, hs5, hg5⟩
                have hn5 := gb_trans hd1 hg5
                have hS5 : S4 ⟨lb, q, none⟩ ⟨b2, o2 + q, none⟩ ⟨B2 q, O2 q + p, none⟩ ⟨xb, 0, none⟩ (.string (Z q)) (.slice (some ⟨B2 q, O2 q, none⟩) D.n (C2 q)) (.string (Y q p)) (.string (D.fin p)) w5 := ⟨hn5.cell l0 nlb, hn5.cell yy0 nb2, hn5.cell yy1 nB2, hn5.cell x0 nxb⟩
                refine hK.out _ _ (.inr hS5) ?_
                clear hK K
                try simp only [Act.put, List.setIfInBounds_toArray, List.set_cons_zero, List.set_cons_succ]
                refine AnyK.one (i := 18) rfl (by kernel_rfl) (by rfl) (fun K hK => ?_)
                go_simp
                refine (cplus_is ((((HTO.out q hlt).2.1 rfl)).mono hm5) hu5 he5 (fun f => f.sum q p hlt hlt2 hfne) (HTBA.out.kept hn5 (by intro j hj; cases hj; exact hws) (by omega)).tab hs5).mono ?_
                rintro r w6 ⟨u6, e6, rfl, hu6, he6, hm6, hs6, hg6⟩
                have hn6 := gb_trans hn5 hg6
                have rf6 := (hn6.frozen_far ⟨lb, q, none⟩ hlwa nlb).trans lf
                have rc6 := hn6.cell l0 nlb
                have hS6 : S4 ⟨lb, q, none⟩ ⟨b2, o2 + q, none⟩ ⟨B2 q, O2 q + p, none⟩ ⟨xb, 0, none⟩ (.string (Z q)) (.slice (some ⟨B2 q, O2 q, none⟩) D.n (C2 q)) (.string (Y q p)) (.string (D.fin p)) w6 := ⟨rc6, hn6.cell yy0 nb2, hn6.cell yy1 nB2, hn6.cell x0 nxb⟩
                refine hK.out _ _ (.inr hS6) ?_
                clear hK K
                try simp only [Act.put, List.setIfInBounds_toArray, List.set_cons_zero, List.set_cons_succ]
                refine AnyK.take (i := 19) (v := ?v19) rfl (by kernel_rfl) (by kernel_rfl) (by kernel_rfl) (by kernel_rfl) (by kernel_rfl) (fun _ _ _ h => h) hS6 (Or.inl ⟨by rfl, ?hy19⟩) ?rest19
                case hy19 => rintro wk ⟨s1, s2, s3, s4⟩; go_simp; try with_reducible rfl
                try simp only [Act.put, List.setIfInBounds_toArray, List.set_cons_zero, List.set_cons_succ]
                refine AnyK.one (i := 20) rfl (by kernel_rfl) (by rfl) (fun K hK => ?_)
                go_simp
                refine hK.out _ _ (.inl rfl) (AnyK.done (by kernel_rfl) ?_ _)
                clear hK K
                go_wp2_with fail
                go_roundw
                case rel =>
                  have how6 := ((HOW.out.kept HGWA.out (by simp)).kept hn6 (by intro j hj; cases hj; exact hsl)).set hlt u6
                  have hs7 : SumB (w6.setCell ⟨lb, q, none⟩ (.string u6)) sb k.1 e6 := by
                    unfold SumB at *; rw [blk_setCell_other _ _ _ _ (by show sb ≠ lb; omega)]; exact hs6
                  exact ⟨p + 1, e6, _, by omega, by go_num, how6, HTO.out.next (fun h => hm5 (hm6 h)) hfne hu6, he6, hs7,
                    ((HG.out.more HGWA.out (by omega) (by simp)).more hn6 (by omega) (fun _ e => .inl e)).set (.inr hlbw) _⟩
                case measure => simp [intOf]; omega
              · have hfe : D.fin p = ⟨#[]⟩ := by rw [beq_iff_eq, Lib.toList_data] at hF; exact ByteArray.ext (Array.toList_inj.1 hF)
                have HFE := Lib.hid hfe; clear hfe
                go_wp2_with fail
                go_roundw
                case rel =>
                  exact ⟨p + 1, e', Z, by omega, by go_num, HOW.out.kept (World.grownBy_alloc wr _ none) (by simp), HTO.out.skip HFE.out, HE.out, HS.out.kept (gb_none (World.grownBy_alloc wr _ none)), HG.out.more (World.grownBy_alloc wr _ none) (by omega) (by simp)⟩
                case measure => simp [intOf]; omega
            · have hpn : p = D.n := by omega
              subst hpn
              have hgt : ¬ ((D.n : Int) < (D.n : Int)) := by omega
              go_wp2_with fail
              go_roundw
              case rel => exact ⟨q + 1, e', Z, by omega, by go_num, HOW.out, HTO.out.row, HE.out, HS.out, HG.out⟩
              case measure => simp [intOf]; omega
        · have hqn : q = D.n := by omega
          have hgt : ¬ ((q : Int) < (D.n : Int)) := by omega
          have HQN := Lib.hid hqn; clear hqn
          have hbf : Below w.heap.size w wr := ⟨HG.out.os.trans HBE1.out.os, HG.out.tape.trans HBE1.out.tape, HG.out.output.trans HBE1.out.output, Nat.le_trans HBE1.out.size HG.out.size, fun j hj => (HG.out.block j (by omega) (by simp; omega)).trans (HBE1.out.block j hj)⟩
          have HBF := Lib.hid hbf; clear hbf
          have e1 := HS.out.c1
          rcases HE.out.1 with rfl | rfl
          · go_wp2_with fail
            go_ret2
            refine ⟨HBF.out, .inr (.inr ⟨HVM.out, h60, k, W, V, HK.out, HW.out, HV.out, .inl ⟨_, Z, rfl, HOW.out.ss (by simp), fun i hi => ?_⟩⟩)⟩
            exact (HTO.out i hi).1 (by have := HQN.out; omega)
          · go_wp2_with fail
            go_quiet (fail)
            go_wp2
            go_ret2
            exact ⟨below_drewN HBF.out nq, .inr (.inr ⟨HVM.out, h60, k, W, V, HK.out, HW.out, HV.out, .inr ⟨rfl, fun f => by have := HE.out.2 f; omega⟩⟩)⟩
    · have hnf : ¬ FitT D W V := fun f => by have := hE.2 f.path; omega
      clear hE hY hYM hS1
      go_wp2_with fail
      go_ret2
      exact ⟨HBE1.out, .inr (.inr ⟨HVM.out, h60, k, W, V, HK.out, HW.out, HV.out, .inr ⟨rfl, hnf⟩⟩)⟩
end Go.Proofs.YtlmfppjphblemaaGreatDoor

namespace Go.Proofs.YtlmfppjphblemaaGreatDoor
set_option maxRecDepth 100000
set_option linter.unusedSimpArgs false
open Go Go.RowKit Go.Deep

theorem VM.leads {D : MD} (h : VM D) {k : KK} (hk : k.1 = D.kind) : ∃ L : RK k, Is k 0 D.lead L := by
  have hv := wt_valid h.lead
  exact Is.of_valid (k := k) (by rw [hk]; exact hv) (by have := valid_sz hv; omega) 0
/-- All that From computes fits. -/
structure FitF {k : KK} (D : MD) (W : Nat → Nat → RK k) (L : RK k) (st : Nat) : Prop where
  path : FitP D W
  prod : ∀ j, j < D.n → fitV (L * CSR.starM (arcM D W) D.n st j).1
/-- Behind From. -/
def FromE (D : MD) (w : World) (r : Ending) (w' : World) : Prop := Below w.heap.size w w' ∧
  ((¬ VM D ∧ r = .returned (.tuple #[.slice none 0 0, .int .i64 1])) ∨
   (VM D ∧ 60 < D.n ∧ r = .returned (.tuple #[.slice none 0 0, .int .i64 2])) ∨
   (VM D ∧ D.n ≤ 60 ∧ ∃ (k : KK) (W : Nat → Nat → RK k) (L : RK k) (st : Nat), k.1 = D.kind ∧ WtIs D W ∧ Is k 0 D.lead L ∧ D.start = (st : Int) ∧ st < D.n ∧
     ((∃ v Z, r = .returned (.tuple #[v, .int .i64 0]) ∧ Ss none w' v D.n Z ∧ ∀ j, j < D.n → Is k 0 (Z j) (L * CSR.starM (arcM D W) D.n st j)) ∨
      (r = .returned (.tuple #[.slice none 0 0, .int .i64 2]) ∧ ¬ FitF D W L st))))
theorem news1 {w : World} {b : Nat} {x : Value} (h : w.cell? ⟨b, 0, none⟩ = some x) : ∀ j u, [x][j]? = some u → w.cell? ((⟨b, 0, none⟩ : Addr).add j) = some u := by
  intro j u hu
  match j, hu with
  | 0, hu => simp at hu; subst hu; exact h
theorem keepG {P : Nat} {W wk : World} {z : Option Nat} {a b c d : Addr} {u v x y : Value} (hg : Gr P z W wk) (ha : W.cell? a = some u) (hb : W.cell? b = some v) (hc : W.cell? c = some x) (hd : W.cell? d = some y)
    (na : a.block < P ∧ some a.block ≠ z) (nb : b.block < P ∧ some b.block ≠ z) (nc : c.block < P ∧ some c.block ≠ z) (nd : d.block < P ∧ some d.block ≠ z) :
    wk.cell? a = some u ∧ wk.cell? b = some v ∧ wk.cell? c = some x ∧ wk.cell? d = some y :=
  ⟨hg.cell ha na.1 na.2, hg.cell hb nb.1 nb.2, hg.cell hc nc.1 nc.2, hg.cell hd nd.1 nd.2⟩

set_option maxHeartbeats 8000000 in
theorem from_any {D : MD} {v : Value} (w : World) (hM : Ma none w v D) (hs : MSz D) (ht : Tab w) : Calls Tryz.prog 19 #[v] w (FromE D w) := by
  obtain ⟨sv, rfl, hS⟩ := hM
  have hSk := hS
  obtain ⟨a, cap, b, off, A, C, BB, O, rfl, ha, hc, hm, hb, hrow⟩ := hS.open
  unfold maxLen at hm
  clear hS
  have hbox := BoxM.new w D (.slice a D.n cap)
  have hbel : Below w.heap.size w (w.alloc (.cells #[.int .i64 D.kind, .int .i64 D.start, .string D.lead, .slice a D.n cap] 31)) := (Below.refl _ _).alloc (Nat.le_refl _) _
  have hMA : Ma none (w.alloc (.cells #[.int .i64 D.kind, .int .i64 D.start, .string D.lead, .slice a D.n cap] 31)) (.agg #[.int .i64 D.kind, .int .i64 D.start, .string D.lead, .slice a D.n cap]) D := ⟨_, rfl, hSk.kept (World.grownBy_alloc _ _ _)⟩
  have hpa := paths_any _ hMA hs (ht.below hbel (Nat.le_refl _))
  clear hMA hSk
  have hnn := hs.n
  have HSZ := Lib.hid hs; clear hs
  have HT := Lib.hid ht; clear ht
  have HA := Lib.hid ha; clear ha
  have HB := Lib.hid hb; clear hb
  have HR := Lib.hid hrow; clear hrow
  have HBX := Lib.hid hbox; clear hbox
  have HBE := Lib.hid hbel; clear hbel
  have HPA := Lib.hid hpa; clear hpa
  go_enter Tryz.func19, Tryz.ntmps19
  go_wp2_with fail
  refine HPA.out.mono ?_
  rintro r w1 ⟨hb1, hv⟩
  have hbx1 := HBX.out.kept (gb_below hb1 none) (by simp)
  have hbe1 := HBE.out.trans (hb1.mono HBE.out.size)
  have hbsz : w.heap.size + 1 ≤ w1.heap.size := by have := hb1.size; simp at this; exact this
  have hsbx : (w.alloc (.cells #[.int .i64 D.kind, .int .i64 D.start, .string D.lead, .slice a D.n cap] 31)).heap.size = w.heap.size + 1 := by simp
  rw [hsbx] at hv
  clear hb1 HPA hsbx
  obtain ⟨mb, hmb⟩ : ∃ mb, mb = w.heap.size := ⟨_, rfl⟩
  rw [← hmb] at hbx1
  rw [← hmb]
  have hmw : w.heap.size ≤ mb := by rw [hmb]; exact Nat.le_refl _
  have hmw1 : mb < w1.heap.size := by omega
  clear HBX HBE
  have HBX1 := Lib.hid hbx1; clear hbx1
  have HBE1 := Lib.hid hbe1; clear hbe1
  rcases hv with ⟨hvm, rfl⟩ | ⟨hvm, h60, rfl⟩ | ⟨hvm, h60, k, W, sb, e, v2, Y, hk, hW, rfl, hY, hYM, hE, hS1, hsw⟩
  · clear hmb
    go_wp2_with fail
    go_ret2
    exact ⟨HBE1.out, .inl ⟨hvm, rfl⟩⟩
  · clear hmb
    go_wp2_with fail
    go_ret2
    exact ⟨HBE1.out, .inr (.inl ⟨hvm, h60, rfl⟩)⟩
  · obtain ⟨L, hL⟩ := hvm.leads hk
    obtain ⟨st, hst⟩ : ∃ st : Nat, D.start = (st : Int) := ⟨D.start.toNat, by have := hvm.s0; omega⟩
    have hstn : st < D.n := by have := hvm.s1; omega
    have hms : mb ≠ sb := by omega
    have hws : w.heap.size ≤ sb := by omega
    have HVM := Lib.hid hvm; clear hvm
    have HW := Lib.hid hW; clear hW
    have HL := Lib.hid hL; clear hL
    have HK := Lib.hid hk; clear hk
    have HST := Lib.hid hst; clear hst
    have HS0 := Lib.hid hS1.lt
    clear hmb
    rcases hE.1 with rfl | rfl
    · obtain ⟨a2, cap2, b2, o2, A2, C2, B2, O2, rfl, ha2, hc2, hm2, hbb2, hrow2⟩ := hY.open
      unfold maxLen at hm2
      have HA2 := Lib.hid ha2; clear ha2
      have HBB2 := Lib.hid hbb2; clear hbb2
      have HR2 := Lib.hid hrow2; clear hrow2 hY
      have HYM := Lib.hid hYM; clear hYM
      have HS1 := Lib.hid hS1; clear hS1
      clear hE
      go_wp2_with fail
      -- ████ for p := range b
      go_loopw [2, 18] (fun l i wr => ∃ (lv : Value) (p e : Nat) (Z : Nat → ByteArray), lv = l ∧ p ≤ D.n ∧ i = .int .i64 (p : Int) ∧ OwS wr w1.heap.size 9 lv p Z ∧ (∀ j, j < p → Is k e (Z j) (L * CSR.starM (arcM D W) D.n st j)) ∧ Er (FitF D W L st) e ∧ SumB wr sb k.1 e ∧ Gr w1.heap.size (some sb) w1 wr)
        (fun _ i _ => D.n - (intOf i).toNat)
      case atStart => exact ⟨_, 0, 0, fun _ => ⟨#[]⟩, rfl, Nat.zero_le _, rfl, OwS.nil _ _ _ _, fun j hj => by omega, ⟨.inl rfl, fun _ => rfl⟩, HS1.out, Gr.refl _ _ _⟩
      case round =>
        obtain ⟨lv, p, e, Z, hlv, hp, rfl, how, hto, hE, hS, hG⟩ := hrel
        subst hlv
        clear HS1
        have HOW := Lib.hid how; clear how
        have HTO := Lib.hid hto; clear hto
        have HE := Lib.hid hE; clear hE
        have HS := Lib.hid hS; clear hS
        have HG := Lib.hid hG; clear hG
        by_cases hlt : p < D.n
        · have hpz : (p : Int) < (D.n : Int) := by omega
          have hpz0 : (0 : Int) ≤ (p : Int) := by omega
          have hsz : (st : Int) < (D.n : Int) := by omega
          have hsz0 : (0 : Int) ≤ (st : Int) := by omega
          obtain rfl := HA2.out (by omega)
          obtain ⟨hb21, hb22⟩ := HBB2.out (by omega)
          obtain ⟨r1, r2, r3, r4, r5, _, r7⟩ := HR2.out st hstn
          have r4' := r4 (by omega)
          have r5' := r5 (by omega)
          rw [r4'] at r1
          have y0 := HG.out.cell r1 hb21 hb22
          have y1 := HG.out.cell (r7 p hlt) r5'.1 r5'.2
          have m2 := HG.out.cell HBX1.out.c2 hmw1 (by simp; exact hms)
          have m1 := HG.out.cell HBX1.out.c1 hmw1 (by simp; exact hms)
          rw [HST.out] at m1
          unfold maxLen at r3
          have hcn : (C2 st : Int) ≤ 9223372036854775807 := by omega
          have HKG := Lib.hid (fun wk (hg : Gr w1.heap.size (some sb) wr wk) => keepG hg m2 m1 y0 y1 ⟨hmw1, by simp; exact hms⟩ ⟨hmw1, by simp; exact hms⟩ ⟨hb21, hb22⟩ r5')
          have hsx : SumB wr.drew sb k.1 e := HS.out.drew
          have hTB : TabB w.heap.size wr := ((TabB.of HT.out).kept (z := none) (gb_below HBE1.out none) (by simp) (Nat.le_refl _)).gr HG.out (by intro j hj; cases hj; exact hws) (by omega)
          have HSX := Lib.hid hsx; clear hsx
          have HTBA := Lib.hid hTB.drew; clear hTB
          have hgsz := HG.out.size
          have hG0 : Gr w1.heap.size (some sb) wr wr.drew := (Gr.refl _ _ _).drew
          have hsl : sb < w1.heap.size := by
            rcases Nat.lt_or_ge sb w1.heap.size with h | h
            · exact h
            · have h0 := HS0.out; omega
          clear r1 r4 r5 r7 r4' r5' hb21 hb22
          obtain ⟨i0, hi0, hz0, hz1, hz2⟩ := info_parts info_str
          go_wp2_with fail
          go_region_held2 (fun wk => wk.cell? ⟨mb, 2, none⟩ = some (.string D.lead) ∧ wk.cell? ⟨mb, 1, none⟩ = some (.int .i64 (st : Int)) ∧ wk.cell? ⟨b2, o2 + st, none⟩ = some (.slice (some ⟨B2 st, O2 st, none⟩) D.n (C2 st)) ∧ wk.cell? ⟨B2 st, O2 st + p, none⟩ = some (.string (Y st p)))
            (first | exact HKG.out _ (by assumption) | exact HKG.out _ (hn5a _))
            (first
            | (go_at_call 49; refine (ctimes_is (HL.out.mono (fun _ => rfl)) ((HYM.out st p hstn hlt).mono (fun _ => rfl)) HE.out (fun f => f.prod p hlt) HTBA.out.tab HSX.out).mono ?_; rintro r w5 ⟨u5, e5, rfl, hu5, he5, hm5, hs5, hg5⟩; have hn5 := hG0.more hg5 hgsz (fun _ e => .inl e); have hn5a := fun o => hn5.alloc (by have := hn5.size; omega) o; have hw5 : w1.heap.size ≤ w5.heap.size := by { have := hn5.size; omega })
            | (refine step_append_lies _ rfl (.tmp 21) (.tmp 34) 33 rfl w1.heap.size 9 i0 (.string ⟨#[]⟩) 1 16 Tryz.underlying33 hi0 hz0 hz1 hz2 rfl (by omega) lv p (strs p Z) (by simp [Act.eval, Act.put]) ((HOW.out.kept (gb_trans (drew_gb wr (some sb)) hg5) (by intro j hj; cases hj; exact hsl)).kept (World.grownBy_alloc _ _ none) (by simp)) ⟨w5.heap.size, 0, none⟩ 1 1 [.string u5] (by simp [Act.eval, Act.put]) rfl
                (news1 (cell_new w5 _ _ 0 _ rfl)) (one_str _) (by omega) (by unfold maxLen; omega) (by omega) (by simp; omega) _ rfl ?_
               intro go cap' wa hown hgrow hat hlt'
               have hn6 := (hn5a _).more hgrow (by simp; omega) (fun j hj => .inr (World.ownsRow.lt HOW.out j hj).1)))
          rename_i hH
          clear hH
          go_wp2_with fail
          go_roundw
          case rel =>
            have hsb5 : SumB (w5.alloc (.cells #[.string u5] 9)) sb k.1 e5 := hs5.kept (gb_none (World.grownBy_alloc _ _ none))
            have hsba : SumB wa sb k.1 e5 := by
              unfold SumB at *
              rw [hgrow.block sb (Array.getElem?_eq_some_iff.1 hsb5).1 (fun e => by have := (World.ownsRow.lt HOW.out sb e.symm).1; omega)]; exact hsb5
            have hown' : OwS wa w1.heap.size 9 (.slice (some ⟨go, 0, none⟩) (p + 1) cap') (p + 1) (fun j => if j = p then u5 else Z j) := by
              unfold OwS
              rw [← strs_snoc, strs_congr (Y := Z) (fun j hj => by rw [if_neg (by omega)]), if_pos rfl]; exact hown
            refine ⟨_, p + 1, e5, _, rfl, by omega, by go_num, hown', fun j hj => ?_, he5, hsba, HG.out.trans hn6⟩
            by_cases hjp : j = p
            · subst hjp; simp only [if_true]; exact hu5
            · simp only [if_neg hjp]; exact (HTO.out j (by omega)).mono hm5
          case measure => simp [intOf]; omega
        · have hpn : p = D.n := by omega
          have hgt : ¬ ((p : Int) < (D.n : Int)) := by omega
          have HPN := Lib.hid hpn; clear hpn
          have hbf : Below w.heap.size w wr := ⟨HG.out.os.trans HBE1.out.os, HG.out.tape.trans HBE1.out.tape, HG.out.output.trans HBE1.out.output, Nat.le_trans HBE1.out.size HG.out.size, fun j hj => (HG.out.block j (by omega) (by simp; omega)).trans (HBE1.out.block j hj)⟩
          have HBF := Lib.hid hbf; clear hbf
          have e1 := HS.out.c1
          rcases HE.out.1 with rfl | rfl
          · go_wp2_with fail
            go_ret2
            have how := HOW.out
            rw [HPN.out] at how
            exact ⟨HBF.out, .inr (.inr ⟨HVM.out, h60, k, W, L, st, HK.out, HW.out, HL.out, HST.out, hstn, .inl ⟨_, Z, rfl, how.ss (by simp), fun j hj => HTO.out j (by rw [HPN.out]; exact hj)⟩⟩)⟩
          · go_wp2_with fail
            go_quiet (fail)
            go_wp2
            go_ret2
            exact ⟨below_drewN HBF.out nq, .inr (.inr ⟨HVM.out, h60, k, W, L, st, HK.out, HW.out, HL.out, HST.out, hstn, .inr ⟨rfl, fun f => by have := HE.out.2 f; omega⟩⟩)⟩
    · have hnf : ¬ FitF D W L st := fun f => by have := hE.2 f.path; omega
      clear hE hY hYM hS1
      go_wp2_with fail
      go_ret2
      exact ⟨HBE1.out, .inr (.inr ⟨HVM.out, h60, k, W, L, st, HK.out, HW.out, HL.out, HST.out, hstn, .inr ⟨rfl, hnf⟩⟩)⟩

/-- Behind Total. -/
def TotE (D : MD) (w : World) (r : Ending) (w' : World) : Prop := Below w.heap.size w w' ∧
  ((¬ VM D ∧ r = .returned (.tuple #[.string ⟨#[]⟩, .int .i64 1])) ∨
   (VM D ∧ 60 < D.n ∧ r = .returned (.tuple #[.string ⟨#[]⟩, .int .i64 2])) ∨
   (VM D ∧ D.n ≤ 60 ∧ ∃ (k : KK) (W : Nat → Nat → RK k) (V : Nat → RK k) (L : RK k) (st : Nat), k.1 = D.kind ∧ WtIs D W ∧ FinIs D V ∧ Is k 0 D.lead L ∧ D.start = (st : Int) ∧ st < D.n ∧
     ((∃ q : ByteArray × Nat, q = limV (L * toV D (CSR.starM (arcM D W) D.n) V st D.n).1 ∧ r = .returned (.tuple #[.string q.1, .int .i64 (q.2 : Int)])) ∨
      (r = .returned (.tuple #[.string ⟨#[]⟩, .int .i64 2]) ∧ ¬ FitT D W V))))
set_option maxHeartbeats 8000000 in
theorem total_any {D : MD} {v : Value} (w : World) (hM : Ma none w v D) (hs : MSz D) (ht : Tab w) : Calls Tryz.prog 20 #[v] w (TotE D w) := by
  obtain ⟨sv, rfl, hS⟩ := hM
  obtain ⟨a, cap, b, off, A, C, BB, O, hsv, _⟩ := hS.open
  subst hsv
  have hbox := BoxM.new w D (.slice a D.n cap)
  have hbel : Below w.heap.size w (w.alloc (.cells #[.int .i64 D.kind, .int .i64 D.start, .string D.lead, .slice a D.n cap] 31)) := (Below.refl _ _).alloc (Nat.le_refl _) _
  have hMA : Ma none (w.alloc (.cells #[.int .i64 D.kind, .int .i64 D.start, .string D.lead, .slice a D.n cap] 31)) (.agg #[.int .i64 D.kind, .int .i64 D.start, .string D.lead, .slice a D.n cap]) D := ⟨_, rfl, hS.kept (World.grownBy_alloc _ _ _)⟩
  have hto := to_any _ hMA hs (ht.below hbel (Nat.le_refl _))
  clear hMA hS hs
  have HT := Lib.hid ht; clear ht
  have HBX := Lib.hid hbox; clear hbox
  have HBE := Lib.hid hbel; clear hbel
  have HTO := Lib.hid hto; clear hto
  go_enter Tryz.func20, Tryz.ntmps20
  go_wp2_with fail
  refine HTO.out.mono ?_
  rintro r w1 ⟨hb1, hv⟩
  have hbx1 := HBX.out.kept (gb_below hb1 none) (by simp)
  have hbe1 := HBE.out.trans (hb1.mono HBE.out.size)
  clear hb1 HTO HBX HBE
  obtain ⟨mb, hmb⟩ : ∃ mb, mb = w.heap.size := ⟨_, rfl⟩
  rw [← hmb] at hbx1
  rw [← hmb]
  clear hmb
  have HBX1 := Lib.hid hbx1; clear hbx1
  have HBE1 := Lib.hid hbe1; clear hbe1
  rcases hv with ⟨hvm, rfl⟩ | ⟨hvm, h60, rfl⟩ | ⟨hvm, h60, k, W, V, hk, hW, hV, hv⟩
  · go_wp2_with fail
    go_ret2
    exact ⟨HBE1.out, .inl ⟨hvm, rfl⟩⟩
  · go_wp2_with fail
    go_ret2
    exact ⟨HBE1.out, .inr (.inl ⟨hvm, h60, rfl⟩)⟩
  · obtain ⟨L, hL⟩ := hvm.leads hk
    obtain ⟨st, hst⟩ : ∃ st : Nat, D.start = (st : Int) := ⟨D.start.toNat, by have := hvm.s0; omega⟩
    have hstn : st < D.n := by have := hvm.s1; omega
    rcases hv with ⟨v1, Z, rfl, hZ, hZs⟩ | ⟨rfl, hnf⟩
    · obtain ⟨a2, cap2, b2, o2, rfl, ha2, hc2, hm2, hb2, hcell⟩ := Rd.open hZ
      obtain rfl := ha2 (by omega)
      have l0 := hcell st hstn
      have m0 := HBX1.out.c0
      have m1 := HBX1.out.c1
      have m2 := HBX1.out.c2
      rw [hst] at m1
      unfold maxLen at hm2
      have hsz : (st : Int) < (D.n : Int) := by omega
      have hsz0 : (0 : Int) ≤ (st : Int) := by omega
      have hd1 := drew_gb w1 none
      have HKG := Lib.hid (fun wk (hg : w1.grownBy wk none) => (⟨hg.cell m0 (by simp), hg.cell m1 (by simp), hg.cell m2 (by simp), hg.cell l0 (by simp)⟩ :
        wk.cell? ⟨mb, 0, none⟩ = some (.int .i64 D.kind) ∧ wk.cell? ⟨mb, 1, none⟩ = some (.int .i64 (st : Int)) ∧ wk.cell? ⟨mb, 2, none⟩ = some (.string D.lead) ∧ wk.cell? ⟨b2, o2 + st, none⟩ = some (.string (Z st))))
      have hti := semitimes_any D.kind D.lead (Z st) w1.drew (by have := hL.1; omega) (by have := (hZs st hstn).1; omega) ((HT.out.below HBE1.out (Nat.le_refl _)).below ((Below.refl w1.heap.size w1).drew) (Nat.le_refl _))
      have hlim : timesF D.kind D.lead (Z st) = limV (L * toV D (CSR.starM (arcM D W) D.n) V st D.n).1 := by rw [← hk]; exact times_lim hL (hZs st hstn) rfl
      obtain ⟨⟨c, nn⟩, hr⟩ : ∃ r, r = timesF D.kind D.lead (Z st) := ⟨_, rfl⟩
      rw [← hr] at hti hlim
      have HTI := Lib.hid hti; clear hti
      have HLIM := Lib.hid hlim; clear hlim hr
      have HVM := Lib.hid hvm; clear hvm
      have HW := Lib.hid hW; clear hW
      have HV := Lib.hid hV; clear hV
      have HL := Lib.hid hL; clear hL
      have HK := Lib.hid hk; clear hk
      have HST := Lib.hid hst; clear hst
      clear hZs hcell hZ ha2 hb2
      go_wp2_with fail
      go_region_held2 (fun wk => wk.cell? ⟨mb, 0, none⟩ = some (.int .i64 D.kind) ∧ wk.cell? ⟨mb, 1, none⟩ = some (.int .i64 (st : Int)) ∧ wk.cell? ⟨mb, 2, none⟩ = some (.string D.lead) ∧ wk.cell? ⟨b2, o2 + st, none⟩ = some (.string (Z st)))
        (first | exact HKG.out _ (by assumption))
        (first
        | (go_at_call 50; refine HTI.out.mono ?_; rintro r w5 ⟨rfl, hb5⟩; have hn5 := gb_trans hd1 (gb_below hb5 none)))
      rename_i hH
      clear hH
      go_wp2_with fail
      go_ret2
      exact ⟨HBE1.out.trans ((gb_none hn5).mono HBE1.out.size), .inr (.inr ⟨HVM.out, h60, k, W, V, L, st, HK.out, HW.out, HV.out, HL.out, HST.out, hstn, .inl ⟨(c, nn), HLIM.out, rfl⟩⟩)⟩
    · go_wp2_with fail
      go_ret2
      exact ⟨HBE1.out, .inr (.inr ⟨hvm, h60, k, W, V, L, st, hk, hW, hV, hL, hst, hstn, .inr ⟨rfl, hnf⟩⟩)⟩
end Go.Proofs.YtlmfppjphblemaaGreatDoor
