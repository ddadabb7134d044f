/- The walk of abugidalaw07.moved: rows and columns exchanged. The walks of abugidalaw07's sum.ones, added and product: matrices that are built entry by entry. The walks of abugidalaw07's sum.added and product. -/
import Derived.Test.YtlmfppjphblemaaGreatDoorLawW
import Derived.Deep.AppendLies
namespace Go.Proofs.YtlmfppjphblemaaGreatDoor
open Go Go.RowKit Go.Deep
set_option maxRecDepth 100000
set_option linter.unusedSimpArgs false

/-- One entry more in row c. -/
def LL (n c d l : Nat) : Nat := if l < c then n else if l = c then d else 0
theorem snoc_step {wr wa w1 : World} {Z : Nat → Prop} {B g n c d go cap : Nat} {R : Nat → Value} {X : Nat → Nat → ByteArray} {u : ByteArray}
    (h : OM wr Z B 9 33 g n R (LL n c d) X) (hc : c < n) (hnil : ∀ l, c + 1 ≤ l → R l = .slice none 0 0) (ha : wr.grownBy wa none)
    (hown : w1.ownsRow B 9 1 (.slice (some ⟨go, 0, none⟩) (d + 1) cap) (d + 1) (strs d (X c) ++ [.string u])) (hg : wa.grownBy w1 (R c).ownBlock) (hat : (R c).ownBlock = some go ∨ go = wa.heap.size) :
    ∃ R3, OM (w1.setCell ⟨g, c, none⟩ (.slice (some ⟨go, 0, none⟩) (d + 1) cap)) Z B 9 33 g n R3 (LL n c (d + 1)) (fun i j => if i = c ∧ j = d then u else X i j) ∧ ∀ l, c + 1 ≤ l → R3 l = .slice none 0 0 := by
  have hrow : w1.ownsRow B 9 1 (.slice (some ⟨go, 0, none⟩) (d + 1) cap) (d + 1) (strs (d + 1) (fun j => if j = d then u else X c j)) := by
    rw [← strs_snoc, strs_congr (Y := X c) (fun j hj => by rw [if_neg (by omega)]), if_pos rfl]; exact hown
  refine ⟨_, ((h.appended hc ha hrow hg hat).congrL fun l hl => ?_).congr fun l j hl hj => ?_, fun l hl => ?_⟩
  · unfold LL
    by_cases e : l = c
    · subst e; simp
    · simp [e]
  · by_cases e : l = c
    · subst e; simp
    · simp [e]
  · simp only [show ¬ (l = c) by omega, if_false]; exact hnil l hl
theorem LL_end {n c : Nat} (l : Nat) : LL n c n l = LL n (c + 1) 0 l := by
  unfold LL
  by_cases e : l < c
  · rw [if_pos e, if_pos (by omega)]
  · by_cases e2 : l = c
    · rw [if_neg e, if_pos e2, if_pos (by omega)]
    · rw [if_neg e, if_neg e2, if_neg (by omega)]; split <;> rfl
/-- Behind moved. -/
def MovE (n p q : Nat) (X : Nat → Nat → ByteArray) (w : World) (r : Ending) (w' : World) : Prop :=
  ∃ v, r = .returned v ∧ Mt none w' v n (fun _ => n) (fun i j => X (CSR.swp p q i) (CSR.swp p q j)) ∧ Below w.heap.size w w'

set_option maxHeartbeats 8000000 in
theorem moved_any {n p q : Nat} {L : Nat → Nat} {X : Nat → Nat → ByteArray} {v : Value} (w : World) (hn : n ≤ 9) (hA : Mt none w v n L X) (hL : ∀ i, i < n → L i = n) (hp : p < n) (hq : q < n) :
    Calls Tryz.prog 32 #[v, .int .i64 (p : Int), .int .i64 (q : Int)] w (MovE n p q X w) := by
  obtain ⟨a, cap, b, off, A, C, BB, O, rfl, ha, hc, hm, hb, hrow⟩ := (hA.congr hL (fun _ _ _ _ => rfl) : Mt none w v n (fun _ => n) X).open
  unfold maxLen at hm
  obtain rfl := ha (by omega)
  have hb := (hb (by omega)).1
  clear hA hL ha
  have HR := Lib.hid hrow; clear hrow
  have HB := Lib.hid hb; clear hb
  have hmk1 := run_make_row' (P := Tryz.prog) 57 3 (.int .i64 0) 8 Tryz.underlying57 info_int rfl .i64 .i64 n (by omega) (by omega)
  have hmk2 := run_make_row' (P := Tryz.prog) 22 33 (.slice none 0 0) 24 Tryz.underlying22 info_strs rfl .i64 .i64 n (by omega) (by omega)
  have hr0 := World.rowIs_made w (.int .i64 0) n 3
  have hb0 : Below w.heap.size w (w.alloc (.cells (madeCells #[.int .i64 0] n) 3)) := (Below.refl _ _).alloc (Nat.le_refl _) _
  have HR0 := Lib.hid hr0; clear hr0
  have HB0 := Lib.hid hb0; clear hb0
  go_enter Tryz.func32, Tryz.ntmps32
  go_wp2_with fail
  clear hmk1
  obtain ⟨lb, hlb⟩ : ∃ lb, lb = w.heap.size := ⟨_, rfl⟩
  rw [← hlb] at HR0
  rw [← hlb]
  have HLB := Lib.hid hlb; clear hlb
  -- ████ l[i] = i
  go_loopw [8] (fun i wr => ∃ c : Nat, c ≤ n ∧ i = .int .i64 (c : Int) ∧ wr.rowIs lb 3 n (fun k => if k < c then .int .i64 (k : Int) else .int .i64 0) ∧ Below w.heap.size w wr) (fun i _ => n - (intOf i).toNat)
  case atStart => exact ⟨0, Nat.zero_le _, rfl, HR0.out.congr (fun k _ => by simp), HB0.out⟩
  case round =>
    obtain ⟨c, hc2, rfl, hrw, hbw⟩ := hrel
    clear HR0 HB0
    have HRW := Lib.hid hrw; clear hrw
    have HBW := Lib.hid hbw; clear hbw
    by_cases hlt : c < n
    · have hcz : (c : Int) < (n : Int) := by omega
      have hcz0 : (0 : Int) ≤ (c : Int) := by omega
      have f0 := HRW.out.frozen c
      have c0 := HRW.out.cell hlt
      simp only [Nat.lt_irrefl, if_false] at c0
      go_wp2_with fail
      go_roundw
      case rel =>
        refine ⟨c + 1, by omega, by go_num, (HRW.out.set c _).congr (fun k hk => ?_), HBW.out.setCell (by show w.heap.size ≤ lb; rw [HLB.out]; exact Nat.le_refl _) _⟩
        by_cases e : k = c
        · subst e; simp
        · rw [if_neg e]
          by_cases e2 : k < c
          · rw [if_pos e2, if_pos (by omega)]
          · rw [if_neg e2, if_neg (by omega)]
      case measure => simp [intOf]; omega
    · have hqn : c = n := by omega
      subst hqn
      have hgt : ¬ ((c : Int) < (c : Int)) := by omega
      have hpz : (p : Int) < (c : Int) := by omega
      have hpz0 : (0 : Int) ≤ (p : Int) := by omega
      have hqz : (q : Int) < (c : Int) := by omega
      have hqz0 : (0 : Int) ≤ (q : Int) := by omega
      have f0 := HRW.out.frozen p
      have f1 := HRW.out.frozen q
      have c0 := HRW.out.cell hp
      have c1 := HRW.out.cell hq
      rw [if_pos hp] at c0
      rw [if_pos hq] at c1
      have hset := HRW.out.set p (.int .i64 (q : Int))
      obtain ⟨z, hz⟩ : ∃ z, (wr.setCell ⟨lb, p, none⟩ (.int .i64 (q : Int))).cell? ⟨lb, q, none⟩ = some z := ⟨_, hset.cell hq⟩
      have f2 := hset.frozen q
      have hrow2 := (hset.set q (.int .i64 (p : Int))).congr (g := fun k => .int .i64 (CSR.swp p q k : Int)) (fun k hk => by
        unfold CSR.swp
        by_cases e1 : k = q
        · subst e1
          by_cases e2 : k = p
          · subst e2; simp
          · simp [e2]
        · by_cases e2 : k = p
          · subst e2; simp [e1]
          · simp [e1, e2, hk])
      have hb2 : Below w.heap.size w ((wr.setCell ⟨lb, p, none⟩ (.int .i64 (q : Int))).setCell ⟨lb, q, none⟩ (.int .i64 (p : Int))) := (HBW.out.setCell (by show w.heap.size ≤ lb; rw [HLB.out]; exact Nat.le_refl _) _).setCell (by show w.heap.size ≤ lb; rw [HLB.out]; exact Nat.le_refl _) _
      have HRW2 := Lib.hid hrow2; clear hrow2
      have HB2 := Lib.hid hb2; clear hb2
      clear hset
      obtain ⟨w2, hw2⟩ : ∃ w2, w2 = (wr.setCell ⟨lb, p, none⟩ (.int .i64 (q : Int))).setCell ⟨lb, q, none⟩ (.int .i64 (p : Int)) := ⟨_, rfl⟩
      have hmad : OM (w2.alloc (.cells (madeCells #[.slice none 0 0] c) 33)) (fun _ => False) w2.heap.size 9 33 w2.heap.size c (fun _ => .slice none 0 0) (LL c 0 0) (fun i j => X (CSR.swp p q i) (CSR.swp p q j)) :=
        (OM.made w2 (fun _ => False) (by simp) w2.heap.size (Nat.le_refl _) 9 33 c _).congrL fun l _ => by unfold LL; split <;> (try split) <;> first | rfl | omega
      have hb3 : Below w2.heap.size w2 (w2.alloc (.cells (madeCells #[.slice none 0 0] c) 33)) := (Below.refl _ _).alloc (Nat.le_refl _) _
      have hsz2 : w2.heap.size = wr.heap.size := by rw [hw2]; simp
      rw [← hw2] at HRW2 HB2
      have HMD := Lib.hid hmad; clear hmad
      have HB3 := Lib.hid hb3; clear hb3
      go_wp2_with fail
      rw [← hw2, ← hsz2]
      clear hmk2 f0 f1 f2 c0 c1 hz
      have HW2 := Lib.hid hw2; clear hw2
      have HSZ2 := Lib.hid hsz2; clear hsz2
      obtain ⟨gB, hgB⟩ : ∃ gB, gB = w2.heap.size := ⟨_, rfl⟩
      rw [← hgB] at HMD HB3
      rw [← hgB]
      have hlbB : lb < gB := by rw [hgB]; exact HRW2.out.lt
      have hbB : b < gB := by have h1 := HB.out; have h2 := HB2.out.size; rw [hgB]; omega
      have HGB := Lib.hid hgB; clear hgB
      clear HRW HBW
      -- ████ for i
      go_loopw [10, 11] (fun i _ wr => ∃ (d : Nat) (R2 : Nat → Value), d ≤ c ∧ i = .int .i64 (d : Int) ∧ OM wr (fun _ => False) gB 9 33 gB c R2 (LL c d 0) (fun i j => X (CSR.swp p q i) (CSR.swp p q j)) ∧
        (∀ l, d ≤ l → R2 l = .slice none 0 0) ∧ Below gB w2 wr) (fun i _ _ => c - (intOf i).toNat)
      case atStart => exact ⟨0, _, Nat.zero_le _, rfl, HMD.out, fun _ _ => rfl, HB3.out⟩
      case round =>
        obtain ⟨d, R2, hd, rfl, hom, hnil, hbw⟩ := hrel
        clear HMD HB3
        have HOM := Lib.hid hom; clear hom
        have HNL := Lib.hid hnil; clear hnil
        have HBW := Lib.hid hbw; clear hbw
        by_cases hlt : d < c
        · have hdz : (d : Int) < (c : Int) := by omega
          have hdz0 : (0 : Int) ≤ (d : Int) := by omega
          go_wp2_with fail
          -- ████ for j
          go_loopw [11] (fun i wr => ∃ (m : Nat) (R3 : Nat → Value), m ≤ c ∧ i = .int .i64 (m : Int) ∧ OM wr (fun _ => False) gB 9 33 gB c R3 (LL c d m) (fun i j => X (CSR.swp p q i) (CSR.swp p q j)) ∧
            (∀ l, d + 1 ≤ l → R3 l = .slice none 0 0) ∧ Below gB w2 wr) (fun i _ => c - (intOf i).toNat)
          case atStart => exact ⟨0, R2, Nat.zero_le _, rfl, HOM.out, fun l hl => HNL.out l (by omega), HBW.out⟩
          case round =>
            obtain ⟨m, R3, hm2, rfl, hom, hnil, hbw⟩ := hrel
            clear HOM HNL HBW
            have HOM := Lib.hid hom; clear hom
            have HNL := Lib.hid hnil; clear hnil
            have HBW := Lib.hid hbw; clear hbw
            by_cases hlt2 : m < c
            · have hmz : (m : Int) < (c : Int) := by omega
              have hmz0 : (0 : Int) ≤ (m : Int) := by omega
              obtain ⟨si, hsi⟩ : ∃ si, si = CSR.swp p q d := ⟨_, rfl⟩
              obtain ⟨sj, hsj⟩ : ∃ sj, sj = CSR.swp p q m := ⟨_, rfl⟩
              have hsil : si < c := by rw [hsi]; exact CSR.swp_lt hp hq hlt
              have hsjl : sj < c := by rw [hsj]; exact CSR.swp_lt hp hq hlt2
              have hsiz : (si : Int) < (c : Int) := by omega
              have hsjz : (sj : Int) < (c : Int) := by omega
              have hsiz0 : (0 : Int) ≤ (si : Int) := by omega
              have hsjz0 : (0 : Int) ≤ (sj : Int) := by omega
              obtain ⟨lv, hlv⟩ : ∃ lv, lv = R3 d := ⟨_, rfl⟩
              have s1 := HOM.out.cell hlt
              rw [← hlv] at s1
              have s2 : wr.cell? ⟨lb, d, none⟩ = some (.int .i64 (si : Int)) := by rw [hsi]; exact (HBW.out.cell (p := ⟨lb, d, none⟩) hlbB).trans (HRW2.out.cell hlt)
              have s3 : wr.cell? ⟨lb, m, none⟩ = some (.int .i64 (sj : Int)) := by rw [hsj]; exact (HBW.out.cell (p := ⟨lb, m, none⟩) hlbB).trans (HRW2.out.cell hlt2)
              obtain ⟨r1, _, r3, r4, r5, _, r7⟩ := HR.out si hsil
              have r4' := r4 (by omega)
              have hBB := (r5 (by omega)).1
              rw [r4'] at r1
              unfold maxLen at r3
              have hcn : (C si : Int) ≤ 9223372036854775807 := by omega
              obtain ⟨u, hu⟩ : ∃ u, u = X si sj := ⟨_, rfl⟩
              have hBBg : BB si < gB := by have h2 := HB2.out.size; rw [HGB.out]; omega
              have s4 := (HBW.out.cell (p := ⟨b, off + si, none⟩) hbB).trans ((HB2.out.cell (p := ⟨b, off + si, none⟩) HB.out).trans r1)
              have s5 := (HBW.out.cell (p := ⟨BB si, O si + sj, none⟩) hBBg).trans ((HB2.out.cell (p := ⟨BB si, O si + sj, none⟩) hBB).trans (r7 sj hsjl))
              rw [← hu] at s5
              have hfz := HOM.out.frozen d
              have hgl := HOM.out.lt
              have HSI := Lib.hid hsi; clear hsi
              have HSJ := Lib.hid hsj; clear hsj
              have HU := Lib.hid hu; clear hu
              clear r1 r4 r4' r5 r7 hBB
              obtain ⟨i0, hi0, hz0, hz1, hz2⟩ := info_parts info_str
              have HKC := Lib.hid (fun wk' (hg : wr.grownBy wk' none) => (⟨hg.cell s1 (by simp), hg.cell s2 (by simp), hg.cell s3 (by simp), hg.cell s4 (by simp), hg.cell s5 (by simp)⟩ :
                wk'.cell? ⟨gB, d, none⟩ = some lv ∧ wk'.cell? ⟨lb, d, none⟩ = some (.int .i64 (si : Int)) ∧ wk'.cell? ⟨lb, m, none⟩ = some (.int .i64 (sj : Int)) ∧ wk'.cell? ⟨b, off + si, none⟩ = some (.slice (some ⟨BB si, O si, none⟩) c (C si)) ∧ wk'.cell? ⟨BB si, O si + sj, none⟩ = some (.string u)))
              have HLV := Lib.hid hlv; clear hlv
              go_wp2_with fail
              have hS0 := HKC.out wr.drew (drew_gb wr none)
              refine region_heldK (fun wk' => wk'.cell? ⟨gB, d, none⟩ = some lv ∧ wk'.cell? ⟨lb, d, none⟩ = some (.int .i64 (si : Int)) ∧ wk'.cell? ⟨lb, m, none⟩ = some (.int .i64 (sj : Int)) ∧ wk'.cell? ⟨b, off + si, none⟩ = some (.slice (some ⟨BB si, O si, none⟩) c (C si)) ∧ wk'.cell? ⟨BB si, O si + sj, none⟩ = some (.string u)) 22 (by kernel_rfl) ?_
              refine AnyK.take (i := 0) (v := ?v0) rfl (by kernel_rfl) (by kernel_rfl) (by kernel_rfl) (by kernel_rfl) (by kernel_rfl) (fun _ _ _ h => h) hS0 (Or.inl ⟨by kernel_rfl, ?hy0⟩) ?rest0
              case hy0 => rintro wk ⟨s1, s2, s3, s4, s5⟩; go_simp; try with_reducible rfl
              try simp only [Act.put, List.setIfInBounds_toArray, List.set_cons_zero, List.set_cons_succ]
              refine AnyK.take (i := 1) (v := ?v1) rfl (by kernel_rfl) (by kernel_rfl) (by kernel_rfl) (by kernel_rfl) (by kernel_rfl) (fun _ _ _ h => h) hS0 (Or.inl ⟨by kernel_rfl, ?hy1⟩) ?rest1
              case hy1 => rintro wk ⟨s1, s2, s3, s4, s5⟩; go_simp; try with_reducible rfl
              try simp only [Act.put, List.setIfInBounds_toArray, List.set_cons_zero, List.set_cons_succ]
              refine AnyK.take (i := 2) (v := ?v2) rfl (by kernel_rfl) (by kernel_rfl) (by kernel_rfl) (by kernel_rfl) (by kernel_rfl) (fun _ _ _ h => h) hS0 (Or.inl ⟨by kernel_rfl, ?hy2⟩) ?rest2
              case hy2 => rintro wk ⟨s1, s2, s3, s4, s5⟩; go_simp; try with_reducible rfl
              try simp only [Act.put, List.setIfInBounds_toArray, List.set_cons_zero, List.set_cons_succ]
              refine AnyK.take (i := 3) (v := ?v3) rfl (by kernel_rfl) (by kernel_rfl) (by kernel_rfl) (by kernel_rfl) (by kernel_rfl) (fun _ _ _ h => h) hS0 (Or.inl ⟨by kernel_rfl, ?hy3⟩) ?rest3
              case hy3 => rintro wk ⟨s1, s2, s3, s4, s5⟩; go_simp; try with_reducible rfl
              try simp only [Act.put, List.setIfInBounds_toArray, List.set_cons_zero, List.set_cons_succ]
              refine AnyK.take (i := 4) (v := ?v4) rfl (by kernel_rfl) (by kernel_rfl) (by kernel_rfl) (by kernel_rfl) (by kernel_rfl) (fun _ _ _ h => h) hS0 (Or.inl ⟨by kernel_rfl, ?hy4⟩) ?rest4
              case hy4 => rintro wk ⟨s1, s2, s3, s4, s5⟩; go_simp; try with_reducible rfl
              try simp only [Act.put, List.setIfInBounds_toArray, List.set_cons_zero, List.set_cons_succ]
              refine AnyK.take (i := 5) (v := ?v5) rfl (by kernel_rfl) (by kernel_rfl) (by kernel_rfl) (by kernel_rfl) (by kernel_rfl) (fun _ _ _ h => h) hS0 (Or.inl ⟨by kernel_rfl, ?hy5⟩) ?rest5
              case hy5 => rintro wk ⟨s1, s2, s3, s4, s5⟩; go_simp; try with_reducible rfl
              try simp only [Act.put, List.setIfInBounds_toArray, List.set_cons_zero, List.set_cons_succ]
              refine AnyK.take (i := 6) (v := ?v6) rfl (by kernel_rfl) (by kernel_rfl) (by kernel_rfl) (by kernel_rfl) (by kernel_rfl) (fun _ _ _ h => h) hS0 (Or.inl ⟨by kernel_rfl, ?hy6⟩) ?rest6
              case hy6 => rintro wk ⟨s1, s2, s3, s4, s5⟩; go_simp; try with_reducible rfl
              try simp only [Act.put, List.setIfInBounds_toArray, List.set_cons_zero, List.set_cons_succ]
              refine AnyK.take (i := 7) (v := ?v7) rfl (by kernel_rfl) (by kernel_rfl) (by kernel_rfl) (by kernel_rfl) (by kernel_rfl) (fun _ _ _ h => h) hS0 (Or.inl ⟨by kernel_rfl, ?hy7⟩) ?rest7
              case hy7 => rintro wk ⟨s1, s2, s3, s4, s5⟩; go_simp; try with_reducible rfl
              try simp only [Act.put, List.setIfInBounds_toArray, List.set_cons_zero, List.set_cons_succ]
              refine AnyK.take (i := 8) (v := ?v8) rfl (by kernel_rfl) (by kernel_rfl) (by kernel_rfl) (by kernel_rfl) (by kernel_rfl) (fun _ _ _ h => h) hS0 (Or.inl ⟨by kernel_rfl, ?hy8⟩) ?rest8
              case hy8 => rintro wk ⟨s1, s2, s3, s4, s5⟩; go_simp; try with_reducible rfl
              try simp only [Act.put, List.setIfInBounds_toArray, List.set_cons_zero, List.set_cons_succ]
              refine AnyK.take (i := 9) (v := ?v9) rfl (by kernel_rfl) (by kernel_rfl) (by kernel_rfl) (by kernel_rfl) (by kernel_rfl) (fun _ _ _ h => h) hS0 (Or.inl ⟨by kernel_rfl, ?hy9⟩) ?rest9
              case hy9 => rintro wk ⟨s1, s2, s3, s4, s5⟩; go_simp; try with_reducible rfl
              try simp only [Act.put, List.setIfInBounds_toArray, List.set_cons_zero, List.set_cons_succ]
              refine AnyK.take (i := 10) (v := ?v10) rfl (by kernel_rfl) (by kernel_rfl) (by kernel_rfl) (by kernel_rfl) (by kernel_rfl) (fun _ _ _ h => h) hS0 (Or.inl ⟨by kernel_rfl, ?hy10⟩) ?rest10
              case hy10 => rintro wk ⟨s1, s2, s3, s4, s5⟩; go_simp; try with_reducible rfl
              try simp only [Act.put, List.setIfInBounds_toArray, List.set_cons_zero, List.set_cons_succ]
              refine AnyK.take (i := 11) (v := ?v11) rfl (by kernel_rfl) (by kernel_rfl) (by kernel_rfl) (by kernel_rfl) (by kernel_rfl) (fun _ _ _ h => h) hS0 (Or.inl ⟨by kernel_rfl, ?hy11⟩) ?rest11
              case hy11 => rintro wk ⟨s1, s2, s3, s4, s5⟩; go_simp; try with_reducible rfl
              try simp only [Act.put, List.setIfInBounds_toArray, List.set_cons_zero, List.set_cons_succ]
              refine AnyK.take (i := 12) (v := ?v12) rfl (by kernel_rfl) (by kernel_rfl) (by kernel_rfl) (by kernel_rfl) (by kernel_rfl) (fun _ _ _ h => h) hS0 (Or.inl ⟨by kernel_rfl, ?hy12⟩) ?rest12
              case hy12 => rintro wk ⟨s1, s2, s3, s4, s5⟩; go_simp; try with_reducible rfl
              try simp only [Act.put, List.setIfInBounds_toArray, List.set_cons_zero, List.set_cons_succ]
              refine AnyK.take (i := 13) (v := ?v13) rfl (by kernel_rfl) (by kernel_rfl) (by kernel_rfl) (by kernel_rfl) (by kernel_rfl) (fun _ _ _ h => h) hS0 (Or.inl ⟨by kernel_rfl, ?hy13⟩) ?rest13
              case hy13 => rintro wk ⟨s1, s2, s3, s4, s5⟩; go_simp; try with_reducible rfl
              try simp only [Act.put, List.setIfInBounds_toArray, List.set_cons_zero, List.set_cons_succ]
              refine AnyK.take (i := 14) (v := ?v14) rfl (by kernel_rfl) (by kernel_rfl) (by kernel_rfl) (by kernel_rfl) (by kernel_rfl) (fun _ _ _ h => h) hS0 (Or.inl ⟨by kernel_rfl, ?hy14⟩) ?rest14
              case hy14 => rintro wk ⟨s1, s2, s3, s4, s5⟩; go_simp; try with_reducible rfl
              try simp only [Act.put, List.setIfInBounds_toArray, List.set_cons_zero, List.set_cons_succ]
              refine AnyK.take (i := 15) (v := ?v15) rfl (by kernel_rfl) (by kernel_rfl) (by kernel_rfl) (by kernel_rfl) (by kernel_rfl) (fun _ _ _ h => h) hS0 (Or.inl ⟨by kernel_rfl, ?hy15⟩) ?rest15
              case hy15 => rintro wk ⟨s1, s2, s3, s4, s5⟩; go_simp; try with_reducible rfl
              try simp only [Act.put, List.setIfInBounds_toArray, List.set_cons_zero, List.set_cons_succ]
              refine AnyK.take (i := 16) (v := ?v16) rfl (by kernel_rfl) (by kernel_rfl) (by kernel_rfl) (by kernel_rfl) (by kernel_rfl) (fun _ _ _ h => h) hS0 (Or.inl ⟨by kernel_rfl, ?hy16⟩) ?rest16
              case hy16 => rintro wk ⟨s1, s2, s3, s4, s5⟩; go_simp; try with_reducible rfl
              try simp only [Act.put, List.setIfInBounds_toArray, List.set_cons_zero, List.set_cons_succ]
              refine AnyK.take (i := 17) (v := ?v17) rfl (by kernel_rfl) (by kernel_rfl) (by kernel_rfl) (by kernel_rfl) (by kernel_rfl) (fun _ _ _ h => h) hS0 (Or.inl ⟨by kernel_rfl, ?hy17⟩) ?rest17
              case hy17 => rintro wk ⟨s1, s2, s3, s4, s5⟩; go_simp; try with_reducible rfl
              try simp only [Act.put, List.setIfInBounds_toArray, List.set_cons_zero, List.set_cons_succ]
              refine AnyK.take (i := 18) (v := ?v18) rfl (by kernel_rfl) (by kernel_rfl) (by kernel_rfl) (by kernel_rfl) (by kernel_rfl) (fun _ _ _ h => h) hS0 (Or.inl ⟨by kernel_rfl, ?hy18⟩) ?rest18
              case hy18 => rintro wk ⟨s1, s2, s3, s4, s5⟩; go_simp; try with_reducible rfl
              try simp only [Act.put, List.setIfInBounds_toArray, List.set_cons_zero, List.set_cons_succ]
              refine AnyK.one (i := 19) rfl (by kernel_rfl) (by rfl) (fun K hK => ?_)
              go_simp
              obtain ⟨wz, hwz⟩ : ∃ wz, wz = (wr.alloc (.cells #[.string u] 9)).drew := ⟨_, rfl⟩
              have hga : wr.grownBy wz none := by rw [hwz]; exact gb_drew (World.grownBy_alloc wr _ none)
              have hza : wz.heap.size = wr.heap.size + 1 := by rw [hwz]; simp
              have hnew : wz.cell? ⟨wr.heap.size, 0, none⟩ = some (.string u) := by rw [hwz]; exact cell_new wr _ _ 0 _ rfl
              rw [← hwz]
              have HWZ := Lib.hid hwz; clear hwz
              have hS1 := HKC.out wz hga
              refine hK.out _ _ (.inr hS1) ?_
              clear hK K
              try simp only [Act.put, List.setIfInBounds_toArray, List.set_cons_zero, List.set_cons_succ]
              have hrw : OwS wz gB 9 lv m (X (CSR.swp p q d) |> fun f => fun j => f (CSR.swp p q j)) := by
                have h1 := (HOM.out.kept hga (by simp)).row d hlt
                have h2 : LL c d m d = m := by unfold LL; simp
                rw [← HLV.out, h2] at h1; exact h1
              have HRWZ := Lib.hid hrw; clear hrw
              have hwsz : gB ≤ wz.heap.size := by have := HBW.out.size; have := HGB.out; omega
              refine AnyK.one (i := 20) rfl (by kernel_rfl) (by rfl) (fun K hK => ?_)
              refine wp_append_lies _ (.tmp 53) (.tmp 67) 33 rfl gB 9 i0 (.string ⟨#[]⟩) 1 16 Tryz.underlying33 hi0 hz0 hz1 hz2 rfl (by omega) lv m _ (by simp [Act.eval]) HRWZ.out ⟨wr.heap.size, 0, none⟩ 1 1 [.string u] (by simp [Act.eval]) rfl
                (news1 hnew) (one_str _) (by omega) (by unfold maxLen; omega) (by omega) hwsz _ rfl ?_
              intro go cap' wa hown hgrow hat hlt'
              have hlvl : ∀ k, lv.ownBlock = some k → gB ≤ k ∧ k < wr.heap.size := fun k hk => (HOM.out.rowLt hlt) k (by rw [← HLV.out]; exact hk)
              have hlvg : ∀ k, lv.ownBlock = some k → k ≠ gB := fun k hk => (HOM.out.far d hlt k (by rw [← HLV.out]; exact hk)).1
              have hcw : ∀ (ad : Addr) (x : Value), ad.block < wr.heap.size → (∀ k, lv.ownBlock = some k → k ≠ ad.block) → wr.cell? ad = some x → wa.cell? ad = some x := fun ad x h1 h2 h3 =>
                hgrow.cell (hga.cell h3 (by simp)) (fun e => h2 _ e.symm rfl)
              have hlow : ∀ ad : Addr, ad.block < gB → ∀ k, lv.ownBlock = some k → k ≠ ad.block := fun ad h1 k hk e => by have := (hlvl k hk).1; omega
              have hwrB : gB ≤ wr.heap.size := by have := HBW.out.size; have := HGB.out; omega
              have hS2 : wa.cell? ⟨gB, d, none⟩ = some lv ∧ wa.cell? ⟨lb, d, none⟩ = some (.int .i64 (si : Int)) ∧ wa.cell? ⟨lb, m, none⟩ = some (.int .i64 (sj : Int)) ∧ wa.cell? ⟨b, off + si, none⟩ = some (.slice (some ⟨BB si, O si, none⟩) c (C si)) ∧ wa.cell? ⟨BB si, O si + sj, none⟩ = some (.string u) :=
                ⟨hcw _ _ hgl hlvg s1, hcw _ _ (by show lb < _; omega) (hlow _ hlbB) s2, hcw _ _ (by show lb < _; omega) (hlow _ hlbB) s3, hcw _ _ (by show b < _; omega) (hlow _ hbB) s4, hcw _ _ (by show BB si < _; omega) (hlow _ hBBg) s5⟩
              have hfa : wa.frozen? ⟨gB, d, none⟩ = false := (hgrow.frozen_far ⟨gB, d, none⟩ (by show gB < _; rw [hza]; omega) (fun e => hlvg _ e.symm rfl)).trans ((hga.frozen_far ⟨gB, d, none⟩ hgl (by simp)).trans hfz)
              refine hK.out _ _ (.inr hS2) ?_
              clear hK K
              try simp only [Act.put, List.setIfInBounds_toArray, List.set_cons_zero, List.set_cons_succ]
              refine AnyK.take (i := 21) (v := ?v21) rfl (by kernel_rfl) (by kernel_rfl) (by kernel_rfl) (by kernel_rfl) (by kernel_rfl) (fun _ _ _ h => h) hS2 (Or.inl ⟨by kernel_rfl, ?hy21⟩) ?rest21
              case hy21 => rintro wk ⟨s1, s2, s3, s4, s5⟩; go_simp; try with_reducible rfl
              try simp only [Act.put, List.setIfInBounds_toArray, List.set_cons_zero, List.set_cons_succ]
              have g0 := hS2.1
              refine AnyK.one (i := 22) rfl (by kernel_rfl) (by rfl) (fun K hK => ?_)
              go_simp
              refine hK.out _ _ (.inl rfl) (AnyK.done (by kernel_rfl) ?_ _)
              clear hK K
              go_wp2_with fail
              go_roundw
              case rel =>
                have hst : strs m (fun j => X (CSR.swp p q d) (CSR.swp p q j)) ++ [.string u] = strs m ((fun i j => X (CSR.swp p q i) (CSR.swp p q j)) d) ++ [.string u] := rfl
                obtain ⟨R4, h1, h2⟩ := snoc_step (u := u) HOM.out hlt HNL.out hga hown (by rw [← HLV.out]; exact hgrow) (by rw [← HLV.out]; exact hat)
                refine ⟨m + 1, R4, by omega, by go_num, h1.congr fun i j hi hj => ?_, h2, ?_⟩
                · by_cases e : i = d ∧ j = m
                  · rw [if_pos e, e.1, e.2, HU.out, HSI.out, HSJ.out]
                  · rw [if_neg e]
                · exact (HBW.out.trans ((gb_none hga).mono hwrB) |>.grown hgrow (by omega) (fun k hk => (hlvl k hk).1)).setCell (Nat.le_refl _) _
              case measure => simp [intOf]; omega
            · have hmn : m = c := by omega
              have hgt2 : ¬ ((m : Int) < (c : Int)) := by omega
              have HMN := Lib.hid hmn; clear hmn
              go_wp2_with fail
              go_roundw
              case rel =>
                refine ⟨d + 1, R3, by omega, by go_num, HOM.out.congrL fun l _ => by rw [HMN.out]; exact LL_end l, HNL.out, HBW.out⟩
              case measure => simp [intOf]; omega
        · have hdn : d = c := by omega
          have hgt2 : ¬ ((d : Int) < (c : Int)) := by omega
          have HDN := Lib.hid hdn; clear hdn
          go_wp2_with fail
          go_ret
          refine ⟨_, rfl, (HOM.out.congrL (L' := fun _ => c) fun l hl => by unfold LL; rw [if_pos (by have := HDN.out; omega)]).mt (by unfold maxLen; omega) (by simp), HB2.out.trans (HBW.out.mono (by have h1 := HB2.out.size; have h2 := HGB.out; omega))⟩
end Go.Proofs.YtlmfppjphblemaaGreatDoor

namespace Go.Proofs.YtlmfppjphblemaaGreatDoor
open Go Go.RowKit Go.Deep
set_option maxRecDepth 100000
set_option linter.unusedSimpArgs false

/-- A matrix that is being built in block gB: the rows below d, and row d as far as m. -/
structure Bld {k : KK} (w wr : World) (gB sb n e d m e' : Nat) (R : Nat → Value) (Y : Nat → Nat → ByteArray) (C : Nat → Nat → RK k) : Prop where
  om : OM wr (fun _ => False) gB 9 33 gB n R (LL n d m) Y
  is : ∀ l j, l < n → j < n → (l < d ∨ (l = d ∧ j < m)) → Is k e' (Y l j) (C l j)
  er : Er False e'
  mono : e' = 0 → e = 0
  sum : SumL wr sb k.1 e'
  sg : sb < gB
  wg : w.heap.size ≤ gB
  gr : Gr gB (some sb) w wr
namespace Bld
variable {k : KK} {w wr w4 wz wa : World} {gB sb n e d m e' e4 : Nat} {R : Nat → Value} {Y : Nat → Nat → ByteArray} {C : Nat → Nat → RK k}
theorem start (hs : SumL w sb k.1 e) (he : Er False e) (Y : Nat → Nat → ByteArray) (C : Nat → Nat → RK k) :
    Bld w (w.alloc (.cells (madeCells #[.slice none 0 0] n) 33)) w.heap.size sb n e 0 0 e (fun _ => .slice none 0 0) Y C := by
  have hb : Below w.heap.size w (w.alloc (.cells (madeCells #[.slice none 0 0] n) 33)) := (Below.refl _ _).alloc (Nat.le_refl _) _
  exact ⟨(OM.made w (fun _ => False) (by simp) w.heap.size (Nat.le_refl _) 9 33 n Y).congrL fun l _ => by unfold LL; split <;> (try split) <;> first | rfl | omega,
    fun l j _ _ h => by omega, he, fun h => h, hs.kept hb, hs.lt, Nat.le_refl _, Gr.of (gb_below hb _) (Nat.le_refl _)⟩
theorem row (h : Bld w wr gB sb n e d n e' R Y C) : Bld w wr gB sb n e (d + 1) 0 e' R Y C :=
  ⟨h.om.congrL fun l _ => LL_end l, fun l j hl hj h1 => h.is l j hl hj (by omega), h.er, h.mono, h.sum, h.sg, h.wg, h.gr⟩
theorem done (h : Bld w wr gB sb n e n 0 e' R Y C) (hn : n ≤ 9) : Mt (some sb) wr (.slice (some ⟨gB, 0, none⟩) n n) n (fun _ => n) Y ∧ MatIs e' n Y C :=
  ⟨(h.om.congrL (L' := fun _ => n) fun l hl => by unfold LL; rw [if_pos hl]).mt (by unfold maxLen; omega) (by intro j hj; cases hj; exact .inl h.sg), fun l j hl hj => h.is l j hl hj (.inl hl)⟩
theorem rowz (h : Bld w wr gB sb n e d m e' R Y C) (hd : d < n) (hg4 : wr.grownBy w4 (some sb)) (hga : w4.grownBy wz none) : OwS wz gB 9 (R d) m (Y d) := by
  have h1 := ((h.om.kept hg4 (by intro j hj; cases hj; exact h.sg)).kept hga (by simp)).row d hd
  have h2 : LL n d m d = m := by unfold LL; simp
  rw [h2] at h1; exact h1
theorem own (h : Bld w wr gB sb n e d m e' R Y C) (hd : d < n) : ∀ j, (R d).ownBlock = some j → gB ≤ j ∧ j < wr.heap.size ∧ j ≠ gB := fun j hj =>
  ⟨(h.om.rowLt hd j hj).1, (h.om.rowLt hd j hj).2, (h.om.far d hd j hj).1⟩
theorem cellA (h : Bld w wr gB sb n e d m e' R Y C) (hd : d < n) (hgrow : wz.grownBy wa (R d).ownBlock) {ad : Addr} {x : Value} (hb : ad.block ≤ gB) (hc : wz.cell? ad = some x) : wa.cell? ad = some x :=
  hgrow.cell hc (fun e => by have := h.own hd _ e.symm; omega)
theorem frozenA (h : Bld w wr gB sb n e d m e' R Y C) (hd : d < n) (hg4 : wr.grownBy w4 (some sb)) (hga : w4.grownBy wz none) (hgrow : wz.grownBy wa (R d).ownBlock) : wa.frozen? ⟨gB, d, none⟩ = false := by
  have h1 := h.om.lt
  have h2 := hg4.size
  have h3 := hga.size
  exact (hgrow.frozen_far ⟨gB, d, none⟩ (by show gB < _; omega) (fun e => (h.own hd _ e.symm).2.2 rfl)).trans ((hga.frozen_far ⟨gB, d, none⟩ (by show gB < _; omega) (by simp)).trans ((hg4.frozen_far ⟨gB, d, none⟩ h1 (by simp; have := h.sg; omega)).trans (h.om.frozen d)))
theorem snoc {u : ByteArray} {go cap : Nat} (h : Bld w wr gB sb n e d m e' R Y C) (hd : d < n) (hg4 : wr.grownBy w4 (some sb)) (hs4 : SumL w4 sb k.1 e4) (he4 : Er False e4) (hm4 : e4 = 0 → e' = 0) (hu : Is k e4 u (C d m))
    (hga : w4.grownBy wz none) (hown : wa.ownsRow gB 9 1 (.slice (some ⟨go, 0, none⟩) (m + 1) cap) (m + 1) (strs m (Y d) ++ [.string u])) (hgrow : wz.grownBy wa (R d).ownBlock) (hat : (R d).ownBlock = some go ∨ go = wz.heap.size) :
    ∃ R3, Bld w (wa.setCell ⟨gB, d, none⟩ (.slice (some ⟨go, 0, none⟩) (m + 1) cap)) gB sb n e d (m + 1) e4 R3 (fun i j => if i = d ∧ j = m then u else Y i j) C := by
  have h1 := h.om.kept hg4 (by intro j hj; cases hj; exact h.sg)
  have hrow : wa.ownsRow gB 9 1 (.slice (some ⟨go, 0, none⟩) (m + 1) cap) (m + 1) (strs (m + 1) (fun j => if j = m then u else Y d j)) := by
    rw [← strs_snoc, strs_congr (Y := Y d) (fun j hj => by rw [if_neg (by omega)]), if_pos rfl]; exact hown
  have hsb : ∀ j, (R d).ownBlock = some j → j ≠ sb := fun j hj e => by have := (h.own hd j hj).1; have := h.sg; omega
  have hsz := hg4.size
  have hsz2 := hga.size
  have hgl := h.om.lt
  refine ⟨_, ⟨((h1.appended hd hga hrow hgrow hat).congrL fun l hl => ?_).congr fun l j hl hj => ?_, fun l j hl hj hlj => ?_, he4, fun e => h.mono (hm4 e), ?_, h.sg, h.wg, ?_⟩⟩
  · unfold LL
    by_cases e : l = d
    · subst e; simp
    · simp [e]
  · by_cases e : l = d
    · subst e; simp
    · simp [e]
  · by_cases e : l = d ∧ j = m
    · obtain ⟨rfl, rfl⟩ := e
      rw [if_pos ⟨rfl, rfl⟩]; exact hu
    · rw [if_neg e]; exact (h.is l j hl hj (by omega)).mono hm4
  · have h2 := hs4.kept (gb_none hga)
    unfold SumL at *
    rw [blk_setCell_other _ _ _ _ (by show sb ≠ gB; have := h.sg; omega), hgrow.block sb (Array.getElem?_eq_some_iff.1 h2).1 (fun e => hsb _ e.symm rfl)]; exact h2
  · exact (((h.gr.more hg4 (by omega) (fun _ e => .inl e)).more hga (by omega) (fun _ e => by cases e)).more hgrow (by omega) (fun j hj => .inr (h.own hd j hj).1)).set (.inr (Nat.le_refl _)) _
end Bld
/-- Behind a function that builds a matrix. -/
def MatL {k : KK} (sb n e : Nat) (C : Nat → Nat → RK k) (w : World) (r : Ending) (w' : World) : Prop :=
  ∃ v e' Y, r = .returned v ∧ Mt (some sb) w' v n (fun _ => n) Y ∧ MatIs e' n Y C ∧ Er False e' ∧ (e' = 0 → e = 0) ∧ SumL w' sb k.1 e' ∧ w.grownBy w' (some sb)

set_option maxHeartbeats 8000000 in
theorem ones_any {k : KK} {n sb e : Nat} (w : World) (hn : n ≤ 9) (hs : SumL w sb k.1 e) (he : Er False e) :
    Calls Tryz.prog 30 #[.pointer (some ⟨sb, 0, none⟩), .int .i64 (n : Int)] w (MatL (k := k) sb n e CSR.eye w) := by
  have hmk2 := run_make_row' (P := Tryz.prog) 22 33 (.slice none 0 0) 24 Tryz.underlying22 info_strs rfl .i64 .i64 n (by omega) (by omega)
  have hst := Bld.start (n := n) hs he (fun _ _ => ⟨#[]⟩) (CSR.eye (R := RK k))
  have HST := Lib.hid hst; clear hst
  clear hs he
  go_enter Tryz.func30, Tryz.ntmps30
  go_wp2_with fail
  clear hmk2
  obtain ⟨gB, hgB⟩ : ∃ gB, gB = w.heap.size := ⟨_, rfl⟩
  rw [← hgB] at HST
  rw [← hgB]
  have HGB := Lib.hid hgB; clear hgB
  -- ████ for i
  go_loopw [6, 7] (fun i _ wr => ∃ (d e' : Nat) (R2 : Nat → Value) (Y : Nat → Nat → ByteArray), d ≤ n ∧ i = .int .i64 (d : Int) ∧ Bld w wr gB sb n e d 0 e' R2 Y (CSR.eye (R := RK k))) (fun i _ _ => n - (intOf i).toNat)
  case atStart => exact ⟨0, e, _, _, Nat.zero_le _, rfl, HST.out⟩
  case round =>
    obtain ⟨d, e', R2, Y, hd, rfl, hbl⟩ := hrel
    clear HST
    have HBL := Lib.hid hbl; clear hbl
    by_cases hlt : d < n
    · have hdz : (d : Int) < (n : Int) := by omega
      have hdz0 : (0 : Int) ≤ (d : Int) := by omega
      go_wp2_with fail
      -- ████ for j
      go_loopw [7] (fun i wr => ∃ (m e' : Nat) (R2 : Nat → Value) (Y : Nat → Nat → ByteArray), m ≤ n ∧ i = .int .i64 (m : Int) ∧ Bld w wr gB sb n e d m e' R2 Y (CSR.eye (R := RK k))) (fun i _ => n - (intOf i).toNat)
      case atStart => exact ⟨0, e', R2, Y, Nat.zero_le _, rfl, HBL.out⟩
      case round =>
        obtain ⟨m, e', R3, Y, hm2, rfl, hbl⟩ := hrel
        clear HBL
        have HBL := Lib.hid hbl; clear hbl
        by_cases hlt2 : m < n
        · have hmz : (m : Int) < (n : Int) := by omega
          have hmz0 : (0 : Int) ≤ (m : Int) := by omega
          obtain ⟨lv, hlv⟩ : ∃ lv, lv = R3 d := ⟨_, rfl⟩
          have s1 := HBL.out.om.cell hlt
          rw [← hlv] at s1
          have s2 := HBL.out.sum.c0
          have hsg := HBL.out.sg
          obtain ⟨i0, hi0, hz0, hz1, hz2⟩ := info_parts info_str
          have hgl := HBL.out.om.lt
          have nsg : some gB ≠ some sb := by simp; omega
          have HLV := Lib.hid hlv; clear hlv
          have hd1 := drew_gb wr (some sb)
          have hS0 : wr.drew.cell? ⟨gB, d, none⟩ = some lv ∧ wr.drew.cell? ⟨sb, 0, none⟩ = some (.int .i64 k.1) := ⟨s1, s2⟩
          by_cases hdm : d = m
          · have hg : ((d : Int) == (m : Int)) = true := by simp; omega
            have hcw : ∀ wk', Calls Tryz.prog 37 #[.int .i64 k.1] wk' (StrE (oneF k.1) wk') := fun wk' => semione_any k.1 wk'
            have hue : Is k e' (oneF k.1) (CSR.eye (R := RK k) d m) := by
              have h1 := Is.one k e'
              unfold CSR.eye; rw [if_pos hdm]; exact h1
            have HUE := Lib.hid hue; clear hue
            have HDM := Lib.hid hdm; clear hdm
            go_wp2_with fail
            refine region_heldK (fun wk' => wk'.cell? ⟨gB, d, none⟩ = some lv ∧ wk'.cell? ⟨sb, 0, none⟩ = some (.int .i64 k.1)) 14 (by kernel_rfl) ?_
            refine AnyK.take (i := 0) (v := ?v0) rfl (by kernel_rfl) (by kernel_rfl) (by kernel_rfl) (by kernel_rfl) (by kernel_rfl) (fun _ _ _ h => h) hS0 (Or.inl ⟨by kernel_rfl, ?hy0⟩) ?rest0
            case hy0 => rintro wk ⟨s1, s2⟩; go_simp; try with_reducible rfl
            try simp only [Act.put, List.setIfInBounds_toArray, List.set_cons_zero, List.set_cons_succ]
            refine AnyK.take (i := 1) (v := ?v1) rfl (by kernel_rfl) (by kernel_rfl) (by kernel_rfl) (by kernel_rfl) (by kernel_rfl) (fun _ _ _ h => h) hS0 (Or.inl ⟨by kernel_rfl, ?hy1⟩) ?rest1
            case hy1 => rintro wk ⟨s1, s2⟩; go_simp; try with_reducible rfl
            try simp only [Act.put, List.setIfInBounds_toArray, List.set_cons_zero, List.set_cons_succ]
            refine AnyK.take (i := 2) (v := ?v2) rfl (by kernel_rfl) (by kernel_rfl) (by kernel_rfl) (by kernel_rfl) (by kernel_rfl) (fun _ _ _ h => h) hS0 (Or.inl ⟨by kernel_rfl, ?hy2⟩) ?rest2
            case hy2 => rintro wk ⟨s1, s2⟩; go_simp; try with_reducible rfl
            try simp only [Act.put, List.setIfInBounds_toArray, List.set_cons_zero, List.set_cons_succ]
            refine AnyK.take (i := 3) (v := ?v3) rfl (by kernel_rfl) (by kernel_rfl) (by kernel_rfl) (by kernel_rfl) (by kernel_rfl) (fun _ _ _ h => h) hS0 (Or.inl ⟨by kernel_rfl, ?hy3⟩) ?rest3
            case hy3 => rintro wk ⟨s1, s2⟩; go_simp; try with_reducible rfl
            try simp only [Act.put, List.setIfInBounds_toArray, List.set_cons_zero, List.set_cons_succ]
            refine AnyK.take (i := 4) (v := ?v4) rfl (by kernel_rfl) (by kernel_rfl) (by kernel_rfl) (by kernel_rfl) (by kernel_rfl) (fun _ _ _ h => h) hS0 (Or.inl ⟨by kernel_rfl, ?hy4⟩) ?rest4
            case hy4 => rintro wk ⟨s1, s2⟩; go_simp; try with_reducible rfl
            try simp only [Act.put, List.setIfInBounds_toArray, List.set_cons_zero, List.set_cons_succ]
            refine AnyK.take (i := 5) (v := ?v5) rfl (by kernel_rfl) (by kernel_rfl) (by kernel_rfl) (by kernel_rfl) (by kernel_rfl) (fun _ _ _ h => h) hS0 (Or.inl ⟨by kernel_rfl, ?hy5⟩) ?rest5
            case hy5 => rintro wk ⟨s1, s2⟩; go_simp; try with_reducible rfl
            try simp only [Act.put, List.setIfInBounds_toArray, List.set_cons_zero, List.set_cons_succ]
            refine AnyK.take (i := 6) (v := ?v6) rfl (by kernel_rfl) (by kernel_rfl) (by kernel_rfl) (by kernel_rfl) (by kernel_rfl) (fun _ _ _ h => h) hS0 (Or.inl ⟨by kernel_rfl, ?hy6⟩) ?rest6
            case hy6 => rintro wk ⟨s1, s2⟩; go_simp; try with_reducible rfl
            try simp only [Act.put, List.setIfInBounds_toArray, List.set_cons_zero, List.set_cons_succ]
            refine AnyK.take (i := 7) (v := ?v7) rfl (by kernel_rfl) (by kernel_rfl) (by kernel_rfl) (by kernel_rfl) (by kernel_rfl) (fun _ _ _ h => h) hS0 (Or.inl ⟨by kernel_rfl, ?hy7⟩) ?rest7
            case hy7 => rintro wk ⟨s1, s2⟩; go_simp; try with_reducible rfl
            try simp only [Act.put, List.setIfInBounds_toArray, List.set_cons_zero, List.set_cons_succ]
            refine AnyK.take (i := 8) (v := ?v8) rfl (by kernel_rfl) (by kernel_rfl) (by kernel_rfl) (by kernel_rfl) (by kernel_rfl) (fun _ _ _ h => h) hS0 (Or.inl ⟨by kernel_rfl, ?hy8⟩) ?rest8
            case hy8 => rintro wk ⟨s1, s2⟩; go_simp; try with_reducible rfl
            try simp only [Act.put, List.setIfInBounds_toArray, List.set_cons_zero, List.set_cons_succ]
            refine AnyK.take (i := 9) (v := ?v9) rfl (by kernel_rfl) (by kernel_rfl) (by kernel_rfl) (by kernel_rfl) (by kernel_rfl) (fun _ _ _ h => h) hS0 (Or.inl ⟨by kernel_rfl, ?hy9⟩) ?rest9
            case hy9 => rintro wk ⟨s1, s2⟩; go_simp; try with_reducible rfl
            try simp only [Act.put, List.setIfInBounds_toArray, List.set_cons_zero, List.set_cons_succ]
            refine AnyK.one (i := 10) rfl (by kernel_rfl) (by rfl) (fun K hK => ?_)
            go_simp
            refine (hcw _).mono ?_
            rintro r w4 ⟨rfl, hb4⟩
            have hg4 : wr.grownBy w4 (some sb) := gb_trans hd1 (gb_below hb4 (some sb))
            have hs4 : SumL w4 sb k.1 e' := HBL.out.sum.drew.kept hb4
            have hS4 : w4.cell? ⟨gB, d, none⟩ = some lv ∧ w4.cell? ⟨sb, 0, none⟩ = some (.int .i64 k.1) := ⟨hg4.cell s1 nsg, hs4.c0⟩
            refine hK.out _ _ (.inr hS4) ?_
            clear hK K
            try simp only [Act.put, List.setIfInBounds_toArray, List.set_cons_zero, List.set_cons_succ]
            refine AnyK.one (i := 11) rfl (by kernel_rfl) (by rfl) (fun K hK => ?_)
            go_simp
            obtain ⟨wz, hwz⟩ : ∃ wz, wz = w4.alloc (.cells #[.string (oneF k.1)] 9) := ⟨_, rfl⟩
            have hga : w4.grownBy wz none := by rw [hwz]; exact World.grownBy_alloc w4 _ none
            have hza : wz.heap.size = w4.heap.size + 1 := by rw [hwz]; simp
            have hnew : wz.cell? ⟨w4.heap.size, 0, none⟩ = some (.string (oneF k.1)) := by rw [hwz]; exact cell_new w4 _ _ 0 _ rfl
            rw [← hwz]
            have HWZ := Lib.hid hwz; clear hwz
            have hSz := And.intro (hga.cell hS4.1 (by simp)) (hga.cell hS4.2 (by simp))
            refine hK.out _ _ (.inr hSz) ?_
            clear hK K
            try simp only [Act.put, List.setIfInBounds_toArray, List.set_cons_zero, List.set_cons_succ]
            have hrz := HBL.out.rowz hlt hg4 hga
            rw [← HLV.out] at hrz
            have hwsz : gB ≤ wz.heap.size := by have := hg4.size; omega
            refine AnyK.one (i := 12) rfl (by kernel_rfl) (by rfl) (fun K hK => ?_)
            refine wp_append_lies _ (.tmp 28) (.tmp 34) 33 rfl gB 9 i0 (.string ⟨#[]⟩) 1 16 Tryz.underlying33 hi0 hz0 hz1 hz2 rfl (by omega) lv m _ (by simp [Act.eval]) hrz ⟨w4.heap.size, 0, none⟩ 1 1 [.string (oneF k.1)] (by simp [Act.eval]) rfl (news1 hnew) (one_str _) (by omega) (by unfold maxLen; omega) (by omega) hwsz _ rfl ?_
            intro go cap' wa hown hgrow hat hlt'
            have hgrow' : wz.grownBy wa (R3 d).ownBlock := by rw [← HLV.out]; exact hgrow
            have hSa := And.intro (HBL.out.cellA hlt hgrow' (by first | exact Nat.le_refl _ | (apply Nat.le_of_lt; assumption)) (hSz.1)) (HBL.out.cellA hlt hgrow' (by first | exact Nat.le_refl _ | (apply Nat.le_of_lt; assumption)) (hSz.2))
            have hfa := HBL.out.frozenA hlt hg4 hga hgrow'
            refine hK.out _ _ (.inr hSa) ?_
            clear hK K
            try simp only [Act.put, List.setIfInBounds_toArray, List.set_cons_zero, List.set_cons_succ]
            refine AnyK.take (i := 13) (v := ?ve28_13) rfl (by kernel_rfl) (by kernel_rfl) (by kernel_rfl) (by kernel_rfl) (by kernel_rfl) (fun _ _ _ h => h) hSa (Or.inl ⟨by kernel_rfl, ?hye28_13⟩) ?reste28_13
            case hye28_13 => rintro wk ⟨s1, s2⟩; go_simp; try with_reducible rfl
            try simp only [Act.put, List.setIfInBounds_toArray, List.set_cons_zero, List.set_cons_succ]
            have g0 := hSa.1
            refine AnyK.one (i := 14) rfl (by kernel_rfl) (by rfl) (fun K hK => ?_)
            go_simp
            refine hK.out _ _ (.inl rfl) (AnyK.done (by kernel_rfl) ?_ _)
            clear hK K
            go_wp2_with fail
            go_roundw
            case rel =>
              obtain ⟨R4, h1⟩ := HBL.out.snoc (u := oneF k.1) hlt hg4 hs4 HBL.out.er (fun h => h) HUE.out hga hown (by rw [← HLV.out]; exact hgrow) (by rw [← HLV.out]; exact hat)
              exact ⟨m + 1, e', R4, _, by omega, by go_num, h1⟩
            case measure => simp [intOf]; omega
          · have hg : ((d : Int) == (m : Int)) = false := by simp; omega
            have hcw : ∀ wk', Calls Tryz.prog 33 #[.int .i64 k.1] wk' (StrE (zeroF k.1) wk') := fun wk' => semizero_any k.1 wk'
            have hue : Is k e' (zeroF k.1) (CSR.eye (R := RK k) d m) := by
              have h1 := Is.zero k e'
              unfold CSR.eye; rw [if_neg hdm]; exact h1
            have HUE := Lib.hid hue; clear hue
            have HDM := Lib.hid hdm; clear hdm
            go_wp2_with fail
            refine region_heldK (fun wk' => wk'.cell? ⟨gB, d, none⟩ = some lv ∧ wk'.cell? ⟨sb, 0, none⟩ = some (.int .i64 k.1)) 14 (by kernel_rfl) ?_
            refine AnyK.take (i := 0) (v := ?vz0) rfl (by kernel_rfl) (by kernel_rfl) (by kernel_rfl) (by kernel_rfl) (by kernel_rfl) (fun _ _ _ h => h) hS0 (Or.inl ⟨by kernel_rfl, ?hyz0⟩) ?restz0
            case hyz0 => rintro wk ⟨s1, s2⟩; go_simp; try with_reducible rfl
            try simp only [Act.put, List.setIfInBounds_toArray, List.set_cons_zero, List.set_cons_succ]
            refine AnyK.take (i := 1) (v := ?vz1) rfl (by kernel_rfl) (by kernel_rfl) (by kernel_rfl) (by kernel_rfl) (by kernel_rfl) (fun _ _ _ h => h) hS0 (Or.inl ⟨by kernel_rfl, ?hyz1⟩) ?restz1
            case hyz1 => rintro wk ⟨s1, s2⟩; go_simp; try with_reducible rfl
            try simp only [Act.put, List.setIfInBounds_toArray, List.set_cons_zero, List.set_cons_succ]
            refine AnyK.take (i := 2) (v := ?vz2) rfl (by kernel_rfl) (by kernel_rfl) (by kernel_rfl) (by kernel_rfl) (by kernel_rfl) (fun _ _ _ h => h) hS0 (Or.inl ⟨by kernel_rfl, ?hyz2⟩) ?restz2
            case hyz2 => rintro wk ⟨s1, s2⟩; go_simp; try with_reducible rfl
            try simp only [Act.put, List.setIfInBounds_toArray, List.set_cons_zero, List.set_cons_succ]
            refine AnyK.take (i := 3) (v := ?vz3) rfl (by kernel_rfl) (by kernel_rfl) (by kernel_rfl) (by kernel_rfl) (by kernel_rfl) (fun _ _ _ h => h) hS0 (Or.inl ⟨by kernel_rfl, ?hyz3⟩) ?restz3
            case hyz3 => rintro wk ⟨s1, s2⟩; go_simp; try with_reducible rfl
            try simp only [Act.put, List.setIfInBounds_toArray, List.set_cons_zero, List.set_cons_succ]
            refine AnyK.take (i := 4) (v := ?vz4) rfl (by kernel_rfl) (by kernel_rfl) (by kernel_rfl) (by kernel_rfl) (by kernel_rfl) (fun _ _ _ h => h) hS0 (Or.inl ⟨by kernel_rfl, ?hyz4⟩) ?restz4
            case hyz4 => rintro wk ⟨s1, s2⟩; go_simp; try with_reducible rfl
            try simp only [Act.put, List.setIfInBounds_toArray, List.set_cons_zero, List.set_cons_succ]
            refine AnyK.take (i := 5) (v := ?vz5) rfl (by kernel_rfl) (by kernel_rfl) (by kernel_rfl) (by kernel_rfl) (by kernel_rfl) (fun _ _ _ h => h) hS0 (Or.inl ⟨by kernel_rfl, ?hyz5⟩) ?restz5
            case hyz5 => rintro wk ⟨s1, s2⟩; go_simp; try with_reducible rfl
            try simp only [Act.put, List.setIfInBounds_toArray, List.set_cons_zero, List.set_cons_succ]
            refine AnyK.take (i := 6) (v := ?vz6) rfl (by kernel_rfl) (by kernel_rfl) (by kernel_rfl) (by kernel_rfl) (by kernel_rfl) (fun _ _ _ h => h) hS0 (Or.inl ⟨by kernel_rfl, ?hyz6⟩) ?restz6
            case hyz6 => rintro wk ⟨s1, s2⟩; go_simp; try with_reducible rfl
            try simp only [Act.put, List.setIfInBounds_toArray, List.set_cons_zero, List.set_cons_succ]
            refine AnyK.take (i := 7) (v := ?vz7) rfl (by kernel_rfl) (by kernel_rfl) (by kernel_rfl) (by kernel_rfl) (by kernel_rfl) (fun _ _ _ h => h) hS0 (Or.inl ⟨by kernel_rfl, ?hyz7⟩) ?restz7
            case hyz7 => rintro wk ⟨s1, s2⟩; go_simp; try with_reducible rfl
            try simp only [Act.put, List.setIfInBounds_toArray, List.set_cons_zero, List.set_cons_succ]
            refine AnyK.take (i := 8) (v := ?vz8) rfl (by kernel_rfl) (by kernel_rfl) (by kernel_rfl) (by kernel_rfl) (by kernel_rfl) (fun _ _ _ h => h) hS0 (Or.inl ⟨by kernel_rfl, ?hyz8⟩) ?restz8
            case hyz8 => rintro wk ⟨s1, s2⟩; go_simp; try with_reducible rfl
            try simp only [Act.put, List.setIfInBounds_toArray, List.set_cons_zero, List.set_cons_succ]
            refine AnyK.take (i := 9) (v := ?vz9) rfl (by kernel_rfl) (by kernel_rfl) (by kernel_rfl) (by kernel_rfl) (by kernel_rfl) (fun _ _ _ h => h) hS0 (Or.inl ⟨by kernel_rfl, ?hyz9⟩) ?restz9
            case hyz9 => rintro wk ⟨s1, s2⟩; go_simp; try with_reducible rfl
            try simp only [Act.put, List.setIfInBounds_toArray, List.set_cons_zero, List.set_cons_succ]
            refine AnyK.one (i := 10) rfl (by kernel_rfl) (by rfl) (fun K hK => ?_)
            go_simp
            refine (hcw _).mono ?_
            rintro r w4 ⟨rfl, hb4⟩
            have hg4 : wr.grownBy w4 (some sb) := gb_trans hd1 (gb_below hb4 (some sb))
            have hs4 : SumL w4 sb k.1 e' := HBL.out.sum.drew.kept hb4
            have hS4 : w4.cell? ⟨gB, d, none⟩ = some lv ∧ w4.cell? ⟨sb, 0, none⟩ = some (.int .i64 k.1) := ⟨hg4.cell s1 nsg, hs4.c0⟩
            refine hK.out _ _ (.inr hS4) ?_
            clear hK K
            try simp only [Act.put, List.setIfInBounds_toArray, List.set_cons_zero, List.set_cons_succ]
            refine AnyK.one (i := 11) rfl (by kernel_rfl) (by rfl) (fun K hK => ?_)
            go_simp
            obtain ⟨wz, hwz⟩ : ∃ wz, wz = w4.alloc (.cells #[.string (zeroF k.1)] 9) := ⟨_, rfl⟩
            have hga : w4.grownBy wz none := by rw [hwz]; exact World.grownBy_alloc w4 _ none
            have hza : wz.heap.size = w4.heap.size + 1 := by rw [hwz]; simp
            have hnew : wz.cell? ⟨w4.heap.size, 0, none⟩ = some (.string (zeroF k.1)) := by rw [hwz]; exact cell_new w4 _ _ 0 _ rfl
            rw [← hwz]
            have HWZ := Lib.hid hwz; clear hwz
            have hSz := And.intro (hga.cell hS4.1 (by simp)) (hga.cell hS4.2 (by simp))
            refine hK.out _ _ (.inr hSz) ?_
            clear hK K
            try simp only [Act.put, List.setIfInBounds_toArray, List.set_cons_zero, List.set_cons_succ]
            have hrz := HBL.out.rowz hlt hg4 hga
            rw [← HLV.out] at hrz
            have hwsz : gB ≤ wz.heap.size := by have := hg4.size; omega
            refine AnyK.one (i := 12) rfl (by kernel_rfl) (by rfl) (fun K hK => ?_)
            refine wp_append_lies _ (.tmp 42) (.tmp 48) 33 rfl gB 9 i0 (.string ⟨#[]⟩) 1 16 Tryz.underlying33 hi0 hz0 hz1 hz2 rfl (by omega) lv m _ (by simp [Act.eval]) hrz ⟨w4.heap.size, 0, none⟩ 1 1 [.string (zeroF k.1)] (by simp [Act.eval]) rfl (news1 hnew) (one_str _) (by omega) (by unfold maxLen; omega) (by omega) hwsz _ rfl ?_
            intro go cap' wa hown hgrow hat hlt'
            have hgrow' : wz.grownBy wa (R3 d).ownBlock := by rw [← HLV.out]; exact hgrow
            have hSa := And.intro (HBL.out.cellA hlt hgrow' (by first | exact Nat.le_refl _ | (apply Nat.le_of_lt; assumption)) (hSz.1)) (HBL.out.cellA hlt hgrow' (by first | exact Nat.le_refl _ | (apply Nat.le_of_lt; assumption)) (hSz.2))
            have hfa := HBL.out.frozenA hlt hg4 hga hgrow'
            refine hK.out _ _ (.inr hSa) ?_
            clear hK K
            try simp only [Act.put, List.setIfInBounds_toArray, List.set_cons_zero, List.set_cons_succ]
            refine AnyK.take (i := 13) (v := ?ve42_13) rfl (by kernel_rfl) (by kernel_rfl) (by kernel_rfl) (by kernel_rfl) (by kernel_rfl) (fun _ _ _ h => h) hSa (Or.inl ⟨by kernel_rfl, ?hye42_13⟩) ?reste42_13
            case hye42_13 => rintro wk ⟨s1, s2⟩; go_simp; try with_reducible rfl
            try simp only [Act.put, List.setIfInBounds_toArray, List.set_cons_zero, List.set_cons_succ]
            have g0 := hSa.1
            refine AnyK.one (i := 14) rfl (by kernel_rfl) (by rfl) (fun K hK => ?_)
            go_simp
            refine hK.out _ _ (.inl rfl) (AnyK.done (by kernel_rfl) ?_ _)
            clear hK K
            go_wp2_with fail
            go_roundw
            case rel =>
              obtain ⟨R4, h1⟩ := HBL.out.snoc (u := zeroF k.1) hlt hg4 hs4 HBL.out.er (fun h => h) HUE.out hga hown (by rw [← HLV.out]; exact hgrow) (by rw [← HLV.out]; exact hat)
              exact ⟨m + 1, e', R4, _, by omega, by go_num, h1⟩
            case measure => simp [intOf]; omega
        · have hmn : m = n := by omega
          have hgt2 : ¬ ((m : Int) < (n : Int)) := by omega
          have HMN := Lib.hid hmn; clear hmn
          go_wp2_with fail
          go_roundw
          case rel =>
            refine ⟨d + 1, e', R3, Y, by omega, by go_num, ?_⟩
            have h1 := HBL.out
            rw [HMN.out] at h1; exact h1.row
          case measure => simp [intOf]; omega
    · have hdn : d = n := by omega
      have hgt2 : ¬ ((d : Int) < (n : Int)) := by omega
      have HDN := Lib.hid hdn; clear hdn
      go_wp2_with fail
      go_ret
      have h1 := HBL.out
      rw [HDN.out] at h1
      exact ⟨_, e', Y, rfl, (h1.done hn).1, (h1.done hn).2, h1.er, h1.mono, h1.sum, Gr.gb (by have h2 := h1.gr; rw [HGB.out] at h2; exact h2)⟩
end Go.Proofs.YtlmfppjphblemaaGreatDoor

namespace Go.Proofs.YtlmfppjphblemaaGreatDoor
open Go Go.RowKit Go.Deep
set_option maxRecDepth 100000
set_option linter.unusedSimpArgs false

theorem TabB.gr' {B0 gB sb : Nat} {w wr : World} (h : TabB B0 w) (hg : Gr gB (some sb) w wr) (hB : B0 ≤ sb) (hsg : sb < gB) : TabB B0 wr := h.gr hg (by intro j hj; cases hj; exact hB) (by omega)
set_option maxHeartbeats 8000000 in
theorem added_any {k : KK} {n sb e B0 : Nat} {XA XB : Nat → Nat → ByteArray} {A B : Nat → Nat → RK k} {va vb : Value} (w : World) (hn : n ≤ 9) (hs : SumL w sb k.1 e) (he : Er False e) (hA : Mt (some sb) w va n (fun _ => n) XA) (hB : Mt (some sb) w vb n (fun _ => n) XB)
    (hXA : MatIs e n XA A) (hXB : MatIs e n XB B) (ht : TabB B0 w) (hB0 : B0 ≤ sb) :
    Calls Tryz.prog 29 #[.pointer (some ⟨sb, 0, none⟩), va, vb] w (MatL (k := k) sb n e (fun i j => A i j + B i j) w) := by
  have hmk2 := run_make_row' (P := Tryz.prog) 22 33 (.slice none 0 0) 24 Tryz.underlying22 info_strs rfl .i64 .i64 n (by omega) (by omega)
  have hst := Bld.start (n := n) hs he (fun _ _ => ⟨#[]⟩) (fun i j => A i j + B i j)
  have HST := Lib.hid hst; clear hst
  obtain ⟨a1, cap1, b1, o1, A1, C1, BB1, O1, rfl, ha1, hc1, hm1, hb1, hrow1⟩ := hA.open
  obtain ⟨a2, cap2, b2, o2, A2, C2, BB2, O2, rfl, ha2, hc2, hm2, hb2, hrow2⟩ := hB.open
  unfold maxLen at hm1 hm2
  clear hA hB hs he
  have HA1 := Lib.hid ha1; clear ha1
  have HA2 := Lib.hid ha2; clear ha2
  have HB1 := Lib.hid hb1; clear hb1
  have HB2 := Lib.hid hb2; clear hb2
  have HR1 := Lib.hid hrow1; clear hrow1
  have HR2 := Lib.hid hrow2; clear hrow2
  have HXA := Lib.hid hXA; clear hXA
  have HXB := Lib.hid hXB; clear hXB
  have HTB := Lib.hid ht; clear ht
  go_enter Tryz.func29, Tryz.ntmps29
  go_wp2_with fail
  clear hmk2
  obtain ⟨gB, hgB⟩ : ∃ gB, gB = w.heap.size := ⟨_, rfl⟩
  rw [← hgB] at HST
  rw [← hgB]
  have HGB := Lib.hid hgB; clear hgB
  -- ████ for i
  go_loopw [8, 9] (fun i _ wr => ∃ (d e' : Nat) (R2 : Nat → Value) (Y : Nat → Nat → ByteArray), d ≤ n ∧ i = .int .i64 (d : Int) ∧ Bld w wr gB sb n e d 0 e' R2 Y (fun i j => A i j + B i j)) (fun i _ _ => n - (intOf i).toNat)
  case atStart => exact ⟨0, e, _, _, Nat.zero_le _, rfl, HST.out⟩
  case round =>
    obtain ⟨d, e', R2, Y, hd, rfl, hbl⟩ := hrel
    clear HST
    have HBL := Lib.hid hbl; clear hbl
    by_cases hlt : d < n
    · have hdz : (d : Int) < (n : Int) := by omega
      have hdz0 : (0 : Int) ≤ (d : Int) := by omega
      go_wp2_with fail
      -- ████ for j
      go_loopw [9] (fun i wr => ∃ (m e' : Nat) (R2 : Nat → Value) (Y : Nat → Nat → ByteArray), m ≤ n ∧ i = .int .i64 (m : Int) ∧ Bld w wr gB sb n e d m e' R2 Y (fun i j => A i j + B i j)) (fun i _ => n - (intOf i).toNat)
      case atStart => exact ⟨0, e', R2, Y, Nat.zero_le _, rfl, HBL.out⟩
      case round =>
        obtain ⟨m, e', R3, Y, hm2', rfl, hbl⟩ := hrel
        clear HBL
        have HBL := Lib.hid hbl; clear hbl
        by_cases hlt2 : m < n
        · have hmz : (m : Int) < (n : Int) := by omega
          have hmz0 : (0 : Int) ≤ (m : Int) := by omega
          obtain ⟨lv, hlv⟩ : ∃ lv, lv = R3 d := ⟨_, rfl⟩
          have s1 := HBL.out.om.cell hlt
          rw [← hlv] at s1
          have hsg := HBL.out.sg
          obtain ⟨i0, hi0, hz0, hz1, hz2⟩ := info_parts info_str
          have hgl := HBL.out.om.lt
          have nsg : some gB ≠ some sb := by simp; omega
          have HLV := Lib.hid hlv; clear hlv
          have hd1 := drew_gb wr (some sb)
          obtain rfl := HA1.out (by omega)
          obtain rfl := HA2.out (by omega)
          obtain ⟨k1, _, k3, k4, k5, _, k7⟩ := HR1.out d hlt
          obtain ⟨l1, _, l3, l4, l5, _, l7⟩ := HR2.out d hlt
          have k4' := k4 (by omega)
          have l4' := l4 (by omega)
          rw [k4'] at k1
          rw [l4'] at l1
          have hbb1 : b1 < gB := by have := (HB1.out (by omega)).1; have := HGB.out; omega
          have hbb2 : b2 < gB := by have := (HB2.out (by omega)).1; have := HGB.out; omega
          have hbb3 : BB1 d < gB := by have := (k5 (by omega)).1; have := HGB.out; omega
          have hbb4 : BB2 d < gB := by have := (l5 (by omega)).1; have := HGB.out; omega
          have n1 : some b1 ≠ some sb := (HB1.out (by omega)).2
          have n2 : some b2 ≠ some sb := (HB2.out (by omega)).2
          have n3 : some (BB1 d) ≠ some sb := (k5 (by omega)).2
          have n4 : some (BB2 d) ≠ some sb := (l5 (by omega)).2
          have s2 := HBL.out.gr.cell k1 hbb1 n1
          have s3 := HBL.out.gr.cell (k7 m hlt2) hbb3 n3
          have s4 := HBL.out.gr.cell l1 hbb2 n2
          have s5 := HBL.out.gr.cell (l7 m hlt2) hbb4 n4
          unfold maxLen at k3 l3
          have hcn1 : (C1 d : Int) ≤ 9223372036854775807 := by omega
          have hcn2 : (C2 d : Int) ≤ 9223372036854775807 := by omega
          obtain ⟨x, hx⟩ : ∃ x, x = XA d m := ⟨_, rfl⟩
          obtain ⟨y, hy⟩ : ∃ y, y = XB d m := ⟨_, rfl⟩
          rw [← hx] at s3
          rw [← hy] at s5
          have hxi := (HXA.out d m hlt hlt2).mono HBL.out.mono
          have hyi := (HXB.out d m hlt hlt2).mono HBL.out.mono
          rw [← hx] at hxi
          rw [← hy] at hyi
          have hcl := lplus_is hxi hyi HBL.out.er (fun h => h.elim) (HTB.out.gr' HBL.out.gr hB0 hsg).drew.tab HBL.out.sum.drew
          have HCL := Lib.hid hcl; clear hcl hxi hyi
          clear k1 k4 k5 k7 k4' l1 l4 l5 l7 l4' hx hy
          have hS0 : wr.drew.cell? ⟨gB, d, none⟩ = some lv ∧ wr.drew.cell? ⟨b1, o1 + d, none⟩ = some (.slice (some ⟨BB1 d, O1 d, none⟩) n (C1 d)) ∧ wr.drew.cell? ⟨BB1 d, O1 d + m, none⟩ = some (.string x) ∧ wr.drew.cell? ⟨b2, o2 + d, none⟩ = some (.slice (some ⟨BB2 d, O2 d, none⟩) n (C2 d)) ∧ wr.drew.cell? ⟨BB2 d, O2 d + m, none⟩ = some (.string y) := ⟨s1, s2, s3, s4, s5⟩
          go_wp2_with fail
          refine region_heldK (fun wk' => wk'.cell? ⟨gB, d, none⟩ = some lv ∧ wk'.cell? ⟨b1, o1 + d, none⟩ = some (.slice (some ⟨BB1 d, O1 d, none⟩) n (C1 d)) ∧ wk'.cell? ⟨BB1 d, O1 d + m, none⟩ = some (.string x) ∧ wk'.cell? ⟨b2, o2 + d, none⟩ = some (.slice (some ⟨BB2 d, O2 d, none⟩) n (C2 d)) ∧ wk'.cell? ⟨BB2 d, O2 d + m, none⟩ = some (.string y)) 25 (by kernel_rfl) ?_
          refine AnyK.take (i := 0) (v := ?v0) rfl (by kernel_rfl) (by kernel_rfl) (by kernel_rfl) (by kernel_rfl) (by kernel_rfl) (fun _ _ _ h => h) hS0 (Or.inl ⟨by kernel_rfl, ?hy0⟩) ?rest0
          case hy0 => rintro wk ⟨s1, s2, s3, s4, s5⟩; go_simp; try with_reducible rfl
          try simp only [Act.put, List.setIfInBounds_toArray, List.set_cons_zero, List.set_cons_succ]
          refine AnyK.take (i := 1) (v := ?v1) rfl (by kernel_rfl) (by kernel_rfl) (by kernel_rfl) (by kernel_rfl) (by kernel_rfl) (fun _ _ _ h => h) hS0 (Or.inl ⟨by kernel_rfl, ?hy1⟩) ?rest1
          case hy1 => rintro wk ⟨s1, s2, s3, s4, s5⟩; go_simp; try with_reducible rfl
          try simp only [Act.put, List.setIfInBounds_toArray, List.set_cons_zero, List.set_cons_succ]
          refine AnyK.take (i := 2) (v := ?v2) rfl (by kernel_rfl) (by kernel_rfl) (by kernel_rfl) (by kernel_rfl) (by kernel_rfl) (fun _ _ _ h => h) hS0 (Or.inl ⟨by kernel_rfl, ?hy2⟩) ?rest2
          case hy2 => rintro wk ⟨s1, s2, s3, s4, s5⟩; go_simp; try with_reducible rfl
          try simp only [Act.put, List.setIfInBounds_toArray, List.set_cons_zero, List.set_cons_succ]
          refine AnyK.take (i := 3) (v := ?v3) rfl (by kernel_rfl) (by kernel_rfl) (by kernel_rfl) (by kernel_rfl) (by kernel_rfl) (fun _ _ _ h => h) hS0 (Or.inl ⟨by kernel_rfl, ?hy3⟩) ?rest3
          case hy3 => rintro wk ⟨s1, s2, s3, s4, s5⟩; go_simp; try with_reducible rfl
          try simp only [Act.put, List.setIfInBounds_toArray, List.set_cons_zero, List.set_cons_succ]
          refine AnyK.take (i := 4) (v := ?v4) rfl (by kernel_rfl) (by kernel_rfl) (by kernel_rfl) (by kernel_rfl) (by kernel_rfl) (fun _ _ _ h => h) hS0 (Or.inl ⟨by kernel_rfl, ?hy4⟩) ?rest4
          case hy4 => rintro wk ⟨s1, s2, s3, s4, s5⟩; go_simp; try with_reducible rfl
          try simp only [Act.put, List.setIfInBounds_toArray, List.set_cons_zero, List.set_cons_succ]
          refine AnyK.take (i := 5) (v := ?v5) rfl (by kernel_rfl) (by kernel_rfl) (by kernel_rfl) (by kernel_rfl) (by kernel_rfl) (fun _ _ _ h => h) hS0 (Or.inl ⟨by kernel_rfl, ?hy5⟩) ?rest5
          case hy5 => rintro wk ⟨s1, s2, s3, s4, s5⟩; go_simp; try with_reducible rfl
          try simp only [Act.put, List.setIfInBounds_toArray, List.set_cons_zero, List.set_cons_succ]
          refine AnyK.take (i := 6) (v := ?v6) rfl (by kernel_rfl) (by kernel_rfl) (by kernel_rfl) (by kernel_rfl) (by kernel_rfl) (fun _ _ _ h => h) hS0 (Or.inl ⟨by kernel_rfl, ?hy6⟩) ?rest6
          case hy6 => rintro wk ⟨s1, s2, s3, s4, s5⟩; go_simp; try with_reducible rfl
          try simp only [Act.put, List.setIfInBounds_toArray, List.set_cons_zero, List.set_cons_succ]
          refine AnyK.take (i := 7) (v := ?v7) rfl (by kernel_rfl) (by kernel_rfl) (by kernel_rfl) (by kernel_rfl) (by kernel_rfl) (fun _ _ _ h => h) hS0 (Or.inl ⟨by kernel_rfl, ?hy7⟩) ?rest7
          case hy7 => rintro wk ⟨s1, s2, s3, s4, s5⟩; go_simp; try with_reducible rfl
          try simp only [Act.put, List.setIfInBounds_toArray, List.set_cons_zero, List.set_cons_succ]
          refine AnyK.take (i := 8) (v := ?v8) rfl (by kernel_rfl) (by kernel_rfl) (by kernel_rfl) (by kernel_rfl) (by kernel_rfl) (fun _ _ _ h => h) hS0 (Or.inl ⟨by kernel_rfl, ?hy8⟩) ?rest8
          case hy8 => rintro wk ⟨s1, s2, s3, s4, s5⟩; go_simp; try with_reducible rfl
          try simp only [Act.put, List.setIfInBounds_toArray, List.set_cons_zero, List.set_cons_succ]
          refine AnyK.take (i := 9) (v := ?v9) rfl (by kernel_rfl) (by kernel_rfl) (by kernel_rfl) (by kernel_rfl) (by kernel_rfl) (fun _ _ _ h => h) hS0 (Or.inl ⟨by kernel_rfl, ?hy9⟩) ?rest9
          case hy9 => rintro wk ⟨s1, s2, s3, s4, s5⟩; go_simp; try with_reducible rfl
          try simp only [Act.put, List.setIfInBounds_toArray, List.set_cons_zero, List.set_cons_succ]
          refine AnyK.take (i := 10) (v := ?v10) rfl (by kernel_rfl) (by kernel_rfl) (by kernel_rfl) (by kernel_rfl) (by kernel_rfl) (fun _ _ _ h => h) hS0 (Or.inl ⟨by kernel_rfl, ?hy10⟩) ?rest10
          case hy10 => rintro wk ⟨s1, s2, s3, s4, s5⟩; go_simp; try with_reducible rfl
          try simp only [Act.put, List.setIfInBounds_toArray, List.set_cons_zero, List.set_cons_succ]
          refine AnyK.take (i := 11) (v := ?v11) rfl (by kernel_rfl) (by kernel_rfl) (by kernel_rfl) (by kernel_rfl) (by kernel_rfl) (fun _ _ _ h => h) hS0 (Or.inl ⟨by kernel_rfl, ?hy11⟩) ?rest11
          case hy11 => rintro wk ⟨s1, s2, s3, s4, s5⟩; go_simp; try with_reducible rfl
          try simp only [Act.put, List.setIfInBounds_toArray, List.set_cons_zero, List.set_cons_succ]
          refine AnyK.take (i := 12) (v := ?v12) rfl (by kernel_rfl) (by kernel_rfl) (by kernel_rfl) (by kernel_rfl) (by kernel_rfl) (fun _ _ _ h => h) hS0 (Or.inl ⟨by kernel_rfl, ?hy12⟩) ?rest12
          case hy12 => rintro wk ⟨s1, s2, s3, s4, s5⟩; go_simp; try with_reducible rfl
          try simp only [Act.put, List.setIfInBounds_toArray, List.set_cons_zero, List.set_cons_succ]
          refine AnyK.take (i := 13) (v := ?v13) rfl (by kernel_rfl) (by kernel_rfl) (by kernel_rfl) (by kernel_rfl) (by kernel_rfl) (fun _ _ _ h => h) hS0 (Or.inl ⟨by kernel_rfl, ?hy13⟩) ?rest13
          case hy13 => rintro wk ⟨s1, s2, s3, s4, s5⟩; go_simp; try with_reducible rfl
          try simp only [Act.put, List.setIfInBounds_toArray, List.set_cons_zero, List.set_cons_succ]
          refine AnyK.take (i := 14) (v := ?v14) rfl (by kernel_rfl) (by kernel_rfl) (by kernel_rfl) (by kernel_rfl) (by kernel_rfl) (fun _ _ _ h => h) hS0 (Or.inl ⟨by kernel_rfl, ?hy14⟩) ?rest14
          case hy14 => rintro wk ⟨s1, s2, s3, s4, s5⟩; go_simp; try with_reducible rfl
          try simp only [Act.put, List.setIfInBounds_toArray, List.set_cons_zero, List.set_cons_succ]
          refine AnyK.take (i := 15) (v := ?v15) rfl (by kernel_rfl) (by kernel_rfl) (by kernel_rfl) (by kernel_rfl) (by kernel_rfl) (fun _ _ _ h => h) hS0 (Or.inl ⟨by kernel_rfl, ?hy15⟩) ?rest15
          case hy15 => rintro wk ⟨s1, s2, s3, s4, s5⟩; go_simp; try with_reducible rfl
          try simp only [Act.put, List.setIfInBounds_toArray, List.set_cons_zero, List.set_cons_succ]
          refine AnyK.take (i := 16) (v := ?v16) rfl (by kernel_rfl) (by kernel_rfl) (by kernel_rfl) (by kernel_rfl) (by kernel_rfl) (fun _ _ _ h => h) hS0 (Or.inl ⟨by kernel_rfl, ?hy16⟩) ?rest16
          case hy16 => rintro wk ⟨s1, s2, s3, s4, s5⟩; go_simp; try with_reducible rfl
          try simp only [Act.put, List.setIfInBounds_toArray, List.set_cons_zero, List.set_cons_succ]
          refine AnyK.take (i := 17) (v := ?v17) rfl (by kernel_rfl) (by kernel_rfl) (by kernel_rfl) (by kernel_rfl) (by kernel_rfl) (fun _ _ _ h => h) hS0 (Or.inl ⟨by kernel_rfl, ?hy17⟩) ?rest17
          case hy17 => rintro wk ⟨s1, s2, s3, s4, s5⟩; go_simp; try with_reducible rfl
          try simp only [Act.put, List.setIfInBounds_toArray, List.set_cons_zero, List.set_cons_succ]
          refine AnyK.take (i := 18) (v := ?v18) rfl (by kernel_rfl) (by kernel_rfl) (by kernel_rfl) (by kernel_rfl) (by kernel_rfl) (fun _ _ _ h => h) hS0 (Or.inl ⟨by kernel_rfl, ?hy18⟩) ?rest18
          case hy18 => rintro wk ⟨s1, s2, s3, s4, s5⟩; go_simp; try with_reducible rfl
          try simp only [Act.put, List.setIfInBounds_toArray, List.set_cons_zero, List.set_cons_succ]
          refine AnyK.take (i := 19) (v := ?v19) rfl (by kernel_rfl) (by kernel_rfl) (by kernel_rfl) (by kernel_rfl) (by kernel_rfl) (fun _ _ _ h => h) hS0 (Or.inl ⟨by kernel_rfl, ?hy19⟩) ?rest19
          case hy19 => rintro wk ⟨s1, s2, s3, s4, s5⟩; go_simp; try with_reducible rfl
          try simp only [Act.put, List.setIfInBounds_toArray, List.set_cons_zero, List.set_cons_succ]
          refine AnyK.take (i := 20) (v := ?v20) rfl (by kernel_rfl) (by kernel_rfl) (by kernel_rfl) (by kernel_rfl) (by kernel_rfl) (fun _ _ _ h => h) hS0 (Or.inl ⟨by kernel_rfl, ?hy20⟩) ?rest20
          case hy20 => rintro wk ⟨s1, s2, s3, s4, s5⟩; go_simp; try with_reducible rfl
          try simp only [Act.put, List.setIfInBounds_toArray, List.set_cons_zero, List.set_cons_succ]
          refine AnyK.one (i := 21) rfl (by kernel_rfl) (by rfl) (fun K hK => ?_)
          go_simp
          refine HCL.out.mono ?_
          rintro r w4 ⟨u4, e4, rfl, hu4, he4, hm4, hs4, hg4'⟩
          have hg4 : wr.grownBy w4 (some sb) := gb_trans hd1 hg4'
          have hS4 : w4.cell? ⟨gB, d, none⟩ = some lv ∧ w4.cell? ⟨b1, o1 + d, none⟩ = some (.slice (some ⟨BB1 d, O1 d, none⟩) n (C1 d)) ∧ w4.cell? ⟨BB1 d, O1 d + m, none⟩ = some (.string x) ∧ w4.cell? ⟨b2, o2 + d, none⟩ = some (.slice (some ⟨BB2 d, O2 d, none⟩) n (C2 d)) ∧ w4.cell? ⟨BB2 d, O2 d + m, none⟩ = some (.string y) :=
            ⟨hg4.cell s1 nsg, hg4.cell s2 n1, hg4.cell s3 n3, hg4.cell s4 n2, hg4.cell s5 n4⟩
          refine hK.out _ _ (.inr hS4) ?_
          clear hK K
          try simp only [Act.put, List.setIfInBounds_toArray, List.set_cons_zero, List.set_cons_succ]
          refine AnyK.one (i := 22) rfl (by kernel_rfl) (by rfl) (fun K hK => ?_)
          go_simp
          obtain ⟨wz, hwz⟩ : ∃ wz, wz = w4.alloc (.cells #[.string u4] 9) := ⟨_, rfl⟩
          have hga : w4.grownBy wz none := by rw [hwz]; exact World.grownBy_alloc w4 _ none
          have hza : wz.heap.size = w4.heap.size + 1 := by rw [hwz]; simp
          have hnew : wz.cell? ⟨w4.heap.size, 0, none⟩ = some (.string u4) := by rw [hwz]; exact cell_new w4 _ _ 0 _ rfl
          rw [← hwz]
          have HWZ := Lib.hid hwz; clear hwz
          have hSz := And.intro (hga.cell hS4.1 (by simp)) (And.intro (hga.cell hS4.2.1 (by simp)) (And.intro (hga.cell hS4.2.2.1 (by simp)) (And.intro (hga.cell hS4.2.2.2.1 (by simp)) (hga.cell hS4.2.2.2.2 (by simp)))))
          refine hK.out _ _ (.inr hSz) ?_
          clear hK K
          try simp only [Act.put, List.setIfInBounds_toArray, List.set_cons_zero, List.set_cons_succ]
          have hrz := HBL.out.rowz hlt hg4 hga
          rw [← HLV.out] at hrz
          have hwsz : gB ≤ wz.heap.size := by have := hg4.size; omega
          refine AnyK.one (i := 23) rfl (by kernel_rfl) (by rfl) (fun K hK => ?_)
          refine wp_append_lies _ (.tmp 30) (.tmp 47) 33 rfl gB 9 i0 (.string ⟨#[]⟩) 1 16 Tryz.underlying33 hi0 hz0 hz1 hz2 rfl (by omega) lv m _ (by simp [Act.eval]) hrz ⟨w4.heap.size, 0, none⟩ 1 1 [.string u4] (by simp [Act.eval]) rfl (news1 hnew) (one_str _) (by omega) (by unfold maxLen; omega) (by omega) hwsz _ rfl ?_
          intro go cap' wa hown hgrow hat hlt'
          have hgrow' : wz.grownBy wa (R3 d).ownBlock := by rw [← HLV.out]; exact hgrow
          have hSa := And.intro (HBL.out.cellA hlt hgrow' (by first | exact Nat.le_refl _ | (apply Nat.le_of_lt; assumption)) (hSz.1)) (And.intro (HBL.out.cellA hlt hgrow' (by first | exact Nat.le_refl _ | (apply Nat.le_of_lt; assumption)) (hSz.2.1)) (And.intro (HBL.out.cellA hlt hgrow' (by first | exact Nat.le_refl _ | (apply Nat.le_of_lt; assumption)) (hSz.2.2.1)) (And.intro (HBL.out.cellA hlt hgrow' (by first | exact Nat.le_refl _ | (apply Nat.le_of_lt; assumption)) (hSz.2.2.2.1)) (HBL.out.cellA hlt hgrow' (by first | exact Nat.le_refl _ | (apply Nat.le_of_lt; assumption)) (hSz.2.2.2.2)))))
          have hfa := HBL.out.frozenA hlt hg4 hga hgrow'
          refine hK.out _ _ (.inr hSa) ?_
          clear hK K
          try simp only [Act.put, List.setIfInBounds_toArray, List.set_cons_zero, List.set_cons_succ]
          refine AnyK.take (i := 24) (v := ?ve30_24) rfl (by kernel_rfl) (by kernel_rfl) (by kernel_rfl) (by kernel_rfl) (by kernel_rfl) (fun _ _ _ h => h) hSa (Or.inl ⟨by kernel_rfl, ?hye30_24⟩) ?reste30_24
          case hye30_24 => rintro wk ⟨s1, s2, s3, s4, s5⟩; go_simp; try with_reducible rfl
          try simp only [Act.put, List.setIfInBounds_toArray, List.set_cons_zero, List.set_cons_succ]
          have g0 := hSa.1
          refine AnyK.one (i := 25) rfl (by kernel_rfl) (by rfl) (fun K hK => ?_)
          go_simp
          refine hK.out _ _ (.inl rfl) (AnyK.done (by kernel_rfl) ?_ _)
          clear hK K
          go_wp2_with fail
          go_roundw
          case rel =>
            obtain ⟨R4, h1⟩ := HBL.out.snoc (u := u4) hlt hg4 hs4 he4 hm4 hu4 hga hown (by rw [← HLV.out]; exact hgrow) (by rw [← HLV.out]; exact hat)
            exact ⟨m + 1, e4, R4, _, by omega, by go_num, h1⟩
          case measure => simp [intOf]; omega
        · have hmn : m = n := by omega
          have hgt2 : ¬ ((m : Int) < (n : Int)) := by omega
          have HMN := Lib.hid hmn; clear hmn
          go_wp2_with fail
          go_roundw
          case rel =>
            refine ⟨d + 1, e', R3, Y, by omega, by go_num, ?_⟩
            have h1 := HBL.out
            rw [HMN.out] at h1; exact h1.row
          case measure => simp [intOf]; omega
    · have hdn : d = n := by omega
      have hgt2 : ¬ ((d : Int) < (n : Int)) := by omega
      have HDN := Lib.hid hdn; clear hdn
      go_wp2_with fail
      go_ret
      have h1 := HBL.out
      rw [HDN.out] at h1
      exact ⟨_, e', Y, rfl, (h1.done hn).1, (h1.done hn).2, h1.er, h1.mono, h1.sum, Gr.gb (by have h2 := h1.gr; rw [HGB.out] at h2; exact h2)⟩

set_option maxHeartbeats 8000000 in
theorem product_any {k : KK} {n sb e B0 : Nat} {XA XB : Nat → Nat → ByteArray} {A B : Nat → Nat → RK k} {va vb : Value} (w : World) (hn : n ≤ 9) (hs : SumL w sb k.1 e) (he : Er False e) (hA : Mt (some sb) w va n (fun _ => n) XA) (hB : Mt (some sb) w vb n (fun _ => n) XB)
    (hXA : MatIs e n XA A) (hXB : MatIs e n XB B) (ht : TabB B0 w) (hB0 : B0 ≤ sb) :
    Calls Tryz.prog 31 #[.pointer (some ⟨sb, 0, none⟩), va, vb] w (MatL (k := k) sb n e (CSR.prod A B n) w) := by
  have hmk2 := run_make_row' (P := Tryz.prog) 22 33 (.slice none 0 0) 24 Tryz.underlying22 info_strs rfl .i64 .i64 n (by omega) (by omega)
  have hst := Bld.start (n := n) hs he (fun _ _ => ⟨#[]⟩) (CSR.prod A B n)
  have HST := Lib.hid hst; clear hst
  obtain ⟨a1, cap1, b1, o1, A1, C1, BB1, O1, rfl, ha1, hc1, hm1, hb1, hrow1⟩ := hA.open
  obtain ⟨a2, cap2, b2, o2, A2, C2, BB2, O2, rfl, ha2, hc2, hm2, hb2, hrow2⟩ := hB.open
  unfold maxLen at hm1 hm2
  clear hA hB hs he
  have HA1 := Lib.hid ha1; clear ha1
  have HA2 := Lib.hid ha2; clear ha2
  have HB1 := Lib.hid hb1; clear hb1
  have HB2 := Lib.hid hb2; clear hb2
  have HR1 := Lib.hid hrow1; clear hrow1
  have HR2 := Lib.hid hrow2; clear hrow2
  have HXA := Lib.hid hXA; clear hXA
  have HXB := Lib.hid hXB; clear hXB
  have HTB := Lib.hid ht; clear ht
  go_enter Tryz.func31, Tryz.ntmps31
  go_wp2_with fail
  clear hmk2
  obtain ⟨gB, hgB⟩ : ∃ gB, gB = w.heap.size := ⟨_, rfl⟩
  rw [← hgB] at HST
  rw [← hgB]
  have HGB := Lib.hid hgB; clear hgB
  -- ████ for i
  go_loopw [8, 9, 10, 11] (fun i _ _ _ wr => ∃ (d e' : Nat) (R2 : Nat → Value) (Y : Nat → Nat → ByteArray), d ≤ n ∧ i = .int .i64 (d : Int) ∧ Bld w wr gB sb n e d 0 e' R2 Y (CSR.prod A B n)) (fun i _ _ _ _ => n - (intOf i).toNat)
  case atStart => exact ⟨0, e, _, _, Nat.zero_le _, rfl, HST.out⟩
  case round =>
    obtain ⟨d, e', R2, Y, hd, rfl, hbl⟩ := hrel
    clear HST
    have HBL := Lib.hid hbl; clear hbl
    by_cases hlt : d < n
    · have hdz : (d : Int) < (n : Int) := by omega
      have hdz0 : (0 : Int) ≤ (d : Int) := by omega
      go_wp2_with fail
      -- ████ for j
      go_loopw [9, 10, 11] (fun i _ _ wr => ∃ (m e' : Nat) (R2 : Nat → Value) (Y : Nat → Nat → ByteArray), m ≤ n ∧ i = .int .i64 (m : Int) ∧ Bld w wr gB sb n e d m e' R2 Y (CSR.prod A B n)) (fun i _ _ _ => n - (intOf i).toNat)
      case atStart => exact ⟨0, e', R2, Y, Nat.zero_le _, rfl, HBL.out⟩
      case round =>
        obtain ⟨m, e', R3, Y, hm2', rfl, hbl⟩ := hrel
        clear HBL
        have HBL := Lib.hid hbl; clear hbl
        by_cases hlt2 : m < n
        · have hmz : (m : Int) < (n : Int) := by omega
          have hmz0 : (0 : Int) ≤ (m : Int) := by omega
          have s0 := HBL.out.sum.c0
          have hsg := HBL.out.sg
          go_wp2_with fail
          refine (semizero_any k.1 _).mono ?_
          rintro r w1 ⟨rfl, hb1'⟩
          have hg1 : wr.grownBy w1 (some sb) := gb_below hb1' (some sb)
          have hs1 := HBL.out.sum.kept hb1'
          have HG1 := Lib.hid hg1; clear hg1
          have HS1 := Lib.hid hs1; clear hs1 hb1' s0
          go_wp2_with fail
          obtain ⟨wj, hwj⟩ : ∃ wj, wj = wr := ⟨_, rfl⟩
          rw [← hwj] at HBL HG1
          clear hwj
          -- ████ for k
          go_loopw [10, 11] (fun uv i wq => ∃ (q e2 : Nat) (us : ByteArray), q ≤ n ∧ uv = .string us ∧ i = .int .i64 (q : Int) ∧ Is k e2 us (CSR.sum (fun l => A d l * B l m) q) ∧ Er False e2 ∧ (e2 = 0 → e' = 0) ∧ SumL wq sb k.1 e2 ∧ wj.grownBy wq (some sb)) (fun _ i _ => n - (intOf i).toNat)
          case atStart => exact ⟨0, e', _, Nat.zero_le _, rfl, rfl, Is.zero k e', HBL.out.er, fun h => h, HS1.out, HG1.out⟩
          case round =>
            obtain ⟨q, e2, us, hq, rfl, rfl, hx, hE, hm, hS, hg⟩ := hrel
            clear HG1 HS1
            have HX := Lib.hid hx; clear hx
            have HE := Lib.hid hE; clear hE
            have HM := Lib.hid hm; clear hm
            have HS := Lib.hid hS; clear hS
            have HG := Lib.hid hg; clear hg
            have hgw : Gr gB (some sb) w wr := HBL.out.gr.more HG.out (by have := HBL.out.om.lt; omega) (fun _ e => .inl e)
            have HGW := Lib.hid hgw; clear hgw
            by_cases hlt3 : q < n
            · have hqz : (q : Int) < (n : Int) := by omega
              have hqz0 : (0 : Int) ≤ (q : Int) := by omega
              obtain rfl := HA1.out (by omega)
              obtain rfl := HA2.out (by omega)
              obtain ⟨k1, _, k3, k4, k5, _, k7⟩ := HR1.out d hlt
              obtain ⟨l1, _, l3, l4, l5, _, l7⟩ := HR2.out q hlt3
              have k4' := k4 (by omega)
              have l4' := l4 (by omega)
              rw [k4'] at k1
              rw [l4'] at l1
              have hbb1 : b1 < gB := by have := (HB1.out (by omega)).1; have := HGB.out; omega
              have hbb2 : b2 < gB := by have := (HB2.out (by omega)).1; have := HGB.out; omega
              have hbb3 : BB1 d < gB := by have := (k5 (by omega)).1; have := HGB.out; omega
              have hbb4 : BB2 q < gB := by have := (l5 (by omega)).1; have := HGB.out; omega
              have n1 : some b1 ≠ some sb := (HB1.out (by omega)).2
              have n2 : some b2 ≠ some sb := (HB2.out (by omega)).2
              have n3 : some (BB1 d) ≠ some sb := (k5 (by omega)).2
              have n4 : some (BB2 q) ≠ some sb := (l5 (by omega)).2
              have s2 := HGW.out.cell k1 hbb1 n1
              have s3 := HGW.out.cell (k7 q hlt3) hbb3 n3
              have s4 := HGW.out.cell l1 hbb2 n2
              have s5 := HGW.out.cell (l7 m hlt2) hbb4 n4
              unfold maxLen at k3 l3
              have hcn1 : (C1 d : Int) ≤ 9223372036854775807 := by omega
              have hcn2 : (C2 q : Int) ≤ 9223372036854775807 := by omega
              obtain ⟨x, hx⟩ : ∃ x, x = XA d q := ⟨_, rfl⟩
              obtain ⟨y, hy⟩ : ∃ y, y = XB q m := ⟨_, rfl⟩
              rw [← hx] at s3
              rw [← hy] at s5
              have hxi := (HXA.out d q hlt hlt3).mono (fun h => HBL.out.mono (HM.out h))
              have hyi := (HXB.out q m hlt3 hlt2).mono (fun h => HBL.out.mono (HM.out h))
              rw [← hx] at hxi
              rw [← hy] at hyi
              have hcl := ltimes_is hxi hyi HE.out (fun h => h.elim) (HTB.out.gr' HGW.out hB0 hsg).drew.tab HS.out.drew
              have hpl : ∀ (w5 : World) (u5 : ByteArray) (e5 : Nat), Is k e5 u5 (A d q * B q m) → Er False e5 → (e5 = 0 → e2 = 0) → SumL w5 sb k.1 e5 → wr.grownBy w5 (some sb) → Calls Tryz.prog 35 #[.pointer (some ⟨sb, 0, none⟩), .string us, .string u5] w5 (OpL False e5 sb (CSR.sum (fun l => A d l * B l m) q + A d q * B q m) w5) := fun w5 u5 e5 h1 h2 h3 h4 h5 =>
                lplus_is (HX.out.mono h3) h1 h2 (fun h => h.elim) (HTB.out.gr' (HGW.out.more h5 (by have := HBL.out.om.lt; have := HG.out.size; omega) (fun _ e => .inl e)) hB0 hsg).tab h4
              have HCL := Lib.hid hcl; clear hcl hxi hyi
              have HPL := Lib.hid hpl; clear hpl
              have HKC := Lib.hid (fun wk' (hg : wr.grownBy wk' (some sb)) => (⟨hg.cell s2 n1, hg.cell s3 n3, hg.cell s4 n2, hg.cell s5 n4⟩ :
                wk'.cell? ⟨b1, o1 + d, none⟩ = some (.slice (some ⟨BB1 d, O1 d, none⟩) n (C1 d)) ∧ wk'.cell? ⟨BB1 d, O1 d + q, none⟩ = some (.string x) ∧ wk'.cell? ⟨b2, o2 + q, none⟩ = some (.slice (some ⟨BB2 q, O2 q, none⟩) n (C2 q)) ∧ wk'.cell? ⟨BB2 q, O2 q + m, none⟩ = some (.string y)))
              clear k1 k4 k5 k7 k4' l1 l4 l5 l7 l4' hx hy n1 n2 n3 n4
              have hd1 := drew_gb wr (some sb)
              go_wp2_with fail
              go_region_held2 (fun wk' => wk'.cell? ⟨b1, o1 + d, none⟩ = some (.slice (some ⟨BB1 d, O1 d, none⟩) n (C1 d)) ∧ wk'.cell? ⟨BB1 d, O1 d + q, none⟩ = some (.string x) ∧ wk'.cell? ⟨b2, o2 + q, none⟩ = some (.slice (some ⟨BB2 q, O2 q, none⟩) n (C2 q)) ∧ wk'.cell? ⟨BB2 q, O2 q + m, none⟩ = some (.string y))
                (first | exact HKC.out _ (by assumption))
                (first
                | (go_at_call 36; refine HCL.out.mono ?_; rintro r w5 ⟨u5, e5, rfl, hu5, he5, hm5, hs5, hg5⟩; have hn5 := gb_trans hd1 hg5)
                | (go_at_call 35; refine (HPL.out w5 u5 e5 hu5 he5 hm5 hs5 hn5).mono ?_; rintro r w6 ⟨u6, e6, rfl, hu6, he6, hm6, hs6, hg6⟩; have hn6 := gb_trans hn5 hg6))
              rename_i hH
              clear hH
              go_wp2_with fail
              go_roundw
              case rel => exact ⟨q + 1, e6, u6, by omega, rfl, by go_num, hu6, he6, fun h => HM.out (hm5 (hm6 h)), hs6, gb_trans HG.out hn6⟩
              case measure => simp [intOf]; omega
            · have hqn : q = n := by omega
              have hgt2 : ¬ ((q : Int) < (n : Int)) := by omega
              have hx := HX.out
              rw [hqn] at hx
              have HXX := Lib.hid hx; clear hx
              have HQN := Lib.hid hqn; clear hqn
              obtain ⟨lv, hlv⟩ : ∃ lv, lv = R3 d := ⟨_, rfl⟩
              have s1 := HBL.out.om.cell hlt
              rw [← hlv] at s1
              have nsg : some gB ≠ some sb := by simp; omega
              have s1 := HG.out.cell s1 nsg
              obtain ⟨i0, hi0, hz0, hz1, hz2⟩ := info_parts info_str
              have hgl := HBL.out.om.lt
              have hga := World.grownBy_alloc wr (.cells #[.string us] 9) none
              have hrz := HBL.out.rowz hlt HG.out hga
              rw [← hlv] at hrz
              have hnew : (wr.alloc (.cells #[.string us] 9)).cell? ⟨wr.heap.size, 0, none⟩ = some (.string us) := cell_new wr _ _ 0 _ rfl
              have hwsz : gB ≤ (wr.alloc (.cells #[.string us] 9)).heap.size := by have := HG.out.size; simp; omega
              have HLV := Lib.hid hlv; clear hlv
              have HGA := Lib.hid hga; clear hga
              have HRZ := Lib.hid hrz; clear hrz
              have HNW := Lib.hid hnew; clear hnew
              go_wp2_with (at_builtin; refine wpList_append_lies _ rfl (.tmp 62) (.tmp 64) 33 rfl gB 9 i0 (.string ⟨#[]⟩) 1 16 Tryz.underlying33 hi0 hz0 hz1 hz2 rfl (by omega) lv m _ (by first | rfl | simp [Act.eval, Act.put]) HRZ.out ⟨wr.heap.size, 0, none⟩ 1 1 [.string us] (by first | rfl | simp [Act.eval, Act.put]) rfl (news1 HNW.out) (one_str _) (by omega) (by unfold maxLen; omega) (by omega) hwsz _ rfl ?_; intro go cap' wa hown hgrow hat hlt'; have hgrow' : (wr.alloc (.cells #[.string us] 9)).grownBy wa (R3 d).ownBlock := (by rw [← HLV.out]; exact hgrow); have g0 := HBL.out.cellA hlt hgrow' (ad := ⟨gB, d, none⟩) (Nat.le_refl _) (HGA.out.cell s1 (by simp)); have hfa := HBL.out.frozenA hlt HG.out HGA.out hgrow')
              go_roundw
              case rel =>
                obtain ⟨R4, h1⟩ := HBL.out.snoc (u := us) hlt HG.out HS.out HE.out HM.out HXX.out HGA.out hown hgrow' (by rw [← HLV.out]; exact hat)
                exact ⟨m + 1, e2, R4, _, by omega, by go_num, h1⟩
              case measure => simp [intOf]; omega
        · have hmn : m = n := by omega
          have hgt2 : ¬ ((m : Int) < (n : Int)) := by omega
          have HMN := Lib.hid hmn; clear hmn
          go_wp2_with fail
          go_roundw
          case rel =>
            refine ⟨d + 1, e', R3, Y, by omega, by go_num, ?_⟩
            have h1 := HBL.out
            rw [HMN.out] at h1; exact h1.row
          case measure => simp [intOf]; omega
    · have hdn : d = n := by omega
      have hgt2 : ¬ ((d : Int) < (n : Int)) := by omega
      have HDN := Lib.hid hdn; clear hdn
      go_wp2_with fail
      go_ret
      have h1 := HBL.out
      rw [HDN.out] at h1
      exact ⟨_, e', Y, rfl, (h1.done hn).1, (h1.done hn).2, h1.er, h1.mono, h1.sum, Gr.gb (by have h2 := h1.gr; rw [HGB.out] at h2; exact h2)⟩
end Go.Proofs.YtlmfppjphblemaaGreatDoor
