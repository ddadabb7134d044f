/- The walk of abugidalaw07.moved: rows and columns exchanged. -/
import Derived.Test.YtlmfppjphblemaaGreatDoorLawW
import Derived.Deep.AppendLies
namespace Go.Proofs.YtlmfppjphblemaaGreatDoor
open Go Go.RowKit Go.Deep
set_option maxRecDepth 100000
set_option linter.unusedSimpArgs false

/-- One entry more in row c. -/
def LL (n c d l : Nat) : Nat := if l < c then n else if l = c then d else 0
theorem snoc_step {wr wa w1 : World} {Z : Nat → Prop} {B g n c d go cap : Nat} {R : Nat → Value} {X : Nat → Nat → ByteArray} {u : ByteArray}
    (h : OM wr Z B 9 33 g n R (LL n c d) X) (hc : c < n) (hnil : ∀ l, c + 1 ≤ l → R l = .slice none 0 0) (ha : wr.grownBy wa none)
    (hown : w1.ownsRow B 9 1 (.slice (some ⟨go, 0, none⟩) (d + 1) cap) (d + 1) (strs d (X c) ++ [.string u])) (hg : wa.grownBy w1 (R c).ownBlock) (hat : (R c).ownBlock = some go ∨ go = wa.heap.size) :
    ∃ R3, OM (w1.setCell ⟨g, c, none⟩ (.slice (some ⟨go, 0, none⟩) (d + 1) cap)) Z B 9 33 g n R3 (LL n c (d + 1)) (fun i j => if i = c ∧ j = d then u else X i j) ∧ ∀ l, c + 1 ≤ l → R3 l = .slice none 0 0 := by
  have hrow : w1.ownsRow B 9 1 (.slice (some ⟨go, 0, none⟩) (d + 1) cap) (d + 1) (strs (d + 1) (fun j => if j = d then u else X c j)) := by
    rw [← strs_snoc, strs_congr (Y := X c) (fun j hj => by rw [if_neg (by omega)]), if_pos rfl]; exact hown
  refine ⟨_, ((h.appended hc ha hrow hg hat).congrL fun l hl => ?_).congr fun l j hl hj => ?_, fun l hl => ?_⟩
  · unfold LL
    by_cases e : l = c
    · subst e; simp
    · simp [e]
  · by_cases e : l = c
    · subst e; simp
    · simp [e]
  · simp only [show ¬ (l = c) by omega, if_false]; exact hnil l hl
theorem LL_end {n c : Nat} (l : Nat) : LL n c n l = LL n (c + 1) 0 l := by
  unfold LL
  by_cases e : l < c
  · rw [if_pos e, if_pos (by omega)]
  · by_cases e2 : l = c
    · rw [if_neg e, if_pos e2, if_pos (by omega)]
    · rw [if_neg e, if_neg e2, if_neg (by omega)]; split <;> rfl
/-- Behind moved. -/
def MovE (n p q : Nat) (X : Nat → Nat → ByteArray) (w : World) (r : Ending) (w' : World) : Prop :=
  ∃ v, r = .returned v ∧ Mt none w' v n (fun _ => n) (fun i j => X (CSR.swp p q i) (CSR.swp p q j)) ∧ Below w.heap.size w w'

set_option maxHeartbeats 8000000 in
theorem moved_any {n p q : Nat} {L : Nat → Nat} {X : Nat → Nat → ByteArray} {v : Value} (w : World) (hn : n ≤ 9) (hA : Mt none w v n L X) (hL : ∀ i, i < n → L i = n) (hp : p < n) (hq : q < n) :
    Calls Tryz.prog 32 #[v, .int .i64 (p : Int), .int .i64 (q : Int)] w (MovE n p q X w) := by
  obtain ⟨a, cap, b, off, A, C, BB, O, rfl, ha, hc, hm, hb, hrow⟩ := (hA.congr hL (fun _ _ _ _ => rfl) : Mt none w v n (fun _ => n) X).open
  unfold maxLen at hm
  obtain rfl := ha (by omega)
  have hb := (hb (by omega)).1
  clear hA hL ha
  have HR := Lib.hid hrow; clear hrow
  have HB := Lib.hid hb; clear hb
  have hmk1 := run_make_row' (P := Tryz.prog) 57 3 (.int .i64 0) 8 Tryz.underlying57 info_int rfl .i64 .i64 n (by omega) (by omega)
  have hmk2 := run_make_row' (P := Tryz.prog) 22 33 (.slice none 0 0) 24 Tryz.underlying22 info_strs rfl .i64 .i64 n (by omega) (by omega)
  have hr0 := World.rowIs_made w (.int .i64 0) n 3
  have hb0 : Below w.heap.size w (w.alloc (.cells (madeCells #[.int .i64 0] n) 3)) := (Below.refl _ _).alloc (Nat.le_refl _) _
  have HR0 := Lib.hid hr0; clear hr0
  have HB0 := Lib.hid hb0; clear hb0
  go_enter Tryz.func32, Tryz.ntmps32
  go_wp2_with fail
  clear hmk1
  obtain ⟨lb, hlb⟩ : ∃ lb, lb = w.heap.size := ⟨_, rfl⟩
  rw [← hlb] at HR0
  rw [← hlb]
  have HLB := Lib.hid hlb; clear hlb
  -- ████ l[i] = i
  go_loopw [8] (fun i wr => ∃ c : Nat, c ≤ n ∧ i = .int .i64 (c : Int) ∧ wr.rowIs lb 3 n (fun k => if k < c then .int .i64 (k : Int) else .int .i64 0) ∧ Below w.heap.size w wr) (fun i _ => n - (intOf i).toNat)
  case atStart => exact ⟨0, Nat.zero_le _, rfl, HR0.out.congr (fun k _ => by simp), HB0.out⟩
  case round =>
    obtain ⟨c, hc2, rfl, hrw, hbw⟩ := hrel
    clear HR0 HB0
    have HRW := Lib.hid hrw; clear hrw
    have HBW := Lib.hid hbw; clear hbw
    by_cases hlt : c < n
    · have hcz : (c : Int) < (n : Int) := by omega
      have hcz0 : (0 : Int) ≤ (c : Int) := by omega
      have f0 := HRW.out.frozen c
      have c0 := HRW.out.cell hlt
      simp only [Nat.lt_irrefl, if_false] at c0
      go_wp2_with fail
      go_roundw
      case rel =>
        refine ⟨c + 1, by omega, by go_num, (HRW.out.set c _).congr (fun k hk => ?_), HBW.out.setCell (by show w.heap.size ≤ lb; rw [HLB.out]; exact Nat.le_refl _) _⟩
        by_cases e : k = c
        · subst e; simp
        · rw [if_neg e]
          by_cases e2 : k < c
          · rw [if_pos e2, if_pos (by omega)]
          · rw [if_neg e2, if_neg (by omega)]
      case measure => simp [intOf]; omega
    · have hqn : c = n := by omega
      subst hqn
      have hgt : ¬ ((c : Int) < (c : Int)) := by omega
      have hpz : (p : Int) < (c : Int) := by omega
      have hpz0 : (0 : Int) ≤ (p : Int) := by omega
      have hqz : (q : Int) < (c : Int) := by omega
      have hqz0 : (0 : Int) ≤ (q : Int) := by omega
      have f0 := HRW.out.frozen p
      have f1 := HRW.out.frozen q
      have c0 := HRW.out.cell hp
      have c1 := HRW.out.cell hq
      rw [if_pos hp] at c0
      rw [if_pos hq] at c1
      have hset := HRW.out.set p (.int .i64 (q : Int))
      obtain ⟨z, hz⟩ : ∃ z, (wr.setCell ⟨lb, p, none⟩ (.int .i64 (q : Int))).cell? ⟨lb, q, none⟩ = some z := ⟨_, hset.cell hq⟩
      have f2 := hset.frozen q
      have hrow2 := (hset.set q (.int .i64 (p : Int))).congr (g := fun k => .int .i64 (CSR.swp p q k : Int)) (fun k hk => by
        unfold CSR.swp
        by_cases e1 : k = q
        · subst e1
          by_cases e2 : k = p
          · subst e2; simp
          · simp [e2]
        · by_cases e2 : k = p
          · subst e2; simp [e1]
          · simp [e1, e2, hk])
      have hb2 : Below w.heap.size w ((wr.setCell ⟨lb, p, none⟩ (.int .i64 (q : Int))).setCell ⟨lb, q, none⟩ (.int .i64 (p : Int))) := (HBW.out.setCell (by show w.heap.size ≤ lb; rw [HLB.out]; exact Nat.le_refl _) _).setCell (by show w.heap.size ≤ lb; rw [HLB.out]; exact Nat.le_refl _) _
      have HRW2 := Lib.hid hrow2; clear hrow2
      have HB2 := Lib.hid hb2; clear hb2
      clear hset
      obtain ⟨w2, hw2⟩ : ∃ w2, w2 = (wr.setCell ⟨lb, p, none⟩ (.int .i64 (q : Int))).setCell ⟨lb, q, none⟩ (.int .i64 (p : Int)) := ⟨_, rfl⟩
      have hmad : OM (w2.alloc (.cells (madeCells #[.slice none 0 0] c) 33)) (fun _ => False) w2.heap.size 9 33 w2.heap.size c (fun _ => .slice none 0 0) (LL c 0 0) (fun i j => X (CSR.swp p q i) (CSR.swp p q j)) :=
        (OM.made w2 (fun _ => False) (by simp) w2.heap.size (Nat.le_refl _) 9 33 c _).congrL fun l _ => by unfold LL; split <;> (try split) <;> first | rfl | omega
      have hb3 : Below w2.heap.size w2 (w2.alloc (.cells (madeCells #[.slice none 0 0] c) 33)) := (Below.refl _ _).alloc (Nat.le_refl _) _
      have hsz2 : w2.heap.size = wr.heap.size := by rw [hw2]; simp
      rw [← hw2] at HRW2 HB2
      have HMD := Lib.hid hmad; clear hmad
      have HB3 := Lib.hid hb3; clear hb3
      go_wp2_with fail
      rw [← hw2, ← hsz2]
      clear hmk2 f0 f1 f2 c0 c1 hz
      have HW2 := Lib.hid hw2; clear hw2
      have HSZ2 := Lib.hid hsz2; clear hsz2
      obtain ⟨gB, hgB⟩ : ∃ gB, gB = w2.heap.size := ⟨_, rfl⟩
      rw [← hgB] at HMD HB3
      rw [← hgB]
      have hlbB : lb < gB := by rw [hgB]; exact HRW2.out.lt
      have hbB : b < gB := by have h1 := HB.out; have h2 := HB2.out.size; rw [hgB]; omega
      have HGB := Lib.hid hgB; clear hgB
      clear HRW HBW
      -- ████ for i
      go_loopw [10, 11] (fun i _ wr => ∃ (d : Nat) (R2 : Nat → Value), d ≤ c ∧ i = .int .i64 (d : Int) ∧ OM wr (fun _ => False) gB 9 33 gB c R2 (LL c d 0) (fun i j => X (CSR.swp p q i) (CSR.swp p q j)) ∧
        (∀ l, d ≤ l → R2 l = .slice none 0 0) ∧ Below gB w2 wr) (fun i _ _ => c - (intOf i).toNat)
      case atStart => exact ⟨0, _, Nat.zero_le _, rfl, HMD.out, fun _ _ => rfl, HB3.out⟩
      case round =>
        obtain ⟨d, R2, hd, rfl, hom, hnil, hbw⟩ := hrel
        clear HMD HB3
        have HOM := Lib.hid hom; clear hom
        have HNL := Lib.hid hnil; clear hnil
        have HBW := Lib.hid hbw; clear hbw
        by_cases hlt : d < c
        · have hdz : (d : Int) < (c : Int) := by omega
          have hdz0 : (0 : Int) ≤ (d : Int) := by omega
          go_wp2_with fail
          -- ████ for j
          go_loopw [11] (fun i wr => ∃ (m : Nat) (R3 : Nat → Value), m ≤ c ∧ i = .int .i64 (m : Int) ∧ OM wr (fun _ => False) gB 9 33 gB c R3 (LL c d m) (fun i j => X (CSR.swp p q i) (CSR.swp p q j)) ∧
            (∀ l, d + 1 ≤ l → R3 l = .slice none 0 0) ∧ Below gB w2 wr) (fun i _ => c - (intOf i).toNat)
          case atStart => exact ⟨0, R2, Nat.zero_le _, rfl, HOM.out, fun l hl => HNL.out l (by omega), HBW.out⟩
          case round =>
            obtain ⟨m, R3, hm2, rfl, hom, hnil, hbw⟩ := hrel
            clear HOM HNL HBW
            have HOM := Lib.hid hom; clear hom
            have HNL := Lib.hid hnil; clear hnil
            have HBW := Lib.hid hbw; clear hbw
            by_cases hlt2 : m < c
            · have hmz : (m : Int) < (c : Int) := by omega
              have hmz0 : (0 : Int) ≤ (m : Int) := by omega
              obtain ⟨si, hsi⟩ : ∃ si, si = CSR.swp p q d := ⟨_, rfl⟩
              obtain ⟨sj, hsj⟩ : ∃ sj, sj = CSR.swp p q m := ⟨_, rfl⟩
              have hsil : si < c := by rw [hsi]; exact CSR.swp_lt hp hq hlt
              have hsjl : sj < c := by rw [hsj]; exact CSR.swp_lt hp hq hlt2
              have hsiz : (si : Int) < (c : Int) := by omega
              have hsjz : (sj : Int) < (c : Int) := by omega
              have hsiz0 : (0 : Int) ≤ (si : Int) := by omega
              have hsjz0 : (0 : Int) ≤ (sj : Int) := by omega
              obtain ⟨lv, hlv⟩ : ∃ lv, lv = R3 d := ⟨_, rfl⟩
              have s1 := HOM.out.cell hlt
              rw [← hlv] at s1
              have s2 : wr.cell? ⟨lb, d, none⟩ = some (.int .i64 (si : Int)) := by rw [hsi]; exact (HBW.out.cell (p := ⟨lb, d, none⟩) hlbB).trans (HRW2.out.cell hlt)
              have s3 : wr.cell? ⟨lb, m, none⟩ = some (.int .i64 (sj : Int)) := by rw [hsj]; exact (HBW.out.cell (p := ⟨lb, m, none⟩) hlbB).trans (HRW2.out.cell hlt2)
              obtain ⟨r1, _, r3, r4, r5, _, r7⟩ := HR.out si hsil
              have r4' := r4 (by omega)
              have hBB := (r5 (by omega)).1
              rw [r4'] at r1
              unfold maxLen at r3
              have hcn : (C si : Int) ≤ 9223372036854775807 := by omega
              obtain ⟨u, hu⟩ : ∃ u, u = X si sj := ⟨_, rfl⟩
              have hBBg : BB si < gB := by have h2 := HB2.out.size; rw [HGB.out]; omega
              have s4 := (HBW.out.cell (p := ⟨b, off + si, none⟩) hbB).trans ((HB2.out.cell (p := ⟨b, off + si, none⟩) HB.out).trans r1)
              have s5 := (HBW.out.cell (p := ⟨BB si, O si + sj, none⟩) hBBg).trans ((HB2.out.cell (p := ⟨BB si, O si + sj, none⟩) hBB).trans (r7 sj hsjl))
              rw [← hu] at s5
              have hfz := HOM.out.frozen d
              have hgl := HOM.out.lt
              have HSI := Lib.hid hsi; clear hsi
              have HSJ := Lib.hid hsj; clear hsj
              have HU := Lib.hid hu; clear hu
              clear r1 r4 r4' r5 r7 hBB
              obtain ⟨i0, hi0, hz0, hz1, hz2⟩ := info_parts info_str
              have HKC := Lib.hid (fun wk' (hg : wr.grownBy wk' none) => (⟨hg.cell s1 (by simp), hg.cell s2 (by simp), hg.cell s3 (by simp), hg.cell s4 (by simp), hg.cell s5 (by simp)⟩ :
                wk'.cell? ⟨gB, d, none⟩ = some lv ∧ wk'.cell? ⟨lb, d, none⟩ = some (.int .i64 (si : Int)) ∧ wk'.cell? ⟨lb, m, none⟩ = some (.int .i64 (sj : Int)) ∧ wk'.cell? ⟨b, off + si, none⟩ = some (.slice (some ⟨BB si, O si, none⟩) c (C si)) ∧ wk'.cell? ⟨BB si, O si + sj, none⟩ = some (.string u)))
              have HLV := Lib.hid hlv; clear hlv
              go_wp2_with fail
              have hS0 := HKC.out wr.drew (drew_gb wr none)
              refine region_heldK (fun wk' => wk'.cell? ⟨gB, d, none⟩ = some lv ∧ wk'.cell? ⟨lb, d, none⟩ = some (.int .i64 (si : Int)) ∧ wk'.cell? ⟨lb, m, none⟩ = some (.int .i64 (sj : Int)) ∧ wk'.cell? ⟨b, off + si, none⟩ = some (.slice (some ⟨BB si, O si, none⟩) c (C si)) ∧ wk'.cell? ⟨BB si, O si + sj, none⟩ = some (.string u)) 22 (by kernel_rfl) ?_
              refine AnyK.take (i := 0) (v := ?v0) rfl (by kernel_rfl) (by kernel_rfl) (by kernel_rfl) (by kernel_rfl) (by kernel_rfl) (fun _ _ _ h => h) hS0 (Or.inl ⟨by kernel_rfl, ?hy0⟩) ?rest0
              case hy0 => rintro wk ⟨s1, s2, s3, s4, s5⟩; go_simp; try with_reducible rfl
              try simp only [Act.put, List.setIfInBounds_toArray, List.set_cons_zero, List.set_cons_succ]
              refine AnyK.take (i := 1) (v := ?v1) rfl (by kernel_rfl) (by kernel_rfl) (by kernel_rfl) (by kernel_rfl) (by kernel_rfl) (fun _ _ _ h => h) hS0 (Or.inl ⟨by kernel_rfl, ?hy1⟩) ?rest1
              case hy1 => rintro wk ⟨s1, s2, s3, s4, s5⟩; go_simp; try with_reducible rfl
              try simp only [Act.put, List.setIfInBounds_toArray, List.set_cons_zero, List.set_cons_succ]
              refine AnyK.take (i := 2) (v := ?v2) rfl (by kernel_rfl) (by kernel_rfl) (by kernel_rfl) (by kernel_rfl) (by kernel_rfl) (fun _ _ _ h => h) hS0 (Or.inl ⟨by kernel_rfl, ?hy2⟩) ?rest2
              case hy2 => rintro wk ⟨s1, s2, s3, s4, s5⟩; go_simp; try with_reducible rfl
              try simp only [Act.put, List.setIfInBounds_toArray, List.set_cons_zero, List.set_cons_succ]
              refine AnyK.take (i := 3) (v := ?v3) rfl (by kernel_rfl) (by kernel_rfl) (by kernel_rfl) (by kernel_rfl) (by kernel_rfl) (fun _ _ _ h => h) hS0 (Or.inl ⟨by kernel_rfl, ?hy3⟩) ?rest3
              case hy3 => rintro wk ⟨s1, s2, s3, s4, s5⟩; go_simp; try with_reducible rfl
              try simp only [Act.put, List.setIfInBounds_toArray, List.set_cons_zero, List.set_cons_succ]
              refine AnyK.take (i := 4) (v := ?v4) rfl (by kernel_rfl) (by kernel_rfl) (by kernel_rfl) (by kernel_rfl) (by kernel_rfl) (fun _ _ _ h => h) hS0 (Or.inl ⟨by kernel_rfl, ?hy4⟩) ?rest4
              case hy4 => rintro wk ⟨s1, s2, s3, s4, s5⟩; go_simp; try with_reducible rfl
              try simp only [Act.put, List.setIfInBounds_toArray, List.set_cons_zero, List.set_cons_succ]
              refine AnyK.take (i := 5) (v := ?v5) rfl (by kernel_rfl) (by kernel_rfl) (by kernel_rfl) (by kernel_rfl) (by kernel_rfl) (fun _ _ _ h => h) hS0 (Or.inl ⟨by kernel_rfl, ?hy5⟩) ?rest5
              case hy5 => rintro wk ⟨s1, s2, s3, s4, s5⟩; go_simp; try with_reducible rfl
              try simp only [Act.put, List.setIfInBounds_toArray, List.set_cons_zero, List.set_cons_succ]
              refine AnyK.take (i := 6) (v := ?v6) rfl (by kernel_rfl) (by kernel_rfl) (by kernel_rfl) (by kernel_rfl) (by kernel_rfl) (fun _ _ _ h => h) hS0 (Or.inl ⟨by kernel_rfl, ?hy6⟩) ?rest6
              case hy6 => rintro wk ⟨s1, s2, s3, s4, s5⟩; go_simp; try with_reducible rfl
              try simp only [Act.put, List.setIfInBounds_toArray, List.set_cons_zero, List.set_cons_succ]
              refine AnyK.take (i := 7) (v := ?v7) rfl (by kernel_rfl) (by kernel_rfl) (by kernel_rfl) (by kernel_rfl) (by kernel_rfl) (fun _ _ _ h => h) hS0 (Or.inl ⟨by kernel_rfl, ?hy7⟩) ?rest7
              case hy7 => rintro wk ⟨s1, s2, s3, s4, s5⟩; go_simp; try with_reducible rfl
              try simp only [Act.put, List.setIfInBounds_toArray, List.set_cons_zero, List.set_cons_succ]
              refine AnyK.take (i := 8) (v := ?v8) rfl (by kernel_rfl) (by kernel_rfl) (by kernel_rfl) (by kernel_rfl) (by kernel_rfl) (fun _ _ _ h => h) hS0 (Or.inl ⟨by kernel_rfl, ?hy8⟩) ?rest8
              case hy8 => rintro wk ⟨s1, s2, s3, s4, s5⟩; go_simp; try with_reducible rfl
              try simp only [Act.put, List.setIfInBounds_toArray, List.set_cons_zero, List.set_cons_succ]
              refine AnyK.take (i := 9) (v := ?v9) rfl (by kernel_rfl) (by kernel_rfl) (by kernel_rfl) (by kernel_rfl) (by kernel_rfl) (fun _ _ _ h => h) hS0 (Or.inl ⟨by kernel_rfl, ?hy9⟩) ?rest9
              case hy9 => rintro wk ⟨s1, s2, s3, s4, s5⟩; go_simp; try with_reducible rfl
              try simp only [Act.put, List.setIfInBounds_toArray, List.set_cons_zero, List.set_cons_succ]
              refine AnyK.take (i := 10) (v := ?v10) rfl (by kernel_rfl) (by kernel_rfl) (by kernel_rfl) (by kernel_rfl) (by kernel_rfl) (fun _ _ _ h => h) hS0 (Or.inl ⟨by kernel_rfl, ?hy10⟩) ?rest10
              case hy10 => rintro wk ⟨s1, s2, s3, s4, s5⟩; go_simp; try with_reducible rfl
              try simp only [Act.put, List.setIfInBounds_toArray, List.set_cons_zero, List.set_cons_succ]
              refine AnyK.take (i := 11) (v := ?v11) rfl (by kernel_rfl) (by kernel_rfl) (by kernel_rfl) (by kernel_rfl) (by kernel_rfl) (fun _ _ _ h => h) hS0 (Or.inl ⟨by kernel_rfl, ?hy11⟩) ?rest11
              case hy11 => rintro wk ⟨s1, s2, s3, s4, s5⟩; go_simp; try with_reducible rfl
              try simp only [Act.put, List.setIfInBounds_toArray, List.set_cons_zero, List.set_cons_succ]
              refine AnyK.take (i := 12) (v := ?v12) rfl (by kernel_rfl) (by kernel_rfl) (by kernel_rfl) (by kernel_rfl) (by kernel_rfl) (fun _ _ _ h => h) hS0 (Or.inl ⟨by kernel_rfl, ?hy12⟩) ?rest12
              case hy12 => rintro wk ⟨s1, s2, s3, s4, s5⟩; go_simp; try with_reducible rfl
              try simp only [Act.put, List.setIfInBounds_toArray, List.set_cons_zero, List.set_cons_succ]
              refine AnyK.take (i := 13) (v := ?v13) rfl (by kernel_rfl) (by kernel_rfl) (by kernel_rfl) (by kernel_rfl) (by kernel_rfl) (fun _ _ _ h => h) hS0 (Or.inl ⟨by kernel_rfl, ?hy13⟩) ?rest13
              case hy13 => rintro wk ⟨s1, s2, s3, s4, s5⟩; go_simp; try with_reducible rfl
              try simp only [Act.put, List.setIfInBounds_toArray, List.set_cons_zero, List.set_cons_succ]
              refine AnyK.take (i := 14) (v := ?v14) rfl (by kernel_rfl) (by kernel_rfl) (by kernel_rfl) (by kernel_rfl) (by kernel_rfl) (fun _ _ _ h => h) hS0 (Or.inl ⟨by kernel_rfl, ?hy14⟩) ?rest14
              case hy14 => rintro wk ⟨s1, s2, s3, s4, s5⟩; go_simp; try with_reducible rfl
              try simp only [Act.put, List.setIfInBounds_toArray, List.set_cons_zero, List.set_cons_succ]
              refine AnyK.take (i := 15) (v := ?v15) rfl (by kernel_rfl) (by kernel_rfl) (by kernel_rfl) (by kernel_rfl) (by kernel_rfl) (fun _ _ _ h => h) hS0 (Or.inl ⟨by kernel_rfl, ?hy15⟩) ?rest15
              case hy15 => rintro wk ⟨s1, s2, s3, s4, s5⟩; go_simp; try with_reducible rfl
              try simp only [Act.put, List.setIfInBounds_toArray, List.set_cons_zero, List.set_cons_succ]
              refine AnyK.take (i := 16) (v := ?v16) rfl (by kernel_rfl) (by kernel_rfl) (by kernel_rfl) (by kernel_rfl) (by kernel_rfl) (fun _ _ _ h => h) hS0 (Or.inl ⟨by kernel_rfl, ?hy16⟩) ?rest16
              case hy16 => rintro wk ⟨s1, s2, s3, s4, s5⟩; go_simp; try with_reducible rfl
              try simp only [Act.put, List.setIfInBounds_toArray, List.set_cons_zero, List.set_cons_succ]
              refine AnyK.take (i := 17) (v := ?v17) rfl (by kernel_rfl) (by kernel_rfl) (by kernel_rfl) (by kernel_rfl) (by kernel_rfl) (fun _ _ _ h => h) hS0 (Or.inl ⟨by kernel_rfl, ?hy17⟩) ?rest17
              case hy17 => rintro wk ⟨s1, s2, s3, s4, s5⟩; go_simp; try with_reducible rfl
              try simp only [Act.put, List.setIfInBounds_toArray, List.set_cons_zero, List.set_cons_succ]
              refine AnyK.take (i := 18) (v := ?v18) rfl (by kernel_rfl) (by kernel_rfl) (by kernel_rfl) (by kernel_rfl) (by kernel_rfl) (fun _ _ _ h => h) hS0 (Or.inl ⟨by kernel_rfl, ?hy18⟩) ?rest18
              case hy18 => rintro wk ⟨s1, s2, s3, s4, s5⟩; go_simp; try with_reducible rfl
              try simp only [Act.put, List.setIfInBounds_toArray, List.set_cons_zero, List.set_cons_succ]
              refine AnyK.one (i := 19) rfl (by kernel_rfl) (by rfl) (fun K hK => ?_)
              go_simp
              obtain ⟨wz, hwz⟩ : ∃ wz, wz = (wr.alloc (.cells #[.string u] 9)).drew := ⟨_, rfl⟩
              have hga : wr.grownBy wz none := by rw [hwz]; exact gb_drew (World.grownBy_alloc wr _ none)
              have hza : wz.heap.size = wr.heap.size + 1 := by rw [hwz]; simp
              have hnew : wz.cell? ⟨wr.heap.size, 0, none⟩ = some (.string u) := by rw [hwz]; exact cell_new wr _ _ 0 _ rfl
              rw [← hwz]
              have HWZ := Lib.hid hwz; clear hwz
              have hS1 := HKC.out wz hga
              refine hK.out _ _ (.inr hS1) ?_
              clear hK K
              try simp only [Act.put, List.setIfInBounds_toArray, List.set_cons_zero, List.set_cons_succ]
              have hrw : OwS wz gB 9 lv m (X (CSR.swp p q d) |> fun f => fun j => f (CSR.swp p q j)) := by
                have h1 := (HOM.out.kept hga (by simp)).row d hlt
                have h2 : LL c d m d = m := by unfold LL; simp
                rw [← HLV.out, h2] at h1; exact h1
              have HRWZ := Lib.hid hrw; clear hrw
              have hwsz : gB ≤ wz.heap.size := by have := HBW.out.size; have := HGB.out; omega
              refine AnyK.one (i := 20) rfl (by kernel_rfl) (by rfl) (fun K hK => ?_)
              refine wp_append_lies _ (.tmp 53) (.tmp 67) 33 rfl gB 9 i0 (.string ⟨#[]⟩) 1 16 Tryz.underlying33 hi0 hz0 hz1 hz2 rfl (by omega) lv m _ (by simp [Act.eval]) HRWZ.out ⟨wr.heap.size, 0, none⟩ 1 1 [.string u] (by simp [Act.eval]) rfl
                (news1 hnew) (one_str _) (by omega) (by unfold maxLen; omega) (by omega) hwsz _ rfl ?_
              intro go cap' wa hown hgrow hat hlt'
              have hlvl : ∀ k, lv.ownBlock = some k → gB ≤ k ∧ k < wr.heap.size := fun k hk => (HOM.out.rowLt hlt) k (by rw [← HLV.out]; exact hk)
              have hlvg : ∀ k, lv.ownBlock = some k → k ≠ gB := fun k hk => (HOM.out.far d hlt k (by rw [← HLV.out]; exact hk)).1
              have hcw : ∀ (ad : Addr) (x : Value), ad.block < wr.heap.size → (∀ k, lv.ownBlock = some k → k ≠ ad.block) → wr.cell? ad = some x → wa.cell? ad = some x := fun ad x h1 h2 h3 =>
                hgrow.cell (hga.cell h3 (by simp)) (fun e => h2 _ e.symm rfl)
              have hlow : ∀ ad : Addr, ad.block < gB → ∀ k, lv.ownBlock = some k → k ≠ ad.block := fun ad h1 k hk e => by have := (hlvl k hk).1; omega
              have hwrB : gB ≤ wr.heap.size := by have := HBW.out.size; have := HGB.out; omega
              have hS2 : wa.cell? ⟨gB, d, none⟩ = some lv ∧ wa.cell? ⟨lb, d, none⟩ = some (.int .i64 (si : Int)) ∧ wa.cell? ⟨lb, m, none⟩ = some (.int .i64 (sj : Int)) ∧ wa.cell? ⟨b, off + si, none⟩ = some (.slice (some ⟨BB si, O si, none⟩) c (C si)) ∧ wa.cell? ⟨BB si, O si + sj, none⟩ = some (.string u) :=
                ⟨hcw _ _ hgl hlvg s1, hcw _ _ (by show lb < _; omega) (hlow _ hlbB) s2, hcw _ _ (by show lb < _; omega) (hlow _ hlbB) s3, hcw _ _ (by show b < _; omega) (hlow _ hbB) s4, hcw _ _ (by show BB si < _; omega) (hlow _ hBBg) s5⟩
              have hfa : wa.frozen? ⟨gB, d, none⟩ = false := (hgrow.frozen_far ⟨gB, d, none⟩ (by show gB < _; rw [hza]; omega) (fun e => hlvg _ e.symm rfl)).trans ((hga.frozen_far ⟨gB, d, none⟩ hgl (by simp)).trans hfz)
              refine hK.out _ _ (.inr hS2) ?_
              clear hK K
              try simp only [Act.put, List.setIfInBounds_toArray, List.set_cons_zero, List.set_cons_succ]
              refine AnyK.take (i := 21) (v := ?v21) rfl (by kernel_rfl) (by kernel_rfl) (by kernel_rfl) (by kernel_rfl) (by kernel_rfl) (fun _ _ _ h => h) hS2 (Or.inl ⟨by kernel_rfl, ?hy21⟩) ?rest21
              case hy21 => rintro wk ⟨s1, s2, s3, s4, s5⟩; go_simp; try with_reducible rfl
              try simp only [Act.put, List.setIfInBounds_toArray, List.set_cons_zero, List.set_cons_succ]
              have g0 := hS2.1
              refine AnyK.one (i := 22) rfl (by kernel_rfl) (by rfl) (fun K hK => ?_)
              go_simp
              refine hK.out _ _ (.inl rfl) (AnyK.done (by kernel_rfl) ?_ _)
              clear hK K
              go_wp2_with fail
              go_roundw
              case rel =>
                have hst : strs m (fun j => X (CSR.swp p q d) (CSR.swp p q j)) ++ [.string u] = strs m ((fun i j => X (CSR.swp p q i) (CSR.swp p q j)) d) ++ [.string u] := rfl
                obtain ⟨R4, h1, h2⟩ := snoc_step (u := u) HOM.out hlt HNL.out hga hown (by rw [← HLV.out]; exact hgrow) (by rw [← HLV.out]; exact hat)
                refine ⟨m + 1, R4, by omega, by go_num, h1.congr fun i j hi hj => ?_, h2, ?_⟩
                · by_cases e : i = d ∧ j = m
                  · rw [if_pos e, e.1, e.2, HU.out, HSI.out, HSJ.out]
                  · rw [if_neg e]
                · exact (HBW.out.trans ((gb_none hga).mono hwrB) |>.grown hgrow (by omega) (fun k hk => (hlvl k hk).1)).setCell (Nat.le_refl _) _
              case measure => simp [intOf]; omega
            · have hmn : m = c := by omega
              have hgt2 : ¬ ((m : Int) < (c : Int)) := by omega
              have HMN := Lib.hid hmn; clear hmn
              go_wp2_with fail
              go_roundw
              case rel =>
                refine ⟨d + 1, R3, by omega, by go_num, HOM.out.congrL fun l _ => by rw [HMN.out]; exact LL_end l, HNL.out, HBW.out⟩
              case measure => simp [intOf]; omega
        · have hdn : d = c := by omega
          have hgt2 : ¬ ((d : Int) < (c : Int)) := by omega
          have HDN := Lib.hid hdn; clear hdn
          go_wp2_with fail
          go_ret
          refine ⟨_, rfl, (HOM.out.congrL (L' := fun _ => c) fun l hl => by unfold LL; rw [if_pos (by have := HDN.out; omega)]).mt (by unfold maxLen; omega) (by simp), HB2.out.trans (HBW.out.mono (by have h1 := HB2.out.size; have h2 := HGB.out; omega))⟩
end Go.Proofs.YtlmfppjphblemaaGreatDoor
