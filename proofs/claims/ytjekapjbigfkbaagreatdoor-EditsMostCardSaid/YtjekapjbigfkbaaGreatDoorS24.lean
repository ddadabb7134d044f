/- Parts of a proof: EdI. -/
import Derived.RangeFuncNested
import Derived.RangeFuncBound
import Derived.RangeFuncCalls
import Derived.RangeFuncLeaves
import Derived.Shelf.Abstract
import Derived.Shelf.RegionOpen
import Derived.WalkKit
import Derived.OwnWalkIn
import Derived.TacticsInMore
import Derived.LoopNIn
import Derived.LoopIn
import Derived.Test.YtjekapjbigfkbaaGreatDoorS16
import Derived.Test.YtjekapjbigfkbaaGreatDoorS23
namespace Go.Proofs.YtjekapjbigfkbaaGreatDoor
open Go Go.RowKit Go.Deep Go.Shelf
set_option maxRecDepth 100000
set_option linter.unusedSimpArgs false
attribute [local go_sem] Oper.semAt_some
theorem cell_of {w : World} {b : Nat} {c : Array Value} {e : TypeId} {f : Nat × Nat} (h : w.heap[b]? = some (.cells c e f)) (i : Nat) {v : Value} (hv : c[i]? = some v) : w.cell? ⟨b, i, none⟩ = some v := by
  simp [World.cell?, h, hv]
theorem Si.drop {w : World} {a : Option Addr} {n cap : Nat} {x : Nat → Int} (h : Si none w (.slice a n cap) n x) {i : Nat} (hi : i ≤ n) :
    Si none w (.slice (if cap = i then a else a.map (fun p => p.add i)) (n - i) (cap - i)) (n - i) (fun k => x (i + k)) := by
  obtain ⟨a', cap', b, off, hv, ha, hc, hm, hb, hcell⟩ := h.open
  cases hv
  by_cases hn : n - i = 0
  · exact .inl ⟨hn, _, _, by rw [hn], by omega⟩
  · have hci : cap ≠ i := by omega
    rw [if_neg hci]
    obtain rfl := ha (by omega)
    refine .inr ⟨b, off + i, cap - i, ?_, hb (by omega), by omega, by omega, fun k hk => ?_⟩
    · simp [Addr.add]
    · rw [Nat.add_assoc]; exact hcell (i + k) (by omega)
theorem le_of_len {w : World} {v : Value} {n : Nat} {x : Nat → Int} (h : Si none w v n x) : (n : Int) ≤ 9223372036854775807 := by
  obtain ⟨_, _, _, _, _, _, h1, h2, _⟩ := h.open
  unfold maxLen at h2; omega
structure ItM (W : World) (tbb plb tb b off cap : Nat) (M : EM) (A A' : Nat → Option Addr) (C C' : Nat → Nat) (ea : Option Addr) (xv yv : Value) (na nb : Nat) (x y : Nat → Int) (k i j : Nat) : Prop where
  kb : Bx W tbb 62 (.pointer (some ⟨tb, 0, none⟩))
  kp : W.heap[plb]? = some (.cells #[.int .i64 (k : Int), .int .i64 (i : Int), .int .i64 (j : Int)] 70 (0, 0))
  t0 : W.cell? ⟨tb, 0, none⟩ = some (.slice ea M.n cap)
  t2 : W.cell? ⟨tb, 2, none⟩ = some xv
  t3 : W.cell? ⟨tb, 3, none⟩ = some yv
  row : ∀ e, e < M.n → W.cell? ⟨b, off + e * 3, none⟩ = some (.slice (A e) (M.e e).nf (C e)) ∧ W.cell? ⟨b, off + e * 3 + 1, none⟩ = some (.slice (A' e) (M.e e).nt (C' e)) ∧ W.cell? ⟨b, off + e * 3 + 2, none⟩ = some (.string (M.e e).w) ∧
    Si none W (.slice (A e) (M.e e).nf (C e)) (M.e e).nf (M.e e).f ∧ Si none W (.slice (A' e) (M.e e).nt (C' e)) (M.e e).nt (M.e e).t
  sx : Si none W xv na x
  sy : Si none W yv nb y
theorem ItM.fr {W W' : World} {tbb plb tb b off cap na nb k i j : Nat} {M : EM} {A A' : Nat → Option Addr} {C C' : Nat → Nat} {ea : Option Addr} {xv yv : Value} {x y : Nat → Int} (h : ItM W tbb plb tb b off cap M A A' C C' ea xv yv na nb x y k i j) (hf : Fr (fun _ => False) W W') : ItM W' tbb plb tb b off cap M A A' C C' ea xv yv na nb x y k i j := by
  have hg : W.grownBy W' none := Fr.gb (hf.mono (fun _ _ e => e.elim))
  refine ⟨h.kb.kept hf (fun e => e), (hf.block plb (lt_of_block h.kp) (fun e => e)).trans h.kp, hf.cell h.t0 (fun e => e), hf.cell h.t2 (fun e => e), hf.cell h.t3 (fun e => e), fun e he => ?_, h.sx.kept hg, h.sy.kept hg⟩
  obtain ⟨a1, a2, a3, a4, a5⟩ := h.row e he
  exact ⟨hf.cell a1 (fun e => e), hf.cell a2 (fun e => e), hf.cell a3 (fun e => e), a4.kept hg, a5.kept hg⟩
theorem canB_bg {M : EM} {na nb : Nat} {x y : Nat → Int} {k i j : Nat} (hi : i ≤ na) (hj : j ≤ nb) (e : Nat) : canB ⟨M, na, x, nb, y⟩ (k, i, j) e = (bgB (na - i) (M.e e).nf (fun t => x (i + t)) (M.e e).f && bgB (nb - j) (M.e e).nt (fun t => y (j + t)) (M.e e).t) := by
  have h1 : decide (i + (M.e e).nf ≤ na) = decide ((M.e e).nf ≤ na - i) := decide_eq_decide.2 (by omega)
  have h2 : decide (j + (M.e e).nt ≤ nb) = decide ((M.e e).nt ≤ nb - j) := decide_eq_decide.2 (by omega)
  simp only [canB, bgB, h1, h2]
def SR (tbb tb plb eb : Nat) (xv yv k i j f t : Value) (x : ByteArray) (w : World) : Prop :=
  (w.cell? ⟨tbb, 0, none⟩ = some (.pointer (some ⟨tb, 0, none⟩)) ∧ w.cell? ⟨tb, 2, none⟩ = some xv ∧ w.cell? ⟨tb, 3, none⟩ = some yv) ∧
  (w.cell? ⟨plb, 0, none⟩ = some k ∧ w.cell? ⟨plb, 1, none⟩ = some i ∧ w.cell? ⟨plb, 2, none⟩ = some j) ∧
  (w.cell? ⟨eb, 0, none⟩ = some f ∧ w.cell? ⟨eb, 1, none⟩ = some t ∧ w.cell? ⟨eb, 2, none⟩ = some (.string x)) ∧ w.heap[eb]? = some (.cells #[f, t, .string x] 50 (0, 0))
theorem SR.fr {tbb tb plb eb : Nat} {xv yv k i j f t : Value} {x : ByteArray} {w w' : World} (h : SR tbb tb plb eb xv yv k i j f t x w) (hf : Fr (fun _ => False) w w') : SR tbb tb plb eb xv yv k i j f t x w' :=
  ⟨⟨hf.cell h.1.1 (fun e => e), hf.cell h.1.2.1 (fun e => e), hf.cell h.1.2.2 (fun e => e)⟩, ⟨hf.cell h.2.1.1 (fun e => e), hf.cell h.2.1.2.1 (fun e => e), hf.cell h.2.1.2.2 (fun e => e)⟩,
    ⟨hf.cell h.2.2.1.1 (fun e => e), hf.cell h.2.2.1.2.1 (fun e => e), hf.cell h.2.2.1.2.2 (fun e => e)⟩, (hf.block eb (lt_of_block h.2.2.2) (fun e => e)).trans h.2.2.2⟩
abbrev Al (P : EP) (p : Pl) : Type := { e : Nat // e < P.M.n ∧ canB P p e = true }
def encE (M : EM) (A A' : Nat → Option Addr) (C C' : Nat → Nat) (P : EP) (p : Pl) (e : Al P p) : Array Value :=
  #[.agg #[.slice (A e.1) (M.e e.1).nf (C e.1), .slice (A' e.1) (M.e e.1).nt (C' e.1), .string (M.e e.1).w], plV (toP P p e.1).1 (toP P p e.1).2.1 (toP P p e.1).2.2]
theorem nums_len {f : Nat → Bool} : ∀ n, (nums f n).length ≤ n
  | 0 => by simp [nums]
  | n + 1 => by
    have := nums_len (f := f) n
    unfold nums; rw [List.length_append]; split <;> simp <;> omega
theorem edI_len {P : EP} {p : Pl} {pre : List (Al P p)} {q : Nat} (hq : q ≤ P.M.n) (hp : pre.map (·.1) = nums (fun e => canB P p e) q) : pre.length < P.M.n + 1 := by
  have h1 : (pre.map (·.1)).length = pre.length := by simp
  rw [hp] at h1
  have := nums_len (f := fun e => canB P p e) q
  omega
theorem edI_no {P : EP} {p : Pl} {pre : List (Al P p)} {q : Nat} (hq : q < P.M.n) (hp : pre.map (·.1) = nums (fun e => canB P p e) q) (hc : canB P p q = false) {It : Prop} {J : List (Al P p) → Prop} (hj : J pre) (hi : It) :
    (∃ (q' : Nat) (pre' : List (Al P p)), q' ≤ P.M.n ∧ Value.int IntKind.i64 ((q : Int) + 1) = .int .i64 (q' : Int) ∧ pre'.map (·.1) = nums (fun e => canB P p e) q' ∧ J pre' ∧ It) ∧ P.M.n - (intOf (Value.int IntKind.i64 ((q : Int) + 1))).toNat < P.M.n - (intOf (Value.int IntKind.i64 (q : Int))).toNat := by
  refine ⟨⟨q + 1, pre, hq, by simp, ?_, hj, hi⟩, ?_⟩
  · rw [hp]; show _ = nums _ q ++ _; simp only [hc]; simp
  · simp [intOf]; omega
theorem edI_yes {P : EP} {p : Pl} {pre : List (Al P p)} {q : Nat} (hq : q < P.M.n) (hp : pre.map (·.1) = nums (fun e => canB P p e) q) (hc : canB P p q = true) {It : Prop} {J : List (Al P p) → Prop} (hj : J (pre ++ [⟨q, hq, hc⟩])) (hi : It) :
    (∃ (q' : Nat) (pre' : List (Al P p)), q' ≤ P.M.n ∧ Value.int IntKind.i64 ((q : Int) + 1) = .int .i64 (q' : Int) ∧ pre'.map (·.1) = nums (fun e => canB P p e) q' ∧ J pre' ∧ It) ∧ P.M.n - (intOf (Value.int IntKind.i64 ((q : Int) + 1))).toNat < P.M.n - (intOf (Value.int IntKind.i64 (q : Int))).toNat := by
  refine ⟨⟨q + 1, _, hq, by simp, ?_, hj, hi⟩, ?_⟩
  · rw [List.map_append, hp]; show _ = nums _ q ++ _; simp only [hc]; simp
  · simp [intOf]; omega
set_option maxHeartbeats 8000000 in
theorem edits1_stops {tbb plb tb b off cap na nb k i j : Nat} {M : EM} {A A' : Nat → Option Addr} {C C' : Nat → Nat} {ea : Option Addr} {xv yv : Value} {x y : Nat → Int} (nn : Nat) (w0 : World)
    (hI : ItM w0 tbb plb tb b off cap M A A' C C' ea xv yv na nb x y k i j) (ha : 0 < M.n → ea = some ⟨b, off, none⟩) (hn : M.n ≤ 400) (hk9 : k ≤ 1000000) (hin : i ≤ na) (hjn : j ≤ nb) :
    SeqStopsK Fence.wide nn Tryz.prog 130 #[.pointer (some ⟨tbb, 0, none⟩), .pointer (some ⟨plb, 0, none⟩)] (encE M A A' C C' ⟨M, na, x, nb, y⟩ (k, i, j))
      (fun W W' => ItM W tbb plb tb b off cap M A A' C C' ea xv yv na nb x y k i j → ItM W' tbb plb tb b off cap M A A' C C' ea xv yv na nb x y k i j)
      (fun xs => xs.map (·.1) = nums (fun e => canB ⟨M, na, x, nb, y⟩ (k, i, j) e) M.n) (fun _ => True) (M.n + 1) w0 := by
  intro l J Jx W hW hJ hJx hY h0
  have hfW : Fr (fun _ => False) w0 W := Fr.of_below hW
  have hIW := hI.fr hfW
  have c0 := hIW.kb.cell
  have c1 := hIW.t0
  have HA := Lib.hid ha; clear ha
  have HIW := Lib.hid hIW; clear hIW hI hfW
  have HY := Lib.hid hY; clear hY
  have HJ := Lib.hid hJ; clear hJ
  have HJX := Lib.hid hJx; clear hJx
  have H0 := Lib.hid h0; clear h0
  refine callsIn_of_wp Tryz.func130 rfl trivial ?_ rfl
  simp only [Tryz.ntmps130, List.size_toArray, List.length_cons, List.length_nil, Nat.reduceAdd, Nat.reduceSub, Array.replicate_succ, Array.replicate_zero, List.push_toArray, List.append_toArray, List.nil_append, List.cons_append]
  gi_wp2
  clear c0 c1
  gi_loopw [12] (fun v12 wr => ∃ (q : Nat) (pre : List (Al ⟨M, na, x, nb, y⟩ (k, i, j))), q ≤ M.n ∧ v12 = .int .i64 (q : Int) ∧ pre.map (·.1) = nums (fun e => canB ⟨M, na, x, nb, y⟩ (k, i, j) e) q ∧ J pre wr ∧ ItM wr tbb plb tb b off cap M A A' C C' ea xv yv na nb x y k i j) (fun v12 _ => M.n - (intOf v12).toNat)
  case atStart => exact ⟨0, [], Nat.zero_le _, rfl, rfl, H0.out, HIW.out⟩
  case round =>
    obtain ⟨q, pre, hq, rfl, hpre, hj, hit⟩ := hrel
    clear HIW H0
    have HPRE := Lib.hid hpre; clear hpre
    have HJP := Lib.hid hj; clear hj
    have HIT := Lib.hid hit; clear hit
    by_cases hlt : q < M.n
    · have hqz : (q : Int) < (M.n : Int) := by omega
      have hqz0 : (0 : Int) ≤ (q : Int) := by omega
      obtain rfl := HA.out (by omega)
      obtain ⟨k1, k2, k3, k4, k5⟩ := HIT.out.row q hlt
      have HK4 := Lib.hid k4; clear k4
      have HK5 := Lib.hid k5; clear k5
      obtain ⟨ax, cx, bx, ox, hxv, hax, hcx, hcm, hxb, hxc⟩ := HIT.out.sx.open
      obtain ⟨ay, cy, by', oy, hyv, hay, hcy, hcym, hyb, hyc⟩ := HIT.out.sy.open
      have HYV := Lib.hid hyv
      have c0 := HIT.out.kb.cell
      have c2 := HIT.out.t2
      have c3 := HIT.out.t3
      have p0 : wr.cell? ⟨plb, 0, none⟩ = some (.int .i64 (k : Int)) := by simp [World.cell?, HIT.out.kp]
      have p1 : wr.cell? ⟨plb, 1, none⟩ = some (.int .i64 (i : Int)) := by simp [World.cell?, HIT.out.kp]
      have p2 : wr.cell? ⟨plb, 2, none⟩ = some (.int .i64 (j : Int)) := by simp [World.cell?, HIT.out.kp]
      gi_wp2
      obtain ⟨wa, hwa⟩ : ∃ wa, wa = wr.alloc (.cells #[.slice (A q) (M.e q).nf (C q), .slice (A' q) (M.e q).nt (C' q), .string (M.e q).w] 50) := ⟨_, rfl⟩
      obtain ⟨eb, heb⟩ : ∃ eb, eb = wr.heap.size := ⟨_, rfl⟩
      have hga : wr.grownBy wa none := by rw [hwa]; exact World.grownBy_alloc _ _ _
      have hna : wa.heap[eb]? = some (.cells #[.slice (A q) (M.e q).nf (C q), .slice (A' q) (M.e q).nt (C' q), .string (M.e q).w] 50 (0, 0)) := by rw [hwa, heb]; exact heap_alloc_new wr _
      have hnd : wa.drew.heap[eb]? = some (.cells #[.slice (A q) (M.e q).nf (C q), .slice (A' q) (M.e q).nt (C' q), .string (M.e q).w] 50 (0, 0)) := hna
      have hSa : SR tbb tb plb eb (.slice ax na cx) (.slice ay nb cy) (.int .i64 (k : Int)) (.int .i64 (i : Int)) (.int .i64 (j : Int)) (.slice (A q) (M.e q).nf (C q)) (.slice (A' q) (M.e q).nt (C' q)) (M.e q).w wa.drew :=
        ⟨⟨hga.cell c0 (by simp), hxv ▸ hga.cell c2 (by simp), hyv ▸ hga.cell c3 (by simp)⟩, ⟨hga.cell p0 (by simp), hga.cell p1 (by simp), hga.cell p2 (by simp)⟩, ⟨cell_of hnd 0 rfl, cell_of hnd 1 rfl, cell_of hnd 2 rfl⟩, hna⟩
      have hfa : Fr (fun _ => False) wr wa.drew := by rw [hwa]; exact Fr.of_below (((Below.refl wr.heap.size wr).alloc (Nat.le_refl _) _).drew)
      have hga' : wr.grownBy wa.drew none := Fr.gb (hfa.mono (fun _ _ e => e.elim))
      have hb1 := begins_any wa.drew (Si.drop (hxv ▸ HIT.out.sx.kept hga') hin) (HK4.out.kept hga') (le_of_len HK4.out)
      obtain ⟨b1, hb1e⟩ : ∃ b1, b1 = bgB (na - i) (M.e q).nf (fun t => x (i + t)) (M.e q).f := ⟨_, rfl⟩
      obtain ⟨b2, hb2e⟩ : ∃ b2, b2 = bgB (nb - j) (M.e q).nt (fun t => y (j + t)) (M.e q).t := ⟨_, rfl⟩
      have hcan := canB_bg (M := M) (x := x) (y := y) (k := k) hin hjn q
      rw [← hb1e, ← hb2e] at hcan
      rw [← hb1e] at hb1
      have HB1 := Lib.hid hb1; clear hb1
      have HB2E := Lib.hid hb2e; clear hb2e hb1e hga'
      have HCAN := Lib.hid hcan; clear hcan
      have HFA := Lib.hid hfa; clear hfa
      clear c0 c2 c3 p0 p1 p2
      rw [← hwa, ← heb]
      have HWA := Lib.hid hwa; clear hwa
      have HEB := Lib.hid heb; clear heb
      refine region_heldF (SR tbb tb plb eb (.slice ax na cx) (.slice ay nb cy) (.int .i64 (k : Int)) (.int .i64 (i : Int)) (.int .i64 (j : Int)) (.slice (A q) (M.e q).nf (C q)) (.slice (A' q) (M.e q).nt (C' q)) (M.e q).w) 41 (by kernel_rfl) ?_
      refine AnyF.tk (i := 0) (v := ?va0) rfl rfl (by kernel_rfl) hSa (Or.inl ⟨by kernel_rfl, ?hya0⟩) (fun _ _ _ => trivial) ?resta0
      case hya0 => rintro wk ⟨⟨s1, s2, s3⟩, ⟨s4, s5, s6⟩, ⟨s7, s8, s9⟩, s10⟩; go_simp; try with_reducible rfl
      refine AnyF.tk (i := 1) (v := ?va1) rfl rfl (by kernel_rfl) hSa (Or.inl ⟨by kernel_rfl, ?hya1⟩) (fun _ _ _ => trivial) ?resta1
      case hya1 => rintro wk ⟨⟨s1, s2, s3⟩, ⟨s4, s5, s6⟩, ⟨s7, s8, s9⟩, s10⟩; go_simp; try with_reducible rfl
      refine AnyF.tk (i := 2) (v := ?va2) rfl rfl (by kernel_rfl) hSa (Or.inl ⟨by kernel_rfl, ?hya2⟩) (fun _ _ _ => trivial) ?resta2
      case hya2 => rintro wk ⟨⟨s1, s2, s3⟩, ⟨s4, s5, s6⟩, ⟨s7, s8, s9⟩, s10⟩; go_simp; try with_reducible rfl
      refine AnyF.tk (i := 3) (v := ?va3) rfl rfl (by kernel_rfl) hSa (Or.inl ⟨by kernel_rfl, ?hya3⟩) (fun _ _ _ => trivial) ?resta3
      case hya3 => rintro wk ⟨⟨s1, s2, s3⟩, ⟨s4, s5, s6⟩, ⟨s7, s8, s9⟩, s10⟩; go_simp; try with_reducible rfl
      refine AnyF.tk (i := 4) (v := ?va4) rfl rfl (by kernel_rfl) hSa (Or.inl ⟨by kernel_rfl, ?hya4⟩) (fun _ _ _ => trivial) ?resta4
      case hya4 => rintro wk ⟨⟨s1, s2, s3⟩, ⟨s4, s5, s6⟩, ⟨s7, s8, s9⟩, s10⟩; go_simp; try with_reducible rfl
      refine AnyF.tk (i := 5) (v := ?va5) rfl rfl (by kernel_rfl) hSa (Or.inl ⟨by kernel_rfl, ?hya5⟩) (fun _ _ _ => trivial) ?resta5
      case hya5 => rintro wk ⟨⟨s1, s2, s3⟩, ⟨s4, s5, s6⟩, ⟨s7, s8, s9⟩, s10⟩; go_simp; try with_reducible rfl
      try simp only [Act.put, List.setIfInBounds_toArray, List.set_cons_zero, List.set_cons_succ, List.getElem_toArray, List.getElem_cons_succ, List.getElem_cons_zero]
      refine AnyF.tk (i := 6) (v := .slice (if cx = i then ax else ax.map (fun p => p.add i)) (na - i) (cx - i)) rfl rfl (by kernel_rfl) hSa (Or.inl ⟨by kernel_rfl, ?hya6⟩) (fun _ _ _ => trivial) ?_
      case hya6 => rintro wk ⟨⟨s1, s2, s3⟩, ⟨s4, s5, s6⟩, ⟨s7, s8, s9⟩, s10⟩; go_simp
      refine AnyF.tk (i := 7) (v := ?vb7) rfl rfl (by kernel_rfl) hSa (Or.inl ⟨by kernel_rfl, ?hyb7⟩) (fun _ _ _ => trivial) ?restb7
      case hyb7 => rintro wk ⟨⟨s1, s2, s3⟩, ⟨s4, s5, s6⟩, ⟨s7, s8, s9⟩, s10⟩; go_simp; try with_reducible rfl
      refine AnyF.tk (i := 8) (v := ?vb8) rfl rfl (by kernel_rfl) hSa (Or.inl ⟨by kernel_rfl, ?hyb8⟩) (fun _ _ _ => trivial) ?restb8
      case hyb8 => rintro wk ⟨⟨s1, s2, s3⟩, ⟨s4, s5, s6⟩, ⟨s7, s8, s9⟩, s10⟩; go_simp; try with_reducible rfl
      try simp only [Act.put, List.setIfInBounds_toArray, List.set_cons_zero, List.set_cons_succ, List.getElem_toArray, List.getElem_cons_succ, List.getElem_cons_zero]
      refine AnyF.one (i := 9) rfl (by kernel_rfl) (by rfl) (fun K hK => ?_)
      unfold Oper.wpIn
      refine ⟨fun _ _ => trivial, ?_⟩
      rw [show (Fence.wide).round = none from rfl, Oper.semAt_none]
      go_simp
      refine ⟨(fun h => by cases h), callsIn_wide.2 (HB1.out.mono ?_)⟩
      rintro rr w2 ⟨rfl, hb2⟩
      have hf2 : Fr (fun _ => False) wa.drew w2 := Fr.of_below hb2
      have hS2 := hSa.fr hf2
      have HF2 := Lib.hid (HFA.out.trans hf2); clear hf2 hb2
      refine hK.out _ _ (.inr (.inr hS2)) ?_
      clear hK K
      try simp only [Act.put, List.setIfInBounds_toArray, List.set_cons_zero, List.set_cons_succ, List.getElem_toArray, List.getElem_cons_succ, List.getElem_cons_zero]
      refine AnyF.tk (i := 10) (v := ?vc10) rfl rfl (by kernel_rfl) hS2 (Or.inl ⟨by kernel_rfl, ?hyc10⟩) (fun _ _ _ => trivial) ?restc10
      case hyc10 => rintro wk ⟨⟨s1, s2, s3⟩, ⟨s4, s5, s6⟩, ⟨s7, s8, s9⟩, s10⟩; go_simp; try with_reducible rfl
      try simp only [Act.put, List.setIfInBounds_toArray, List.set_cons_zero, List.set_cons_succ, List.getElem_toArray, List.getElem_cons_succ, List.getElem_cons_zero]
      cases b1
      · skip
        refine AnyF.tk (i := 11) (v := undef) rfl rfl (by kernel_rfl) hS2 (Or.inr ⟨by kernel_rfl, rfl⟩) (fun _ _ _ => trivial) ?_
        refine AnyF.tk (i := 12) (v := undef) rfl rfl (by kernel_rfl) hS2 (Or.inr ⟨by kernel_rfl, rfl⟩) (fun _ _ _ => trivial) ?_
        refine AnyF.tk (i := 13) (v := undef) rfl rfl (by kernel_rfl) hS2 (Or.inr ⟨by kernel_rfl, rfl⟩) (fun _ _ _ => trivial) ?_
        refine AnyF.tk (i := 14) (v := undef) rfl rfl (by kernel_rfl) hS2 (Or.inr ⟨by kernel_rfl, rfl⟩) (fun _ _ _ => trivial) ?_
        refine AnyF.tk (i := 15) (v := undef) rfl rfl (by kernel_rfl) hS2 (Or.inr ⟨by kernel_rfl, rfl⟩) (fun _ _ _ => trivial) ?_
        refine AnyF.tk (i := 16) (v := undef) rfl rfl (by kernel_rfl) hS2 (Or.inr ⟨by kernel_rfl, rfl⟩) (fun _ _ _ => trivial) ?_
        refine AnyF.tk (i := 17) (v := undef) rfl rfl (by kernel_rfl) hS2 (Or.inr ⟨by kernel_rfl, rfl⟩) (fun _ _ _ => trivial) ?_
        refine AnyF.tk (i := 18) (v := undef) rfl rfl (by kernel_rfl) hS2 (Or.inr ⟨by kernel_rfl, rfl⟩) (fun _ _ _ => trivial) ?_
        refine AnyF.tk (i := 19) (v := undef) rfl rfl (by kernel_rfl) hS2 (Or.inr ⟨by kernel_rfl, rfl⟩) (fun _ _ _ => trivial) ?_
        refine AnyF.tk (i := 20) (v := undef) rfl rfl (by kernel_rfl) hS2 (Or.inr ⟨by kernel_rfl, rfl⟩) (fun _ _ _ => trivial) ?_
        try simp only [Act.put, List.setIfInBounds_toArray, List.set_cons_zero, List.set_cons_succ, List.getElem_toArray, List.getElem_cons_succ, List.getElem_cons_zero]
        refine AnyF.tk (i := 21) (v := ?vd21) rfl rfl (by kernel_rfl) hS2 (Or.inl ⟨by kernel_rfl, ?hyd21⟩) (fun _ _ _ => trivial) ?restd21
        case hyd21 => rintro wk ⟨⟨s1, s2, s3⟩, ⟨s4, s5, s6⟩, ⟨s7, s8, s9⟩, s10⟩; go_simp; try with_reducible rfl
        refine AnyF.tk (i := 22) (v := ?vd22) rfl rfl (by kernel_rfl) hS2 (Or.inl ⟨by kernel_rfl, ?hyd22⟩) (fun _ _ _ => trivial) ?restd22
        case hyd22 => rintro wk ⟨⟨s1, s2, s3⟩, ⟨s4, s5, s6⟩, ⟨s7, s8, s9⟩, s10⟩; go_simp; try with_reducible rfl
        try simp only [Act.put, List.setIfInBounds_toArray, List.set_cons_zero, List.set_cons_succ, List.getElem_toArray, List.getElem_cons_succ, List.getElem_cons_zero]
        refine AnyF.tk (i := 23) (v := undef) rfl rfl (by kernel_rfl) hS2 (Or.inr ⟨by kernel_rfl, rfl⟩) (fun _ _ _ => trivial) ?_
        refine AnyF.tk (i := 24) (v := undef) rfl rfl (by kernel_rfl) hS2 (Or.inr ⟨by kernel_rfl, rfl⟩) (fun _ _ _ => trivial) ?_
        refine AnyF.tk (i := 25) (v := undef) rfl rfl (by kernel_rfl) hS2 (Or.inr ⟨by kernel_rfl, rfl⟩) (fun _ _ _ => trivial) ?_
        refine AnyF.tk (i := 26) (v := undef) rfl rfl (by kernel_rfl) hS2 (Or.inr ⟨by kernel_rfl, rfl⟩) (fun _ _ _ => trivial) ?_
        refine AnyF.tk (i := 27) (v := undef) rfl rfl (by kernel_rfl) hS2 (Or.inr ⟨by kernel_rfl, rfl⟩) (fun _ _ _ => trivial) ?_
        refine AnyF.tk (i := 28) (v := undef) rfl rfl (by kernel_rfl) hS2 (Or.inr ⟨by kernel_rfl, rfl⟩) (fun _ _ _ => trivial) ?_
        refine AnyF.tk (i := 29) (v := undef) rfl rfl (by kernel_rfl) hS2 (Or.inr ⟨by kernel_rfl, rfl⟩) (fun _ _ _ => trivial) ?_
        refine AnyF.tk (i := 30) (v := undef) rfl rfl (by kernel_rfl) hS2 (Or.inr ⟨by kernel_rfl, rfl⟩) (fun _ _ _ => trivial) ?_
        refine AnyF.tk (i := 31) (v := undef) rfl rfl (by kernel_rfl) hS2 (Or.inr ⟨by kernel_rfl, rfl⟩) (fun _ _ _ => trivial) ?_
        refine AnyF.tk (i := 32) (v := undef) rfl rfl (by kernel_rfl) hS2 (Or.inr ⟨by kernel_rfl, rfl⟩) (fun _ _ _ => trivial) ?_
        refine AnyF.tk (i := 33) (v := undef) rfl rfl (by kernel_rfl) hS2 (Or.inr ⟨by kernel_rfl, rfl⟩) (fun _ _ _ => trivial) ?_
        refine AnyF.tk (i := 34) (v := undef) rfl rfl (by kernel_rfl) hS2 (Or.inr ⟨by kernel_rfl, rfl⟩) (fun _ _ _ => trivial) ?_
        refine AnyF.tk (i := 35) (v := undef) rfl rfl (by kernel_rfl) hS2 (Or.inr ⟨by kernel_rfl, rfl⟩) (fun _ _ _ => trivial) ?_
        refine AnyF.tk (i := 36) (v := undef) rfl rfl (by kernel_rfl) hS2 (Or.inr ⟨by kernel_rfl, rfl⟩) (fun _ _ _ => trivial) ?_
        refine AnyF.tk (i := 37) (v := undef) rfl rfl (by kernel_rfl) hS2 (Or.inr ⟨by kernel_rfl, rfl⟩) (fun _ _ _ => trivial) ?_
        refine AnyF.tk (i := 38) (v := undef) rfl rfl (by kernel_rfl) hS2 (Or.inr ⟨by kernel_rfl, rfl⟩) (fun _ _ _ => trivial) ?_
        refine AnyF.tk (i := 39) (v := undef) rfl rfl (by kernel_rfl) hS2 (Or.inr ⟨by kernel_rfl, rfl⟩) (fun _ _ _ => trivial) ?_
        refine AnyF.tk (i := 40) (v := undef) rfl rfl (by kernel_rfl) hS2 (Or.inr ⟨by kernel_rfl, rfl⟩) (fun _ _ _ => trivial) ?_
        try simp only [Act.put, List.setIfInBounds_toArray, List.set_cons_zero, List.set_cons_succ, List.getElem_toArray, List.getElem_cons_succ, List.getElem_cons_zero]
        refine AnyF.pass (i := 41) rfl (by kernel_rfl) (by rfl) (fun _ _ => trivial) (.inl rfl) ?_
        try simp only [Act.put, List.setIfInBounds_toArray, List.set_cons_zero, List.set_cons_succ, List.getElem_toArray, List.getElem_cons_succ, List.getElem_cons_zero]
        refine AnyF.pass (i := 42) rfl (by kernel_rfl) (by rfl) (fun _ _ => trivial) (.inr (.inl (by rfl))) ?_
        try simp only [Act.put, List.setIfInBounds_toArray, List.set_cons_zero, List.set_cons_succ, List.getElem_toArray, List.getElem_cons_succ, List.getElem_cons_zero]
        refine AnyF.one (i := 43) rfl (by kernel_rfl) (by rfl) (fun K hK => ?_)
        unfold Oper.wpIn
        refine ⟨fun _ _ => trivial, ?_⟩
        rw [show (Fence.wide).round = none from rfl, Oper.semAt_none]
        go_simp
        refine hK.out _ _ (.inr (.inl (by rfl))) (AnyF.done (by kernel_rfl) ?_ _)
        clear hK K
        gi_wp2
        exact edI_no hlt HPRE.out (HCAN.out.trans (by simp)) (J := fun pre => J pre w2) (HJ.out pre wr w2 none HJP.out (Fr.gb (HF2.out.mono (fun _ _ e => e.elim))) (by simp)) (HIT.out.fr HF2.out)
      · skip
        refine AnyF.tk (i := 11) (v := ?vf11) rfl rfl (by kernel_rfl) hS2 (Or.inl ⟨by kernel_rfl, ?hyf11⟩) (fun _ _ _ => trivial) ?restf11
        case hyf11 => rintro wk ⟨⟨s1, s2, s3⟩, ⟨s4, s5, s6⟩, ⟨s7, s8, s9⟩, s10⟩; go_simp; try with_reducible rfl
        refine AnyF.tk (i := 12) (v := ?vf12) rfl rfl (by kernel_rfl) hS2 (Or.inl ⟨by kernel_rfl, ?hyf12⟩) (fun _ _ _ => trivial) ?restf12
        case hyf12 => rintro wk ⟨⟨s1, s2, s3⟩, ⟨s4, s5, s6⟩, ⟨s7, s8, s9⟩, s10⟩; go_simp; try with_reducible rfl
        refine AnyF.tk (i := 13) (v := ?vf13) rfl rfl (by kernel_rfl) hS2 (Or.inl ⟨by kernel_rfl, ?hyf13⟩) (fun _ _ _ => trivial) ?restf13
        case hyf13 => rintro wk ⟨⟨s1, s2, s3⟩, ⟨s4, s5, s6⟩, ⟨s7, s8, s9⟩, s10⟩; go_simp; try with_reducible rfl
        refine AnyF.tk (i := 14) (v := ?vf14) rfl rfl (by kernel_rfl) hS2 (Or.inl ⟨by kernel_rfl, ?hyf14⟩) (fun _ _ _ => trivial) ?restf14
        case hyf14 => rintro wk ⟨⟨s1, s2, s3⟩, ⟨s4, s5, s6⟩, ⟨s7, s8, s9⟩, s10⟩; go_simp; try with_reducible rfl
        refine AnyF.tk (i := 15) (v := ?vf15) rfl rfl (by kernel_rfl) hS2 (Or.inl ⟨by kernel_rfl, ?hyf15⟩) (fun _ _ _ => trivial) ?restf15
        case hyf15 => rintro wk ⟨⟨s1, s2, s3⟩, ⟨s4, s5, s6⟩, ⟨s7, s8, s9⟩, s10⟩; go_simp; try with_reducible rfl
        refine AnyF.tk (i := 16) (v := ?vf16) rfl rfl (by kernel_rfl) hS2 (Or.inl ⟨by kernel_rfl, ?hyf16⟩) (fun _ _ _ => trivial) ?restf16
        case hyf16 => rintro wk ⟨⟨s1, s2, s3⟩, ⟨s4, s5, s6⟩, ⟨s7, s8, s9⟩, s10⟩; go_simp; try with_reducible rfl
        try simp only [Act.put, List.setIfInBounds_toArray, List.set_cons_zero, List.set_cons_succ, List.getElem_toArray, List.getElem_cons_succ, List.getElem_cons_zero]
        refine AnyF.tk (i := 17) (v := .slice (if cy = j then ay else ay.map (fun p => p.add j)) (nb - j) (cy - j)) rfl rfl (by kernel_rfl) hS2 (Or.inl ⟨by kernel_rfl, ?hyf17⟩) (fun _ _ _ => trivial) ?_
        case hyf17 => rintro wk ⟨⟨s1, s2, s3⟩, ⟨s4, s5, s6⟩, ⟨s7, s8, s9⟩, s10⟩; go_simp
        refine AnyF.tk (i := 18) (v := ?vg18) rfl rfl (by kernel_rfl) hS2 (Or.inl ⟨by kernel_rfl, ?hyg18⟩) (fun _ _ _ => trivial) ?restg18
        case hyg18 => rintro wk ⟨⟨s1, s2, s3⟩, ⟨s4, s5, s6⟩, ⟨s7, s8, s9⟩, s10⟩; go_simp; try with_reducible rfl
        refine AnyF.tk (i := 19) (v := ?vg19) rfl rfl (by kernel_rfl) hS2 (Or.inl ⟨by kernel_rfl, ?hyg19⟩) (fun _ _ _ => trivial) ?restg19
        case hyg19 => rintro wk ⟨⟨s1, s2, s3⟩, ⟨s4, s5, s6⟩, ⟨s7, s8, s9⟩, s10⟩; go_simp; try with_reducible rfl
        try simp only [Act.put, List.setIfInBounds_toArray, List.set_cons_zero, List.set_cons_succ, List.getElem_toArray, List.getElem_cons_succ, List.getElem_cons_zero]
        have hg2' : wr.grownBy w2 none := Fr.gb (HF2.out.mono (fun _ _ e => e.elim))
        have hb2 := begins_any w2 (Si.drop (HYV.out ▸ HIT.out.sy.kept hg2') hjn) (HK5.out.kept hg2') (le_of_len HK5.out)
        rw [← HB2E.out] at hb2
        have HB2 := Lib.hid hb2; clear hb2 hg2'
        refine AnyF.one (i := 20) rfl (by kernel_rfl) (by rfl) (fun K hK => ?_)
        unfold Oper.wpIn
        refine ⟨fun _ _ => trivial, ?_⟩
        rw [show (Fence.wide).round = none from rfl, Oper.semAt_none]
        go_simp
        refine ⟨(fun h => by cases h), callsIn_wide.2 (HB2.out.mono ?_)⟩
        rintro rr w3 ⟨rfl, hb3⟩
        have hf3 : Fr (fun _ => False) w2 w3 := Fr.of_below hb3
        have hS3 := hS2.fr hf3
        clear hS2
        have HF3 := Lib.hid (HF2.out.trans hf3); clear hf3 hb3
        refine hK.out _ _ (.inr (.inr hS3)) ?_
        clear hK K
        try simp only [Act.put, List.setIfInBounds_toArray, List.set_cons_zero, List.set_cons_succ, List.getElem_toArray, List.getElem_cons_succ, List.getElem_cons_zero]
        refine AnyF.tk (i := 21) (v := ?vh21) rfl rfl (by kernel_rfl) hS3 (Or.inl ⟨by kernel_rfl, ?hyh21⟩) (fun _ _ _ => trivial) ?resth21
        case hyh21 => rintro wk ⟨⟨s1, s2, s3⟩, ⟨s4, s5, s6⟩, ⟨s7, s8, s9⟩, s10⟩; go_simp; try with_reducible rfl
        refine AnyF.tk (i := 22) (v := ?vh22) rfl rfl (by kernel_rfl) hS3 (Or.inl ⟨by kernel_rfl, ?hyh22⟩) (fun _ _ _ => trivial) ?resth22
        case hyh22 => rintro wk ⟨⟨s1, s2, s3⟩, ⟨s4, s5, s6⟩, ⟨s7, s8, s9⟩, s10⟩; go_simp; try with_reducible rfl
        try simp only [Act.put, List.setIfInBounds_toArray, List.set_cons_zero, List.set_cons_succ, List.getElem_toArray, List.getElem_cons_succ, List.getElem_cons_zero]
        cases b2
        · skip
          refine AnyF.tk (i := 23) (v := undef) rfl rfl (by kernel_rfl) hS3 (Or.inr ⟨by kernel_rfl, rfl⟩) (fun _ _ _ => trivial) ?_
          refine AnyF.tk (i := 24) (v := undef) rfl rfl (by kernel_rfl) hS3 (Or.inr ⟨by kernel_rfl, rfl⟩) (fun _ _ _ => trivial) ?_
          refine AnyF.tk (i := 25) (v := undef) rfl rfl (by kernel_rfl) hS3 (Or.inr ⟨by kernel_rfl, rfl⟩) (fun _ _ _ => trivial) ?_
          refine AnyF.tk (i := 26) (v := undef) rfl rfl (by kernel_rfl) hS3 (Or.inr ⟨by kernel_rfl, rfl⟩) (fun _ _ _ => trivial) ?_
          refine AnyF.tk (i := 27) (v := undef) rfl rfl (by kernel_rfl) hS3 (Or.inr ⟨by kernel_rfl, rfl⟩) (fun _ _ _ => trivial) ?_
          refine AnyF.tk (i := 28) (v := undef) rfl rfl (by kernel_rfl) hS3 (Or.inr ⟨by kernel_rfl, rfl⟩) (fun _ _ _ => trivial) ?_
          refine AnyF.tk (i := 29) (v := undef) rfl rfl (by kernel_rfl) hS3 (Or.inr ⟨by kernel_rfl, rfl⟩) (fun _ _ _ => trivial) ?_
          refine AnyF.tk (i := 30) (v := undef) rfl rfl (by kernel_rfl) hS3 (Or.inr ⟨by kernel_rfl, rfl⟩) (fun _ _ _ => trivial) ?_
          refine AnyF.tk (i := 31) (v := undef) rfl rfl (by kernel_rfl) hS3 (Or.inr ⟨by kernel_rfl, rfl⟩) (fun _ _ _ => trivial) ?_
          refine AnyF.tk (i := 32) (v := undef) rfl rfl (by kernel_rfl) hS3 (Or.inr ⟨by kernel_rfl, rfl⟩) (fun _ _ _ => trivial) ?_
          refine AnyF.tk (i := 33) (v := undef) rfl rfl (by kernel_rfl) hS3 (Or.inr ⟨by kernel_rfl, rfl⟩) (fun _ _ _ => trivial) ?_
          refine AnyF.tk (i := 34) (v := undef) rfl rfl (by kernel_rfl) hS3 (Or.inr ⟨by kernel_rfl, rfl⟩) (fun _ _ _ => trivial) ?_
          refine AnyF.tk (i := 35) (v := undef) rfl rfl (by kernel_rfl) hS3 (Or.inr ⟨by kernel_rfl, rfl⟩) (fun _ _ _ => trivial) ?_
          refine AnyF.tk (i := 36) (v := undef) rfl rfl (by kernel_rfl) hS3 (Or.inr ⟨by kernel_rfl, rfl⟩) (fun _ _ _ => trivial) ?_
          refine AnyF.tk (i := 37) (v := undef) rfl rfl (by kernel_rfl) hS3 (Or.inr ⟨by kernel_rfl, rfl⟩) (fun _ _ _ => trivial) ?_
          refine AnyF.tk (i := 38) (v := undef) rfl rfl (by kernel_rfl) hS3 (Or.inr ⟨by kernel_rfl, rfl⟩) (fun _ _ _ => trivial) ?_
          refine AnyF.tk (i := 39) (v := undef) rfl rfl (by kernel_rfl) hS3 (Or.inr ⟨by kernel_rfl, rfl⟩) (fun _ _ _ => trivial) ?_
          refine AnyF.tk (i := 40) (v := undef) rfl rfl (by kernel_rfl) hS3 (Or.inr ⟨by kernel_rfl, rfl⟩) (fun _ _ _ => trivial) ?_
          try simp only [Act.put, List.setIfInBounds_toArray, List.set_cons_zero, List.set_cons_succ, List.getElem_toArray, List.getElem_cons_succ, List.getElem_cons_zero]
          refine AnyF.pass (i := 41) rfl (by kernel_rfl) (by rfl) (fun _ _ => trivial) (.inl rfl) ?_
          try simp only [Act.put, List.setIfInBounds_toArray, List.set_cons_zero, List.set_cons_succ, List.getElem_toArray, List.getElem_cons_succ, List.getElem_cons_zero]
          refine AnyF.pass (i := 42) rfl (by kernel_rfl) (by rfl) (fun _ _ => trivial) (.inr (.inl (by rfl))) ?_
          try simp only [Act.put, List.setIfInBounds_toArray, List.set_cons_zero, List.set_cons_succ, List.getElem_toArray, List.getElem_cons_succ, List.getElem_cons_zero]
          refine AnyF.one (i := 43) rfl (by kernel_rfl) (by rfl) (fun K hK => ?_)
          unfold Oper.wpIn
          refine ⟨fun _ _ => trivial, ?_⟩
          rw [show (Fence.wide).round = none from rfl, Oper.semAt_none]
          go_simp
          refine hK.out _ _ (.inr (.inl (by rfl))) (AnyF.done (by kernel_rfl) ?_ _)
          clear hK K
          gi_wp2
          exact edI_no hlt HPRE.out (HCAN.out.trans (by simp)) (J := fun pre => J pre w3) (HJ.out pre wr w3 none HJP.out (Fr.gb (HF3.out.mono (fun _ _ e => e.elim))) (by simp)) (HIT.out.fr HF3.out)
        · skip
          obtain ⟨fn, tmps, assign, body, hy, hR⟩ := HY.out pre ⟨q, hlt, HCAN.out.trans (by simp)⟩ w3 (HJ.out pre wr w3 none HJP.out (Fr.gb (HF3.out.mono (fun _ _ e => e.elim))) (by simp)) (edI_len hq HPRE.out)
          simp only [encE, toP, plV, Int.natCast_add, Int.natCast_one] at hy
          have hbb := canB_iff.1 (HCAN.out.trans (by simp))
          have hb1 : i + (M.e q).nf ≤ na := hbb.1.1
          have hb2 : j + (M.e q).nt ≤ nb := hbb.2.1
          unfold maxLen at hcm hcym
          have hw1 : IntKind.i64.wrap ((k : Int) + 1) = (k : Int) + 1 := by rw [IntKind.wrap_i64]; omega
          have hw2 : IntKind.i64.wrap ((i : Int) + ((M.e q).nf : Int)) = (i : Int) + ((M.e q).nf : Int) := by rw [IntKind.wrap_i64]; omega
          have hw3 : IntKind.i64.wrap ((j : Int) + ((M.e q).nt : Int)) = (j : Int) + ((M.e q).nt : Int) := by rw [IntKind.wrap_i64]; omega
          clear hbb hb1 hb2
          refine AnyF.tk (i := 23) (v := ?vi23) rfl rfl (by kernel_rfl) hS3 (Or.inl ⟨by kernel_rfl, ?hyi23⟩) (fun _ _ _ => trivial) ?resti23
          case hyi23 => rintro wk ⟨⟨s1, s2, s3⟩, ⟨s4, s5, s6⟩, ⟨s7, s8, s9⟩, s10⟩; go_simp; try with_reducible rfl
          refine AnyF.tk (i := 24) (v := ?vi24) rfl rfl (by kernel_rfl) hS3 (Or.inl ⟨by kernel_rfl, ?hyi24⟩) (fun _ _ _ => trivial) ?resti24
          case hyi24 => rintro wk ⟨⟨s1, s2, s3⟩, ⟨s4, s5, s6⟩, ⟨s7, s8, s9⟩, s10⟩; go_simp; try with_reducible rfl
          refine AnyF.tk (i := 25) (v := ?vi25) rfl rfl (by kernel_rfl) hS3 (Or.inl ⟨by kernel_rfl, ?hyi25⟩) (fun _ _ _ => trivial) ?resti25
          case hyi25 => rintro wk ⟨⟨s1, s2, s3⟩, ⟨s4, s5, s6⟩, ⟨s7, s8, s9⟩, s10⟩; go_simp; try with_reducible rfl
          refine AnyF.tk (i := 26) (v := ?vi26) rfl rfl (by kernel_rfl) hS3 (Or.inl ⟨by kernel_rfl, ?hyi26⟩) (fun _ _ _ => trivial) ?resti26
          case hyi26 => rintro wk ⟨⟨s1, s2, s3⟩, ⟨s4, s5, s6⟩, ⟨s7, s8, s9⟩, s10⟩; go_simp; try with_reducible rfl
          refine AnyF.tk (i := 27) (v := ?vi27) rfl rfl (by kernel_rfl) hS3 (Or.inl ⟨by kernel_rfl, ?hyi27⟩) (fun _ _ _ => trivial) ?resti27
          case hyi27 => rintro wk ⟨⟨s1, s2, s3⟩, ⟨s4, s5, s6⟩, ⟨s7, s8, s9⟩, s10⟩; go_simp; try with_reducible rfl
          refine AnyF.tk (i := 28) (v := ?vi28) rfl rfl (by kernel_rfl) hS3 (Or.inl ⟨by kernel_rfl, ?hyi28⟩) (fun _ _ _ => trivial) ?resti28
          case hyi28 => rintro wk ⟨⟨s1, s2, s3⟩, ⟨s4, s5, s6⟩, ⟨s7, s8, s9⟩, s10⟩; go_simp; try with_reducible rfl
          refine AnyF.tk (i := 29) (v := ?vi29) rfl rfl (by kernel_rfl) hS3 (Or.inl ⟨by kernel_rfl, ?hyi29⟩) (fun _ _ _ => trivial) ?resti29
          case hyi29 => rintro wk ⟨⟨s1, s2, s3⟩, ⟨s4, s5, s6⟩, ⟨s7, s8, s9⟩, s10⟩; go_simp; try with_reducible rfl
          refine AnyF.tk (i := 30) (v := ?vi30) rfl rfl (by kernel_rfl) hS3 (Or.inl ⟨by kernel_rfl, ?hyi30⟩) (fun _ _ _ => trivial) ?resti30
          case hyi30 => rintro wk ⟨⟨s1, s2, s3⟩, ⟨s4, s5, s6⟩, ⟨s7, s8, s9⟩, s10⟩; go_simp; try with_reducible rfl
          refine AnyF.tk (i := 31) (v := ?vi31) rfl rfl (by kernel_rfl) hS3 (Or.inl ⟨by kernel_rfl, ?hyi31⟩) (fun _ _ _ => trivial) ?resti31
          case hyi31 => rintro wk ⟨⟨s1, s2, s3⟩, ⟨s4, s5, s6⟩, ⟨s7, s8, s9⟩, s10⟩; go_simp; try with_reducible rfl
          refine AnyF.tk (i := 32) (v := ?vi32) rfl rfl (by kernel_rfl) hS3 (Or.inl ⟨by kernel_rfl, ?hyi32⟩) (fun _ _ _ => trivial) ?resti32
          case hyi32 => rintro wk ⟨⟨s1, s2, s3⟩, ⟨s4, s5, s6⟩, ⟨s7, s8, s9⟩, s10⟩; go_simp; try with_reducible rfl
          refine AnyF.tk (i := 33) (v := ?vi33) rfl rfl (by kernel_rfl) hS3 (Or.inl ⟨by kernel_rfl, ?hyi33⟩) (fun _ _ _ => trivial) ?resti33
          case hyi33 => rintro wk ⟨⟨s1, s2, s3⟩, ⟨s4, s5, s6⟩, ⟨s7, s8, s9⟩, s10⟩; go_simp; try with_reducible rfl
          refine AnyF.tk (i := 34) (v := ?vi34) rfl rfl (by kernel_rfl) hS3 (Or.inl ⟨by kernel_rfl, ?hyi34⟩) (fun _ _ _ => trivial) ?resti34
          case hyi34 => rintro wk ⟨⟨s1, s2, s3⟩, ⟨s4, s5, s6⟩, ⟨s7, s8, s9⟩, s10⟩; go_simp; try with_reducible rfl
          refine AnyF.tk (i := 35) (v := ?vi35) rfl rfl (by kernel_rfl) hS3 (Or.inl ⟨by kernel_rfl, ?hyi35⟩) (fun _ _ _ => trivial) ?resti35
          case hyi35 => rintro wk ⟨⟨s1, s2, s3⟩, ⟨s4, s5, s6⟩, ⟨s7, s8, s9⟩, s10⟩; go_simp; try with_reducible rfl
          refine AnyF.tk (i := 36) (v := ?vi36) rfl rfl (by kernel_rfl) hS3 (Or.inl ⟨by kernel_rfl, ?hyi36⟩) (fun _ _ _ => trivial) ?resti36
          case hyi36 => rintro wk ⟨⟨s1, s2, s3⟩, ⟨s4, s5, s6⟩, ⟨s7, s8, s9⟩, s10⟩; go_simp; try with_reducible rfl
          refine AnyF.tk (i := 37) (v := ?vi37) rfl rfl (by kernel_rfl) hS3 (Or.inl ⟨by kernel_rfl, ?hyi37⟩) (fun _ _ _ => trivial) ?resti37
          case hyi37 => rintro wk ⟨⟨s1, s2, s3⟩, ⟨s4, s5, s6⟩, ⟨s7, s8, s9⟩, s10⟩; go_simp; try with_reducible rfl
          refine AnyF.tk (i := 38) (v := ?vi38) rfl rfl (by kernel_rfl) hS3 (Or.inl ⟨by kernel_rfl, ?hyi38⟩) (fun _ _ _ => trivial) ?resti38
          case hyi38 => rintro wk ⟨⟨s1, s2, s3⟩, ⟨s4, s5, s6⟩, ⟨s7, s8, s9⟩, s10⟩; go_simp; try with_reducible rfl
          refine AnyF.tk (i := 39) (v := ?vi39) rfl rfl (by kernel_rfl) hS3 (Or.inl ⟨by kernel_rfl, ?hyi39⟩) (fun _ _ _ => trivial) ?resti39
          case hyi39 => rintro wk ⟨⟨s1, s2, s3⟩, ⟨s4, s5, s6⟩, ⟨s7, s8, s9⟩, s10⟩; go_simp; try with_reducible rfl
          refine AnyF.tk (i := 40) (v := ?vi40) rfl rfl (by kernel_rfl) hS3 (Or.inl ⟨by kernel_rfl, ?hyi40⟩) (fun _ _ _ => trivial) ?resti40
          case hyi40 => rintro wk ⟨⟨s1, s2, s3⟩, ⟨s4, s5, s6⟩, ⟨s7, s8, s9⟩, s10⟩; go_simp; try with_reducible rfl
          try simp only [Act.put, List.setIfInBounds_toArray, List.set_cons_zero, List.set_cons_succ, List.getElem_toArray, List.getElem_cons_succ, List.getElem_cons_zero]
          refine AnyF.one (i := 41) rfl (by kernel_rfl) (by rfl) (fun K hK => ?_)
          unfold Oper.wpIn
          refine ⟨fun _ _ => trivial, ?_⟩
          rw [show (Fence.wide).round = none from rfl, Oper.semAt_none]
          go_simp
          refine ⟨(fun h => by cases h), hR.mono ?_⟩
          rintro e w5 (⟨rfl, hj5, hkp5⟩ | ⟨rfl, hjx5⟩)
          · have HJ5 := Lib.hid hj5; clear hj5
            have HI5 := Lib.hid (hkp5 (HIT.out.fr HF3.out)); clear hkp5
            refine hK.out _ _ (.inl rfl) ?_
            clear hK K
            try simp only [Act.put, List.setIfInBounds_toArray, List.set_cons_zero, List.set_cons_succ, List.getElem_toArray, List.getElem_cons_succ, List.getElem_cons_zero]
            refine AnyF.one (i := 42) rfl (by kernel_rfl) (by rfl) (fun K hK => ?_)
            unfold Oper.wpIn
            refine ⟨fun _ _ => trivial, ?_⟩
            rw [show (Fence.wide).round = none from rfl, Oper.semAt_none]
            go_simp
            refine hK.out _ _ (.inr (.inl (by rfl))) ?_
            clear hK K
            try simp only [Act.put, List.setIfInBounds_toArray, List.set_cons_zero, List.set_cons_succ, List.getElem_toArray, List.getElem_cons_succ, List.getElem_cons_zero]
            refine AnyF.one (i := 43) rfl (by kernel_rfl) (by rfl) (fun K hK => ?_)
            unfold Oper.wpIn
            refine ⟨fun _ _ => trivial, ?_⟩
            rw [show (Fence.wide).round = none from rfl, Oper.semAt_none]
            go_simp
            refine hK.out _ _ (.inr (.inl (by rfl))) (AnyF.done (by kernel_rfl) ?_ _)
            clear hK K
            gi_wp2
            exact edI_yes hlt HPRE.out (HCAN.out.trans (by simp)) (J := fun pre => J pre w5) HJ5.out HI5.out
          · have HJX5 := Lib.hid hjx5; clear hjx5
            refine hK.out _ _ (.inl rfl) ?_
            clear hK K
            try simp only [Act.put, List.setIfInBounds_toArray, List.set_cons_zero, List.set_cons_succ, List.getElem_toArray, List.getElem_cons_succ, List.getElem_cons_zero]
            refine AnyF.one (i := 42) rfl (by kernel_rfl) (by rfl) (fun K hK => ?_)
            unfold Oper.wpIn
            refine ⟨fun _ _ => trivial, ?_⟩
            rw [show (Fence.wide).round = none from rfl, Oper.semAt_none]
            go_simp
            refine hK.out _ _ (.inr (.inl (by rfl))) ?_
            clear hK K
            try simp only [Act.put, List.setIfInBounds_toArray, List.set_cons_zero, List.set_cons_succ, List.getElem_toArray, List.getElem_cons_succ, List.getElem_cons_zero]
            refine AnyF.one (i := 43) rfl (by kernel_rfl) (by rfl) (fun K hK => ?_)
            unfold Oper.wpIn
            refine ⟨fun _ _ => trivial, ?_⟩
            rw [show (Fence.wide).round = none from rfl, Oper.semAt_none]
            go_simp
            refine hK.out _ _ (.inr (.inl (by rfl))) (AnyF.done (by kernel_rfl) ?_ _)
            clear hK K
            gi_wp2
            all_goals refine bodyPost_ret (results_none rfl _ _ _) rfl ?_
            all_goals exact ⟨⟨_, rfl⟩, .inr ⟨_, HJX5.out⟩⟩
    · obtain rfl : q = M.n := by omega
      gi_wp2
      go_end0
      exact ⟨⟨_, rfl⟩, .inl ⟨pre, HPRE.out, HJP.out⟩⟩
end Go.Proofs.YtjekapjbigfkbaaGreatDoor
