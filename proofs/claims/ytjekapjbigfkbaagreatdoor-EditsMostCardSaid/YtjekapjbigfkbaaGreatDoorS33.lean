/- Parts of a proof: EdB EdR RegI. -/
import Derived.Test.YtjekapjbigfkbaaGreatDoorS32
import Derived.Maps.Own
import Derived.Maps.Views
import Derived.Test.YtjekapjbigfkbaaGreatDoorS20
import Derived.Test.YtjekapjbigfkbaaGreatDoorS19
import Derived.Deep.RegionHeld2
import Derived.WalkKit
import Derived.OwnWalk
namespace Go.Proofs.YtjekapjbigfkbaaGreatDoor
open Go Go.RowKit Go.Deep
set_option maxRecDepth 100000
set_option linter.unusedSimpArgs false
def memB (n : Nat) (x : Nat → Int) (s : Int) : Bool := (List.range n).any fun j => x j == s
theorem memB_succ (n : Nat) (x : Nat → Int) (s : Int) : memB (n + 1) x s = (memB n x s || x n == s) := by simp [memB, List.range_succ]
def nodB (n : Nat) (x : Nat → Int) : Bool := (List.range n).all fun i => !memB i x (x i)
theorem nodB_iff {n : Nat} {x : Nat → Int} : nodB n x = true ↔ ∀ i, i < n → memB i x (x i) = false := by simp [nodB]
def cstB (w : ByteArray) : Bool := decide (w = ⟨#[]⟩) || costB w
def okS (n : Nat) (x : Nat → Int) (ci cr cp cs : ByteArray) (most : Int) : Bool := (wordB n x 500 && nodB n x) && ((cstB ci && cstB cr) && (cstB cp && cstB cs)) && (decide (0 ≤ most) && decide (most ≤ 6))
def zeroE : EM := ⟨0, fun _ => insD 0, 0⟩
def simR (n : Nat) (x : Nat → Int) (ci cr cp cs : ByteArray) (most : Int) : EM × Nat :=
  if okS n x ci cr cp cs most = false then (zeroE, 1) else if 400 < (simE n x ci cr cp cs most).n then (zeroE, 2) else (simE n x ci cr cp cs most, 0)
def NewR (z : EM × Nat) (w : World) (r : Ending) (w' : World) : Prop := Below w.heap.size w w' ∧ ∃ sv, r = .returned (.tuple #[.agg #[sv, .int .i64 z.1.most], .int .i64 (z.2 : Int)]) ∧ EdS none w' sv z.1
def MpI (w : World) (pb q : Nat) (x : Nat → Int) : Prop := ∃ D : DataW Unit, w.ownsMap Tryz.prog 3 (plainElem Tryz.prog 4) pb q D ∧ Maps.IsMap D ∧ ∀ s : Int, D.atKey (.int .i64 s) (.lit (.bool false)) = .lit (.bool (memB q x s))
theorem kInt : Maps.Keyed Tryz.prog 3 := Maps.int_keyed Tryz.underlying3
theorem keyI {s : Int} (h1 : 1 ≤ s) (h2 : s ≤ 500) : keyOf Tryz.prog 3 (.int .i64 s) = some (.int .i64 s) := Maps.keyOf_int_mk Tryz.underlying3 (by simp [Lit.wf, IntKind.min, IntKind.max, IntKind.signed, IntKind.bits]; omega)
theorem zeroB (w : World) : (zeroValue 4).run Tryz.prog w = .ok (.bool false) w := by kernel_rfl
theorem plainB_inv {v : Value} {b : Bool} {ps : List MemPlace} (h : plainElem (H := Unit) Tryz.prog 4 v = some (.lit (.bool b), ps)) : v = .bool b := by
  unfold plainElem at h
  rw [Tryz.underlying4] at h
  cases v <;> simp at h
  rw [h.1]
theorem MpI.made (w : World) (x : Nat → Int) : MpI (w.alloc (.map #[] 0)) w.heap.size 0 x := ⟨.map [], World.ownsMap_made w _ _ _, ⟨[], rfl⟩, fun _ => rfl⟩
theorem MpI.kept {w w' : World} {pb q : Nat} {x : Nat → Int} {C : Nat → Prop} (h : MpI w pb q x) (hf : Fr C w w') (hc : ¬ C pb) : MpI w' pb q x := by
  obtain ⟨D, ⟨es, clock, hb, h1⟩, h2, h3⟩ := h
  exact ⟨D, ⟨es, clock, (hf.block pb (Array.getElem?_eq_some_iff.1 hb).1 hc).trans hb, h1⟩, h2, h3⟩
theorem MpI.look {w : World} {pb q : Nat} {x : Nat → Int} (h : MpI w pb q x) {s : Int} (h1 : 1 ≤ s) (h2 : s ≤ 500) : (Instr.lookup 99 (.map (some pb)) (.int .i64 s) false).run Tryz.prog w = .ok (.bool (memB q x s)) w := by
  obtain ⟨D, ho, _, hD⟩ := h
  obtain ⟨v, ps, hr, hv⟩ := ho.lookup kInt Tryz.underlying99 (zeroB w) (plainElem_bool Tryz.underlying4 false) (keyI h1 h2)
  rw [hD s] at hv
  rw [hr, plainB_inv hv]
theorem MpI.block {w : World} {pb q : Nat} {x : Nat → Int} (h : MpI w pb q x) {b : Nat} {c : Array Value} {t : TypeId} {f : Nat × Nat} (hb : w.heap[b]? = some (.cells c t f)) : b ≠ pb := by
  obtain ⟨D, ⟨es, clock, hp, _⟩, _⟩ := h
  rintro rfl; rw [hb] at hp; cases hp
theorem MpI.put {w1 : World} {pb q : Nat} {x : Nat → Int} {D : DataW Unit} (hm : Maps.IsMap D) (hD : ∀ s : Int, D.atKey (.int .i64 s) (.lit (.bool false)) = .lit (.bool (memB q x s))) (h1 : w1.ownsMap Tryz.prog 3 (plainElem Tryz.prog 4) pb (q + 1) (D.put (.int .i64 (x q)) (.lit (.bool true)))) : MpI w1 pb (q + 1) x := by
  refine ⟨_, h1, hm.put _ _, fun s => ?_⟩
  rw [memB_succ]
  by_cases e : s = x q
  · subst e
    rw [Maps.atKey_put_same hm (by trivial)]; simp
  · rw [Maps.atKey_put_other (fun h => e (by simpa using h)), hD s]
    simp [show (x q == s) = false by simpa using fun h => e h.symm]
def W4 (ci cr cp cs : ByteArray) (i : Nat) : ByteArray := if i = 0 then ci else if i = 1 then cr else if i = 2 then cp else cs
theorem idx40 (ci cr cp cs : ByteArray) (w : World) : (Instr.index 100 (.agg #[.string ci, .string cr, .string cp, .string cs]) (.int .i64 0)).run Tryz.prog w = .ok (.string ci) w := by kernel_rfl
theorem idx41 (ci cr cp cs : ByteArray) (w : World) : (Instr.index 100 (.agg #[.string ci, .string cr, .string cp, .string cs]) (.int .i64 1)).run Tryz.prog w = .ok (.string cr) w := by kernel_rfl
theorem idx42 (ci cr cp cs : ByteArray) (w : World) : (Instr.index 100 (.agg #[.string ci, .string cr, .string cp, .string cs]) (.int .i64 2)).run Tryz.prog w = .ok (.string cp) w := by kernel_rfl
theorem idx43 (ci cr cp cs : ByteArray) (w : World) : (Instr.index 100 (.agg #[.string ci, .string cr, .string cp, .string cs]) (.int .i64 3)).run Tryz.prog w = .ok (.string cs) w := by kernel_rfl
theorem idx4 (ci cr cp cs : ByteArray) {q : Nat} (hq : q < 4) (w : World) : (Instr.index 100 (.agg #[.string ci, .string cr, .string cp, .string cs]) (.int .i64 (q : Int))).run Tryz.prog w = .ok (.string (W4 ci cr cp cs q)) w := by
  have : q = 0 ∨ q = 1 ∨ q = 2 ∨ q = 3 := by omega
  rcases this with rfl | rfl | rfl | rfl
  · exact idx40 ci cr cp cs w
  · exact idx41 ci cr cp cs w
  · exact idx42 ci cr cp cs w
  · exact idx43 ci cr cp cs w
theorem bxe_set {w : World} {b : Nat} {sv sv' : Value} {mo mo' : Int} (h : BxE w b sv mo) : BxE ((w.setCell ⟨b, 0, none⟩ sv').setCell ⟨b, 0 + 1, none⟩ (.int .i64 mo')) b sv' mo' := by
  unfold BxE at h ⊢; simp [World.setCell, Array.getElem?_modify, h]
theorem bxe_zero {w : World} {b : Nat} (h : BxE w b (.slice none 0 0) 0) : BxE ((w.setCell ⟨b, 0, none⟩ (.slice none 0 0)).setCell ⟨b, 0 + 1, none⟩ (.int .i64 0)) b (.slice none 0 0) zeroE.most := bxe_set h
theorem eds_zero (w : World) : EdS none w (.slice none 0 0) zeroE := .inl ⟨rfl, none, 0, rfl, Nat.zero_le _⟩
theorem simR_no {n : Nat} {x : Nat → Int} {ci cr cp cs : ByteArray} {most : Int} (h : okS n x ci cr cp cs most = false) : simR n x ci cr cp cs most = (zeroE, 1) := if_pos h
structure SpI (w0 w : World) (lb mb pb n q : Nat) (lv : Value) (x : Nat → Int) : Prop where
  kl : Bx w lb 27 lv
  km : BxE w mb (.slice none 0 0) 0
  mp : MpI w pb q x
  be : Below w0.heap.size w0 w
  ll : w0.heap.size ≤ lb
  lm : w0.heap.size ≤ mb
  lp : w0.heap.size ≤ pb
  lx : Si none w0 lv n x
theorem SpI.new {w0 w w' : World} {lb mb pb n q : Nat} {lv : Value} {x : Nat → Int} (h : SpI w0 w lb mb pb n q lv x) (hf : Fr (fun _ => False) w w') : SpI w0 w' lb mb pb n q lv x :=
  ⟨h.kl.kept hf (fun e => e), (hf.block mb (lt_of_block h.km) (fun e => e)).trans h.km, h.mp.kept hf (fun e => e), h.be.trans (hf.below h.be.size (fun _ e => e.elim)), h.ll, h.lm, h.lp, h.lx⟩
set_option maxHeartbeats 16000000 in
theorem esimple_any {n : Nat} {lv : Value} {x : Nat → Int} (ci cr cp cs : ByteArray) (most : Int) (w : World) (hx : Si none w lv n x) (hn : n ≤ 100) (ht : Tab w) (h1 : smS ci) (h2 : smS cr) (h3 : smS cp) (h4 : smS cs) :
    Calls Tryz.prog 28 #[lv, .string ci, .string cr, .string cp, .string cs, .int .i64 most] w (NewR (simR n x ci cr cp cs most) w) := by
  obtain ⟨al, cl, bl, ol, hlv, hal, hcl, hclm, hbl, hcell⟩ := hx.open
  subst hlv
  obtain ⟨w1, hw1⟩ : ∃ w1, w1 = w.alloc (.cells #[.slice al n cl] 27) := ⟨_, rfl⟩
  obtain ⟨w2, hw2⟩ : ∃ w2, w2 = w1.alloc (.cells #[.slice none 0 0, .int .i64 0] 24) := ⟨_, rfl⟩
  obtain ⟨w3, hw3⟩ : ∃ w3, w3 = w2.alloc (.map #[] 0) := ⟨_, rfl⟩
  have hz1 : w1.heap.size = w.heap.size + 1 := by rw [hw1]; simp
  have hz2 : w2.heap.size = w.heap.size + 1 + 1 := by rw [hw2]; simp [hz1]
  have hf1 : Fr (fun _ => False) w w1 := by rw [hw1]; exact Fr.alloc _ _
  have hf2 : Fr (fun _ => False) w1 w2 := by rw [hw2]; exact Fr.alloc _ _
  have hf3 : Fr (fun _ => False) w2 w3 := by rw [hw3]; exact Fr.alloc _ _
  have hk1 : Bx w1 w.heap.size 27 (.slice al n cl) := by rw [hw1]; exact heap_alloc_new w _
  have hk2 : BxE w2 (w.heap.size + 1) (.slice none 0 0) 0 := by rw [← hz1, hw2]; exact heap_alloc_new w1 _
  have hmp : MpI w3 (w.heap.size + 1 + 1) 0 x := by rw [← hz2, hw3]; exact MpI.made w2 x
  obtain ⟨lb, hlb⟩ : ∃ lb, lb = w.heap.size := ⟨_, rfl⟩
  obtain ⟨mb, hmb⟩ : ∃ mb, mb = w.heap.size + 1 := ⟨_, rfl⟩
  obtain ⟨pb, hpb⟩ : ∃ pb, pb = w.heap.size + 1 + 1 := ⟨_, rfl⟩
  rw [← hlb] at hk1
  rw [← hmb] at hk2
  rw [← hpb] at hmp
  have hsp : SpI w w3 lb mb pb n 0 (.slice al n cl) x := ⟨(hk1.kept hf2 (fun e => e)).kept hf3 (fun e => e), (hf3.block mb (lt_of_block hk2) (fun e => e)).trans hk2, hmp, ((hf1.trans hf2).trans hf3).below (Nat.le_refl _) (fun _ e => e.elim), by omega, by omega, by omega, hx⟩
  have l0 := hk1.kept hf2 (fun e => e)
  have l1 := l0.cell
  have l2 := hsp.kl.cell
  have HSP := Lib.hid hsp; clear hsp hk1 hk2 hmp hf1 hf2 hf3 l0 hx
  have HZ1 := Lib.hid hz1; clear hz1
  have HZ2 := Lib.hid hz2; clear hz2
  have HLB := Lib.hid hlb
  have HMB := Lib.hid hmb
  have HPB := Lib.hid hpb
  have HA := Lib.hid hal; clear hal
  have HBL := Lib.hid hbl; clear hbl
  have HCL := Lib.hid hcell; clear hcell
  have HTB := Lib.hid ht; clear ht
  have HS : Hid (∀ q, smS (W4 ci cr cp cs q)) := Lib.hid fun q => by unfold W4; split; exact h1; split; exact h2; split; exact h3; exact h4
  clear h1 h2 h3 h4
  clear hcl hclm
  have hmm := @run_makeMap Tryz.prog
  obtain ⟨ZZ, hZZ⟩ : ∃ ZZ, ZZ = simR n x ci cr cp cs most := ⟨_, rfl⟩
  rw [← hZZ]
  have HZ := Lib.hid hZZ; clear hZZ
  go_enter Tryz.func28, Tryz.ntmps28
  go_wp2_with fail
  rw [← hw1, ← hw2, ← hw3, ← hpb, ← hmb, ← hlb]
  clear hw1 hw2 hw3 l1 l2 hlb hmb hpb
  go_loopw [24] (fun v24 wr' => ∃ q : Nat, q ≤ n ∧ v24 = .int .i64 (q : Int) ∧ (∀ j, j < q → (1 ≤ x j ∧ x j ≤ 500) ∧ memB j x (x j) = false) ∧ SpI w wr' lb mb pb n q (.slice al n cl) x) (fun v24 _ => n - (intOf v24).toNat)
  case atStart => exact ⟨0, Nat.zero_le _, rfl, fun j hj => absurd hj (Nat.not_lt_zero _), HSP.out⟩
  case round =>
    obtain ⟨q, hq, rfl, hok, hsp⟩ := hrel
    clear HSP
    have HOK := Lib.hid hok; clear hok
    have HSP := Lib.hid hsp; clear hsp
    have m0 : wr.cell? ⟨mb, 0, none⟩ = some (.slice none 0 0) := cell_of HSP.out.km 0 rfl
    have m1 : wr.cell? ⟨mb, 1, none⟩ = some (.int .i64 0) := cell_of HSP.out.km 1 rfl
    have f0 : ∀ i, wr.frozen? ⟨mb, i, none⟩ = false := fun i => by have := HSP.out.km; unfold BxE at this; simp [World.frozen?, this]
    have g0 := f0 0
    have g1 := f0 1
    clear f0
    have hno : okS n x ci cr cp cs most = false → BxE ((wr.setCell ⟨mb, 0, none⟩ (.slice none 0 0)).setCell ⟨mb, 1, none⟩ (.int .i64 0)) mb (.slice none 0 0) zeroE.most ∧ NewR ZZ w (.returned (.tuple #[.agg #[.slice none 0 0, .int .i64 zeroE.most], .int .i64 1])) ((wr.setCell ⟨mb, 0, none⟩ (.slice none 0 0)).setCell ⟨mb, 1, none⟩ (.int .i64 0)) := fun h =>
      ⟨bxe_zero HSP.out.km, by rw [HZ.out, simR_no h]; exact ⟨(HSP.out.be.setCell (p := ⟨mb, 0, none⟩) HSP.out.lm _).setCell (p := ⟨mb, 1, none⟩) HSP.out.lm _, _, rfl, eds_zero _⟩⟩
    have HNO := Lib.hid hno; clear hno
    by_cases hqt : q < n
    · have hqz : (q : Int) < (n : Int) := by omega
      have hqz0 : (0 : Int) ≤ (q : Int) := by omega
      obtain rfl := HA.out (by omega)
      have c0 := (HSP.out.be.cell (p := ⟨bl, ol + q, none⟩) (HBL.out (by omega)).1).trans (HCL.out q hqt)
      obtain ⟨xq, hxq⟩ : ∃ xq, xq = x q := ⟨_, rfl⟩
      rw [← hxq] at c0
      have HXQ := Lib.hid hxq; clear hxq
      by_cases h1 : xq < 1
      · have hbad : okS n x ci cr cp cs most = false := by
          have : wordB n x 500 = false := wordB_not.2 fun h => by have := (h q hqt).1; rw [← HXQ.out] at this; omega
          unfold okS; rw [this]; rfl
        obtain ⟨hb1, hb2⟩ := HNO.out hbad
        have HB1 := Lib.hid hb1; clear hb1
        have HB2 := Lib.hid hb2; clear hb2 hbad
        go_wp2_with fail
        exact bodyPost_ret (results_e2 rfl _ (b := mb) (v := .int .i64 1) rfl rfl HB1.out) rfl HB2.out
      · have h1' : decide (xq < 1) = false := by simp; omega
        by_cases h5 : (500 : Int) < xq
        · have hbad : okS n x ci cr cp cs most = false := by
            have : wordB n x 500 = false := wordB_not.2 fun h => by have := (h q hqt).2; rw [← HXQ.out] at this; omega
            unfold okS; rw [this]; rfl
          obtain ⟨hb1, hb2⟩ := HNO.out hbad
          have HB1 := Lib.hid hb1; clear hb1
          have HB2 := Lib.hid hb2; clear hb2 hbad
          go_wp2_with fail
          exact bodyPost_ret (results_e2 rfl _ (b := mb) (v := .int .i64 1) rfl rfl HB1.out) rfl HB2.out
        · have h5' : decide ((500 : Int) < xq) = false := by simp; omega
          have hlk := HSP.out.mp.look (s := xq) (by omega) (by omega)
          cases hmem : memB q x xq
          · rw [hmem] at hlk
            have hrng : 1 ≤ xq ∧ xq ≤ 500 := by omega
            have HR := Lib.hid hrng; clear hrng h1 h5
            obtain ⟨D, hown, hD1, hD2⟩ := HSP.out.mp
            have HM := Lib.hid hmem; clear hmem
            have HOWN := Lib.hid hown; clear hown
            have HD1 := Lib.hid hD1; clear hD1
            have HD2 := Lib.hid hD2; clear hD2
            have hkey := keyI HR.out.1 HR.out.2
            have HKEY := Lib.hid hkey; clear hkey
            go_wp2_with (at_mapUpdate; refine wpList_mapUpdate_own _ rfl _ _ _ 99 rfl 3 4 kInt Tryz.underlying99 _ pb q D rfl HOWN.out (by unfold maxLen; omega) _ _ (.int .i64 xq) rfl rfl HKEY.out (.lit (.bool true)) [] (plainElem_bool Tryz.underlying4 true) ?_; intro w1 hown1 hgrow1; have HO1 := Lib.hid hown1; clear hown1; have HG1 := Lib.hid hgrow1; clear hgrow1)
            go_roundw
            case rel =>
              have hfr : Fr (fun k => k = pb) wr w1 := Fr.of_gb HG1.out (fun k e => by cases e; rfl)
              refine ⟨q + 1, by omega, by go_num, fun j hj => ?_, ⟨HSP.out.kl.kept hfr (fun e => HSP.out.mp.block HSP.out.kl e), (hfr.block mb (lt_of_block HSP.out.km) (fun e => HSP.out.mp.block HSP.out.km e)).trans HSP.out.km, MpI.put HD1.out HD2.out (by rw [← HXQ.out]; exact HO1.out), HSP.out.be.trans (hfr.below HSP.out.be.size (fun k e => by rw [e]; exact HSP.out.lp)), HSP.out.ll, HSP.out.lm, HSP.out.lp, HSP.out.lx⟩⟩
              by_cases e : j = q
              · subst e; rw [← HXQ.out]; exact ⟨HR.out, HM.out⟩
              · exact HOK.out j (by omega)
            case measure => simp [intOf]; omega
          · rw [hmem] at hlk
            have hbad : okS n x ci cr cp cs most = false := by
              have : nodB n x = false := by
                cases h : nodB n x
                · rfl
                · have := nodB_iff.1 h q hqt; rw [← HXQ.out, hmem] at this; cases this
              unfold okS; rw [this]; simp
            clear hmem
            obtain ⟨hb1, hb2⟩ := HNO.out hbad
            have HB1 := Lib.hid hb1; clear hb1
            have HB2 := Lib.hid hb2; clear hb2 hbad
            go_wp2_with fail
            exact bodyPost_ret (results_e2 rfl _ (b := mb) (v := .int .i64 1) rfl rfl HB1.out) rfl HB2.out
    · have hqn : q = n := by omega
      have hgt : ¬ ((q : Int) < (n : Int)) := by omega
      have hw1 : wordB n x 500 = true := wordB_iff.2 fun i hi => (HOK.out i (by omega)).1
      have hn1 : nodB n x = true := nodB_iff.2 fun i hi => (HOK.out i (by omega)).2
      have HWN := Lib.hid (show (wordB n x 500 && nodB n x) = true by rw [hw1, hn1]; rfl); clear hw1 hn1
      have hspn := HSP.out
      rw [hqn] at hspn
      have HSPN := Lib.hid hspn; clear hspn HSP
      clear HOK hqn
      go_wp2_with fail
      clear m0 m1 g0 g1
      go_loopw [48] (fun v48 wr' => ∃ q : Nat, q ≤ 4 ∧ v48 = .int .i64 (q : Int) ∧ (∀ j, j < q → cstB (W4 ci cr cp cs j) = true) ∧ SpI w wr' lb mb pb n n (.slice al n cl) x) (fun v48 _ => 4 - (intOf v48).toNat)
      case atStart => exact ⟨0, Nat.zero_le _, rfl, fun j hj => absurd hj (Nat.not_lt_zero _), HSPN.out⟩
      case round =>
        obtain ⟨q, hq, rfl, hok, hsp⟩ := hrel
        clear HSPN HNO
        have HOK := Lib.hid hok; clear hok
        have HSP := Lib.hid hsp; clear hsp
        have hno : ∀ W, Fr (fun _ => False) wr W → W.cell? ⟨mb, 0, none⟩ = some (.slice none 0 0) ∧ W.cell? ⟨mb, 1, none⟩ = some (.int .i64 0) ∧ W.frozen? ⟨mb, 0, none⟩ = false ∧ W.frozen? ⟨mb, 1, none⟩ = false ∧ BxE ((W.setCell ⟨mb, 0, none⟩ (.slice none 0 0)).setCell ⟨mb, 1, none⟩ (.int .i64 0)) mb (.slice none 0 0) zeroE.most ∧
            (okS n x ci cr cp cs most = false → NewR ZZ w (.returned (.tuple #[.agg #[.slice none 0 0, .int .i64 zeroE.most], .int .i64 1])) ((W.setCell ⟨mb, 0, none⟩ (.slice none 0 0)).setCell ⟨mb, 1, none⟩ (.int .i64 0))) := fun W hf => by
          have h := HSP.out.new hf
          have hk := h.km
          refine ⟨cell_of hk 0 rfl, cell_of hk 1 rfl, by unfold BxE at hk; simp [World.frozen?, hk], by unfold BxE at hk; simp [World.frozen?, hk], bxe_zero hk, fun hb => ?_⟩
          rw [HZ.out, simR_no hb]
          exact ⟨(h.be.setCell (p := ⟨mb, 0, none⟩) h.lm _).setCell (p := ⟨mb, 1, none⟩) h.lm _, _, rfl, eds_zero _⟩
        have HNO := Lib.hid hno; clear hno
        have hbad : ∀ j, j < 4 → cstB (W4 ci cr cp cs j) = false → okS n x ci cr cp cs most = false := fun j hj h => by
          have h4 : ((cstB ci && cstB cr) && (cstB cp && cstB cs)) = false := by
            have : j = 0 ∨ j = 1 ∨ j = 2 ∨ j = 3 := by omega
            rcases this with rfl | rfl | rfl | rfl
            · rw [show cstB ci = false from h]; rfl
            · rw [show cstB cr = false from h]; simp
            · rw [show cstB cp = false from h]; simp
            · rw [show cstB cs = false from h]; simp
          unfold okS; rw [h4]; simp
        have HBAD := Lib.hid hbad; clear hbad
        by_cases hqt : q < 4
        · have hqz : (q : Int) < 4 := by omega
          have hqz0 : (0 : Int) ≤ (q : Int) := by omega
          have hix := idx4 ci cr cp cs hqt
          obtain ⟨W, hW⟩ : ∃ W, W = W4 ci cr cp cs q := ⟨_, rfl⟩
          rw [← hW] at hix
          have HW := Lib.hid hW; clear hW
          cases hO : (W.toList == [])
          · have hw0 : W ≠ ⟨#[]⟩ := fun e => by rw [e] at hO; simp at hO
            have HW0 := Lib.hid hw0; clear hw0
            have HC := Lib.hid (cost_any W wr (by rw [HW.out]; exact HS.out q) (HTB.out.below HSP.out.be (Nat.le_refl _)))
            go_wp2_with fail
            refine HC.out.mono ?_
            rintro rr w5 ⟨rfl, hb5⟩
            obtain ⟨m0, m1, g0, g1, hb1, hb2⟩ := HNO.out w5 (Fr.of_below hb5)
            have HSP5 := Lib.hid (HSP.out.new (Fr.of_below hb5))
            have HB1 := Lib.hid hb1; clear hb1
            have HB2 := Lib.hid hb2; clear hb2 hb5
            cases hcb : costB W
            · have hcc : cstB (W4 ci cr cp cs q) = false := by rw [← HW.out]; unfold cstB; rw [hcb]; simp [HW0.out]
              have HB3 := Lib.hid (HB2.out (HBAD.out q hqt hcc))
              clear hcb hcc
              go_wp2_with fail
              exact bodyPost_ret (results_e2 rfl _ (b := mb) (v := .int .i64 1) rfl rfl HB1.out) rfl HB3.out
            · have hcc : cstB (W4 ci cr cp cs q) = true := by rw [← HW.out]; unfold cstB; rw [hcb]; simp
              have HCC := Lib.hid hcc; clear hcc hcb m0 m1 g0 g1
              go_wp2_with fail
              go_roundw
              case rel =>
                refine ⟨q + 1, by omega, by go_num, fun j hj => ?_, HSP5.out⟩
                by_cases e : j = q
                · subst e; exact HCC.out
                · exact HOK.out j (by omega)
              case measure => simp [intOf]; omega
          · have hcc : cstB (W4 ci cr cp cs q) = true := by rw [← HW.out]; unfold cstB; simp [empty_eq hO]
            have HCC := Lib.hid hcc; clear hcc
            go_wp2_with fail
            go_roundw
            case rel =>
              refine ⟨q + 1, by omega, by go_num, fun j hj => ?_, HSP.out⟩
              by_cases e : j = q
              · subst e; exact HCC.out
              · exact HOK.out j (by omega)
            case measure => simp [intOf]; omega
        · have hqn : q = 4 := by omega
          have hgt : ¬ ((q : Int) < 4) := by omega
          have h4 : ((cstB ci && cstB cr) && (cstB cp && cstB cs)) = true := by
            have e0 := HOK.out 0 (by omega)
            have e1 := HOK.out 1 (by omega)
            have e2 := HOK.out 2 (by omega)
            have e3 := HOK.out 3 (by omega)
            rw [show cstB ci = true from e0, show cstB cr = true from e1, show cstB cp = true from e2, show cstB cs = true from e3]; rfl
          have H4 := Lib.hid h4; clear h4 HOK hqn
          obtain ⟨m0, m1, g0, g1, hb1, hb2⟩ := HNO.out wr (Fr.refl _ _)
          have HB1 := Lib.hid hb1; clear hb1
          have HB2 := Lib.hid hb2; clear hb2
          by_cases h1 : most < 0
          · have hb : okS n x ci cr cp cs most = false := by unfold okS; rw [show decide (0 ≤ most) = false by simp; omega]; simp
            have HB3 := Lib.hid (HB2.out hb); clear hb
            go_wp2_with fail
            exact bodyPost_ret (results_e2 rfl _ (b := mb) (v := .int .i64 1) rfl rfl HB1.out) rfl HB3.out
          · have h1' : decide (most < 0) = false := by simp; omega
            by_cases h6 : (6 : Int) < most
            · have hb : okS n x ci cr cp cs most = false := by unfold okS; rw [show decide (most ≤ 6) = false by simp; omega]; simp
              have HB3 := Lib.hid (HB2.out hb); clear hb
              go_wp2_with fail
              exact bodyPost_ret (results_e2 rfl _ (b := mb) (v := .int .i64 1) rfl rfl HB1.out) rfl HB3.out
            · have h6' : decide ((6 : Int) < most) = false := by simp; omega
              have hok : okS n x ci cr cp cs most = true := by
                unfold okS; rw [HWN.out, H4.out, show decide (0 ≤ most) = true by simp; omega, show decide (most ≤ 6) = true by simp; omega]; rfl
              have HOK := Lib.hid hok; clear hok
              have hmf : ∀ (fn : Fn) (first cap : Array Value) (w : World), (Instr.makeFunc fn first cap).run Tryz.prog w = .ok (.func fn first cap) w := fun _ _ _ _ => rfl
              go_wp2_with fail
              clear m0 m1 g0 g1 HB1 HB2
              have hsm : SmI w (wr.setCell ⟨mb, 1, none⟩ (.int .i64 most)) lb mb n (.slice al n cl) x ⟨0, fun _ => insD 0, most⟩ (.slice none 0 0) (fun _ => .nilIface) (fun _ => .nilIface) := by
                have h := HSP.out
                have hne : lb ≠ mb := fun e => by
                  have h1 := h.km; have h2 := h.kl; unfold BxE at h1; unfold Bx at h2; rw [← e, h2] at h1; simp at h1
                refine ⟨(blk_setCell_other _ _ _ _ hne).trans h.kl, ?_, OwE.empty _ _ _ rfl _ _, h.be.setCell (p := ⟨mb, 1, none⟩) h.lm _, h.ll, h.lm, h.lx⟩
                have h1 := h.km; unfold BxE at h1 ⊢; simp [World.setCell, Array.getElem?_modify, h1]
              have hnn : n * n ≤ 10000 := Nat.mul_le_mul hn hn
              obtain ⟨M1, hM1⟩ : ∃ M1, M1 = oneE insD ci x n ⟨0, fun _ => insD 0, most⟩ := ⟨_, rfl⟩
              obtain ⟨M2, hM2⟩ : ∃ M2, M2 = oneE remD cr x n M1 := ⟨_, rfl⟩
              obtain ⟨M3, hM3⟩ : ∃ M3, M3 = twoE repD cp x n n M2 := ⟨_, rfl⟩
              obtain ⟨M4, hM4⟩ : ∃ M4, M4 = twoE swpD cs x n n M3 := ⟨_, rfl⟩
              have hsim : simE n x ci cr cp cs most = M4 := by rw [hM4, hM3, hM2, hM1]; rfl
              have b1 : M1.most = most ∧ M1.n ≤ n := by rw [hM1]; have := oneE_most insD ci x ⟨0, fun _ => insD 0, most⟩ n; exact ⟨this.1, by have := this.2; simp at this; exact this⟩
              have b2 : M2.most = most ∧ M2.n ≤ n + n := by rw [hM2]; have := oneE_most remD cr x M1 n; exact ⟨this.1.trans b1.1, by omega⟩
              have b3 : M3.most = most ∧ M3.n ≤ n + n + n * n := by rw [hM3]; have := twoE_most repD cp x n M2 n; exact ⟨this.1.trans b2.1, by omega⟩
              have b4 : M4.most = most ∧ M4.n ≤ n + n + n * n + n * n := by rw [hM4]; have := twoE_most swpD cs x n M3 n; exact ⟨this.1.trans b3.1, by omega⟩
              have hm4 : M4.n ≤ 30000 := by omega
              have HC1 := Lib.hid (single_any ci _ hsm mk_ins hn (by show 0 ≤ 90000; omega))
              rw [← hM1] at HC1
              have HC2 : Hid (∀ (W : World) (sv : Value) (F T : Nat → Value), SmI w W lb mb n (.slice al n cl) x M1 sv F T → _) := Lib.hid fun W sv F T h => single_any cr W h mk_rem hn (by omega)
              rw [← hM2] at HC2
              have HC3 : Hid (∀ (W : World) (sv : Value) (F T : Nat → Value), SmI w W lb mb n (.slice al n cl) x M2 sv F T → _) := Lib.hid fun W sv F T h => double_any cp W h mk_rep hn (by omega)
              rw [← hM3] at HC3
              have HC4 : Hid (∀ (W : World) (sv : Value) (F T : Nat → Value), SmI w W lb mb n (.slice al n cl) x M3 sv F T → _) := Lib.hid fun W sv F T h => double_any cs W h mk_swp hn (by omega)
              rw [← hM4] at HC4
              have HSIM := Lib.hid hsim; clear hsim
              have hmost4 := b4.1
              have HMO := Lib.hid hmost4; clear hmost4
              clear b1 b2 b3 b4 hM1 hM2 hM3 hM4 hsm hnn HSP
              refine HC1.out.mono ?_
              rintro rr w6 ⟨rfl, sv1, F1, T1, hs1⟩
              have HS1 := Lib.hid hs1; clear hs1 HC1
              go_wp2_with fail
              refine (HC2.out _ _ _ _ HS1.out).mono ?_
              rintro rr w7 ⟨rfl, sv2, F2, T2, hs2⟩
              have HS2 := Lib.hid hs2; clear hs2 HC2 HS1
              go_wp2_with fail
              refine (HC3.out _ _ _ _ HS2.out).mono ?_
              rintro rr w8 ⟨rfl, sv3, F3, T3, hs3⟩
              have HS3 := Lib.hid hs3; clear hs3 HC3 HS2
              go_wp2_with fail
              refine (HC4.out _ _ _ _ HS3.out).mono ?_
              rintro rr w9 ⟨rfl, sv4, F4, T4, hs4⟩
              obtain ⟨sa, sc, hsv, _, _⟩ := row_any hs4.own.top
              subst hsv
              have m0 := hs4.c0
              have hkm := hs4.km
              rw [HMO.out] at hkm
              have m1 : w9.cell? ⟨mb, 1, none⟩ = some (.int .i64 most) := cell_of hkm 1 rfl
              have g0 : w9.frozen? ⟨mb, 0, none⟩ = false := by unfold BxE at hkm; simp [World.frozen?, hkm]
              have g1 : w9.frozen? ⟨mb, 1, none⟩ = false := by unfold BxE at hkm; simp [World.frozen?, hkm]
              have HKM := Lib.hid hkm; clear hkm
              have HS4 := Lib.hid hs4; clear hs4 HC4 HS3
              by_cases h400 : (400 : Int) < (M4.n : Int)
              · have hzz : ZZ = (zeroE, 2) := by rw [HZ.out]; unfold simR; rw [if_neg (by rw [HOK.out]; simp), HSIM.out, if_pos (by omega)]
                have HZZ := Lib.hid hzz; clear hzz
                go_wp2_with fail
                refine bodyPost_ret (results_e2 rfl _ (b := mb) (v := .int .i64 2) (sv := .slice none 0 0) (mo := 0) rfl rfl (bxe_set HKM.out)) rfl ?_
                rw [HZZ.out]
                exact ⟨(HS4.out.be.setCell (p := ⟨mb, 0, none⟩) HS4.out.lm _).setCell (p := ⟨mb, 1, none⟩) HS4.out.lm _, _, rfl, eds_zero _⟩
              · have h400' : decide ((400 : Int) < (M4.n : Int)) = false := by simp; omega
                have hzz : ZZ = (M4, 0) := by rw [HZ.out]; unfold simR; rw [if_neg (by rw [HOK.out]; simp), HSIM.out, if_neg (by omega)]
                have HZZ := Lib.hid hzz; clear hzz
                go_wp2_with fail
                refine bodyPost_ret (results_e2 rfl _ (b := mb) (v := .int .i64 0) (sv := .slice sa M4.n sc) (mo := most) rfl rfl (bxe_set HKM.out)) rfl ?_
                rw [HZZ.out]
                refine ⟨(HS4.out.be.setCell (p := ⟨mb, 0, none⟩) HS4.out.lm _).setCell (p := ⟨mb, 1, none⟩) HS4.out.lm _, _, by rw [HMO.out]; rfl, ?_⟩
                have hfr : Fr (fun q => q = mb) w9 ((w9.setCell ⟨mb, 0, none⟩ (.slice sa M4.n sc)).setCell ⟨mb, 1, none⟩ (.int .i64 most)) := ((Fr.refl (fun q => q = mb) w9).set (p := ⟨mb, 0, none⟩) (.inl rfl) _).set (p := ⟨mb, 1, none⟩) (.inl rfl) _
                refine (HS4.out.own.kept hfr (fun b hb e => HS4.out.svtb (by rw [hb, e])) (fun b c f hb e => ?_)).eds
                subst e; have h1 := HKM.out; unfold BxE at h1; rw [hb] at h1; simp at h1
end Go.Proofs.YtjekapjbigfkbaaGreatDoor

namespace Go.Proofs.YtjekapjbigfkbaaGreatDoor
open Go Go.RowKit Go.Deep
set_option maxRecDepth 100000
set_option linter.unusedSimpArgs false
set_option maxHeartbeats 4000000 in
theorem rword_any {n : Nat} {v : Value} {x : Nat → Int} (w : World) (hx : Si none w v n x) (hn : (n : Int) ≤ 9223372036854775807) :
    Calls Tryz.prog 20 #[v] w (fun r w' => r = .returned (.bool (isWord n x)) ∧ w' = w) := by
  obtain ⟨a, cap, b, off, rfl, ha, hc, hm, hb, hcell⟩ := hx.open
  unfold maxLen at hm
  have HA := Lib.hid ha; clear ha
  have HX := Lib.hid hcell; clear hcell hx hb
  by_cases h2 : (200 : Int) < (n : Int)
  · have hw : isWord n x = false := by unfold isWord; rw [show decide (n ≤ 200) = false by simp; omega]; rfl
    rw [hw]
    clear hw
    go_enter Tryz.func20, Tryz.ntmps20
    go_wp2_with fail
    go_ret
    exact ⟨rfl, rfl⟩
  · have h2' : decide ((200 : Int) < (n : Int)) = false := by simp; omega
    have hn2 : n ≤ 200 := by omega
    have hw : isWord n x = wordB n x 500 := by unfold isWord; rw [show decide (n ≤ 200) = true by simp; omega]; simp
    rw [hw]
    clear hw h2
    go_enter Tryz.func20, Tryz.ntmps20
    go_wp2_with fail
    go_loop [3] (fun i => ∃ q : Nat, q ≤ n ∧ i = .int .i64 (q : Int) ∧ ∀ j, j < q → 1 ≤ x j ∧ x j ≤ 500) (fun i => n - (intOf i).toNat)
    case atStart => exact ⟨0, Nat.zero_le _, rfl, fun j hj => by omega⟩
    case round =>
      obtain ⟨q, hq, rfl, hok⟩ := hrel
      have HOK := Lib.hid hok; clear hok
      by_cases hlt : q < n
      · have hqz : (q : Int) < (n : Int) := by omega
        have hqz0 : (0 : Int) ≤ (q : Int) := by omega
        obtain rfl := HA.out (by omega)
        have c0 := HX.out q hlt
        obtain ⟨xq, hxq⟩ : ∃ xq, xq = x q := ⟨_, rfl⟩
        rw [← hxq] at c0
        have HXQ := Lib.hid hxq; clear hxq
        by_cases h1 : xq < 1
        · have hno : wordB n x 500 = false := wordB_not.2 fun h => by have := (h q hlt).1; rw [← HXQ.out] at this; omega
          have HNO := Lib.hid hno; clear hno
          go_wp2_with fail
          go_ret
          exact ⟨ret_bool HNO.out.symm, rfl⟩
        · have h1' : decide (xq < 1) = false := by simp; omega
          by_cases h5 : (500 : Int) < xq
          · have hno : wordB n x 500 = false := wordB_not.2 fun h => by have := (h q hlt).2; rw [← HXQ.out] at this; omega
            have HNO := Lib.hid hno; clear hno
            go_wp2_with fail
            go_ret
            exact ⟨ret_bool HNO.out.symm, rfl⟩
          · have h5' : decide ((500 : Int) < xq) = false := by simp; omega
            go_wp2_with fail
            go_round
            case rel => exact ⟨q + 1, by omega, by go_num, fun j hj => by
              by_cases e : j = q
              · subst e; rw [← HXQ.out]; omega
              · exact HOK.out j (by omega)⟩
            case measure => simp [intOf]; omega
      · have hqn : q = n := by omega
        have hgt : ¬ ((q : Int) < (n : Int)) := by omega
        have hyes : wordB n x 500 = true := wordB_iff.2 fun i hi => HOK.out i (by rw [hqn]; exact hi)
        have HY := Lib.hid hyes; clear hyes hqn
        go_wp2_with fail
        go_ret
        exact ⟨ret_bool HY.out.symm, rfl⟩
set_option maxHeartbeats 4000000 in
theorem wcmp_any {n m : Nat} {v v' : Value} {x y : Nat → Int} (w : World) (hx : Si none w v n x) (hy : Si none w v' m y) (hn : (n : Int) ≤ 9223372036854775806) (hm' : (m : Int) ≤ 9223372036854775806) :
    Calls Tryz.prog 36 #[v, v'] w (fun r w' => (∃ c : Int, r = .returned (.int .i64 c) ∧ (c = 0 ↔ eqB n m x y = true)) ∧ Below w.heap.size w w') := by
  obtain ⟨a, cap, b, off, rfl, ha, hc, hm, hb, hcell⟩ := hx.open
  obtain ⟨a', cap', b', off', rfl, ha', hc', hm'', hb', hcell'⟩ := hy.open
  unfold maxLen at hm hm''
  clear hx hy
  have HA := Lib.hid ha; clear ha
  have HB := Lib.hid hb; clear hb
  have HX := Lib.hid hcell; clear hcell
  have HA' := Lib.hid ha'; clear ha'
  have HB' := Lib.hid hb'; clear hb'
  have HX' := Lib.hid hcell'; clear hcell'
  by_cases hnm : n = m
  · subst hnm
    go_enter Tryz.func36, Tryz.ntmps36
    go_wp2_with fail
    go_loopw [5] (fun i wr => ∃ q : Nat, q ≤ n ∧ i = .int .i64 (q : Int) ∧ (∀ j, j < q → x j = y j) ∧ Below w.heap.size w wr) (fun i _ => n - (intOf i).toNat)
    case atStart => exact ⟨0, Nat.zero_le _, rfl, fun j hj => by omega, Below.refl _ _⟩
    case round =>
      obtain ⟨q, hq, rfl, hno, hbw⟩ := hrel
      have HBW := Lib.hid hbw; clear hbw
      have HNO := Lib.hid hno; clear hno
      by_cases hlt : q < n
      · have hqz : (q : Int) < (n : Int) := by omega
        have hqz0 : (0 : Int) ≤ (q : Int) := by omega
        obtain rfl := HA.out (by omega)
        obtain rfl := HA'.out (by omega)
        have c0 := (HBW.out.cell (p := ⟨b, off + q, none⟩) (HB.out (by omega)).1).trans (HX.out q hlt)
        have c1 := (HBW.out.cell (p := ⟨b', off' + q, none⟩) (HB'.out (by omega)).1).trans (HX'.out q hlt)
        obtain ⟨xq, hxq⟩ : ∃ xq, xq = x q := ⟨_, rfl⟩
        obtain ⟨yq, hyq⟩ : ∃ yq, yq = y q := ⟨_, rfl⟩
        rw [← hxq] at c0
        rw [← hyq] at c1
        have HXQ := Lib.hid hxq; clear hxq
        have HYQ := Lib.hid hyq; clear hyq
        by_cases hl : xq < yq
        · have hno : ¬ eqB n n x y = true := fun h => by have := (eqB_iff.1 h).2 q hlt; rw [← HXQ.out, ← HYQ.out] at this; omega
          have HN := Lib.hid hno; clear hno
          go_wp2_with fail
          go_quiet (fail)
          go_wp2_with fail
          go_ret
          exact ⟨⟨-1, rfl, ⟨fun h => (by cases h), fun h => absurd h HN.out⟩⟩, below_drewN HBW.out _⟩
        · have hl' : decide (xq < yq) = false := by simp; omega
          by_cases hg : yq < xq
          · have hno : ¬ eqB n n x y = true := fun h => by have := (eqB_iff.1 h).2 q hlt; rw [← HXQ.out, ← HYQ.out] at this; omega
            have HN := Lib.hid hno; clear hno
            have HL := Lib.hid hl; clear hl
            go_wp2_with fail
            go_quiet (fail)
            have c0' : (wr.drewN nq).cell? ⟨b, off + q, none⟩ = some (.int .i64 xq) := c0
            have c1' : (wr.drewN nq).cell? ⟨b', off' + q, none⟩ = some (.int .i64 yq) := c1
            go_wp2_with fail
            go_quiet (fail)
            go_wp2_with fail
            go_ret
            exact ⟨⟨1, rfl, ⟨fun h => (by cases h), fun h => absurd h HN.out⟩⟩, below_drewN (below_drewN HBW.out _) _⟩
          · have hg' : decide (yq < xq) = false := by simp; omega
            have he : xq = yq := by omega
            have HE := Lib.hid he; clear he hl hg
            go_wp2_with fail
            go_quiet (fail)
            have c0' : (wr.drewN nq).cell? ⟨b, off + q, none⟩ = some (.int .i64 xq) := c0
            have c1' : (wr.drewN nq).cell? ⟨b', off' + q, none⟩ = some (.int .i64 yq) := c1
            go_wp2_with fail
            go_quiet (fail)
            go_wp2_with fail
            go_roundw
            case rel =>
              refine ⟨q + 1, by omega, by go_num, fun j hj => ?_, below_drewN HBW.out _⟩
              by_cases e : j = q
              · subst e; rw [← HXQ.out, ← HYQ.out]; exact HE.out
              · exact HNO.out j (by omega)
            case measure => simp [intOf]; omega
      · have hqn : q = n := by omega
        have hgt : ¬ ((q : Int) < (n : Int)) := by omega
        have HQ := Lib.hid hqn; clear hqn
        go_wp2_with fail
        go_ret
        exact ⟨⟨0, rfl, ⟨fun _ => eqB_iff.2 ⟨rfl, fun i hi => HNO.out i (by rw [HQ.out]; exact hi)⟩, fun _ => rfl⟩⟩, HBW.out⟩
  · have hne : ¬ (n : Int) = (m : Int) := by omega
    have hno : ¬ eqB n m x y = true := fun h => hnm (eqB_iff.1 h).1
    have HN := Lib.hid hno; clear hno
    by_cases hl : (n : Int) < (m : Int)
    · go_enter Tryz.func36, Tryz.ntmps36
      go_wp2_with fail
      go_ret
      exact ⟨⟨-1, rfl, ⟨fun h => (by cases h), fun h => absurd h HN.out⟩⟩, Below.refl _ _⟩
    · have hl' : decide ((n : Int) < (m : Int)) = false := by simp; omega
      go_enter Tryz.func36, Tryz.ntmps36
      go_wp2_with fail
      go_ret
      exact ⟨⟨1, rfl, ⟨fun h => (by cases h), fun h => absurd h HN.out⟩⟩, Below.refl _ _⟩
end Go.Proofs.YtjekapjbigfkbaaGreatDoor

namespace Go.Proofs.YtjekapjbigfkbaaGreatDoor
open Go Go.RowKit
set_option maxRecDepth 100000
section
variable {P : Program} {ops : Array Oper} {Q : Exit → Act → World → Prop}
theorem wpOp_go {i : Nat} {o : Oper} {K : Act → World → Prop} {a : Act} {w : World} (ho : ops[i]? = some o) (hg : o.guard = none) (h : ∀ K' : Act → World → Prop, (∀ a w, K a w → K' a w) → Oper.wp P o a w K' Q) : wpOp P ops Q i K a w :=
  wpOp_step ho fun K' hK => by
    rw [if_pos (by simp [Region.wanted, hg])]; exact h K' hK
end
end Go.Proofs.YtjekapjbigfkbaaGreatDoor
