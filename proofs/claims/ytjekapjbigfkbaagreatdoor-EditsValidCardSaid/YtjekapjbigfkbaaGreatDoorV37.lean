/- Parts of a proof: EdR RegI. -/
import Derived.Test.YtjekapjbigfkbaaGreatDoorV23
import Derived.Test.YtjekapjbigfkbaaGreatDoorV22
import Derived.Deep.RegionHeld2
import Derived.WalkKit
import Derived.OwnWalk
namespace Go.Proofs.YtjekapjbigfkbaaGreatDoor
open Go Go.RowKit Go.Deep
set_option maxRecDepth 100000
set_option linter.unusedSimpArgs false
set_option maxHeartbeats 4000000 in
theorem rword_any {n : Nat} {v : Value} {x : Nat → Int} (w : World) (hx : Si none w v n x) (hn : (n : Int) ≤ 9223372036854775807) :
    Calls Tryz.prog 20 #[v] w (fun r w' => r = .returned (.bool (isWord n x)) ∧ w' = w) := by
  obtain ⟨a, cap, b, off, rfl, ha, hc, hm, hb, hcell⟩ := hx.open
  unfold maxLen at hm
  have HA := Lib.hid ha; clear ha
  have HX := Lib.hid hcell; clear hcell hx hb
  by_cases h2 : (200 : Int) < (n : Int)
  · have hw : isWord n x = false := by unfold isWord; rw [show decide (n ≤ 200) = false by simp; omega]; rfl
    rw [hw]
    clear hw
    go_enter Tryz.func20, Tryz.ntmps20
    go_wp2_with fail
    go_ret
    exact ⟨rfl, rfl⟩
  · have h2' : decide ((200 : Int) < (n : Int)) = false := by simp; omega
    have hn2 : n ≤ 200 := by omega
    have hw : isWord n x = wordB n x 500 := by unfold isWord; rw [show decide (n ≤ 200) = true by simp; omega]; simp
    rw [hw]
    clear hw h2
    go_enter Tryz.func20, Tryz.ntmps20
    go_wp2_with fail
    go_loop [3] (fun i => ∃ q : Nat, q ≤ n ∧ i = .int .i64 (q : Int) ∧ ∀ j, j < q → 1 ≤ x j ∧ x j ≤ 500) (fun i => n - (intOf i).toNat)
    case atStart => exact ⟨0, Nat.zero_le _, rfl, fun j hj => by omega⟩
    case round =>
      obtain ⟨q, hq, rfl, hok⟩ := hrel
      have HOK := Lib.hid hok; clear hok
      by_cases hlt : q < n
      · have hqz : (q : Int) < (n : Int) := by omega
        have hqz0 : (0 : Int) ≤ (q : Int) := by omega
        obtain rfl := HA.out (by omega)
        have c0 := HX.out q hlt
        obtain ⟨xq, hxq⟩ : ∃ xq, xq = x q := ⟨_, rfl⟩
        rw [← hxq] at c0
        have HXQ := Lib.hid hxq; clear hxq
        by_cases h1 : xq < 1
        · have hno : wordB n x 500 = false := wordB_not.2 fun h => by have := (h q hlt).1; rw [← HXQ.out] at this; omega
          have HNO := Lib.hid hno; clear hno
          go_wp2_with fail
          go_ret
          exact ⟨ret_bool HNO.out.symm, rfl⟩
        · have h1' : decide (xq < 1) = false := by simp; omega
          by_cases h5 : (500 : Int) < xq
          · have hno : wordB n x 500 = false := wordB_not.2 fun h => by have := (h q hlt).2; rw [← HXQ.out] at this; omega
            have HNO := Lib.hid hno; clear hno
            go_wp2_with fail
            go_ret
            exact ⟨ret_bool HNO.out.symm, rfl⟩
          · have h5' : decide ((500 : Int) < xq) = false := by simp; omega
            go_wp2_with fail
            go_round
            case rel => exact ⟨q + 1, by omega, by go_num, fun j hj => by
              by_cases e : j = q
              · subst e; rw [← HXQ.out]; omega
              · exact HOK.out j (by omega)⟩
            case measure => simp [intOf]; omega
      · have hqn : q = n := by omega
        have hgt : ¬ ((q : Int) < (n : Int)) := by omega
        have hyes : wordB n x 500 = true := wordB_iff.2 fun i hi => HOK.out i (by rw [hqn]; exact hi)
        have HY := Lib.hid hyes; clear hyes hqn
        go_wp2_with fail
        go_ret
        exact ⟨ret_bool HY.out.symm, rfl⟩
def shortB (n : Nat) (x : Nat → Int) : Bool := decide (n ≤ 6) && wordB n x 500
theorem eshort_any {n : Nat} {v : Value} {x : Nat → Int} (w : World) (hx : Si none w v n x) (hn : (n : Int) ≤ 9223372036854775807) :
    Calls Tryz.prog 41 #[v] w (fun r w' => r = .returned (.bool (shortB n x)) ∧ w' = w) := by
  have HW := Lib.hid (rword_any w hx hn)
  obtain ⟨a, cap, rfl⟩ := hx.shape
  clear hx
  by_cases h6 : (n : Int) ≤ 6
  · have hs : shortB n x = isWord n x := by unfold shortB isWord; rw [show decide (n ≤ 6) = true by simp; omega, show decide (n ≤ 200) = true by simp; omega]
    rw [hs]
    clear hs
    go_enter Tryz.func41, Tryz.ntmps41
    go_wp2_with fail
    refine HW.out.mono ?_
    rintro r w1 ⟨rfl, rfl⟩
    go_wp2_with fail
    go_ret
    exact ⟨rfl, rfl⟩
  · have h6' : decide ((n : Int) ≤ 6) = false := by simp; omega
    have hs : shortB n x = false := by unfold shortB; rw [show decide (n ≤ 6) = false by simp; omega]; rfl
    rw [hs]
    clear hs
    go_enter Tryz.func41, Tryz.ntmps41
    go_wp2_with fail
    go_ret
    exact ⟨rfl, rfl⟩
theorem rcost_any (s : ByteArray) (w : World) (hs : s.size ≤ 9223372036854775807) : Calls Tryz.prog 42 #[.string s] w (fun r w' => r = .returned (.bool (costB s)) ∧ Below w.heap.size w w') := by
  have hv := svalid_any s w hs
  cases hp : prs s with
  | none =>
    rw [hp] at hv
    have HV := Lib.hid hv; clear hv
    have HP := Lib.hid hp; clear hp
    go_enter Tryz.func42, Tryz.ntmps42
    go_wp2_with fail
    refine HV.out.mono ?_
    rintro r w1 ⟨rfl, hb⟩
    have HB := Lib.hid hb; clear hb
    go_wp2_with fail
    go_ret
    exact ⟨ret_bool (by unfold costB; rw [HP.out]), HB.out⟩
  | some q =>
    rw [hp] at hv
    have hpz : prs ⟨#[48]⟩ = some 0 := by decide +kernel
    have hcz : qcmpF s ⟨#[48]⟩ = cmpQ q 0 := by unfold qcmpF; rw [hp, hpz]
    have hc := fun w1 => scmp_any s ⟨#[48]⟩ w1 hs (by decide)
    rw [hcz] at hc
    have HC := Lib.hid hc; clear hc hcz hpz
    have HV := Lib.hid hv; clear hv
    have HP := Lib.hid hp; clear hp
    go_enter Tryz.func42, Tryz.ntmps42
    go_wp2_with fail
    refine HV.out.mono ?_
    rintro r w1 ⟨rfl, hb⟩
    have hc1 := HC.out w1
    have HB := Lib.hid hb; clear hb
    have HC1 := Lib.hid hc1; clear hc1 HC
    go_wp2_with fail
    refine HC1.out.mono ?_
    rintro r w2 ⟨rfl, hb2⟩
    have HB2 := Lib.hid (HB.out.trans (hb2.mono HB.out.size)); clear hb2
    go_wp2_with fail
    go_ret
    exact ⟨ret_bool (by
      unfold costB; rw [HP.out]
      rcases cmpQ_cases q 0 with ⟨h, e⟩ | ⟨h, e⟩ | ⟨h, e⟩ <;> rw [e]
      · simp [Rat.not_le.2 h]
      · subst h; simp
      · simp [Rat.le_of_lt h]), HB2.out⟩
set_option maxHeartbeats 4000000 in
theorem wcmp_any {n m : Nat} {v v' : Value} {x y : Nat → Int} (w : World) (hx : Si none w v n x) (hy : Si none w v' m y) (hn : (n : Int) ≤ 9223372036854775806) (hm' : (m : Int) ≤ 9223372036854775806) :
    Calls Tryz.prog 36 #[v, v'] w (fun r w' => (∃ c : Int, r = .returned (.int .i64 c) ∧ (c = 0 ↔ eqB n m x y = true)) ∧ Below w.heap.size w w') := by
  obtain ⟨a, cap, b, off, rfl, ha, hc, hm, hb, hcell⟩ := hx.open
  obtain ⟨a', cap', b', off', rfl, ha', hc', hm'', hb', hcell'⟩ := hy.open
  unfold maxLen at hm hm''
  clear hx hy
  have HA := Lib.hid ha; clear ha
  have HB := Lib.hid hb; clear hb
  have HX := Lib.hid hcell; clear hcell
  have HA' := Lib.hid ha'; clear ha'
  have HB' := Lib.hid hb'; clear hb'
  have HX' := Lib.hid hcell'; clear hcell'
  by_cases hnm : n = m
  · subst hnm
    go_enter Tryz.func36, Tryz.ntmps36
    go_wp2_with fail
    go_loopw [5] (fun i wr => ∃ q : Nat, q ≤ n ∧ i = .int .i64 (q : Int) ∧ (∀ j, j < q → x j = y j) ∧ Below w.heap.size w wr) (fun i _ => n - (intOf i).toNat)
    case atStart => exact ⟨0, Nat.zero_le _, rfl, fun j hj => by omega, Below.refl _ _⟩
    case round =>
      obtain ⟨q, hq, rfl, hno, hbw⟩ := hrel
      have HBW := Lib.hid hbw; clear hbw
      have HNO := Lib.hid hno; clear hno
      by_cases hlt : q < n
      · have hqz : (q : Int) < (n : Int) := by omega
        have hqz0 : (0 : Int) ≤ (q : Int) := by omega
        obtain rfl := HA.out (by omega)
        obtain rfl := HA'.out (by omega)
        have c0 := (HBW.out.cell (p := ⟨b, off + q, none⟩) (HB.out (by omega)).1).trans (HX.out q hlt)
        have c1 := (HBW.out.cell (p := ⟨b', off' + q, none⟩) (HB'.out (by omega)).1).trans (HX'.out q hlt)
        obtain ⟨xq, hxq⟩ : ∃ xq, xq = x q := ⟨_, rfl⟩
        obtain ⟨yq, hyq⟩ : ∃ yq, yq = y q := ⟨_, rfl⟩
        rw [← hxq] at c0
        rw [← hyq] at c1
        have HXQ := Lib.hid hxq; clear hxq
        have HYQ := Lib.hid hyq; clear hyq
        by_cases hl : xq < yq
        · have hno : ¬ eqB n n x y = true := fun h => by have := (eqB_iff.1 h).2 q hlt; rw [← HXQ.out, ← HYQ.out] at this; omega
          have HN := Lib.hid hno; clear hno
          go_wp2_with fail
          go_quiet (fail)
          go_wp2_with fail
          go_ret
          exact ⟨⟨-1, rfl, ⟨fun h => (by cases h), fun h => absurd h HN.out⟩⟩, below_drewN HBW.out _⟩
        · have hl' : decide (xq < yq) = false := by simp; omega
          by_cases hg : yq < xq
          · have hno : ¬ eqB n n x y = true := fun h => by have := (eqB_iff.1 h).2 q hlt; rw [← HXQ.out, ← HYQ.out] at this; omega
            have HN := Lib.hid hno; clear hno
            have HL := Lib.hid hl; clear hl
            go_wp2_with fail
            go_quiet (fail)
            have c0' : (wr.drewN nq).cell? ⟨b, off + q, none⟩ = some (.int .i64 xq) := c0
            have c1' : (wr.drewN nq).cell? ⟨b', off' + q, none⟩ = some (.int .i64 yq) := c1
            go_wp2_with fail
            go_quiet (fail)
            go_wp2_with fail
            go_ret
            exact ⟨⟨1, rfl, ⟨fun h => (by cases h), fun h => absurd h HN.out⟩⟩, below_drewN (below_drewN HBW.out _) _⟩
          · have hg' : decide (yq < xq) = false := by simp; omega
            have he : xq = yq := by omega
            have HE := Lib.hid he; clear he hl hg
            go_wp2_with fail
            go_quiet (fail)
            have c0' : (wr.drewN nq).cell? ⟨b, off + q, none⟩ = some (.int .i64 xq) := c0
            have c1' : (wr.drewN nq).cell? ⟨b', off' + q, none⟩ = some (.int .i64 yq) := c1
            go_wp2_with fail
            go_quiet (fail)
            go_wp2_with fail
            go_roundw
            case rel =>
              refine ⟨q + 1, by omega, by go_num, fun j hj => ?_, below_drewN HBW.out _⟩
              by_cases e : j = q
              · subst e; rw [← HXQ.out, ← HYQ.out]; exact HE.out
              · exact HNO.out j (by omega)
            case measure => simp [intOf]; omega
      · have hqn : q = n := by omega
        have hgt : ¬ ((q : Int) < (n : Int)) := by omega
        have HQ := Lib.hid hqn; clear hqn
        go_wp2_with fail
        go_ret
        exact ⟨⟨0, rfl, ⟨fun _ => eqB_iff.2 ⟨rfl, fun i hi => HNO.out i (by rw [HQ.out]; exact hi)⟩, fun _ => rfl⟩⟩, HBW.out⟩
  · have hne : ¬ (n : Int) = (m : Int) := by omega
    have hno : ¬ eqB n m x y = true := fun h => hnm (eqB_iff.1 h).1
    have HN := Lib.hid hno; clear hno
    by_cases hl : (n : Int) < (m : Int)
    · go_enter Tryz.func36, Tryz.ntmps36
      go_wp2_with fail
      go_ret
      exact ⟨⟨-1, rfl, ⟨fun h => (by cases h), fun h => absurd h HN.out⟩⟩, Below.refl _ _⟩
    · have hl' : decide ((n : Int) < (m : Int)) = false := by simp; omega
      go_enter Tryz.func36, Tryz.ntmps36
      go_wp2_with fail
      go_ret
      exact ⟨⟨1, rfl, ⟨fun h => (by cases h), fun h => absurd h HN.out⟩⟩, Below.refl _ _⟩
set_option maxHeartbeats 8000000 in
theorem rmvalid_any {M : EM} {v : Value} (w : World) (hM : Em none w v M) (hs : ESz M) : Calls Tryz.prog 14 #[v] w (EvE M w) := by
  obtain ⟨sv, rfl, hS⟩ := hM
  obtain ⟨a, cap, b, off, A, A', C, C', rfl, ha, hc, hm, hb, hrow⟩ := hS.open
  unfold maxLen at hm
  clear hS
  have hbox := BoxE.new w M (.slice a M.n cap)
  have hbel : Below w.heap.size w (w.alloc (.cells #[.slice a M.n cap, .int .i64 M.most] 24)) := (Below.refl _ _).alloc (Nat.le_refl _) _
  have hnn := hs.n
  have hm0 := hs.m0
  have hm1 := hs.m1
  have HSZ := Lib.hid hs; clear hs
  have HA := Lib.hid ha; clear ha
  have HB := Lib.hid hb; clear hb
  have HR := Lib.hid hrow; clear hrow
  have m0 := hbox.c0
  have m1 := hbox.c1
  have HBX := Lib.hid hbox; clear hbox
  have HBE := Lib.hid hbel; clear hbel
  go_enter Tryz.func14, Tryz.ntmps14
  go_wp2_with fail
  all_goals first
    | (go_ret; exact ⟨HBE.out, .inr ⟨fun v => by have h1 := v.n4; have h2 := v.m0; have h3 := v.m6; omega, rfl⟩⟩)
    | skip
  have hpre : M.n ≤ 400 ∧ 0 ≤ M.most ∧ M.most ≤ 6 := by omega
  have HPRE := Lib.hid hpre; clear hpre
  obtain ⟨wm, hwm⟩ : ∃ wm, wm = w.alloc (.cells #[.slice a M.n cap, .int .i64 M.most] 24) := ⟨_, rfl⟩
  obtain ⟨mb, hmb⟩ : ∃ mb, mb = w.heap.size := ⟨_, rfl⟩
  rw [← hwm] at HBE
  rw [← hwm, ← hmb] at HBX
  rw [← hwm, ← hmb]
  clear hwm hmb m0 m1
  go_loopw [3] (fun i wr => ∃ q : Nat, q ≤ M.n ∧ i = .int .i64 (q : Int) ∧ (∀ l, l < q → EdOk (M.e l)) ∧ Below w.heap.size w wr ∧ BoxE wr mb M (.slice a M.n cap)) (fun i _ => M.n - (intOf i).toNat)
  case atStart => exact ⟨0, Nat.zero_le _, rfl, fun l hl => by omega, HBE.out, HBX.out⟩
  case round =>
    obtain ⟨q, hq, rfl, hok, hbw, hbx⟩ := hrel
    clear HBE HBX
    have HOK := Lib.hid hok; clear hok
    have HBW := Lib.hid hbw; clear hbw
    have HBX := Lib.hid hbx; clear hbx
    have m0 := HBX.out.c0
    by_cases hlt : q < M.n
    · have hqz : (q : Int) < (M.n : Int) := by omega
      have hqz0 : (0 : Int) ≤ (q : Int) := by omega
      obtain rfl := HA.out (by omega)
      have hbb := (HB.out (by omega)).1
      obtain ⟨k1, k2, k3, k4, k5⟩ := HR.out q hlt
      have c0 := (HBW.out.cell (p := ⟨b, off + q * 3, none⟩) hbb).trans k1
      have c1 := (HBW.out.cell (p := ⟨b, off + q * 3 + 1, none⟩) hbb).trans k2
      have c2 := (HBW.out.cell (p := ⟨b, off + q * 3 + 2, none⟩) hbb).trans k3
      clear k1 k2 k3
      have hnf := HSZ.out.f q
      have hnt := HSZ.out.t q
      obtain ⟨d, hd⟩ : ∃ d, d = M.e q := ⟨_, rfl⟩
      rw [← hd] at c0 c1 c2 k4 k5 hnf hnt
      obtain ⟨nf, hnfe⟩ : ∃ nf, nf = d.nf := ⟨_, rfl⟩
      obtain ⟨nt, hnte⟩ : ∃ nt, nt = d.nt := ⟨_, rfl⟩
      rw [← hnfe] at c0 k4 hnf
      rw [← hnte] at c1 k5 hnt
      have hno : ¬ EdOk d → ¬ VE M := fun h v => h (by rw [hd]; exact v.ok q hlt)
      have HNO := Lib.hid hno; clear hno
      have HK4 := Lib.hid k4; clear k4
      have HK5 := Lib.hid k5; clear k5
      have HD := Lib.hid hd; clear hd
      have HNF := Lib.hid hnfe; clear hnfe
      have HNT := Lib.hid hnte; clear hnte
      obtain ⟨wa, hwa⟩ : ∃ wa, wa = wr.alloc (.cells #[.slice (A q) nf (C q), .slice (A' q) nt (C' q), .string d.w] 50) := ⟨_, rfl⟩
      have hfa : Fr (fun _ => False) wr wa := by rw [hwa]; exact Fr.alloc _ _
      have hba := HBW.out.alloc HBW.out.size (.cells #[.slice (A q) nf (C q), .slice (A' q) nt (C' q), .string d.w] 50)
      rw [← hwa] at hba
      obtain ⟨ab, hab⟩ : ∃ ab, ab = wr.heap.size := ⟨_, rfl⟩
      have hblk : wa.heap[ab]? = some (.cells #[.slice (A q) nf (C q), .slice (A' q) nt (C' q), .string d.w] 50 (0, 0)) := by rw [hwa, hab]; exact heap_alloc_new wr _
      have HBA := Lib.hid hba; clear hba
      have HBLK := Lib.hid hblk; clear hblk
      have HBXA := Lib.hid (show BoxE wa mb M (.slice (some ⟨b, off, none⟩) M.n cap) from (hfa.block mb HBX.out.lt (fun e => e)).trans HBX.out); clear hfa HBX
      have HS1 := Lib.hid (eshort_any wa (HK4.out.kept (gb_below HBA.out none)) (by omega))
      have HS2 := Lib.hid (eshort_any wa (HK5.out.kept (gb_below HBA.out none)) (by omega))
      have e1 : wa.cell? ⟨ab, 1, none⟩ = some (.slice (A' q) nt (C' q)) := by simp [World.cell?, HBLK.out]
      have e0 : wa.cell? ⟨ab, 0, none⟩ = some (.slice (A q) nf (C q)) := by simp [World.cell?, HBLK.out]
      have e2 : wa.cell? ⟨ab, 2, none⟩ = some (.string d.w) := by simp [World.cell?, HBLK.out]
      go_wp2_with fail
      rw [← hwa, ← hab]
      clear hwa hab c0 c1 c2 m0
      refine HS1.out.mono ?_
      rintro r w1 ⟨rfl, rfl⟩
      cases hw1 : shortB nf d.f
      · have hn : ¬ (d.nf ≤ 6 ∧ wordI d.nf d.f 500) := fun h => by
          unfold shortB at hw1; rw [HNF.out, wordB_iff.2 h.2] at hw1; simp at hw1; omega
        have HN := Lib.hid hn; clear hn hw1
        go_wp2_with fail
        go_ret
        exact ⟨HBA.out, .inr ⟨HNO.out (fun h => HN.out ⟨h.f6, h.fw⟩), rfl⟩⟩
      · have hs1 : d.nf ≤ 6 ∧ wordI d.nf d.f 500 := by
          unfold shortB at hw1; rw [HNF.out] at hw1; simp at hw1; exact ⟨hw1.1, wordB_iff.1 hw1.2⟩
        have H1 := Lib.hid hs1; clear hs1 hw1
        go_wp2_with fail
        refine HS2.out.mono ?_
        rintro r w2 ⟨rfl, rfl⟩
        cases hw2 : shortB nt d.t
        · have hn : ¬ (d.nt ≤ 6 ∧ wordI d.nt d.t 500) := fun h => by
            unfold shortB at hw2; rw [HNT.out, wordB_iff.2 h.2] at hw2; simp at hw2; omega
          have HN := Lib.hid hn; clear hn hw2
          go_wp2_with fail
          go_ret
          exact ⟨HBA.out, .inr ⟨HNO.out (fun h => HN.out ⟨h.t6, h.tw⟩), rfl⟩⟩
        · have hs2 : d.nt ≤ 6 ∧ wordI d.nt d.t 500 := by
            unfold shortB at hw2; rw [HNT.out] at hw2; simp at hw2; exact ⟨hw2.1, wordB_iff.1 hw2.2⟩
          have H2 := Lib.hid hs2; clear hs2 hw2
          have hw : IntKind.i64.wrap ((nf : Int) + (nt : Int)) = (nf : Int) + (nt : Int) := by rw [IntKind.wrap_i64]; have h1 := H1.out.1; have h2 := H2.out.1; rw [← HNF.out] at h1; rw [← HNT.out] at h2; omega
          by_cases h00 : (nf : Int) + (nt : Int) = 0
          · have hn : ¬ (0 < d.nf + d.nt) := by rw [← HNF.out, ← HNT.out]; omega
            have HN := Lib.hid hn; clear hn
            go_wp2_with fail
            go_ret
            exact ⟨HBA.out, .inr ⟨HNO.out (fun h => HN.out h.pos), rfl⟩⟩
          · have hps : 0 < d.nf + d.nt := by rw [← HNF.out, ← HNT.out]; omega
            have HPS := Lib.hid hps; clear hps
            have HS3 := Lib.hid (rcost_any d.w w2 (by rw [HD.out]; have := HSZ.out.w q; omega))
            go_wp2_with fail
            refine HS3.out.mono ?_
            rintro r w3 ⟨rfl, hb3⟩
            have HB3 := Lib.hid (HBA.out.trans (hb3.mono HBA.out.size))
            have HBX3 := Lib.hid (show BoxE w3 mb M (.slice (some ⟨b, off, none⟩) M.n cap) from (hb3.block mb HBXA.out.lt).trans HBXA.out); clear hb3
            cases hw3 : costB d.w
            · have hn : ¬ costOk d.w := fun h => by rw [costB_iff.2 h] at hw3; cases hw3
              have HN := Lib.hid hn; clear hn hw3
              go_wp2_with fail
              go_ret
              exact ⟨HB3.out, .inr ⟨HNO.out (fun h => HN.out h.wt), rfl⟩⟩
            · have hn := costB_iff.1 hw3
              have HW3 := Lib.hid hn; clear hn hw3
              go_wp2_with fail
              go_roundw
              case rel =>
                refine ⟨q + 1, by omega, by go_num, fun l hl => ?_, HB3.out, HBX3.out⟩
                by_cases e : l = q
                · subst e
                  rw [← HD.out]
                  exact ⟨H1.out.1, H2.out.1, HPS.out, H1.out.2, H2.out.2, HW3.out⟩
                · exact HOK.out l (by omega)
              case measure => simp [intOf]; omega
    · have hqn : q = M.n := by omega
      have hgt : ¬ ((q : Int) < (M.n : Int)) := by omega
      have HQ := Lib.hid hqn; clear hqn
      go_wp2_with fail
      go_ret
      exact ⟨HBW.out, .inl ⟨⟨HPRE.out.1, HPRE.out.2.1, HPRE.out.2.2, fun i hi => HOK.out i (by rw [HQ.out]; exact hi)⟩, rfl⟩⟩
end Go.Proofs.YtjekapjbigfkbaaGreatDoor

namespace Go.Proofs.YtjekapjbigfkbaaGreatDoor
open Go Go.RowKit
set_option maxRecDepth 100000
section
variable {P : Program} {ops : Array Oper} {Q : Exit → Act → World → Prop}
theorem wpOp_go {i : Nat} {o : Oper} {K : Act → World → Prop} {a : Act} {w : World} (ho : ops[i]? = some o) (hg : o.guard = none) (h : ∀ K' : Act → World → Prop, (∀ a w, K a w → K' a w) → Oper.wp P o a w K' Q) : wpOp P ops Q i K a w :=
  wpOp_step ho fun K' hK => by
    rw [if_pos (by simp [Region.wanted, hg])]; exact h K' hK
end
end Go.Proofs.YtjekapjbigfkbaaGreatDoor
