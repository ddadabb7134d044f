/- The walk of closure.Star: the sum of all powers of a matrix, for every matrix of at most 100 rows. The walks of abugidaref07.Same, SameMatrix and Matrix. -/
import Derived.Test.YtlmfppjphblemaaGreatDoorC5
import Derived.Test.YtlmfppjphblemaaGreatDoorC2
import Derived.Maps.Own
import Derived.OwnWalk
namespace Go.Proofs.YtlmfppjphblemaaGreatDoor
open Go Go.RowKit Go.Deep Go.Maps Go.WideMaps
set_option maxRecDepth 100000

/-- A matrix of values of a kind. -/
def Sq (k : Int) (n : Nat) (L : Nat → Nat) (X : Nat → Nat → ByteArray) : Prop := ∀ i, i < n → L i = n ∧ ∀ j, j < n → validF k (X i j) = true
theorem Sq.mat {k : KK} {n : Nat} {L : Nat → Nat} {X : Nat → Nat → ByteArray} (h : Sq k.1 n L X) : MatIs 0 n X (fun i j => wval k (X i j)) := fun i j hi hj => wval_is ((h i hi).2 j hj)
/-- Behind Star. -/
def StarE (k0 : Int) (n : Nat) (L : Nat → Nat) (X : Nat → Nat → ByteArray) (w : World) (r : Ending) (w' : World) : Prop :=
  Below w.heap.size w w' ∧
  ((¬ (kindB k0 = true ∧ Sq k0 n L X) ∧ r = .returned (.tuple #[.slice none 0 0, .int .i64 1])) ∨
   (60 < n ∧ kindB k0 = true ∧ Sq k0 n L X ∧ r = .returned (.tuple #[.slice none 0 0, .int .i64 2])) ∨
   (n ≤ 60 ∧ ∃ (k : KK) (M : Nat → Nat → RK k), k.1 = k0 ∧ Sq k0 n L X ∧ (M = fun i j => wval k (X i j)) ∧ MatIs 0 n X M ∧
     ((∃ v Y, r = .returned (.tuple #[v, .int .i64 0]) ∧ Mt none w' v n (fun _ => n) Y ∧ MatIs 0 n Y (CSR.starM M n)) ∨
     (r = .returned (.tuple #[.slice none 0 0, .int .i64 2]) ∧ ¬ FitM n M))))

abbrev knT : TypeId := 9
abbrev kiT : TypeId := 3
theorem knLaw : Keyed Tryz.prog knT := string_keyed Tryz.underlying9
theorem knZero (w : World) : (zeroValue kiT).run Tryz.prog w = .ok (.int .i64 0) w := by kernel_rfl
/-- What the map holds: whatever is in it is a value. -/
def KnInv (k : Int) (D : DataW Unit) : Prop := IsMap D ∧ ∀ s : ByteArray, D.atKey (.string s.data.toList) (.lit (.int .i64 0)) = .lit (.int .i64 0) ∨ validF k s = true
theorem KnInv.start (k : Int) : KnInv k (.map []) := ⟨isMap_empty, fun _ => .inl rfl⟩
theorem KnInv.put {k : Int} {D : DataW Unit} (h : KnInv k D) {x : ByteArray} (hx : validF k x = true) (d : DataW Unit) : KnInv k (D.put (.string x.data.toList) d) := ⟨h.1.put _ _, fun s => by
  by_cases e : s = x
  · subst e; exact .inr hx
  · rcases h.2 s with h1 | h1
    · left
      rw [atKey_put_other (fun e2 => e (by
        have : s.data.toList = x.data.toList := by simpa using e2
        exact ByteArray.ext (Array.toList_inj.1 this)))]
      exact h1
    · exact .inr h1⟩
theorem KnInv.ok {k : Int} {D : DataW Unit} (h : KnInv k D) {x : ByteArray} {c : Int} (hat : D.atKey (.string x.data.toList) (.lit (.int .i64 0)) = .lit (.int .i64 c)) (hc : c ≠ 0) : validF k x = true := by
  rcases h.2 x with h1 | h1
  · rw [hat] at h1; simp at h1; exact absurd h1 hc
  · exact h1
set_option maxHeartbeats 4000000 in
theorem star_any {k0 : Int} {n : Nat} {L : Nat → Nat} {X : Nat → Nat → ByteArray} {v : Value} (w : World) (hn : n ≤ 100) (hA : Mt none w v n L X) (hz : ∀ i j, (X i j).size ≤ maxLen) (ht : Tab w) :
    Calls Tryz.prog 12 #[.int .i64 k0, v] w (StarE k0 n L X w) := by
  obtain ⟨a, cap, b, off, A, C, BB, O, rfl, ha, hc, hm, hb, hrow⟩ := hA.open
  unfold maxLen at hm
  have HZ := Lib.hid hz; clear hz
  have HT := Lib.hid ht; clear ht
  have HMT := Lib.hid hA; clear hA
  have HA := Lib.hid ha; clear ha
  have HB := Lib.hid hb; clear hb
  have HR := Lib.hid hrow; clear hrow
  have ho := semione_any k0 w
  cases hk : kindB k0
  · have h1 : oneF k0 = ⟨#[]⟩ := by unfold oneF; rw [hk]; rfl
    rw [h1] at ho
    have HO := Lib.hid ho; clear ho
    go_enter Tryz.func12, Tryz.ntmps12
    go_wp2_with fail
    refine HO.out.mono ?_
    rintro r w1 ⟨rfl, hb1⟩
    go_wp2_with fail
    go_ret2
    exact ⟨hb1, .inl ⟨fun h => by rw [hk] at h; exact absurd h.1 (by simp), rfl⟩⟩
  · have hkk : k0 = 1 ∨ k0 = 2 ∨ k0 = 3 := by unfold kindB at hk; simp at hk; omega
    obtain ⟨k, rfl⟩ : ∃ k : KK, k.1 = k0 := ⟨⟨k0, hkk⟩, rfl⟩
    have HO := Lib.hid ho; clear ho
    have h1 : ((oneF k.1).toList == []) = false := by
      unfold oneF; rw [hk]
      rcases k.2 with e | e | e <;> rw [e] <;> decide +kernel
    have hmm := @run_makeMap Tryz.prog
    have HK := Lib.hid hk; clear hk
    go_enter Tryz.func12, Tryz.ntmps12
    go_wp2_with fail
    refine HO.out.mono ?_
    rintro r w1 ⟨rfl, hb1⟩
    have HB1 := Lib.hid hb1; clear hb1
    go_wp2_with fail
    obtain ⟨mb, hmb⟩ : ∃ mb, mb = w1.heap.size := ⟨_, rfl⟩
    rw [← hmb]
    have hown0 : (w1.alloc (.map #[] 0)).ownsMap (H := Unit) Tryz.prog knT (plainElem Tryz.prog kiT) mb 0 (.map []) := by rw [hmb]; exact World.ownsMap_made _ _ _ _
    have hbm0 : Below w.heap.size w (w1.alloc (.map #[] 0)) := HB1.out.alloc HB1.out.size _
    have hmbw : w.heap.size ≤ mb := by rw [hmb]; exact HB1.out.size
    have HM0 := Lib.hid hown0; clear hown0
    have HB0 := Lib.hid hbm0; clear hbm0
    clear hmb
    -- ████ for _, row := range a
    go_loopw [18] (fun i wr => ∃ (q m : Nat) (D : DataW Unit), q ≤ n ∧ m ≤ q * 100 ∧ i = .int .i64 (q : Int) ∧ (∀ l, l < q → L l = n ∧ ∀ j, j < n → validF k.1 (X l j) = true) ∧
      wr.ownsMap Tryz.prog knT (plainElem Tryz.prog kiT) mb m D ∧ KnInv k.1 D ∧ Below w.heap.size w wr) (fun i _ => n - (intOf i).toNat)
    case atStart => exact ⟨0, 0, _, Nat.zero_le _, Nat.le_refl _, rfl, fun l hl => by omega, HM0.out, KnInv.start _, HB0.out⟩
    case round =>
      obtain ⟨q, m, D, hq, hmq, rfl, hgood, hown, hinv, hbw⟩ := hrel
      clear HM0 HB0
      have HGD := Lib.hid hgood; clear hgood
      have HOW := Lib.hid hown; clear hown
      have HIN := Lib.hid hinv; clear hinv
      have HBW := Lib.hid hbw; clear hbw
      have HMQ := Lib.hid hmq; clear hmq
      by_cases hlt : q < n
      · have hqz : (q : Int) < (n : Int) := by omega
        have hqz0 : (0 : Int) ≤ (q : Int) := by omega
        obtain rfl := HA.out (by omega)
        have hbb := (HB.out (by omega)).1
        obtain ⟨k1, k2, k3, k4, k5, _, k7⟩ := HR.out q hlt
        have c0 := (HBW.out.cell (p := ⟨b, off + q, none⟩) hbb).trans k1
        clear k1
        unfold maxLen at k3
        by_cases hL : L q = n
        · have hLz : ((L q : Int) == (n : Int)) = true := by simp; omega
          rw [hL] at c0 k4 k7 hLz
          obtain hk4 := k4 (by omega)
          have hbq := (k5 (by omega)).1
          rw [hk4] at c0
          have HC := Lib.hid k7; clear k7 k4 k5 hk4
          go_wp2_with fail
          -- ████ for _, x := range row
          go_loopw [29] (fun i wr => ∃ (d m' : Nat) (D' : DataW Unit), d ≤ n ∧ m' ≤ q * 100 + d ∧ i = .int .i64 (d : Int) ∧ (∀ j, j < d → validF k.1 (X q j) = true) ∧
            wr.ownsMap Tryz.prog knT (plainElem Tryz.prog kiT) mb m' D' ∧ KnInv k.1 D' ∧ Below w.heap.size w wr) (fun i _ => n - (intOf i).toNat)
          case atStart => exact ⟨0, m, D, Nat.zero_le _, by have := HMQ.out; omega, rfl, fun j hj => by omega, HOW.out, HIN.out, HBW.out⟩
          case round =>
            obtain ⟨d, m', D', hd, hmd, rfl, hgood, hown, hinv, hbw⟩ := hrel
            clear HOW HIN HBW c0
            have HGJ := Lib.hid hgood; clear hgood
            have HOW := Lib.hid hown; clear hown
            have HIN := Lib.hid hinv; clear hinv
            have HBW := Lib.hid hbw; clear hbw
            have HMD := Lib.hid hmd; clear hmd
            by_cases hlt2 : d < n
            · have hdz : (d : Int) < (n : Int) := by omega
              have hdz0 : (0 : Int) ≤ (d : Int) := by omega
              obtain ⟨x, hx⟩ : ∃ x, x = X q d := ⟨_, rfl⟩
              have c1 := (HBW.out.cell (p := ⟨BB q, O q + d, none⟩) hbq).trans (HC.out d hlt2)
              rw [← hx] at c1
              have hxz := HZ.out q d
              rw [← hx] at hxz
              have hkey : keyOf Tryz.prog knT (.string x) = some (.string x.data.toList) := keyOf_string_mk Tryz.underlying9 hxz
              obtain ⟨c, hrun, hat, _⟩ := HOW.out.lookup_int knLaw Tryz.underlying60 Tryz.underlying3 (knZero _) hkey
              have HAT := Lib.hid hat; clear hat
              have HKY := Lib.hid hkey; clear hkey
              have HXX := Lib.hid hx; clear hx
              have hv := semivalid_any k.1 x wr (by unfold maxLen at hxz; exact hxz) (HT.out.below HBW.out (Nat.le_refl _))
              clear hxz
              have hmm' : m' < maxLen := by have := HMD.out; unfold maxLen; omega
              have HML := Lib.hid hmm'; clear hmm'
              by_cases hc : c = 0
              · subst hc
                cases hval : validF k.1 x
                · rw [hval] at hv
                  have HV := Lib.hid hv; clear hv
                  go_wp2_with fail
                  refine HV.out.mono ?_
                  rintro r w2 ⟨rfl, hb2⟩
                  clear hrun c1
                  go_wp2_with fail
                  go_ret2
                  exact ⟨HBW.out.trans (hb2.mono HBW.out.size), .inl ⟨fun h => by have := (h.2 q hlt).2 d hlt2; rw [← HXX.out, hval] at this; exact absurd this (by simp), rfl⟩⟩
                · rw [hval] at hv
                  have HV := Lib.hid hv; clear hv
                  go_wp2_with fail
                  refine HV.out.mono ?_
                  rintro r w2 ⟨rfl, hb2⟩
                  clear hrun c1
                  have hown2 := HOW.out.kept (gb_below hb2 none) (by simp)
                  have hbw2 := HBW.out.trans (hb2.mono HBW.out.size)
                  clear hb2
                  go_wp2_with (first
                    | (at_mapUpdate; refine wpList_mapUpdate_own _ rfl _ _ _ 60 rfl knT kiT knLaw Tryz.underlying60 _ mb m' _ rfl hown2 HML.out _ _ _ rfl rfl HKY.out _ [] (plainElem_int Tryz.underlying3 (by decide)) ?_)
                    | go_in)
                  intro w3 hown3 hgr3
                  have hbw3 := hbw2.grown hgr3 hbw2.size (fun j hj => by cases hj; exact hmbw)
                  clear hown2 hbw2 hgr3
                  go_wp2_with fail
                  go_roundw
                  case rel =>
                    refine ⟨d + 1, m' + 1, _, by omega, by have := HMD.out; omega, by go_num, fun j hj => ?_, hown3, HIN.out.put hval _, hbw3⟩
                    rcases Nat.lt_succ_iff_lt_or_eq.1 hj with h2 | h2
                    · exact HGJ.out j h2
                    · subst h2; rw [← HXX.out]; exact hval
                  case measure => simp [intOf]; omega
              · have hcz : (c == 0) = false := by simp; exact hc
                have hval : validF k.1 x = true := HIN.out.ok HAT.out hc
                clear hv
                go_wp2_with (first
                    | (at_mapUpdate; refine wpList_mapUpdate_own _ rfl _ _ _ 60 rfl knT kiT knLaw Tryz.underlying60 _ mb m' _ rfl HOW.out HML.out _ _ _ rfl rfl HKY.out _ [] (plainElem_int Tryz.underlying3 (by decide)) ?_)
                    | go_in)
                intro w3 hown3 hgr3
                have hbw3 := HBW.out.grown hgr3 HBW.out.size (fun j hj => by cases hj; exact hmbw)
                clear hgr3 hrun c1
                go_wp2_with fail
                go_roundw
                case rel =>
                  refine ⟨d + 1, m' + 1, _, by omega, by have := HMD.out; omega, by go_num, fun j hj => ?_, hown3, HIN.out.put hval _, hbw3⟩
                  rcases Nat.lt_succ_iff_lt_or_eq.1 hj with h2 | h2
                  · exact HGJ.out j h2
                  · subst h2; rw [← HXX.out]; exact hval
                case measure => simp [intOf]; omega
            · have hdn : d = n := by omega
              subst hdn
              have hgt : ¬ ((d : Int) < (d : Int)) := by omega
              go_wp2_with fail
              go_roundw
              case rel =>
                refine ⟨q + 1, m', D', by omega, by have := HMD.out; omega, by go_num, fun l hl => ?_, HOW.out, HIN.out, HBW.out⟩
                rcases Nat.lt_succ_iff_lt_or_eq.1 hl with h2 | h2
                · exact HGD.out l h2
                · subst h2; exact ⟨hL, HGJ.out⟩
              case measure => simp [intOf]; omega
        · have hLz : ((L q : Int) == (n : Int)) = false := by simp; omega
          go_wp2_with fail
          go_ret2
          exact ⟨HBW.out, .inl ⟨fun h => hL (h.2 q hlt).1, rfl⟩⟩
      · have hqn : q = n := by omega
        subst hqn
        have hgt : ¬ ((q : Int) < (q : Int)) := by omega
        have hsq : Sq k.1 q L X := HGD.out
        have HSQ := Lib.hid hsq; clear hsq
        by_cases h60 : 60 < q
        · have h60z : (60 : Int) < (q : Int) := by omega
          go_wp2_with fail
          go_ret2
          exact ⟨HBW.out, .inr (.inl ⟨h60, HK.out, HSQ.out, rfl⟩)⟩
        · have h60z : decide ((60 : Int) < (q : Int)) = false := by simp; omega
          obtain ⟨M, hMe⟩ : ∃ M : Nat → Nat → RK k, M = fun i j => wval k (X i j) := ⟨_, rfl⟩
          have hM : MatIs 0 q X M := by rw [hMe]; exact HSQ.out.mat
          have HME := Lib.hid hMe; clear hMe
          obtain ⟨sb, hsb⟩ : ∃ sb, sb = wr.heap.size := ⟨_, rfl⟩
          have hs0 : SumB (wr.alloc (.cells #[.int .i64 k.1, .int .i64 0] 64)) sb k.1 0 := by rw [hsb]; exact heap_alloc_new wr _
          have hbs : Below w.heap.size w (wr.alloc (.cells #[.int .i64 k.1, .int .i64 0] 64)) := HBW.out.alloc HBW.out.size _
          have hsw : w.heap.size ≤ sb := by rw [hsb]; exact HBW.out.size
          have hMT : Mt (some sb) (wr.alloc (.cells #[.int .i64 k.1, .int .i64 0] 64)) (.slice a q cap) q (fun _ => q) X :=
            (((HMT.out.congr (L' := fun _ => q) (fun i hi => (HSQ.out i hi).1) (fun _ _ _ _ => rfl)).far (k := sb) (by rw [hsb]; exact HBW.out.size)).kept (gb_below HBW.out _)).kept (World.grownBy_alloc _ _ _)
          have hTB : TabB w.heap.size (wr.alloc (.cells #[.int .i64 k.1, .int .i64 0] 64)) := (TabB.of HT.out).kept (z := none) (gb_below hbs none) (by simp) (Nat.le_refl _)
          have HM := Lib.hid hM; clear hM
          have HS0 := Lib.hid hs0; clear hs0
          have HBS := Lib.hid hbs; clear hbs
          have HMT' := Lib.hid hMT; clear hMT HMT
          have HTB := Lib.hid hTB; clear hTB
          go_wp2_with fail
          rw [← hsb]
          refine (powers_any (F := FitM q M) (by omega) HMT'.out HM.out HS0.out ⟨.inl rfl, fun _ => rfl⟩ (fun f => f) HTB.out hsw).mono ?_
          rintro r w2 ⟨v2, e2, Y, rfl, hY, hYM, hE2, _, hs2, hg2⟩
          have e1 := hs2.c1
          have hb2 : Below w.heap.size w w2 := HBS.out.grown hg2 (by simp; have := HBW.out.size; omega) (fun j hj => by cases hj; exact hsw)
          have HB2 := Lib.hid hb2; clear hb2
          clear hg2 hs2 hsb
          rcases hE2.1 with rfl | rfl
          · go_wp2_with fail
            go_ret2
            exact ⟨HB2.out, .inr (.inr ⟨by omega, k, M, rfl, HSQ.out, HME.out, HM.out, .inl ⟨_, Y, rfl, hY.any, hYM⟩⟩)⟩
          · have hnf : ¬ FitM q M := fun f => by have := hE2.2 f; omega
            go_wp2_with fail
            go_quiet (fail)
            go_wp2
            go_ret2
            exact ⟨below_drewN HB2.out nq, .inr (.inr ⟨by omega, k, M, rfl, HSQ.out, HME.out, HM.out, .inr ⟨rfl, hnf⟩⟩)⟩
end Go.Proofs.YtlmfppjphblemaaGreatDoor

namespace Go.Proofs.YtlmfppjphblemaaGreatDoor
open Go Go.RowKit Go.Deep
set_option maxRecDepth 100000

theorem keep2' {W wk : World} {a b : Addr} {u v : Value} (hg : W.grownBy wk none) (ha : W.cell? a = some u) (hb : W.cell? b = some v) : wk.cell? a = some u ∧ wk.cell? b = some v := ⟨hg.cell ha (by simp), hg.cell hb (by simp)⟩
/-- Behind a test. -/
def TestE (p : Prop) (w : World) (r : Ending) (w' : World) : Prop := ∃ b : Bool, r = .returned (.bool b) ∧ (b = true ↔ p) ∧ Below w.heap.size w w'
set_option maxHeartbeats 2000000 in
theorem same_any {n m : Nat} {X Y : Nat → ByteArray} {u v : Value} (w : World) (hu : Ss none w u n X) (hv : Ss none w v m Y) (P : Prop) (hP : P ↔ (n = m ∧ ∀ i, i < n → X i = Y i)) :
    Calls Tryz.prog 27 #[u, v] w (TestE P w) := by
  have HP := Lib.hid hP; clear hP
  obtain ⟨a, cap, b, off, rfl, ha, hc, hm, hb, hcell⟩ := Rd.open hu
  obtain ⟨a2, cap2, b2, off2, rfl, ha2, hc2, hm2, hb2, hcell2⟩ := Rd.open hv
  unfold maxLen at hm hm2
  clear hu hv
  have HA := Lib.hid ha; clear ha
  have HA2 := Lib.hid ha2; clear ha2
  have HB := Lib.hid hb; clear hb
  have HB2 := Lib.hid hb2; clear hb2
  have HC := Lib.hid hcell; clear hcell
  have HC2 := Lib.hid hcell2; clear hcell2
  by_cases hnm : n = m
  · subst hnm
    go_enter Tryz.func27, Tryz.ntmps27
    go_wp2_with fail
    go_loopw [5] (fun i wr => ∃ q : Nat, q ≤ n ∧ i = .int .i64 (q : Int) ∧ (∀ j, j < q → X j = Y j) ∧ Below w.heap.size w wr) (fun i _ => n - (intOf i).toNat)
    case atStart => exact ⟨0, Nat.zero_le _, rfl, fun j hj => by omega, Below.refl _ _⟩
    case round =>
      obtain ⟨q, hq, rfl, hok, hbw⟩ := hrel
      have HOK := Lib.hid hok; clear hok
      have HBW := Lib.hid hbw; clear hbw
      by_cases hlt : q < n
      · have hqz : (q : Int) < (n : Int) := by omega
        have hqz0 : (0 : Int) ≤ (q : Int) := by omega
        obtain rfl := HA.out (by omega)
        obtain rfl := HA2.out (by omega)
        obtain ⟨x, hx⟩ : ∃ x, x = X q := ⟨_, rfl⟩
        obtain ⟨y, hy⟩ : ∃ y, y = Y q := ⟨_, rfl⟩
        have c0 := (HBW.out.cell (p := ⟨b, off + q, none⟩) (HB.out (by omega)).1).trans (HC.out q hlt)
        have c1 := (HBW.out.cell (p := ⟨b2, off2 + q, none⟩) (HB2.out (by omega)).1).trans (HC2.out q hlt)
        rw [← hx] at c0
        rw [← hy] at c1
        have HX := Lib.hid hx; clear hx
        have HY := Lib.hid hy; clear hy
        cases hz : (x.toList == y.toList)
        · have hne : ¬ X q = Y q := fun h => by rw [← HX.out, ← HY.out] at h; rw [h] at hz; exact absurd hz (by simp)
          have HNE := Lib.hid hne; clear hne
          go_wp2_with fail
          go_quiet (fail)
          go_wp2
          go_ret
          exact ⟨false, rfl, ⟨(fun h => by cases h), fun h => absurd ((HP.out.1 h).2 q hlt) HNE.out⟩, below_drewN HBW.out nq⟩
        · have he : x = y := toList_eq hz
          have HEQ := Lib.hid he; clear he
          go_wp2_with fail
          go_quiet (fail)
          go_wp2
          go_roundw
          case rel =>
            refine ⟨q + 1, by omega, by go_num, fun j hj => ?_, below_drewN HBW.out nq⟩
            rcases Nat.lt_succ_iff_lt_or_eq.1 hj with h2 | h2
            · exact HOK.out j h2
            · subst h2; rw [← HX.out, ← HY.out]; exact HEQ.out
          case measure => simp [intOf]; omega
      · have hqn : q = n := by omega
        subst hqn
        have hgt : ¬ ((q : Int) < (q : Int)) := by omega
        go_wp2_with fail
        go_ret
        exact ⟨true, rfl, ⟨fun _ => HP.out.2 (by first | exact ⟨rfl, HOK.out⟩ | exact ⟨trivial, HOK.out⟩), fun _ => rfl⟩, HBW.out⟩
  · have hz : ((n : Int) == (m : Int)) = false := by simp; omega
    go_enter Tryz.func27, Tryz.ntmps27
    go_wp2_with fail
    go_ret
    exact ⟨false, rfl, ⟨(fun h => by cases h), fun h => absurd (HP.out.1 h).1 hnm⟩, Below.refl _ _⟩

set_option maxHeartbeats 2000000 in
theorem samem_any {n m : Nat} {L L2 : Nat → Nat} {X Y : Nat → Nat → ByteArray} {u v : Value} (w : World) (hu : Mt none w u n L X) (hv : Mt none w v m L2 Y) (P : Prop) (hP : P ↔ (n = m ∧ ∀ i, i < n → L i = L2 i ∧ ∀ j, j < L i → X i j = Y i j)) :
    Calls Tryz.prog 16 #[u, v] w (TestE P w) := by
  have HP := Lib.hid hP; clear hP
  obtain ⟨a, cap, b, off, A, C, BB, O, rfl, ha, hc, hm, hb, hrow⟩ := hu.open
  obtain ⟨a2, cap2, b2, off2, A2, C2, BB2, O2, rfl, ha2, hc2, hm2, hb2, hrow2⟩ := hv.open
  unfold maxLen at hm hm2
  clear hu hv
  have HA := Lib.hid ha; clear ha
  have HA2 := Lib.hid ha2; clear ha2
  have HB := Lib.hid hb; clear hb
  have HB2 := Lib.hid hb2; clear hb2
  have HR := Lib.hid hrow; clear hrow
  have HR2 := Lib.hid hrow2; clear hrow2
  by_cases hnm : n = m
  · subst hnm
    go_enter Tryz.func16, Tryz.ntmps16
    go_wp2_with fail
    go_loopw [5] (fun i wr => ∃ q : Nat, q ≤ n ∧ i = .int .i64 (q : Int) ∧ (∀ l, l < q → L l = L2 l ∧ ∀ j, j < L l → X l j = Y l j) ∧ Below w.heap.size w wr) (fun i _ => n - (intOf i).toNat)
    case atStart => exact ⟨0, Nat.zero_le _, rfl, fun j hj => by omega, Below.refl _ _⟩
    case round =>
      obtain ⟨q, hq, rfl, hok, hbw⟩ := hrel
      have HOK := Lib.hid hok; clear hok
      have HBW := Lib.hid hbw; clear hbw
      by_cases hlt : q < n
      · have hqz : (q : Int) < (n : Int) := by omega
        have hqz0 : (0 : Int) ≤ (q : Int) := by omega
        obtain rfl := HA.out (by omega)
        obtain rfl := HA2.out (by omega)
        obtain ⟨r1, _, _, _, _, r6, _⟩ := HR.out q hlt
        obtain ⟨t1, _, _, _, _, t6, _⟩ := HR2.out q hlt
        have c0 := (HBW.out.cell (p := ⟨b, off + q, none⟩) (HB.out (by omega)).1).trans r1
        have c1 := (HBW.out.cell (p := ⟨b2, off2 + q, none⟩) (HB2.out (by omega)).1).trans t1
        have hd1 := drew_gb wr none
        have hsu := (Rd.kept r6 (gb_below HBW.out none)).kept hd1
        have hsv := (Rd.kept t6 (gb_below HBW.out none)).kept hd1
        have HSM := Lib.hid (same_any wr.drew hsu hsv _ Iff.rfl)
        have HKG := Lib.hid (fun wk (hg : wr.grownBy wk none) => keep2' hg c0 c1)
        clear r1 r6 t1 t6 hsu hsv
        go_wp2_with fail
        go_region_held2 (fun wk => wk.cell? ⟨b, off + q, none⟩ = some (.slice (A q) (L q) (C q)) ∧ wk.cell? ⟨b2, off2 + q, none⟩ = some (.slice (A2 q) (L2 q) (C2 q)))
          (first | exact HKG.out _ (by assumption))
          (first
          | (go_at_call 27; refine HSM.out.mono ?_; rintro r w5 ⟨bb, rfl, hbb, hb5⟩; have hn5 := gb_trans hd1 (gb_below hb5 none)))
        rename_i hH
        clear hH
        have hbw5 := HBW.out.trans ((gb_none hn5).mono HBW.out.size)
        have HBW5 := Lib.hid hbw5; clear hbw5 hb5 hn5 hd1 c0 c1
        have HBB := Lib.hid hbb; clear hbb
        cases bb
        · go_wp2_with fail
          go_ret
          exact ⟨false, rfl, ⟨(fun h => by cases h), fun h => absurd (HBB.out.2 ((HP.out.1 h).2 q hlt)) (by simp)⟩, HBW5.out⟩
        · go_wp2_with fail
          go_roundw
          case rel =>
            refine ⟨q + 1, by omega, by go_num, fun j hj => ?_, HBW5.out⟩
            rcases Nat.lt_succ_iff_lt_or_eq.1 hj with h2 | h2
            · exact HOK.out j h2
            · subst h2; exact HBB.out.1 rfl
          case measure => simp [intOf]; omega
      · have hqn : q = n := by omega
        subst hqn
        have hgt : ¬ ((q : Int) < (q : Int)) := by omega
        go_wp2_with fail
        go_ret
        exact ⟨true, rfl, ⟨fun _ => HP.out.2 (by first | exact ⟨rfl, HOK.out⟩ | exact ⟨trivial, HOK.out⟩), fun _ => rfl⟩, HBW.out⟩
  · have hz : ((n : Int) == (m : Int)) = false := by simp; omega
    go_enter Tryz.func16, Tryz.ntmps16
    go_wp2_with fail
    go_ret
    exact ⟨false, rfl, ⟨(fun h => by cases h), fun h => absurd (HP.out.1 h).1 hnm⟩, Below.refl _ _⟩

end Go.Proofs.YtlmfppjphblemaaGreatDoor
