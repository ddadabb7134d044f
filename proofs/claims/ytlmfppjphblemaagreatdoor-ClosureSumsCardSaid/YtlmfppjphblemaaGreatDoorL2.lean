/- The walks of abugidaref06: short, Arcs, Short, Little, Valid. The walks of abugidaref06.Little and Valid. -/
import Derived.Test.YtlmfppjphblemaaGreatDoorL1
namespace Go.Proofs.YtlmfppjphblemaaGreatDoor
open Go Go.RowKit Go.Deep
set_option maxRecDepth 100000
set_option linter.unusedSimpArgs false

theorem short6_any (s : ByteArray) (w : World) (hm : (s.size : Int) ≤ 9223372036854775807) :
    Calls Tryz.prog 71 #[.string s] w fun e w' => e = .returned (.bool (decide (dgn s s.size ≤ 4))) ∧ w = w' := by
  go_enter Tryz.func71, Tryz.ntmps71
  go_wp2_with fail
  go_loop [3, 4] (fun c i => ∃ k : Nat, k ≤ s.size ∧ i = .int .i64 k ∧ c = .int .i64 (dgn s k : Nat)) (fun _ i => s.size - (intOf i).toNat)
  case atStart => exact ⟨0, Nat.zero_le _, rfl, rfl⟩
  case round =>
    obtain ⟨k, hk, rfl, rfl⟩ := hrel
    by_cases hlt : k < s.size
    · have hds := dgn_succ s k hlt
      have hdl := dgn_le s k
      by_cases hlo : (s[k].toNat : Int) < 48
      · rw [dgt_lo hlo] at hds
        have HDS := Lib.hid hds; clear hds
        have hlo' : decide ((48 : Int) ≤ (s[k].toNat : Int)) = false := by simp; omega
        go_wp2_with fail
        go_round
        case rel => exact ⟨k + 1, by omega, by go_num, by rw [HDS.out]; rfl⟩
        case measure => simp [intOf]; omega
      · by_cases hhi : (57 : Int) < (s[k].toNat : Int)
        · rw [dgt_hi hhi] at hds
          have HDS := Lib.hid hds; clear hds
          have hlo' : decide ((48 : Int) ≤ (s[k].toNat : Int)) = true := by simp; omega
          have hhi' : decide ((s[k].toNat : Int) ≤ 57) = false := by simp; omega
          go_wp2_with fail
          go_round
          case rel => exact ⟨k + 1, by omega, by go_num, by rw [HDS.out]; rfl⟩
          case measure => simp [intOf]; omega
        · rw [dgt_true (by omega) (by omega), if_pos rfl] at hds
          have HDS := Lib.hid hds; clear hds
          have hlo' : decide ((48 : Int) ≤ (s[k].toNat : Int)) = true := by simp; omega
          have hhi' : decide ((s[k].toNat : Int) ≤ 57) = true := by simp; omega
          go_wp2_with fail
          go_round
          case rel => exact ⟨k + 1, by omega, by go_num, by rw [HDS.out]; go_num⟩
          case measure => simp [intOf]; omega
    · have hkn : k = s.size := by omega
      have HKN := Lib.hid hkn; clear hkn
      go_wp2_with fail
      go_ret
      exact ⟨ret_bool (by rw [← HKN.out]; simp; omega), rfl⟩


theorem arcsTo_le {D : MD} (hs : MSz D) : ∀ q, arcsTo D q ≤ q * 140737488355328
  | 0 => Nat.le_refl _
  | q + 1 => by
    have h := arcsTo_le hs q
    have h2 := hs.na q
    show arcsTo D q + D.na q ≤ _
    omega
theorem box_below (w : World) (o : Obj) : Below w.heap.size w (w.alloc o) := (Below.refl _ _).alloc (Nat.le_refl _) _

set_option maxHeartbeats 2000000 in
theorem arcs6_any {D : MD} {v : Value} (w : World) (hM : Ma none w v D) (hs : MSz D) (hn : D.n ≤ 100) : Calls Tryz.prog 17 #[v] w (fun r w' => r = .returned (.int .i64 (arcsTo D D.n : Nat)) ∧ Below w.heap.size w w') := by
  obtain ⟨sv, rfl, hS⟩ := hM
  obtain ⟨a, cap, b, off, A, C, BB, O, rfl, ha, hc, hm, hb, hrow⟩ := hS.open
  unfold maxLen at hm
  clear hS
  have hbox := BoxM.new w D (.slice a D.n cap)
  have hbel := box_below w (.cells #[.int .i64 D.kind, .int .i64 D.start, .string D.lead, .slice a D.n cap] 31)
  have HLE := Lib.hid (fun q => arcsTo_le hs q)
  have HNA := Lib.hid hs.na
  clear hs
  have HA := Lib.hid ha; clear ha
  have HB := Lib.hid hb; clear hb
  have HR := Lib.hid hrow; clear hrow
  have HBX := Lib.hid hbox; clear hbox
  have HBE := Lib.hid hbel; clear hbel
  go_enter Tryz.func17, Tryz.ntmps17
  go_wp2_with fail
  obtain ⟨wm, hwm⟩ : ∃ wm, wm = w.alloc (.cells #[.int .i64 D.kind, .int .i64 D.start, .string D.lead, .slice a D.n cap] 31) := ⟨_, rfl⟩
  obtain ⟨mb, hmb⟩ : ∃ mb, mb = w.heap.size := ⟨_, rfl⟩
  rw [← hwm, ← hmb] at HBX
  rw [← hwm] at HBE
  rw [← hwm, ← hmb]
  clear hwm hmb
  go_loopw [3, 4] (fun c i wr => ∃ q ct : Nat, q ≤ D.n ∧ i = .int .i64 (q : Int) ∧ c = .int .i64 (ct : Int) ∧ ct = arcsTo D q ∧ BoxM wr mb D (.slice a D.n cap) ∧ Below w.heap.size w wr) (fun _ i _ => D.n - (intOf i).toNat)
  case atStart => exact ⟨0, 0, Nat.zero_le _, rfl, rfl, rfl, HBX.out, HBE.out⟩
  case round =>
    obtain ⟨q, ct, hq, rfl, rfl, hct, hbx, hbw⟩ := hrel
    clear HBX HBE
    have m3 := hbx.c3
    have HBX := Lib.hid hbx; clear hbx
    have HBW := Lib.hid hbw; clear hbw
    by_cases hlt : q < D.n
    · have hqz : (q : Int) < (D.n : Int) := by omega
      have hqz0 : (0 : Int) ≤ (q : Int) := by omega
      obtain rfl := HA.out (by omega)
      have hbb := (HB.out (by omega)).1
      obtain ⟨k1, k2, k3, k4, _⟩ := HR.out q hlt
      generalize A q = aq at k2
      have c1 := (HBW.out.cell (p := ⟨b, off + q * 2 + 1, none⟩) hbb).trans k2
      clear k1 k2
      have hl1 := HLE.out q
      have hl2 := HNA.out q
      have hcl : ct ≤ 100 * 140737488355328 := Nat.le_trans (Nat.le_of_eq hct) (Nat.le_trans hl1 (Nat.mul_le_mul_right _ (by omega)))
      clear hl1
      have hwrap : IntKind.i64.wrap ((ct : Int) + (D.na q : Int)) = (ct : Int) + (D.na q : Int) := by rw [IntKind.wrap_i64]; omega
      have hnx : ct + D.na q = arcsTo D (q + 1) := by rw [hct]; rfl
      have hl2z : (D.na q : Int) ≤ 9223372036854775807 := by omega
      have HNX := Lib.hid hnx; clear hnx hct hcl hl2
      go_wp2_with fail
      go_roundw
      case rel => exact ⟨q + 1, ct + D.na q, by omega, by go_num, by go_num, HNX.out, HBX.out, HBW.out⟩
      case measure => simp [intOf]; omega
    · have hqn : q = D.n := by omega
      have hgt : ¬ ((q : Int) < (D.n : Int)) := by omega
      have hct2 : ct = arcsTo D D.n := by rw [hct, hqn]
      have HCT := Lib.hid hct2; clear hct2 hct
      have HQN := Lib.hid hqn; clear hqn
      go_wp2_with fail
      go_ret
      first | exact ⟨rfl, HBW.out⟩ | exact ⟨ret_int (by rw [HCT.out]), HBW.out⟩

/-- All weights are short. -/
structure ShM (D : MD) : Prop where
  lead : dgn D.lead D.lead.size ≤ 4
  st : ∀ i, i < D.n → dgn (D.fin i) (D.fin i).size ≤ 4 ∧ ∀ d, d < D.na i → dgn (D.aw i d) (D.aw i d).size ≤ 4

set_option maxHeartbeats 2000000 in
theorem shortm_any {D : MD} {v : Value} (w : World) (hM : Ma none w v D) (hs : MSz D) (P : Prop) (hP : P ↔ ShM D) : Calls Tryz.prog 52 #[v] w (TestE P w) := by
  have HP := Lib.hid hP; clear hP
  obtain ⟨sv, rfl, hS⟩ := hM
  obtain ⟨a, cap, b, off, A, C, BB, O, rfl, ha, hc, hm, hb, hrow⟩ := hS.open
  unfold maxLen at hm
  clear hS
  have hnn := hs.n
  have hbox := BoxM.new w D (.slice a D.n cap)
  have hbel := box_below w (.cells #[.int .i64 D.kind, .int .i64 D.start, .string D.lead, .slice a D.n cap] 31)
  have HSZ := Lib.hid hs; clear hs
  have HA := Lib.hid ha; clear ha
  have HB := Lib.hid hb; clear hb
  have HR := Lib.hid hrow; clear hrow
  obtain ⟨wm, hwm⟩ : ∃ wm, wm = w.alloc (.cells #[.int .i64 D.kind, .int .i64 D.start, .string D.lead, .slice a D.n cap] 31) := ⟨_, rfl⟩
  obtain ⟨mb, hmb⟩ : ∃ mb, mb = w.heap.size := ⟨_, rfl⟩
  rw [← hwm, ← hmb] at hbox
  rw [← hwm] at hbel
  have m2 := hbox.c2
  have HBX := Lib.hid hbox; clear hbox
  have HBE := Lib.hid hbel; clear hbel
  have HSH := Lib.hid (fun wx => short6_any D.lead wx (by have := HSZ.out.lead; omega))
  rw [hwm, hmb] at m2
  go_enter Tryz.func52, Tryz.ntmps52
  go_wp2_with fail
  rw [← hwm, ← hmb] at m2
  rw [← hwm, ← hmb]
  clear hwm hmb m2
  refine (HSH.out _).mono ?_
  rintro r w1 ⟨rfl, rfl⟩
  cases hl : decide (dgn D.lead D.lead.size ≤ 4)
  · go_wp2_with fail
    go_ret
    exact ⟨false, rfl, ⟨(fun h => by cases h), fun h => by have h1 := (HP.out.1 h).lead; rw [decide_eq_true h1] at hl; cases hl⟩, HBE.out⟩
  · have HL := Lib.hid (of_decide_eq_true hl)
    go_wp2_with fail
    go_loopw [3] (fun i wr => ∃ q : Nat, q ≤ D.n ∧ i = .int .i64 (q : Int) ∧ (∀ l, l < q → dgn (D.fin l) (D.fin l).size ≤ 4 ∧ ∀ d, d < D.na l → dgn (D.aw l d) (D.aw l d).size ≤ 4) ∧ BoxM wr mb D (.slice a D.n cap) ∧ Below w.heap.size w wr) (fun i _ => D.n - (intOf i).toNat)
    case atStart => exact ⟨0, Nat.zero_le _, rfl, fun l hl => by omega, HBX.out, HBE.out⟩
    case round =>
      obtain ⟨q, hq, rfl, hok, hbx, hbw⟩ := hrel
      clear HBX HBE
      have m3 := hbx.c3
      have HOK := Lib.hid hok; clear hok
      have HBX := Lib.hid hbx; clear hbx
      have HBW := Lib.hid hbw; clear hbw
      by_cases hlt : q < D.n
      · have hqz : (q : Int) < (D.n : Int) := by omega
        have hqz0 : (0 : Int) ≤ (q : Int) := by omega
        obtain rfl := HA.out (by omega)
        have hbb := (HB.out (by omega)).1
        obtain ⟨k1, k2, k3, k4, k5, k6, k7⟩ := HR.out q hlt
        generalize A q = aq at k2 k5
        have c0 := (HBW.out.cell (p := ⟨b, off + q * 2, none⟩) hbb).trans k1
        unfold maxLen at k4
        clear k1
        have HK2 := Lib.hid k2; clear k2
        have HK7 := Lib.hid k7; clear k7
        have HK5 := Lib.hid k5; clear k5
        have HK6 := Lib.hid k6; clear k6
        have hna := HSZ.out.na q
        have HSF := Lib.hid (fun wx => short6_any (D.fin q) wx (by have := HSZ.out.fin q; omega))
        go_wp2_with fail
        refine (HSF.out _).mono ?_
        rintro r w2 ⟨rfl, rfl⟩
        clear c0
        cases hf : decide (dgn (D.fin q) (D.fin q).size ≤ 4)
        · go_wp2_with fail
          go_ret
          exact ⟨false, rfl, ⟨(fun h => by cases h), fun h => by have h1 := ((HP.out.1 h).st q hlt).1; rw [decide_eq_true h1] at hf; cases hf⟩, HBW.out⟩
        · have HF := Lib.hid (of_decide_eq_true hf)
          go_wp2_with fail
          go_loopw [4] (fun i wr => ∃ d : Nat, d ≤ D.na q ∧ i = .int .i64 (d : Int) ∧ (∀ l, l < d → dgn (D.aw q l) (D.aw q l).size ≤ 4) ∧ BoxM wr mb D (.slice (some ⟨b, off, none⟩) D.n cap) ∧ Below w.heap.size w wr) (fun i _ => D.na q - (intOf i).toNat)
          case atStart => exact ⟨0, Nat.zero_le _, rfl, fun l hl => by omega, HBX.out, HBW.out⟩
          case round =>
            clear HBX HBW m3
            obtain ⟨d, hd, rfl, hgood, hbx, hbw⟩ := hrel
            have m3 := hbx.c3
            have HGJ := Lib.hid hgood; clear hgood
            have HBX := Lib.hid hbx; clear hbx
            have HBW := Lib.hid hbw; clear hbw
            have c1 := (HBW.out.cell (p := ⟨b, off + q * 2 + 1, none⟩) hbb).trans HK2.out
            by_cases hlt2 : d < D.na q
            · have hdz : (d : Int) < (D.na q : Int) := by omega
              have hdz0 : (0 : Int) ≤ (d : Int) := by omega
              obtain rfl := HK5.out (by omega)
              have hbq := (HK6.out (by omega)).1
              obtain ⟨_, _, j2, _⟩ := HK7.out d hlt2
              have e2 := (HBW.out.cell (p := ⟨BB q, O q + d * 4 + 2, none⟩) hbq).trans j2
              clear j2
              have HSW := Lib.hid (fun wx => short6_any (D.aw q d) wx (by have := HSZ.out.aw q d; omega))
              go_wp2_with fail
              refine (HSW.out _).mono ?_
              rintro r w2 ⟨rfl, rfl⟩
              clear c1 e2
              cases hw : decide (dgn (D.aw q d) (D.aw q d).size ≤ 4)
              · go_wp2_with fail
                go_ret
                exact ⟨false, rfl, ⟨(fun h => by cases h), fun h => by have h1 := ((HP.out.1 h).st q hlt).2 d hlt2; rw [decide_eq_true h1] at hw; cases hw⟩, HBW.out⟩
              · have HW := Lib.hid (of_decide_eq_true hw)
                go_wp2_with fail
                go_roundw
                case rel =>
                  refine ⟨d + 1, by omega, by go_num, fun l hl => ?_, HBX.out, HBW.out⟩
                  rcases Nat.lt_succ_iff_lt_or_eq.1 hl with h2 | h2
                  · exact HGJ.out l h2
                  · subst h2; exact HW.out
                case measure => simp [intOf]; omega
            · have hdn : d = D.na q := by omega
              have hgt : ¬ ((d : Int) < (D.na q : Int)) := by omega
              have HDN := Lib.hid hdn; clear hdn
              go_wp2_with fail
              go_roundw
              case rel =>
                refine ⟨q + 1, by omega, by go_num, fun l hl => ?_, HBX.out, HBW.out⟩
                rcases Nat.lt_succ_iff_lt_or_eq.1 hl with h2 | h2
                · exact HOK.out l h2
                · subst h2; exact ⟨HF.out, fun d' hd' => HGJ.out d' (by have := HDN.out; omega)⟩
              case measure => simp [intOf]; omega
      · have hqn : q = D.n := by omega
        have hgt : ¬ ((q : Int) < (D.n : Int)) := by omega
        have HQN := Lib.hid hqn; clear hqn
        go_wp2_with fail
        go_ret
        exact ⟨true, rfl, ⟨fun _ => HP.out.2 ⟨HL.out, fun i hi => HOK.out i (by have := HQN.out; omega)⟩, fun _ => rfl⟩, HBW.out⟩
end Go.Proofs.YtlmfppjphblemaaGreatDoor

namespace Go.Proofs.YtlmfppjphblemaaGreatDoor
open Go Go.RowKit Go.Deep
set_option maxRecDepth 100000
set_option linter.unusedSimpArgs false

theorem LitM.of {D : MD} : LitM D ↔ (D.n ≤ 5 ∧ arcsTo D D.n ≤ 10 ∧ ShM D) :=
  ⟨fun h => ⟨h.n, h.arcs, h.lead, fun i hi => ⟨h.fin i hi, fun d hd => h.aw i d hi hd⟩⟩, fun h => ⟨h.2.2.lead, fun i hi => (h.2.2.st i hi).1, fun i d hi hd => (h.2.2.st i hi).2 d hd, h.1, h.2.1⟩⟩
set_option maxHeartbeats 4000000 in
theorem little6_any {D : MD} {sv : Value} {lb : Nat} (w : World) (hlb : lb < w.heap.size) (h0 : w.cell? ⟨lb, 0, none⟩ = some (.int .i64 D.kind)) (h1 : w.cell? ⟨lb, 1, none⟩ = some (.int .i64 D.start)) (h2 : w.cell? ⟨lb, 2, none⟩ = some (.string D.lead))
    (h3 : w.cell? ⟨lb, 3, none⟩ = some sv) (hS : StS none w sv D) (hs : MSz D) (hn : D.n ≤ 60) (P : Prop) (hP : P ↔ LitM D) :
    Calls Tryz.prog 22 #[.slice (some ⟨lb, 0, none⟩) 1 1, .slice none 0 0] w (TestE P w) := by
  rw [LitM.of] at hP
  have HP := Lib.hid hP; clear hP
  obtain ⟨a, cap, b, off, A, C, BB, O, hsv, _⟩ := hS.open
  subst hsv
  have hle := arcsTo_le hs D.n
  obtain ⟨ct, hct⟩ : ∃ ct, ct = arcsTo D D.n := ⟨_, rfl⟩
  have hcl : ct ≤ 60 * 140737488355328 := Nat.le_trans (Nat.le_of_eq hct) (Nat.le_trans hle (Nat.mul_le_mul_right _ hn))
  clear hle
  have HAR := Lib.hid (fun wx (hb : Below w.heap.size w wx) => arcs6_any wx (⟨_, rfl, hS.kept (gb_below hb none)⟩ : Ma none wx (.agg #[.int .i64 D.kind, .int .i64 D.start, .string D.lead, .slice a D.n cap]) D) hs (by omega))
  rw [← hct] at HAR HP
  have HSH := Lib.hid (fun wx (hb : Below w.heap.size w wx) => shortm_any wx (⟨_, rfl, hS.kept (gb_below hb none)⟩ : Ma none wx (.agg #[.int .i64 D.kind, .int .i64 D.start, .string D.lead, .slice a D.n cap]) D) hs (ShM D) Iff.rfl)
  have HCT := Lib.hid hct; clear hct
  have HKC := Lib.hid (fun wx (hb : Below w.heap.size w wx) => (⟨(hb.cell (p := ⟨lb, 0, none⟩) hlb).trans h0, (hb.cell (p := ⟨lb, 1, none⟩) hlb).trans h1, (hb.cell (p := ⟨lb, 2, none⟩) hlb).trans h2, (hb.cell (p := ⟨lb, 3, none⟩) hlb).trans h3⟩ :
    wx.cell? ⟨lb, 0, none⟩ = some (.int .i64 D.kind) ∧ wx.cell? ⟨lb, 1, none⟩ = some (.int .i64 D.start) ∧ wx.cell? ⟨lb, 2, none⟩ = some (.string D.lead) ∧ wx.cell? ⟨lb, 3, none⟩ = some (.slice a D.n cap)))
  clear h0 h1 h2 h3 hS hs
  go_enter Tryz.func22, Tryz.ntmps22
  go_wp2_with fail
  go_loopw [5, 6, 8] (fun s c i wr => Below w.heap.size w wr ∧ ((i = .int .i64 0 ∧ s = .int .i64 0 ∧ c = .int .i64 0) ∨ (i = .int .i64 1 ∧ s = .int .i64 (D.n : Int) ∧ c = .int .i64 (ct : Int) ∧ ShM D))) (fun _ _ i _ => 1 - (intOf i).toNat)
  case atStart => exact ⟨Below.refl _ _, .inl ⟨rfl, rfl, rfl⟩⟩
  case round =>
    obtain ⟨hbw, hr⟩ := hrel
    rcases hr with ⟨rfl, rfl, rfl⟩ | ⟨rfl, rfl, rfl, hsh⟩
    · obtain ⟨c0, c1, c2, c3⟩ := HKC.out _ hbw
      have HBW := Lib.hid hbw; clear hbw
      go_wp2_with fail
      refine (HAR.out _ HBW.out).mono ?_
      rintro r w2 ⟨rfl, hb2⟩
      have hbw2 := HBW.out.trans (hb2.mono HBW.out.size)
      clear hb2 c0 c1 c2 c3
      obtain ⟨c0, c1, c2, c3⟩ := HKC.out _ hbw2
      have HBW2 := Lib.hid hbw2; clear hbw2
      go_wp2_with fail
      refine (HSH.out _ HBW2.out).mono ?_
      rintro r w3 ⟨bb, rfl, hbb, hb3⟩
      have hbw3 := HBW2.out.trans (hb3.mono HBW2.out.size)
      have HBB := Lib.hid hbb; clear hbb hb3 c0 c1 c2 c3
      cases bb
      · go_wp2_with fail
        go_ret
        exact ⟨false, rfl, ⟨(fun h => by cases h), fun h => by have h1 := HBB.out.2 (HP.out.1 h).2.2; cases h1⟩, hbw3⟩
      · go_wp2_with fail
        go_roundw
        case rel => exact ⟨hbw3, .inr ⟨by go_num, by go_num, by go_num, HBB.out.1 (by first | rfl | trivial)⟩⟩
        case measure => simp [intOf]
    · have HSM := Lib.hid hsh; clear hsh
      go_wp2_with fail
      go_loopw [7, 9] (fun y i wr => y = .int .i64 0 ∧ i = .int .i64 0 ∧ Below w.heap.size w wr) (fun _ _ _ => 0)
      case atStart => exact ⟨rfl, rfl, hbw⟩
      case round =>
        clear hbw
        obtain ⟨rfl, rfl, hbw⟩ := hrel
        have HBW := Lib.hid hbw; clear hbw
        by_cases h5 : D.n ≤ 5
        · have h5z : decide ((D.n : Int) ≤ 5) = true := by simp; omega
          by_cases h10 : ct ≤ 10
          · have h10z : decide ((ct : Int) ≤ 10) = true := by simp; omega
            go_wp2_with fail
            go_ret
            exact ⟨true, rfl, ⟨fun _ => HP.out.2 ⟨h5, h10, HSM.out⟩, fun _ => rfl⟩, HBW.out⟩
          · have h10z : decide ((ct : Int) ≤ 10) = false := by simp; omega
            go_wp2_with fail
            go_ret
            exact ⟨false, rfl, ⟨(fun h => by cases h), fun h => absurd (HP.out.1 h).2.1 h10⟩, HBW.out⟩
        · have h5z : decide ((D.n : Int) ≤ 5) = false := by simp; omega
          go_wp2_with fail
          go_ret
          exact ⟨false, rfl, ⟨(fun h => by cases h), fun h => absurd (HP.out.1 h).1 h5⟩, HBW.out⟩

set_option maxHeartbeats 8000000 in
theorem valid6_any {D : MD} {v : Value} (w : World) (hM : Ma none w v D) (hs : MSz D) : Calls Tryz.prog 21 #[v] w (ValidE D w) := by
  obtain ⟨sv, rfl, hS⟩ := hM
  obtain ⟨a, cap, b, off, A, C, BB, O, rfl, ha, hc, hm, hb, hrow⟩ := hS.open
  unfold maxLen at hm
  clear hS
  have hbox := BoxM.new w D (.slice a D.n cap)
  have hbel := box_below w (.cells #[.int .i64 D.kind, .int .i64 D.start, .string D.lead, .slice a D.n cap] 31)
  have hnn := hs.n
  have HSZ := Lib.hid hs; clear hs
  have HA := Lib.hid ha; clear ha
  have HB := Lib.hid hb; clear hb
  have HR := Lib.hid hrow; clear hrow
  have m0 := hbox.c0
  have m1 := hbox.c1
  have m2 := hbox.c2
  have m3 := hbox.c3
  have HBX := Lib.hid hbox; clear hbox
  have HBE := Lib.hid hbel; clear hbel
  have HKD := Lib.hid (fun wx => rkind_any D.kind wx)
  have HWL := Lib.hid (fun wx => r4weight_any D.kind D.lead wx HSZ.out.lead)
  go_enter Tryz.func21, Tryz.ntmps21
  go_wp2_with fail
  refine (HKD.out _).mono ?_
  rintro r w1 ⟨rfl, rfl⟩
  cases hkb : kindB D.kind
  · go_wp2_with fail
    go_ret
    exact ⟨HBE.out, .inr ⟨fun v => by have h1 := v.kind; rw [hkb] at h1; exact absurd h1 (by simp), rfl⟩⟩
  by_cases hn1 : D.n < 1
  · have hn1z : decide ((D.n : Int) < 1) = true := by simp; omega
    go_wp2_with fail
    go_ret
    exact ⟨HBE.out, .inr ⟨fun v => by have h1 := v.n1; omega, rfl⟩⟩
  have hn1z : decide ((D.n : Int) < 1) = false := by simp; omega
  by_cases hn2 : 3000 < D.n
  · have hn2z : decide ((3000 : Int) < (D.n : Int)) = true := by simp; omega
    go_wp2_with fail
    go_ret
    exact ⟨HBE.out, .inr ⟨fun v => by have h1 := v.n2; omega, rfl⟩⟩
  have hn2z : decide ((3000 : Int) < (D.n : Int)) = false := by simp; omega
  by_cases hs0 : D.start < 0
  · go_wp2_with fail
    go_ret
    exact ⟨HBE.out, .inr ⟨fun v => by have h1 := v.s0; omega, rfl⟩⟩
  have hs0z : decide (D.start < 0) = false := by simp; omega
  by_cases hs1 : (D.n : Int) ≤ D.start
  · go_wp2_with fail
    go_ret
    exact ⟨HBE.out, .inr ⟨fun v => by have h1 := v.s1; omega, rfl⟩⟩
  have hs1z : decide ((D.n : Int) ≤ D.start) = false := by simp; omega
  have hpre : 1 ≤ D.n ∧ D.n ≤ 3000 ∧ 0 ≤ D.start ∧ D.start < (D.n : Int) := by omega
  have HPRE := Lib.hid hpre; clear hpre
  have HKB := Lib.hid hkb; clear hkb
  go_wp2_with fail
  obtain ⟨wm, hwm⟩ : ∃ wm, wm = w.alloc (.cells #[.int .i64 D.kind, .int .i64 D.start, .string D.lead, .slice a D.n cap] 31) := ⟨_, rfl⟩
  obtain ⟨mb, hmb⟩ : ∃ mb, mb = w.heap.size := ⟨_, rfl⟩
  rw [← hwm, ← hmb] at HBX
  rw [← hwm] at HBE
  rw [← hwm, ← hmb] at m0 m1 m2 m3
  rw [← hwm, ← hmb]
  clear hwm hmb
  refine (HWL.out _).mono ?_
  rintro r w1 ⟨rfl, hb1⟩
  clear m0 m1 m2 m3
  cases hw : weightF D.kind D.lead
  · go_wp2_with fail
    go_ret
    exact ⟨HBE.out.trans (hb1.mono HBE.out.size), .inr ⟨fun v => by rw [v.lead] at hw; exact absurd hw (by simp), rfl⟩⟩
  · have hbx1 := HBX.out.kept (gb_below hb1 none) (by simp)
    have hbe1 := HBE.out.trans (hb1.mono HBE.out.size)
    clear hb1
    have HLW := Lib.hid hw; clear hw
    have HBX1 := Lib.hid hbx1; clear hbx1 HBX
    have HBE1 := Lib.hid hbe1; clear hbe1 HBE
    go_wp2_with fail
    -- ████ for i
    go_loopw [3, 4] (fun c i wr => ∃ q ct : Nat, q ≤ D.n ∧ i = .int .i64 (q : Int) ∧ c = .int .i64 (ct : Int) ∧ ct = arcsTo D q ∧ ct ≤ 30000 ∧
      (∀ l, l < q → (D.fin l = ⟨#[]⟩ ∨ weightF D.kind (D.fin l) = true) ∧ ∀ k, k < D.na l → ArcOk D l k) ∧ BoxM wr mb D (.slice a D.n cap) ∧ Below w.heap.size w wr) (fun _ i _ => D.n - (intOf i).toNat)
    case atStart => exact ⟨0, 0, Nat.zero_le _, rfl, rfl, rfl, by omega, fun l hl => by omega, HBX1.out, HBE1.out⟩
    case round =>
      obtain ⟨q, ct, hq, rfl, rfl, hcq, hac, hok, hbx, hbw⟩ := hrel
      clear HBX1 HBE1
      have m3 := hbx.c3
      have HOK := Lib.hid hok; clear hok
      have HBX := Lib.hid hbx; clear hbx
      have HBW := Lib.hid hbw; clear hbw
      by_cases hlt : q < D.n
      · have hqz : (q : Int) < (D.n : Int) := by omega
        have hqz0 : (0 : Int) ≤ (q : Int) := by omega
        obtain rfl := HA.out (by omega)
        have hbb := (HB.out (by omega)).1
        obtain ⟨k1, k2, k3, k4, k5, k6, k7⟩ := HR.out q hlt
        obtain ⟨aq, haq⟩ : ∃ aq, aq = A q := ⟨_, rfl⟩
        rw [← haq] at k2 k5
        clear haq
        have c0 := (HBW.out.cell (p := ⟨b, off + q * 2, none⟩) hbb).trans k1
        have c1 := (HBW.out.cell (p := ⟨b, off + q * 2 + 1, none⟩) hbb).trans k2
        unfold maxLen at k4
        have mA0 := fun o => (BoxM.c0 (HBX.out.kept (World.grownBy_alloc wr o none) (by simp)))
        have HMB2 := Lib.hid (fun o => HBX.out.kept (World.grownBy_alloc wr o none) (by simp))
        have HMW := Lib.hid (fun o => HBW.out.alloc HBW.out.size o)
        have HMC := Lib.hid (fun o => cell_new wr #[.string (D.fin q), .slice aq (D.na q) (C q)] o 1 _ rfl)
        clear k1 k2
        have HK7 := Lib.hid k7; clear k7
        have HK5 := Lib.hid k5; clear k5
        have HK6 := Lib.hid k6; clear k6
        have hna := HSZ.out.na q
        have hwrap : IntKind.i64.wrap ((ct : Int) + (D.na q : Int)) = (ct : Int) + (D.na q : Int) := by rw [IntKind.wrap_i64]; omega
        by_cases hG : 30000 < ct + D.na q
        · have hGz : decide ((30000 : Int) < (ct : Int) + (D.na q : Int)) = true := by simp; omega
          go_wp2_with fail
          go_ret
          exact ⟨HMW.out _, .inr ⟨fun v => by have h1 := v.arcs; have h2 := arcsTo_mono D (show q + 1 ≤ D.n by omega); have h3 : arcsTo D (q + 1) = arcsTo D q + D.na q := rfl; omega, rfl⟩⟩
        · have hGz : decide ((30000 : Int) < (ct : Int) + (D.na q : Int)) = false := by simp; omega
          have hac2 : arcsTo D q + D.na q ≤ 30000 := by omega
          subst hcq
          obtain ⟨xb, hxb⟩ : ∃ xb, xb = wr.heap.size := ⟨_, rfl⟩
          cases hF : ((D.fin q).toList == [])
          · have HWF := Lib.hid (fun wx => r4weight_any D.kind (D.fin q) wx (HSZ.out.fin q))
            go_wp2_with fail
            refine (HWF.out _).mono ?_
            rintro r w2 ⟨rfl, hb2⟩
            cases hwq : weightF D.kind (D.fin q)
            · go_wp2_with fail
              go_ret
              exact ⟨(HMW.out _).trans (hb2.mono (HMW.out _).size), .inr ⟨fun v => by
                rcases v.fin q hlt with h1 | h1
                · rw [h1] at hF; exact absurd hF (by simp)
                · rw [h1] at hwq; exact absurd hwq (by simp), rfl⟩⟩
            · have hx1 := (HMB2.out (.cells #[.string (D.fin q), .slice aq (D.na q) (C q)] 53)).kept (gb_below hb2 none) (by simp)
              have hx2 := (HMW.out (.cells #[.string (D.fin q), .slice aq (D.na q) (C q)] 53)).trans (hb2.mono (HMW.out _).size)
              have hx3 := (gb_below hb2 none).cell (HMC.out _) (by simp)
              clear hb2 mA0 m3 c0 c1
              rw [← hxb] at hx3
              have HX1 := Lib.hid hx1; clear hx1
              have HX2 := Lib.hid hx2; clear hx2
              have HX3 := Lib.hid hx3; clear hx3
              have HFW := Lib.hid (show D.fin q = ⟨#[]⟩ ∨ weightF D.kind (D.fin q) = true from .inr hwq)
              clear hwq
              go_wp2_with fail
              rw [← hxb]
              clear hxb
              go_loopw [6] (fun i wr => ∃ d : Nat, d ≤ D.na q ∧ i = .int .i64 (d : Int) ∧ (∀ k, k < d → ArcOk D q k) ∧ BoxM wr mb D (.slice (some ⟨b, off, none⟩) D.n cap) ∧ wr.cell? ⟨xb, 1, none⟩ = some (.slice aq (D.na q) (C q)) ∧ Below w.heap.size w wr) (fun i _ => D.na q - (intOf i).toNat)
              case atStart => exact ⟨0, Nat.zero_le _, rfl, fun k hk => by omega, HX1.out, HX3.out, HX2.out⟩
              case round =>
                obtain ⟨d, hd, rfl, hko, hbx2, x1, hbw2⟩ := hrel
                clear HX1 HX2 HX3
                have HKO := Lib.hid hko; clear hko
                have HBX2 := Lib.hid hbx2; clear hbx2
                have HBW2 := Lib.hid hbw2; clear hbw2
                by_cases hlt2 : d < D.na q
                · have hdz : (d : Int) < (D.na q : Int) := by omega
                  have hdz0 : (0 : Int) ≤ (d : Int) := by omega
                  obtain rfl := HK5.out (by omega)
                  have hbq := (HK6.out (by omega)).1
                  obtain ⟨j0, j1, j2, j3⟩ := HK7.out d hlt2
                  have e0 := (HBW2.out.cell (p := ⟨BB q, O q + d * 4, none⟩) hbq).trans j0
                  have e1 := (HBW2.out.cell (p := ⟨BB q, O q + d * 4 + 1, none⟩) hbq).trans j1
                  have e2 := (HBW2.out.cell (p := ⟨BB q, O q + d * 4 + 2, none⟩) hbq).trans j2
                  have e3 := (HBW2.out.cell (p := ⟨BB q, O q + d * 4 + 3, none⟩) hbq).trans j3
                  clear j0 j1 j2 j3
                  have mA0 := fun o => (BoxM.c0 (HBX2.out.kept (World.grownBy_alloc wr o none) (by simp)))
                  have mA3 := fun o => (BoxM.c3 (HBX2.out.kept (World.grownBy_alloc wr o none) (by simp)))
                  have HMB3 := Lib.hid (fun o => HBX2.out.kept (World.grownBy_alloc wr o none) (by simp))
                  have HMX3 := Lib.hid (fun o => (World.grownBy_alloc wr o none).cell x1 (by simp))
                  have HMW3 := Lib.hid (fun o => HBW2.out.alloc HBW2.out.size o)
                  have HWF3 := Lib.hid (fun wx => r4weight_any D.kind (D.aw q d) wx (HSZ.out.aw q d))
                  by_cases hi0 : D.ain q d < 0
                  · go_wp2_with fail
                    go_ret
                    exact ⟨HMW3.out _, .inr ⟨fun v => by have h1 := (v.arc q d hlt hlt2).i0; omega, rfl⟩⟩
                  · have hi0z : decide (D.ain q d < 0) = false := by simp; omega
                    by_cases hi1 : 500 < D.ain q d
                    · go_wp2_with fail
                      go_ret
                      exact ⟨HMW3.out _, .inr ⟨fun v => by have h1 := (v.arc q d hlt hlt2).i1; omega, rfl⟩⟩
                    · have hi1z : decide ((500 : Int) < D.ain q d) = false := by simp; omega
                      by_cases ho0 : D.aout q d < 0
                      · go_wp2_with fail
                        go_ret
                        exact ⟨HMW3.out _, .inr ⟨fun v => by have h1 := (v.arc q d hlt hlt2).o0; omega, rfl⟩⟩
                      · have ho0z : decide (D.aout q d < 0) = false := by simp; omega
                        by_cases ho1 : 500 < D.aout q d
                        · go_wp2_with fail
                          go_ret
                          exact ⟨HMW3.out _, .inr ⟨fun v => by have h1 := (v.arc q d hlt hlt2).o1; omega, rfl⟩⟩
                        · have ho1z : decide ((500 : Int) < D.aout q d) = false := by simp; omega
                          by_cases ht0 : D.ato q d < 0
                          · go_wp2_with fail
                            go_ret
                            exact ⟨HMW3.out _, .inr ⟨fun v => by have h1 := (v.arc q d hlt hlt2).t0; omega, rfl⟩⟩
                          · have ht0z : decide (D.ato q d < 0) = false := by simp; omega
                            by_cases ht1 : (D.n : Int) ≤ D.ato q d
                            · go_wp2_with fail
                              go_ret
                              exact ⟨HMW3.out _, .inr ⟨fun v => by have h1 := (v.arc q d hlt hlt2).t1; omega, rfl⟩⟩
                            · have ht1z : decide ((D.n : Int) ≤ D.ato q d) = false := by simp; omega
                              go_wp2_with fail
                              refine (HWF3.out _).mono ?_
                              rintro r w4 ⟨rfl, hb4⟩
                              have hbx4 := (HMB3.out _).kept (gb_below hb4 none) (by simp)
                              have hx4 := (gb_below hb4 none).cell (HMX3.out _) (by simp)
                              have hbw4 := (HMW3.out _).trans (hb4.mono (HMW3.out _).size)
                              clear hb4 mA0 mA3 e0 e1 e2 e3 x1
                              cases hw4 : weightF D.kind (D.aw q d)
                              · go_wp2_with fail
                                go_ret
                                exact ⟨hbw4, .inr ⟨fun v => by have h1 := (v.arc q d hlt hlt2).wt; rw [hw4] at h1; exact absurd h1 (by simp), rfl⟩⟩
                              · have HW4 := Lib.hid hw4
                                go_wp2_with fail
                                go_roundw
                                case rel =>
                                  refine ⟨d + 1, by omega, by go_num, fun k hk => ?_, hbx4, hx4, hbw4⟩
                                  rcases Nat.lt_succ_iff_lt_or_eq.1 hk with h2 | h2
                                  · exact HKO.out k h2
                                  · subst h2
                                    exact ⟨by omega, by omega, by omega, by omega, by omega, by omega, HW4.out⟩
                                case measure => simp [intOf]; omega
                · have hdn : d = D.na q := by omega
                  have hgt : ¬ ((d : Int) < (D.na q : Int)) := by omega
                  have HDN := Lib.hid hdn; clear hdn
                  go_wp2_with fail
                  go_roundw
                  case rel =>
                    refine ⟨q + 1, arcsTo D q + D.na q, by omega, by go_num, by go_num, rfl, by omega, fun l hl => ?_, HBX2.out, HBW2.out⟩
                    rcases Nat.lt_succ_iff_lt_or_eq.1 hl with h2 | h2
                    · exact HOK.out l h2
                    · subst h2; exact ⟨HFW.out, fun k hk => HKO.out k (by have := HDN.out; omega)⟩
                  case measure => simp [intOf]; omega
          · have hfe : D.fin q = ⟨#[]⟩ := by rw [beq_iff_eq, Lib.toList_data] at hF; exact ByteArray.ext (Array.toList_inj.1 hF)
            have HFW := Lib.hid (show D.fin q = ⟨#[]⟩ ∨ weightF D.kind (D.fin q) = true from .inl hfe)
            clear hfe
            have HX1 := Lib.hid (HMB2.out (.cells #[.string (D.fin q), .slice aq (D.na q) (C q)] 53))
            have HX2 := Lib.hid (HMW.out (.cells #[.string (D.fin q), .slice aq (D.na q) (C q)] 53))
            have hx3 := HMC.out 53
            rw [← hxb] at hx3
            have HX3 := Lib.hid hx3; clear hx3
            go_wp2_with fail
            rw [← hxb]
            clear hxb mA0 m3 c0 c1
            go_loopw [6] (fun i wr => ∃ d : Nat, d ≤ D.na q ∧ i = .int .i64 (d : Int) ∧ (∀ k, k < d → ArcOk D q k) ∧ BoxM wr mb D (.slice (some ⟨b, off, none⟩) D.n cap) ∧ wr.cell? ⟨xb, 1, none⟩ = some (.slice aq (D.na q) (C q)) ∧ Below w.heap.size w wr) (fun i _ => D.na q - (intOf i).toNat)
            case atStart => exact ⟨0, Nat.zero_le _, rfl, fun k hk => by omega, HX1.out, HX3.out, HX2.out⟩
            case round =>
              obtain ⟨d, hd, rfl, hko, hbx2, x1, hbw2⟩ := hrel
              clear HX1 HX2 HX3
              have HKO := Lib.hid hko; clear hko
              have HBX2 := Lib.hid hbx2; clear hbx2
              have HBW2 := Lib.hid hbw2; clear hbw2
              by_cases hlt2 : d < D.na q
              · have hdz : (d : Int) < (D.na q : Int) := by omega
                have hdz0 : (0 : Int) ≤ (d : Int) := by omega
                obtain rfl := HK5.out (by omega)
                have hbq := (HK6.out (by omega)).1
                obtain ⟨j0, j1, j2, j3⟩ := HK7.out d hlt2
                have e0 := (HBW2.out.cell (p := ⟨BB q, O q + d * 4, none⟩) hbq).trans j0
                have e1 := (HBW2.out.cell (p := ⟨BB q, O q + d * 4 + 1, none⟩) hbq).trans j1
                have e2 := (HBW2.out.cell (p := ⟨BB q, O q + d * 4 + 2, none⟩) hbq).trans j2
                have e3 := (HBW2.out.cell (p := ⟨BB q, O q + d * 4 + 3, none⟩) hbq).trans j3
                clear j0 j1 j2 j3
                have mA0 := fun o => (BoxM.c0 (HBX2.out.kept (World.grownBy_alloc wr o none) (by simp)))
                have mA3 := fun o => (BoxM.c3 (HBX2.out.kept (World.grownBy_alloc wr o none) (by simp)))
                have HMB3 := Lib.hid (fun o => HBX2.out.kept (World.grownBy_alloc wr o none) (by simp))
                have HMX3 := Lib.hid (fun o => (World.grownBy_alloc wr o none).cell x1 (by simp))
                have HMW3 := Lib.hid (fun o => HBW2.out.alloc HBW2.out.size o)
                have HWF3 := Lib.hid (fun wx => r4weight_any D.kind (D.aw q d) wx (HSZ.out.aw q d))
                by_cases hi0 : D.ain q d < 0
                · go_wp2_with fail
                  go_ret
                  exact ⟨HMW3.out _, .inr ⟨fun v => by have h1 := (v.arc q d hlt hlt2).i0; omega, rfl⟩⟩
                · have hi0z : decide (D.ain q d < 0) = false := by simp; omega
                  by_cases hi1 : 500 < D.ain q d
                  · go_wp2_with fail
                    go_ret
                    exact ⟨HMW3.out _, .inr ⟨fun v => by have h1 := (v.arc q d hlt hlt2).i1; omega, rfl⟩⟩
                  · have hi1z : decide ((500 : Int) < D.ain q d) = false := by simp; omega
                    by_cases ho0 : D.aout q d < 0
                    · go_wp2_with fail
                      go_ret
                      exact ⟨HMW3.out _, .inr ⟨fun v => by have h1 := (v.arc q d hlt hlt2).o0; omega, rfl⟩⟩
                    · have ho0z : decide (D.aout q d < 0) = false := by simp; omega
                      by_cases ho1 : 500 < D.aout q d
                      · go_wp2_with fail
                        go_ret
                        exact ⟨HMW3.out _, .inr ⟨fun v => by have h1 := (v.arc q d hlt hlt2).o1; omega, rfl⟩⟩
                      · have ho1z : decide ((500 : Int) < D.aout q d) = false := by simp; omega
                        by_cases ht0 : D.ato q d < 0
                        · go_wp2_with fail
                          go_ret
                          exact ⟨HMW3.out _, .inr ⟨fun v => by have h1 := (v.arc q d hlt hlt2).t0; omega, rfl⟩⟩
                        · have ht0z : decide (D.ato q d < 0) = false := by simp; omega
                          by_cases ht1 : (D.n : Int) ≤ D.ato q d
                          · go_wp2_with fail
                            go_ret
                            exact ⟨HMW3.out _, .inr ⟨fun v => by have h1 := (v.arc q d hlt hlt2).t1; omega, rfl⟩⟩
                          · have ht1z : decide ((D.n : Int) ≤ D.ato q d) = false := by simp; omega
                            go_wp2_with fail
                            refine (HWF3.out _).mono ?_
                            rintro r w4 ⟨rfl, hb4⟩
                            have hbx4 := (HMB3.out _).kept (gb_below hb4 none) (by simp)
                            have hx4 := (gb_below hb4 none).cell (HMX3.out _) (by simp)
                            have hbw4 := (HMW3.out _).trans (hb4.mono (HMW3.out _).size)
                            clear hb4 mA0 mA3 e0 e1 e2 e3 x1
                            cases hw4 : weightF D.kind (D.aw q d)
                            · go_wp2_with fail
                              go_ret
                              exact ⟨hbw4, .inr ⟨fun v => by have h1 := (v.arc q d hlt hlt2).wt; rw [hw4] at h1; exact absurd h1 (by simp), rfl⟩⟩
                            · have HW4 := Lib.hid hw4
                              go_wp2_with fail
                              go_roundw
                              case rel =>
                                refine ⟨d + 1, by omega, by go_num, fun k hk => ?_, hbx4, hx4, hbw4⟩
                                rcases Nat.lt_succ_iff_lt_or_eq.1 hk with h2 | h2
                                · exact HKO.out k h2
                                · subst h2
                                  exact ⟨by omega, by omega, by omega, by omega, by omega, by omega, HW4.out⟩
                              case measure => simp [intOf]; omega
              · have hdn : d = D.na q := by omega
                have hgt : ¬ ((d : Int) < (D.na q : Int)) := by omega
                have HDN := Lib.hid hdn; clear hdn
                go_wp2_with fail
                go_roundw
                case rel =>
                  refine ⟨q + 1, arcsTo D q + D.na q, by omega, by go_num, by go_num, rfl, by omega, fun l hl => ?_, HBX2.out, HBW2.out⟩
                  rcases Nat.lt_succ_iff_lt_or_eq.1 hl with h2 | h2
                  · exact HOK.out l h2
                  · subst h2; exact ⟨HFW.out, fun k hk => HKO.out k (by have := HDN.out; omega)⟩
                case measure => simp [intOf]; omega
      · have hqn : q = D.n := by omega
        have hgt : ¬ ((q : Int) < (D.n : Int)) := by omega
        obtain ⟨p1, p2, p3, p4⟩ := HPRE.out
        rw [hqn] at hcq
        have HCQ := Lib.hid hcq; clear hcq
        have HQN := Lib.hid hqn; clear hqn
        go_wp2_with fail
        go_ret
        exact ⟨HBW.out, .inl ⟨⟨HKB.out, p1, p2, p3, p4, HLW.out, by rw [← HCQ.out]; exact hac, fun i hi => (HOK.out i (by have := HQN.out; omega)).1, fun i k hi hk => (HOK.out i (by have := HQN.out; omega)).2 k hk⟩, rfl⟩⟩
end Go.Proofs.YtlmfppjphblemaaGreatDoor
