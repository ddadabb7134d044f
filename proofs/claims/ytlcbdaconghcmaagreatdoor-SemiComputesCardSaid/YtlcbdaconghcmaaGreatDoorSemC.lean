/- The walks of semi's inner functions: compare, choose, sum, the stars, natural, positive, valid. -/
import Derived.Test.YtlcbdaconghcmaaGreatDoorSemB
namespace Go.Proofs.YtlcbdaconghcmaaGreatDoor
open Go Go.RowKit
set_option maxRecDepth 100000

theorem infS_list : infS.toList = [105, 110, 102] := by rw [Lib.toList_data]; rfl
theorem lowS_list : lowS.toList = [45, 105, 110, 102] := by rw [Lib.toList_data]; rfl
theorem txt_ne_inf {q : Rat} (h : fitQ q) : ((txt q).toList == [105, 110, 102]) = false := by
  refine ne_list (l := [105, 110, 102]) (fun e => ?_)
  have := prs_txt h; rw [e] at this
  have h2 := prs_inf; unfold infS at h2
  rw [show str [105, 110, 102] = (⟨#[105, 110, 102]⟩ : ByteArray) from rfl, h2] at this; simp at this
theorem txt_ne_low {q : Rat} (h : fitQ q) : ((txt q).toList == [45, 105, 110, 102]) = false := by
  refine ne_list (l := [45, 105, 110, 102]) (fun e => ?_)
  have := prs_txt h; rw [e] at this
  have h2 := prs_low; unfold lowS at h2
  rw [show str [45, 105, 110, 102] = (⟨#[45, 105, 110, 102]⟩ : ByteArray) from rfl, h2] at this; simp at this
theorem txt_ne {x y : Rat} (hx : fitQ x) (hy : fitQ y) (h : x ≠ y) : ((txt x).toList == (txt y).toList) = false := by
  rw [beq_eq_false_iff_ne]; exact ne_toList (fun e => h (txt_inj hx hy e))
theorem qcmpF_txt {x y : Rat} (hx : fitQ x) (hy : fitQ y) : qcmpF (txt x) (txt y) = cmpQ x y := by unfold qcmpF; rw [prs_txt hx, prs_txt hy]
theorem vtxt_size {v : V} (h : fitV v) : (vtxt v).size ≤ 802 := by
  cases v with
  | inf => show 3 ≤ _; omega
  | low => show 4 ≤ _; omega
  | fin q => exact txt_size h
set_option maxHeartbeats 4000000 in
theorem vcompare_any (v u : V) (w : World) (hv : fitV v) (hu : fitV u) (ht : Tab w) : Calls Tryz.prog 44 #[.string (vtxt v), .string (vtxt u)] w (IntEnd (cmpV v u) w) := by
  have run : ∀ (a b : ByteArray) (z : Int) (h0 : z = 0 ∧ a = b ∨ a ≠ b) (c : a ≠ b → a ≠ infS → a ≠ lowS → b ≠ infS → b ≠ lowS → Calls Tryz.prog 61 #[.string a, .string b] w (IntEnd z w))
      (hz : a ≠ b → ((a = lowS ∨ b = infS) ∧ z = -1) ∨ (a ≠ lowS ∧ b ≠ infS ∧ (b = lowS ∨ a = infS) ∧ z = 1) ∨ (a ≠ lowS ∧ b ≠ infS ∧ b ≠ lowS ∧ a ≠ infS)),
      Calls Tryz.prog 44 #[.string a, .string b] w (IntEnd z w) := by
    intro a b z h0 c hz
    rcases h0 with ⟨rfl, rfl⟩ | h0
    · clear c hz
      go_enter Tryz.func44, Tryz.ntmps44
      go_wp2
      go_ret
      exact ⟨rfl, Below.refl _ _⟩
    · have hne : (a.toList == b.toList) = false := by rw [beq_eq_false_iff_ne]; exact ne_toList h0
      have al : ∀ s : ByteArray, s ≠ lowS → (s.toList == [45, 105, 110, 102]) = false := fun s h => ne_list (l := [45, 105, 110, 102]) h
      have ai : ∀ s : ByteArray, s ≠ infS → (s.toList == [105, 110, 102]) = false := fun s h => ne_list (l := [105, 110, 102]) h
      have AL := Lib.hid al; clear al
      have AI := Lib.hid ai; clear ai
      rcases hz h0 with ⟨h1, rfl⟩ | ⟨h1, h2, h3, rfl⟩ | ⟨h1, h2, h3, h4⟩
      · clear c hz
        by_cases h1' : a = lowS
        · have e1 : (a.toList == [45, 105, 110, 102]) = true := by rw [h1', lowS_list]; rfl
          clear h0 h1 h1'
          go_enter Tryz.func44, Tryz.ntmps44
          go_wp2
          go_ret
          exact ⟨rfl, Below.refl _ _⟩
        · have e1 := AL.out a h1'
          have e2 : (b.toList == [105, 110, 102]) = true := by rw [h1.resolve_left h1', infS_list]; rfl
          clear h0 h1 h1'
          go_enter Tryz.func44, Tryz.ntmps44
          go_wp2
          go_ret
          exact ⟨rfl, Below.refl _ _⟩
      · clear c hz
        have e1 := AL.out a h1
        have e2 := AI.out b h2
        by_cases h3' : b = lowS
        · have e3 : (b.toList == [45, 105, 110, 102]) = true := by rw [h3', lowS_list]; rfl
          cases e4 : (a.toList == [105, 110, 102])
          all_goals
            clear h0 h1 h2 h3 h3'
            go_enter Tryz.func44, Tryz.ntmps44
            go_wp2
            go_ret
            exact ⟨rfl, Below.refl _ _⟩
        · have e3 := AL.out b h3'
          have e4 : (a.toList == [105, 110, 102]) = true := by rw [h3.resolve_left h3', infS_list]; rfl
          clear h0 h1 h2 h3 h3'
          go_enter Tryz.func44, Tryz.ntmps44
          go_wp2
          go_ret
          exact ⟨rfl, Below.refl _ _⟩
      · have e1 := AL.out a h1
        have e2 := AI.out b h2
        have e3 := AL.out b h3
        have e4 := AI.out a h4
        have C := Lib.hid (c h0 h4 h1 h2 h3); clear c hz h0 h1 h2 h3 h4
        go_enter Tryz.func44, Tryz.ntmps44
        go_wp2_with fail
        refine C.out.mono ?_
        rintro e w1 ⟨rfl, hb⟩
        have HB := Lib.hid hb; clear hb
        go_wp2
        go_ret
        exact ⟨rfl, HB.out⟩
  refine run _ _ _ ?_ ?_ ?_
  · by_cases h : v = u
    · subst h; exact .inl ⟨(cmpV_zero v v).2 rfl, rfl⟩
    · exact .inr (fun e => h (vtxt_inj hv hu e))
  · intro _ h1 h2 h3 h4
    cases v with
    | inf => exact absurd rfl h1
    | low => exact absurd rfl h2
    | fin x =>
      cases u with
      | inf => exact absurd rfl h3
      | low => exact absurd rfl h4
      | fin y =>
        have hc := qcmp_any (txt x) (txt y) w (by have := txt_size hv; omega) (by have := txt_size hu; omega) ht
        rw [qcmpF_txt hv hu] at hc; exact hc
  · intro h
    have il : infS ≠ lowS := by decide
    have fi : ∀ q : Rat, fitQ q → txt q ≠ infS := fun q hq e => by have := txt_ne_inf hq; rw [e, infS_list] at this; simp at this
    have fl : ∀ q : Rat, fitQ q → txt q ≠ lowS := fun q hq e => by have := txt_ne_low hq; rw [e, lowS_list] at this; simp at this
    cases v with
    | inf =>
      cases u with
      | inf => exact absurd rfl h
      | low => exact .inr (.inl ⟨il, Ne.symm il, .inl rfl, rfl⟩)
      | fin y => exact .inr (.inl ⟨il, fi y hu, .inr rfl, rfl⟩)
    | low =>
      cases u with
      | inf => exact .inl ⟨.inl rfl, rfl⟩
      | low => exact absurd rfl h
      | fin y => exact .inl ⟨.inl rfl, rfl⟩
    | fin x =>
      cases u with
      | inf => exact .inl ⟨.inr rfl, rfl⟩
      | low => exact .inr (.inl ⟨fl x hv, Ne.symm il, .inl rfl, rfl⟩)
      | fin y => exact .inr (.inr ⟨fl x hv, fi y hu, fl y hu, fi x hv⟩)
end Go.Proofs.YtlcbdaconghcmaaGreatDoor
