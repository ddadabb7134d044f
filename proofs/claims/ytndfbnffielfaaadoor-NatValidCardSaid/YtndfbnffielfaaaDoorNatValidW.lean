/- The walk of the statement NatValid: it returns true for all strings and numbers. -/
import Derived.Test.YtndfbnffielfaaaDoorRCmp
import Derived.Test.YtndfbnffielfaaaDoorLawsL
import Derived.OpenShut
namespace Go.Proofs.YtndfbnffielfaaaDoor
open Go Go.RowKit

theorem bool_same (b : Bool) : (b == b) = true := by cases b <;> rfl
set_option maxRecDepth 100000 in
set_option maxHeartbeats 2000000 in
theorem natValid1 (a b : ByteArray) (u : Nat) (w : World) (ha : a.size ≤ maxLen) (hb : b.size ≤ maxLen) (hu : u < 18446744073709551616) (ht : Tab w) :
    Calls Tryd.prog 10 #[.string a, .string b, .int .u64 (u : Int)] w (TrueEnd w) := by
  have HT := Lib.hid ht; clear ht
  have S1 : ∀ (wx : World), Below w.heap.size w wx → Tab wx := fun wx h => HT.out.below h (Nat.le_refl _)
  have HS := Lib.hid S1; clear S1
  have HA := Lib.hid ha; clear ha
  have HBb := Lib.hid hb; clear hb
  have HU := Lib.hid hu; clear hu
  obtain ⟨va, hva⟩ : ∃ v, v = validL (bts a) := ⟨_, rfl⟩
  have HVA := Lib.hid hva; clear hva
  have hvs := bool_same va
  obtain ⟨c, hc⟩ : ∃ v, v = cmpF a b := ⟨_, rfl⟩
  have HC := Lib.hid hc; clear hc
  go_enter Tryd.func10, Tryd.ntmps10
  go_wp2_with fail
  have q1 := valid_any a w HA.out
  rw [← HVA.out] at q1
  refine q1.mono ?_
  clear q1
  rintro e w0 ⟨rfl, rfl⟩
  go_wp2_with fail
  have q2 := rvalid_any a w HA.out
  rw [← HVA.out] at q2
  refine q2.mono ?_
  clear q2
  rintro e w0 ⟨rfl, rfl⟩
  go_wp2_with fail
  have hq1 := small_any u HU.out w HT.out
  refine hq1.mono ?_
  clear hq1
  rintro e w1 ⟨rfl, hb1⟩
  have HB1 := Lib.hid (hb1); clear hb1
  go_wp2_with fail
  have hq2 := rsmall_any u HU.out w1
  refine hq2.mono ?_
  clear hq2
  rintro e w2 ⟨rfl, hb2⟩
  have HB2 := Lib.hid (HB1.out.trans (hb2.mono HB1.out.size)); clear hb2
  go_wp2_with fail
  have hq3 := cmp_any a b w2 HA.out HBb.out
  unfold IntEnd at hq3
  rw [← HC.out] at hq3
  refine hq3.mono ?_
  clear hq3
  rintro e w3 ⟨rfl, hb3⟩
  have HB3 := Lib.hid (HB2.out.trans (hb3.mono HB2.out.size)); clear hb3
  go_wp2_with fail
  have hq4 := rcmp_any a b w3 HA.out HBb.out
  unfold IntEnd at hq4
  rw [← HC.out] at hq4
  refine hq4.mono ?_
  clear hq4
  rintro e w4 ⟨rfl, hb4⟩
  have HB4 := Lib.hid (HB3.out.trans (hb4.mono HB3.out.size)); clear hb4
  go_wp2_with fail
  have hq5 := example_any w4 (HS.out w4 HB4.out)
  refine hq5.mono ?_
  clear hq5
  rintro e w5 ⟨rfl, hb5⟩
  have HB5 := Lib.hid (HB4.out.trans (hb5.mono HB4.out.size)); clear hb5
  go_wp2_with fail
  go_ret
  exact ⟨rfl, HB5.out⟩
theorem natValid_any (a b : ByteArray) (x : Int) (w : World) (ha : a.size ≤ maxLen) (hb : b.size ≤ maxLen) (hx : (Lit.int .u64 x).wf = true) (ht : Tab w) :
    Calls Tryd.prog 10 #[.string a, .string b, .int .u64 x] w (TrueEnd w) := by
  have b1 := bounds_u64 hx
  obtain ⟨u, rfl⟩ := Int.eq_ofNat_of_zero_le b1.1
  exact natValid1 a b u w ha hb (by have := b1.2; omega) ht
end Go.Proofs.YtndfbnffielfaaaDoor
