/- The walks of nat.Valid and abugidaref02.Valid: both answer by the plain function validL on the string's bytes. -/
import Derived.Test.YtlmfppjphblemaaGreatDoorProg
import Derived.Test.YtlmfppjphblemaaGreatDoorCom
import Derived.WalkKit
import Derived.WalkSpells
import Derived.WalkLawsBesides
import Derived.Lib.Hide
import Derived.Lib.Strings
namespace Go.Proofs.YtlmfppjphblemaaGreatDoor
open Go Go.RowKit
set_option maxRecDepth 100000

theorem isEmpty_of (s : ByteArray) (h : 0 < s.size) : s.toList.isEmpty = false := by
  rw [Lib.toList_data]
  cases hs : s.data.toList with
  | nil => have : s.size = 0 := by rw [← bts_len, bts, hs]; rfl
           omega
  | cons a l => rfl
theorem not_nil_of (s : ByteArray) (h : 0 < s.size) : ¬ s.toList = [] := by
  have := isEmpty_of s h; intro e; rw [e] at this; simp at this
theorem nil_of (s : ByteArray) (h : s.size = 0) : s.toList = [] := by
  rw [Lib.toList_data]; exact List.length_eq_zero_iff.1 (by have := bts_len s; unfold bts at this; omega)
theorem u8_ne48 (c : UInt8) (h : c ≠ 48) : ((c.toNat : Int) == 48) = false := by
  rw [beq_eq_false_iff_ne]; intro e; apply h; apply UInt8.toNat_inj.1
  show c.toNat = 48
  omega
theorem dgt_true {c : UInt8} (h1 : (48 : Int) ≤ (c.toNat : Int)) (h2 : (c.toNat : Int) ≤ 57) : dgt c = true := by
  simp [dgt]; omega
theorem dgt_lo {c : UInt8} (h1 : (c.toNat : Int) < 48) : dgt c = false := by simp [dgt]; omega
theorem dgt_hi {c : UInt8} (h1 : (57 : Int) < (c.toNat : Int)) : dgt c = false := by simp [dgt]; omega

/-- What the loop over the digits answers. -/
theorem valid_loop (s : ByteArray) (w : World) (h1 : 1 ≤ s.size) (h2 : s.size ≤ 1000) (h3 : s.size = 1 ∨ (bts s).headD 0 ≠ 48) :
    Calls Tryz.prog 119 #[.string s] w fun e w' => e = .returned (.bool (dgts (bts s))) ∧ w = w' := by
  have e1 : s.toList.isEmpty = false := isEmpty_of s h1
  have e0 : ¬ s.toList = [] := not_nil_of s h1
  have hp : 0 < s.size := by omega
  have h5 : decide ((1000 : Int) < (s.size : Int)) = false := by simp; omega
  by_cases hs : s.size = 1
  all_goals
    have h4 : 1 < s.size → ((s[0].toNat : Int) == 48) = false := fun h => u8_ne48 _ (by rw [← headD_bts s hp]; rcases h3 with h' | h'; · omega
                                                                                        · exact h')
    try have h6 := h4 (by omega)
    clear h4
    go_enter Tryz.func119, Tryz.ntmps119
    go_wp2
    clear e0 e1 h5
    go_loop [23] (fun i => ∃ k : Nat, k ≤ s.size ∧ i = .int .i64 k ∧ dgts ((bts s).take k) = true) (fun i => s.size - (intOf i).toNat)
    case atStart => exact ⟨0, Nat.zero_le _, rfl, rfl⟩
    case round =>
      obtain ⟨k, hk, rfl, ha⟩ := hrel
      have HA := Lib.hid ha; clear ha
      by_cases hlt : k < s.size
      · go_wp2
        · have hx : (57 : Int) < (s[k].toNat : Int) := by omega
          go_ret
          exact ⟨ret_bool (dgts_false s k hlt (dgt_hi hx)).symm, rfl⟩
        · have hx : (48 : Int) ≤ (s[k].toNat : Int) := by omega
          have hy : (s[k].toNat : Int) ≤ 57 := by omega
          go_round
          case rel => exact ⟨k + 1, by omega, by go_num, by rw [take_snoc s k hlt, dgts_snoc, HA.out, dgt_true hx hy]; rfl⟩
          case measure => simp [intOf]; omega
        · have hx : (s[k].toNat : Int) < 48 := by assumption
          go_ret
          exact ⟨ret_bool (dgts_false s k hlt (dgt_lo hx)).symm, rfl⟩
      · go_wp2
        go_ret
        exact ⟨ret_bool (by rw [← HA.out, List.take_of_length_le (by rw [bts_len]; omega)]), rfl⟩

theorem valid_any (s : ByteArray) (w : World) (hm : s.size ≤ maxLen) :
    Calls Tryz.prog 119 #[.string s] w fun e w' => e = .returned (.bool (validL (bts s))) ∧ w = w' := by
  unfold maxLen at hm
  by_cases h1 : s.size = 0
  · have e1 : validL (bts s) = false := by simp [validL, bts_len, h1]
    have e0 := nil_of s h1
    have HE := Lib.hid e1; clear e1
    go_enter Tryz.func119, Tryz.ntmps119
    go_wp2
    go_ret
    exact ⟨ret_bool HE.out.symm, rfl⟩
  · by_cases h2 : 1000 < s.size
    · have e1 : validL (bts s) = false := by simp [validL, bts_len]; intros; omega
      have HE := Lib.hid e1; clear e1
      have e1 : s.toList.isEmpty = false := isEmpty_of s (by omega)
      have e0 : ¬ s.toList = [] := not_nil_of s (by omega)
      go_enter Tryz.func119, Tryz.ntmps119
      go_wp2
      go_ret
      exact ⟨ret_bool HE.out.symm, rfl⟩
    · by_cases h3 : s.size = 1 ∨ (bts s).headD 0 ≠ 48
      · refine (valid_loop s w (by omega) (by omega) h3).mono fun e w' ⟨he, hw⟩ => ⟨?_, hw⟩
        rw [he]
        have : validL (bts s) = dgts (bts s) := by
          cases hd : dgts (bts s) with
          | false => simp [validL, hd]
          | true => exact valid_mk (by rw [bts_len]; omega) (by rw [bts_len]; omega) (by rw [bts_len]; exact h3) hd
        rw [this]
      · have e1 : validL (bts s) = false := by
          cases hv : validL (bts s) with
          | false => rfl
          | true => exact absurd (by have := (valid_parts hv).2.2.1; rw [bts_len] at this; exact this) h3
        have HE := Lib.hid e1; clear e1
        have hp : 0 < s.size := by omega
        have e1 : s.toList.isEmpty = false := isEmpty_of s (by omega)
        have e0 : ¬ s.toList = [] := not_nil_of s (by omega)
        have h6 : ((s[0].toNat : Int) == 48) = true := by
          have : (bts s).headD 0 = 48 := by
            by_cases h : (bts s).headD 0 = 48
            · exact h
            · exact absurd (Or.inr h) h3
          rw [headD_bts s hp] at this; rw [this]; rfl
        have h7 : 1 < s.size := by
          by_cases h : s.size = 1
          · exact absurd (Or.inl h) h3
          · omega
        have h5 : decide ((1000 : Int) < (s.size : Int)) = false := by simp; omega
        clear h3
        go_enter Tryz.func119, Tryz.ntmps119
        go_wp2
        go_ret
        exact ⟨ret_bool HE.out.symm, rfl⟩
end Go.Proofs.YtlmfppjphblemaaGreatDoor
