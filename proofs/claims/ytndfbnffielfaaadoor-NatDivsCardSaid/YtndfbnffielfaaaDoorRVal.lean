/- The walk of abugidaref02.Valid: it answers as nat.Valid does. -/
import Derived.Test.YtndfbnffielfaaaDoorValid
namespace Go.Proofs.YtndfbnffielfaaaDoor
open Go Go.RowKit

theorem rvalid_loop (s : ByteArray) (w : World) (h1 : 1 ≤ s.size) (h2 : s.size ≤ 1000) (h3 : s.size = 1 ∨ (bts s).headD 0 ≠ 48) :
    Calls Tryd.prog 26 #[.string s] w fun e w' => e = .returned (.bool (dgts (bts s))) ∧ w = w' := by
  have hp : 0 < s.size := by omega
  have h5 : decide ((s.size : Int) < 1) = false := by simp; omega
  have h5' : decide ((1000 : Int) < (s.size : Int)) = false := by simp; omega
  have hlen : ((s[0].toNat : Int) == 48) = false ∨ (((s[0].toNat : Int) == 48) = true ∧ decide ((1 : Int) < (s.size : Int)) = false) := by
    rcases h3 with h | h
    · by_cases hc : s[0].toNat = 48
      · right; exact ⟨by rw [beq_iff_eq]; omega, by simp; omega⟩
      · left; rw [beq_eq_false_iff_ne]; omega
    · left; exact u8_ne48 _ (by rw [← headD_bts s hp]; exact h)
  clear h3
  rcases hlen with h6 | ⟨h6, h7⟩
  all_goals
    go_enter Tryd.func26, Tryd.ntmps26
    go_wp2_with fail
    clear h5 h5' h6
    try clear h7
    go_loop [3] (fun i => ∃ k : Nat, k ≤ s.size ∧ i = .int .i64 k ∧ dgts ((bts s).take k) = true) (fun i => s.size - (intOf i).toNat)
    case atStart => exact ⟨0, Nat.zero_le _, rfl, rfl⟩
    case round =>
      obtain ⟨k, hk, rfl, ha⟩ := hrel
      have HA := Lib.hid ha; clear ha
      by_cases hlt : k < s.size
      · by_cases hlo : (s[k].toNat : Int) < 48
        · go_wp2_with fail
          go_ret
          exact ⟨ret_bool (dgts_false s k hlt (dgt_lo hlo)).symm, rfl⟩
        · by_cases hhi : (57 : Int) < (s[k].toNat : Int)
          · have hlo' : decide ((s[k].toNat : Int) < 48) = false := by simp; omega
            go_wp2_with fail
            go_ret
            exact ⟨ret_bool (dgts_false s k hlt (dgt_hi hhi)).symm, rfl⟩
          · have hlo' : decide ((s[k].toNat : Int) < 48) = false := by simp; omega
            have hhi' : decide ((57 : Int) < (s[k].toNat : Int)) = false := by simp; omega
            go_wp2_with fail
            go_round
            case rel => exact ⟨k + 1, by omega, by go_num, by rw [take_snoc s k hlt, dgts_snoc, HA.out, dgt_true (by omega) (by omega)]; rfl⟩
            case measure => simp [intOf]; omega
      · go_wp2_with fail
        go_ret
        exact ⟨ret_bool (by rw [← HA.out, List.take_of_length_le (by rw [bts_len]; omega)]), rfl⟩

theorem rvalid_any (s : ByteArray) (w : World) (hm : s.size ≤ maxLen) :
    Calls Tryd.prog 26 #[.string s] w fun e w' => e = .returned (.bool (validL (bts s))) ∧ w = w' := by
  unfold maxLen at hm
  by_cases h1 : s.size = 0
  · have e1 : validL (bts s) = false := by simp [validL, bts_len, h1]
    have h5 : decide ((s.size : Int) < 1) = true := by simp; omega
    have HE := Lib.hid e1; clear e1
    have h6 : (s.size : Int) < 1 := by omega
    clear h1
    go_enter Tryd.func26, Tryd.ntmps26
    go_wp2_with fail
    go_ret
    exact ⟨ret_bool HE.out.symm, rfl⟩
  · by_cases h2 : 1000 < s.size
    · have e1 : validL (bts s) = false := by simp [validL, bts_len]; intros; omega
      have HE := Lib.hid e1; clear e1
      have h5 : decide ((s.size : Int) < 1) = false := by simp; omega
      have h6 : (1000 : Int) < (s.size : Int) := by omega
      clear h1 h2
      go_enter Tryd.func26, Tryd.ntmps26
      go_wp2_with fail
      go_ret
      exact ⟨ret_bool HE.out.symm, rfl⟩
    · by_cases h3 : s.size = 1 ∨ (bts s).headD 0 ≠ 48
      · refine (rvalid_loop s w (by omega) (by omega) h3).mono fun e w' ⟨he, hw⟩ => ⟨?_, hw⟩
        rw [he]
        have : validL (bts s) = dgts (bts s) := by
          cases hd : dgts (bts s) with
          | false => simp [validL, hd]
          | true => exact valid_mk (by rw [bts_len]; omega) (by rw [bts_len]; omega) (by rw [bts_len]; exact h3) hd
        rw [this]
      · have e1 : validL (bts s) = false := by
          cases hv : validL (bts s) with
          | false => rfl
          | true => exact absurd (by have := (valid_parts hv).2.2.1; rw [bts_len] at this; exact this) h3
        have HE := Lib.hid e1; clear e1
        have hp : 0 < s.size := by omega
        have h6 : ((s[0].toNat : Int) == 48) = true := by
          have : (bts s).headD 0 = 48 := by
            by_cases h : (bts s).headD 0 = 48
            · exact h
            · exact absurd (Or.inr h) h3
          rw [headD_bts s hp] at this; rw [this]; rfl
        have h7 : (1 : Int) < (s.size : Int) := by
          by_cases h : s.size = 1
          · exact absurd (Or.inl h) h3
          · omega
        have h5 : decide ((s.size : Int) < 1) = false := by simp; omega
        have h5' : decide ((1000 : Int) < (s.size : Int)) = false := by simp; omega
        clear h1 h2 h3
        go_enter Tryd.func26, Tryd.ntmps26
        go_wp2_with fail
        go_ret
        exact ⟨ret_bool HE.out.symm, rfl⟩
end Go.Proofs.YtndfbnffielfaaaDoor
