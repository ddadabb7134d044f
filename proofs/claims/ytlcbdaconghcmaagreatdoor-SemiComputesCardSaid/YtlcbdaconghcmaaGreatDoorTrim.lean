/- The walk of nat.trim: the zeros at the end go. -/
import Derived.Test.YtlcbdaconghcmaaGreatDoorCom
namespace Go.Proofs.YtlcbdaconghcmaaGreatDoor
open Go Go.RowKit
set_option maxRecDepth 100000

/-- k is what trim leaves of xs. -/
def Trimmed (xs : List Nat) (k : Nat) : Prop := k ≤ xs.length ∧ (∀ j, k ≤ j → nth xs j = 0) ∧ (k = 0 ∨ nth xs (k - 1) ≠ 0)
def TrimEnd (a : Option Addr) (cap : Nat) (xs : List Nat) (w : World) (e : Ending) (w' : World) : Prop := ∃ k, Trimmed xs k ∧ e = .returned (.slice a k cap) ∧ w = w'

theorem trim_any (a : Option Addr) (cap : Nat) (xs : List Nat) (w : World) (h : Sl w .u64 (.slice a xs.length cap) xs) :
    Calls Tryz.prog 89 #[.slice a xs.length cap] w (TrimEnd a cap xs w) := by
  rcases h with ⟨hv, rfl⟩ | ⟨b, off, c, hv, h1, h2, h3, h4⟩
  · simp only [Value.slice.injEq] at hv; obtain ⟨rfl, _, rfl⟩ := hv
    go_enter Tryz.func89, Tryz.ntmps89
    go_wp2
    go_loop [0] (fun v => v = .slice none 0 0) (fun v => lenV v)
    case atStart => exact rfl
    case round =>
      obtain rfl := hrel
      go_wp2
      go_ret
      exact ⟨0, ⟨Nat.zero_le _, fun j _ => nth_out [] j (Nat.zero_le _), .inl rfl⟩, rfl, rfl⟩
  · simp only [Value.slice.injEq, true_and] at hv; obtain ⟨rfl, rfl⟩ := hv
    unfold maxLen at h3
    go_enter Tryz.func89, Tryz.ntmps89
    go_wp2
    go_loop [0] (fun v => ∃ k : Nat, k ≤ xs.length ∧ v = .slice (some ⟨b, off, none⟩) k cap ∧ ∀ j, k ≤ j → nth xs j = 0) (fun v => lenV v)
    case atStart => exact ⟨xs.length, Nat.le_refl _, rfl, fun j hj => nth_out xs j hj⟩
    case round =>
      obtain ⟨k, hk, rfl, hz⟩ := hrel
      have HZ := Lib.hid hz; clear hz
      by_cases h0 : k = 0
      · subst h0
        go_wp2
        go_ret
        exact ⟨0, ⟨hk, HZ.out, .inl rfl⟩, rfl, rfl⟩
      · obtain ⟨m, rfl⟩ : ∃ m, k = m + 1 := ⟨k - 1, by omega⟩
        have hc := h4 m (by omega)
        by_cases hn : nth xs m = 0
        · have HN := Lib.hid hn; clear hn
          rw [HN.out] at hc
          go_wp2
          go_round
          case rel => exact ⟨m, by omega, rfl, fun j hj => by
            by_cases e : j = m
            · rw [e]; exact HN.out
            · exact HZ.out j (by omega)⟩
          case measure => simp [lenV]
        · have HN := Lib.hid hn; clear hn
          have hne : (((nth xs m : Nat) : Int) == 0) = false := by rw [beq_eq_false_iff_ne]; have := HN.out; omega
          go_wp2
          go_ret
          exact ⟨m + 1, ⟨hk, HZ.out, .inr HN.out⟩, rfl, rfl⟩
end Go.Proofs.YtlcbdaconghcmaaGreatDoor
