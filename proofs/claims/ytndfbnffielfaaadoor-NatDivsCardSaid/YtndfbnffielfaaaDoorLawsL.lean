/- Plain laws of the functions that the statements speak of. No walk. -/
import Derived.Test.YtndfbnffielfaaaDoorBackW
namespace Go.Proofs.YtndfbnffielfaaaDoor
open Go Go.RowKit

theorem addF_comm (s t : ByteArray) : addF s t = addF t s := by unfold addF; rw [Nat.add_comm, Bool.and_comm]
theorem mulF_comm (s t : ByteArray) : mulF s t = mulF t s := by unfold mulF; rw [Nat.mul_comm, Bool.and_comm]
theorem gcdF_comm (s t : ByteArray) : gcdF s t = gcdF t s := by unfold gcdF; rw [Nat.gcd_comm, Bool.and_comm]
theorem limS_size (n : Nat) : (limS n).1.size ≤ 1000 := by
  unfold limS
  split
  · rename_i h; show (str (dec n)).size ≤ 1000; rw [str_size]; exact h
  · show (str []).size ≤ 1000; rw [str_size]; simp
theorem addF_size (s t : ByteArray) : (addF s t).1.size ≤ maxLen := by
  have : (addF s t).1.size ≤ 1000 := by
    unfold addF; split
    · exact limS_size _
    · show (str []).size ≤ 1000; rw [str_size]; simp
  unfold maxLen; omega
theorem mulF_size (s t : ByteArray) : (mulF s t).1.size ≤ maxLen := by
  have : (mulF s t).1.size ≤ 1000 := by
    unfold mulF; split
    · exact limS_size _
    · show (str []).size ≤ 1000; rw [str_size]; simp
  unfold maxLen; omega
theorem limS_zero {n : Nat} {r : ByteArray} (h : limS n = (r, 0)) : fits n ∧ r = str (dec n) := by
  by_cases hf : fits n
  · rw [limS_fit hf] at h; exact ⟨hf, (Prod.mk.inj h).1.symm⟩
  · rw [limS_long hf] at h; simp at h
theorem addF_zero {s t r : ByteArray} (h : addF s t = (r, 0)) : vld s = true ∧ vld t = true ∧ fits (val s + val t) ∧ r = str (dec (val s + val t)) := by
  cases h1 : vld s <;> cases h2 : vld t
  · unfold addF at h; rw [h1, h2] at h; simp at h
  · unfold addF at h; rw [h1, h2] at h; simp at h
  · unfold addF at h; rw [h1, h2] at h; simp at h
  · rw [addF_v h1 h2] at h; exact ⟨rfl, rfl, limS_zero h⟩
theorem mulF_zero {s t r : ByteArray} (h : mulF s t = (r, 0)) : vld s = true ∧ vld t = true ∧ fits (val s * val t) ∧ r = str (dec (val s * val t)) := by
  cases h1 : vld s <;> cases h2 : vld t
  · unfold mulF at h; rw [h1, h2] at h; simp at h
  · unfold mulF at h; rw [h1, h2] at h; simp at h
  · unfold mulF at h; rw [h1, h2] at h; simp at h
  · rw [mulF_v h1 h2] at h; exact ⟨rfl, rfl, limS_zero h⟩
/-- Multiplication distributes over addition. -/
theorem dist {a b c r l x y : ByteArray} (h1 : addF a b = (r, 0)) (h2 : mulF r c = (l, 0)) (h3 : mulF a c = (x, 0)) (h4 : mulF b c = (y, 0)) : addF x y = (l, 0) := by
  obtain ⟨_, _, _, hr⟩ := addF_zero h1
  obtain ⟨_, _, hf, hl⟩ := mulF_zero h2
  obtain ⟨_, _, hfx, hx⟩ := mulF_zero h3
  obtain ⟨_, _, hfy, hy⟩ := mulF_zero h4
  rw [hr, val_sd, Nat.add_mul] at hf hl
  have h := addF_fit (s := x) (t := y) (by rw [hx]; exact vld_sd hfx) (by rw [hy]; exact vld_sd hfy) (by rw [hx, hy, val_sd, val_sd]; exact hf)
  rw [h, hl, hx, hy, val_sd, val_sd]
theorem ne_zero_b {n : Nat} (h : n ≠ 0) : (((n : Nat) : Int) != 0) = true ∧ (((n : Nat) : Int) == 0) = false := ⟨by rw [bne_iff_ne]; omega, by rw [beq_eq_false_iff_ne]; omega⟩
end Go.Proofs.YtndfbnffielfaaaDoor
