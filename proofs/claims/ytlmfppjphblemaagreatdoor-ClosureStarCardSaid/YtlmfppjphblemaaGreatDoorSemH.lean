/- The walks of semi's exported functions: Over. -/
import Derived.Test.YtlmfppjphblemaaGreatDoorSemF
import Derived.Test.YtlmfppjphblemaaGreatDoorML
namespace Go.Proofs.YtlmfppjphblemaaGreatDoor
open Go Go.RowKit
set_option maxRecDepth 100000

theorem weight_v {k : Int} {a : ByteArray} (h : weightF k a = true) : ∃ x, rdV a = some (.fin x) ∧ a = txt x ∧ fitQ x ∧ wtV k (.fin x) := by
  obtain ⟨v, h1, h2⟩ := weight_some h
  obtain ⟨x, rfl, _⟩ := wtV_fin h2
  exact ⟨x, h1, (rdV_some h1).1, (rdV_some h1).2, h2⟩
theorem weight_iff {k : Int} {a : ByteArray} {v : V} (h : rdV a = some v) : weightF k a = decide (wtV k v) := by unfold weightF; rw [h]
theorem zero_rd {k : Int} (hk : k = 1 ∨ k = 2 ∨ k = 3) {a : ByteArray} (h : rdV a = some (zeroV k)) : a = zeroF k := by rw [zeroF_eq hk]; exact (rdV_some h).1
theorem overF_n2 {k : Int} {a b : ByteArray} (h : weightF k b = false) : overF k a b = (⟨#[]⟩, 1) := by
  unfold overF
  cases ha : rdV a with
  | none => rfl
  | some v =>
    cases hb : rdV b with
    | none => rfl
    | some u =>
      rw [weight_iff hb, decide_eq_false_iff_not] at h
      simp only; rw [if_neg (fun e => h e.2)]; rfl
theorem overF_n1 {k : Int} (hk : k = 1 ∨ k = 2 ∨ k = 3) {a b : ByteArray} (hz : a ≠ zeroF k) (h : weightF k a = false) : overF k a b = (⟨#[]⟩, 1) := by
  unfold overF
  cases ha : rdV a with
  | none => rfl
  | some v =>
    cases hb : rdV b with
    | none => rfl
    | some u =>
      rw [weight_iff ha, decide_eq_false_iff_not] at h
      simp only; rw [if_neg]
      · rfl
      · intro e
        rcases e.1 with e | e
        · subst e; exact hz (zero_rd hk ha)
        · exact h e
theorem overF_no {k : Int} (hk : k < 1 ∨ 3 < k) (a b : ByteArray) : overF k a b = (⟨#[]⟩, 1) := overF_n2 (weightF_no hk b)
theorem overF_zero {k : Int} (hk : k = 1 ∨ k = 2 ∨ k = 3) {b : ByteArray} (h : weightF k b = true) : overF k (zeroF k) b = (zeroF k, 0) := by
  obtain ⟨y, h1, _, _, h2⟩ := weight_v h
  unfold overF
  rw [zeroF_rd hk, h1]; simp only
  rw [if_pos ⟨.inl rfl, h2⟩]
  have : overV k (zeroV k) (.fin y) = zeroV k := by unfold overV; rw [if_pos rfl]
  rw [this, limV_fit ((szV_zero k (k := 1) (by omega)).fit (by omega)), zeroF_eq hk]
theorem overF_1 {a b : ByteArray} (ha : weightF 1 a = true) (hb : weightF 1 b = true) : overF 1 a b = qsubF a b := by
  obtain ⟨x, a1, a2, a3, a4⟩ := weight_v ha
  obtain ⟨y, b1, b2, b3, b4⟩ := weight_v hb
  unfold overF qsubF
  rw [a1, b1, a2, b2, prs_txt a3, prs_txt b3]; simp only
  rw [if_pos ⟨.inr a4, b4⟩]; rfl
theorem overF_23 {k : Int} (hk : k = 2 ∨ k = 3) {a b : ByteArray} (ha : weightF k a = true) (hb : weightF k b = true) : overF k a b = qdivF a b := by
  obtain ⟨x, a1, a2, a3, a4⟩ := weight_v ha
  obtain ⟨y, b1, b2, b3, b4⟩ := weight_v hb
  have hk1 : k ≠ 1 := by omega
  have px : 0 < x := by rcases a4 with h | h; exact absurd h hk1; exact h.2
  have py : 0 < y := by rcases b4 with h | h; exact absurd h hk1; exact h.2
  unfold overF qdivF
  rw [a1, b1, a2, b2, prs_txt a3, prs_txt b3]; simp only
  rw [if_pos ⟨.inr a4, b4⟩, if_neg (Rat.ne_of_gt py)]
  have : overV k (.fin x) (.fin y) = .fin (x / y) := by
    unfold overV
    rw [if_neg (by unfold zeroV; rw [if_neg hk1]; intro e; injection e with e; exact Rat.ne_of_gt px e)]
    simp [hk1]
  rw [this]; rfl
end Go.Proofs.YtlmfppjphblemaaGreatDoor
