/- The examples of chapter 04, which every statement holds: awake() returns true. The sizes of what semi's operations return; the small functions of the statements of chapter 04. -/
import Derived.Test.YtlmfppjphblemaaGreatDoorSemH
import Derived.Test.YtlmfppjphblemaaGreatDoorSemG
import Derived.Test.YtlmfppjphblemaaGreatDoorML
namespace Go.Proofs.YtlmfppjphblemaaGreatDoor
open Go Go.RowKit
set_option maxRecDepth 100000

theorem lim_of {v : V} {s : ByteArray} (h : rdV s = some v) : limV v = (s, 0) := by
  obtain ⟨e, f⟩ := rdV_some h; rw [limV_fit f, ← e]
end Go.Proofs.YtlmfppjphblemaaGreatDoor

namespace Go.Proofs.YtlmfppjphblemaaGreatDoor
open Go Go.RowKit
set_option maxRecDepth 100000

theorem limV_size (v : V) : (limV v).1.size ≤ 802 := by
  cases v with
  | inf => show 3 ≤ 802; omega
  | low => show 4 ≤ 802; omega
  | fin q => exact limR_size q
theorem argS_size : argS.1.size ≤ 802 := by show 0 ≤ 802; omega
theorem plusF_size (k : Int) (a b : ByteArray) : (plusF k a b).1.size ≤ 802 := by unfold plusF; split <;> first | exact limV_size _ | exact argS_size
theorem timesF_size (k : Int) (a b : ByteArray) : (timesF k a b).1.size ≤ 802 := by unfold timesF; split <;> first | exact limV_size _ | exact argS_size
theorem starF_size (k : Int) (a : ByteArray) : (starF k a).1.size ≤ 802 := by unfold starF; split <;> first | exact limV_size _ | exact argS_size
theorem zeroF_size (k : Int) : (zeroF k).size ≤ 100000 := by
  rcases kind_cases k with rfl | rfl | rfl | hk
  · rw [zeroF_1]; decide
  · rw [zeroF_2]; decide
  · rw [zeroF_3]; decide
  · rw [zeroF_no hk]; decide
theorem oneF_size (k : Int) : (oneF k).size ≤ 100000 := by
  rcases kind_cases k with rfl | rfl | rfl | hk
  · rw [oneF_1]; decide
  · rw [oneF_2]; decide
  · rw [oneF_3]; decide
  · rw [oneF_no hk]; decide
def fitF (k : Int) (a b c : ByteArray) : Bool := decide (a.size ≤ 100) && decide (b.size ≤ 100) && decide (c.size ≤ 100) && validF k a && validF k b && validF k c
end Go.Proofs.YtlmfppjphblemaaGreatDoor
