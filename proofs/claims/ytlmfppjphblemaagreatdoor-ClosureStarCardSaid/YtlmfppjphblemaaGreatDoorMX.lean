/- The examples of chapter 04, which every statement holds: awake() returns true. The sizes of what semi's operations return; the small functions of the statements of chapter 04. -/
import Derived.Test.YtlmfppjphblemaaGreatDoorSemH
import Derived.Test.YtlmfppjphblemaaGreatDoorSemG
import Derived.Test.YtlmfppjphblemaaGreatDoorML
namespace Go.Proofs.YtlmfppjphblemaaGreatDoor
open Go Go.RowKit
set_option maxRecDepth 100000

def TrueEnd4 (w : World) (e : Ending) (w' : World) : Prop := e = .returned (.bool true) ∧ Below w.heap.size w w'
theorem lim_of {v : V} {s : ByteArray} (h : rdV s = some v) : limV v = (s, 0) := by
  obtain ⟨e, f⟩ := rdV_some h; rw [limV_fit f, ← e]
theorem plus_ex {k : Int} {a b s : ByteArray} {v u x : V} (ha : vprs k a = some v) (hb : vprs k b = some u) (h : plusV k v u = x) (hs : rdV s = some x) : plusF k a b = (s, 0) := by
  unfold plusF; rw [ha, hb, ← lim_of hs, ← h]
theorem times_ex {k : Int} {a b s : ByteArray} {v u x : V} (ha : vprs k a = some v) (hb : vprs k b = some u) (h : timesV k v u = x) (hs : rdV s = some x) : timesF k a b = (s, 0) := by
  unfold timesF; rw [ha, hb, ← lim_of hs, ← h]
theorem star_ex {k : Int} {a s : ByteArray} {v x : V} (ha : vprs k a = some v) (h : starV k v = x) (hs : rdV s = some x) : starF k a = (s, 0) := by
  unfold starF; rw [ha, ← lim_of hs, ← h]
theorem over_ex {k : Int} {a b s : ByteArray} {v u x : V} (ha : rdV a = some v) (hb : rdV b = some u) (ho : overOk k v u) (h : overV k v u = x) (hs : rdV s = some x) : overF k a b = (s, 0) := by
  unfold overF; rw [ha, hb, ← lim_of hs, ← h]; simp only; rw [if_pos ho]
theorem better_ex {k : Int} {a b : ByteArray} {v u : V} {z : Int} (ha : vprs k a = some v) (hb : vprs k b = some u) (h : betterV k v u = z) : betterF k a b = z := by
  unfold betterF; rw [ha, hb, ← h]
theorem ax1 : plusF 1 ⟨#[49, 47, 50]⟩ ⟨#[51]⟩ = (⟨#[49, 47, 50]⟩, 0) := plus_ex (v := (.fin (mkRat (1) 2))) (u := (.fin (mkRat (3) 1))) (x := (.fin (mkRat (1) 2))) (by decide +kernel) (by decide +kernel) (by decide +kernel) (by decide +kernel)
theorem ax2 : timesF 2 ⟨#[49, 47, 50]⟩ ⟨#[51]⟩ = (⟨#[51, 47, 50]⟩, 0) := times_ex (v := (.fin (mkRat (1) 2))) (u := (.fin (mkRat (3) 1))) (x := (.fin (mkRat (3) 2))) (by decide +kernel) (by decide +kernel) (by decide +kernel) (by decide +kernel)
theorem ax3 : starF 2 ⟨#[49, 47, 51]⟩ = (⟨#[51, 47, 50]⟩, 0) := star_ex (v := (.fin (mkRat (1) 3))) (x := (.fin (mkRat (3) 2))) (by decide +kernel) (by decide +kernel) (by decide +kernel)
theorem ax4 : overF 3 ⟨#[49, 47, 50]⟩ ⟨#[50, 47, 51]⟩ = (⟨#[51, 47, 52]⟩, 0) := over_ex (v := (.fin (mkRat (1) 2))) (u := (.fin (mkRat (2) 3))) (x := (.fin (mkRat (3) 4))) (by decide +kernel) (by decide +kernel) (by decide +kernel) (by decide +kernel) (by decide +kernel)
theorem ax5 : betterF 1 ⟨#[49]⟩ ⟨#[50]⟩ = -1 := better_ex (v := (.fin (mkRat (1) 1))) (u := (.fin (mkRat (2) 1))) (by decide +kernel) (by decide +kernel) (by decide +kernel)
theorem ax6 : weightF 1 ⟨#[48]⟩ = true := by decide +kernel
theorem ax7 : weightF 3 ⟨#[48]⟩ = false := by decide +kernel
end Go.Proofs.YtlmfppjphblemaaGreatDoor

namespace Go.Proofs.YtlmfppjphblemaaGreatDoor
open Go Go.RowKit
set_option maxRecDepth 100000

theorem limV_size (v : V) : (limV v).1.size ≤ 802 := by
  cases v with
  | inf => show 3 ≤ 802; omega
  | low => show 4 ≤ 802; omega
  | fin q => exact limR_size q
theorem argS_size : argS.1.size ≤ 802 := by show 0 ≤ 802; omega
theorem plusF_size (k : Int) (a b : ByteArray) : (plusF k a b).1.size ≤ 802 := by unfold plusF; split <;> first | exact limV_size _ | exact argS_size
theorem timesF_size (k : Int) (a b : ByteArray) : (timesF k a b).1.size ≤ 802 := by unfold timesF; split <;> first | exact limV_size _ | exact argS_size
theorem starF_size (k : Int) (a : ByteArray) : (starF k a).1.size ≤ 802 := by unfold starF; split <;> first | exact limV_size _ | exact argS_size
theorem overF_size (k : Int) (a b : ByteArray) : (overF k a b).1.size ≤ 802 := by
  unfold overF; split
  · split <;> first | exact limV_size _ | exact argS_size
  · exact argS_size
theorem sz_of {r : ByteArray × Nat} {s : ByteArray} {n : Nat} (h : r.1.size ≤ 802) (e : r = (s, n)) : s.size ≤ 100000 := by rw [e] at h; show s.size ≤ _; have : s.size ≤ 802 := h; omega
theorem zeroF_size (k : Int) : (zeroF k).size ≤ 100000 := by
  rcases kind_cases k with rfl | rfl | rfl | hk
  · rw [zeroF_1]; decide
  · rw [zeroF_2]; decide
  · rw [zeroF_3]; decide
  · rw [zeroF_no hk]; decide
theorem oneF_size (k : Int) : (oneF k).size ≤ 100000 := by
  rcases kind_cases k with rfl | rfl | rfl | hk
  · rw [oneF_1]; decide
  · rw [oneF_2]; decide
  · rw [oneF_3]; decide
  · rw [oneF_no hk]; decide
def fitF (k : Int) (a b c : ByteArray) : Bool := decide (a.size ≤ 100) && decide (b.size ≤ 100) && decide (c.size ≤ 100) && validF k a && validF k b && validF k c
end Go.Proofs.YtlmfppjphblemaaGreatDoor
