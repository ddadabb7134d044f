/- Plain facts on what nat's functions return for valid numerals. -/
import Derived.Test.YtlmfppjphblemaaGreatDoorDivOps
import Derived.Test.YtlmfppjphblemaaGreatDoorMM
import Derived.Deep.Cut
import Derived.Deep.DeepCutAuto
namespace Go.Proofs.YtlmfppjphblemaaGreatDoor
open Go Go.RowKit
set_option maxRecDepth 100000

def fits (n : Nat) : Prop := (dec n).length ≤ 1000
theorem val_sd (n : Nat) : val (str (dec n)) = n := by unfold val; rw [bts_str]; exact num_dec n
theorem vld_sd {n : Nat} (h : fits n) : vld (str (dec n)) = true := by unfold vld; rw [bts_str]; exact valid_dec h
theorem sd_val {s : ByteArray} (h : vld s = true) : str (dec (val s)) = s := by unfold val; rw [dec_num h, str_bts]
theorem fits_val {s : ByteArray} (h : vld s = true) : fits (val s) := by unfold fits val; rw [dec_num h, bts_len]; exact (vld_size h).2
theorem fits_le {m n : Nat} (h : fits n) (hm : m ≤ n) : fits m := by
  unfold fits at *
  exact dec_len_lt.2 ⟨Nat.lt_of_le_of_lt hm (dec_len_lt.1 h).1, by omega⟩
theorem fits_size {n : Nat} (h : fits n) : (str (dec n)).size ≤ maxLen := by rw [str_size]; unfold fits at h; unfold maxLen; omega
theorem limS_fit {n : Nat} (h : fits n) : limS n = (str (dec n), 0) := if_pos h
theorem addF_v {s t : ByteArray} (hs : vld s = true) (ht : vld t = true) : addF s t = limS (val s + val t) := by unfold addF; rw [hs, ht]; rfl
theorem mulF_v {s t : ByteArray} (hs : vld s = true) (ht : vld t = true) : mulF s t = limS (val s * val t) := by unfold mulF; rw [hs, ht]; rfl
theorem addF_fit {s t : ByteArray} (hs : vld s = true) (ht : vld t = true) (h : fits (val s + val t)) : addF s t = (str (dec (val s + val t)), 0) := by rw [addF_v hs ht, limS_fit h]
theorem mulF_fit {s t : ByteArray} (hs : vld s = true) (ht : vld t = true) (h : fits (val s * val t)) : mulF s t = (str (dec (val s * val t)), 0) := by rw [mulF_v hs ht, limS_fit h]
theorem subF_v {s t : ByteArray} (hs : vld s = true) (ht : vld t = true) : subF s t = if val s < val t then (⟨#[]⟩, 4) else (str (dec (val s - val t)), 0) := by unfold subF; rw [hs, ht]; rfl
theorem subF_ok {s t : ByteArray} (hs : vld s = true) (ht : vld t = true) (h : val t ≤ val s) : subF s t = (str (dec (val s - val t)), 0) := by rw [subF_v hs ht, if_neg (by omega)]
theorem divF_v {s t : ByteArray} (hs : vld s = true) (ht : vld t = true) : divF s t = if val t = 0 then (⟨#[]⟩, ⟨#[]⟩, 4) else (str (dec (val s / val t)), str (dec (val s % val t)), 0) := by unfold divF; rw [hs, ht]; rfl
theorem divF_ok {s t : ByteArray} (hs : vld s = true) (ht : vld t = true) (h : val t ≠ 0) : divF s t = (str (dec (val s / val t)), str (dec (val s % val t)), 0) := by rw [divF_v hs ht, if_neg h]
theorem gcdF_v {s t : ByteArray} (hs : vld s = true) (ht : vld t = true) : gcdF s t = (str (dec (Nat.gcd (val s) (val t))), 0) := by unfold gcdF; rw [hs, ht]; rfl
end Go.Proofs.YtlmfppjphblemaaGreatDoor
