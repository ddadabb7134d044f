/- rat.parse at every string: it reads the canonical forms. -/
import Derived.Test.YtlcbdaconghcmaaGreatDoorRatP
namespace Go.Proofs.YtlcbdaconghcmaaGreatDoor
open Go Go.RowKit
set_option maxRecDepth 100000

theorem str_eq {l r : List UInt8} : ((str l).toList == r) = decide (l = r) := by
  rw [Lib.toList_data]
  show (bts (str l) == r) = _
  rw [bts_str, Bool.eq_iff_iff]; simp
def prsV (o : Option Rat) : Value := match o with | some q => nv q | none => NoNum
theorem prsV_agg (o : Option Rat) : ∃ r x y, prsV o = .agg #[.bool r, .string x, .string y] := by cases o <;> exact ⟨_, _, _, rfl⟩
theorem parse_any (s : ByteArray) (w : World) (hs : s.size ≤ 100000) (ht : Tab w) :
    Calls Tryz.prog 80 #[.string s] w fun e w' =>
      e = .returned (.tuple #[prsV (prs s), .bool (prs s).isSome]) ∧ Below w.heap.size w w' := by
  have hlr : (restL (bts s)).length ≤ s.size := by
    unfold restL; split
    · rw [List.length_tail, bts_len]; omega
    · rw [bts_len]; omega
  have hlu : (upTo (restL (bts s))).length ≤ s.size := Nat.le_trans (List.takeWhile_sublist _).length_le hlr
  have hlp : (pastL (restL (bts s))).length ≤ s.size := by
    unfold pastL; rw [List.length_tail]
    have := (List.dropWhile_sublist (· != 47) (l := restL (bts s))).length_le
    omega
  have hT : ∀ wx, Below w.heap.size w wx → Tab wx := fun wx h => ht.below h (Nat.le_refl _)
  have hdl : str (denL (restL (bts s))) = if hasS (restL (bts s)) then str (if hasS (restL (bts s)) then pastL (restL (bts s)) else []) else ⟨#[49]⟩ := by
    unfold denL; cases hasS (restL (bts s)) <;> rfl
  have hld : (str (denL (restL (bts s)))).size ≤ 140737488355328 := by
    rw [str_size]; unfold denL; split
    · omega
    · show 1 ≤ _; omega
  have hc := parse_raw s (str (restL (bts s))) (str (upTo (restL (bts s)))) (str (if hasS (restL (bts s)) then pastL (restL (bts s)) else [])) (str (denL (restL (bts s))))
    (str (dec (Nat.gcd (num (upTo (restL (bts s)))) (num (denL (restL (bts s))))))) (isNeg (bts s)) (hasS (restL (bts s))) (validL (upTo (restL (bts s)))) (validL (denL (restL (bts s)))) w
    hdl (by rw [str_size]; omega) hld (fun wx _ => cutp_any s wx)
    (fun wx _ => by
      have := cut_any (str (restL (bts s))) wx (by rw [str_size]; omega)
      rw [bts_str] at this; exact this)
    (fun wx => by
      have := vld_any (str (upTo (restL (bts s)))) wx (by rw [str_size]; unfold maxLen; omega)
      unfold vld at this; rw [bts_str] at this; exact this)
    (fun wx => by
      have := vld_any (str (denL (restL (bts s)))) wx (by unfold maxLen; omega)
      unfold vld at this; rw [bts_str] at this; exact this)
    (fun h1 h2 wx h => by
      have e1 := dec_num h1
      have e2 := dec_num h2
      have f1 : fits (num (upTo (restL (bts s)))) := by unfold fits; rw [e1]; exact (valid_parts h1).2.1
      have f2 : fits (num (denL (restL (bts s)))) := by unfold fits; rw [e2]; exact (valid_parts h2).2.1
      have := ngcd_sd _ _ wx f1 f2 (hT wx h)
      rw [e1, e2] at this; exact this)
  refine hc.mono ?_
  rintro e w' ⟨rfl, hb⟩
  refine ⟨?_, hb⟩
  have hok : okB (isNeg (bts s)) (hasS (restL (bts s))) (validL (upTo (restL (bts s)))) (validL (denL (restL (bts s)))) (str (upTo (restL (bts s)))) (str (denL (restL (bts s)))) (str (dec (Nat.gcd (num (upTo (restL (bts s)))) (num (denL (restL (bts s)))))))
      = okP (isNeg (bts s)) (upTo (restL (bts s))) (denL (restL (bts s))) (hasS (restL (bts s))) := by
    unfold okB okP
    rw [str_eq, str_eq, str_eq, str_eq, str_size, str_size]
    have hg : ∀ n, (decide (dec n = [49])) = decide (n = 1) := fun n => by
      rw [decide_eq_decide]; exact ⟨fun h => dec_inj (h.trans dec_one.symm), fun h => by rw [h, dec_one]⟩
    rw [hg]
    have hb : ∀ l r : List UInt8, (l == r) = decide (l = r) := fun l r => by rw [Bool.eq_iff_iff]; simp
    simp only [hb]
  rw [hok]
  cases hk : okP (isNeg (bts s)) (upTo (restL (bts s))) (denL (restL (bts s))) (hasS (restL (bts s)))
  · have hp : prs s = none := by unfold prs prsL; rw [hk]; rfl
    rw [hp]; rfl
  · have hp : prs s = some (mkRat (sg (isNeg (bts s)) (num (upTo (restL (bts s))))) (num (denL (restL (bts s))))) := by unfold prs prsL; rw [hk]; rfl
    have hq := (prsL_some hp).2
    rw [hp]
    simp only [prsV, nv, hq.sign, hq.top, hq.bot]; rfl
end Go.Proofs.YtlcbdaconghcmaaGreatDoor
