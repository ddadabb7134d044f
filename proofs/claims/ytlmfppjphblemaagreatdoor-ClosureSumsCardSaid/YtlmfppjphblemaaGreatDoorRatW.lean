/- The walks of rat.written and the closure that it defers. -/
import Derived.Test.YtlmfppjphblemaaGreatDoorRatH
import Derived.Recover
import Derived.Defers
namespace Go.Proofs.YtlmfppjphblemaaGreatDoor
open Go Go.RowKit
set_option maxRecDepth 100000

theorem assert_nil (w : World) : (Instr.typeAssert .nilIface 20 117 true).run Tryz.prog w = .ok (.tuple #[.agg #[], .bool false]) w := by kernel_rfl
theorem assert_long (w : World) : (Instr.typeAssert (.iface 117 (.agg #[])) 20 117 true).run Tryz.prog w = .ok (.tuple #[.agg #[], .bool true]) w := by kernel_rfl

set_option maxHeartbeats 2000000 in
theorem catch_idle (p q : Addr) (w : World) :
    CallsD Tryz.prog 148 #[.pointer (some p), .pointer (some q)] .returning w fun e u' w' => e = .returned (.tuple #[]) ∧ u' = .returning ∧ Below w.heap.size w w' := by
  have hbl : Below w.heap.size w (w.alloc (.cells #[] 117)) := (Below.refl _ _).alloc (Nat.le_refl _) _
  refine callsD_of_wpS Tryz.func148 rfl fun c₀ cs hu => ?_
  simp only [Tryz.ntmps148, List.size_toArray, List.length_cons, List.length_nil, Nat.reduceAdd, Nat.reduceSub, Array.replicate_succ,
     Array.replicate_zero, List.push_toArray, List.append_toArray, List.nil_append, List.cons_append]
  apply wpS_seq
  apply wpS_region
  simp [wpOpsS, go_sem, recoverD, hu, Exit.thenS, assert_nil]
  refine wpS_of_wp ?_
  go_wp2
  refine ⟨rfl, .returning, ?_, .tuple #[], ?_, rfl, rfl, hbl⟩
  · rw [← hu]
  · exact results_none rfl _ _ _
set_option maxHeartbeats 2000000 in
theorem catch_long (b c : Nat) (w : World) (s : ByteArray) (n : Int) (hp : w.cell? ⟨b, 0, none⟩ = some (.string s)) (hq : w.cell? ⟨c, 0, none⟩ = some (.int .i64 n)) (fp : w.frozen? ⟨b, 0, none⟩ = false) (fq : w.frozen? ⟨c, 0, none⟩ = false) (hb : b < w.heap.size) (hc : c < w.heap.size) (hbc : ¬ b = c) :
    CallsD Tryz.prog 148 #[.pointer (some ⟨b, 0, none⟩), .pointer (some ⟨c, 0, none⟩)] (.panicking ({ v := .iface 117 (.agg #[]), recovered := false } :: [])) w fun e u' w' =>
      e = .returned (.tuple #[]) ∧ u' = .panicking ({ v := .iface 117 (.agg #[]), recovered := true } :: []) ∧ w'.cell? ⟨b, 0, none⟩ = some (.string ⟨#[]⟩) ∧ w'.cell? ⟨c, 0, none⟩ = some (.int .i64 2) ∧
        ∀ B a, Below B a w → B ≤ b → B ≤ c → Below B a w' := by
  refine callsD_of_wpS Tryz.func148 rfl fun c₀ cs hu => ?_
  simp only [Tryz.ntmps148, List.size_toArray, List.length_cons, List.length_nil, Nat.reduceAdd, Nat.reduceSub, Array.replicate_succ,
     Array.replicate_zero, List.push_toArray, List.append_toArray, List.nil_append, List.cons_append]
  apply wpS_seq
  apply wpS_region
  simp [wpOpsS, go_sem, recoverD, hu, Exit.thenS, assert_long]
  refine wpS_of_wp ?_
  go_wp2
  have e1 : (w.setCell ⟨b, 0, none⟩ (.string ⟨#[]⟩)).cell? ⟨b, 0, none⟩ = some (.string ⟨#[]⟩) := World.cell?_setCell_same _ _ _ hp
  have e2 : (w.setCell ⟨b, 0, none⟩ (.string ⟨#[]⟩)).cell? ⟨c, 0, none⟩ = some (.int .i64 n) := (World.cell?_setCell_other _ ⟨b, 0, none⟩ ⟨c, 0, none⟩ _ (fun e => hbc (by injection e))).trans hq
  have e3 := World.cell?_setCell_same _ _ (.int .i64 2) e2
  have e4 := (World.cell?_setCell_other _ ⟨c, 0, none⟩ ⟨b, 0, none⟩ (.int .i64 2) (fun e => hbc (by injection e with e _; exact e.symm))).trans e1
  have hs : ∀ (x y : Value), ((w.setCell ⟨b, 0, none⟩ x).setCell ⟨c, 0, none⟩ y).heap.size = w.heap.size := fun x y => by simp
  refine ⟨rfl, .panicking [{ v := .iface 117 (.agg #[]), recovered := true }], rfl, .tuple #[], results_none rfl _ _ _, rfl, rfl, ?_, ?_, ?_⟩
  · rw [World.cell?_alloc_past (hn := by rw [hs]; exact hb)]; exact e4
  · rw [World.cell?_alloc_past (hn := by rw [hs]; exact hc)]; exact e3
  · intro B a h h1 h2
    have hB : B ≤ w.heap.size := by omega
    exact ((h.setCell h1 _).setCell h2 _).alloc (by rw [hs]; exact hB) _

theorem two_cells {w wk : World} {a b : Value} {t u : TypeId} (h : Below ((w.alloc (.cells #[a] t)).alloc (.cells #[b] u)).heap.size ((w.alloc (.cells #[a] t)).alloc (.cells #[b] u)) wk) :
    wk.cell? ⟨w.heap.size, 0, none⟩ = some a ∧ wk.cell? ⟨w.heap.size + 1, 0, none⟩ = some b ∧ wk.frozen? ⟨w.heap.size, 0, none⟩ = false ∧ wk.frozen? ⟨w.heap.size + 1, 0, none⟩ = false ∧ w.heap.size + 1 < wk.heap.size := by
  have hs := h.size
  have e : ((w.alloc (.cells #[a] t)).alloc (.cells #[b] u)).heap.size = w.heap.size + 1 + 1 := by simp
  rw [e] at hs
  have l0 : w.heap.size < ((w.alloc (.cells #[a] t)).alloc (.cells #[b] u)).heap.size := by rw [e]; omega
  have l1 : w.heap.size + 1 < ((w.alloc (.cells #[a] t)).alloc (.cells #[b] u)).heap.size := by rw [e]; omega
  refine ⟨?_, ?_, ?_, ?_, by omega⟩
  · exact (h.cell (p := ⟨w.heap.size, 0, none⟩) l0).trans (by simp [go_sem])
  · exact (h.cell (p := ⟨w.heap.size + 1, 0, none⟩) l1).trans (by simp [go_sem])
  · exact (h.frozen (p := ⟨w.heap.size, 0, none⟩) l0).trans (by simp [go_sem])
  · exact (h.frozen (p := ⟨w.heap.size + 1, 0, none⟩) l1).trans (by simp [go_sem])

theorem enterC : ∀ args w, (callFunc 137 args).run Tryz.prog w = .ok (.enter 137 args) w := fun args w => by kernel_rfl

theorem pair_result {fn : Func} {p u : Tmp} (h : fn.results = #[.cell p 9, .cell u 24]) (tmps : Array Value) (W : World) (b c : Nat) (s : ByteArray) (n : Int)
    (hp : tmps.getD p undef = .pointer (some ⟨b, 0, none⟩)) (hu : tmps.getD u undef = .pointer (some ⟨c, 0, none⟩)) (c0 : W.cell? ⟨b, 0, none⟩ = some (.string s)) (c1 : W.cell? ⟨c, 0, none⟩ = some (.int .i64 n)) :
    (results fn tmps).run Tryz.prog W = .ok (.tuple #[.string s, .int .i64 n]) W := by
  have hp' : tmps[p]?.getD undef = .pointer (some ⟨b, 0, none⟩) := by rw [← hp]; simp
  have hu' : tmps[u]?.getD undef = .pointer (some ⟨c, 0, none⟩) := by rw [← hu]; simp
  simp only [results, h]
  simp [hp', hu', go_sem, c0, c1]
set_option maxHeartbeats 4000000 in
theorem written_any (caps : Array Value) (q : Rat) (w : World) (hcl : ∀ wx, Below w.heap.size w wx → Calls Tryz.prog 137 caps wx (QEnd q wx)) :
    Calls Tryz.prog 136 #[.func (.func 137) #[] caps] w (PairEnd (limR q) w) := by
  have hmf : ∀ (fn : Fn) (first cap : Array Value) (w : World), (Instr.makeFunc fn first cap).run Tryz.prog w = .ok (.func fn first cap) w := fun _ _ _ _ => rfl
  have hen := enterC
  have hb0 : Below w.heap.size w ((w.alloc (.cells #[.string ⟨#[]⟩] 9)).alloc (.cells #[.int .i64 0] 24)) := ((Below.refl _ _).alloc (Nat.le_refl _) _).alloc (by simp) _
  have HB0 := Lib.hid hb0; clear hb0
  have HCL := Lib.hid hcl; clear hcl
  by_cases hf : fitQ q
  · rw [limR_fit hf]
    have HF := Lib.hid hf; clear hf
    go_enter_defers Tryz.func136, Tryz.ntmps136
    go_wp2_with fail
    have hq := HCL.out _ HB0.out
    unfold QEnd at hq
    rw [if_pos HF.out] at hq
    refine hq.mono ?_
    clear hq
    rintro e w1 ⟨rfl, hb1⟩
    have HS1 := Lib.hid hb1; clear hb1
    go_wp2_with fail
    refine (numtext_any q w1 HF.out).mono ?_
    rintro e w2 ⟨rfl, hb2⟩
    have HS2 := Lib.hid (next_below HS1.out hb2); clear hb2
    obtain ⟨k0, k1, f0, f1, hlt⟩ := two_cells HS2.out
    go_wp2_with fail
    have e1 := World.cell?_setCell_same _ _ (.string (txt q)) k0
    have e2 := (World.cell?_setCell_other w2 ⟨w.heap.size, 0, none⟩ ⟨w.heap.size + 1, 0, none⟩ (.string (txt q)) (fun e => by injection e; omega)).trans k1
    have e3 := World.cell?_setCell_same _ _ (.int .i64 0) e2
    have e4 := (World.cell?_setCell_other (w2.setCell ⟨w.heap.size, 0, none⟩ (.string (txt q))) ⟨w.heap.size + 1, 0, none⟩ ⟨w.heap.size, 0, none⟩ (.int .i64 0) (fun e => by injection e; omega)).trans e1
    have hs : ((w2.setCell ⟨w.heap.size, 0, none⟩ (.string (txt q))).setCell ⟨w.heap.size + 1, 0, none⟩ (.int .i64 0)).heap.size = w2.heap.size := by simp
    refine leaves_cons (f := 148) (args := #[.pointer (some ⟨w.heap.size, 0, none⟩), .pointer (some ⟨w.heap.size + 1, 0, none⟩)]) (by simp) (by simp [go_sem]) ?_
    refine (catch_idle _ _ _).mono ?_
    rintro e u' w'' ⟨rfl, rfl, hb⟩
    refine ⟨_, pair_result rfl _ _ w.heap.size (w.heap.size + 1) (txt q) 0 rfl rfl ?_ ?_, rfl, ?_⟩
    · exact (hb.cell (p := ⟨w.heap.size, 0, none⟩) (by rw [hs]; show w.heap.size < _; omega)).trans e4
    · exact (hb.cell (p := ⟨w.heap.size + 1, 0, none⟩) (by rw [hs]; exact hlt)).trans e3
    · have h1 : Below w.heap.size w w2 := next_below HB0.out HS2.out
      exact ((h1.setCell (Nat.le_refl _) _).setCell (Nat.le_succ _) _).trans (hb.mono (by rw [hs]; omega))
  · rw [limR_long hf]
    have HF := Lib.hid hf; clear hf
    go_enter_defers Tryz.func136, Tryz.ntmps136
    go_wp2_with fail
    have hq := HCL.out _ HB0.out
    unfold QEnd at hq
    rw [if_neg HF.out] at hq
    unfold PT at hq
    refine hq.mono ?_
    clear hq
    rintro e w1 ⟨rfl, hb1⟩
    have HS1 := Lib.hid hb1; clear hb1
    obtain ⟨k0, k1, f0, f1, hlt⟩ := two_cells HS1.out
    refine leaves_cons (f := 148) (args := #[.pointer (some ⟨w.heap.size, 0, none⟩), .pointer (some ⟨w.heap.size + 1, 0, none⟩)]) (by simp) (by simp [go_sem]) ?_
    refine (catch_long _ _ _ _ _ k0 k1 f0 f1 (by omega) hlt (by omega)).mono ?_
    rintro e u' w'' ⟨rfl, rfl, e1, e2, hb⟩
    exact ⟨_, pair_result rfl _ _ w.heap.size (w.heap.size + 1) ⟨#[]⟩ 2 rfl rfl e1 e2, rfl, hb _ _ (next_below HB0.out HS1.out) (Nat.le_refl _) (Nat.le_succ _)⟩
end Go.Proofs.YtlmfppjphblemaaGreatDoor
