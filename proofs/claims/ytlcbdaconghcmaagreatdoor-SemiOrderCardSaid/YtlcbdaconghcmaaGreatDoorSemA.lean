/- The walks of semi.rings and semi.of: the three semirings as structs of strings and functions. -/
import Derived.Test.YtlcbdaconghcmaaGreatDoorRatG
import Derived.Test.YtlcbdaconghcmaaGreatDoorSemL
import Derived.Laws.EntriesVeiled
import Derived.Deep.WholeRow
import Derived.Deep.MidRow
import Derived.Laws.ResultCell
namespace Go.Proofs.YtlcbdaconghcmaaGreatDoor
open Go Go.RowKit
set_option maxRecDepth 100000

abbrev fv (g : FuncId) : Value := .func (.func g) #[] #[]
def ring0 : Array Value := #[.string ⟨#[]⟩, .string ⟨#[]⟩, .bool false, .nilFunc, .nilFunc, .nilFunc, .nilFunc, .nilFunc]
def ring1 : Array Value := #[.string ⟨#[105, 110, 102]⟩, .string ⟨#[48]⟩, .bool true, fv 62, fv 63, fv 64, fv 59, fv 59]
def ring2 : Array Value := #[.string ⟨#[48]⟩, .string ⟨#[49]⟩, .bool false, fv 65, fv 66, fv 67, fv 68, fv 69]
def ring3 : Array Value := #[.string ⟨#[48]⟩, .string ⟨#[49]⟩, .bool false, fv 62, fv 66, fv 70, fv 68, fv 69]
def ringsV : Array Value := #[.string ⟨#[]⟩, .string ⟨#[]⟩, .bool false, .nilFunc, .nilFunc, .nilFunc, .nilFunc, .nilFunc,
  .string ⟨#[105, 110, 102]⟩, .string ⟨#[48]⟩, .bool true, fv 62, fv 63, fv 64, fv 59, fv 59,
  .string ⟨#[48]⟩, .string ⟨#[49]⟩, .bool false, fv 65, fv 66, fv 67, fv 68, fv 69,
  .string ⟨#[48]⟩, .string ⟨#[49]⟩, .bool false, fv 62, fv 66, fv 70, fv 68, fv 69]

/-- A whole aggregate into the block that was made last. -/
theorem wpList_store_new {P : Program} {ops : Array Oper} {rest : List Oper} {op : Oper} {a : Act} {w : World} {Q : Exit → Act → World → Prop} (hgd : op.guard = none) (t : TypeId) (x y : Operand) (ho : op.op = .store t x y)
    (c c' : Array Value) (hx : a.eval x = .pointer (some ⟨w.heap.size, 0, none⟩)) (hy : a.eval y = .agg c') (hi : (P.info? t).map (·.size) = some c'.size) (hs : c.size = c'.size) (h1 : c'.all (·.oneCell') = true)
    (h : wpList P ops Q rest (a.put op.dst undef) (w.alloc (.cells c' t))) : wpList P ops Q (op :: rest) a (w.alloc (.cells c t)) :=
  wpList_plain hgd fun _ hK => by
    unfold Oper.wp execOp
    simp only [ho, hx, hy, Instr.storeAt, Instr.sureAddr, Sem.run_bind, Sem.run_pure, Result.andThen_ok, run_storeVar_new w t c c' hi hs h1]
    exact hK _ _ h
theorem results_cell {fn : Func} {p : Tmp} {ty : TypeId} (h : fn.results = #[.cell p ty]) (tmps : Array Value) (P : Program) (w : World) :
    (results fn tmps).run P w = ((asAddr (tmps.getD p undef)).run P w).andThen fun a w₁ => (loadVar ty a).run P w₁ := by
  simp only [results, h]
  simp [Sem.run_bind, Result.andThen]

set_option maxHeartbeats 4000000 in
theorem rings_any (w : World) : Calls Tryz.prog 47 #[] w fun e w' => e = .returned (.agg ringsV) ∧ Below w.heap.size w w' := by
  have hi : (Tryz.prog.info? 50).map (·.size) = some ringsV.size := by kernel_rfl
  have h1 : ringsV.all (·.oneCell') = true := by decide +kernel
  have HI := Lib.hid hi; clear hi
  have H1 := Lib.hid h1; clear h1
  go_enter Tryz.func47, Tryz.ntmps47
  go_wp2_with (refine wpList_store_new rfl 50 (.tmp 0) (.tmp 4) rfl _ ringsV rfl rfl HI.out rfl H1.out ?_)
  refine bodyPost_ret (v := .agg ringsV) ?_ rfl ⟨rfl, (Below.refl _ _).alloc (Nat.le_refl _) _⟩
  rw [results_cell rfl]
  exact run_loadVar_new w 50 ringsV 4 44 Tryz.underlying50 HI.out

/-- The eight cells of a block that the call itself has made. -/
theorem there8 {w wk : World} {c : Array Value} {t : TypeId} (hc : c.size = 8) (h : Below (w.alloc (.cells c t)).heap.size (w.alloc (.cells c t)) wk) : wk.there w.heap.size 0 8 := by
  intro j hj
  have hlt : w.heap.size < (w.alloc (.cells c t)).heap.size := by simp
  have e := h.cell (p := ⟨w.heap.size, 0 + j, none⟩) hlt
  have f := h.frozen (p := ⟨w.heap.size, 0 + j, none⟩) hlt
  rw [e, f]
  constructor
  · rw [cell_of_row _ _ (0 + j) c t (0, 0) (heap_alloc_last w _)]
    simp [hc, hj]
  · exact World.frozen?_alloc_new w c t _
def OfEnd (r : Array Value) (b : Bool) (w : World) (e : Ending) (w' : World) : Prop := e = .returned (.tuple #[.agg r, .bool b]) ∧ Below w.heap.size w w'
theorem results_cell8 {fn : Func} {p u : Tmp} (h : fn.results = #[.cell p 44, .tmp u]) (tmps : Array Value) (W : World) (b : Nat) (r : List Value) (v : Value) (hp : tmps.getD p undef = .pointer (some ⟨b, 0, none⟩)) (hu : tmps.getD u undef = v)
    (hr : r.length = 8) (hc : W.rangeAt b 0 r) : (results fn tmps).run Tryz.prog W = .ok (.tuple #[.agg r.toArray, v]) W := by
  rw [results_cell_tmp h, hp, hu]
  have hi : (Tryz.prog.info? 44).map (·.size) = some r.length := by rw [hr]; kernel_rfl
  have := run_loadVar_mid (P := Tryz.prog) W b 0 44 r _ hc Tryz.underlying44 rfl hi
  show ((loadVar 44 ⟨b, 0, none⟩).run Tryz.prog W).andThen _ = _
  rw [this]; rfl
theorem range_new (w : World) (c : Array Value) (t : TypeId) : (w.alloc (.cells c t)).rangeAt w.heap.size 0 c.toList := by
  intro j v hv
  rw [cell_of_row _ _ (0 + j) c t (0, 0) (heap_alloc_last w _)]
  rw [Nat.zero_add]; rw [Array.getElem?_toList] at hv; exact hv

set_option maxHeartbeats 4000000 in
theorem of_no (k : Int) (w : World) (hk : k < 1 ∨ 3 < k) : Calls Tryz.prog 34 #[.int .i64 k] w (OfEnd ring0 false w) := by
  have hi : (Tryz.prog.info? 44).map (·.size) = some ring0.size := by kernel_rfl
  have h1 : ring0.all (·.oneCell') = true := by decide +kernel
  have HI := Lib.hid hi; clear hi
  have H1 := Lib.hid h1; clear h1
  rcases hk with hk | hk
  · go_enter Tryz.func34, Tryz.ntmps34
    go_wp2_with (refine wpList_store_new rfl 44 (.tmp 2) (.tmp 10) rfl _ ring0 rfl rfl HI.out rfl H1.out ?_)
    exact bodyPost_ret (results_cell8 rfl _ _ w.heap.size ring0.toList (.bool false) rfl rfl rfl (range_new w ring0 _)) rfl ⟨rfl, (Below.refl _ _).alloc (Nat.le_refl _) _⟩
  · have hk1 : decide (k < 1) = false := by rw [decide_eq_false_iff_not]; omega
    go_enter Tryz.func34, Tryz.ntmps34
    go_wp2_with (refine wpList_store_new rfl 44 (.tmp 2) (.tmp 10) rfl _ ring0 rfl rfl HI.out rfl H1.out ?_)
    exact bodyPost_ret (results_cell8 rfl _ _ w.heap.size ring0.toList (.bool false) rfl rfl rfl (range_new w ring0 _)) rfl ⟨rfl, (Below.refl _ _).alloc (Nat.le_refl _) _⟩
end Go.Proofs.YtlcbdaconghcmaaGreatDoor
