/- The blocks with which the closures of rat.Add, Sub, Mul, Div begin. -/
import Derived.Test.YtlmfppjphblemaaGreatDoorRatR
import Derived.Deep.RegionHeld2
import Derived.Deep.DrawnRows
namespace Go.Proofs.YtlmfppjphblemaaGreatDoor
open Go Go.RowKit
set_option maxRecDepth 100000

theorem next_below {W a b : World} (h : Below W.heap.size W a) (hb : Below a.heap.size a b) : Below W.heap.size W b := h.trans (hb.mono h.size)
/-- The three structs that a closure begins with: its two arguments and its result. -/
def WR (p q : Bool) (xn xd yn yd : ByteArray) (w : World) : World :=
  ((w.alloc (.cells #[.bool p, .string xn, .string xd] 104)).alloc (.cells #[.bool q, .string yn, .string yd] 104)).alloc (.cells #[.bool false, .string ⟨#[]⟩, .string ⟨#[]⟩] 104)
theorem WR_below (p q : Bool) (xn xd yn yd : ByteArray) (w : World) : Below w.heap.size w (WR p q xn xd yn yd w) := by
  unfold WR
  exact (((Below.refl _ _).alloc (Nat.le_refl _) _).alloc (by simp) _).alloc (by simp; omega) _
theorem WR_cells {p q : Bool} {xn xd yn yd : ByteArray} {w wk : World} (h : Below (WR p q xn xd yn yd w).heap.size (WR p q xn xd yn yd w) wk) :
    Below (WR p q xn xd yn yd w).heap.size (WR p q xn xd yn yd w) wk ∧
    wk.cell? ⟨w.heap.size, 0, none⟩ = some (.bool p) ∧ wk.cell? ⟨w.heap.size, 1, none⟩ = some (.string xn) ∧ wk.cell? ⟨w.heap.size, 2, none⟩ = some (.string xd) ∧
    wk.cell? ⟨w.heap.size + 1, 0, none⟩ = some (.bool q) ∧ wk.cell? ⟨w.heap.size + 1, 1, none⟩ = some (.string yn) ∧ wk.cell? ⟨w.heap.size + 1, 2, none⟩ = some (.string yd) := by
  have hlt : ∀ k, k < 3 → w.heap.size + k < (WR p q xn xd yn yd w).heap.size := by intro k hk; unfold WR; simp; omega
  refine ⟨h, ?_, ?_, ?_, ?_, ?_, ?_⟩
  · exact (h.cell (p := ⟨w.heap.size, 0, none⟩) (hlt 0 (by omega))).trans (by simp [WR, go_sem])
  · exact (h.cell (p := ⟨w.heap.size, 1, none⟩) (hlt 0 (by omega))).trans (by simp [WR, go_sem])
  · exact (h.cell (p := ⟨w.heap.size, 2, none⟩) (hlt 0 (by omega))).trans (by simp [WR, go_sem])
  · exact (h.cell (p := ⟨w.heap.size + 1, 0, none⟩) (hlt 1 (by omega))).trans (by simp [WR, go_sem])
  · exact (h.cell (p := ⟨w.heap.size + 1, 1, none⟩) (hlt 1 (by omega))).trans (by simp [WR, go_sem])
  · exact (h.cell (p := ⟨w.heap.size + 1, 2, none⟩) (hlt 1 (by omega))).trans (by simp [WR, go_sem])
theorem WR_res {p q : Bool} {xn xd yn yd : ByteArray} {w wk : World} (h : Below (WR p q xn xd yn yd w).heap.size (WR p q xn xd yn yd w) wk) :
    wk.cell? ⟨w.heap.size + 1 + 1, 0, none⟩ = some (.bool false) ∧ wk.cell? ⟨w.heap.size + 1 + 1, 1, none⟩ = some (.string ⟨#[]⟩) ∧ wk.cell? ⟨w.heap.size + 1 + 1, 2, none⟩ = some (.string ⟨#[]⟩) ∧
    wk.frozen? ⟨w.heap.size + 1 + 1, 0, none⟩ = false ∧ wk.frozen? ⟨w.heap.size + 1 + 1, 1, none⟩ = false ∧ wk.frozen? ⟨w.heap.size + 1 + 1, 2, none⟩ = false := by
  have e : w.heap.size + 1 + 1 = ((w.alloc (.cells #[.bool p, .string xn, .string xd] 104)).alloc (.cells #[.bool q, .string yn, .string yd] 104)).heap.size := by simp
  rw [e]
  obtain ⟨k0, k1, k2, f0, f1, f2, _⟩ := res3 h
  exact ⟨k0, k1, k2, f0, f1, f2⟩

/-- At a call that panics inside a region that draws its order: the region's own tactic wants one goal to go on with: it goes on under a hypothesis that is false. -/
theorem fakeK {P : Program} {fn : Func} {R : Ending → World → Prop} {c : List PanicEntry} {a : Act} {w : World} {S : World → Prop} {G : Act → World → Prop} {K' : Act → World → Prop}
    (_ : Shut (∀ a w, S w → (S w → G a w) → K' a w)) (d : Tmp) (v : Value) (h : bodyPost P fn R (.panic c) a w) (_ : Hid False → K' (a.put (some d) v) w) : bodyPost P fn R (.panic c) a w := h
theorem WR_lo {p q : Bool} {xn xd yn yd : ByteArray} {w wk : World} (h : Below (WR p q xn xd yn yd w).heap.size (WR p q xn xd yn yd w) wk) : Below (w.heap.size + 1 + 1) (WR p q xn xd yn yd w) wk := by
  refine h.mono ?_
  unfold WR; simp
theorem WR_cells2 {p q : Bool} {xn xd yn yd : ByteArray} {w wk : World} (h : Below (w.heap.size + 1 + 1) (WR p q xn xd yn yd w) wk) :
    Below (w.heap.size + 1 + 1) (WR p q xn xd yn yd w) wk ∧
    wk.cell? ⟨w.heap.size, 0, none⟩ = some (.bool p) ∧ wk.cell? ⟨w.heap.size, 1, none⟩ = some (.string xn) ∧ wk.cell? ⟨w.heap.size, 2, none⟩ = some (.string xd) ∧
    wk.cell? ⟨w.heap.size + 1, 0, none⟩ = some (.bool q) ∧ wk.cell? ⟨w.heap.size + 1, 1, none⟩ = some (.string yn) ∧ wk.cell? ⟨w.heap.size + 1, 2, none⟩ = some (.string yd) := by
  have l0 : w.heap.size < w.heap.size + 1 + 1 := by omega
  have l1 : w.heap.size + 1 < w.heap.size + 1 + 1 := by omega
  refine ⟨h, ?_, ?_, ?_, ?_, ?_, ?_⟩
  · exact (h.cell (p := ⟨w.heap.size, 0, none⟩) l0).trans (by simp [WR, go_sem])
  · exact (h.cell (p := ⟨w.heap.size, 1, none⟩) l0).trans (by simp [WR, go_sem])
  · exact (h.cell (p := ⟨w.heap.size, 2, none⟩) l0).trans (by simp [WR, go_sem])
  · exact (h.cell (p := ⟨w.heap.size + 1, 0, none⟩) l1).trans (by simp [WR, go_sem])
  · exact (h.cell (p := ⟨w.heap.size + 1, 1, none⟩) l1).trans (by simp [WR, go_sem])
  · exact (h.cell (p := ⟨w.heap.size + 1, 2, none⟩) l1).trans (by simp [WR, go_sem])

end Go.Proofs.YtlmfppjphblemaaGreatDoor
