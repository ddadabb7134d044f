/- Small matrices and a small machine: what their computations give. No program in sight but the strings. The walk of the example that every statement of chapter 07 holds: it returns true. -/
import Derived.Test.YtlmfppjphblemaaGreatDoorC9
import Derived.Test.YtlmfppjphblemaaGreatDoorC6
import Derived.OwnWalk
namespace Go.Proofs.YtlmfppjphblemaaGreatDoor
open Go Go.RowKit Go.Deep
set_option maxRecDepth 100000

instance (v : V) : Decidable (fitV v) := by cases v <;> unfold fitV <;> infer_instance
def tb2 (a b c d : ByteArray) (i j : Nat) : ByteArray := if i = 0 then (if j = 0 then a else b) else (if j = 0 then c else d)
def k1 : KK := ⟨1, .inl rfl⟩
def k2 : KK := ⟨2, .inr (.inl rfl)⟩
def k3 : KK := ⟨3, .inr (.inr rfl)⟩
/-- All fits, as a test. -/
def fitEB {k : KK} (n p : Nat) (M : Nat → Nat → RK k) : Bool := decide (fitV (CSR.star (M p p)).1) && (List.range n).all fun i => decide (fitV (M i p * CSR.star (M p p)).1) && (List.range n).all fun j =>
  decide (fitV (M i p * CSR.star (M p p) * M p j).1) && decide (fitV (CSR.elim p M i j).1)
def fitMB {k : KK} (n : Nat) (M : Nat → Nat → RK k) : Bool := ((List.range n).all fun p => fitEB n p (CSR.elims M p)) && (List.range n).all fun i => decide (fitV (CSR.elims M n i i + CSR.one).1)
theorem fitE_of {k : KK} {n p : Nat} {M : Nat → Nat → RK k} (h : fitEB n p M = true) : FitE n p M := by
  unfold fitEB at h
  simp only [Bool.and_eq_true, decide_eq_true_eq, List.all_eq_true, List.mem_range] at h
  exact ⟨h.1, fun i hi => (h.2 i hi).1, fun i j hi hj => ((h.2 i hi).2 j hj).1, fun i j hi hj => ((h.2 i hi).2 j hj).2⟩
theorem fitM_of {k : KK} {n : Nat} {M : Nat → Nat → RK k} (h : fitMB n M = true) : FitM n M := by
  unfold fitMB at h
  simp only [Bool.and_eq_true, decide_eq_true_eq, List.all_eq_true, List.mem_range] at h
  exact ⟨fun p hp => fitE_of (h.1 p hp), h.2⟩
def sqB (k : Int) (n : Nat) (X : Nat → Nat → ByteArray) : Bool := (List.range n).all fun i => (List.range n).all fun j => validF k (X i j)
theorem sq_of {k : Int} {n : Nat} {X : Nat → Nat → ByteArray} (h : sqB k n X = true) : Sq k n (fun _ => n) X := by
  unfold sqB at h
  simp only [List.all_eq_true, List.mem_range] at h
  exact fun i hi => ⟨rfl, h i hi⟩
/-- Star of a matrix that fits. -/
theorem starE_ok {k : KK} {n : Nat} {L : Nat → Nat} {X : Nat → Nat → ByteArray} {w w' : World} {r : Ending} (h : StarE k.1 n L X w r w') (hsq : Sq k.1 n L X) (hn : n ≤ 60) (hf : FitM n (fun i j => wval k (X i j))) :
    Below w.heap.size w w' ∧ ∃ v Y, r = .returned (.tuple #[v, .int .i64 0]) ∧ Mt none w' v n (fun _ => n) Y ∧ MatIs 0 n Y (CSR.starM (fun i j => wval k (X i j)) n) := by
  have hkb : kindB k.1 = true := by unfold kindB; have := k.2; simp; omega
  refine ⟨h.1, ?_⟩
  rcases h.2 with ⟨h1, _⟩ | ⟨h1, _⟩ | ⟨_, k', M, hk, _, hM, _, h2⟩
  · exact absurd ⟨hkb, hsq⟩ h1
  · omega
  · obtain rfl : k' = k := Subtype.ext hk
    subst hM
    rcases h2 with ⟨v, Y, h3, h4, h5⟩ | ⟨_, h3⟩
    · exact ⟨v, Y, h3, h4, h5⟩
    · exact absurd hf h3
theorem Is.rd {k : KK} {s t : ByteArray} {x : RK k} (h : Is k 0 s x) (ht : rdV t = some x.1) : s = t := by
  rw [(h.2 rfl).1, (rdV_some ht).1]

/-! ### The examples -/
def X1 := tb2 ⟨#[49]⟩ ⟨#[50]⟩ ⟨#[105, 110, 102]⟩ ⟨#[51]⟩
def X2 := tb2 ⟨#[49, 47, 50]⟩ ⟨#[49, 47, 52]⟩ ⟨#[48]⟩ ⟨#[49, 47, 51]⟩
def X3 : Nat → Nat → ByteArray := fun _ _ => ⟨#[45, 49]⟩
theorem X1_sq : Sq 1 2 (fun _ => 2) X1 := sq_of (by decide +kernel)
theorem X2_sq : Sq 2 2 (fun _ => 2) X2 := sq_of (by decide +kernel)
theorem X3_sq : Sq 1 1 (fun _ => 1) X3 := sq_of (by decide +kernel)
theorem X1_fit : FitM 2 (fun i j => wval k1 (X1 i j)) := fitM_of (by decide +kernel)
theorem X2_fit : FitM 2 (fun i j => wval k2 (X2 i j)) := fitM_of (by decide +kernel)
theorem X3_fit : FitM 1 (fun i j => wval k1 (X3 i j)) := fitM_of (by decide +kernel)
theorem X1_val : ∀ i, i < 2 → ∀ j, j < 2 → rdV (tb2 ⟨#[48]⟩ ⟨#[50]⟩ ⟨#[105, 110, 102]⟩ ⟨#[48]⟩ i j) = some (CSR.starM (fun i j => wval k1 (X1 i j)) 2 i j).1 := by decide +kernel
theorem X2_val : ∀ i, i < 2 → ∀ j, j < 2 → rdV (tb2 ⟨#[50]⟩ ⟨#[51, 47, 52]⟩ ⟨#[48]⟩ ⟨#[51, 47, 50]⟩ i j) = some (CSR.starM (fun i j => wval k2 (X2 i j)) 2 i j).1 := by decide +kernel
theorem X3_val : rdV ⟨#[45, 105, 110, 102]⟩ = some (CSR.starM (fun i j => wval k1 (X3 i j)) 1 0 0).1 := by decide +kernel
/-- The example's machine. -/
def DX : MD := { kind := 1, start := 0, lead := ⟨#[49]⟩, n := 2, fin := fun i => if i = 0 then ⟨#[]⟩ else ⟨#[52]⟩, na := fun _ => 1, ain := fun i _ => if i = 0 then 1 else 2, aout := fun _ _ => 1, aw := fun i _ => if i = 0 then ⟨#[50]⟩ else ⟨#[51]⟩, ato := fun _ _ => 1 }
theorem DX_vm : VM DX := by
  refine ⟨by decide, by decide, by decide, by decide, by decide, by decide +kernel, by decide, ?_, ?_⟩
  · intro i hi
    match i, hi with
    | 0, _ => exact .inl rfl
    | 1, _ => exact .inr (by decide +kernel)
  · intro i k hi hk
    have hk0 : k = 0 := by have : DX.na i = 1 := rfl; omega
    subst hk0
    match i, hi with
    | 0, _ => exact ⟨by decide, by decide, by decide, by decide, by decide, by decide, by decide +kernel⟩
    | 1, _ => exact ⟨by decide, by decide, by decide, by decide, by decide, by decide, by decide +kernel⟩
def DXW : Nat → Nat → RK k1 := fun i d => wval k1 (DX.aw i d)
def DXV : Nat → RK k1 := fun p => wval k1 (DX.fin p)
theorem DX_fitP : FitP DX DXW := by
  refine ⟨?_, fitM_of (by decide +kernel)⟩
  intro i d j hi hd hj _
  have h : ∀ i, i < 2 → ∀ d, d < 1 → ∀ j, j < 2 → fitV (arcV DX DXW i d j + DXW i d).1 := by decide +kernel
  exact h i hi d hd j hj
theorem DX_fitT : FitT DX DXW DXV := by
  refine ⟨DX_fitP, ?_, ?_⟩
  · intro i p hi hp _
    have h : ∀ i, i < 2 → ∀ p, p < 2 → fitV (CSR.starM (arcM DX DXW) 2 i p * DXV p).1 := by decide +kernel
    exact h i hi p hp
  · intro i p hi hp _
    have h : ∀ i, i < 2 → ∀ p, p < 2 → fitV (toV DX (CSR.starM (arcM DX DXW) 2) DXV i p + CSR.starM (arcM DX DXW) 2 i p * DXV p).1 := by decide +kernel
    exact h i hi p hp
theorem DX_fitF : FitF DX DXW (wval k1 DX.lead) 0 := ⟨DX_fitP, by
  intro j hj
  have h : ∀ j, j < 2 → fitV (wval k1 DX.lead * CSR.starM (arcM DX DXW) 2 0 j).1 := by decide +kernel
  exact h j hj⟩
theorem DX_to : ∀ i, i < 2 → rdV (if i = 0 then ⟨#[54]⟩ else ⟨#[52]⟩) = some (toV DX (CSR.starM (arcM DX DXW) 2) DXV i 2).1 := by decide +kernel
theorem DX_from : ∀ i, i < 2 → rdV (if i = 0 then ⟨#[49]⟩ else ⟨#[51]⟩) = some (wval k1 DX.lead * CSR.starM (arcM DX DXW) 2 0 i).1 := by decide +kernel
theorem DX_total : rdV ⟨#[55]⟩ = some (wval k1 DX.lead * toV DX (CSR.starM (arcM DX DXW) 2) DXV 0 2).1 := by decide +kernel
end Go.Proofs.YtlmfppjphblemaaGreatDoor

namespace Go.Proofs.YtlmfppjphblemaaGreatDoor
set_option maxRecDepth 100000
set_option linter.unusedSimpArgs false
open Go Go.RowKit Go.Deep

def W22 (w : World) (a b c d : ByteArray) : World := ((w.alloc (.cells #[.string a, .string b] 9)).alloc (.cells #[.string c, .string d] 9)).alloc (.cells #[.slice (some ⟨w.heap.size, 0, none⟩) 2 2, .slice (some ⟨w.heap.size + 1, 0, none⟩) 2 2] 33)
theorem ss_new (w : World) (cs : Array Value) (n : Nat) (X : Nat → ByteArray) (h : ∀ i, i < n → cs[i]? = some (.string (X i))) (hn : n ≤ maxLen) : Ss none (w.alloc (.cells cs 9)) (.slice (some ⟨w.heap.size, 0, none⟩) n n) n X :=
  .inr ⟨_, 0, n, rfl, ⟨by simp, by simp⟩, Nat.le_refl _, hn, fun i hi => by rw [Nat.zero_add]; exact cell_new w _ _ i _ (h i hi)⟩
theorem W22_mt (w : World) (a b c d : ByteArray) : Mt none (W22 w a b c d) (.slice (some ⟨w.heap.size + 1 + 1, 0, none⟩) 2 2) 2 (fun _ => 2) (tb2 a b c d) := by
  have h1 := (ss_new w #[.string a, .string b] 2 (fun j => if j = 0 then a else b) (fun i hi => by match i, hi with | 0, _ => rfl | 1, _ => rfl) (by unfold maxLen; omega))
  have h2 := (ss_new (w.alloc (.cells #[.string a, .string b] 9)) #[.string c, .string d] 2 (fun j => if j = 0 then c else d) (fun i hi => by match i, hi with | 0, _ => rfl | 1, _ => rfl) (by unfold maxLen; omega))
  rw [show (w.alloc (.cells #[.string a, .string b] 9)).heap.size = w.heap.size + 1 by simp] at h2
  have e3 : ((w.alloc (.cells #[.string a, .string b] 9)).alloc (.cells #[.string c, .string d] 9)).heap.size = w.heap.size + 1 + 1 := by simp
  refine ⟨fun i => if i = 0 then .slice (some ⟨w.heap.size, 0, none⟩) 2 2 else .slice (some ⟨w.heap.size + 1, 0, none⟩) 2 2, .inr ⟨_, 0, 2, rfl, ⟨?_, by simp⟩, Nat.le_refl _, by unfold maxLen; omega, fun i hi => ?_⟩, fun i hi => ?_⟩
  · unfold W22; simp
  · rw [Nat.zero_add]
    have := cell_new ((w.alloc (.cells #[.string a, .string b] 9)).alloc (.cells #[.string c, .string d] 9)) #[.slice (some ⟨w.heap.size, 0, none⟩) 2 2, .slice (some ⟨w.heap.size + 1, 0, none⟩) 2 2] 33 i
    rw [e3] at this
    exact this _ (by match i, hi with | 0, _ => rfl | 1, _ => rfl)
  · match i, hi with
    | 0, _ => exact Rd.kept (Rd.kept h1 (World.grownBy_alloc _ _ none)) (World.grownBy_alloc _ _ none)
    | 1, _ => exact Rd.kept h2 (World.grownBy_alloc _ _ none)
theorem W22_below (w : World) (a b c d : ByteArray) : Below w.heap.size w (W22 w a b c d) := (((Below.refl _ _).alloc (Nat.le_refl _) _).alloc (by simp) _).alloc (by simp; omega) _
def W11 (w : World) (a : ByteArray) : World := (w.alloc (.cells #[.string a] 9)).alloc (.cells #[.slice (some ⟨w.heap.size, 0, none⟩) 1 1] 33)
theorem W11_mt (w : World) (a : ByteArray) : Mt none (W11 w a) (.slice (some ⟨w.heap.size + 1, 0, none⟩) 1 1) 1 (fun _ => 1) (fun _ _ => a) := by
  have h1 := (ss_new w #[.string a] 1 (fun _ => a) (fun i hi => by match i, hi with | 0, _ => rfl) (by unfold maxLen; omega))
  have e3 : (w.alloc (.cells #[.string a] 9)).heap.size = w.heap.size + 1 := by simp
  refine ⟨fun _ => .slice (some ⟨w.heap.size, 0, none⟩) 1 1, .inr ⟨_, 0, 1, rfl, ⟨?_, by simp⟩, Nat.le_refl _, by unfold maxLen; omega, fun i hi => ?_⟩, fun i hi => Rd.kept h1 (World.grownBy_alloc _ _ none)⟩
  · unfold W11; simp
  · rw [Nat.zero_add]
    have := cell_new (w.alloc (.cells #[.string a] 9)) #[.slice (some ⟨w.heap.size, 0, none⟩) 1 1] 33 i
    rw [e3] at this
    exact this _ (by match i, hi with | 0, _ => rfl)
theorem W11_below (w : World) (a : ByteArray) : Below w.heap.size w (W11 w a) := ((Below.refl _ _).alloc (Nat.le_refl _) _).alloc (by simp) _
theorem tb2_size {a b c d : ByteArray} {n : Nat} (ha : a.size ≤ n) (hb : b.size ≤ n) (hc : c.size ≤ n) (hd : d.size ≤ n) (i j : Nat) : (tb2 a b c d i j).size ≤ n := by unfold tb2; (repeat' split) <;> assumption
/-- The machine in memory. -/
def DW (w : World) : World := (((w.alloc (.cells #[.int .i64 1, .int .i64 1, .string ⟨#[50]⟩, .int .i64 1] 56)).alloc (.cells #[.int .i64 2, .int .i64 1, .string ⟨#[51]⟩, .int .i64 1] 56)).alloc
  (.cells #[.string ⟨#[]⟩, .slice (some ⟨w.heap.size, 0, none⟩) 1 1, .string ⟨#[52]⟩, .slice (some ⟨w.heap.size + 1, 0, none⟩) 1 1] 53)).alloc
  (.cells #[.int .i64 1, .int .i64 0, .string ⟨#[49]⟩, .slice (some ⟨w.heap.size + 1 + 1, 0, none⟩) 2 2] 31)
theorem DW_below (w : World) : Below w.heap.size w (DW w) := ((((Below.refl _ _).alloc (Nat.le_refl _) _).alloc (by simp) _).alloc (by simp; omega) _).alloc (by simp; omega) _
theorem DW_box (w : World) : BoxM (DW w) (w.heap.size + 1 + 1 + 1) DX (.slice (some ⟨w.heap.size + 1 + 1, 0, none⟩) 2 2) := by
  have h := heap_alloc_new (((w.alloc (.cells #[.int .i64 1, .int .i64 1, .string ⟨#[50]⟩, .int .i64 1] 56)).alloc (.cells #[.int .i64 2, .int .i64 1, .string ⟨#[51]⟩, .int .i64 1] 56)).alloc
    (.cells #[.string ⟨#[]⟩, .slice (some ⟨w.heap.size, 0, none⟩) 1 1, .string ⟨#[52]⟩, .slice (some ⟨w.heap.size + 1, 0, none⟩) 1 1] 53))
    (.cells #[.int .i64 1, .int .i64 0, .string ⟨#[49]⟩, .slice (some ⟨w.heap.size + 1 + 1, 0, none⟩) 2 2] 31)
  rw [show (((w.alloc (.cells #[.int .i64 1, .int .i64 1, .string ⟨#[50]⟩, .int .i64 1] 56)).alloc (.cells #[.int .i64 2, .int .i64 1, .string ⟨#[51]⟩, .int .i64 1] 56)).alloc
    (.cells #[.string ⟨#[]⟩, .slice (some ⟨w.heap.size, 0, none⟩) 1 1, .string ⟨#[52]⟩, .slice (some ⟨w.heap.size + 1, 0, none⟩) 1 1] 53)).heap.size = w.heap.size + 1 + 1 + 1 by simp] at h
  exact h
theorem DW_ma (w : World) : Ma none (DW w) (.agg #[.int .i64 1, .int .i64 0, .string ⟨#[49]⟩, .slice (some ⟨w.heap.size + 1 + 1, 0, none⟩) 2 2]) DX := by
  refine ⟨_, rfl, ?_⟩
  obtain ⟨wa, hwa⟩ : ∃ wa, wa = w.alloc (.cells #[.int .i64 1, .int .i64 1, .string ⟨#[50]⟩, .int .i64 1] 56) := ⟨_, rfl⟩
  obtain ⟨wb, hwb⟩ : ∃ wb, wb = wa.alloc (.cells #[.int .i64 2, .int .i64 1, .string ⟨#[51]⟩, .int .i64 1] 56) := ⟨_, rfl⟩
  obtain ⟨wc, hwc⟩ : ∃ wc, wc = wb.alloc (.cells #[.string ⟨#[]⟩, .slice (some ⟨w.heap.size, 0, none⟩) 1 1, .string ⟨#[52]⟩, .slice (some ⟨w.heap.size + 1, 0, none⟩) 1 1] 53) := ⟨_, rfl⟩
  have ea : wa.heap.size = w.heap.size + 1 := by rw [hwa]; simp
  have eb : wb.heap.size = w.heap.size + 1 + 1 := by rw [hwb]; simp; exact ea
  have ec : wc.heap.size = w.heap.size + 1 + 1 + 1 := by rw [hwc]; simp; exact eb
  have gab : wa.grownBy wb none := by rw [hwb]; exact World.grownBy_alloc _ _ _
  have gbc : wb.grownBy wc none := by rw [hwc]; exact World.grownBy_alloc _ _ _
  have a0 : ArS none wa (.slice (some ⟨w.heap.size, 0, none⟩) 1 1) DX 0 := .inr ⟨_, 0, 1, rfl, ⟨by rw [ea]; omega, by simp⟩, Nat.le_refl _, by unfold maxLen; omega, fun k hk => by
    have hk0 : k = 0 := by have : DX.na 0 = 1 := rfl; omega
    subst hk0
    rw [hwa]
    exact ⟨cell_new w _ _ 0 _ rfl, cell_new w _ _ 1 _ rfl, cell_new w _ _ 2 _ rfl, cell_new w _ _ 3 _ rfl⟩⟩
  have a1 : ArS none wb (.slice (some ⟨w.heap.size + 1, 0, none⟩) 1 1) DX 1 := .inr ⟨_, 0, 1, rfl, ⟨by rw [eb]; omega, by simp⟩, Nat.le_refl _, by unfold maxLen; omega, fun k hk => by
    have hk0 : k = 0 := by have : DX.na 1 = 1 := rfl; omega
    subst hk0
    rw [hwb, ← ea]
    exact ⟨cell_new wa _ _ 0 _ rfl, cell_new wa _ _ 1 _ rfl, cell_new wa _ _ 2 _ rfl, cell_new wa _ _ 3 _ rfl⟩⟩
  have hs : StS none wc (.slice (some ⟨w.heap.size + 1 + 1, 0, none⟩) 2 2) DX := by
    refine .inr ⟨_, 0, 2, fun i => if i = 0 then .slice (some ⟨w.heap.size, 0, none⟩) 1 1 else .slice (some ⟨w.heap.size + 1, 0, none⟩) 1 1, rfl, ⟨by rw [ec]; omega, by simp⟩, Nat.le_refl _, by unfold maxLen; omega, fun i hi => ?_⟩
    match i, hi with
    | 0, _ =>
      refine ⟨?_, ?_, ?_⟩
      · rw [hwc, ← eb]; exact cell_new wb _ _ 0 _ rfl
      · rw [hwc, ← eb]; exact cell_new wb _ _ 1 _ rfl
      · exact (a0.kept gab).kept gbc
    | 1, _ =>
      refine ⟨?_, ?_, ?_⟩
      · rw [hwc, ← eb]; exact cell_new wb _ _ 2 _ rfl
      · rw [hwc, ← eb]; exact cell_new wb _ _ 3 _ rfl
      · exact a1.kept gbc
  have : DW w = wc.alloc (.cells #[.int .i64 1, .int .i64 0, .string ⟨#[49]⟩, .slice (some ⟨w.heap.size + 1 + 1, 0, none⟩) 2 2] 31) := by rw [hwc, hwb, hwa]; rfl
  rw [this]
  exact hs.kept (World.grownBy_alloc _ _ _)
theorem DX_sz : MSz DX := ⟨by decide +kernel, fun i => by show (if i = 0 then _ else _ : ByteArray).size ≤ _; split <;> decide +kernel, fun i k => by show (if i = 0 then _ else _ : ByteArray).size ≤ _; split <;> decide +kernel, fun _ => by show 1 ≤ 140737488355328; omega, by decide, by decide⟩
theorem toE_ok {w w' : World} {r : Ending} (h : ToE DX w r w') : Below w.heap.size w w' ∧ ∃ v Z, r = .returned (.tuple #[v, .int .i64 0]) ∧ Ss none w' v 2 Z ∧ ∀ i, i < 2 → Z i = if i = 0 then ⟨#[54]⟩ else ⟨#[52]⟩ := by
  refine ⟨h.1, ?_⟩
  rcases h.2 with ⟨h1, _⟩ | ⟨_, h1, _⟩ | ⟨_, _, k, W, V, hk, hW, hV, h2⟩
  · exact absurd DX_vm h1
  · exact absurd h1 (by decide)
  · obtain rfl : k = k1 := Subtype.ext hk
    obtain rfl : W = DXW := hW.1
    obtain rfl : V = DXV := hV.1
    rcases h2 with ⟨v, Z, h3, h4, h5⟩ | ⟨_, h3⟩
    · exact ⟨v, Z, h3, h4, fun i hi => (h5 i hi).rd (DX_to i hi)⟩
    · exact absurd DX_fitT h3
theorem fromE_ok {w w' : World} {r : Ending} (h : FromE DX w r w') : Below w.heap.size w w' ∧ ∃ v Z, r = .returned (.tuple #[v, .int .i64 0]) ∧ Ss none w' v 2 Z ∧ ∀ i, i < 2 → Z i = if i = 0 then ⟨#[49]⟩ else ⟨#[51]⟩ := by
  refine ⟨h.1, ?_⟩
  rcases h.2 with ⟨h1, _⟩ | ⟨_, h1, _⟩ | ⟨_, _, k, W, L, st, hk, hW, hL, hst, _, h2⟩
  · exact absurd DX_vm h1
  · exact absurd h1 (by decide)
  · obtain rfl : k = k1 := Subtype.ext hk
    obtain rfl : W = DXW := hW.1
    obtain rfl : wval k1 DX.lead = L := hL.val
    obtain rfl : st = 0 := by have : (0 : Int) = (st : Int) := hst; omega
    rcases h2 with ⟨v, Z, h3, h4, h5⟩ | ⟨_, h3⟩
    · exact ⟨v, Z, h3, h4, fun i hi => (h5 i hi).rd (DX_from i hi)⟩
    · exact absurd DX_fitF h3
theorem totE_ok {w w' : World} {r : Ending} (h : TotE DX w r w') : Below w.heap.size w w' ∧ r = .returned (.tuple #[.string ⟨#[55]⟩, .int .i64 0]) := by
  refine ⟨h.1, ?_⟩
  rcases h.2 with ⟨h1, _⟩ | ⟨_, h1, _⟩ | ⟨_, _, k, W, V, L, st, hk, hW, hV, hL, hst, _, h2⟩
  · exact absurd DX_vm h1
  · exact absurd h1 (by decide)
  · obtain rfl : k = k1 := Subtype.ext hk
    obtain rfl : W = DXW := hW.1
    obtain rfl : V = DXV := hV.1
    obtain rfl : wval k1 DX.lead = L := hL.val
    obtain rfl : st = 0 := by have : (0 : Int) = (st : Int) := hst; omega
    rcases h2 with ⟨q, hq, h3⟩ | ⟨_, h3⟩
    · have := lim_of DX_total
      rw [show DX.n = 2 from rfl, this] at hq
      rw [h3, hq]; rfl
    · exact absurd DX_fitT h3
def TrueE (w : World) (e : Ending) (w' : World) : Prop := e = .returned (.bool true) ∧ Below w.heap.size w w'
set_option maxHeartbeats 8000000 in
theorem example_any (w : World) (ht : Tab w) : Calls Tryz.prog 11 #[] w (TrueE w) := by
  have HT := Lib.hid ht; clear ht
  go_enter Tryz.func11, Tryz.ntmps11
  go_wp2_with fail
  have hb0 := W22_below w ⟨#[49]⟩ ⟨#[50]⟩ ⟨#[105, 110, 102]⟩ ⟨#[51]⟩
  refine (star_any (k0 := 1) (L := fun _ => 2) (X := X1) (W22 w ⟨#[49]⟩ ⟨#[50]⟩ ⟨#[105, 110, 102]⟩ ⟨#[51]⟩) (by omega) (W22_mt w _ _ _ _) (tb2_size (by decide +kernel) (by decide +kernel) (by decide +kernel) (by decide +kernel)) (HT.out.below hb0 (Nat.le_refl _))).mono ?_
  intro r w1 hr
  obtain ⟨hb1, v1, Y1, rfl, hm1, hv1⟩ := starE_ok (k := k1) hr X1_sq (by omega) X1_fit
  have HB1 := Lib.hid (hb0.trans (hb1.mono hb0.size)); clear hb0 hb1 hr
  have HM1 := Lib.hid hm1; clear hm1
  have HV1 := Lib.hid hv1; clear hv1
  go_wp2_with fail
  have hb0 := W22_below w1 ⟨#[49, 47, 50]⟩ ⟨#[49, 47, 52]⟩ ⟨#[48]⟩ ⟨#[49, 47, 51]⟩
  refine (star_any (k0 := 2) (L := fun _ => 2) (X := X2) (W22 w1 ⟨#[49, 47, 50]⟩ ⟨#[49, 47, 52]⟩ ⟨#[48]⟩ ⟨#[49, 47, 51]⟩) (by omega) (W22_mt w1 _ _ _ _) (tb2_size (by decide +kernel) (by decide +kernel) (by decide +kernel) (by decide +kernel)) ((HT.out.below HB1.out (Nat.le_refl _)).below hb0 (Nat.le_refl _))).mono ?_
  intro r w2 hr
  obtain ⟨hb2, v2, Y2, rfl, hm2, hv2⟩ := starE_ok (k := k2) hr X2_sq (by omega) X2_fit
  have hb02 := hb0.trans (hb2.mono hb0.size)
  have HM1b := Lib.hid (HM1.out.kept (gb_below hb02 none)); clear HM1
  have HB2 := Lib.hid (HB1.out.trans (hb02.mono HB1.out.size)); clear hb0 hb2 hb02 hr HB1
  have HM2 := Lib.hid hm2; clear hm2
  have HV2 := Lib.hid hv2; clear hv2
  go_wp2_with fail
  have hb0 := W11_below w2 ⟨#[45, 49]⟩
  refine (star_any (k0 := 1) (L := fun _ => 1) (X := X3) (W11 w2 ⟨#[45, 49]⟩) (by omega) (W11_mt w2 _) (fun _ _ => by unfold X3; decide +kernel) ((HT.out.below HB2.out (Nat.le_refl _)).below hb0 (Nat.le_refl _))).mono ?_
  intro r w3 hr
  obtain ⟨hb3, v3, Y3, rfl, hm3, hv3⟩ := starE_ok (k := k1) hr X3_sq (by omega) X3_fit
  have hb03 := hb0.trans (hb3.mono hb0.size)
  have HM1c := Lib.hid (HM1b.out.kept (gb_below hb03 none)); clear HM1b
  have HM2b := Lib.hid (HM2.out.kept (gb_below hb03 none)); clear HM2
  have HB3 := Lib.hid (HB2.out.trans (hb03.mono HB2.out.size)); clear hb0 hb3 hb03 hr HB2
  have HM3 := Lib.hid hm3; clear hm3
  have HV3 := Lib.hid hv3; clear hv3
  go_wp2_with fail
  have hb0 := DW_below w3
  refine (to_any (D := DX) (DW w3) (DW_ma w3) DX_sz ((HT.out.below HB3.out (Nat.le_refl _)).below hb0 (Nat.le_refl _))).mono ?_
  intro r w4 hr
  obtain ⟨hb4, v4, Z4, rfl, hz4, hv4⟩ := toE_ok hr
  have hb04 := hb0.trans (hb4.mono hb0.size)
  have hma4 : Ma none w4 (.agg #[.int .i64 1, .int .i64 0, .string ⟨#[49]⟩, .slice (some ⟨w3.heap.size + 1 + 1, 0, none⟩) 2 2]) DX := by
    obtain ⟨sv, e, h⟩ := DW_ma w3; exact ⟨sv, e, h.kept (gb_below hb4 none)⟩
  have hbx4 := (DW_box w3).kept (gb_below hb4 none) (by simp)
  have HM1d := Lib.hid (HM1c.out.kept (gb_below hb04 none)); clear HM1c
  have HM2c := Lib.hid (HM2b.out.kept (gb_below hb04 none)); clear HM2b
  have HM3b := Lib.hid (HM3.out.kept (gb_below hb04 none)); clear HM3
  have HB4 := Lib.hid (HB3.out.trans (hb04.mono HB3.out.size)); clear hb0 hb4 hb04 hr HB3
  obtain ⟨bx, hbx⟩ : ∃ bx, bx = w3.heap.size + 1 + 1 + 1 := ⟨_, rfl⟩
  rw [← hbx] at hbx4
  rw [← hbx]
  clear hbx
  obtain ⟨sv, hsv⟩ : ∃ sv, sv = Value.slice (some ⟨w3.heap.size + 1 + 1, 0, none⟩) 2 2 := ⟨_, rfl⟩
  rw [← hsv] at hma4 hbx4
  clear hsv
  have b0 : w4.cell? ⟨bx, 0, none⟩ = some (.int .i64 1) := hbx4.c0
  have b1 : w4.cell? ⟨bx, 1, none⟩ = some (.int .i64 0) := hbx4.c1
  have b2 : w4.cell? ⟨bx, 2, none⟩ = some (.string ⟨#[49]⟩) := hbx4.c2
  have b3 := hbx4.c3
  have HMA4 := Lib.hid hma4; clear hma4
  have HBX4 := Lib.hid hbx4; clear hbx4
  have HZ4 := Lib.hid hz4; clear hz4
  have HV4 := Lib.hid hv4; clear hv4
  go_wp2_with fail
  refine (from_any (D := DX) w4 HMA4.out DX_sz (HT.out.below HB4.out (Nat.le_refl _))).mono ?_
  intro r w5 hr
  obtain ⟨hb5, v5, Z5, rfl, hz5, hv5⟩ := fromE_ok hr
  have HMA5 := Lib.hid (show Ma none w5 _ DX from by obtain ⟨sv, e, h⟩ := HMA4.out; exact ⟨sv, e, h.kept (gb_below hb5 none)⟩); clear HMA4
  have hbx5 := HBX4.out.kept (gb_below hb5 none) (by simp)
  have HM1e := Lib.hid (HM1d.out.kept (gb_below hb5 none)); clear HM1d
  have HM2d := Lib.hid (HM2c.out.kept (gb_below hb5 none)); clear HM2c
  have HM3c := Lib.hid (HM3b.out.kept (gb_below hb5 none)); clear HM3b
  have HZ4b := Lib.hid (Rd.kept HZ4.out (gb_below hb5 none)); clear HZ4
  have HB5 := Lib.hid (HB4.out.trans (hb5.mono HB4.out.size)); clear hb5 hr HB4 b0 b1 b2 b3 HBX4
  have b0 : w5.cell? ⟨bx, 0, none⟩ = some (.int .i64 1) := hbx5.c0
  have b1 : w5.cell? ⟨bx, 1, none⟩ = some (.int .i64 0) := hbx5.c1
  have b2 : w5.cell? ⟨bx, 2, none⟩ = some (.string ⟨#[49]⟩) := hbx5.c2
  have b3 := hbx5.c3
  clear hbx5
  have HZ5 := Lib.hid hz5; clear hz5
  have HV5 := Lib.hid hv5; clear hv5
  go_wp2_with fail
  refine (total_any (D := DX) w5 HMA5.out DX_sz (HT.out.below HB5.out (Nat.le_refl _))).mono ?_
  intro r w6 hr
  obtain ⟨hb6, rfl⟩ := totE_ok hr
  have HM1f := Lib.hid (HM1e.out.kept (gb_below hb6 none)); clear HM1e
  have HM2e := Lib.hid (HM2d.out.kept (gb_below hb6 none)); clear HM2d
  have HM3d := Lib.hid (HM3c.out.kept (gb_below hb6 none)); clear HM3c
  have HZ4c := Lib.hid (Rd.kept HZ4b.out (gb_below hb6 none)); clear HZ4b
  have HZ5b := Lib.hid (Rd.kept HZ5.out (gb_below hb6 none)); clear HZ5
  have HB6 := Lib.hid (HB5.out.trans (hb6.mono HB5.out.size)); clear hb6 hr HB5 b0 b1 b2 b3 HMA5
  go_wp2_with fail
  have hb0 := W22_below w6 ⟨#[48]⟩ ⟨#[50]⟩ ⟨#[105, 110, 102]⟩ ⟨#[48]⟩
  refine (samem_any (W22 w6 ⟨#[48]⟩ ⟨#[50]⟩ ⟨#[105, 110, 102]⟩ ⟨#[48]⟩) (HM1f.out.kept (gb_below hb0 none)) (W22_mt w6 _ _ _ _) _ Iff.rfl).mono ?_
  rintro r w7 ⟨bb, rfl, hbb, hb7⟩
  obtain rfl : bb = true := hbb.2 ⟨rfl, fun i hi => ⟨rfl, fun j hj => (HV1.out i j hi hj).rd (X1_val i hi j hj)⟩⟩
  have hb07 := hb0.trans (hb7.mono hb0.size)
  have HM2f := Lib.hid (HM2e.out.kept (gb_below hb07 none)); clear HM2e
  have HM3e := Lib.hid (HM3d.out.kept (gb_below hb07 none)); clear HM3d
  have HZ4d := Lib.hid (Rd.kept HZ4c.out (gb_below hb07 none)); clear HZ4c
  have HZ5c := Lib.hid (Rd.kept HZ5b.out (gb_below hb07 none)); clear HZ5b
  have HB7 := Lib.hid (HB6.out.trans (hb07.mono HB6.out.size)); clear hb0 hb7 hb07 HB6 hbb HM1f
  go_wp2_with fail
  have hb0 := W22_below w7 ⟨#[50]⟩ ⟨#[51, 47, 52]⟩ ⟨#[48]⟩ ⟨#[51, 47, 50]⟩
  refine (samem_any (W22 w7 ⟨#[50]⟩ ⟨#[51, 47, 52]⟩ ⟨#[48]⟩ ⟨#[51, 47, 50]⟩) (HM2f.out.kept (gb_below hb0 none)) (W22_mt w7 _ _ _ _) _ Iff.rfl).mono ?_
  rintro r w8 ⟨bb, rfl, hbb, hb8⟩
  obtain rfl : bb = true := hbb.2 ⟨rfl, fun i hi => ⟨rfl, fun j hj => (HV2.out i j hi hj).rd (X2_val i hi j hj)⟩⟩
  have hb08 := hb0.trans (hb8.mono hb0.size)
  have HM3f := Lib.hid (HM3e.out.kept (gb_below hb08 none)); clear HM3e
  have HZ4e := Lib.hid (Rd.kept HZ4d.out (gb_below hb08 none)); clear HZ4d
  have HZ5d := Lib.hid (Rd.kept HZ5c.out (gb_below hb08 none)); clear HZ5c
  have HB8 := Lib.hid (HB7.out.trans (hb08.mono HB7.out.size)); clear hb0 hb8 hb08 HB7 hbb HM2f
  go_wp2_with fail
  have hb0 := W11_below w8 ⟨#[45, 105, 110, 102]⟩
  refine (samem_any (W11 w8 ⟨#[45, 105, 110, 102]⟩) (HM3f.out.kept (gb_below hb0 none)) (W11_mt w8 _) _ Iff.rfl).mono ?_
  rintro r w9 ⟨bb, rfl, hbb, hb9⟩
  obtain rfl : bb = true := hbb.2 ⟨rfl, fun i hi => ⟨rfl, fun j hj => by
    obtain rfl : i = 0 := by omega
    obtain rfl : j = 0 := by have : j < 1 := hj; omega
    exact (HV3.out 0 0 (by omega) (by omega)).rd X3_val⟩⟩
  have hb09 := hb0.trans (hb9.mono hb0.size)
  have HZ4f := Lib.hid (Rd.kept HZ4e.out (gb_below hb09 none)); clear HZ4e
  have HZ5e := Lib.hid (Rd.kept HZ5d.out (gb_below hb09 none)); clear HZ5d
  have HB9 := Lib.hid (HB8.out.trans (hb09.mono HB8.out.size)); clear hb0 hb9 hb09 HB8 hbb HM3f
  go_wp2_with fail
  refine (same_any _ (Rd.kept HZ4f.out (World.grownBy_alloc _ _ none)) (ss_new w9 #[.string ⟨#[54]⟩, .string ⟨#[52]⟩] 2 (fun i => if i = 0 then ⟨#[54]⟩ else ⟨#[52]⟩) (fun i hi => by match i, hi with | 0, _ => rfl | 1, _ => rfl) (by unfold maxLen; omega)) _ Iff.rfl).mono ?_
  rintro r w10 ⟨bb, rfl, hbb, hb10⟩
  obtain rfl : bb = true := hbb.2 ⟨rfl, HV4.out⟩
  have hb010 := ((Below.refl w9.heap.size w9).alloc (Nat.le_refl _) (.cells #[.string ⟨#[54]⟩, .string ⟨#[52]⟩] 9)).trans (hb10.mono (by simp))
  have HZ5f := Lib.hid (Rd.kept HZ5e.out (gb_below hb010 none)); clear HZ5e
  have HB10 := Lib.hid (HB9.out.trans (hb010.mono HB9.out.size)); clear hb10 hb010 HB9 hbb HZ4f
  go_wp2_with fail
  refine (same_any _ (Rd.kept HZ5f.out (World.grownBy_alloc _ _ none)) (ss_new w10 #[.string ⟨#[49]⟩, .string ⟨#[51]⟩] 2 (fun i => if i = 0 then ⟨#[49]⟩ else ⟨#[51]⟩) (fun i hi => by match i, hi with | 0, _ => rfl | 1, _ => rfl) (by unfold maxLen; omega)) _ Iff.rfl).mono ?_
  rintro r w11 ⟨bb, rfl, hbb, hb11⟩
  obtain rfl : bb = true := hbb.2 ⟨rfl, HV5.out⟩
  have hb011 := ((Below.refl w10.heap.size w10).alloc (Nat.le_refl _) (.cells #[.string ⟨#[49]⟩, .string ⟨#[51]⟩] 9)).trans (hb11.mono (by simp))
  have HB11 := Lib.hid (HB10.out.trans (hb011.mono HB10.out.size)); clear hb11 hb011 HB10 hbb HZ5f
  go_wp2_with fail
  go_ret
  exact ⟨rfl, HB11.out⟩
end Go.Proofs.YtlmfppjphblemaaGreatDoor
