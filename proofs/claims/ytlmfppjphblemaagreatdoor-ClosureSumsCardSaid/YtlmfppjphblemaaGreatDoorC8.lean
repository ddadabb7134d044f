/- The walk of closure's filled. The walk of closure's paths: the sums of all paths between the states of a machine. -/
import Derived.Test.YtlmfppjphblemaaGreatDoorC3
import Derived.Test.YtlmfppjphblemaaGreatDoorC5
import Derived.Test.YtlmfppjphblemaaGreatDoorC7
import Derived.Test.YtlmfppjphblemaaGreatDoorC2
namespace Go.Proofs.YtlmfppjphblemaaGreatDoor
open Go Go.RowKit Go.Deep
set_option maxRecDepth 100000

/-- Behind filled: a new row, of n equal strings. -/
def FilE (n : Nat) (x : ByteArray) (w : World) (r : Ending) (w' : World) : Prop :=
  r = .returned (.slice (some ⟨w.heap.size, 0, none⟩) n n) ∧ OwS w' w.heap.size 9 (.slice (some ⟨w.heap.size, 0, none⟩) n n) n (fun _ => x) ∧ Below w.heap.size w w'
theorem strs_made (n : Nat) : (madeCells #[Value.string ⟨#[]⟩] n).toList = strs n (fun _ => ⟨#[]⟩) := by
  refine List.ext_getElem? fun i => ?_
  by_cases h : i < n
  · rw [strs_get _ _ _ h, Array.getElem?_toList]; simp [madeCells, h, Nat.mod_one]
  · rw [List.getElem?_eq_none (l := strs n _) (by rw [strs_len]; omega), List.getElem?_eq_none (by rw [Array.length_toList, size_madeCells]; omega)]
set_option maxHeartbeats 2000000 in
theorem filled_any (n : Nat) (x : ByteArray) (w : World) (hn : n ≤ 3000) : Calls Tryz.prog 47 #[.int .i64 (n : Int), .string x] w (FilE n x w) := by
  have hmk := run_make_row' (P := Tryz.prog) 33 9 (.string ⟨#[]⟩) 16 Tryz.underlying33 info_str rfl .i64 .i64 n (by omega) (by omega)
  have hown : OwS (w.alloc (.cells (madeCells #[.string ⟨#[]⟩] n) 9)) w.heap.size 9 (.slice (some ⟨w.heap.size, 0, none⟩) n n) n (fun j => if j < 0 then x else ⟨#[]⟩) := by
    refine ⟨by rw [strs_len, Nat.mul_one], .inr ⟨w.heap.size, n, _, rfl, Nat.le_refl _, heap_alloc_new w _, Nat.le_refl _, by unfold maxLen; omega, by rw [size_madeCells, Nat.mul_one], ?_⟩⟩
    rw [Nat.mul_one, strs_made, strs_congr (Y := fun _ => ⟨#[]⟩) (fun i _ => by simp)]
    exact List.take_of_length_le (by rw [strs_len]; exact Nat.le_refl _)
  have hb0 : Below w.heap.size w (w.alloc (.cells (madeCells #[.string ⟨#[]⟩] n) 9)) := (Below.refl _ _).alloc (Nat.le_refl _) _
  have HO := Lib.hid hown; clear hown
  have HB := Lib.hid hb0; clear hb0
  go_enter Tryz.func47, Tryz.ntmps47
  go_wp2_with fail
  clear hmk
  obtain ⟨g, hg⟩ : ∃ g, g = w.heap.size := ⟨_, rfl⟩
  rw [← hg] at HO
  rw [← hg]
  have HG := Lib.hid hg; clear hg
  go_loopw [11] (fun i wr => ∃ q : Nat, q ≤ n ∧ i = .int .i64 (q : Int) ∧ OwS wr g 9 (.slice (some ⟨g, 0, none⟩) n n) n (fun j => if j < q then x else ⟨#[]⟩) ∧ Below w.heap.size w wr) (fun i _ => n - (intOf i).toNat)
  case atStart => exact ⟨0, Nat.zero_le _, rfl, HO.out, HB.out⟩
  case round =>
    obtain ⟨q, hq, rfl, hown, hbw⟩ := hrel
    clear HO HB
    have HO := Lib.hid hown; clear hown
    have HB := Lib.hid hbw; clear hbw
    by_cases hlt : q < n
    · have hqz : (q : Int) < (n : Int) := by omega
      have hqz0 : (0 : Int) ≤ (q : Int) := by omega
      have c0 : wr.cell? ⟨g, q, none⟩ = some (.string ⟨#[]⟩) := by
        have := World.ownsRow.cells HO.out (g := g) rfl q _ (strs_get n _ q hlt)
        rw [Addr.add_lit, Nat.zero_add, if_neg (by omega)] at this
        exact this
      have f0 : wr.frozen? ⟨g, q, none⟩ = false := by
        rcases HO.out.2 with ⟨h, _⟩ | ⟨g', cap, cur, hv, _, hgg, _⟩
        · cases h
        · cases hv; simp [World.frozen?, hgg]
      go_wp2_with fail
      go_roundw
      case rel => exact ⟨q + 1, by omega, by go_num, (HO.out.set hlt x).congr (fun j hj => by
          by_cases e : j = q
          · subst e; rw [if_pos rfl, if_pos (by omega)]
          · rw [if_neg e]
            by_cases e2 : j < q
            · rw [if_pos e2, if_pos (by omega)]
            · rw [if_neg e2, if_neg (by omega)]), HB.out.setCell (by show w.heap.size ≤ g; rw [HG.out]; exact Nat.le_refl _) _⟩
      case measure => simp [intOf]; omega
    · have hqn : q = n := by omega
      subst hqn
      have hgt : ¬ ((q : Int) < (q : Int)) := by omega
      go_wp2_with fail
      go_ret
      rw [HG.out] at HO ⊢
      exact ⟨rfl, HO.out.congr (fun j hj => by rw [if_pos hj]), HB.out⟩
end Go.Proofs.YtlmfppjphblemaaGreatDoor

namespace Go.Proofs.YtlmfppjphblemaaGreatDoor
set_option maxRecDepth 100000
set_option linter.unusedSimpArgs false
open Go Go.RowKit Go.Deep

/-- The sum of the weights of the first d arcs of state i that lead to j. -/
def arcV {k : KK} (D : MD) (W : Nat → Nat → RK k) (i : Nat) : Nat → Nat → RK k
  | 0, _ => CSR.zero
  | d + 1, j => if D.ato i d = (j : Int) then arcV D W i d j + W i d else arcV D W i d j
/-- The matrix of a machine. -/
def arcM {k : KK} (D : MD) (W : Nat → Nat → RK k) : Nat → Nat → RK k := fun i j => arcV D W i (D.na i) j
/-- The weights are what the strings say. -/
def WtIs {k : KK} (D : MD) (W : Nat → Nat → RK k) : Prop := (W = fun i d => wval k (D.aw i d)) ∧ ∀ i d, i < D.n → d < D.na i → Is k 0 (D.aw i d) (W i d)
/-- All that the matrix of a machine and its powers compute fits. -/
structure FitP {k : KK} (D : MD) (W : Nat → Nat → RK k) : Prop where
  arcs : ∀ i d j, i < D.n → d < D.na i → j < D.n → D.ato i d = (j : Int) → fitV (arcV D W i d j + W i d).1
  pow : FitM D.n (arcM D W)
theorem VM.wts {D : MD} (h : VM D) {k : KK} (hk : k.1 = D.kind) : ∃ W : Nat → Nat → RK k, WtIs D W :=
  ⟨_, rfl, fun i d hi hd => wval_is (by rw [hk]; exact wt_valid (h.arc i d hi hd).wt)⟩
theorem VM.kk {D : MD} (h : VM D) : ∃ k : KK, k.1 = D.kind := by
  have := h.kind
  unfold kindB at this; simp at this
  exact ⟨⟨D.kind, by omega⟩, rfl⟩

/-- The matrix, as far as it is filled: rows below i whole, row i by its first d arcs. -/
def MatTo {k : KK} (e : Nat) (D : MD) (W : Nat → Nat → RK k) (i d : Nat) (X : Nat → Nat → ByteArray) : Prop :=
  ∀ q l, q < D.n → l < D.n → (q < i → Is k e (X q l) (arcM D W q l)) ∧ (q = i → Is k e (X q l) (arcV D W q d l))
theorem MatTo.next {k : KK} {e e' : Nat} {D : MD} {W : Nat → Nat → RK k} {i d t : Nat} {X : Nat → Nat → ByteArray} {u : ByteArray} (h : MatTo e D W i d X) (he : e' = 0 → e = 0) (ht : D.ato i d = (t : Int)) (hu : Is k e' u (arcV D W i d t + W i d)) :
    MatTo e' D W i (d + 1) (fun q l => if q = i ∧ l = t then u else X q l) := fun q l hq hl => by
  refine ⟨fun hqi => ?_, fun hqi => ?_⟩
  · simp only [if_neg (show ¬ (q = i ∧ l = t) by omega)]
    exact ((h q l hq hl).1 hqi).mono he
  · subst hqi
    by_cases hlt : l = t
    · subst hlt
      show Is k e' (if q = q ∧ l = l then u else X q l) (if D.ato q d = (l : Int) then arcV D W q d l + W q d else arcV D W q d l)
      rw [if_pos ⟨rfl, rfl⟩, if_pos ht]; exact hu
    · show Is k e' (if q = q ∧ l = t then u else X q l) (if D.ato q d = (l : Int) then arcV D W q d l + W q d else arcV D W q d l)
      rw [if_neg (fun h => hlt h.2), if_neg (by rw [ht]; omega)]
      exact ((h q l hq hl).2 rfl).mono he
theorem MatTo.row {k : KK} {e : Nat} {D : MD} {W : Nat → Nat → RK k} {i : Nat} {X : Nat → Nat → ByteArray} (h : MatTo e D W i (D.na i) X) : ∀ q l, q < D.n → l < D.n → q < i + 1 → Is k e (X q l) (arcM D W q l) := fun q l hq hl hqi => by
  by_cases h1 : q < i
  · exact (h q l hq hl).1 h1
  · have : q = i := by omega
    subst this; exact (h q l hq hl).2 rfl
/-- Behind paths. -/
def PathE (D : MD) (w : World) (r : Ending) (w' : World) : Prop := Below w.heap.size w w' ∧
  ((¬ VM D ∧ r = .returned (.tuple #[.pointer none, .slice none 0 0, .int .i64 1])) ∨
   (VM D ∧ 60 < D.n ∧ r = .returned (.tuple #[.pointer none, .slice none 0 0, .int .i64 2])) ∨
   (VM D ∧ D.n ≤ 60 ∧ ∃ (k : KK) (W : Nat → Nat → RK k) (sb e : Nat) (v : Value) (Y : Nat → Nat → ByteArray), k.1 = D.kind ∧ WtIs D W ∧ r = .returned (.tuple #[.pointer (some ⟨sb, 0, none⟩), v, .int .i64 (e : Int)]) ∧
      Mt (some sb) w' v D.n (fun _ => D.n) Y ∧ MatIs e D.n Y (CSR.starM (arcM D W) D.n) ∧ Er (FitP D W) e ∧ SumB w' sb k.1 e ∧ w.heap.size ≤ sb))

/-- The world in which the matrix is laid. -/
def QW (w : World) (k : Int) (n : Nat) : World := (w.alloc (.cells #[.int .i64 k, .int .i64 0] 64)).alloc (.cells (madeCells #[.slice none 0 0] n) 33)
theorem QW_om (w : World) (k : Int) (n : Nat) (X : Nat → Nat → ByteArray) : OM (QW w k n) (fun _ => False) (w.heap.size + 1) 9 33 (w.heap.size + 1) n (fun _ => .slice none 0 0) (fun l => if l < 0 then n else 0) X := by
  have h := OM.made (w.alloc (.cells #[.int .i64 k, .int .i64 0] 64)) (fun _ => False) (by simp) (w.heap.size + 1) (by simp) 9 33 n X
  rw [show (w.alloc (.cells #[.int .i64 k, .int .i64 0] 64)).heap.size = w.heap.size + 1 by simp] at h
  exact h.congrL fun _ _ => by simp
theorem QW_below (w : World) (k : Int) (n : Nat) : Below w.heap.size w (QW w k n) := ((Below.refl _ _).alloc (Nat.le_refl _) _).alloc (by simp) _
theorem QW_sum (w : World) (k : Int) (n : Nat) : SumB (QW w k n) w.heap.size k 0 := by
  have h : SumB (w.alloc (.cells #[.int .i64 k, .int .i64 0] 64)) w.heap.size k 0 := heap_alloc_new w _
  exact h.kept ((Below.refl _ _).alloc (Nat.le_refl _) _)
theorem QW_size (w : World) (k : Int) (n : Nat) : (QW w k n).heap.size = w.heap.size + 2 := by unfold QW; simp
theorem OwS.low {w : World} {B B' : Nat} {e : TypeId} {v : Value} {n : Nat} {X : Nat → ByteArray} (h : OwS w B e v n X) (hB : B' ≤ B) : OwS w B' e v n X := by
  refine ⟨h.1, ?_⟩
  rcases h.2 with hn | ⟨g, cap, cur, rfl, h0, rest⟩
  · exact .inl hn
  · exact .inr ⟨g, cap, cur, rfl, by omega, rest⟩
/-- A row is laid. -/
theorem row_laid {wr w3 w4 : World} {g n q : Nat} {R : Nat → Value} {X : Nat → Nat → ByteArray} {x : ByteArray} (h : OM wr (fun _ => False) g 9 33 g n R (fun l => if l < q then n else 0) X) (hq : q < n) (hnil : ∀ l, q ≤ l → R l = .slice none 0 0)
    (h3 : wr.grownBy w3 none) (hown : OwS w4 w3.heap.size 9 (.slice (some ⟨w3.heap.size, 0, none⟩) n n) n (fun _ => x)) (hb : Below w3.heap.size w3 w4) :
    OM (w4.setCell ⟨g, q, none⟩ (.slice (some ⟨w3.heap.size, 0, none⟩) n n)) (fun _ => False) g 9 33 g n (fun l => if l = q then .slice (some ⟨w3.heap.size, 0, none⟩) n n else R l) (fun l => if l < q + 1 then n else 0) (fun l j => if l = q then x else X l j) ∧
    ∀ l, q + 1 ≤ l → (if l = q then Value.slice (some ⟨w3.heap.size, 0, none⟩) n n else R l) = .slice none 0 0 := by
  have e := hnil q (Nat.le_refl _)
  have hgs : g ≤ w3.heap.size := by have := h.lt; have := h3.size; omega
  have h2 := h.appended hq h3 (hown.low hgs) (by rw [e]; exact gb_below hb _) (.inr rfl)
  refine ⟨(h2.congrL fun l hl => ?_).congr fun l j hl hj => ?_, fun l hl => ?_⟩
  · by_cases e : l = q
    · rw [if_pos e, if_pos (by omega)]
    · rw [if_neg e]
      by_cases e2 : l < q
      · rw [if_pos e2, if_pos (by omega)]
      · rw [if_neg e2, if_neg (by omega)]
  · by_cases e : l = q
    · rw [if_pos e, if_pos e]
    · rw [if_neg e, if_neg e]
  · rw [if_neg (by omega)]; exact hnil l (by omega)
theorem keep2 {W wk : World} {z : Option Nat} {a b : Addr} {u v : Value} (hg : W.grownBy wk z) (ha : W.cell? a = some u) (hb : W.cell? b = some v) (na : some a.block ≠ z) (nb : some b.block ≠ z) :
    wk.cell? a = some u ∧ wk.cell? b = some v := ⟨hg.cell ha na, hg.cell hb nb⟩
theorem keep2s {wk : World} {o : Addr} {q : Value} {a b : Addr} {u v : Value} (hk : wk.cell? a = some u ∧ wk.cell? b = some v) (na : o.block ≠ a.block) (nb : o.block ≠ b.block) :
    (wk.setCell o q).cell? a = some u ∧ (wk.setCell o q).cell? b = some v := by
  refine ⟨?_, ?_⟩
  · rw [World.cell?_setCell_other _ _ _ _ (fun e => na (by rw [e]))]; exact hk.1
  · rw [World.cell?_setCell_other _ _ _ _ (fun e => nb (by rw [e]))]; exact hk.2

set_option maxHeartbeats 8000000 in
theorem paths_any {D : MD} {v : Value} (w : World) (hM : Ma none w v D) (hs : MSz D) (ht : Tab w) : Calls Tryz.prog 46 #[v] w (PathE D w) := by
  have hM0 := hM
  obtain ⟨sv, rfl, hS⟩ := hM
  have hSk := hS
  obtain ⟨a, cap, b, off, A, C, BB, O, rfl, ha, hc, hm, hb, hrow⟩ := hS.open
  unfold maxLen at hm
  clear hS
  have hbox := BoxM.new w D (.slice a D.n cap)
  have hbel : Below w.heap.size w (w.alloc (.cells #[.int .i64 D.kind, .int .i64 D.start, .string D.lead, .slice a D.n cap] 31)) := (Below.refl _ _).alloc (Nat.le_refl _) _
  have hMA : Ma none (w.alloc (.cells #[.int .i64 D.kind, .int .i64 D.start, .string D.lead, .slice a D.n cap] 31)) (.agg #[.int .i64 D.kind, .int .i64 D.start, .string D.lead, .slice a D.n cap]) D := ⟨_, rfl, hSk.kept (World.grownBy_alloc _ _ _)⟩
  have hva := mvalid_any _ hMA hs (ht.below hbel (Nat.le_refl _))
  clear hMA hSk hM0
  have hnn := hs.n
  have HSZ := Lib.hid hs; clear hs
  have HT := Lib.hid ht; clear ht
  have HA := Lib.hid ha; clear ha
  have HB := Lib.hid hb; clear hb
  have HR := Lib.hid hrow; clear hrow
  have HBX := Lib.hid hbox; clear hbox
  have HBE := Lib.hid hbel; clear hbel
  have HVA := Lib.hid hva; clear hva
  go_enter Tryz.func46, Tryz.ntmps46
  go_wp2_with fail
  refine HVA.out.mono ?_
  rintro r w1 ⟨hb1, hv⟩
  have hbx1 := HBX.out.kept (gb_below hb1 none) (by simp)
  have hbe1 := HBE.out.trans (hb1.mono HBE.out.size)
  clear hb1 HVA
  obtain ⟨mb, hmb⟩ : ∃ mb, mb = w.heap.size := ⟨_, rfl⟩
  rw [← hmb] at hbx1
  rw [← hmb]
  have hmw : w.heap.size ≤ mb := by rw [hmb]; exact Nat.le_refl _
  clear hmb HBX HBE
  have HBX1 := Lib.hid hbx1; clear hbx1
  have HBE1 := Lib.hid hbe1; clear hbe1
  rcases hv with ⟨hvm, rfl⟩ | ⟨hvm, rfl⟩
  · have HVM := Lib.hid hvm; clear hvm
    have m3 := HBX1.out.c3
    have m0 := HBX1.out.c0
    by_cases h60 : 60 < D.n
    · have h60z : (60 : Int) < (D.n : Int) := by omega
      go_wp2_with fail
      go_ret3
      exact ⟨HBE1.out, .inr (.inl ⟨HVM.out, h60, rfl⟩)⟩
    · have h60z : decide ((60 : Int) < (D.n : Int)) = false := by simp; omega
      have hmk := run_make_row' (P := Tryz.prog) 22 33 (.slice none 0 0) 24 Tryz.underlying22 info_strs rfl .i64 .i64 D.n (by omega) (by omega)
      have mA := fun o => (BoxM.c3 (HBX1.out.kept (World.grownBy_alloc w1 o none) (by simp)))
      have mA2 := fun o o' => (BoxM.c3 ((HBX1.out.kept (World.grownBy_alloc w1 o none) (by simp)).kept (World.grownBy_alloc _ o' none) (by simp)))
      obtain ⟨k, hk⟩ := HVM.out.kk
      obtain ⟨W, hW⟩ := HVM.out.wts hk
      have HW := Lib.hid hW; clear hW
      go_wp2_with fail
      change Code.wp _ _ _ _ (QW w1 D.kind D.n)
      clear hmk mA mA2 m3 m0
      have HQO := Lib.hid (QW_om w1 D.kind D.n (fun _ _ => ⟨#[]⟩))
      have HQB := Lib.hid (QW_below w1 D.kind D.n)
      have HQS := Lib.hid (QW_sum w1 D.kind D.n)
      have hqz := QW_size w1 D.kind D.n
      have hbxp := HBX1.out.kept (gb_below (QW_below w1 D.kind D.n) none) (by simp)
      have hbep := HBE1.out.trans ((QW_below w1 D.kind D.n).mono HBE1.out.size)
      have hmbl := HBX1.out.lt
      generalize QW w1 D.kind D.n = wp at *
      obtain ⟨sb, hsb⟩ : ∃ sb, sb = w1.heap.size := ⟨_, rfl⟩
      obtain ⟨g, hg⟩ : ∃ g, g = w1.heap.size + 1 := ⟨_, rfl⟩
      have hwsb : w.heap.size ≤ sb := by rw [hsb]; exact HBE1.out.size
      have hsg : sb < g := by omega
      have hmg : mb < sb := by omega
      rw [← hg] at HQO
      rw [← hsb] at HQS
      rw [← hg, ← hsb]
      have hgl := HQO.out.lt
      have HGG := Lib.hid hg; clear hg
      have HSB := Lib.hid hsb; clear hsb hqz hmbl
      have HBXP := Lib.hid hbxp; clear hbxp HBX1
      have HBEP := Lib.hid hbep; clear hbep HBE1 HQB
      rw [← hk] at HQS
      have HKK := Lib.hid hk; clear hk
      -- ████ for q, x := range m.States
      go_loopw [28] (fun i wr => ∃ (q e : Nat) (X : Nat → Nat → ByteArray) (R : Nat → Value), q ≤ D.n ∧ i = .int .i64 (q : Int) ∧ OM wr (fun _ => False) g 9 33 g D.n R (fun l => if l < q then D.n else 0) X ∧ (∀ l, q ≤ l → R l = .slice none 0 0) ∧
        (∀ p l, p < D.n → l < D.n → p < q → Is k e (X p l) (arcM D W p l)) ∧ Er (FitP D W) e ∧ SumB wr sb k.1 e ∧ BoxM wr mb D (.slice a D.n cap) ∧ Below w.heap.size w wr) (fun i _ => D.n - (intOf i).toNat)
      case atStart => exact ⟨0, 0, _, _, Nat.zero_le _, rfl, HQO.out, fun _ _ => rfl, fun _ _ _ _ h => by omega, ⟨.inl rfl, fun _ => rfl⟩, HQS.out, HBXP.out, HBEP.out⟩
      case round =>
        obtain ⟨q, e, X, R, hq, rfl, hom, hnil, hX, hE, hS, hbx, hbw⟩ := hrel
        clear HQO HQS HBXP HBEP
        have HOM := Lib.hid hom; clear hom
        have HNL := Lib.hid hnil; clear hnil
        have HXX := Lib.hid hX; clear hX
        have HE := Lib.hid hE; clear hE
        have HS := Lib.hid hS; clear hS
        have HBX := Lib.hid hbx; clear hbx
        have HBW := Lib.hid hbw; clear hbw
        by_cases hlt : q < D.n
        · have hqz : (q : Int) < (D.n : Int) := by omega
          have hqz0 : (0 : Int) ≤ (q : Int) := by omega
          obtain rfl := HA.out (by omega)
          have hbb := (HB.out (by omega)).1
          obtain ⟨k1, k2, k3, k4, k5, k6, k7⟩ := HR.out q hlt
          generalize A q = aq at k2 k5
          have c0 := (HBW.out.cell (p := ⟨b, off + q * 2, none⟩) hbb).trans k1
          have c1 := (HBW.out.cell (p := ⟨b, off + q * 2 + 1, none⟩) hbb).trans k2
          unfold maxLen at k4
          clear k1 k2
          have HK7 := Lib.hid k7; clear k7
          have HK5 := Lib.hid k5; clear k5
          have HK6 := Lib.hid k6; clear k6
          have hna := HSZ.out.na q
          have hga := HOM.out.lt
          obtain ⟨wa, hwa⟩ : ∃ wa, wa = wr.alloc (.cells #[.string (D.fin q), .slice aq (D.na q) (C q)] 53) := ⟨_, rfl⟩
          obtain ⟨xb, hxb⟩ : ∃ xb, xb = wr.heap.size := ⟨_, rfl⟩
          have x1 : wa.cell? ⟨xb, 1, none⟩ = some (.slice aq (D.na q) (C q)) := by rw [hwa, hxb]; exact cell_new wr _ _ 1 _ rfl
          have hgwa : wr.grownBy wa none := by rw [hwa]; exact World.grownBy_alloc _ _ _
          have hxl : xb < wa.heap.size := by rw [hwa, hxb]; simp
          have hbxa := HBX.out.kept hgwa (by simp)
          have m3 := hbxa.c3
          have m0 := hbxa.c0
          have hbwa : Below w.heap.size w wa := by rw [hwa]; exact HBW.out.alloc HBW.out.size _
          have hzz := fun wx => semizero_any D.kind wx
          have HZZ := Lib.hid hzz; clear hzz
          have HBXA := Lib.hid hbxa; clear hbxa
          have HBWA := Lib.hid hbwa; clear hbwa
          have HGWA := Lib.hid hgwa; clear hgwa
          have hgx : g < xb := by rw [hxb]; exact hga
          have oA : wa.cell? ⟨g, q, none⟩ = some (.slice none 0 0) := by
            have := HOM.out.cell hlt
            rw [HNL.out q (Nat.le_refl _)] at this
            exact HGWA.out.cell this (by simp)
          have fA : wa.frozen? ⟨g, q, none⟩ = false := (HGWA.out.frozen_far ⟨g, q, none⟩ hga (by simp)).trans (HOM.out.frozen q)
          have hgwl : g < wa.heap.size := by omega
          have HK2 := Lib.hid (fun wk (hg : World.grownBy wa wk none) => keep2 hg m3 m0 (by simp) (by simp))
          have HK2S := Lib.hid (fun wk u (hg : World.grownBy wa wk none) => keep2s (o := ⟨g, q, none⟩) (q := u) (HK2.out wk hg) (by show g ≠ mb; omega) (by show g ≠ mb; omega))
          have hd1 := drew_gb wa none
          have HWA := Lib.hid hwa
          have HXB := Lib.hid hxb
          go_wp2_with fail
          rw [← hxb, ← hwa]
          clear hwa hxb
          go_region_held2 (fun wk => wk.cell? ⟨mb, 3, none⟩ = some (.slice (some ⟨b, off, none⟩) D.n cap) ∧ wk.cell? ⟨mb, 0, none⟩ = some (.int .i64 D.kind))
            (first | exact HK2.out _ (by assumption) | exact HK2S.out _ _ (by assumption))
            (first
            | (go_at_call 33; refine (HZZ.out _).mono ?_; rintro r w3 ⟨rfl, hb3⟩; have hn3 := gb_trans hd1 (gb_below hb3 none))
            | (go_at_call 47; refine (filled_any D.n (zeroF D.kind) _ (by omega)).mono ?_; rintro r w4 ⟨rfl, how, hb4⟩; have hn4 := gb_trans hn3 (gb_below hb4 none); have oB := hn4.cell oA (by simp); have fB := (hn4.frozen_far ⟨g, q, none⟩ hgwl (by simp)).trans fA))
          rename_i hH
          clear hH
          obtain ⟨h1, h2⟩ := row_laid HOM.out hlt HNL.out (gb_trans HGWA.out hn3) how hb4
          obtain ⟨v4, hv4⟩ : ∃ v4, v4 = Value.slice (some ⟨w3.heap.size, 0, none⟩) D.n D.n := ⟨_, rfl⟩
          rw [← hv4] at h1 h2
          rw [← hv4]
          have hg4 := gb_trans HGWA.out hn4
          have hs5 : SumB (w4.setCell ⟨g, q, none⟩ v4) sb k.1 e := by
            have h := HS.out.kept (gb_none hg4)
            unfold SumB at *; rw [blk_setCell_other _ _ _ _ (by show sb ≠ g; omega)]; exact h
          have hbx5 : BoxM (w4.setCell ⟨g, q, none⟩ v4) mb D (.slice (some ⟨b, off, none⟩) D.n cap) := by
            have h := HBXA.out.kept hn4 (by simp)
            unfold BoxM at *; rw [blk_setCell_other _ _ _ _ (by show mb ≠ g; omega)]; exact h
          have hbw5 : Below w.heap.size w (w4.setCell ⟨g, q, none⟩ v4) := (HBWA.out.trans ((gb_none hn4).mono HBWA.out.size)).setCell (by show w.heap.size ≤ g; omega) _
          have x5 : (w4.setCell ⟨g, q, none⟩ v4).cell? ⟨xb, 1, none⟩ = some (.slice aq (D.na q) (C q)) := by
            rw [World.cell?_setCell_other _ _ _ _ (fun e => by have := congrArg Addr.block e; simp at this; omega)]
            exact hn4.cell x1 (by simp)
          have hm5 : MatTo e D W q 0 (fun l j => if l = q then zeroF D.kind else X l j) := fun p l hp hl => ⟨fun hpq => by
              simp only [if_neg (show ¬ p = q by omega)]; exact HXX.out p l hp hl hpq, fun hpq => by
              subst hpq; simp only [if_true]; rw [← HKK.out]; exact Is.zero k e⟩
          generalize (w4.setCell ⟨g, q, none⟩ v4) = w5 at *
          have HV4 := Lib.hid hv4; clear hv4
          clear m3 m0 x1 oA fA oB fB hn3 hn4 how hb4 hg4 hd1 HK2 HK2S
          have HOM5 := Lib.hid h1; clear h1 HOM
          have HNL5 := Lib.hid h2; clear h2 HNL
          have HS5 := Lib.hid hs5; clear hs5 HS
          have HBX5 := Lib.hid hbx5; clear hbx5 HBX HBXA
          have HBW5 := Lib.hid hbw5; clear hbw5 HBW HBWA
          have HM5 := Lib.hid hm5; clear hm5 HXX
          go_wp2_with fail
          clear x5
          -- ████ for _, c := range x.Arcs
          go_loopw [46] (fun i wr => ∃ (d e' : Nat) (Y : Nat → Nat → ByteArray), d ≤ D.na q ∧ i = .int .i64 (d : Int) ∧ OM wr (fun _ => False) g 9 33 g D.n (fun l => if l = q then v4 else R l) (fun l => if l < q + 1 then D.n else 0) Y ∧
            MatTo e' D W q d Y ∧ Er (FitP D W) e' ∧ SumB wr sb k.1 e' ∧ BoxM wr mb D (.slice (some ⟨b, off, none⟩) D.n cap) ∧ Below w.heap.size w wr) (fun i _ => D.na q - (intOf i).toNat)
          case atStart => exact ⟨0, e, _, Nat.zero_le _, rfl, HOM5.out, HM5.out, HE.out, HS5.out, HBX5.out, HBW5.out⟩
          case round =>
            obtain ⟨d, e', Y, hd, rfl, hom, hmt, hE, hS, hbx, hbw⟩ := hrel
            clear HOM5 HM5 HS5 HBX5 HBW5 HE
            have HOM := Lib.hid hom; clear hom
            have HMT := Lib.hid hmt; clear hmt
            have HE := Lib.hid hE; clear hE
            have HS := Lib.hid hS; clear hS
            have HBX := Lib.hid hbx; clear hbx
            have HBW := Lib.hid hbw; clear hbw
            by_cases hlt2 : d < D.na q
            · have hdz : (d : Int) < (D.na q : Int) := by omega
              have hdz0 : (0 : Int) ≤ (d : Int) := by omega
              obtain rfl := HK5.out (by omega)
              have hbq := (HK6.out (by omega)).1
              obtain ⟨j0, j1, j2, j3⟩ := HK7.out d hlt2
              have f0 := (HBW.out.cell (p := ⟨BB q, O q + d * 4, none⟩) hbq).trans j0
              have f1 := (HBW.out.cell (p := ⟨BB q, O q + d * 4 + 1, none⟩) hbq).trans j1
              have f2 := (HBW.out.cell (p := ⟨BB q, O q + d * 4 + 2, none⟩) hbq).trans j2
              have f3 := (HBW.out.cell (p := ⟨BB q, O q + d * 4 + 3, none⟩) hbq).trans j3
              clear j0 j1 j2 j3
              have hao := HVM.out.arc q d hlt hlt2
              obtain ⟨tt, htt⟩ : ∃ tt : Nat, D.ato q d = (tt : Int) := ⟨(D.ato q d).toNat, by have := hao.t0; omega⟩
              have httn : tt < D.n := by have := hao.t1; omega
              have htz : (tt : Int) < (D.n : Int) := by omega
              have htz0 : (0 : Int) ≤ (tt : Int) := by omega
              rw [htt] at f3
              have HTT := Lib.hid htt; clear htt hao
              obtain ⟨rb, cr, hRr, hrB, hrl, hrg, _, hr1, hr2, hrf, hrc⟩ := HOM.out.form hlt (by show 0 < (if q < q + 1 then D.n else 0); rw [if_pos (by omega)]; omega)
              have hRv : (if q = q then v4 else R q) = Value.slice (some ⟨rb, 0, none⟩) (if q < q + 1 then D.n else 0) cr := hRr
              have hr1' : (if q < q + 1 then D.n else 0) ≤ cr := hr1
              have hrc' : ∀ j, j < (if q < q + 1 then D.n else 0) → wr.cell? ⟨rb, j, none⟩ = some (.string (Y q j)) := hrc
              rw [if_pos rfl, if_pos (by omega)] at hRv
              rw [if_pos (by omega)] at hr1' hrc'
              have r0 : wr.cell? ⟨g, q, none⟩ = some (if q = q then v4 else R q) := HOM.out.cell hlt
              rw [if_pos rfl, hRv] at r0
              have HRR := Lib.hid hRv
              unfold maxLen at hr2
              have r1 := hrc' tt httn
              have rf := hrf tt
              clear hrc hrf hRr hRv hr1 hrc'
              obtain ⟨wa, hwa⟩ : ∃ wa, wa = wr.alloc (.cells #[.int .i64 (D.ain q d), .int .i64 (D.aout q d), .string (D.aw q d), .int .i64 (tt : Int)] 56) := ⟨_, rfl⟩
              obtain ⟨ab, hab⟩ : ∃ ab, ab = wr.heap.size := ⟨_, rfl⟩
              have a2 : wa.cell? ⟨ab, 2, none⟩ = some (.string (D.aw q d)) := by rw [hwa, hab]; exact cell_new wr _ _ 2 _ rfl
              have a3 : wa.cell? ⟨ab, 3, none⟩ = some (.int .i64 (tt : Int)) := by rw [hwa, hab]; exact cell_new wr _ _ 3 _ rfl
              have hgwa : wr.grownBy wa none := by rw [hwa]; exact World.grownBy_alloc _ _ _
              have s0 := hgwa.cell r0 (by simp)
              have s1 := hgwa.cell r1 (by simp)
              have sf := (hgwa.frozen_far ⟨rb, tt, none⟩ hrl (by simp)).trans rf
              have hal : ab < wa.heap.size := by rw [hwa, hab]; simp
              have hsa : SumB wa sb k.1 e' := HS.out.kept (gb_none hgwa)
              have hrl2 : rb < wa.heap.size := Nat.lt_of_lt_of_le hrl hgwa.size
              have hasb : sb < ab := by rw [hab]; exact HS.out.lt
              have hS0 : S4 ⟨g, q, none⟩ ⟨ab, 3, none⟩ ⟨ab, 2, none⟩ ⟨rb, tt, none⟩ (.slice (some ⟨rb, 0, none⟩) D.n cr) (.int .i64 (tt : Int)) (.string (D.aw q d)) (.string (Y q tt)) wa.drew := ⟨s0, a3, a2, s1⟩
              have hd1 := drew_gb wa (some sb)
              have HGWA := Lib.hid hgwa; clear hgwa r0 r1 rf
              have HSA := Lib.hid hsa; clear hsa
              go_wp2_with fail
              rw [← hab, ← hwa]
              have HWA := Lib.hid hwa; clear hwa
              have HAB := Lib.hid hab; clear hab
              clear f0 f1 f2 f3
              refine region_heldK (S4 ⟨g, q, none⟩ ⟨ab, 3, none⟩ ⟨ab, 2, none⟩ ⟨rb, tt, none⟩ (.slice (some ⟨rb, 0, none⟩) D.n cr) (.int .i64 (tt : Int)) (.string (D.aw q d)) (.string (Y q tt))) 19 (by kernel_rfl) ?_
              refine AnyK.take (i := 0) (v := ?vc0) rfl (by kernel_rfl) (by kernel_rfl) (by kernel_rfl) (by kernel_rfl) (by kernel_rfl) (fun _ _ _ h => h) hS0 (Or.inl ⟨by rfl, ?hyc0⟩) ?restc0
              case hyc0 => rintro wk ⟨s1, s2, s3, s4⟩; go_simp; try with_reducible rfl
              try simp only [Act.put, List.setIfInBounds_toArray, List.set_cons_zero, List.set_cons_succ]
              refine AnyK.take (i := 1) (v := ?vc1) rfl (by kernel_rfl) (by kernel_rfl) (by kernel_rfl) (by kernel_rfl) (by kernel_rfl) (fun _ _ _ h => h) hS0 (Or.inl ⟨by rfl, ?hyc1⟩) ?restc1
              case hyc1 => rintro wk ⟨s1, s2, s3, s4⟩; go_simp; try with_reducible rfl
              try simp only [Act.put, List.setIfInBounds_toArray, List.set_cons_zero, List.set_cons_succ]
              refine AnyK.take (i := 2) (v := ?vc2) rfl (by kernel_rfl) (by kernel_rfl) (by kernel_rfl) (by kernel_rfl) (by kernel_rfl) (fun _ _ _ h => h) hS0 (Or.inl ⟨by rfl, ?hyc2⟩) ?restc2
              case hyc2 => rintro wk ⟨s1, s2, s3, s4⟩; go_simp; try with_reducible rfl
              try simp only [Act.put, List.setIfInBounds_toArray, List.set_cons_zero, List.set_cons_succ]
              refine AnyK.take (i := 3) (v := ?vc3) rfl (by kernel_rfl) (by kernel_rfl) (by kernel_rfl) (by kernel_rfl) (by kernel_rfl) (fun _ _ _ h => h) hS0 (Or.inl ⟨by rfl, ?hyc3⟩) ?restc3
              case hyc3 => rintro wk ⟨s1, s2, s3, s4⟩; go_simp; try with_reducible rfl
              try simp only [Act.put, List.setIfInBounds_toArray, List.set_cons_zero, List.set_cons_succ]
              refine AnyK.take (i := 4) (v := ?vc4) rfl (by kernel_rfl) (by kernel_rfl) (by kernel_rfl) (by kernel_rfl) (by kernel_rfl) (fun _ _ _ h => h) hS0 (Or.inl ⟨by rfl, ?hyc4⟩) ?restc4
              case hyc4 => rintro wk ⟨s1, s2, s3, s4⟩; go_simp; try with_reducible rfl
              try simp only [Act.put, List.setIfInBounds_toArray, List.set_cons_zero, List.set_cons_succ]
              refine AnyK.take (i := 5) (v := ?vc5) rfl (by kernel_rfl) (by kernel_rfl) (by kernel_rfl) (by kernel_rfl) (by kernel_rfl) (fun _ _ _ h => h) hS0 (Or.inl ⟨by rfl, ?hyc5⟩) ?restc5
              case hyc5 => rintro wk ⟨s1, s2, s3, s4⟩; go_simp; try with_reducible rfl
              try simp only [Act.put, List.setIfInBounds_toArray, List.set_cons_zero, List.set_cons_succ]
              refine AnyK.take (i := 6) (v := ?vc6) rfl (by kernel_rfl) (by kernel_rfl) (by kernel_rfl) (by kernel_rfl) (by kernel_rfl) (fun _ _ _ h => h) hS0 (Or.inl ⟨by rfl, ?hyc6⟩) ?restc6
              case hyc6 => rintro wk ⟨s1, s2, s3, s4⟩; go_simp; try with_reducible rfl
              try simp only [Act.put, List.setIfInBounds_toArray, List.set_cons_zero, List.set_cons_succ]
              refine AnyK.take (i := 7) (v := ?vc7) rfl (by kernel_rfl) (by kernel_rfl) (by kernel_rfl) (by kernel_rfl) (by kernel_rfl) (fun _ _ _ h => h) hS0 (Or.inl ⟨by rfl, ?hyc7⟩) ?restc7
              case hyc7 => rintro wk ⟨s1, s2, s3, s4⟩; go_simp; try with_reducible rfl
              try simp only [Act.put, List.setIfInBounds_toArray, List.set_cons_zero, List.set_cons_succ]
              refine AnyK.take (i := 8) (v := ?vc8) rfl (by kernel_rfl) (by kernel_rfl) (by kernel_rfl) (by kernel_rfl) (by kernel_rfl) (fun _ _ _ h => h) hS0 (Or.inl ⟨by rfl, ?hyc8⟩) ?restc8
              case hyc8 => rintro wk ⟨s1, s2, s3, s4⟩; go_simp; try with_reducible rfl
              try simp only [Act.put, List.setIfInBounds_toArray, List.set_cons_zero, List.set_cons_succ]
              refine AnyK.take (i := 9) (v := ?vc9) rfl (by kernel_rfl) (by kernel_rfl) (by kernel_rfl) (by kernel_rfl) (by kernel_rfl) (fun _ _ _ h => h) hS0 (Or.inl ⟨by rfl, ?hyc9⟩) ?restc9
              case hyc9 => rintro wk ⟨s1, s2, s3, s4⟩; go_simp; try with_reducible rfl
              try simp only [Act.put, List.setIfInBounds_toArray, List.set_cons_zero, List.set_cons_succ]
              refine AnyK.take (i := 10) (v := ?vc10) rfl (by kernel_rfl) (by kernel_rfl) (by kernel_rfl) (by kernel_rfl) (by kernel_rfl) (fun _ _ _ h => h) hS0 (Or.inl ⟨by rfl, ?hyc10⟩) ?restc10
              case hyc10 => rintro wk ⟨s1, s2, s3, s4⟩; go_simp; try with_reducible rfl
              try simp only [Act.put, List.setIfInBounds_toArray, List.set_cons_zero, List.set_cons_succ]
              refine AnyK.take (i := 11) (v := ?vc11) rfl (by kernel_rfl) (by kernel_rfl) (by kernel_rfl) (by kernel_rfl) (by kernel_rfl) (fun _ _ _ h => h) hS0 (Or.inl ⟨by rfl, ?hyc11⟩) ?restc11
              case hyc11 => rintro wk ⟨s1, s2, s3, s4⟩; go_simp; try with_reducible rfl
              try simp only [Act.put, List.setIfInBounds_toArray, List.set_cons_zero, List.set_cons_succ]
              refine AnyK.take (i := 12) (v := ?vc12) rfl (by kernel_rfl) (by kernel_rfl) (by kernel_rfl) (by kernel_rfl) (by kernel_rfl) (fun _ _ _ h => h) hS0 (Or.inl ⟨by rfl, ?hyc12⟩) ?restc12
              case hyc12 => rintro wk ⟨s1, s2, s3, s4⟩; go_simp; try with_reducible rfl
              try simp only [Act.put, List.setIfInBounds_toArray, List.set_cons_zero, List.set_cons_succ]
              refine AnyK.take (i := 13) (v := ?vc13) rfl (by kernel_rfl) (by kernel_rfl) (by kernel_rfl) (by kernel_rfl) (by kernel_rfl) (fun _ _ _ h => h) hS0 (Or.inl ⟨by rfl, ?hyc13⟩) ?restc13
              case hyc13 => rintro wk ⟨s1, s2, s3, s4⟩; go_simp; try with_reducible rfl
              try simp only [Act.put, List.setIfInBounds_toArray, List.set_cons_zero, List.set_cons_succ]
              refine AnyK.take (i := 14) (v := ?vc14) rfl (by kernel_rfl) (by kernel_rfl) (by kernel_rfl) (by kernel_rfl) (by kernel_rfl) (fun _ _ _ h => h) hS0 (Or.inl ⟨by rfl, ?hyc14⟩) ?restc14
              case hyc14 => rintro wk ⟨s1, s2, s3, s4⟩; go_simp; try with_reducible rfl
              try simp only [Act.put, List.setIfInBounds_toArray, List.set_cons_zero, List.set_cons_succ]
              refine AnyK.take (i := 15) (v := ?vc15) rfl (by kernel_rfl) (by kernel_rfl) (by kernel_rfl) (by kernel_rfl) (by kernel_rfl) (fun _ _ _ h => h) hS0 (Or.inl ⟨by rfl, ?hyc15⟩) ?restc15
              case hyc15 => rintro wk ⟨s1, s2, s3, s4⟩; go_simp; try with_reducible rfl
              try simp only [Act.put, List.setIfInBounds_toArray, List.set_cons_zero, List.set_cons_succ]
              refine AnyK.take (i := 16) (v := ?vc16) rfl (by kernel_rfl) (by kernel_rfl) (by kernel_rfl) (by kernel_rfl) (by kernel_rfl) (fun _ _ _ h => h) hS0 (Or.inl ⟨by rfl, ?hyc16⟩) ?restc16
              case hyc16 => rintro wk ⟨s1, s2, s3, s4⟩; go_simp; try with_reducible rfl
              try simp only [Act.put, List.setIfInBounds_toArray, List.set_cons_zero, List.set_cons_succ]
              refine AnyK.one (i := 17) rfl (by kernel_rfl) (by rfl) (fun K hK => ?_)
              go_simp
              have hTB : TabB w.heap.size wa := (TabB.of HT.out).kept (z := none) (gb_trans (gb_below HBW.out _) HGWA.out) (by simp) (Nat.le_refl _)
              refine (cplus_is (((HMT.out q tt hlt httn).2 rfl)) ((HW.out.2 q d hlt hlt2).mono (fun _ => rfl)) HE.out (fun f => f.arcs q d tt hlt hlt2 httn HTT.out) hTB.drew.tab HSA.out.drew).mono ?_
              rintro r w6 ⟨u6, e6, rfl, hu6, he6, hm6, hs6, hg6⟩
              have hn6 := gb_trans hd1 hg6
              have nrb : some rb ≠ some sb := by simp; omega
              have rf6 := (hn6.frozen_far ⟨rb, tt, none⟩ hrl2 nrb).trans sf
              have rc6 := hn6.cell s1 nrb
              have hS6 : S4 ⟨g, q, none⟩ ⟨ab, 3, none⟩ ⟨ab, 2, none⟩ ⟨rb, tt, none⟩ (.slice (some ⟨rb, 0, none⟩) D.n cr) (.int .i64 (tt : Int)) (.string (D.aw q d)) (.string (Y q tt)) w6 := ⟨hn6.cell s0 (by simp; omega), hn6.cell a3 (by simp; omega), hn6.cell a2 (by simp; omega), rc6⟩
              refine hK.out _ _ (.inr hS6) ?_
              clear hK K
              try simp only [Act.put, List.setIfInBounds_toArray, List.set_cons_zero, List.set_cons_succ]
              refine AnyK.take (i := 18) (v := ?vc18) rfl (by kernel_rfl) (by kernel_rfl) (by kernel_rfl) (by kernel_rfl) (by kernel_rfl) (fun _ _ _ h => h) hS6 (Or.inl ⟨by rfl, ?hyc18⟩) ?restc18
              case hyc18 => rintro wk ⟨s1, s2, s3, s4⟩; go_simp; try with_reducible rfl
              try simp only [Act.put, List.setIfInBounds_toArray, List.set_cons_zero, List.set_cons_succ]
              refine AnyK.one (i := 19) rfl (by kernel_rfl) (by rfl) (fun K hK => ?_)
              go_simp
              refine hK.out _ _ (.inl rfl) (AnyK.done (by kernel_rfl) ?_ _)
              clear hK K
              go_wp2_with fail
              go_roundw
              case rel =>
                have hom6 := ((HOM.out.kept HGWA.out (by simp)).kept hn6 (by intro j hj; cases hj; omega)).stored hlt (by show tt < (if q < q + 1 then D.n else 0); rw [if_pos (by omega)]; exact httn) (show (if q = q then v4 else R q) = Value.slice (some ⟨rb, 0, none⟩) (if q < q + 1 then D.n else 0) cr by rw [if_pos rfl, if_pos (by omega)]; exact HRR.out) u6
                have hs7 : SumB (w6.setCell ⟨rb, tt, none⟩ (.string u6)) sb k.1 e6 := by
                  unfold SumB at *; rw [blk_setCell_other _ _ _ _ (by show sb ≠ rb; omega)]; exact hs6
                have hbx7 : BoxM (w6.setCell ⟨rb, tt, none⟩ (.string u6)) mb D (.slice (some ⟨b, off, none⟩) D.n cap) := by
                  have h := (HBX.out.kept HGWA.out (by simp)).kept hn6 (by simp; omega)
                  unfold BoxM at *; rw [blk_setCell_other _ _ _ _ (by show mb ≠ rb; omega)]; exact h
                exact ⟨d + 1, e6, _, by omega, by go_num, hom6, HMT.out.next hm6 HTT.out hu6, he6, hs7, hbx7,
                  ((HBW.out.grown HGWA.out HBW.out.size (by simp)).grown hn6 (by have := HBW.out.size; have := HGWA.out.size; omega) (by intro j hj; cases hj; exact hwsb)).setCell (by show w.heap.size ≤ rb; omega) _⟩
              case measure => simp [intOf]; omega
            · have hdn : d = D.na q := by omega
              subst hdn
              have hgt : ¬ ((D.na q : Int) < (D.na q : Int)) := by omega
              go_wp2_with fail
              go_roundw
              case rel =>
                exact ⟨q + 1, e', Y, _, by omega, by go_num, HOM.out, HNL5.out, fun p l hp hl hpq => HMT.out.row p l hp hl hpq, HE.out, HS.out, HBX.out, HBW.out⟩
              case measure => simp [intOf]; omega
        · have hqn : q = D.n := by omega
          have hgt : ¬ ((q : Int) < (D.n : Int)) := by omega
          have hmt : Mt (some sb) wr (.slice (some ⟨g, 0, none⟩) D.n D.n) D.n (fun _ => D.n) X := (HOM.out.congrL (L' := fun _ => D.n) (fun l hl => by rw [if_pos (by omega)])).mt (by unfold maxLen; omega) (by intro j hj; cases hj; exact .inl hsg)
          have hX : MatIs e D.n X (arcM D W) := fun p l hp hl => HXX.out p l hp hl (by omega)
          have hTB : TabB w.heap.size wr := (TabB.of HT.out).kept (z := none) (gb_below HBW.out none) (by simp) (Nat.le_refl _)
          clear hqn HOM HNL HXX
          have HMT := Lib.hid hmt; clear hmt
          have HX := Lib.hid hX; clear hX
          have HTB := Lib.hid hTB; clear hTB
          go_wp2_with fail
          refine (powers_any (F := FitP D W) (by omega) HMT.out HX.out HS.out HE.out (fun f => f.pow) HTB.out hwsb).mono ?_
          rintro r w2 ⟨v2, e2, Y, rfl, hY, hYM, hE2, _, hs2, hg2⟩
          have e1 := hs2.c1
          have hb2 : Below w.heap.size w w2 := HBW.out.grown hg2 HBW.out.size (fun j hj => by cases hj; exact hwsb)
          have HB2 := Lib.hid hb2; clear hb2
          have HS2 := Lib.hid hs2; clear hs2
          have HY := Lib.hid hY; clear hY
          clear hg2
          go_wp2_with fail
          go_quiet (fail)
          go_wp2
          go_ret3
          exact ⟨below_drewN HB2.out nq, .inr (.inr ⟨HVM.out, by omega, k, W, sb, e2, v2, Y, HKK.out, HW.out, rfl, HY.out.kept (gb_drewN (gb_refl _ _) nq), hYM, hE2, HS2.out.kept (below_drewN (Below.refl _ _) nq), hwsb⟩)⟩
  · go_wp2_with fail
    go_ret3
    exact ⟨HBE1.out, .inl ⟨hvm, rfl⟩⟩
end Go.Proofs.YtlmfppjphblemaaGreatDoor
