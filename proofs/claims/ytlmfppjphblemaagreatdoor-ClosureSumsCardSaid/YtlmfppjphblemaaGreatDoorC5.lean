/- A region that draws its order, reads cells, calls, and ends with a store into a cell that it has read: the loads are taken first under a condition S that need not hold behind that store. The walks of closure's each (over the rows, with over) and powers. -/
import Derived.Test.YtlmfppjphblemaaGreatDoorC3
import Derived.Deep.RegionHeld2
import Derived.Test.YtlmfppjphblemaaGreatDoorCloC
namespace Go.Proofs.YtlmfppjphblemaaGreatDoor
open Go Go.RowKit Go.Deep
set_option maxRecDepth 100000

section
variable {P : Program} {ops : Array Oper} {Q : Exit → Act → World → Prop} {S : World → Prop} {s : Nat}

/-- Whatever order is picked from here on; S holds behind every operation but number s. -/
def AnyK (P : Program) (ops : Array Oper) (Q : Exit → Act → World → Prop) (S : World → Prop) (s : Nat) : Nat → Array Bool → Act → World → Prop
  | 0, listed, a, w => Region.ready .any ops listed = [] ∧ Q .normal a w
  | fuel + 1, listed, a, w => (Region.ready .any ops listed = [] → Q .normal a w) ∧
    ∀ i ∈ Region.ready .any ops listed, wpOp P ops Q i (fun a' w' => (i = s ∨ S w') ∧ AnyK P ops Q S s fuel (listed.setIfInBounds i true) a' w') a w

theorem AnyK.any : ∀ (fuel : Nat) (listed : Array Bool) (a : Act) (w : World), AnyK P ops Q S s fuel listed a w → wpAny P .any ops Q fuel listed a w
  | 0, _, _, _, h => h
  | fuel + 1, _, _, _, h => ⟨h.1, fun i hi => wpOp_mono (fun a' w' h' => AnyK.any fuel _ a' w' h'.2) (h.2 i hi)⟩

/-- Operation s waits for number i, by whatever way. -/
def waits (ops : Array Oper) : Nat → Nat → Nat → Bool
  | 0, _, _ => false
  | f + 1, s, i => match ops[s]? with
    | some o => o.after.any fun e => Region.binds .any e && (e.on == i || waits ops f e.on i)
    | none => false
/-- Whatever has come up has what it waits for behind it. -/
def Closed (ops : Array Oper) (listed : Array Bool) : Prop := ∀ j o, listed.getD j false = true → ops[j]? = some o → ∀ e ∈ o.after, Region.binds .any e = true → listed.getD e.on false = true
def closedB (ops : Array Oper) (listed : Array Bool) : Bool := (List.range ops.size).all fun j => !listed.getD j false || match ops[j]? with
  | some o => o.after.all fun e => !Region.binds .any e || listed.getD e.on false
  | none => true
theorem closed_of {listed : Array Bool} (h : closedB ops listed = true) : Closed ops listed := fun j o hj ho e he hb => by
  have h1 := List.all_eq_true.1 h j (List.mem_range.2 (Array.getElem?_eq_some_iff.1 ho).1)
  rw [hj, ho] at h1
  simp only [Bool.not_true, Bool.false_or] at h1
  have h2 := Array.all_eq_true_iff_forall_mem.1 h1 e he
  rw [hb] at h2; simpa using h2
theorem Closed.set {listed : Array Bool} {j : Nat} (h : Closed ops listed) (hj : j ∈ Region.ready .any ops listed) : Closed ops (listed.setIfInBounds j true) := fun k o hk ho e he hb => by
  by_cases hjk : j = k
  · subst hjk
    obtain ⟨_, o', ho', hall⟩ := mem_ready.1 hj
    rw [ho] at ho'; cases ho'
    exact getD_set_true (hall e he hb)
  · rw [getD_set_ne false hjk] at hk
    exact getD_set_true (h k o hk ho e he hb)
theorem waits_listed {listed : Array Bool} (hc : Closed ops listed) {i : Nat} : ∀ (f s : Nat), waits ops f s i = true → (∀ o, ops[s]? = some o → ∀ e ∈ o.after, Region.binds .any e = true → listed.getD e.on false = true) → listed.getD i false = true := by
  intro f
  induction f with
  | zero => intro s h; simp [waits] at h
  | succ f ih =>
    intro s h hp
    unfold waits at h
    cases ho : ops[s]? with
    | none => rw [ho] at h; simp at h
    | some o =>
      rw [ho] at h
      obtain ⟨e, he, hb⟩ := Array.any_eq_true'.1 h
      simp only [Bool.and_eq_true, Bool.or_eq_true, beq_iff_eq] at hb
      have hl := hp o ho e he hb.1
      rcases hb.2 with h2 | h2
      · rw [← h2]; exact hl
      · exact ih e.on h2 (fun o' ho' e' he' hb' => hc e.on o' hl ho' e' he' hb')
theorem AnyK.first {i : Nat} {oi : Oper} {v : Value} (hi : ops[i]? = some oi) (hw : waits ops ops.size s i = true) (hsel : ∀ (j : Nat) (o : Oper) cs b, ops[j]? = some o → o.op ≠ .select cs b)
    (hQ : ∀ c a w, Q (.panic c) (a.put oi.dst v) w → Q (.panic c) a w) :
    ∀ (fuel : Nat) (listed : Array Bool) (a : Act) (w : World),
      (∀ j oj, ops[j]? = some oj → j ≠ i → listed.getD j true = false → (∀ e ∈ oj.after, Region.binds .any e = true → e.on ≠ i) → oi.apart ops oj = true) →
      i ∈ Region.ready .any ops listed → Closed ops listed → YieldsIf P ops S oi v a → S w →
      AnyK P ops Q S s fuel (listed.setIfInBounds i true) (a.put oi.dst v) w → AnyK P ops Q S s (fuel + 1) listed a w := by
  intro fuel
  induction fuel with
  | zero =>
    intro listed a w _ hr hcl hy hS H
    refine ⟨fun h => (by rw [h] at hr; cases hr), fun j hj => ?_⟩
    by_cases hji : j = i
    · subst hji; exact hy.wpOp hi hS ⟨.inr hS, H⟩
    · have := ready_mono hj hji
      rw [H.1] at this
      cases this
  | succ fuel ih =>
    intro listed a w hfree hr hcl hy hS H
    refine ⟨fun h => (by rw [h] at hr; cases hr), fun j hj => ?_⟩
    by_cases hji : j = i
    · subst hji; exact hy.wpOp hi hS ⟨.inr hS, H⟩
    · have h1 := H.2 j (ready_mono hj hji)
      obtain ⟨hjun, oj, hoj, hall⟩ := mem_ready.1 hj
      have hopen : listed.getD i false = false := by
        have h0 := (mem_ready.1 hr).1
        rcases Nat.lt_or_ge i listed.size with h' | h'
        · simp [h'] at h0 ⊢; exact h0
        · simp [Array.getElem?_eq_none h']
      have hnot : ∀ e ∈ oj.after, Region.binds .any e = true → e.on ≠ i := fun e he hb heq => by
        have h1 := hall e he hb
        rw [heq, hopen] at h1; cases h1
      have hjs : j ≠ s := fun e => by
        subst e
        have := waits_listed hcl _ _ hw (fun o' ho' e he hb => by rw [hoj] at ho'; cases ho'; exact hall e he hb)
        rw [hopen] at this; cases this
      have h2 := wpOp_putIf hoj (hfree j oj hoj hji hjun hnot) (fun cs b => hsel i oi cs b hi) (fun cs b => hsel j oj cs b hoj) hQ hy h1
      have hfree' : ∀ k ok, ops[k]? = some ok → k ≠ i → (listed.setIfInBounds j true).getD k true = false →
          (∀ e ∈ ok.after, Region.binds .any e = true → e.on ≠ i) → oi.apart ops ok = true := fun k ok hk hki hun hno => by
        refine hfree k ok hk hki ?_ hno
        by_cases hjk : j = k
        · subst hjk; exact hjun
        · rw [getD_set_ne true hjk] at hun; exact hun
      refine wpOp_mono (fun a' w' h3 => ?_) h2
      have hS' : S w' := h3.2.1.resolve_left hjs
      refine ⟨.inr hS', ih (listed.setIfInBounds j true) a' w' hfree' (ready_mono hr (Ne.symm hji)) (hcl.set hj) h3.1 hS' ?_⟩
      rw [Array.setIfInBounds_comm _ _ hji]
      exact h3.2.2
/-- Take number i first. -/
theorem AnyK.take {i : Nat} {oi : Oper} {v : Value} {fuel : Nat} {listed : Array Bool} {a : Act} {w : World} (hi : ops[i]? = some oi) (hw : waits ops ops.size s i = true) (hcl : closedB ops listed = true)
    (hs : Region.noSelect ops = true) (hf : Region.free .any ops listed i = true) (hr : (Region.ready .any ops listed).contains i = true)
    (hQ : ∀ c a w, Q (.panic c) (a.put oi.dst v) w → Q (.panic c) a w) (hS : S w) (hy : YieldsIf P ops S oi v a)
    (h : AnyK P ops Q S s fuel (listed.setIfInBounds i true) (a.put oi.dst v) w) : AnyK P ops Q S s (fuel + 1) listed a w :=
  AnyK.first hi hw (Region.noSelect_spec hs) hQ fuel listed a w (Region.free_spec hi hf) (by simpa using hr) (closed_of hcl) hy hS h
/-- The one that comes next. -/
theorem AnyK.one {i : Nat} {o : Oper} {fuel : Nat} {listed : Array Bool} {a : Act} {w : World} (ho : ops[i]? = some o) (hr : Region.ready .any ops listed = [i]) (hwant : Region.wanted o (yielded ops a.tmps) = true)
    (h : ∀ K : Act → World → Prop, Shut (∀ a w, (i = s ∨ S w) → AnyK P ops Q S s fuel (listed.setIfInBounds i true) a w → K a w) → Oper.wp P o a w K Q) : AnyK P ops Q S s (fuel + 1) listed a w := by
  refine ⟨fun h0 => (by rw [hr] at h0; cases h0), fun j hj => ?_⟩
  rw [hr] at hj
  obtain rfl : j = i := by simpa using hj
  exact wpOp_step ho (fun K hK => by rw [if_pos hwant]; exact h K (fun a w hS hW => hK a w ⟨hS, hW⟩))
/-- All have come up. -/
theorem AnyK.done {listed : Array Bool} {a : Act} {w : World} (hr : Region.ready .any ops listed = []) (h : Q .normal a w) : ∀ fuel, AnyK P ops Q S s fuel listed a w
  | 0 => ⟨hr, h⟩
  | _ + 1 => ⟨fun _ => h, by rw [hr]; simp⟩
/-- The beginning. -/
theorem region_heldK (S : World → Prop) (s : Nat) {id : Nat} {a : Act} {w : World} (hm : P.follows .mixedOrders = true)
    (h : AnyK P ops Q S s ops.size (Array.replicate ops.size false) a w.drew) : (Code.region id ops true).wp P Q a w :=
  wp_region_any hm (AnyK.any _ _ _ _ h)
end
end Go.Proofs.YtlmfppjphblemaaGreatDoor

namespace Go.Proofs.YtlmfppjphblemaaGreatDoor
open Go Go.RowKit Go.Deep
set_option maxRecDepth 100000
set_option linter.unusedSimpArgs false

theorem enterOver : ∀ args w, (callFunc 64 args).run Tryz.prog w = .ok (.enter 64 args) w := fun args w => by kernel_rfl

/-- Behind all eliminations. -/
def EachE {k : KK} (F : Prop) (B tb sb g n e : Nat) (R : Nat → Value) (M : Nat → Nat → RK k) (w : World) (r : Ending) (w' : World) : Prop :=
  ∃ e' Y, r = .returned (.tuple #[]) ∧ Tb w' k.1 B tb sb g n e' R Y ∧ MatIs e' n Y (CSR.elims M n) ∧ Er F e' ∧ (e' = 0 → e = 0) ∧ Gr B (some sb) w w'

set_option maxHeartbeats 2000000 in
theorem each_over {k : KK} {F : Prop} {B0 B tb sb g n e : Nat} {R : Nat → Value} {X : Nat → Nat → ByteArray} {M : Nat → Nat → RK k} {w : World} {a : Option Addr} {cap b off : Nat} {RA : Nat → Value} (hn : n ≤ 60)
    (ha : 0 < n → a = some ⟨b, off, none⟩) (hb : 0 < n → b < B ∧ b ≠ sb) (hcell : ∀ i, i < n → w.cell? ⟨b, off + i, none⟩ = some (RA i))
    (hT : Tb w k.1 B tb sb g n e R X) (hX : MatIs e n X M) (he : Er F e) (hF : F → ∀ p, p < n → FitE n p (CSR.elims M p)) (ht : TabB B0 w) (hB : B0 ≤ sb) :
    Calls Tryz.prog 63 #[.slice a n cap, .func (.func 64) #[.pointer (some ⟨tb, 0, none⟩)] #[]] w (EachE F B tb sb g n e R M w) := by
  have hen := enterOver
  have HT := Lib.hid hT; clear hT
  have HX := Lib.hid hX; clear hX
  have HE := Lib.hid he; clear he
  have HF := Lib.hid hF; clear hF
  have HTB := Lib.hid ht; clear ht
  have HC := Lib.hid hcell; clear hcell
  have HA := Lib.hid ha; clear ha
  have HB := Lib.hid hb; clear hb
  go_enter Tryz.func63, Tryz.ntmps63
  go_wp2_with fail
  go_loopw [8] (fun i wr => ∃ (q e' : Nat) (Y : Nat → Nat → ByteArray), q ≤ n ∧ i = .int .i64 (q : Int) ∧ Tb wr k.1 B tb sb g n e' R Y ∧ MatIs e' n Y (CSR.elims M q) ∧ Er F e' ∧ (e' = 0 → e = 0) ∧ TabB B0 wr ∧ Gr B (some sb) w wr)
    (fun i _ => n - (intOf i).toNat)
  case atStart => exact ⟨0, e, X, Nat.zero_le _, rfl, HT.out, HX.out, HE.out, fun h => h, HTB.out, Gr.refl _ _ _⟩
  case round =>
    obtain ⟨q, e', Y, hq, rfl, hT, hX, hE, hm, hTB, hG⟩ := hrel
    clear HT HX HE HTB
    have HT := Lib.hid hT; clear hT
    have HX := Lib.hid hX; clear hX
    have HE := Lib.hid hE; clear hE
    have HM := Lib.hid hm; clear hm
    have HTB := Lib.hid hTB; clear hTB
    have HG := Lib.hid hG; clear hG
    by_cases hlt : q < n
    · have hqz : (q : Int) < (n : Int) := by omega
      have hqz0 : (0 : Int) ≤ (q : Int) := by omega
      obtain rfl := HA.out (by omega)
      obtain ⟨hb1, hb2⟩ := HB.out (by omega)
      have c0 : wr.cell? ⟨b, off + q, none⟩ = some (RA q) := (World.cell?_of_block (w := w) (a := ⟨b, off + q, none⟩) (HG.out.block b hb1 (by simp; exact hb2))).trans (HC.out q hlt)
      go_wp2_with fail
      refine (over_any (RA q) hn hlt HT.out HX.out HE.out (fun f => HF.out f q hlt) HTB.out hB).mono ?_
      rintro r w1 ⟨e1, Y1, rfl, hT1, hX1, hE1, hm1, hG1⟩
      have hTB1 : TabB B0 w1 := HTB.out.gr hG1 (by intro q hq; cases hq; exact hB) (by have := HT.out.sbB; omega)
      have HT1 := Lib.hid hT1; clear hT1
      have HX1 := Lib.hid hX1; clear hX1
      have HE1 := Lib.hid hE1; clear hE1
      have HM1 := Lib.hid hm1; clear hm1
      have HG1 := Lib.hid hG1; clear hG1
      have HTB1 := Lib.hid hTB1; clear hTB1
      clear c0
      go_wp2_with fail
      go_roundw
      case rel => exact ⟨q + 1, e1, Y1, by omega, by go_num, HT1.out, HX1.out, HE1.out, fun h => HM.out (HM1.out h), HTB1.out, HG.out.trans HG1.out⟩
      case measure => simp [intOf]; omega
    · have hqn : q = n := by omega
      subst hqn
      have hgt : ¬ ((q : Int) < (q : Int)) := by omega
      go_wp2_with fail
      go_end0
      exact ⟨e', Y, rfl, HT.out, HX.out, HE.out, HM.out, HG.out⟩

/-- All that the sum of all powers computes fits. -/
structure FitM {k : KK} (n : Nat) (M : Nat → Nat → RK k) : Prop where
  steps : ∀ p, p < n → FitE n p (CSR.elims M p)
  last : ∀ i, i < n → fitV (CSR.elims M n i i + CSR.one).1
/-- Behind powers. -/
def PowE {k : KK} (F : Prop) (sb n e : Nat) (M : Nat → Nat → RK k) (w : World) (r : Ending) (w' : World) : Prop :=
  ∃ v e' Y, r = .returned v ∧ Mt (some sb) w' v n (fun _ => n) Y ∧ MatIs e' n Y (CSR.starM M n) ∧ Er F e' ∧ (e' = 0 → e = 0) ∧ SumB w' sb k.1 e' ∧ w.grownBy w' (some sb)
/-- The world in which the table is laid. -/
def PW (w : World) (sb n : Nat) : World := (w.alloc (.cells (madeCells #[.slice none 0 0] n) 33)).alloc (.cells #[.pointer (some ⟨sb, 0, none⟩), .slice (some ⟨w.heap.size, 0, none⟩) n n] 89)

theorem PW_tab (w : World) (sb n : Nat) : (PW w sb n).heap[w.heap.size + 1]? = some (.cells #[.pointer (some ⟨sb, 0, none⟩), .slice (some ⟨w.heap.size, 0, none⟩) n n] 89 (0, 0)) := by
  have := heap_alloc_new (w.alloc (.cells (madeCells #[.slice none 0 0] n) 33)) (.cells #[.pointer (some ⟨sb, 0, none⟩), .slice (some ⟨w.heap.size, 0, none⟩) n n] 89)
  rw [show (w.alloc (.cells (madeCells #[.slice none 0 0] n) 33)).heap.size = w.heap.size + 1 by simp] at this
  exact this
theorem PW_om (w : World) (sb n : Nat) (X : Nat → Nat → ByteArray) : OM (PW w sb n) (fun b => b = w.heap.size + 1) w.heap.size 9 33 w.heap.size n (fun _ => .slice none 0 0) (fun l => if l < 0 then n else 0) X := by
  have h := (OM.made w (fun _ => False) (by simp) w.heap.size (Nat.le_refl _) 9 33 n X).fence (.cells #[.pointer (some ⟨sb, 0, none⟩), .slice (some ⟨w.heap.size, 0, none⟩) n n] 89)
  rw [show (w.alloc (.cells (madeCells #[.slice none 0 0] n) 33)).heap.size = w.heap.size + 1 by simp] at h
  exact h.congrL fun _ _ => by simp
theorem PW_below (w : World) (sb n : Nat) : Below w.heap.size w (PW w sb n) := ((Below.refl _ _).alloc (Nat.le_refl _) _).alloc (by simp) _
theorem strs_cells_at {w : World} {b off n : Nat} {X : Nat → ByteArray} (h : ∀ j, j < n → w.cell? ⟨b, off + j, none⟩ = some (.string (X j))) : ∀ j u, (strs n X)[j]? = some u → w.cell? ((⟨b, off, none⟩ : Addr).add j) = some u := by
  intro j u hu
  have hj : j < n := by
    rcases Nat.lt_or_ge j n with h1 | h1
    · exact h1
    · rw [List.getElem?_eq_none (by rw [strs_len]; exact h1)] at hu; cases hu
  rw [strs_get _ _ _ hj] at hu; cases hu
  rw [Addr.add_lit]; exact h j hj
theorem tab_kept {wr wa : World} {tb : Nat} {o : Obj} {z : Option Nat} (h : wr.heap[tb]? = some o) (hg : wr.drew.grownBy wa z) (hz : some tb ≠ z) {p : Addr} (hp : tb ≠ p.block) (v : Value) : (wa.setCell p v).heap[tb]? = some o := by
  rw [blk_setCell_other _ _ _ _ hp, hg.block tb (Array.getElem?_eq_some_iff.1 h).1 hz]; exact h

/-- The diagonal below c has its One. -/
def Diag {k : KK} (e n c : Nat) (Z : Nat → Nat → ByteArray) (N : Nat → Nat → RK k) : Prop := ∀ l j, l < n → j < n → Is k e (Z l j) (if l = j ∧ l < c then N l j + CSR.one else N l j)
theorem Diag.start {k : KK} {e n : Nat} {Z : Nat → Nat → ByteArray} {N : Nat → Nat → RK k} (h : MatIs e n Z N) : Diag e n 0 Z N := fun l j hl hj => by rw [if_neg (by omega)]; exact h l j hl hj
theorem Diag.next {k : KK} {e e' n c : Nat} {Z : Nat → Nat → ByteArray} {N : Nat → Nat → RK k} {u : ByteArray} (h : Diag e n c Z N) (he : e' = 0 → e = 0) (hu : Is k e' u (N c c + CSR.one)) : Diag e' n (c + 1) (fun l j => if l = c ∧ j = c then u else Z l j) N := fun l j hl hj => by
  by_cases h0 : l = c ∧ j = c
  · obtain ⟨rfl, rfl⟩ := h0
    rw [if_pos (by omega)]; simpa using hu
  · have := (h l j hl hj).mono he
    simp only [if_neg h0]
    by_cases h1 : l = j ∧ l < c
    · rw [if_pos h1] at this; rw [if_pos (by omega)]; exact this
    · rw [if_neg h1] at this; rw [if_neg (by omega)]; exact this
theorem Diag.done {k : KK} {e n : Nat} {Z : Nat → Nat → ByteArray} {M : Nat → Nat → RK k} (h : Diag e n n Z (CSR.elims M n)) : MatIs e n Z (CSR.starM M n) := fun l j hl hj => by
  have := h l j hl hj
  unfold CSR.starM CSR.eye
  by_cases h1 : l = j
  · rw [if_pos ⟨h1, hl⟩] at this; rw [if_pos h1]; exact this
  · rw [if_neg (fun h => h1 h.1)] at this; rw [if_neg h1, CSR.a0]; exact this
/-- Four cells that a statement reads. -/
def S4 (a b c d : Addr) (u v x y : Value) (wk : World) : Prop := wk.cell? a = some u ∧ wk.cell? b = some v ∧ wk.cell? c = some x ∧ wk.cell? d = some y
set_option maxHeartbeats 8000000 in
theorem powers_any {k : KK} {F : Prop} {B0 sb n e : Nat} {X : Nat → Nat → ByteArray} {M : Nat → Nat → RK k} {w : World} {v : Value} (hn : n ≤ 60)
    (hA : Mt (some sb) w v n (fun _ => n) X) (hX : MatIs e n X M) (hs : SumB w sb k.1 e) (he : Er F e) (hF : F → FitM n M) (ht : TabB B0 w) (hB : B0 ≤ sb) :
    Calls Tryz.prog 40 #[.pointer (some ⟨sb, 0, none⟩), v] w (PowE F sb n e M w) := by
  obtain ⟨a, cap, b, off, A, C, BB, O, rfl, ha, hc, hm, hb, hrow⟩ := hA.open
  unfold maxLen at hm
  have hsl := hs.lt
  have HS := Lib.hid hs; clear hs
  have HX := Lib.hid hX; clear hX
  have HE := Lib.hid he; clear he
  have HF := Lib.hid hF; clear hF
  have HTB := Lib.hid ht; clear ht
  have HA := Lib.hid ha; clear ha
  have HB := Lib.hid hb; clear hb
  have HR := Lib.hid hrow; clear hrow hA
  have hmk := run_make_row' (P := Tryz.prog) 22 33 (.slice none 0 0) 24 Tryz.underlying22 info_strs rfl .i64 .i64 n (by omega) (by omega)
  go_enter Tryz.func40, Tryz.ntmps40
  go_wp2_with fail
  change Code.wp _ _ _ _ (PW w sb n)
  clear hmk
  have HPT := Lib.hid (PW_tab w sb n)
  have HPO := Lib.hid (PW_om w sb n X)
  have HPB := Lib.hid (PW_below w sb n)
  generalize PW w sb n = wp at *
  obtain ⟨tb, htb⟩ : ∃ tb, tb = w.heap.size + 1 := ⟨_, rfl⟩
  obtain ⟨gB, hgB⟩ : ∃ gB, gB = w.heap.size := ⟨_, rfl⟩
  rw [← htb, ← hgB]
  rw [← hgB] at hsl htb
  have HPT' := Lib.hid (show wp.heap[tb]? = some (.cells #[.pointer (some ⟨sb, 0, none⟩), .slice (some ⟨gB, 0, none⟩) n n] 89 (0, 0)) from by rw [htb, hgB]; exact HPT.out)
  have HPO' := Lib.hid (show OM wp (fun b => b = tb) gB 9 33 gB n (fun _ => .slice none 0 0) (fun l => if l < 0 then n else 0) X from by rw [htb, hgB]; exact HPO.out)
  have HPB' := Lib.hid (show Below gB w wp from by rw [hgB]; exact HPB.out)
  have HB' := Lib.hid (show 0 < n → b < gB ∧ b ≠ sb from fun h => by rw [hgB]; exact ⟨(HB.out h).1, by have := (HB.out h).2; simpa using this⟩)
  have HR' := Lib.hid (show ∀ i, i < n → w.cell? ⟨b, off + i, none⟩ = some (.slice (A i) n (C i)) ∧ n ≤ C i ∧ C i ≤ maxLen ∧ (0 < n → A i = some ⟨BB i, O i, none⟩) ∧ (0 < n → BB i < gB) ∧ ∀ j, j < n → w.cell? ⟨BB i, O i + j, none⟩ = some (.string (X i j)) from fun i hi => by
    obtain ⟨k1, k2, k3, k4, k5, _, k7⟩ := HR.out i hi
    exact ⟨k1, k2, k3, k4, fun h => by rw [hgB]; exact (k5 h).1, k7⟩)
  have HGB := Lib.hid hgB; clear hgB
  have HTE := Lib.hid htb; clear htb
  clear HPT HPO HPB HB HR
  -- ████ t.rows[i] = append(t.rows[i], a[i]...)
  go_loopw [16] (fun i wr => ∃ (q : Nat) (R2 : Nat → Value), q ≤ n ∧ i = .int .i64 (q : Int) ∧ wr.heap[tb]? = some (.cells #[.pointer (some ⟨sb, 0, none⟩), .slice (some ⟨gB, 0, none⟩) n n] 89 (0, 0)) ∧
    OM wr (fun b => b = tb) gB 9 33 gB n R2 (fun l => if l < q then n else 0) X ∧
    (∀ l, q ≤ l → R2 l = .slice none 0 0) ∧ Below gB w wr) (fun i _ => n - (intOf i).toNat)
  case atStart => exact ⟨0, _, Nat.zero_le _, rfl, HPT'.out, HPO'.out, fun _ _ => rfl, HPB'.out⟩
  case round =>
    obtain ⟨q, R2, hq, rfl, htab, hom, hnil, hbw⟩ := hrel
    clear HPT' HPO' HPB'
    have HTAB := Lib.hid htab; clear htab
    have HOM := Lib.hid hom; clear hom
    have HNL := Lib.hid hnil; clear hnil
    have HBW := Lib.hid hbw; clear hbw
    by_cases hlt : q < n
    · have hqz : (q : Int) < (n : Int) := by omega
      have hqz0 : (0 : Int) ≤ (q : Int) := by omega
      obtain rfl := HA.out (by omega)
      obtain ⟨hb1, hb2⟩ := HB'.out (by omega)
      obtain ⟨k1, k2, k3, k4, k5, k7⟩ := HR'.out q hlt
      have k4' := k4 (by omega)
      have k5' := k5 (by omega)
      rw [k4'] at k1
      have c0 := (HBW.out.cell (p := ⟨b, off + q, none⟩) hb1).trans k1
      have HC0 := Lib.hid (fun j (hj : j < n) => (HBW.out.cell (p := ⟨BB q, O q + j, none⟩) k5').trans (k7 j hj))
      have t1 : wr.cell? ⟨tb, 1, none⟩ = some (.slice (some ⟨gB, 0, none⟩) n n) := by have := HTAB.out; simp [World.cell?, this]
      have o0 := HOM.out.cell hlt
      rw [HNL.out q (Nat.le_refl _)] at o0
      unfold maxLen at k3
      have hd1 := drew_gb wr none
      have ogl := HOM.out.lt
      have wsz : gB ≤ wr.heap.size := by rw [HGB.out]; exact HBW.out.size
      have hcn : (C q : Int) ≤ 9223372036854775807 := by omega
      clear k1 k4 k5 k7 k4'
      have hbq : BB q < gB := k5'
      clear k5' hb1 hb2
      obtain ⟨i0, hi0, hz0, hz1, hz2⟩ := info_parts info_str
      have HCD := Lib.hid (show ∀ j, j < n → wr.drew.cell? ⟨BB q, O q + j, none⟩ = some (.string (X q j)) from HC0.out)
      clear HC0
      go_wp2_with fail
      have hS0 : S4 ⟨tb, 1, none⟩ ⟨gB, q, none⟩ ⟨b, off + q, none⟩ ⟨b, off + q, none⟩ (.slice (some ⟨gB, 0, none⟩) n n) (.slice none 0 0) (.slice (some ⟨BB q, O q, none⟩) n (C q)) (.slice (some ⟨BB q, O q, none⟩) n (C q)) wr.drew := ⟨t1, o0, c0, c0⟩
      refine region_heldK (S4 ⟨tb, 1, none⟩ ⟨gB, q, none⟩ ⟨b, off + q, none⟩ ⟨b, off + q, none⟩ (.slice (some ⟨gB, 0, none⟩) n n) (.slice none 0 0) (.slice (some ⟨BB q, O q, none⟩) n (C q)) (.slice (some ⟨BB q, O q, none⟩) n (C q))) 18 (by kernel_rfl) ?_
      refine AnyK.take (i := 0) (v := ?v0) rfl (by kernel_rfl) (by kernel_rfl) (by kernel_rfl) (by kernel_rfl) (by kernel_rfl) (fun _ _ _ h => h) hS0 (Or.inl ⟨by rfl, ?hy0⟩) ?rest0
      case hy0 => rintro wk ⟨s1, s2, s3, s4⟩; go_simp; try with_reducible rfl
      try simp only [Act.put, List.setIfInBounds_toArray, List.set_cons_zero, List.set_cons_succ]
      refine AnyK.take (i := 1) (v := ?v1) rfl (by kernel_rfl) (by kernel_rfl) (by kernel_rfl) (by kernel_rfl) (by kernel_rfl) (fun _ _ _ h => h) hS0 (Or.inl ⟨by rfl, ?hy1⟩) ?rest1
      case hy1 => rintro wk ⟨s1, s2, s3, s4⟩; go_simp; try with_reducible rfl
      try simp only [Act.put, List.setIfInBounds_toArray, List.set_cons_zero, List.set_cons_succ]
      refine AnyK.take (i := 2) (v := ?v2) rfl (by kernel_rfl) (by kernel_rfl) (by kernel_rfl) (by kernel_rfl) (by kernel_rfl) (fun _ _ _ h => h) hS0 (Or.inl ⟨by rfl, ?hy2⟩) ?rest2
      case hy2 => rintro wk ⟨s1, s2, s3, s4⟩; go_simp; try with_reducible rfl
      try simp only [Act.put, List.setIfInBounds_toArray, List.set_cons_zero, List.set_cons_succ]
      refine AnyK.take (i := 3) (v := ?v3) rfl (by kernel_rfl) (by kernel_rfl) (by kernel_rfl) (by kernel_rfl) (by kernel_rfl) (fun _ _ _ h => h) hS0 (Or.inl ⟨by rfl, ?hy3⟩) ?rest3
      case hy3 => rintro wk ⟨s1, s2, s3, s4⟩; go_simp; try with_reducible rfl
      try simp only [Act.put, List.setIfInBounds_toArray, List.set_cons_zero, List.set_cons_succ]
      refine AnyK.take (i := 4) (v := ?v4) rfl (by kernel_rfl) (by kernel_rfl) (by kernel_rfl) (by kernel_rfl) (by kernel_rfl) (fun _ _ _ h => h) hS0 (Or.inl ⟨by rfl, ?hy4⟩) ?rest4
      case hy4 => rintro wk ⟨s1, s2, s3, s4⟩; go_simp; try with_reducible rfl
      try simp only [Act.put, List.setIfInBounds_toArray, List.set_cons_zero, List.set_cons_succ]
      refine AnyK.take (i := 5) (v := ?v5) rfl (by kernel_rfl) (by kernel_rfl) (by kernel_rfl) (by kernel_rfl) (by kernel_rfl) (fun _ _ _ h => h) hS0 (Or.inl ⟨by rfl, ?hy5⟩) ?rest5
      case hy5 => rintro wk ⟨s1, s2, s3, s4⟩; go_simp; try with_reducible rfl
      try simp only [Act.put, List.setIfInBounds_toArray, List.set_cons_zero, List.set_cons_succ]
      refine AnyK.take (i := 6) (v := ?v6) rfl (by kernel_rfl) (by kernel_rfl) (by kernel_rfl) (by kernel_rfl) (by kernel_rfl) (fun _ _ _ h => h) hS0 (Or.inl ⟨by rfl, ?hy6⟩) ?rest6
      case hy6 => rintro wk ⟨s1, s2, s3, s4⟩; go_simp; try with_reducible rfl
      try simp only [Act.put, List.setIfInBounds_toArray, List.set_cons_zero, List.set_cons_succ]
      refine AnyK.take (i := 7) (v := ?v7) rfl (by kernel_rfl) (by kernel_rfl) (by kernel_rfl) (by kernel_rfl) (by kernel_rfl) (fun _ _ _ h => h) hS0 (Or.inl ⟨by rfl, ?hy7⟩) ?rest7
      case hy7 => rintro wk ⟨s1, s2, s3, s4⟩; go_simp; try with_reducible rfl
      try simp only [Act.put, List.setIfInBounds_toArray, List.set_cons_zero, List.set_cons_succ]
      refine AnyK.take (i := 8) (v := ?v8) rfl (by kernel_rfl) (by kernel_rfl) (by kernel_rfl) (by kernel_rfl) (by kernel_rfl) (fun _ _ _ h => h) hS0 (Or.inl ⟨by rfl, ?hy8⟩) ?rest8
      case hy8 => rintro wk ⟨s1, s2, s3, s4⟩; go_simp; try with_reducible rfl
      try simp only [Act.put, List.setIfInBounds_toArray, List.set_cons_zero, List.set_cons_succ]
      refine AnyK.take (i := 9) (v := ?v9) rfl (by kernel_rfl) (by kernel_rfl) (by kernel_rfl) (by kernel_rfl) (by kernel_rfl) (fun _ _ _ h => h) hS0 (Or.inl ⟨by rfl, ?hy9⟩) ?rest9
      case hy9 => rintro wk ⟨s1, s2, s3, s4⟩; go_simp; try with_reducible rfl
      try simp only [Act.put, List.setIfInBounds_toArray, List.set_cons_zero, List.set_cons_succ]
      refine AnyK.take (i := 10) (v := ?v10) rfl (by kernel_rfl) (by kernel_rfl) (by kernel_rfl) (by kernel_rfl) (by kernel_rfl) (fun _ _ _ h => h) hS0 (Or.inl ⟨by rfl, ?hy10⟩) ?rest10
      case hy10 => rintro wk ⟨s1, s2, s3, s4⟩; go_simp; try with_reducible rfl
      try simp only [Act.put, List.setIfInBounds_toArray, List.set_cons_zero, List.set_cons_succ]
      refine AnyK.take (i := 11) (v := ?v11) rfl (by kernel_rfl) (by kernel_rfl) (by kernel_rfl) (by kernel_rfl) (by kernel_rfl) (fun _ _ _ h => h) hS0 (Or.inl ⟨by rfl, ?hy11⟩) ?rest11
      case hy11 => rintro wk ⟨s1, s2, s3, s4⟩; go_simp; try with_reducible rfl
      try simp only [Act.put, List.setIfInBounds_toArray, List.set_cons_zero, List.set_cons_succ]
      refine AnyK.take (i := 12) (v := ?v12) rfl (by kernel_rfl) (by kernel_rfl) (by kernel_rfl) (by kernel_rfl) (by kernel_rfl) (fun _ _ _ h => h) hS0 (Or.inl ⟨by rfl, ?hy12⟩) ?rest12
      case hy12 => rintro wk ⟨s1, s2, s3, s4⟩; go_simp; try with_reducible rfl
      try simp only [Act.put, List.setIfInBounds_toArray, List.set_cons_zero, List.set_cons_succ]
      refine AnyK.take (i := 13) (v := ?v13) rfl (by kernel_rfl) (by kernel_rfl) (by kernel_rfl) (by kernel_rfl) (by kernel_rfl) (fun _ _ _ h => h) hS0 (Or.inl ⟨by rfl, ?hy13⟩) ?rest13
      case hy13 => rintro wk ⟨s1, s2, s3, s4⟩; go_simp; try with_reducible rfl
      try simp only [Act.put, List.setIfInBounds_toArray, List.set_cons_zero, List.set_cons_succ]
      refine AnyK.take (i := 14) (v := ?v14) rfl (by kernel_rfl) (by kernel_rfl) (by kernel_rfl) (by kernel_rfl) (by kernel_rfl) (fun _ _ _ h => h) hS0 (Or.inl ⟨by rfl, ?hy14⟩) ?rest14
      case hy14 => rintro wk ⟨s1, s2, s3, s4⟩; go_simp; try with_reducible rfl
      try simp only [Act.put, List.setIfInBounds_toArray, List.set_cons_zero, List.set_cons_succ]
      refine AnyK.take (i := 15) (v := ?v15) rfl (by kernel_rfl) (by kernel_rfl) (by kernel_rfl) (by kernel_rfl) (by kernel_rfl) (fun _ _ _ h => h) hS0 (Or.inl ⟨by rfl, ?hy15⟩) ?rest15
      case hy15 => rintro wk ⟨s1, s2, s3, s4⟩; go_simp; try with_reducible rfl
      try simp only [Act.put, List.setIfInBounds_toArray, List.set_cons_zero, List.set_cons_succ]
      refine AnyK.one (i := 16) rfl (by kernel_rfl) (by rfl) (fun K hK => ?_)
      refine wp_append_lies _ (.tmp 30) (.tmp 34) 33 rfl gB 9 i0 (.string ⟨#[]⟩) 1 16 Tryz.underlying33 hi0 hz0 hz1 hz2 rfl (by omega) (.slice none 0 0) 0 [] (by simp [Act.eval]) (World.ownsRow_nil _ _ _ _) ⟨BB q, O q, none⟩ n (C q) (strs n (X q)) (by simp [Act.eval]) (by rw [strs_len, Nat.mul_one])
            (strs_cells_at HCD.out) (str_cells _ _) (by omega) (by unfold maxLen; omega) (by omega) wsz wr.heap.size rfl ?_
      intro go cap' wa hown hgrow hat hlt'
      have hn1 := gb_trans hd1 hgrow
      have hfz := (hn1.frozen_far ⟨gB, q, none⟩ ogl (by simp)).trans (HOM.out.frozen q)
      have hcl := hn1.cell o0 (by simp)
      have hS1 : S4 ⟨tb, 1, none⟩ ⟨gB, q, none⟩ ⟨b, off + q, none⟩ ⟨b, off + q, none⟩ (.slice (some ⟨gB, 0, none⟩) n n) (.slice none 0 0) (.slice (some ⟨BB q, O q, none⟩) n (C q)) (.slice (some ⟨BB q, O q, none⟩) n (C q)) wa :=
        ⟨hn1.cell t1 (by simp), hcl, hn1.cell c0 (by simp), hn1.cell c0 (by simp)⟩
      refine hK.out _ _ (.inr hS1) ?_
      clear hK K
      try simp only [Act.put, List.setIfInBounds_toArray, List.set_cons_zero, List.set_cons_succ]
      refine AnyK.take (i := 17) (v := ?v17) rfl (by kernel_rfl) (by kernel_rfl) (by kernel_rfl) (by kernel_rfl) (by kernel_rfl) (fun _ _ _ h => h) hS1 (Or.inl ⟨by rfl, ?hy17⟩) ?rest17
      case hy17 => rintro wk ⟨s1, s2, s3, s4⟩; go_simp; try with_reducible rfl
      try simp only [Act.put, List.setIfInBounds_toArray, List.set_cons_zero, List.set_cons_succ]
      refine AnyK.one (i := 18) rfl (by kernel_rfl) (by rfl) (fun K hK => ?_)
      go_simp
      refine hK.out _ _ (.inl rfl) (AnyK.done (by kernel_rfl) ?_ _)
      clear hK K
      go_wp2_with fail
      go_roundw
      case rel =>
        obtain ⟨R3, h1, h2⟩ := copy_step HOM.out hlt HNL.out hown hgrow hat
        exact ⟨q + 1, R3, by omega, by go_num, tab_kept HTAB.out hgrow (by simp [Value.ownBlock]) (by show tb ≠ gB; have := HTE.out; omega) _, h1, h2, ((HBW.out.drew).grown hgrow (by show gB ≤ wr.heap.size; exact wsz) (by simp [Value.ownBlock])).setCell (Nat.le_refl _) _⟩
      case measure => simp [intOf]; omega
    · have hqn : q = n := by omega
      subst hqn
      have hod : OM wr (fun b => b = tb) gB 9 33 gB q R2 (fun _ => q) X := HOM.out.congrL fun l hl => by rw [if_pos hl]
      have hgt : ¬ ((q : Int) < (q : Int)) := by omega
      have hT1 : Tb wr k.1 gB (tb) sb gB q e R2 X := ⟨HTAB.out, HS.out.kept (HGB.out ▸ HBW.out), hod, hsl, by have := HTE.out; omega⟩
      have hTB1 : TabB B0 wr := HTB.out.kept (z := none) (gb_below (HGB.out ▸ HBW.out) _) (by simp) (by have := HGB.out; omega)
      have hG1 : Gr gB (some sb) w wr := Gr.of (gb_below (HGB.out ▸ HBW.out) _) (by rw [HGB.out]; exact Nat.le_refl _)
      clear HOM HNL hod
      have HT1 := Lib.hid hT1; clear hT1 HS
      have HTB1 := Lib.hid hTB1; clear hTB1 HTB
      have HG1 := Lib.hid hG1; clear hG1
      have hcellA : ∀ i, i < q → wr.cell? ⟨b, off + i, none⟩ = some (.slice (A i) q (C i)) := fun i hi => (HBW.out.cell (p := ⟨b, off + i, none⟩) (HB'.out (by omega)).1).trans (HR'.out i hi).1
      have HCA := Lib.hid hcellA; clear hcellA
      go_wp2_with fail
      refine (each_over hn HA.out HB'.out HCA.out HT1.out HX.out HE.out (fun f => (HF.out f).steps) HTB1.out hB).mono ?_
      rintro r w2 ⟨e2, Y, rfl, hT2, hX2, hE2, hm2, hG2⟩
      have hTB2 : TabB B0 w2 := HTB1.out.gr hG2 (by intro q hq; cases hq; exact hB) (by omega)
      have HT2 := Lib.hid hT2; clear hT2 HT1
      have HX2 := Lib.hid (Diag.start hX2); clear hX2
      have HE2 := Lib.hid hE2; clear hE2
      have HM2 := Lib.hid hm2; clear hm2
      have HG2 := Lib.hid (HG1.out.trans hG2); clear hG2 HG1
      have HTB2 := Lib.hid hTB2; clear hTB2 HTB1
      have t1 := HT2.out.c1
      go_wp2_with fail
      clear t1
      -- ████ t.rows[i][i] = s.plus(t.rows[i][i], semi.One(s.kind))
      go_loopw [47] (fun i wr => ∃ (c e3 : Nat) (Z : Nat → Nat → ByteArray), c ≤ q ∧ i = .int .i64 (c : Int) ∧ Tb wr k.1 gB tb sb gB q e3 R2 Z ∧ Diag e3 q c Z (CSR.elims M q) ∧ Er F e3 ∧ (e3 = 0 → e2 = 0) ∧ TabB B0 wr ∧ Gr gB (some sb) w wr)
        (fun i _ => q - (intOf i).toNat)
      case atStart => exact ⟨0, e2, Y, Nat.zero_le _, rfl, HT2.out, HX2.out, HE2.out, fun h => h, HTB2.out, HG2.out⟩
      case round =>
        obtain ⟨c, e3, Z, hcq, rfl, hT, hX, hE, hm, hTB, hG⟩ := hrel
        clear HT2 HX2 HE2 HTB2 HG2
        have HT := Lib.hid hT; clear hT
        have HXX := Lib.hid hX; clear hX
        have HEE := Lib.hid hE; clear hE
        have HM := Lib.hid hm; clear hm
        have HTBB := Lib.hid hTB; clear hTB
        have HG := Lib.hid hG; clear hG
        by_cases hlt : c < q
        · have hcz : (c : Int) < (q : Int) := by omega
          have hcz0 : (0 : Int) ≤ (c : Int) := by omega
          obtain ⟨bc, cc, hRb, hbB2, hbl2, hbg2, hbt2, hc3, hc4, hfb, hcb⟩ := HT.out.om.form hlt (by omega)
          unfold maxLen at hc4
          have r0 := HT.out.om.cell hlt
          rw [hRb] at r0
          have r1 := hcb c hlt
          have rf := hfb c
          have t1 := HT.out.c1
          have s0 := HT.out.sum.c0
          have HRB := Lib.hid hRb; clear hRb
          clear hfb hcb
          have hd1 := drew_gb wr (some sb)
          have hS0 : S4 ⟨tb, 1, none⟩ ⟨gB, c, none⟩ ⟨bc, c, none⟩ ⟨sb, 0, none⟩ (.slice (some ⟨gB, 0, none⟩) q q) (.slice (some ⟨bc, 0, none⟩) q cc) (.string (Z c c)) (.int .i64 k.1) wr.drew := ⟨t1, r0, r1, s0⟩
          have hTE := HTE.out
          have ntb : some tb ≠ some sb := by simp; omega
          have ngb : some gB ≠ some sb := by simp; omega
          have nbc : some bc ≠ some sb := by simp; omega
          clear hTE
          go_wp2_with fail
          refine region_heldK (S4 ⟨tb, 1, none⟩ ⟨gB, c, none⟩ ⟨bc, c, none⟩ ⟨sb, 0, none⟩ (.slice (some ⟨gB, 0, none⟩) q q) (.slice (some ⟨bc, 0, none⟩) q cc) (.string (Z c c)) (.int .i64 k.1)) 26 (by kernel_rfl) ?_
          refine AnyK.take (i := 0) (v := ?vb0) rfl (by kernel_rfl) (by kernel_rfl) (by kernel_rfl) (by kernel_rfl) (by kernel_rfl) (fun _ _ _ h => h) hS0 (Or.inl ⟨by rfl, ?hyb0⟩) ?restb0
          case hyb0 => rintro wk ⟨s1, s2, s3, s4⟩; go_simp; try with_reducible rfl
          try simp only [Act.put, List.setIfInBounds_toArray, List.set_cons_zero, List.set_cons_succ]
          refine AnyK.take (i := 1) (v := ?vb1) rfl (by kernel_rfl) (by kernel_rfl) (by kernel_rfl) (by kernel_rfl) (by kernel_rfl) (fun _ _ _ h => h) hS0 (Or.inl ⟨by rfl, ?hyb1⟩) ?restb1
          case hyb1 => rintro wk ⟨s1, s2, s3, s4⟩; go_simp; try with_reducible rfl
          try simp only [Act.put, List.setIfInBounds_toArray, List.set_cons_zero, List.set_cons_succ]
          refine AnyK.take (i := 2) (v := ?vb2) rfl (by kernel_rfl) (by kernel_rfl) (by kernel_rfl) (by kernel_rfl) (by kernel_rfl) (fun _ _ _ h => h) hS0 (Or.inl ⟨by rfl, ?hyb2⟩) ?restb2
          case hyb2 => rintro wk ⟨s1, s2, s3, s4⟩; go_simp; try with_reducible rfl
          try simp only [Act.put, List.setIfInBounds_toArray, List.set_cons_zero, List.set_cons_succ]
          refine AnyK.take (i := 3) (v := ?vb3) rfl (by kernel_rfl) (by kernel_rfl) (by kernel_rfl) (by kernel_rfl) (by kernel_rfl) (fun _ _ _ h => h) hS0 (Or.inl ⟨by rfl, ?hyb3⟩) ?restb3
          case hyb3 => rintro wk ⟨s1, s2, s3, s4⟩; go_simp; try with_reducible rfl
          try simp only [Act.put, List.setIfInBounds_toArray, List.set_cons_zero, List.set_cons_succ]
          refine AnyK.take (i := 4) (v := ?vb4) rfl (by kernel_rfl) (by kernel_rfl) (by kernel_rfl) (by kernel_rfl) (by kernel_rfl) (fun _ _ _ h => h) hS0 (Or.inl ⟨by rfl, ?hyb4⟩) ?restb4
          case hyb4 => rintro wk ⟨s1, s2, s3, s4⟩; go_simp; try with_reducible rfl
          try simp only [Act.put, List.setIfInBounds_toArray, List.set_cons_zero, List.set_cons_succ]
          refine AnyK.take (i := 5) (v := ?vb5) rfl (by kernel_rfl) (by kernel_rfl) (by kernel_rfl) (by kernel_rfl) (by kernel_rfl) (fun _ _ _ h => h) hS0 (Or.inl ⟨by rfl, ?hyb5⟩) ?restb5
          case hyb5 => rintro wk ⟨s1, s2, s3, s4⟩; go_simp; try with_reducible rfl
          try simp only [Act.put, List.setIfInBounds_toArray, List.set_cons_zero, List.set_cons_succ]
          refine AnyK.take (i := 6) (v := ?vb6) rfl (by kernel_rfl) (by kernel_rfl) (by kernel_rfl) (by kernel_rfl) (by kernel_rfl) (fun _ _ _ h => h) hS0 (Or.inl ⟨by rfl, ?hyb6⟩) ?restb6
          case hyb6 => rintro wk ⟨s1, s2, s3, s4⟩; go_simp; try with_reducible rfl
          try simp only [Act.put, List.setIfInBounds_toArray, List.set_cons_zero, List.set_cons_succ]
          refine AnyK.take (i := 7) (v := ?vb7) rfl (by kernel_rfl) (by kernel_rfl) (by kernel_rfl) (by kernel_rfl) (by kernel_rfl) (fun _ _ _ h => h) hS0 (Or.inl ⟨by rfl, ?hyb7⟩) ?restb7
          case hyb7 => rintro wk ⟨s1, s2, s3, s4⟩; go_simp; try with_reducible rfl
          try simp only [Act.put, List.setIfInBounds_toArray, List.set_cons_zero, List.set_cons_succ]
          refine AnyK.take (i := 8) (v := ?vb8) rfl (by kernel_rfl) (by kernel_rfl) (by kernel_rfl) (by kernel_rfl) (by kernel_rfl) (fun _ _ _ h => h) hS0 (Or.inl ⟨by rfl, ?hyb8⟩) ?restb8
          case hyb8 => rintro wk ⟨s1, s2, s3, s4⟩; go_simp; try with_reducible rfl
          try simp only [Act.put, List.setIfInBounds_toArray, List.set_cons_zero, List.set_cons_succ]
          refine AnyK.take (i := 9) (v := ?vb9) rfl (by kernel_rfl) (by kernel_rfl) (by kernel_rfl) (by kernel_rfl) (by kernel_rfl) (fun _ _ _ h => h) hS0 (Or.inl ⟨by rfl, ?hyb9⟩) ?restb9
          case hyb9 => rintro wk ⟨s1, s2, s3, s4⟩; go_simp; try with_reducible rfl
          try simp only [Act.put, List.setIfInBounds_toArray, List.set_cons_zero, List.set_cons_succ]
          refine AnyK.take (i := 10) (v := ?vb10) rfl (by kernel_rfl) (by kernel_rfl) (by kernel_rfl) (by kernel_rfl) (by kernel_rfl) (fun _ _ _ h => h) hS0 (Or.inl ⟨by rfl, ?hyb10⟩) ?restb10
          case hyb10 => rintro wk ⟨s1, s2, s3, s4⟩; go_simp; try with_reducible rfl
          try simp only [Act.put, List.setIfInBounds_toArray, List.set_cons_zero, List.set_cons_succ]
          refine AnyK.take (i := 11) (v := ?vb11) rfl (by kernel_rfl) (by kernel_rfl) (by kernel_rfl) (by kernel_rfl) (by kernel_rfl) (fun _ _ _ h => h) hS0 (Or.inl ⟨by rfl, ?hyb11⟩) ?restb11
          case hyb11 => rintro wk ⟨s1, s2, s3, s4⟩; go_simp; try with_reducible rfl
          try simp only [Act.put, List.setIfInBounds_toArray, List.set_cons_zero, List.set_cons_succ]
          refine AnyK.take (i := 12) (v := ?vb12) rfl (by kernel_rfl) (by kernel_rfl) (by kernel_rfl) (by kernel_rfl) (by kernel_rfl) (fun _ _ _ h => h) hS0 (Or.inl ⟨by rfl, ?hyb12⟩) ?restb12
          case hyb12 => rintro wk ⟨s1, s2, s3, s4⟩; go_simp; try with_reducible rfl
          try simp only [Act.put, List.setIfInBounds_toArray, List.set_cons_zero, List.set_cons_succ]
          refine AnyK.take (i := 13) (v := ?vb13) rfl (by kernel_rfl) (by kernel_rfl) (by kernel_rfl) (by kernel_rfl) (by kernel_rfl) (fun _ _ _ h => h) hS0 (Or.inl ⟨by rfl, ?hyb13⟩) ?restb13
          case hyb13 => rintro wk ⟨s1, s2, s3, s4⟩; go_simp; try with_reducible rfl
          try simp only [Act.put, List.setIfInBounds_toArray, List.set_cons_zero, List.set_cons_succ]
          refine AnyK.take (i := 14) (v := ?vb14) rfl (by kernel_rfl) (by kernel_rfl) (by kernel_rfl) (by kernel_rfl) (by kernel_rfl) (fun _ _ _ h => h) hS0 (Or.inl ⟨by rfl, ?hyb14⟩) ?restb14
          case hyb14 => rintro wk ⟨s1, s2, s3, s4⟩; go_simp; try with_reducible rfl
          try simp only [Act.put, List.setIfInBounds_toArray, List.set_cons_zero, List.set_cons_succ]
          refine AnyK.take (i := 15) (v := ?vb15) rfl (by kernel_rfl) (by kernel_rfl) (by kernel_rfl) (by kernel_rfl) (by kernel_rfl) (fun _ _ _ h => h) hS0 (Or.inl ⟨by rfl, ?hyb15⟩) ?restb15
          case hyb15 => rintro wk ⟨s1, s2, s3, s4⟩; go_simp; try with_reducible rfl
          try simp only [Act.put, List.setIfInBounds_toArray, List.set_cons_zero, List.set_cons_succ]
          refine AnyK.take (i := 16) (v := ?vb16) rfl (by kernel_rfl) (by kernel_rfl) (by kernel_rfl) (by kernel_rfl) (by kernel_rfl) (fun _ _ _ h => h) hS0 (Or.inl ⟨by rfl, ?hyb16⟩) ?restb16
          case hyb16 => rintro wk ⟨s1, s2, s3, s4⟩; go_simp; try with_reducible rfl
          try simp only [Act.put, List.setIfInBounds_toArray, List.set_cons_zero, List.set_cons_succ]
          refine AnyK.take (i := 17) (v := ?vb17) rfl (by kernel_rfl) (by kernel_rfl) (by kernel_rfl) (by kernel_rfl) (by kernel_rfl) (fun _ _ _ h => h) hS0 (Or.inl ⟨by rfl, ?hyb17⟩) ?restb17
          case hyb17 => rintro wk ⟨s1, s2, s3, s4⟩; go_simp; try with_reducible rfl
          try simp only [Act.put, List.setIfInBounds_toArray, List.set_cons_zero, List.set_cons_succ]
          refine AnyK.take (i := 18) (v := ?vb18) rfl (by kernel_rfl) (by kernel_rfl) (by kernel_rfl) (by kernel_rfl) (by kernel_rfl) (fun _ _ _ h => h) hS0 (Or.inl ⟨by rfl, ?hyb18⟩) ?restb18
          case hyb18 => rintro wk ⟨s1, s2, s3, s4⟩; go_simp; try with_reducible rfl
          try simp only [Act.put, List.setIfInBounds_toArray, List.set_cons_zero, List.set_cons_succ]
          refine AnyK.take (i := 19) (v := ?vb19) rfl (by kernel_rfl) (by kernel_rfl) (by kernel_rfl) (by kernel_rfl) (by kernel_rfl) (fun _ _ _ h => h) hS0 (Or.inl ⟨by rfl, ?hyb19⟩) ?restb19
          case hyb19 => rintro wk ⟨s1, s2, s3, s4⟩; go_simp; try with_reducible rfl
          try simp only [Act.put, List.setIfInBounds_toArray, List.set_cons_zero, List.set_cons_succ]
          refine AnyK.take (i := 20) (v := ?vb20) rfl (by kernel_rfl) (by kernel_rfl) (by kernel_rfl) (by kernel_rfl) (by kernel_rfl) (fun _ _ _ h => h) hS0 (Or.inl ⟨by rfl, ?hyb20⟩) ?restb20
          case hyb20 => rintro wk ⟨s1, s2, s3, s4⟩; go_simp; try with_reducible rfl
          try simp only [Act.put, List.setIfInBounds_toArray, List.set_cons_zero, List.set_cons_succ]
          refine AnyK.take (i := 21) (v := ?vb21) rfl (by kernel_rfl) (by kernel_rfl) (by kernel_rfl) (by kernel_rfl) (by kernel_rfl) (fun _ _ _ h => h) hS0 (Or.inl ⟨by rfl, ?hyb21⟩) ?restb21
          case hyb21 => rintro wk ⟨s1, s2, s3, s4⟩; go_simp; try with_reducible rfl
          try simp only [Act.put, List.setIfInBounds_toArray, List.set_cons_zero, List.set_cons_succ]
          refine AnyK.take (i := 22) (v := ?vb22) rfl (by kernel_rfl) (by kernel_rfl) (by kernel_rfl) (by kernel_rfl) (by kernel_rfl) (fun _ _ _ h => h) hS0 (Or.inl ⟨by rfl, ?hyb22⟩) ?restb22
          case hyb22 => rintro wk ⟨s1, s2, s3, s4⟩; go_simp; try with_reducible rfl
          try simp only [Act.put, List.setIfInBounds_toArray, List.set_cons_zero, List.set_cons_succ]
          refine AnyK.one (i := 23) rfl (by kernel_rfl) (by rfl) (fun K hK => ?_)
          go_simp
          refine (semione_any k.1 _).mono ?_
          rintro r w3 ⟨rfl, hb3⟩
          have hn3 := gb_trans hd1 (gb_below hb3 (some sb))
          have hs3 : SumB w3 sb k.1 e3 := HT.out.sum.drew.kept hb3
          have hS3 : S4 ⟨tb, 1, none⟩ ⟨gB, c, none⟩ ⟨bc, c, none⟩ ⟨sb, 0, none⟩ (.slice (some ⟨gB, 0, none⟩) q q) (.slice (some ⟨bc, 0, none⟩) q cc) (.string (Z c c)) (.int .i64 k.1) w3 := ⟨hn3.cell t1 ntb, hn3.cell r0 ngb, hn3.cell r1 nbc, hs3.c0⟩
          refine hK.out _ _ (.inr hS3) ?_
          clear hK K
          try simp only [Act.put, List.setIfInBounds_toArray, List.set_cons_zero, List.set_cons_succ]
          refine AnyK.one (i := 24) rfl (by kernel_rfl) (by rfl) (fun K hK => ?_)
          go_simp
          have hxc : Is k e3 (Z c c) (CSR.elims M q c c) := by have := HXX.out c c hlt hlt; rwa [if_neg (by omega)] at this
          refine (cplus_is hxc (Is.one k e3) HEE.out (fun f => (HF.out f).last c hlt) (HTBB.out.kept hn3 (by intro q hq; cases hq; exact hB) (by have := HT.out.sum.lt; omega)).tab hs3).mono ?_
          rintro r w4 ⟨u4, e4, rfl, hu4, he4, hm4, hs4, hg4⟩
          have hn4 := gb_trans hn3 hg4
          have rf4 := (hn4.frozen_far ⟨bc, c, none⟩ hbl2 nbc).trans rf
          have rc4 := hn4.cell r1 nbc
          have hS4 : S4 ⟨tb, 1, none⟩ ⟨gB, c, none⟩ ⟨bc, c, none⟩ ⟨sb, 0, none⟩ (.slice (some ⟨gB, 0, none⟩) q q) (.slice (some ⟨bc, 0, none⟩) q cc) (.string (Z c c)) (.int .i64 k.1) w4 := ⟨hn4.cell t1 ntb, hn4.cell r0 ngb, rc4, hs4.c0⟩
          refine hK.out _ _ (.inr hS4) ?_
          clear hK K
          try simp only [Act.put, List.setIfInBounds_toArray, List.set_cons_zero, List.set_cons_succ]
          refine AnyK.take (i := 25) (v := ?vb25) rfl (by kernel_rfl) (by kernel_rfl) (by kernel_rfl) (by kernel_rfl) (by kernel_rfl) (fun _ _ _ h => h) hS4 (Or.inl ⟨by rfl, ?hyb25⟩) ?restb25
          case hyb25 => rintro wk ⟨s1, s2, s3, s4⟩; go_simp; try with_reducible rfl
          try simp only [Act.put, List.setIfInBounds_toArray, List.set_cons_zero, List.set_cons_succ]
          refine AnyK.one (i := 26) rfl (by kernel_rfl) (by rfl) (fun K hK => ?_)
          go_simp
          refine hK.out _ _ (.inl rfl) (AnyK.done (by kernel_rfl) ?_ _)
          clear hK K
          go_wp2_with fail
          go_roundw
          case rel =>
            have hwsz : gB ≤ wr.heap.size := by rw [HGB.out]; exact HG.out.size
            have hgr := ((Gr.refl gB (some sb) wr).more hn4 hwsz (fun _ e => .inl e)).set (p := ⟨bc, c, none⟩) (.inr hbB2) (.string u4)
            exact ⟨c + 1, e4, _, by omega, by go_num, (HT.out.kept hn4 hs4).stored hlt hlt HRB.out u4, HXX.out.next hm4 hu4, he4, fun h => HM.out (hm4 h),
              HTBB.out.gr hgr (by intro q hq; cases hq; exact hB) (by omega), HG.out.trans hgr⟩
          case measure => simp [intOf]; omega
        · have hcq' : c = q := by omega
          subst hcq'
          have hgt : ¬ ((c : Int) < (c : Int)) := by omega
          have t1 := HT.out.c1
          go_wp2_with fail
          go_ret
          exact ⟨_, e3, Z, rfl, HT.out.om.mt (by unfold maxLen; omega) (by intro q hq; cases hq; exact .inl hsl), HXX.out.done, HEE.out, fun h => HM2.out (HM.out h), HT.out.sum, Gr.gb (by have h := HG.out; rw [HGB.out] at h; exact h)⟩
end Go.Proofs.YtlmfppjphblemaaGreatDoor
