/- Parts of a proof: C5 RegF. -/
import Derived.Test.YtjekapjbigfkbaaGreatDoorJ15
import Derived.Deep.RegionHeld2
import Derived.OrdersIn
namespace Go.Proofs.YtjekapjbigfkbaaGreatDoor
open Go Go.RowKit Go.Deep
set_option maxRecDepth 100000
section
variable {P : Program} {ops : Array Oper} {Q : Exit → Act → World → Prop} {S : World → Prop} {s : Nat}
def AnyK (P : Program) (ops : Array Oper) (Q : Exit → Act → World → Prop) (S : World → Prop) (s : Nat) : Nat → Array Bool → Act → World → Prop
  | 0, listed, a, w => Region.ready .any ops listed = [] ∧ Q .normal a w
  | fuel + 1, listed, a, w => (Region.ready .any ops listed = [] → Q .normal a w) ∧
    ∀ i ∈ Region.ready .any ops listed, wpOp P ops Q i (fun a' w' => (i = s ∨ S w') ∧ AnyK P ops Q S s fuel (listed.setIfInBounds i true) a' w') a w
theorem AnyK.any : ∀ (fuel : Nat) (listed : Array Bool) (a : Act) (w : World), AnyK P ops Q S s fuel listed a w → wpAny P .any ops Q fuel listed a w
  | 0, _, _, _, h => h
  | fuel + 1, _, _, _, h => ⟨h.1, fun i hi => wpOp_mono (fun a' w' h' => AnyK.any fuel _ a' w' h'.2) (h.2 i hi)⟩
def waits (ops : Array Oper) : Nat → Nat → Nat → Bool
  | 0, _, _ => false
  | f + 1, s, i => match ops[s]? with
    | some o => o.after.any fun e => Region.binds .any e && (e.on == i || waits ops f e.on i)
    | none => false
def Closed (ops : Array Oper) (listed : Array Bool) : Prop := ∀ j o, listed.getD j false = true → ops[j]? = some o → ∀ e ∈ o.after, Region.binds .any e = true → listed.getD e.on false = true
def closedB (ops : Array Oper) (listed : Array Bool) : Bool := (List.range ops.size).all fun j => !listed.getD j false || match ops[j]? with
  | some o => o.after.all fun e => !Region.binds .any e || listed.getD e.on false
  | none => true
theorem closed_of {listed : Array Bool} (h : closedB ops listed = true) : Closed ops listed := fun j o hj ho e he hb => by
  have h1 := List.all_eq_true.1 h j (List.mem_range.2 (Array.getElem?_eq_some_iff.1 ho).1)
  rw [hj, ho] at h1
  simp only [Bool.not_true, Bool.false_or] at h1
  have h2 := Array.all_eq_true_iff_forall_mem.1 h1 e he
  rw [hb] at h2; simpa using h2
theorem Closed.set {listed : Array Bool} {j : Nat} (h : Closed ops listed) (hj : j ∈ Region.ready .any ops listed) : Closed ops (listed.setIfInBounds j true) := fun k o hk ho e he hb => by
  by_cases hjk : j = k
  · subst hjk
    obtain ⟨_, o', ho', hall⟩ := mem_ready.1 hj
    rw [ho] at ho'; cases ho'
    exact getD_set_true (hall e he hb)
  · rw [getD_set_ne false hjk] at hk
    exact getD_set_true (h k o hk ho e he hb)
theorem waits_listed {listed : Array Bool} (hc : Closed ops listed) {i : Nat} : ∀ (f s : Nat), waits ops f s i = true → (∀ o, ops[s]? = some o → ∀ e ∈ o.after, Region.binds .any e = true → listed.getD e.on false = true) → listed.getD i false = true := by
  intro f
  induction f with
  | zero => intro s h; simp [waits] at h
  | succ f ih =>
    intro s h hp
    unfold waits at h
    cases ho : ops[s]? with
    | none => rw [ho] at h; simp at h
    | some o =>
      rw [ho] at h
      obtain ⟨e, he, hb⟩ := Array.any_eq_true'.1 h
      simp only [Bool.and_eq_true, Bool.or_eq_true, beq_iff_eq] at hb
      have hl := hp o ho e he hb.1
      rcases hb.2 with h2 | h2
      · rw [← h2]; exact hl
      · exact ih e.on h2 (fun o' ho' e' he' hb' => hc e.on o' hl ho' e' he' hb')
theorem AnyK.first {i : Nat} {oi : Oper} {v : Value} (hi : ops[i]? = some oi) (hw : waits ops ops.size s i = true) (hsel : ∀ (j : Nat) (o : Oper) cs b, ops[j]? = some o → o.op ≠ .select cs b)
    (hQ : ∀ c a w, Q (.panic c) (a.put oi.dst v) w → Q (.panic c) a w) :
    ∀ (fuel : Nat) (listed : Array Bool) (a : Act) (w : World),
      (∀ j oj, ops[j]? = some oj → j ≠ i → listed.getD j true = false → (∀ e ∈ oj.after, Region.binds .any e = true → e.on ≠ i) → oi.apart ops oj = true) →
      i ∈ Region.ready .any ops listed → Closed ops listed → YieldsIf P ops S oi v a → S w →
      AnyK P ops Q S s fuel (listed.setIfInBounds i true) (a.put oi.dst v) w → AnyK P ops Q S s (fuel + 1) listed a w := by
  intro fuel
  induction fuel with
  | zero =>
    intro listed a w _ hr hcl hy hS H
    refine ⟨fun h => (by rw [h] at hr; cases hr), fun j hj => ?_⟩
    by_cases hji : j = i
    · subst hji; exact hy.wpOp hi hS ⟨.inr hS, H⟩
    · have := ready_mono hj hji
      rw [H.1] at this
      cases this
  | succ fuel ih =>
    intro listed a w hfree hr hcl hy hS H
    refine ⟨fun h => (by rw [h] at hr; cases hr), fun j hj => ?_⟩
    by_cases hji : j = i
    · subst hji; exact hy.wpOp hi hS ⟨.inr hS, H⟩
    · have h1 := H.2 j (ready_mono hj hji)
      obtain ⟨hjun, oj, hoj, hall⟩ := mem_ready.1 hj
      have hopen : listed.getD i false = false := by
        have h0 := (mem_ready.1 hr).1
        rcases Nat.lt_or_ge i listed.size with h' | h'
        · simp [h'] at h0 ⊢; exact h0
        · simp [Array.getElem?_eq_none h']
      have hnot : ∀ e ∈ oj.after, Region.binds .any e = true → e.on ≠ i := fun e he hb heq => by
        have h1 := hall e he hb
        rw [heq, hopen] at h1; cases h1
      have hjs : j ≠ s := fun e => by
        subst e
        have := waits_listed hcl _ _ hw (fun o' ho' e he hb => by rw [hoj] at ho'; cases ho'; exact hall e he hb)
        rw [hopen] at this; cases this
      have h2 := wpOp_putIf hoj (hfree j oj hoj hji hjun hnot) (fun cs b => hsel i oi cs b hi) (fun cs b => hsel j oj cs b hoj) hQ hy h1
      have hfree' : ∀ k ok, ops[k]? = some ok → k ≠ i → (listed.setIfInBounds j true).getD k true = false →
          (∀ e ∈ ok.after, Region.binds .any e = true → e.on ≠ i) → oi.apart ops ok = true := fun k ok hk hki hun hno => by
        refine hfree k ok hk hki ?_ hno
        by_cases hjk : j = k
        · subst hjk; exact hjun
        · rw [getD_set_ne true hjk] at hun; exact hun
      refine wpOp_mono (fun a' w' h3 => ?_) h2
      have hS' : S w' := h3.2.1.resolve_left hjs
      refine ⟨.inr hS', ih (listed.setIfInBounds j true) a' w' hfree' (ready_mono hr (Ne.symm hji)) (hcl.set hj) h3.1 hS' ?_⟩
      rw [Array.setIfInBounds_comm _ _ hji]
      exact h3.2.2
theorem AnyK.take {i : Nat} {oi : Oper} {v : Value} {fuel : Nat} {listed : Array Bool} {a : Act} {w : World} (hi : ops[i]? = some oi) (hw : waits ops ops.size s i = true) (hcl : closedB ops listed = true)
    (hs : Region.noSelect ops = true) (hf : Region.free .any ops listed i = true) (hr : (Region.ready .any ops listed).contains i = true)
    (hQ : ∀ c a w, Q (.panic c) (a.put oi.dst v) w → Q (.panic c) a w) (hS : S w) (hy : YieldsIf P ops S oi v a)
    (h : AnyK P ops Q S s fuel (listed.setIfInBounds i true) (a.put oi.dst v) w) : AnyK P ops Q S s (fuel + 1) listed a w :=
  AnyK.first hi hw (Region.noSelect_spec hs) hQ fuel listed a w (Region.free_spec hi hf) (by simpa using hr) (closed_of hcl) hy hS h
def tkB (ops : Array Oper) (s i : Nat) (listed : Array Bool) : Bool := waits ops ops.size s i && closedB ops listed && Region.noSelect ops && Region.free .any ops listed i && (Region.ready .any ops listed).contains i
theorem AnyK.tk {i : Nat} {oi : Oper} {v : Value} {fuel : Nat} {listed : Array Bool} {a : Act} {w : World} (hi : ops[i]? = some oi) (hb : tkB ops s i listed = true) (hS : S w) (hy : YieldsIf P ops S oi v a)
    (h : AnyK P ops Q S s fuel (listed.setIfInBounds i true) (a.put oi.dst v) w) (hQ : ∀ c a w, Q (.panic c) (a.put oi.dst v) w → Q (.panic c) a w := by exact fun _ _ _ h => h) : AnyK P ops Q S s (fuel + 1) listed a w := by
  unfold tkB at hb
  simp only [Bool.and_eq_true] at hb
  exact AnyK.take hi hb.1.1.1.1 hb.1.1.1.2 hb.1.1.2 hb.1.2 hb.2 hQ hS hy h
theorem AnyK.one {i : Nat} {o : Oper} {fuel : Nat} {listed : Array Bool} {a : Act} {w : World} (ho : ops[i]? = some o) (hr : Region.ready .any ops listed = [i]) (hwant : Region.wanted o (yielded ops a.tmps) = true)
    (h : ∀ K : Act → World → Prop, Shut (∀ a w, (i = s ∨ S w) → AnyK P ops Q S s fuel (listed.setIfInBounds i true) a w → K a w) → Oper.wp P o a w K Q) : AnyK P ops Q S s (fuel + 1) listed a w := by
  refine ⟨fun h0 => (by rw [hr] at h0; cases h0), fun j hj => ?_⟩
  rw [hr] at hj
  obtain rfl : j = i := by simpa using hj
  exact wpOp_step ho (fun K hK => by rw [if_pos hwant]; exact h K (fun a w hS hW => hK a w ⟨hS, hW⟩))
theorem AnyK.done {listed : Array Bool} {a : Act} {w : World} (hr : Region.ready .any ops listed = []) (h : Q .normal a w) : ∀ fuel, AnyK P ops Q S s fuel listed a w
  | 0 => ⟨hr, h⟩
  | _ + 1 => ⟨fun _ => h, by rw [hr]; simp⟩
theorem region_heldK (S : World → Prop) (s : Nat) {id : Nat} {a : Act} {w : World} (hm : P.follows .mixedOrders = true)
    (h : AnyK P ops Q S s ops.size (Array.replicate ops.size false) a w.drew) : (Code.region id ops true).wp P Q a w :=
  wp_region_any hm (AnyK.any _ _ _ _ h)
end
end Go.Proofs.YtjekapjbigfkbaaGreatDoor
namespace Go.Proofs.YtjekapjbigfkbaaGreatDoor
open Go Go.RowKit Go.Deep
set_option maxRecDepth 100000
set_option linter.unusedSimpArgs false
structure FitM {k : KK} (n : Nat) (M : Nat → Nat → RK k) : Prop where
  steps : ∀ p, p < n → FitE n p (CSR.elims M p)
  last : ∀ i, i < n → fitV (CSR.elims M n i i + CSR.one).1
def Diag {k : KK} (e n c : Nat) (Z : Nat → Nat → ByteArray) (N : Nat → Nat → RK k) : Prop := ∀ l j, l < n → j < n → Is k e (Z l j) (if l = j ∧ l < c then N l j + CSR.one else N l j)
theorem Diag.start {k : KK} {e n : Nat} {Z : Nat → Nat → ByteArray} {N : Nat → Nat → RK k} (h : MatIs e n Z N) : Diag e n 0 Z N := fun l j hl hj => by rw [if_neg (by omega)]; exact h l j hl hj
theorem Diag.next {k : KK} {e e' n c : Nat} {Z : Nat → Nat → ByteArray} {N : Nat → Nat → RK k} {u : ByteArray} (h : Diag e n c Z N) (he : e' = 0 → e = 0) (hu : Is k e' u (N c c + CSR.one)) : Diag e' n (c + 1) (fun l j => if l = c ∧ j = c then u else Z l j) N := fun l j hl hj => by
  by_cases h0 : l = c ∧ j = c
  · obtain ⟨rfl, rfl⟩ := h0
    rw [if_pos (by omega)]; simpa using hu
  · have := (h l j hl hj).mono he
    simp only [if_neg h0]
    by_cases h1 : l = j ∧ l < c
    · rw [if_pos h1] at this; rw [if_pos (by omega)]; exact this
    · rw [if_neg h1] at this; rw [if_neg (by omega)]; exact this
theorem Diag.done {k : KK} {e n : Nat} {Z : Nat → Nat → ByteArray} {M : Nat → Nat → RK k} (h : Diag e n n Z (CSR.elims M n)) : MatIs e n Z (CSR.starM M n) := fun l j hl hj => by
  have := h l j hl hj
  unfold CSR.starM CSR.eye
  by_cases h1 : l = j
  · rw [if_pos ⟨h1, hl⟩] at this; rw [if_pos h1]; exact this
  · rw [if_neg (fun h => h1 h.1)] at this; rw [if_neg h1, CSR.a0]; exact this
end Go.Proofs.YtjekapjbigfkbaaGreatDoor

namespace Go.Proofs.YtjekapjbigfkbaaGreatDoor
open Go Go.RowKit Go.Deep
set_option maxRecDepth 100000
set_option linter.unusedSimpArgs false
section
variable {F : Fence} {n : Nat} {P : Program} {ops : Array Oper} {Q : Exit → Act → World → Prop} {S : World → Prop} {s : Nat}
def YF (F : Fence) (P : Program) (ops : Array Oper) (S : World → Prop) (o : Oper) (v : Value) (a : Act) : Prop := YieldsIf P ops S o v a ∧ ∀ w f, o.about P w a.eval = some f → F.fn f
theorem YF.here {i : Nat} {o : Oper} {v : Value} {a : Act} (hro : F.round = none) (hi : ops[i]? = some o) (hy : YF F P ops S o v a) {K : Act → World → Prop} {w : World} (hS : S w) (h : K (a.put o.dst v) w) : wpOpIn F n P ops Q i K a w := by
  have hab : ∀ f, o.about P w a.eval = some f → F.fn f := fun f hf => hy.2 w f hf
  unfold wpOpIn
  simp only [hi]
  rcases hy.1 with ⟨hw, hv⟩ | ⟨hw, rfl⟩
  · rw [if_pos hw]
    unfold Oper.wpIn
    refine ⟨hab, ?_⟩
    rw [hro, Oper.semAt_none, hv w hS]; exact h
  · rw [if_neg (by rw [hw]; simp)]; exact ⟨hab, h⟩
theorem YF.past {o : Oper} {v : Value} {a a' : Act} (hy : YF F P ops S o v a) (he : execOp a'.eval o = execOp a.eval o) (hw : Region.wanted o (yielded ops a'.tmps) = Region.wanted o (yielded ops a.tmps)) (hb : ∀ w, o.about P w a'.eval = o.about P w a.eval) : YF F P ops S o v a' :=
  ⟨hy.1.of_same he hw, fun w f hf => hy.2 w f (by rw [← hb w]; exact hf)⟩
theorem YF.swap {j : Nat} {oi oj : Oper} {v : Value} (hro : F.round = none) (hj : ops[j]? = some oj) (hap : oi.apart ops oj = true) (hsi : ∀ cs b, oi.op ≠ .select cs b) (hsj : ∀ cs b, oj.op ≠ .select cs b)
    (hQ : ∀ c a w, Q (.panic c) (a.put oi.dst v) w → Q (.panic c) a w) {K : Act → World → Prop} {a : Act} {w : World} (hy : YF F P ops S oi v a) (h : wpOpIn F n P ops Q j K (a.put oi.dst v) w) :
    wpOpIn F n P ops Q j (fun a' w' => YF F P ops S oi v a' ∧ K (a'.put oi.dst v) w') a w := by
  obtain ⟨h1, h2, h3⟩ := Oper.apart_spec hap
  have kp : ∀ b : Act, YF F P ops S oi v b → ∀ u, YF F P ops S oi v (b.put oj.dst u) := fun b hb u => hb.past (execOp_put oi hsi b oj.dst u h3) (wanted_put oi b oj.dst u h3) (fun w => about_put oi w b oj.dst u h3)
  have kd : ∀ d, YF F P ops S oi v { a with defers := d :: a.defers } := fun d => hy.past rfl rfl (fun _ => rfl)
  have fin : ∀ (u : Value) (w' : World), K ((a.put oi.dst v).put oj.dst u) w' → YF F P ops S oi v (a.put oj.dst u) ∧ K ((a.put oj.dst u).put oi.dst v) w' := fun u w' hk => ⟨kp a hy u, by rw [← Act.put_comm a v u h2]; exact hk⟩
  unfold wpOpIn at h ⊢
  simp only [hj] at h ⊢
  rw [wanted_put oj a oi.dst v h1, about_put oj w a oi.dst v h1] at h
  by_cases hw : Region.wanted oj (yielded ops a.tmps) = true
  · rw [if_pos hw] at h ⊢
    unfold Oper.wpIn at h ⊢
    rw [about_put oj w a oi.dst v h1, hro, Oper.semAt_none, execOp_put oj hsj a oi.dst v h1] at h
    rw [hro, Oper.semAt_none]
    obtain ⟨ha, h⟩ := h
    refine ⟨ha, ?_⟩
    cases hr : (execOp a.eval oj).run P w with
    | ok x w' =>
      rw [hr] at h
      cases x with
      | value u => exact fin u w' h
      | skip => exact fin undef w' h
      | defer d =>
        refine ⟨kp _ (kd d) undef, ?_⟩
        rw [← Act.put_comm _ v undef h2, ← Act.put_defers]; exact h
      | enter f args =>
        refine ⟨h.1, CallsIn.mono h.2 fun e w'' he => ?_⟩
        cases e with
        | returned u => exact fin u w'' he
        | panicked c => exact hQ _ _ _ he
        | outgrown => exact he
      | row rr args => exact ⟨h.1, RowsIn.mono h.2 fun u w'' he => fin u w'' he⟩
      | round l f tmps assign body =>
        refine ⟨h.1, RoundIn.mono h.2 fun e w'' he => ?_⟩
        cases e with
        | returned u => exact fin u w'' he
        | panicked c => exact hQ _ _ _ he
        | outgrown => exact he
      | _ => exact h.elim
    | halt x w' =>
      rw [hr] at h
      cases x with
      | panic u => exact hQ _ _ _ h
      | _ => exact h.elim
  · rw [if_neg hw] at h ⊢
    exact ⟨h.1, fin undef w h.2⟩
def AnyF (F : Fence) (n : Nat) (P : Program) (ops : Array Oper) (Q : Exit → Act → World → Prop) (S : World → Prop) (s : Nat) : Nat → Array Bool → Act → World → Prop
  | 0, listed, a, w => Region.ready .any ops listed = [] ∧ Q .normal a w
  | fuel + 1, listed, a, w => (Region.ready .any ops listed = [] → Q .normal a w) ∧
    ∀ i ∈ Region.ready .any ops listed, wpOpIn F n P ops Q i (fun a' w' => (i = s ∨ listed.getD s false = true ∨ S w') ∧ AnyF F n P ops Q S s fuel (listed.setIfInBounds i true) a' w') a w
theorem AnyF.any : ∀ (fuel : Nat) (listed : Array Bool) (a : Act) (w : World), AnyF F n P ops Q S s fuel listed a w → wpAnyIn F n P .any ops Q fuel listed a w
  | 0, _, _, _, h => h
  | fuel + 1, _, _, _, h => ⟨h.1, fun i hi => wpOpIn_mono (fun a' w' h' => AnyF.any fuel _ a' w' h'.2) (h.2 i hi)⟩
theorem AnyF.first {i : Nat} {oi : Oper} {v : Value} (hro : F.round = none) (hi : ops[i]? = some oi) (hw : waits ops ops.size s i = true) (hsel : ∀ (j : Nat) (o : Oper) cs b, ops[j]? = some o → o.op ≠ .select cs b)
    (hQ : ∀ c a w, Q (.panic c) (a.put oi.dst v) w → Q (.panic c) a w) :
    ∀ (fuel : Nat) (listed : Array Bool) (a : Act) (w : World),
      (∀ j oj, ops[j]? = some oj → j ≠ i → listed.getD j true = false → (∀ e ∈ oj.after, Region.binds .any e = true → e.on ≠ i) → oi.apart ops oj = true) →
      i ∈ Region.ready .any ops listed → Closed ops listed → YF F P ops S oi v a → S w →
      AnyF F n P ops Q S s fuel (listed.setIfInBounds i true) (a.put oi.dst v) w → AnyF F n P ops Q S s (fuel + 1) listed a w := by
  intro fuel
  induction fuel with
  | zero =>
    intro listed a w _ hr hcl hy hS H
    refine ⟨fun h => (by rw [h] at hr; cases hr), fun j hj => ?_⟩
    by_cases hji : j = i
    · subst hji; exact hy.here hro hi hS ⟨.inr (.inr hS), H⟩
    · have := ready_mono hj hji
      rw [H.1] at this
      cases this
  | succ fuel ih =>
    intro listed a w hfree hr hcl hy hS H
    refine ⟨fun h => (by rw [h] at hr; cases hr), fun j hj => ?_⟩
    by_cases hji : j = i
    · subst hji; exact hy.here hro hi hS ⟨.inr (.inr hS), H⟩
    · have h1 := H.2 j (ready_mono hj hji)
      obtain ⟨hjun, oj, hoj, hall⟩ := mem_ready.1 hj
      have hopen : listed.getD i false = false := by
        have h0 := (mem_ready.1 hr).1
        rcases Nat.lt_or_ge i listed.size with h' | h'
        · simp [h'] at h0 ⊢; exact h0
        · simp [Array.getElem?_eq_none h']
      have hnot : ∀ e ∈ oj.after, Region.binds .any e = true → e.on ≠ i := fun e he hb heq => by
        have h1 := hall e he hb
        rw [heq, hopen] at h1; cases h1
      have hjs : j ≠ s := fun e => by
        subst e
        have := waits_listed hcl _ _ hw (fun o' ho' e he hb => by rw [hoj] at ho'; cases ho'; exact hall e he hb)
        rw [hopen] at this; cases this
      have h2 := YF.swap hro hoj (hfree j oj hoj hji hjun hnot) (fun cs b => hsel i oi cs b hi) (fun cs b => hsel j oj cs b hoj) hQ hy h1
      have hfree' : ∀ k ok, ops[k]? = some ok → k ≠ i → (listed.setIfInBounds j true).getD k true = false →
          (∀ e ∈ ok.after, Region.binds .any e = true → e.on ≠ i) → oi.apart ops ok = true := fun k ok hk hki hun hno => by
        refine hfree k ok hk hki ?_ hno
        by_cases hjk : j = k
        · subst hjk; exact hjun
        · rw [getD_set_ne true hjk] at hun; exact hun
      refine wpOpIn_mono (fun a' w' h3 => ?_) h2
      have his : i ≠ s := fun e0 => by
        subst e0
        obtain ⟨_, oi', hoi', halli⟩ := mem_ready.1 hr
        have := waits_listed hcl _ _ hw (fun o' ho' e he hb => by rw [hoi'] at ho'; cases ho'; exact halli e he hb)
        rw [hopen] at this; cases this
      have hns : (listed.setIfInBounds i true).getD s false ≠ true := fun e => by
        rw [getD_set_ne false his] at e
        have := waits_listed hcl _ _ hw (fun o' ho' e' he hb => hcl s o' e ho' e' he hb)
        rw [hopen] at this; cases this
      have hS' : S w' := (h3.2.1.resolve_left hjs).resolve_left hns
      refine ⟨.inr (.inr hS'), ih (listed.setIfInBounds j true) a' w' hfree' (ready_mono hr (Ne.symm hji)) (hcl.set hj) h3.1 hS' ?_⟩
      rw [Array.setIfInBounds_comm _ _ hji]
      exact h3.2.2
theorem AnyF.tk {i : Nat} {oi : Oper} {v : Value} {fuel : Nat} {listed : Array Bool} {a : Act} {w : World} (hro : F.round = none) (hi : ops[i]? = some oi) (hb : tkB ops s i listed = true) (hS : S w) (hy : YieldsIf P ops S oi v a) (hab : ∀ w f, oi.about P w a.eval = some f → F.fn f)
    (h : AnyF F n P ops Q S s fuel (listed.setIfInBounds i true) (a.put oi.dst v) w) (hQ : ∀ c a w, Q (.panic c) (a.put oi.dst v) w → Q (.panic c) a w := by exact fun _ _ _ h => h) : AnyF F n P ops Q S s (fuel + 1) listed a w := by
  unfold tkB at hb
  simp only [Bool.and_eq_true] at hb
  exact AnyF.first hro hi hb.1.1.1.1 (Region.noSelect_spec hb.1.1.2) hQ fuel listed a w (Region.free_spec hi hb.1.2) (by simpa using hb.2) (closed_of hb.1.1.1.2) ⟨hy, hab⟩ hS h
theorem AnyF.one {i : Nat} {o : Oper} {fuel : Nat} {listed : Array Bool} {a : Act} {w : World} (ho : ops[i]? = some o) (hr : Region.ready .any ops listed = [i]) (hwant : Region.wanted o (yielded ops a.tmps) = true)
    (h : ∀ K : Act → World → Prop, Shut (∀ a w, (i = s ∨ listed.getD s false = true ∨ S w) → AnyF F n P ops Q S s fuel (listed.setIfInBounds i true) a w → K a w) → Oper.wpIn F n P o a w K Q) : AnyF F n P ops Q S s (fuel + 1) listed a w := by
  refine ⟨fun h0 => (by rw [hr] at h0; cases h0), fun j hj => ?_⟩
  rw [hr] at hj
  obtain rfl : j = i := by simpa using hj
  exact wpOpIn_step ho (fun K hK => by rw [if_pos hwant]; exact h K (fun a w hS hW => hK a w ⟨hS, hW⟩))
theorem AnyF.pass {i : Nat} {o : Oper} {fuel : Nat} {listed : Array Bool} {a : Act} {w : World} (ho : ops[i]? = some o) (hr : Region.ready .any ops listed = [i]) (hwant : Region.wanted o (yielded ops a.tmps) = false)
    (hab : ∀ f, o.about P w a.eval = some f → F.fn f) (hS : i = s ∨ listed.getD s false = true ∨ S w) (h : AnyF F n P ops Q S s fuel (listed.setIfInBounds i true) (a.put o.dst undef) w) : AnyF F n P ops Q S s (fuel + 1) listed a w := by
  refine ⟨fun h0 => (by rw [hr] at h0; cases h0), fun j hj => ?_⟩
  rw [hr] at hj
  obtain rfl : j = i := by simpa using hj
  unfold wpOpIn
  simp only [ho]
  rw [if_neg (by rw [hwant]; simp)]
  exact ⟨hab, hS, h⟩
theorem AnyF.done {listed : Array Bool} {a : Act} {w : World} (hr : Region.ready .any ops listed = []) (h : Q .normal a w) : ∀ fuel, AnyF F n P ops Q S s fuel listed a w
  | 0 => ⟨hr, h⟩
  | _ + 1 => ⟨fun _ => h, by rw [hr]; simp⟩
theorem region_heldF (S : World → Prop) (s : Nat) {id : Nat} {a : Act} {w : World} (hm : P.follows .mixedOrders = true)
    (h : AnyF F n P ops Q S s ops.size (Array.replicate ops.size false) a w.drew) : (Code.region id ops true).wpIn F n P Q a w :=
  wpIn_region_any hm (AnyF.any _ _ _ _ h)
end
end Go.Proofs.YtjekapjbigfkbaaGreatDoor
