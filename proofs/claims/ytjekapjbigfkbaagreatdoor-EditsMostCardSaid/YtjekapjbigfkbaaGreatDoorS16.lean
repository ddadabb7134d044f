/- Parts of a proof: RegF C7. -/
import Derived.Test.YtjekapjbigfkbaaGreatDoorS15
import Derived.OrdersIn
import Derived.Deep.QuietTactic
import Derived.BigQuiet
namespace Go.Proofs.YtjekapjbigfkbaaGreatDoor
open Go Go.RowKit Go.Deep
set_option maxRecDepth 100000
set_option linter.unusedSimpArgs false
section
variable {F : Fence} {n : Nat} {P : Program} {ops : Array Oper} {Q : Exit → Act → World → Prop} {S : World → Prop} {s : Nat}
def YF (F : Fence) (P : Program) (ops : Array Oper) (S : World → Prop) (o : Oper) (v : Value) (a : Act) : Prop := YieldsIf P ops S o v a ∧ ∀ w f, o.about P w a.eval = some f → F.fn f
theorem YF.here {i : Nat} {o : Oper} {v : Value} {a : Act} (hro : F.round = none) (hi : ops[i]? = some o) (hy : YF F P ops S o v a) {K : Act → World → Prop} {w : World} (hS : S w) (h : K (a.put o.dst v) w) : wpOpIn F n P ops Q i K a w := by
  have hab : ∀ f, o.about P w a.eval = some f → F.fn f := fun f hf => hy.2 w f hf
  unfold wpOpIn
  simp only [hi]
  rcases hy.1 with ⟨hw, hv⟩ | ⟨hw, rfl⟩
  · rw [if_pos hw]
    unfold Oper.wpIn
    refine ⟨hab, ?_⟩
    rw [hro, Oper.semAt_none, hv w hS]; exact h
  · rw [if_neg (by rw [hw]; simp)]; exact ⟨hab, h⟩
theorem YF.past {o : Oper} {v : Value} {a a' : Act} (hy : YF F P ops S o v a) (he : execOp a'.eval o = execOp a.eval o) (hw : Region.wanted o (yielded ops a'.tmps) = Region.wanted o (yielded ops a.tmps)) (hb : ∀ w, o.about P w a'.eval = o.about P w a.eval) : YF F P ops S o v a' :=
  ⟨hy.1.of_same he hw, fun w f hf => hy.2 w f (by rw [← hb w]; exact hf)⟩
theorem YF.swap {j : Nat} {oi oj : Oper} {v : Value} (hro : F.round = none) (hj : ops[j]? = some oj) (hap : oi.apart ops oj = true) (hsi : ∀ cs b, oi.op ≠ .select cs b) (hsj : ∀ cs b, oj.op ≠ .select cs b)
    (hQ : ∀ c a w, Q (.panic c) (a.put oi.dst v) w → Q (.panic c) a w) {K : Act → World → Prop} {a : Act} {w : World} (hy : YF F P ops S oi v a) (h : wpOpIn F n P ops Q j K (a.put oi.dst v) w) :
    wpOpIn F n P ops Q j (fun a' w' => YF F P ops S oi v a' ∧ K (a'.put oi.dst v) w') a w := by
  obtain ⟨h1, h2, h3⟩ := Oper.apart_spec hap
  have kp : ∀ b : Act, YF F P ops S oi v b → ∀ u, YF F P ops S oi v (b.put oj.dst u) := fun b hb u => hb.past (execOp_put oi hsi b oj.dst u h3) (wanted_put oi b oj.dst u h3) (fun w => about_put oi w b oj.dst u h3)
  have kd : ∀ d, YF F P ops S oi v { a with defers := d :: a.defers } := fun d => hy.past rfl rfl (fun _ => rfl)
  have fin : ∀ (u : Value) (w' : World), K ((a.put oi.dst v).put oj.dst u) w' → YF F P ops S oi v (a.put oj.dst u) ∧ K ((a.put oj.dst u).put oi.dst v) w' := fun u w' hk => ⟨kp a hy u, by rw [← Act.put_comm a v u h2]; exact hk⟩
  unfold wpOpIn at h ⊢
  simp only [hj] at h ⊢
  rw [wanted_put oj a oi.dst v h1, about_put oj w a oi.dst v h1] at h
  by_cases hw : Region.wanted oj (yielded ops a.tmps) = true
  · rw [if_pos hw] at h ⊢
    unfold Oper.wpIn at h ⊢
    rw [about_put oj w a oi.dst v h1, hro, Oper.semAt_none, execOp_put oj hsj a oi.dst v h1] at h
    rw [hro, Oper.semAt_none]
    obtain ⟨ha, h⟩ := h
    refine ⟨ha, ?_⟩
    cases hr : (execOp a.eval oj).run P w with
    | ok x w' =>
      rw [hr] at h
      cases x with
      | value u => exact fin u w' h
      | skip => exact fin undef w' h
      | defer d =>
        refine ⟨kp _ (kd d) undef, ?_⟩
        rw [← Act.put_comm _ v undef h2, ← Act.put_defers]; exact h
      | enter f args =>
        refine ⟨h.1, CallsIn.mono h.2 fun e w'' he => ?_⟩
        cases e with
        | returned u => exact fin u w'' he
        | panicked c => exact hQ _ _ _ he
        | outgrown => exact he
      | row rr args => exact ⟨h.1, RowsIn.mono h.2 fun u w'' he => fin u w'' he⟩
      | round l f tmps assign body =>
        refine ⟨h.1, RoundIn.mono h.2 fun e w'' he => ?_⟩
        cases e with
        | returned u => exact fin u w'' he
        | panicked c => exact hQ _ _ _ he
        | outgrown => exact he
      | _ => exact h.elim
    | halt x w' =>
      rw [hr] at h
      cases x with
      | panic u => exact hQ _ _ _ h
      | _ => exact h.elim
  · rw [if_neg hw] at h ⊢
    exact ⟨h.1, fin undef w h.2⟩
def AnyF (F : Fence) (n : Nat) (P : Program) (ops : Array Oper) (Q : Exit → Act → World → Prop) (S : World → Prop) (s : Nat) : Nat → Array Bool → Act → World → Prop
  | 0, listed, a, w => Region.ready .any ops listed = [] ∧ Q .normal a w
  | fuel + 1, listed, a, w => (Region.ready .any ops listed = [] → Q .normal a w) ∧
    ∀ i ∈ Region.ready .any ops listed, wpOpIn F n P ops Q i (fun a' w' => (i = s ∨ listed.getD s false = true ∨ S w') ∧ AnyF F n P ops Q S s fuel (listed.setIfInBounds i true) a' w') a w
theorem AnyF.any : ∀ (fuel : Nat) (listed : Array Bool) (a : Act) (w : World), AnyF F n P ops Q S s fuel listed a w → wpAnyIn F n P .any ops Q fuel listed a w
  | 0, _, _, _, h => h
  | fuel + 1, _, _, _, h => ⟨h.1, fun i hi => wpOpIn_mono (fun a' w' h' => AnyF.any fuel _ a' w' h'.2) (h.2 i hi)⟩
theorem AnyF.first {i : Nat} {oi : Oper} {v : Value} (hro : F.round = none) (hi : ops[i]? = some oi) (hw : waits ops ops.size s i = true) (hsel : ∀ (j : Nat) (o : Oper) cs b, ops[j]? = some o → o.op ≠ .select cs b)
    (hQ : ∀ c a w, Q (.panic c) (a.put oi.dst v) w → Q (.panic c) a w) :
    ∀ (fuel : Nat) (listed : Array Bool) (a : Act) (w : World),
      (∀ j oj, ops[j]? = some oj → j ≠ i → listed.getD j true = false → (∀ e ∈ oj.after, Region.binds .any e = true → e.on ≠ i) → oi.apart ops oj = true) →
      i ∈ Region.ready .any ops listed → Closed ops listed → YF F P ops S oi v a → S w →
      AnyF F n P ops Q S s fuel (listed.setIfInBounds i true) (a.put oi.dst v) w → AnyF F n P ops Q S s (fuel + 1) listed a w := by
  intro fuel
  induction fuel with
  | zero =>
    intro listed a w _ hr hcl hy hS H
    refine ⟨fun h => (by rw [h] at hr; cases hr), fun j hj => ?_⟩
    by_cases hji : j = i
    · subst hji; exact hy.here hro hi hS ⟨.inr (.inr hS), H⟩
    · have := ready_mono hj hji
      rw [H.1] at this
      cases this
  | succ fuel ih =>
    intro listed a w hfree hr hcl hy hS H
    refine ⟨fun h => (by rw [h] at hr; cases hr), fun j hj => ?_⟩
    by_cases hji : j = i
    · subst hji; exact hy.here hro hi hS ⟨.inr (.inr hS), H⟩
    · have h1 := H.2 j (ready_mono hj hji)
      obtain ⟨hjun, oj, hoj, hall⟩ := mem_ready.1 hj
      have hopen : listed.getD i false = false := by
        have h0 := (mem_ready.1 hr).1
        rcases Nat.lt_or_ge i listed.size with h' | h'
        · simp [h'] at h0 ⊢; exact h0
        · simp [Array.getElem?_eq_none h']
      have hnot : ∀ e ∈ oj.after, Region.binds .any e = true → e.on ≠ i := fun e he hb heq => by
        have h1 := hall e he hb
        rw [heq, hopen] at h1; cases h1
      have hjs : j ≠ s := fun e => by
        subst e
        have := waits_listed hcl _ _ hw (fun o' ho' e he hb => by rw [hoj] at ho'; cases ho'; exact hall e he hb)
        rw [hopen] at this; cases this
      have h2 := YF.swap hro hoj (hfree j oj hoj hji hjun hnot) (fun cs b => hsel i oi cs b hi) (fun cs b => hsel j oj cs b hoj) hQ hy h1
      have hfree' : ∀ k ok, ops[k]? = some ok → k ≠ i → (listed.setIfInBounds j true).getD k true = false →
          (∀ e ∈ ok.after, Region.binds .any e = true → e.on ≠ i) → oi.apart ops ok = true := fun k ok hk hki hun hno => by
        refine hfree k ok hk hki ?_ hno
        by_cases hjk : j = k
        · subst hjk; exact hjun
        · rw [getD_set_ne true hjk] at hun; exact hun
      refine wpOpIn_mono (fun a' w' h3 => ?_) h2
      have his : i ≠ s := fun e0 => by
        subst e0
        obtain ⟨_, oi', hoi', halli⟩ := mem_ready.1 hr
        have := waits_listed hcl _ _ hw (fun o' ho' e he hb => by rw [hoi'] at ho'; cases ho'; exact halli e he hb)
        rw [hopen] at this; cases this
      have hns : (listed.setIfInBounds i true).getD s false ≠ true := fun e => by
        rw [getD_set_ne false his] at e
        have := waits_listed hcl _ _ hw (fun o' ho' e' he hb => hcl s o' e ho' e' he hb)
        rw [hopen] at this; cases this
      have hS' : S w' := (h3.2.1.resolve_left hjs).resolve_left hns
      refine ⟨.inr (.inr hS'), ih (listed.setIfInBounds j true) a' w' hfree' (ready_mono hr (Ne.symm hji)) (hcl.set hj) h3.1 hS' ?_⟩
      rw [Array.setIfInBounds_comm _ _ hji]
      exact h3.2.2
theorem AnyF.tk {i : Nat} {oi : Oper} {v : Value} {fuel : Nat} {listed : Array Bool} {a : Act} {w : World} (hro : F.round = none) (hi : ops[i]? = some oi) (hb : tkB ops s i listed = true) (hS : S w) (hy : YieldsIf P ops S oi v a) (hab : ∀ w f, oi.about P w a.eval = some f → F.fn f)
    (h : AnyF F n P ops Q S s fuel (listed.setIfInBounds i true) (a.put oi.dst v) w) (hQ : ∀ c a w, Q (.panic c) (a.put oi.dst v) w → Q (.panic c) a w := by exact fun _ _ _ h => h) : AnyF F n P ops Q S s (fuel + 1) listed a w := by
  unfold tkB at hb
  simp only [Bool.and_eq_true] at hb
  exact AnyF.first hro hi hb.1.1.1.1 (Region.noSelect_spec hb.1.1.2) hQ fuel listed a w (Region.free_spec hi hb.1.2) (by simpa using hb.2) (closed_of hb.1.1.1.2) ⟨hy, hab⟩ hS h
theorem AnyF.one {i : Nat} {o : Oper} {fuel : Nat} {listed : Array Bool} {a : Act} {w : World} (ho : ops[i]? = some o) (hr : Region.ready .any ops listed = [i]) (hwant : Region.wanted o (yielded ops a.tmps) = true)
    (h : ∀ K : Act → World → Prop, Shut (∀ a w, (i = s ∨ listed.getD s false = true ∨ S w) → AnyF F n P ops Q S s fuel (listed.setIfInBounds i true) a w → K a w) → Oper.wpIn F n P o a w K Q) : AnyF F n P ops Q S s (fuel + 1) listed a w := by
  refine ⟨fun h0 => (by rw [hr] at h0; cases h0), fun j hj => ?_⟩
  rw [hr] at hj
  obtain rfl : j = i := by simpa using hj
  exact wpOpIn_step ho (fun K hK => by rw [if_pos hwant]; exact h K (fun a w hS hW => hK a w ⟨hS, hW⟩))
theorem AnyF.pass {i : Nat} {o : Oper} {fuel : Nat} {listed : Array Bool} {a : Act} {w : World} (ho : ops[i]? = some o) (hr : Region.ready .any ops listed = [i]) (hwant : Region.wanted o (yielded ops a.tmps) = false)
    (hab : ∀ f, o.about P w a.eval = some f → F.fn f) (hS : i = s ∨ listed.getD s false = true ∨ S w) (h : AnyF F n P ops Q S s fuel (listed.setIfInBounds i true) (a.put o.dst undef) w) : AnyF F n P ops Q S s (fuel + 1) listed a w := by
  refine ⟨fun h0 => (by rw [hr] at h0; cases h0), fun j hj => ?_⟩
  rw [hr] at hj
  obtain rfl : j = i := by simpa using hj
  unfold wpOpIn
  simp only [ho]
  rw [if_neg (by rw [hwant]; simp)]
  exact ⟨hab, hS, h⟩
theorem AnyF.done {listed : Array Bool} {a : Act} {w : World} (hr : Region.ready .any ops listed = []) (h : Q .normal a w) : ∀ fuel, AnyF F n P ops Q S s fuel listed a w
  | 0 => ⟨hr, h⟩
  | _ + 1 => ⟨fun _ => h, by rw [hr]; simp⟩
theorem region_heldF (S : World → Prop) (s : Nat) {id : Nat} {a : Act} {w : World} (hm : P.follows .mixedOrders = true)
    (h : AnyF F n P ops Q S s ops.size (Array.replicate ops.size false) a w.drew) : (Code.region id ops true).wpIn F n P Q a w :=
  wpIn_region_any hm (AnyF.any _ _ _ _ h)
end
end Go.Proofs.YtjekapjbigfkbaaGreatDoor

namespace Go.Proofs.YtjekapjbigfkbaaGreatDoor
open Go Go.RowKit Go.Deep
set_option maxRecDepth 100000
structure MD where
  kind : Int
  start : Int
  lead : ByteArray
  n : Nat
  fin : Nat → ByteArray
  na : Nat → Nat
  ain : Nat → Nat → Int
  aout : Nat → Nat → Int
  aw : Nat → Nat → ByteArray
  ato : Nat → Nat → Int
def ArS (z : Option Nat) (w : World) (v : Value) (D : MD) (i : Nat) : Prop :=
  (D.na i = 0 ∧ ∃ a cap, v = .slice a 0 cap ∧ cap ≤ maxLen) ∨ ∃ b off cap, v = .slice (some ⟨b, off, none⟩) (D.na i) cap ∧ (b < w.heap.size ∧ some b ≠ z) ∧ D.na i ≤ cap ∧ cap ≤ maxLen ∧ ∀ k, k < D.na i →
    w.cell? ⟨b, off + k * 4, none⟩ = some (.int .i64 (D.ain i k)) ∧ w.cell? ⟨b, off + k * 4 + 1, none⟩ = some (.int .i64 (D.aout i k)) ∧ w.cell? ⟨b, off + k * 4 + 2, none⟩ = some (.string (D.aw i k)) ∧ w.cell? ⟨b, off + k * 4 + 3, none⟩ = some (.int .i64 (D.ato i k))
def StS (z : Option Nat) (w : World) (v : Value) (D : MD) : Prop :=
  (D.n = 0 ∧ ∃ a cap, v = .slice a 0 cap ∧ cap ≤ maxLen) ∨ ∃ b off cap, ∃ A : Nat → Value, v = .slice (some ⟨b, off, none⟩) D.n cap ∧ (b < w.heap.size ∧ some b ≠ z) ∧ D.n ≤ cap ∧ cap ≤ maxLen ∧ ∀ i, i < D.n →
    w.cell? ⟨b, off + i * 2, none⟩ = some (.string (D.fin i)) ∧ w.cell? ⟨b, off + i * 2 + 1, none⟩ = some (A i) ∧ ArS z w (A i) D i
theorem ArS.kept {z : Option Nat} {w w' : World} {v : Value} {D : MD} {i : Nat} (h : ArS z w v D i) (hg : w.grownBy w' z) : ArS z w' v D i := by
  rcases h with h | ⟨b, off, cap, hv, h1, h2, h3, h4⟩
  · exact .inl h
  · refine .inr ⟨b, off, cap, hv, ⟨Nat.lt_of_lt_of_le h1.1 hg.size, h1.2⟩, h2, h3, fun k hk => ?_⟩
    obtain ⟨c1, c2, c3, c4⟩ := h4 k hk
    exact ⟨hg.cell c1 h1.2, hg.cell c2 h1.2, hg.cell c3 h1.2, hg.cell c4 h1.2⟩
theorem StS.kept {z : Option Nat} {w w' : World} {v : Value} {D : MD} (h : StS z w v D) (hg : w.grownBy w' z) : StS z w' v D := by
  rcases h with h | ⟨b, off, cap, A, hv, h1, h2, h3, h4⟩
  · exact .inl h
  · refine .inr ⟨b, off, cap, A, hv, ⟨Nat.lt_of_lt_of_le h1.1 hg.size, h1.2⟩, h2, h3, fun i hi => ?_⟩
    obtain ⟨c1, c2, c3⟩ := h4 i hi
    exact ⟨hg.cell c1 h1.2, hg.cell c2 h1.2, c3.kept hg⟩
theorem ArS.far {k : Nat} {z : Option Nat} {w : World} {v : Value} {D : MD} {i : Nat} (h : ArS z w v D i) (hk : w.heap.size ≤ k) : ArS (some k) w v D i := by
  rcases h with h | ⟨b, off, cap, hv, h1, h2⟩
  · exact .inl h
  · exact .inr ⟨b, off, cap, hv, ⟨h1.1, by simp; omega⟩, h2⟩
theorem StS.far {k : Nat} {z : Option Nat} {w : World} {v : Value} {D : MD} (h : StS z w v D) (hk : w.heap.size ≤ k) : StS (some k) w v D := by
  rcases h with h | ⟨b, off, cap, A, hv, h1, h2, h3, h4⟩
  · exact .inl h
  · exact .inr ⟨b, off, cap, A, hv, ⟨h1.1, by simp; omega⟩, h2, h3, fun i hi => ⟨(h4 i hi).1, (h4 i hi).2.1, (h4 i hi).2.2.far hk⟩⟩
theorem StS.open {z : Option Nat} {w : World} {v : Value} {D : MD} (h : StS z w v D) : ∃ a cap b off, ∃ (A : Nat → Option Addr) (C B O : Nat → Nat), v = .slice a D.n cap ∧ (0 < D.n → a = some ⟨b, off, none⟩) ∧ D.n ≤ cap ∧ cap ≤ maxLen ∧ (0 < D.n → b < w.heap.size ∧ some b ≠ z) ∧
    ∀ i, i < D.n → w.cell? ⟨b, off + i * 2, none⟩ = some (.string (D.fin i)) ∧ w.cell? ⟨b, off + i * 2 + 1, none⟩ = some (.slice (A i) (D.na i) (C i)) ∧ D.na i ≤ C i ∧ C i ≤ maxLen ∧ (0 < D.na i → A i = some ⟨B i, O i, none⟩) ∧ (0 < D.na i → B i < w.heap.size ∧ some (B i) ≠ z) ∧
      ∀ k, k < D.na i → w.cell? ⟨B i, O i + k * 4, none⟩ = some (.int .i64 (D.ain i k)) ∧ w.cell? ⟨B i, O i + k * 4 + 1, none⟩ = some (.int .i64 (D.aout i k)) ∧ w.cell? ⟨B i, O i + k * 4 + 2, none⟩ = some (.string (D.aw i k)) ∧ w.cell? ⟨B i, O i + k * 4 + 3, none⟩ = some (.int .i64 (D.ato i k)) := by
  rcases h with ⟨h0, a, cap, rfl, hm⟩ | ⟨b, off, cap, A, rfl, h1, h2, h3, h4⟩
  · exact ⟨a, cap, 0, 0, fun _ => none, fun _ => 0, fun _ => 0, fun _ => 0, by rw [h0], by omega, by omega, hm, by omega, fun i hi => by omega⟩
  · classical
    have hall : ∀ i, ∃ t : Option Addr × Nat × Nat × Nat, i < D.n → A i = .slice t.1 (D.na i) t.2.1 ∧ D.na i ≤ t.2.1 ∧ t.2.1 ≤ maxLen ∧ (0 < D.na i → t.1 = some ⟨t.2.2.1, t.2.2.2, none⟩) ∧ (0 < D.na i → t.2.2.1 < w.heap.size ∧ some t.2.2.1 ≠ z) ∧
        ∀ k, k < D.na i → w.cell? ⟨t.2.2.1, t.2.2.2 + k * 4, none⟩ = some (.int .i64 (D.ain i k)) ∧ w.cell? ⟨t.2.2.1, t.2.2.2 + k * 4 + 1, none⟩ = some (.int .i64 (D.aout i k)) ∧ w.cell? ⟨t.2.2.1, t.2.2.2 + k * 4 + 2, none⟩ = some (.string (D.aw i k)) ∧ w.cell? ⟨t.2.2.1, t.2.2.2 + k * 4 + 3, none⟩ = some (.int .i64 (D.ato i k)) := fun i => by
      by_cases hi : i < D.n
      · rcases (h4 i hi).2.2 with ⟨e0, a', c', e, hm'⟩ | ⟨b', o', c', e, k1, k2, k3, k4⟩
        · exact ⟨(a', c', 0, 0), fun _ => ⟨by rw [e, e0], by rw [e0]; exact Nat.zero_le _, hm', by omega, by omega, fun k hk => by omega⟩⟩
        · exact ⟨(some ⟨b', o', none⟩, c', b', o'), fun _ => ⟨e, k2, k3, fun _ => rfl, fun _ => k1, k4⟩⟩
      · exact ⟨(none, 0, 0, 0), fun h => absurd h hi⟩
    refine ⟨_, cap, b, off, fun i => (Classical.choose (hall i)).1, fun i => (Classical.choose (hall i)).2.1, fun i => (Classical.choose (hall i)).2.2.1, fun i => (Classical.choose (hall i)).2.2.2, rfl, fun _ => rfl, h2, h3, fun _ => h1, fun i hi => ?_⟩
    obtain ⟨k1, k2, k3, k4, k5, k6⟩ := Classical.choose_spec (hall i) hi
    exact ⟨(h4 i hi).1, by rw [(h4 i hi).2.1, k1], k2, k3, k4, k5, k6⟩
def Ma (z : Option Nat) (w : World) (v : Value) (D : MD) : Prop := ∃ sv, v = .agg #[.int .i64 D.kind, .int .i64 D.start, .string D.lead, sv] ∧ StS z w sv D
def arcsTo (D : MD) : Nat → Nat
  | 0 => 0
  | i + 1 => arcsTo D i + D.na i
theorem arcsTo_mono (D : MD) {i j : Nat} (h : i ≤ j) : arcsTo D i ≤ arcsTo D j := by
  induction j with
  | zero => have : i = 0 := by omega
            subst this; exact Nat.le_refl _
  | succ j ih =>
    by_cases e : i = j + 1
    · subst e; exact Nat.le_refl _
    · have := ih (by omega); show _ ≤ arcsTo D j + D.na j; omega
structure ArcOk (D : MD) (i k : Nat) : Prop where
  i0 : 0 ≤ D.ain i k
  i1 : D.ain i k ≤ 500
  o0 : 0 ≤ D.aout i k
  o1 : D.aout i k ≤ 500
  t0 : 0 ≤ D.ato i k
  t1 : D.ato i k < (D.n : Int)
  wt : weightF D.kind (D.aw i k) = true
structure VM (D : MD) : Prop where
  kind : kindB D.kind = true
  n1 : 1 ≤ D.n
  n2 : D.n ≤ 3000
  s0 : 0 ≤ D.start
  s1 : D.start < (D.n : Int)
  lead : weightF D.kind D.lead = true
  arcs : arcsTo D D.n ≤ 30000
  fin : ∀ i, i < D.n → D.fin i = ⟨#[]⟩ ∨ weightF D.kind (D.fin i) = true
  arc : ∀ i k, i < D.n → k < D.na i → ArcOk D i k
structure MSz (D : MD) : Prop where
  lead : D.lead.size ≤ 9223372036854775807
  fin : ∀ i, (D.fin i).size ≤ 9223372036854775807
  aw : ∀ i k, (D.aw i k).size ≤ 9223372036854775807
  na : ∀ i, D.na i ≤ 140737488355328
  n : D.n ≤ 140737488355328
  kind : -9223372036854775808 ≤ D.kind ∧ D.kind ≤ 9223372036854775807
end Go.Proofs.YtjekapjbigfkbaaGreatDoor
namespace Go.Proofs.YtjekapjbigfkbaaGreatDoor
open Go Go.RowKit Go.Deep
set_option maxRecDepth 100000
theorem symbol_any (s : Int) (w : World) : Calls Tryz.prog 122 #[.int .i64 s] w fun e w' => e = .returned (.bool (decide (0 ≤ s) && decide (s ≤ 500))) ∧ w = w' := by
  by_cases h : 0 ≤ s
  · go_enter Tryz.func122, Tryz.ntmps122
    go_wp2
    go_ret
    exact ⟨ret_bool (by simp [h]), rfl⟩
  · have h' : decide (0 ≤ s) = false := by simp; omega
    go_enter Tryz.func122, Tryz.ntmps122
    go_wp2
    go_ret
    exact ⟨ret_bool rfl, rfl⟩
theorem cell_new (w : World) (cs : Array Value) (t : TypeId) (i : Nat) (v : Value) (h : cs[i]? = some v) : (w.alloc (.cells cs t)).cell? ⟨w.heap.size, i, none⟩ = some v := by
  have h1 : (w.alloc (.cells cs t)).heap[w.heap.size]? = some (.cells cs t (0, 0)) := heap_alloc_new w _
  generalize w.heap.size = b at *
  generalize w.alloc (.cells cs t) = w2 at *
  simp [World.cell?, h1, h]
def ValidE (D : MD) (w : World) (r : Ending) (w' : World) : Prop := Below w.heap.size w w' ∧ ((VM D ∧ r = .returned (.bool true)) ∨ (¬ VM D ∧ r = .returned (.bool false)))
def BoxM (wr : World) (mb : Nat) (D : MD) (sv : Value) : Prop := wr.heap[mb]? = some (.cells #[.int .i64 D.kind, .int .i64 D.start, .string D.lead, sv] 36 (0, 0))
theorem BoxM.c0 {wr : World} {mb : Nat} {D : MD} {sv : Value} (h : BoxM wr mb D sv) : wr.cell? ⟨mb, 0, none⟩ = some (.int .i64 D.kind) := by unfold BoxM at h; simp [World.cell?, h]
theorem BoxM.c1 {wr : World} {mb : Nat} {D : MD} {sv : Value} (h : BoxM wr mb D sv) : wr.cell? ⟨mb, 1, none⟩ = some (.int .i64 D.start) := by unfold BoxM at h; simp [World.cell?, h]
theorem BoxM.c2 {wr : World} {mb : Nat} {D : MD} {sv : Value} (h : BoxM wr mb D sv) : wr.cell? ⟨mb, 2, none⟩ = some (.string D.lead) := by unfold BoxM at h; simp [World.cell?, h]
theorem BoxM.c3 {wr : World} {mb : Nat} {D : MD} {sv : Value} (h : BoxM wr mb D sv) : wr.cell? ⟨mb, 3, none⟩ = some sv := by unfold BoxM at h; simp [World.cell?, h]
theorem BoxM.lt {wr : World} {mb : Nat} {D : MD} {sv : Value} (h : BoxM wr mb D sv) : mb < wr.heap.size := (Array.getElem?_eq_some_iff.1 h).1
theorem BoxM.kept {wr w' : World} {mb : Nat} {D : MD} {sv : Value} {z : Option Nat} (h : BoxM wr mb D sv) (hg : wr.grownBy w' z) (hz : some mb ≠ z) : BoxM w' mb D sv := by
  unfold BoxM; rw [hg.block mb h.lt hz]; exact h
theorem BoxM.new (w : World) (D : MD) (sv : Value) : BoxM (w.alloc (.cells #[.int .i64 D.kind, .int .i64 D.start, .string D.lead, sv] 36)) w.heap.size D sv := heap_alloc_new w _
set_option maxHeartbeats 8000000 in
theorem mvalid_any {D : MD} {v : Value} (w : World) (hM : Ma none w v D) (hs : MSz D) (ht : Tab w) : Calls Tryz.prog 76 #[v] w (ValidE D w) := by
  obtain ⟨sv, rfl, hS⟩ := hM
  obtain ⟨a, cap, b, off, A, C, BB, O, rfl, ha, hc, hm, hb, hrow⟩ := hS.open
  unfold maxLen at hm
  clear hS
  have hbox := BoxM.new w D (.slice a D.n cap)
  have hbel : Below w.heap.size w (w.alloc (.cells #[.int .i64 D.kind, .int .i64 D.start, .string D.lead, .slice a D.n cap] 36)) := (Below.refl _ _).alloc (Nat.le_refl _) _
  have hnn := hs.n
  obtain ⟨hk1, hk2⟩ := hs.kind
  have HSZ := Lib.hid hs; clear hs
  have HT := Lib.hid ht; clear ht
  have HA := Lib.hid ha; clear ha
  have HB := Lib.hid hb; clear hb
  have HR := Lib.hid hrow; clear hrow
  have m0 := hbox.c0
  have m1 := hbox.c1
  have m2 := hbox.c2
  have m3 := hbox.c3
  have HBX := Lib.hid hbox; clear hbox
  have HBE := Lib.hid hbel; clear hbel
  go_enter Tryz.func76, Tryz.ntmps76
  go_wp2_with fail
  all_goals first
    | (go_ret; exact ⟨HBE.out, .inr ⟨fun v => by have h1 := v.kind; have h2 := v.n1; have h3 := v.n2; have h4 := v.s0; have h5 := v.s1; unfold kindB at h1; simp at h1; omega, rfl⟩⟩)
    | skip
  have hkb : kindB D.kind = true := by unfold kindB; simp; omega
  obtain ⟨wm, hwm⟩ : ∃ wm, wm = w.alloc (.cells #[.int .i64 D.kind, .int .i64 D.start, .string D.lead, .slice a D.n cap] 36) := ⟨_, rfl⟩
  obtain ⟨mb, hmb⟩ : ∃ mb, mb = w.heap.size := ⟨_, rfl⟩
  have hpre : 1 ≤ D.n ∧ D.n ≤ 3000 ∧ 0 ≤ D.start ∧ D.start < (D.n : Int) := by omega
  have HPRE := Lib.hid hpre; clear hpre
  have HKB := Lib.hid hkb; clear hkb
  rw [← hwm, ← hmb] at HBX
  rw [← hwm] at HBE
  rw [← hmb]
  rw [← hwm] at m0 m1 m2 m3
  rw [← hmb] at m0 m1 m2 m3
  rw [← hwm]
  have HMB := Lib.hid hmb; clear hmb
  clear hwm
  have hwt := semiweight_any D.kind D.lead wm HSZ.out.lead (HT.out.below HBE.out (Nat.le_refl _))
  have HWT := Lib.hid hwt; clear hwt
  clear m0 m1 m2 m3
  cases hw : weightF D.kind D.lead
  · rw [hw] at HWT
    refine HWT.out.mono ?_
    rintro r w1 ⟨rfl, hb1⟩
    go_wp2_with fail
    go_ret
    exact ⟨HBE.out.trans (hb1.mono HBE.out.size), .inr ⟨fun v => by rw [v.lead] at hw; exact absurd hw (by simp), rfl⟩⟩
  · rw [hw] at HWT
    refine HWT.out.mono ?_
    rintro r w1 ⟨rfl, hb1⟩
    have hbx1 := HBX.out.kept (gb_below hb1 none) (by simp)
    have hbe1 := HBE.out.trans (hb1.mono HBE.out.size)
    clear hb1
    have m3 := hbx1.c3
    have HBX1 := Lib.hid hbx1; clear hbx1 HBX
    have HBE1 := Lib.hid hbe1; clear hbe1 HBE
    go_wp2_with fail
    clear m3
    go_loopw [4, 50] (fun c i wr => ∃ q : Nat, q ≤ D.n ∧ i = .int .i64 (q : Int) ∧ c = .int .i64 (arcsTo D q : Nat) ∧ arcsTo D q ≤ 30000 ∧
      (∀ l, l < q → (D.fin l = ⟨#[]⟩ ∨ weightF D.kind (D.fin l) = true) ∧ ∀ k, k < D.na l → ArcOk D l k) ∧ BoxM wr mb D (.slice a D.n cap) ∧ Below w.heap.size w wr) (fun _ i _ => D.n - (intOf i).toNat)
    case atStart => exact ⟨0, Nat.zero_le _, rfl, rfl, by show 0 ≤ 30000; omega, fun l hl => by omega, HBX1.out, HBE1.out⟩
    case round =>
      obtain ⟨q, hq, rfl, rfl, hac, hok, hbx, hbw⟩ := hrel
      clear HBX1 HBE1
      have HOK := Lib.hid hok; clear hok
      have HBX := Lib.hid hbx; clear hbx
      have HBW := Lib.hid hbw; clear hbw
      by_cases hlt : q < D.n
      · have hqz : (q : Int) < (D.n : Int) := by omega
        have hqz0 : (0 : Int) ≤ (q : Int) := by omega
        obtain rfl := HA.out (by omega)
        have hbb := (HB.out (by omega)).1
        obtain ⟨k1, k2, k3, k4, k5, k6, k7⟩ := HR.out q hlt
        generalize A q = aq at k2 k5
        have c0 := (HBW.out.cell (p := ⟨b, off + q * 2, none⟩) hbb).trans k1
        have c1 := (HBW.out.cell (p := ⟨b, off + q * 2 + 1, none⟩) hbb).trans k2
        unfold maxLen at k4
        have mA := fun o => (BoxM.c0 (HBX.out.kept (World.grownBy_alloc wr o none) (by simp)))
        have mB := fun o => HBX.out.kept (World.grownBy_alloc wr o none) (by simp)
        have mW := fun o => HBW.out.alloc HBW.out.size o
        have HMB2 := Lib.hid mB; clear mB
        have HMW := Lib.hid mW; clear mW
        clear k1 k2
        have HK7 := Lib.hid k7; clear k7
        have HK5 := Lib.hid k5; clear k5
        have HK6 := Lib.hid k6; clear k6
        have hna := HSZ.out.na q
        by_cases hG : 30000 < arcsTo D q + D.na q
        · have hGz : (30000 : Int) < (arcsTo D q : Nat) + (D.na q : Int) := by omega
          go_wp2_with fail
          go_ret
          exact ⟨HMW.out _, .inr ⟨fun v => by have h1 := v.arcs; have h2 := arcsTo_mono D (show q + 1 ≤ D.n by omega); have h3 : arcsTo D (q + 1) = arcsTo D q + D.na q := rfl; omega, rfl⟩⟩
        · have hGz : decide ((30000 : Int) < (arcsTo D q : Nat) + (D.na q : Int)) = false := by simp; omega
          cases hF : ((D.fin q).toList == [])
          · have hwf := fun wx hb => semiweight_any D.kind (D.fin q) wx (HSZ.out.fin q) (HT.out.below (B := w.heap.size) hb (Nat.le_refl _))
            have HWF := Lib.hid hwf; clear hwf
            go_wp2_with fail
            refine (HWF.out _ (HMW.out _)).mono ?_
            rintro r w2 ⟨rfl, hb2⟩
            cases hwq : weightF D.kind (D.fin q)
            · go_wp2_with fail
              go_ret
              exact ⟨(HMW.out _).trans (hb2.mono (HMW.out _).size), .inr ⟨fun v => by
                rcases v.fin q hlt with h1 | h1
                · rw [h1] at hF; exact absurd hF (by simp)
                · rw [h1] at hwq; exact absurd hwq (by simp), rfl⟩⟩
            · have hx1 := (HMB2.out (.cells #[.string (D.fin q), .slice aq (D.na q) (C q)] 87)).kept (gb_below hb2 none) (by simp)
              have hx2 := (HMW.out (.cells #[.string (D.fin q), .slice aq (D.na q) (C q)] 87)).trans (hb2.mono (HMW.out _).size)
              have hx3 : w2.cell? ⟨wr.heap.size, 1, none⟩ = some (.slice aq (D.na q) (C q)) := by
                rw [hb2.cell (p := ⟨wr.heap.size, 1, none⟩) (by simp)]
                exact cell_new wr _ _ 1 _ rfl
              clear hb2
              have HX1 := Lib.hid hx1; clear hx1
              have HX2 := Lib.hid hx2; clear hx2
              have HFW := Lib.hid (show D.fin q = ⟨#[]⟩ ∨ weightF D.kind (D.fin q) = true from .inr hwq)
              go_wp2_with fail
              clear hx3
              go_loopw [77] (fun i wr => ∃ d : Nat, d ≤ D.na q ∧ i = .int .i64 (d : Int) ∧ (∀ k, k < d → ArcOk D q k) ∧ BoxM wr mb D (.slice (some ⟨b, off, none⟩) D.n cap) ∧ Below w.heap.size w wr) (fun i _ => D.na q - (intOf i).toNat)
              case atStart => exact ⟨0, Nat.zero_le _, rfl, fun k hk => by omega, HX1.out, HX2.out⟩
              case round =>
                obtain ⟨d, hd, rfl, hko, hbx2, hbw2⟩ := hrel
                clear HX1 HX2
                have HKO := Lib.hid hko; clear hko
                have HBX2 := Lib.hid hbx2; clear hbx2
                have HBW2 := Lib.hid hbw2; clear hbw2
                by_cases hlt2 : d < D.na q
                · have hdz : (d : Int) < (D.na q : Int) := by omega
                  have hdz0 : (0 : Int) ≤ (d : Int) := by omega
                  obtain rfl := HK5.out (by omega)
                  have hbq := (HK6.out (by omega)).1
                  obtain ⟨j0, j1, j2, j3⟩ := HK7.out d hlt2
                  have e0 := (HBW2.out.cell (p := ⟨BB q, O q + d * 4, none⟩) hbq).trans j0
                  have e1 := (HBW2.out.cell (p := ⟨BB q, O q + d * 4 + 1, none⟩) hbq).trans j1
                  have e2 := (HBW2.out.cell (p := ⟨BB q, O q + d * 4 + 2, none⟩) hbq).trans j2
                  have e3 := (HBW2.out.cell (p := ⟨BB q, O q + d * 4 + 3, none⟩) hbq).trans j3
                  clear j0 j1 j2 j3
                  have mA2 := fun o => (BoxM.c0 (HBX2.out.kept (World.grownBy_alloc wr o none) (by simp)))
                  have HMB3 := Lib.hid (fun o => HBX2.out.kept (World.grownBy_alloc wr o none) (by simp))
                  have HMW3 := Lib.hid (fun o => HBW2.out.alloc HBW2.out.size o)
                  have hwf3 := fun wx hb => semiweight_any D.kind (D.aw q d) wx (HSZ.out.aw q d) (HT.out.below (B := w.heap.size) hb (Nat.le_refl _))
                  have HWF3 := Lib.hid hwf3; clear hwf3
                  go_wp2_with fail
                  refine (symbol_any _ _).mono ?_
                  rintro r w' ⟨rfl, rfl⟩
                  cases hi1 : (decide (0 ≤ D.ain q d) && decide (D.ain q d ≤ 500))
                  · have HI1 := Lib.hid hi1
                    go_wp2_with fail
                    go_ret
                    exact ⟨HMW3.out _, .inr ⟨fun v => by have h1 := v.arc q d hlt hlt2; have h2 := HI1.out; rw [decide_eq_true h1.i0, decide_eq_true h1.i1] at h2; exact absurd h2 (by simp), rfl⟩⟩
                  · have HI1 := Lib.hid hi1
                    go_wp2_with fail
                    refine (symbol_any _ _).mono ?_
                    rintro r w' ⟨rfl, rfl⟩
                    cases hi2 : (decide (0 ≤ D.aout q d) && decide (D.aout q d ≤ 500))
                    · have HI2 := Lib.hid hi2
                      go_wp2_with fail
                      go_ret
                      exact ⟨HMW3.out _, .inr ⟨fun v => by have h1 := v.arc q d hlt hlt2; have h2 := HI2.out; rw [decide_eq_true h1.o0, decide_eq_true h1.o1] at h2; exact absurd h2 (by simp), rfl⟩⟩
                    · have HI2 := Lib.hid hi2
                      by_cases ht0 : D.ato q d < 0
                      · go_wp2_with fail
                        go_ret
                        exact ⟨HMW3.out _, .inr ⟨fun v => by have h1 := (v.arc q d hlt hlt2).t0; omega, rfl⟩⟩
                      · have ht0z : decide (D.ato q d < 0) = false := by simp; omega
                        by_cases ht1 : (D.n : Int) ≤ D.ato q d
                        · go_wp2_with fail
                          go_ret
                          exact ⟨HMW3.out _, .inr ⟨fun v => by have h1 := (v.arc q d hlt hlt2).t1; omega, rfl⟩⟩
                        · have ht1z : decide ((D.n : Int) ≤ D.ato q d) = false := by simp; omega
                          go_wp2_with fail
                          refine (HWF3.out _ (HMW3.out _)).mono ?_
                          rintro r w4 ⟨rfl, hb4⟩
                          have hbx4 := (HMB3.out _).kept (gb_below hb4 none) (by simp)
                          have hbw4 := (HMW3.out _).trans (hb4.mono (HMW3.out _).size)
                          clear hb4 mA2 e0 e1 e2 e3
                          cases hw4 : weightF D.kind (D.aw q d)
                          · go_wp2_with fail
                            go_ret
                            exact ⟨hbw4, .inr ⟨fun v => by have h1 := (v.arc q d hlt hlt2).wt; rw [hw4] at h1; exact absurd h1 (by simp), rfl⟩⟩
                          · go_wp2_with fail
                            go_roundw
                            case rel =>
                              refine ⟨d + 1, by omega, by go_num, fun k hk => ?_, hbx4, hbw4⟩
                              rcases Nat.lt_succ_iff_lt_or_eq.1 hk with h2 | h2
                              · exact HKO.out k h2
                              · subst h2
                                have h3 := HI1.out
                                have h4 := HI2.out
                                simp only [Bool.and_eq_true, decide_eq_true_eq] at h3 h4
                                exact ⟨h3.1, h3.2, h4.1, h4.2, by omega, by omega, hw4⟩
                            case measure => simp [intOf]; omega
                · have hdn : d = D.na q := by omega
                  subst hdn
                  have hgt : ¬ ((D.na q : Int) < (D.na q : Int)) := by omega
                  go_wp2_with fail
                  go_roundw
                  case rel =>
                    refine ⟨q + 1, by omega, by go_num, rfl, by show arcsTo D q + D.na q ≤ 30000; omega, fun l hl => ?_, HBX2.out, HBW2.out⟩
                    rcases Nat.lt_succ_iff_lt_or_eq.1 hl with h2 | h2
                    · exact HOK.out l h2
                    · subst h2; exact ⟨HFW.out, HKO.out⟩
                  case measure => simp [intOf]; omega
          · have hfe : D.fin q = ⟨#[]⟩ := by rw [beq_iff_eq, Lib.toList_data] at hF; exact ByteArray.ext (Array.toList_inj.1 hF)
            have HFW := Lib.hid (show D.fin q = ⟨#[]⟩ ∨ weightF D.kind (D.fin q) = true from .inl hfe)
            clear hfe
            have HX1 := Lib.hid (HMB2.out (.cells #[.string (D.fin q), .slice aq (D.na q) (C q)] 87))
            have HX2 := Lib.hid (HMW.out (.cells #[.string (D.fin q), .slice aq (D.na q) (C q)] 87))
            go_wp2_with fail
            go_loopw [77] (fun i wr => ∃ d : Nat, d ≤ D.na q ∧ i = .int .i64 (d : Int) ∧ (∀ k, k < d → ArcOk D q k) ∧ BoxM wr mb D (.slice (some ⟨b, off, none⟩) D.n cap) ∧ Below w.heap.size w wr) (fun i _ => D.na q - (intOf i).toNat)
            case atStart => exact ⟨0, Nat.zero_le _, rfl, fun k hk => by omega, HX1.out, HX2.out⟩
            case round =>
              obtain ⟨d, hd, rfl, hko, hbx2, hbw2⟩ := hrel
              clear HX1 HX2
              have HKO := Lib.hid hko; clear hko
              have HBX2 := Lib.hid hbx2; clear hbx2
              have HBW2 := Lib.hid hbw2; clear hbw2
              by_cases hlt2 : d < D.na q
              · have hdz : (d : Int) < (D.na q : Int) := by omega
                have hdz0 : (0 : Int) ≤ (d : Int) := by omega
                obtain rfl := HK5.out (by omega)
                have hbq := (HK6.out (by omega)).1
                obtain ⟨j0, j1, j2, j3⟩ := HK7.out d hlt2
                have e0 := (HBW2.out.cell (p := ⟨BB q, O q + d * 4, none⟩) hbq).trans j0
                have e1 := (HBW2.out.cell (p := ⟨BB q, O q + d * 4 + 1, none⟩) hbq).trans j1
                have e2 := (HBW2.out.cell (p := ⟨BB q, O q + d * 4 + 2, none⟩) hbq).trans j2
                have e3 := (HBW2.out.cell (p := ⟨BB q, O q + d * 4 + 3, none⟩) hbq).trans j3
                clear j0 j1 j2 j3
                have mA2 := fun o => (BoxM.c0 (HBX2.out.kept (World.grownBy_alloc wr o none) (by simp)))
                have HMB3 := Lib.hid (fun o => HBX2.out.kept (World.grownBy_alloc wr o none) (by simp))
                have HMW3 := Lib.hid (fun o => HBW2.out.alloc HBW2.out.size o)
                have hwf3 := fun wx hb => semiweight_any D.kind (D.aw q d) wx (HSZ.out.aw q d) (HT.out.below (B := w.heap.size) hb (Nat.le_refl _))
                have HWF3 := Lib.hid hwf3; clear hwf3
                go_wp2_with fail
                refine (symbol_any _ _).mono ?_
                rintro r w' ⟨rfl, rfl⟩
                cases hi1 : (decide (0 ≤ D.ain q d) && decide (D.ain q d ≤ 500))
                · have HI1 := Lib.hid hi1
                  go_wp2_with fail
                  go_ret
                  exact ⟨HMW3.out _, .inr ⟨fun v => by have h1 := v.arc q d hlt hlt2; have h2 := HI1.out; rw [decide_eq_true h1.i0, decide_eq_true h1.i1] at h2; exact absurd h2 (by simp), rfl⟩⟩
                · have HI1 := Lib.hid hi1
                  go_wp2_with fail
                  refine (symbol_any _ _).mono ?_
                  rintro r w' ⟨rfl, rfl⟩
                  cases hi2 : (decide (0 ≤ D.aout q d) && decide (D.aout q d ≤ 500))
                  · have HI2 := Lib.hid hi2
                    go_wp2_with fail
                    go_ret
                    exact ⟨HMW3.out _, .inr ⟨fun v => by have h1 := v.arc q d hlt hlt2; have h2 := HI2.out; rw [decide_eq_true h1.o0, decide_eq_true h1.o1] at h2; exact absurd h2 (by simp), rfl⟩⟩
                  · have HI2 := Lib.hid hi2
                    by_cases ht0 : D.ato q d < 0
                    · go_wp2_with fail
                      go_ret
                      exact ⟨HMW3.out _, .inr ⟨fun v => by have h1 := (v.arc q d hlt hlt2).t0; omega, rfl⟩⟩
                    · have ht0z : decide (D.ato q d < 0) = false := by simp; omega
                      by_cases ht1 : (D.n : Int) ≤ D.ato q d
                      · go_wp2_with fail
                        go_ret
                        exact ⟨HMW3.out _, .inr ⟨fun v => by have h1 := (v.arc q d hlt hlt2).t1; omega, rfl⟩⟩
                      · have ht1z : decide ((D.n : Int) ≤ D.ato q d) = false := by simp; omega
                        go_wp2_with fail
                        refine (HWF3.out _ (HMW3.out _)).mono ?_
                        rintro r w4 ⟨rfl, hb4⟩
                        have hbx4 := (HMB3.out _).kept (gb_below hb4 none) (by simp)
                        have hbw4 := (HMW3.out _).trans (hb4.mono (HMW3.out _).size)
                        clear hb4 mA2 e0 e1 e2 e3
                        cases hw4 : weightF D.kind (D.aw q d)
                        · go_wp2_with fail
                          go_ret
                          exact ⟨hbw4, .inr ⟨fun v => by have h1 := (v.arc q d hlt hlt2).wt; rw [hw4] at h1; exact absurd h1 (by simp), rfl⟩⟩
                        · go_wp2_with fail
                          go_roundw
                          case rel =>
                            refine ⟨d + 1, by omega, by go_num, fun k hk => ?_, hbx4, hbw4⟩
                            rcases Nat.lt_succ_iff_lt_or_eq.1 hk with h2 | h2
                            · exact HKO.out k h2
                            · subst h2
                              have h3 := HI1.out
                              have h4 := HI2.out
                              simp only [Bool.and_eq_true, decide_eq_true_eq] at h3 h4
                              exact ⟨h3.1, h3.2, h4.1, h4.2, by omega, by omega, hw4⟩
                          case measure => simp [intOf]; omega
              · have hdn : d = D.na q := by omega
                subst hdn
                have hgt : ¬ ((D.na q : Int) < (D.na q : Int)) := by omega
                go_wp2_with fail
                go_roundw
                case rel =>
                  refine ⟨q + 1, by omega, by go_num, rfl, by show arcsTo D q + D.na q ≤ 30000; omega, fun l hl => ?_, HBX2.out, HBW2.out⟩
                  rcases Nat.lt_succ_iff_lt_or_eq.1 hl with h2 | h2
                  · exact HOK.out l h2
                  · subst h2; exact ⟨HFW.out, HKO.out⟩
                case measure => simp [intOf]; omega
      · have hqn : q = D.n := by omega
        subst hqn
        have hgt : ¬ ((D.n : Int) < (D.n : Int)) := by omega
        obtain ⟨p1, p2, p3, p4⟩ := HPRE.out
        go_wp2_with fail
        go_ret
        exact ⟨HBW.out, .inl ⟨⟨HKB.out, p1, p2, p3, p4, hw, hac, fun i hi => (HOK.out i hi).1, fun i k hi hk => (HOK.out i hi).2 k hk⟩, rfl⟩⟩
end Go.Proofs.YtjekapjbigfkbaaGreatDoor
