/- Parts of a proof: EdL EdM. -/
import Derived.Test.YtjekapjbigfkbaaGreatDoorS16
import Derived.Deep.QuietTactic
import Derived.BigQuiet
namespace Go.Proofs.YtjekapjbigfkbaaGreatDoor
open Go
set_option maxRecDepth 100000
set_option linter.unusedSimpArgs false
structure ED where
  nf : Nat
  f : Nat → Int
  nt : Nat
  t : Nat → Int
  w : ByteArray
structure EM where
  n : Nat
  e : Nat → ED
  most : Int
def wordI (n : Nat) (x : Nat → Int) (sig : Int) : Prop := ∀ i, i < n → 1 ≤ x i ∧ x i ≤ sig
def costOk (s : ByteArray) : Prop := ∃ q, prs s = some q ∧ 0 ≤ q
structure EdOk (d : ED) : Prop where
  f6 : d.nf ≤ 6
  t6 : d.nt ≤ 6
  pos : 0 < d.nf + d.nt
  fw : wordI d.nf d.f 500
  tw : wordI d.nt d.t 500
  wt : costOk d.w
structure VE (M : EM) : Prop where
  n4 : M.n ≤ 400
  m0 : 0 ≤ M.most
  m6 : M.most ≤ 6
  ok : ∀ i, i < M.n → EdOk (M.e i)
def qv (s : ByteArray) : Rat := (prs s).getD 0
theorem EdOk.q0 {d : ED} (h : EdOk d) : 0 ≤ qv d.w := by obtain ⟨q, h1, h2⟩ := h.wt; unfold qv; rw [h1]; exact h2
theorem EdOk.q {d : ED} (h : EdOk d) : prs d.w = some (qv d.w) := by obtain ⟨q, h1, _⟩ := h.wt; unfold qv; rw [h1]; rfl
structure EP where
  M : EM
  a : Nat
  x : Nat → Int
  b : Nat
  y : Nat → Int
abbrev Pl := Nat × Nat × Nat
def bgs (a : Nat) (x : Nat → Int) (i n : Nat) (u : Nat → Int) : Prop := i + n ≤ a ∧ ∀ k, k < n → x (i + k) = u k
inductive Sp (P : EP) : Pl → Option Nat → Pl → Rat → Prop
  | copy {k i j : Nat} : i < P.a → j < P.b → P.x i = P.y j → Sp P (k, i, j) none (k, i + 1, j + 1) 0
  | edit {k i j e : Nat} : e < P.M.n → (k : Int) < P.M.most → bgs P.a P.x i (P.M.e e).nf (P.M.e e).f → bgs P.b P.y j (P.M.e e).nt (P.M.e e).t → Sp P (k, i, j) (some e) (k + 1, i + (P.M.e e).nf, j + (P.M.e e).nt) (qv (P.M.e e).w)
inductive Pth (P : EP) : Pl → Rat → Prop
  | start : Pth P (0, 0, 0) 0
  | step {p : Pl} {c : Rat} {l : Option Nat} {q : Pl} {d : Rat} : Pth P p c → Sp P p l q d → Pth P q (c + d)
theorem Sp.fn {P : EP} {p q q' : Pl} {l : Option Nat} {d d' : Rat} (h : Sp P p l q d) (h' : Sp P p l q' d') : q = q' ∧ d = d' := by
  cases h <;> cases h' <;> exact ⟨rfl, rfl⟩
def InR (P : EP) (p : Pl) : Prop := (p.1 : Int) ≤ P.M.most ∧ p.2.1 ≤ P.a ∧ p.2.2 ≤ P.b
theorem Sp.inR {P : EP} {p q : Pl} {l : Option Nat} {d : Rat} (h : Sp P p l q d) (hp : InR P p) : InR P q := by
  obtain ⟨h1, h2, h3⟩ := hp
  cases h with
  | copy a b _ => exact ⟨h1, by show _ + 1 ≤ P.a; omega, by show _ + 1 ≤ P.b; omega⟩
  | edit a b c d => exact ⟨by show ((_ + 1 : Nat) : Int) ≤ _; omega, c.1, d.1⟩
theorem Pth.inR {P : EP} (h0 : 0 ≤ P.M.most) {p : Pl} {c : Rat} (h : Pth P p c) : InR P p := by
  induction h with
  | start => exact ⟨h0, Nat.zero_le _, Nat.zero_le _⟩
  | step _ hs ih => exact hs.inR ih
theorem Sp.nonneg {P : EP} (hv : ∀ i, i < P.M.n → EdOk (P.M.e i)) {p q : Pl} {l : Option Nat} {d : Rat} (h : Sp P p l q d) : 0 ≤ d := by
  cases h with
  | copy => exact Rat.le_refl
  | edit a => exact (hv _ a).q0
theorem Pth.nonneg {P : EP} (hv : ∀ i, i < P.M.n → EdOk (P.M.e i)) {p : Pl} {c : Rat} (h : Pth P p c) : 0 ≤ c := by
  induction h with
  | start => exact Rat.le_refl
  | step _ hs ih => exact Rat.add_nonneg ih (hs.nonneg hv)
abbrev TbE := Pl → Option Rat
def relx (T : TbE) (q : Pl) (v : Rat) : TbE := fun r => if r = q then (match T q with | none => some v | some u => if v < u then some v else some u) else T r
structure Dp (P : EP) (Done : Pl → Option Nat → Prop) (T : TbE) : Prop where
  sound : ∀ q c, T q = some c → Pth P q c
  zero : ∃ c, T (0, 0, 0) = some c ∧ c ≤ 0
  done : ∀ p l c q d, Done p l → T p = some c → Sp P p l q d → ∃ u, T q = some u ∧ u ≤ c + d
theorem Dp.start (P : EP) : Dp P (fun _ _ => False) (fun q => if q = (0, 0, 0) then some 0 else none) := by
  refine ⟨fun q c h => ?_, ⟨0, by simp, Rat.le_refl⟩, fun _ _ _ _ _ h => h.elim⟩
  by_cases e : q = (0, 0, 0)
  · subst e; simp at h; subst h; exact .start
  · simp [e] at h
theorem relx_le {T : TbE} {q : Pl} {v : Rat} {r : Pl} {u : Rat} (h : T r = some u) : ∃ u', relx T q v r = some u' ∧ u' ≤ u := by
  unfold relx
  by_cases e : r = q
  · subst e
    rw [if_pos rfl, h]
    by_cases e2 : v < u
    · exact ⟨v, by simp [e2], Rat.le_of_lt e2⟩
    · exact ⟨u, by simp [e2], Rat.le_refl⟩
  · exact ⟨u, by rw [if_neg e]; exact h, Rat.le_refl⟩
theorem relx_new (T : TbE) (q : Pl) (v : Rat) : ∃ u', relx T q v q = some u' ∧ u' ≤ v := by
  unfold relx
  rw [if_pos rfl]
  cases h : T q with
  | none => exact ⟨v, rfl, Rat.le_refl⟩
  | some u =>
    by_cases e2 : v < u
    · exact ⟨v, by simp [e2], Rat.le_refl⟩
    · exact ⟨u, by simp [e2], Rat.not_lt.1 e2⟩
theorem relx_ne {T : TbE} {q r : Pl} {v : Rat} (h : r ≠ q) : relx T q v r = T r := if_neg h
theorem Dp.fits {P : EP} {Done Done' : Pl → Option Nat → Prop} {T : TbE} (h : Dp P Done T) (hd : ∀ p l c q d, Done' p l → T p = some c → Sp P p l q d → Done p l) : Dp P Done' T :=
  ⟨h.sound, h.zero, fun p l c q d h1 h2 h3 => h.done p l c q d (hd p l c q d h1 h2 h3) h2 h3⟩
theorem Dp.step {P : EP} {Done Done' : Pl → Option Nat → Prop} {T : TbE} {p q : Pl} {l : Option Nat} {c d : Rat} (h : Dp P Done T) (hp : T p = some c) (hs : Sp P p l q d) (hq : ∀ l', ¬ Done' q l')
    (hd : ∀ p' l', Done' p' l' → Done p' l' ∨ (p' = p ∧ l' = l)) : Dp P Done' (relx T q (c + d)) := by
  refine ⟨fun r u hr => ?_, ?_, fun p' l' c' q' d' h1 h2 h3 => ?_⟩
  · by_cases e : r = q
    · subst e
      unfold relx at hr
      rw [if_pos rfl] at hr
      cases ht : T r with
      | none => rw [ht] at hr; simp at hr; subst hr; exact .step (h.sound p c hp) hs
      | some u' =>
        rw [ht] at hr
        by_cases e2 : c + d < u'
        · simp [e2] at hr; subst hr; exact .step (h.sound p c hp) hs
        · simp [e2] at hr; subst hr; exact h.sound _ _ ht
    · rw [relx_ne e] at hr; exact h.sound r u hr
  · obtain ⟨u, h1, h2⟩ := h.zero
    obtain ⟨u', h3, h4⟩ := relx_le (q := q) (v := c + d) h1
    exact ⟨u', h3, Rat.le_trans h4 h2⟩
  · have hne : p' ≠ q := fun e => hq l' (e ▸ h1)
    rw [relx_ne hne] at h2
    rcases hd p' l' h1 with h4 | ⟨rfl, rfl⟩
    · obtain ⟨u, h5, h6⟩ := h.done p' l' c' q' d' h4 h2 h3
      obtain ⟨u', h7, h8⟩ := relx_le (q := q) (v := c + d) h5
      exact ⟨u', h7, Rat.le_trans h8 h6⟩
    · obtain ⟨rfl, rfl⟩ := hs.fn h3
      rw [hp] at h2; cases h2
      exact relx_new T q (c + d)
theorem Dp.least {P : EP} {Done : Pl → Option Nat → Prop} {T : TbE} (h : Dp P Done T) (h0 : 0 ≤ P.M.most) (hd : ∀ p l, InR P p → Done p l) {q : Pl} {c : Rat} (hp : Pth P q c) : ∃ u, T q = some u ∧ u ≤ c := by
  induction hp with
  | start => exact h.zero
  | step h1 h2 ih =>
    obtain ⟨u, h3, h4⟩ := ih
    obtain ⟨u', h5, h6⟩ := h.done _ _ _ _ _ (hd _ _ (h1.inR h0)) h3 h2
    exact ⟨u', h5, Rat.le_trans h6 (Rat.add_le_add_right.2 h4)⟩
def Dn (k i j : Nat) (L : Option Nat → Prop) (p : Pl) (l : Option Nat) : Prop := p.1 < k ∨ (p.1 = k ∧ (p.2.1 < i ∨ (p.2.1 = i ∧ (p.2.2 < j ∨ (p.2.2 = j ∧ L l)))))
def Lb (m : Nat) (l : Option Nat) : Prop := l = none ∨ ∃ e, e < m ∧ l = some e
theorem Sp.later {P : EP} {k i j : Nat} {q : Pl} {l : Option Nat} {d : Rat} (h : Sp P (k, i, j) l q d) (L : Option Nat → Prop) : ∀ l', ¬ Dn k i j L q l' := by
  intro l' hd
  cases h with
  | copy => rcases hd with h1 | ⟨_, h1 | ⟨h1, _⟩⟩ <;> simp at h1 <;> omega
  | edit => rcases hd with h1 | ⟨h1, _⟩ <;> simp at h1 <;> omega
def IsCost (P : EP) (o : Option Rat) : Prop := (o = none ∧ ∀ k c, ¬ Pth P (k, P.a, P.b) c) ∨ ∃ c k, o = some c ∧ Pth P (k, P.a, P.b) c ∧ ∀ k' c', Pth P (k', P.a, P.b) c' → c ≤ c'
theorem IsCost.only {P : EP} {o o' : Option Rat} (h : IsCost P o) (h' : IsCost P o') : o = o' := by
  rcases h with ⟨rfl, h1⟩ | ⟨c, k, rfl, h1, h2⟩ <;> rcases h' with ⟨rfl, h3⟩ | ⟨c', k', rfl, h3, h4⟩
  · rfl
  · exact absurd h3 (h1 _ _)
  · exact absurd h1 (h3 _ _)
  · rw [Rat.le_antisymm (h2 _ _ h3) (h4 _ _ h1)]
def lstO (T : TbE) (a b : Nat) : Nat → Option Rat
  | 0 => none
  | m + 1 => match lstO T a b m, T (m, a, b) with
    | o, none => o
    | none, some v => some v
    | some u, some v => if v < u then some v else some u
theorem lstO_le {T : TbE} {a b : Nat} : ∀ {m k : Nat} {v : Rat}, k < m → T (k, a, b) = some v → ∃ u, lstO T a b m = some u ∧ u ≤ v
  | 0, _, _, h, _ => by omega
  | m + 1, k, v, h, hv => by
    by_cases e : k = m
    · subst e
      unfold lstO
      rw [hv]
      cases h1 : lstO T a b k with
      | none => exact ⟨v, rfl, Rat.le_refl⟩
      | some u =>
        by_cases e2 : v < u
        · exact ⟨v, by simp [e2], Rat.le_refl⟩
        · exact ⟨u, by simp [e2], Rat.not_lt.1 e2⟩
    · obtain ⟨u, h1, h2⟩ := lstO_le (T := T) (a := a) (b := b) (m := m) (by omega) hv
      unfold lstO
      rw [h1]
      cases h3 : T (m, a, b) with
      | none => exact ⟨u, rfl, h2⟩
      | some v' =>
        by_cases e2 : v' < u
        · exact ⟨v', by simp [e2], Rat.le_trans (Rat.le_of_lt e2) h2⟩
        · exact ⟨u, by simp [e2], h2⟩
theorem lstO_mem {T : TbE} {a b : Nat} : ∀ {m : Nat} {u : Rat}, lstO T a b m = some u → ∃ k, k < m ∧ T (k, a, b) = some u
  | 0, _, h => by simp [lstO] at h
  | m + 1, u, h => by
    unfold lstO at h
    cases h1 : lstO T a b m with
    | none =>
      cases h2 : T (m, a, b) with
      | none => rw [h1, h2] at h; simp at h
      | some v => rw [h1, h2] at h; simp at h; subst h; exact ⟨m, by omega, h2⟩
    | some u' =>
      have ih := lstO_mem h1
      cases h2 : T (m, a, b) with
      | none => rw [h1, h2] at h; simp at h; subst h; obtain ⟨k, h3, h4⟩ := ih; exact ⟨k, by omega, h4⟩
      | some v =>
        rw [h1, h2] at h
        by_cases e : v < u'
        · simp [e] at h; subst h; exact ⟨m, by omega, h2⟩
        · simp [e] at h; subst h; obtain ⟨k, h3, h4⟩ := ih; exact ⟨k, by omega, h4⟩
theorem Dp.cost {P : EP} {Done : Pl → Option Nat → Prop} {T : TbE} (h : Dp P Done T) (h0 : 0 ≤ P.M.most) (hd : ∀ p l, InR P p → Done p l) : IsCost P (lstO T P.a P.b (P.M.most.toNat + 1)) := by
  have hk : ∀ {k : Nat} {c : Rat}, Pth P (k, P.a, P.b) c → ∃ u, lstO T P.a P.b (P.M.most.toNat + 1) = some u ∧ u ≤ c := fun {k c} hp => by
    obtain ⟨u, h1, h2⟩ := h.least h0 hd hp
    have h3 := (hp.inR h0).1
    obtain ⟨u', h4, h5⟩ := lstO_le (m := P.M.most.toNat + 1) (by show k < _; have : (k : Int) ≤ P.M.most := h3; omega) h1
    exact ⟨u', h4, Rat.le_trans h5 h2⟩
  cases ho : lstO T P.a P.b (P.M.most.toNat + 1) with
  | none => exact .inl ⟨rfl, fun k c hp => by obtain ⟨u, h1, _⟩ := hk hp; rw [ho] at h1; cases h1⟩
  | some u =>
    obtain ⟨k, _, h2⟩ := lstO_mem ho
    exact .inr ⟨u, k, rfl, h.sound _ _ h2, fun k' c' hp => by obtain ⟨u', h3, h4⟩ := hk hp; rw [ho] at h3; cases h3; exact h4⟩
def costT : Option Rat → ByteArray
  | none => infS
  | some q => txt q
def TooL (P : EP) : Prop := ∃ p c l q d, Pth P p c ∧ Sp P p l q d ∧ ¬ fitQ (c + d)
end Go.Proofs.YtjekapjbigfkbaaGreatDoor

namespace Go.Proofs.YtjekapjbigfkbaaGreatDoor
open Go Go.RowKit Go.Deep
set_option maxRecDepth 100000
set_option linter.unusedSimpArgs false
def Si (z : Option Nat) (w : World) (v : Value) (n : Nat) (x : Nat → Int) : Prop := Rd z w v n fun i => .int .i64 (x i)
def EdS (z : Option Nat) (w : World) (v : Value) (M : EM) : Prop :=
  (M.n = 0 ∧ ∃ a cap, v = .slice a 0 cap ∧ cap ≤ maxLen) ∨ ∃ b off cap, ∃ F T : Nat → Value, v = .slice (some ⟨b, off, none⟩) M.n cap ∧ (b < w.heap.size ∧ some b ≠ z) ∧ M.n ≤ cap ∧ cap ≤ maxLen ∧ ∀ i, i < M.n →
    w.cell? ⟨b, off + i * 3, none⟩ = some (F i) ∧ w.cell? ⟨b, off + i * 3 + 1, none⟩ = some (T i) ∧ w.cell? ⟨b, off + i * 3 + 2, none⟩ = some (.string (M.e i).w) ∧ Si z w (F i) (M.e i).nf (M.e i).f ∧ Si z w (T i) (M.e i).nt (M.e i).t
theorem EdS.kept {z : Option Nat} {w w' : World} {v : Value} {M : EM} (h : EdS z w v M) (hg : w.grownBy w' z) : EdS z w' v M := by
  rcases h with h | ⟨b, off, cap, F, T, hv, h1, h2, h3, h4⟩
  · exact .inl h
  · refine .inr ⟨b, off, cap, F, T, hv, ⟨Nat.lt_of_lt_of_le h1.1 hg.size, h1.2⟩, h2, h3, fun i hi => ?_⟩
    obtain ⟨c1, c2, c3, c4, c5⟩ := h4 i hi
    exact ⟨hg.cell c1 h1.2, hg.cell c2 h1.2, hg.cell c3 h1.2, c4.kept hg, c5.kept hg⟩
theorem EdS.open {z : Option Nat} {w : World} {v : Value} {M : EM} (h : EdS z w v M) : ∃ a cap b off, ∃ (A A' : Nat → Option Addr) (C C' : Nat → Nat), v = .slice a M.n cap ∧ (0 < M.n → a = some ⟨b, off, none⟩) ∧ M.n ≤ cap ∧ cap ≤ maxLen ∧ (0 < M.n → b < w.heap.size ∧ some b ≠ z) ∧
    ∀ i, i < M.n → w.cell? ⟨b, off + i * 3, none⟩ = some (.slice (A i) (M.e i).nf (C i)) ∧ w.cell? ⟨b, off + i * 3 + 1, none⟩ = some (.slice (A' i) (M.e i).nt (C' i)) ∧ w.cell? ⟨b, off + i * 3 + 2, none⟩ = some (.string (M.e i).w) ∧
      Si z w (.slice (A i) (M.e i).nf (C i)) (M.e i).nf (M.e i).f ∧ Si z w (.slice (A' i) (M.e i).nt (C' i)) (M.e i).nt (M.e i).t := by
  rcases h with ⟨h0, a, cap, rfl, hm⟩ | ⟨b, off, cap, F, T, rfl, h1, h2, h3, h4⟩
  · exact ⟨a, cap, 0, 0, fun _ => none, fun _ => none, fun _ => 0, fun _ => 0, by rw [h0], by omega, by omega, hm, by omega, fun i hi => by omega⟩
  · classical
    have hall : ∀ i, ∃ t : (Option Addr × Nat) × (Option Addr × Nat), i < M.n → F i = .slice t.1.1 (M.e i).nf t.1.2 ∧ T i = .slice t.2.1 (M.e i).nt t.2.2 := fun i => by
      by_cases hi : i < M.n
      · obtain ⟨_, _, _, c4, c5⟩ := h4 i hi
        obtain ⟨a1, k1, e1⟩ := c4.shape
        obtain ⟨a2, k2, e2⟩ := c5.shape
        exact ⟨((a1, k1), (a2, k2)), fun _ => ⟨e1, e2⟩⟩
      · exact ⟨((none, 0), (none, 0)), fun h => absurd h hi⟩
    refine ⟨_, cap, b, off, fun i => (Classical.choose (hall i)).1.1, fun i => (Classical.choose (hall i)).2.1, fun i => (Classical.choose (hall i)).1.2, fun i => (Classical.choose (hall i)).2.2, rfl, fun _ => rfl, h2, h3, fun _ => h1, fun i hi => ?_⟩
    obtain ⟨k1, k2⟩ := Classical.choose_spec (hall i) hi
    obtain ⟨c1, c2, c3, c4, c5⟩ := h4 i hi
    rw [k1] at c1 c4
    rw [k2] at c2 c5
    exact ⟨c1, c2, c3, c4, c5⟩
def Em (z : Option Nat) (w : World) (v : Value) (M : EM) : Prop := ∃ sv, v = .agg #[sv, .int .i64 M.most] ∧ EdS z w sv M
structure ESz (M : EM) : Prop where
  n : (M.n : Int) ≤ 9223372036854775807
  f : ∀ i, ((M.e i).nf : Int) ≤ 4611686018427387903
  t : ∀ i, ((M.e i).nt : Int) ≤ 4611686018427387903
  w : ∀ i, ((M.e i).w.size : Int) ≤ 9223372036854775807
  m0 : -9223372036854775808 ≤ M.most
  m1 : M.most ≤ 9223372036854775807
def TstF (nf : FuncId) (cap : Array Value) (p : Int → Bool) (w : World) : Prop :=
  (∀ args w, (callFunc nf args).run Tryz.prog w = .ok (.enter nf args) w) ∧ ∀ s : Int, Calls Tryz.prog nf (#[.int .i64 s] ++ cap) w (fun r w' => r = .returned (.bool (p s)) ∧ w' = w)
def anyI (n : Nat) (x : Nat → Int) (p : Int → Bool) : Bool := (List.range n).any fun i => p (x i)
theorem anyI_iff {n : Nat} {x : Nat → Int} {p : Int → Bool} : anyI n x p = true ↔ ∃ i, i < n ∧ p (x i) = true := by simp [anyI]
set_option maxHeartbeats 4000000 in
theorem idxf_any {n nf : Nat} {cap0 : Array Value} {v : Value} {x : Nat → Int} {p : Int → Bool} (w : World) (hx : Si none w v n x) (hn : (n : Int) ≤ 9223372036854775807) (ht : TstF nf cap0 p w) :
    Calls Tryz.prog 129 #[v, .func (.func nf) #[] cap0] w (fun r w' => w' = w ∧ ∃ k : Int, r = .returned (.int .i64 k) ∧ (decide (0 ≤ k) = anyI n x p)) := by
  obtain ⟨a, cap, b, off, rfl, ha, hc, hm, hb, hcell⟩ := hx.open
  unfold maxLen at hm
  obtain ⟨hen, htst⟩ := ht
  have HA := Lib.hid ha; clear ha
  have HB := Lib.hid hb; clear hb
  have HX := Lib.hid hcell; clear hcell hx
  have HT := Lib.hid htst; clear htst
  go_enter Tryz.func129, Tryz.ntmps129
  go_wp2_with fail
  go_loop [8] (fun i => ∃ q : Nat, q ≤ n ∧ i = .int .i64 (q : Int) ∧ ∀ j, j < q → p (x j) = false) (fun i => n - (intOf i).toNat)
  case atStart => exact ⟨0, Nat.zero_le _, rfl, fun j hj => by omega⟩
  case round =>
    obtain ⟨q, hq, rfl, hno⟩ := hrel
    have HNO := Lib.hid hno; clear hno
    by_cases hlt : q < n
    · have hqz : (q : Int) < (n : Int) := by omega
      have hqz0 : (0 : Int) ≤ (q : Int) := by omega
      obtain rfl := HA.out (by omega)
      have c0 := HX.out q hlt
      have hcall := HT.out (x q)
      have HC := Lib.hid hcall; clear hcall
      go_wp2_with fail
      refine HC.out.mono ?_
      rintro r w1 ⟨rfl, rfl⟩
      cases hp : p (x q)
      · have HP := Lib.hid hp; clear hp
        go_wp2_with fail
        go_round
        case rel => exact ⟨q + 1, by omega, by go_num, fun j hj => by
          by_cases e : j = q
          · subst e; exact HP.out
          · exact HNO.out j (by omega)⟩
        case measure => simp [intOf]; omega
      · have HP := Lib.hid hp; clear hp
        go_wp2_with fail
        go_ret
        refine ⟨rfl, _, rfl, ?_⟩
        have h1 : anyI n x p = true := anyI_iff.2 ⟨q, hlt, HP.out⟩
        rw [h1]; simp
    · have hqn : q = n := by omega
      have hgt : ¬ ((q : Int) < (n : Int)) := by omega
      have HQ := Lib.hid hqn; clear hqn
      go_wp2_with fail
      go_ret
      refine ⟨rfl, _, rfl, ?_⟩
      have h1 : anyI n x p = false := by
        cases h2 : anyI n x p
        · rfl
        · obtain ⟨i, h3, h4⟩ := anyI_iff.1 h2
          rw [HNO.out i (by rw [HQ.out]; exact h3)] at h4; cases h4
      rw [h1]; rfl
theorem contains_any {n nf : Nat} {cap0 : Array Value} {v : Value} {x : Nat → Int} {p : Int → Bool} (w : World) (hx : Si none w v n x) (hn : (n : Int) ≤ 9223372036854775807) (ht : TstF nf cap0 p w) :
    Calls Tryz.prog 89 #[v, .func (.func nf) #[] cap0] w (fun r w' => r = .returned (.bool (anyI n x p)) ∧ w' = w) := by
  have HI := Lib.hid (idxf_any w hx hn ht)
  clear hx hn ht
  go_enter Tryz.func89, Tryz.ntmps89
  go_wp2_with fail
  refine HI.out.mono ?_
  rintro r w1 ⟨rfl, k, rfl, hk⟩
  have HK := Lib.hid hk; clear hk
  go_wp2_with fail
  go_ret
  exact ⟨ret_bool HK.out, rfl⟩
theorem enterSym : ∀ args w, (callFunc 90 args).run Tryz.prog w = .ok (.enter 90 args) w := fun args w => by kernel_rfl
def offI (sig s : Int) : Bool := decide (s < 1) || decide (sig < s)
def wordB (n : Nat) (x : Nat → Int) (sig : Int) : Bool := !anyI n x (offI sig)
theorem wordB_iff {n : Nat} {x : Nat → Int} {sig : Int} : wordB n x sig = true ↔ wordI n x sig := by
  unfold wordB
  rw [Bool.not_eq_true', Bool.eq_false_iff]
  constructor
  · intro h i hi
    cases h2 : offI sig (x i)
    · unfold offI at h2; simp at h2; omega
    · exact absurd (anyI_iff.2 ⟨i, hi, h2⟩) h
  · intro h h1
    obtain ⟨i, h2, h3⟩ := anyI_iff.1 h1
    have := h i h2
    unfold offI at h3; simp at h3; omega
theorem wordB_not {n : Nat} {x : Nat → Int} {sig : Int} : wordB n x sig = false ↔ ¬ wordI n x sig := by
  rw [← wordB_iff]; simp
def eqB (n m : Nat) (x y : Nat → Int) : Bool := decide (n = m) && (List.range n).all fun k => x k == y k
theorem eqB_iff {n m : Nat} {x y : Nat → Int} : eqB n m x y = true ↔ n = m ∧ ∀ k, k < n → x k = y k := by simp [eqB]
theorem eqB_not {n m : Nat} {x y : Nat → Int} (h : ¬ (n = m ∧ ∀ k, k < n → x k = y k)) : eqB n m x y = false := by
  cases e : eqB n m x y
  · rfl
  · exact absurd (eqB_iff.1 e) h
theorem sym1_any {sb : Nat} {sig : Int} (w : World) (h : w.cell? ⟨sb, 0, none⟩ = some (.int .i64 sig)) (s : Int) :
    Calls Tryz.prog 90 #[.int .i64 s, .pointer (some ⟨sb, 0, none⟩)] w (fun r w' => r = .returned (.bool (offI sig s)) ∧ w' = w) := by
  by_cases h1 : s < 1
  · go_enter Tryz.func90, Tryz.ntmps90
    go_wp2_with fail
    go_ret
    exact ⟨ret_bool (by simp [offI, h1]), rfl⟩
  · have h1' : decide (s < 1) = false := by simp; omega
    go_enter Tryz.func90, Tryz.ntmps90
    go_wp2_with fail
    go_ret
    exact ⟨ret_bool (by simp [offI, h1']), rfl⟩
theorem symbols_any {n : Nat} {v : Value} {x : Nat → Int} {sig : Int} (w : World) (hx : Si none w v n x) (hn : (n : Int) ≤ 9223372036854775807) :
    Calls Tryz.prog 39 #[v, .int .i64 sig] w (fun r w' => r = .returned (.bool (wordB n x sig)) ∧ Below w.heap.size w w') := by
  obtain ⟨wm, hwm⟩ : ∃ wm, wm = w.alloc (.cells #[.int .i64 sig] 3) := ⟨_, rfl⟩
  obtain ⟨sb, hsb⟩ : ∃ sb, sb = w.heap.size := ⟨_, rfl⟩
  have hbel := (Below.refl w.heap.size w).alloc (Nat.le_refl _) (.cells #[.int .i64 sig] 3)
  have hcl : (w.alloc (.cells #[.int .i64 sig] 3)).cell? ⟨w.heap.size, 0, none⟩ = some (.int .i64 sig) := cell_new w _ _ 0 _ rfl
  have hx1 : Si none wm v n x := by rw [hwm]; exact Rd.kept hx (World.grownBy_alloc _ _ _)
  rw [← hwm, ← hsb] at hcl
  rw [← hwm] at hbel
  have htf : TstF 90 #[.pointer (some ⟨sb, 0, none⟩)] (offI sig) wm := ⟨enterSym, fun s => sym1_any wm hcl s⟩
  have hct := contains_any wm hx1 hn htf
  clear htf
  obtain ⟨a, cap, rfl⟩ := hx.shape
  have HC := Lib.hid hct; clear hct hcl hx hx1
  have HB := Lib.hid hbel; clear hbel
  have hmf : ∀ (fn : Fn) (first cap : Array Value) (w : World), (Instr.makeFunc fn first cap).run Tryz.prog w = .ok (.func fn first cap) w := fun _ _ _ _ => rfl
  go_enter Tryz.func39, Tryz.ntmps39
  go_wp2_with fail
  rw [← hwm, ← hsb]
  clear hwm hsb
  refine HC.out.mono ?_
  rintro r w1 ⟨rfl, rfl⟩
  go_wp2_with fail
  go_ret
  exact ⟨rfl, HB.out⟩
set_option maxHeartbeats 4000000 in
theorem equal_any {n m : Nat} {v v' : Value} {x y : Nat → Int} (w : World) (hx : Si none w v n x) (hy : Si none w v' m y) (hn : (n : Int) ≤ 9223372036854775807) (hm' : (m : Int) ≤ 9223372036854775807) :
    Calls Tryz.prog 167 #[v, v'] w (fun r w' => r = .returned (.bool (eqB n m x y)) ∧ Below w.heap.size w w') := by
  obtain ⟨a, cap, b, off, rfl, ha, hc, hm, hb, hcell⟩ := hx.open
  obtain ⟨a', cap', b', off', rfl, ha', hc', hm'', hb', hcell'⟩ := hy.open
  unfold maxLen at hm hm''
  clear hx hy
  have HA := Lib.hid ha; clear ha
  have HB := Lib.hid hb; clear hb
  have HX := Lib.hid hcell; clear hcell
  have HA' := Lib.hid ha'; clear ha'
  have HB' := Lib.hid hb'; clear hb'
  have HX' := Lib.hid hcell'; clear hcell'
  by_cases hnm : n = m
  · subst hnm
    go_enter Tryz.func167, Tryz.ntmps167
    go_wp2_with fail
    go_loopw [13] (fun i wr => ∃ q : Nat, q ≤ n ∧ i = .int .i64 (q : Int) ∧ (∀ j, j < q → x j = y j) ∧ Below w.heap.size w wr) (fun i _ => n - (intOf i).toNat)
    case atStart => exact ⟨0, Nat.zero_le _, rfl, fun j hj => by omega, Below.refl _ _⟩
    case round =>
      obtain ⟨q, hq, rfl, hno, hbw⟩ := hrel
      have HBW := Lib.hid hbw; clear hbw
      have HNO := Lib.hid hno; clear hno
      by_cases hlt : q < n
      · have hqz : (q : Int) < (n : Int) := by omega
        have hqz0 : (0 : Int) ≤ (q : Int) := by omega
        obtain rfl := HA.out (by omega)
        obtain rfl := HA'.out (by omega)
        have c0 := (HBW.out.cell (p := ⟨b, off + q, none⟩) (HB.out (by omega)).1).trans (HX.out q hlt)
        have c1 := (HBW.out.cell (p := ⟨b', off' + q, none⟩) (HB'.out (by omega)).1).trans (HX'.out q hlt)
        by_cases he : x q = y q
        · have he' : decide (x q = y q) = true := by simp [he]
          rw [← he] at c1
          go_wp2_with fail
          go_quiet (fail)
          go_wp2_with fail
          go_roundw
          case rel =>
            refine ⟨q + 1, by omega, by go_num, fun j hj => ?_, below_drewN HBW.out nq⟩
            by_cases e : j = q
            · subst e; exact he
            · exact HNO.out j (by omega)
          case measure => simp [intOf]; omega
        · have HE := Lib.hid he
          go_wp2_with fail
          go_quiet (fail)
          go_wp2_with fail
          go_ret
          exact ⟨ret_bool (eqB_not (fun h => HE.out (h.2 q hlt))).symm, below_drewN HBW.out nq⟩
      · have hqn : q = n := by omega
        have hgt : ¬ ((q : Int) < (n : Int)) := by omega
        have HQ := Lib.hid hqn; clear hqn
        go_wp2_with fail
        go_ret
        exact ⟨ret_bool (eqB_iff.2 ⟨rfl, fun i hi => HNO.out i (by rw [HQ.out]; exact hi)⟩).symm, HBW.out⟩
  · have hne : ¬ (n : Int) = (m : Int) := by omega
    go_enter Tryz.func167, Tryz.ntmps167
    go_wp2_with fail
    go_ret
    exact ⟨ret_bool (eqB_not (fun h => hnm h.1)).symm, Below.refl _ _⟩
theorem Rd.cut {z : Option Nat} {w : World} {a : Option Addr} {n cap : Nat} {f : Nat → Value} (h : Rd z w (.slice a n cap) n f) {m : Nat} (hm : m ≤ n) : Rd z w (.slice a m cap) m f := by
  rcases h with ⟨rfl, a', c', hv, hc⟩ | ⟨b, off, c', hv, h1, h2, h3, h4⟩
  · have : m = 0 := by omega
    subst this
    cases hv; exact .inl ⟨rfl, _, _, rfl, hc⟩
  · cases hv
    exact .inr ⟨b, off, cap, rfl, h1, by omega, h3, fun i hi => h4 i (by omega)⟩
def bgB (n m : Nat) (x y : Nat → Int) : Bool := decide (m ≤ n) && (List.range m).all fun k => x k == y k
theorem bgB_eq {n m : Nat} {x y : Nat → Int} (h : m ≤ n) : bgB n m x y = eqB m m x y := by simp [bgB, eqB, h]
theorem begins_any {n m : Nat} {v v' : Value} {x y : Nat → Int} (w : World) (hx : Si none w v n x) (hy : Si none w v' m y) (hm' : (m : Int) ≤ 9223372036854775807) :
    Calls Tryz.prog 131 #[v, v'] w (fun r w' => r = .returned (.bool (bgB n m x y)) ∧ Below w.heap.size w w') := by
  obtain ⟨a, cap, b, off, rfl, ha, hc, hm, hb, hcell⟩ := hx.open
  obtain ⟨a', cap', b', off', rfl, ha', hc', hm'', hb', hcell'⟩ := hy.open
  unfold maxLen at hm hm''
  by_cases hmn : m ≤ n
  · have hz : (m : Int) ≤ (n : Int) := by omega
    have hz0 : (0 : Int) ≤ (m : Int) := by omega
    have hzc : (m : Int) ≤ (cap : Int) := by omega
    have heq := equal_any w (hx.cut hmn) hy (by omega) hm'
    have HE := Lib.hid heq; clear heq
    have HM := Lib.hid hmn; clear hmn ha hb hcell ha' hb' hcell' hx hy
    go_enter Tryz.func131, Tryz.ntmps131
    go_wp2_with fail
    refine HE.out.mono ?_
    rintro r w1 ⟨rfl, hb⟩
    have HBB := Lib.hid hb; clear hb
    go_wp2_with fail
    go_ret
    exact ⟨ret_bool (bgB_eq HM.out).symm, HBB.out⟩
  · have hz : decide ((m : Int) ≤ (n : Int)) = false := by simp; omega
    clear ha hb hcell ha' hb' hcell' hx hy
    go_enter Tryz.func131, Tryz.ntmps131
    go_wp2_with fail
    go_ret
    exact ⟨ret_bool (by simp [bgB, hmn]), Below.refl _ _⟩
def costB (s : ByteArray) : Bool := match prs s with | some q => decide (0 ≤ q) | none => false
theorem costB_iff {s : ByteArray} : costB s = true ↔ costOk s := by
  unfold costB costOk
  cases h : prs s <;> simp
theorem cost_any (s : ByteArray) (w : World) (hs : s.size ≤ 9223372036854775807) (ht : Tab w) : Calls Tryz.prog 40 #[.string s] w (fun r w' => r = .returned (.bool (costB s)) ∧ Below w.heap.size w w') := by
  have hv := qvalid_any s w hs ht
  cases hp : prs s with
  | none =>
    rw [hp] at hv
    have HV := Lib.hid hv; clear hv
    have HP := Lib.hid hp; clear hp ht
    go_enter Tryz.func40, Tryz.ntmps40
    go_wp2_with fail
    refine HV.out.mono ?_
    rintro r w1 ⟨rfl, hb⟩
    have HB := Lib.hid hb; clear hb
    go_wp2_with fail
    go_ret
    exact ⟨ret_bool (by unfold costB; rw [HP.out]), HB.out⟩
  | some q =>
    rw [hp] at hv
    have hpz : prs ⟨#[48]⟩ = some 0 := by decide +kernel
    have hcz : qcmpF s ⟨#[48]⟩ = cmpQ q 0 := by unfold qcmpF; rw [hp, hpz]
    have hc := fun w1 (hb : Below w.heap.size w w1) => qcmp_any s ⟨#[48]⟩ w1 hs (by decide) (ht.below hb (Nat.le_refl _))
    rw [hcz] at hc
    have HC := Lib.hid hc; clear hc hcz hpz
    have HV := Lib.hid hv; clear hv
    have HP := Lib.hid hp; clear hp ht
    go_enter Tryz.func40, Tryz.ntmps40
    go_wp2_with fail
    refine HV.out.mono ?_
    rintro r w1 ⟨rfl, hb⟩
    have hc1 := HC.out w1 hb
    have HB := Lib.hid hb; clear hb
    have HC1 := Lib.hid hc1; clear hc1 HC
    go_wp2_with fail
    refine HC1.out.mono ?_
    rintro r w2 ⟨rfl, hb2⟩
    have HB2 := Lib.hid (HB.out.trans (hb2.mono HB.out.size)); clear hb2
    go_wp2_with fail
    go_ret
    exact ⟨ret_bool (by
      unfold costB; rw [HP.out]
      rcases cmpQ_cases q 0 with ⟨h, e⟩ | ⟨h, e⟩ | ⟨h, e⟩ <;> rw [e]
      · simp [Rat.not_le.2 h]
      · subst h; simp
      · simp [Rat.le_of_lt h]), HB2.out⟩
end Go.Proofs.YtjekapjbigfkbaaGreatDoor
