/- Parts of a proof: TrmL EdP. -/
import Derived.Test.YtjekapjbigfkbaaGreatDoorS16
import Derived.Test.YtjekapjbigfkbaaGreatDoorS22
namespace Go.Proofs.YtjekapjbigfkbaaGreatDoor
open Go
set_option maxRecDepth 100000
set_option linter.unusedSimpArgs false
inductive Rea (R : Nat → Prop) (S : Nat → Nat → Prop) : Nat → Prop
  | root {i : Nat} : R i → Rea R S i
  | step {i j : Nat} : Rea R S i → S i j → Rea R S j
structure Srch (n : Nat) (R : Nat → Prop) (S : Nat → Nat → Prop) (P : Nat → Nat → Prop) (Q : Nat → Prop) (f : Nat → Bool) (l : List Nat) : Prop where
  sound : ∀ i, f i = true → Rea R S i
  todo : ∀ i, i ∈ l → i < n ∧ f i = true
  done : ∀ i j, f i = true → i ∉ l → S i j → f j = true ∨ P i j
  roots : ∀ i, R i → f i = true ∨ Q i
theorem Srch.start (n : Nat) (R : Nat → Prop) (S : Nat → Nat → Prop) : Srch n R S (fun _ _ => False) R (fun _ => false) [] :=
  ⟨fun _ h => by simp at h, fun _ h => by simp at h, fun _ _ h => by simp at h, fun _ h => .inr h⟩
theorem Srch.old {n : Nat} {R : Nat → Prop} {S P P' : Nat → Nat → Prop} {Q Q' : Nat → Prop} {f : Nat → Bool} {l : List Nat} {t : Nat} (h : Srch n R S P Q f l) (ht : f t = true) (hP : ∀ i j, P i j → j = t ∨ P' i j) (hQ : ∀ i, Q i → i = t ∨ Q' i) : Srch n R S P' Q' f l := by
  refine ⟨h.sound, h.todo, fun i j h1 h2 h3 => ?_, fun i h1 => ?_⟩
  · rcases h.done i j h1 h2 h3 with e | e
    · exact .inl e
    · rcases hP i j e with rfl | e
      · exact .inl ht
      · exact .inr e
  · rcases h.roots i h1 with e | e
    · exact .inl e
    · rcases hQ i e with rfl | e
      · exact .inl ht
      · exact .inr e
theorem Srch.end {n : Nat} {R : Nat → Prop} {S : Nat → Nat → Prop} {f : Nat → Bool} (h : Srch n R S (fun _ _ => False) (fun _ => False) f []) (i : Nat) : f i = true ↔ Rea R S i := by
  refine ⟨h.sound i, fun hi => ?_⟩
  induction hi with
  | root h1 => exact (h.roots _ h1).resolve_right id
  | step _ h2 ih => exact (h.done _ _ ih (by simp) h2).resolve_right id
def left (f : Nat → Bool) : Nat → Nat
  | 0 => 0
  | n + 1 => left f n + if f n then 0 else 1
def nums (f : Nat → Bool) : Nat → List Nat
  | 0 => []
  | n + 1 => nums f n ++ if f n then [n] else []
def Stp (D : MD) (i j : Nat) : Prop := i < D.n ∧ ∃ k, k < D.na i ∧ (D.ato i k).toNat = j
def Fwd (D : MD) : Nat → Prop := Rea (fun i => i = D.start.toNat) (Stp D)
def IsF (D : MD) (i : Nat) : Prop := i < D.n ∧ D.fin i ≠ ⟨#[]⟩
def Bwd (D : MD) : Nat → Prop := Rea (IsF D) (fun i j => Stp D j i)
theorem Fwd.lt {D : MD} (h : VM D) {i : Nat} (hi : Fwd D i) : i < D.n := by
  induction hi with
  | root h1 => have := h.s0; have := h.s1; omega
  | step _ h2 _ =>
    obtain ⟨h3, k, h4, rfl⟩ := h2
    have h5 := h.arc _ _ h3 h4
    have := h5.t0; have := h5.t1; omega
theorem Bwd.lt {D : MD} {i : Nat} (hi : Bwd D i) : i < D.n := by
  cases hi with
  | root h1 => exact h1.1
  | step _ h2 => exact h2.1
end Go.Proofs.YtjekapjbigfkbaaGreatDoor

namespace Go.Proofs.YtjekapjbigfkbaaGreatDoor
open Go
set_option maxRecDepth 100000
set_option linter.unusedSimpArgs false
abbrev XT := Nat → Nat → Nat → ByteArray
abbrev ST := XT × Nat
def canB (P : EP) (p : Pl) (e : Nat) : Bool := decide (p.2.1 + (P.M.e e).nf ≤ P.a) && (List.range (P.M.e e).nf).all (fun k => P.x (p.2.1 + k) == (P.M.e e).f k) && (decide (p.2.2 + (P.M.e e).nt ≤ P.b) && (List.range (P.M.e e).nt).all (fun k => P.y (p.2.2 + k) == (P.M.e e).t k))
theorem canB_iff {P : EP} {p : Pl} {e : Nat} : canB P p e = true ↔ bgs P.a P.x p.2.1 (P.M.e e).nf (P.M.e e).f ∧ bgs P.b P.y p.2.2 (P.M.e e).nt (P.M.e e).t := by
  unfold canB bgs; simp
def toP (P : EP) (p : Pl) (e : Nat) : Pl := (p.1 + 1, p.2.1 + (P.M.e e).nf, p.2.2 + (P.M.e e).nt)
def edFold (P : EP) (p : Pl) : Nat → ST → ST
  | 0, s => s
  | e + 1, s => if canB P p e = true then reaC (edFold P p e s).1 (edFold P p e s).2 p (toP P p e) (P.M.e e).w else edFold P p e s
def cpC (P : EP) (p : Pl) (s : ST) : ST := if p.2.1 < P.a ∧ p.2.2 < P.b ∧ P.x p.2.1 = P.y p.2.2 then reaC s.1 s.2 p (p.1, p.2.1 + 1, p.2.2 + 1) ⟨#[48]⟩ else s
def stpC (P : EP) (p : Pl) (s : ST) : ST :=
  if s.1 p.1 p.2.1 p.2.2 = ⟨#[]⟩ then s else if (p.1 : Int) = P.M.most then cpC P p s else edFold P p P.M.n (cpC P p s)
def colP (P : EP) (k i : Nat) : Nat → ST → ST
  | 0, s => s
  | j + 1, s => stpC P (k, i, j) (colP P k i j s)
def rowP (P : EP) (k : Nat) : Nat → ST → ST
  | 0, s => s
  | i + 1, s => colP P k i (P.b + 1) (rowP P k i s)
def tabP (P : EP) : Nat → ST → ST
  | 0, s => s
  | k + 1, s => rowP P k (P.a + 1) (tabP P k s)
def X0 : XT := fun k i j => if k = 0 ∧ i = 0 ∧ j = 0 then ⟨#[48]⟩ else ⟨#[]⟩
def lstS (X : XT) (a b : Nat) : Nat → ByteArray
  | 0 => infS
  | m + 1 => if X m a b ≠ ⟨#[]⟩ ∧ (lstS X a b m = infS ∨ qcmpF (X m a b) (lstS X a b m) < 0) then X m a b else lstS X a b m
def costC (P : EP) : ByteArray × Nat :=
  if (tabP P (P.M.most.toNat + 1) (X0, 0)).2 ≠ 0 then (⟨#[]⟩, (tabP P (P.M.most.toNat + 1) (X0, 0)).2)
  else (lstS (tabP P (P.M.most.toNat + 1) (X0, 0)).1 P.a P.b (P.M.most.toNat + 1), 0)
def RelX (X : XT) (T : TbE) : Prop := ∀ k i j, (T (k, i, j) = none ∧ X k i j = ⟨#[]⟩) ∨ ∃ c, T (k, i, j) = some c ∧ X k i j = txt c ∧ fitQ c
theorem prs_nil : prs ⟨#[]⟩ = none := by decide +kernel
theorem txt_nil {c : Rat} (h : fitQ c) : txt c ≠ ⟨#[]⟩ := fun e => by have := prs_txt h; rw [e, prs_nil] at this; cases this
theorem RelX.at {X : XT} {T : TbE} (h : RelX X T) {p : Pl} {c : Rat} (hp : T p = some c) : X p.1 p.2.1 p.2.2 = txt c ∧ fitQ c := by
  rcases h p.1 p.2.1 p.2.2 with ⟨h1, _⟩ | ⟨c', h1, h2, h3⟩
  · rw [show (p.1, p.2.1, p.2.2) = p from rfl, hp] at h1; cases h1
  · rw [show (p.1, p.2.1, p.2.2) = p from rfl, hp] at h1; cases h1; exact ⟨h2, h3⟩
theorem RelX.empty {X : XT} {T : TbE} (h : RelX X T) {p : Pl} (hp : X p.1 p.2.1 p.2.2 = ⟨#[]⟩) : T p = none := by
  rcases h p.1 p.2.1 p.2.2 with ⟨h1, _⟩ | ⟨c', h1, h2, h3⟩
  · exact h1
  · rw [hp] at h2; exact absurd h2.symm (txt_nil h3)
theorem RelX.some_of {X : XT} {T : TbE} (h : RelX X T) {p : Pl} (hp : X p.1 p.2.1 p.2.2 ≠ ⟨#[]⟩) : ∃ c, T p = some c := by
  rcases h p.1 p.2.1 p.2.2 with ⟨_, h1⟩ | ⟨c', h1, _⟩
  · exact absurd h1 hp
  · exact ⟨c', h1⟩
theorem RelX.upd {X : XT} {T : TbE} (h : RelX X T) {q : Pl} {v : Rat} (hv : fitQ v) : RelX (updX X q.1 q.2.1 q.2.2 (txt v)) (fun r => if r = q then some v else T r) := by
  intro k i j
  unfold updX
  by_cases e : (k, i, j) = q
  · subst e
    exact .inr ⟨v, by simp, by simp, hv⟩
  · have e2 : ¬ (k = q.1 ∧ i = q.2.1 ∧ j = q.2.2) := fun h => e (by obtain ⟨h1, h2, h3⟩ := h; rw [h1, h2, h3])
    rw [if_neg e2]
    rcases h k i j with ⟨h1, h2⟩ | ⟨c, h1, h2⟩
    · exact .inl ⟨by simp [e, h1], h2⟩
    · exact .inr ⟨c, by simp [e, h1], h2⟩
theorem rea_fit {X : XT} {T : TbE} (h : RelX X T) {e : Nat} {p q : Pl} {c d : Rat} {wt : ByteArray} (hp : T p = some c) (hd : prs wt = some d) (hf : fitQ (c + d)) : ∃ X', reaC X e p q wt = (X', e) ∧ RelX X' (relx T q (c + d)) := by
  obtain ⟨h1, h2⟩ := h.at hp
  have ha : qaddF (X p.1 p.2.1 p.2.2) wt = (txt (c + d), 0) := by unfold qaddF; rw [h1, prs_txt h2, hd]; exact limR_fit hf
  unfold reaC
  rw [ha, if_neg (by simp)]
  cases hq : T q with
  | none =>
    have hx : X q.1 q.2.1 q.2.2 = ⟨#[]⟩ := by
      rcases h q.1 q.2.1 q.2.2 with ⟨_, h3⟩ | ⟨c', h3, _⟩
      · exact h3
      · rw [show (q.1, q.2.1, q.2.2) = q from rfl, hq] at h3; cases h3
    rw [if_pos (.inl hx)]
    refine ⟨_, rfl, ?_⟩
    have hr : relx T q (c + d) = fun r => if r = q then some (c + d) else T r := by funext r; unfold relx; rw [hq]
    rw [hr]; exact h.upd hf
  | some u =>
    obtain ⟨h3, h4⟩ := h.at hq
    have hcm : qcmpF (txt (c + d)) (X q.1 q.2.1 q.2.2) = cmpQ (c + d) u := by unfold qcmpF; rw [h3, prs_txt hf, prs_txt h4]
    have hne : X q.1 q.2.1 q.2.2 ≠ ⟨#[]⟩ := by rw [h3]; exact txt_nil h4
    show ∃ X', (if X q.1 q.2.1 q.2.2 = ⟨#[]⟩ ∨ qcmpF (txt (c + d)) (X q.1 q.2.1 q.2.2) < 0 then (updX X q.1 q.2.1 q.2.2 (txt (c + d)), e) else (X, e)) = (X', e) ∧ _
    rw [hcm]
    rcases cmpQ_cases (c + d) u with ⟨h5, h6⟩ | ⟨h5, h6⟩ | ⟨h5, h6⟩
    · rw [if_pos (.inr (by rw [h6]; decide))]
      refine ⟨_, rfl, ?_⟩
      have hr : relx T q (c + d) = fun r => if r = q then some (c + d) else T r := by funext r; unfold relx; rw [hq]; simp [h5]
      rw [hr]; exact h.upd hf
    · rw [if_neg (fun h => by rcases h with h | h; exact hne h; rw [h6] at h; exact absurd h (by decide))]
      refine ⟨_, rfl, ?_⟩
      have hr : relx T q (c + d) = T := by funext r; unfold relx; rw [hq]; by_cases e : r = q <;> simp [e, hq, h5]
      rw [hr]; exact h
    · rw [if_neg (fun h => by rcases h with h | h; exact hne h; rw [h6] at h; exact absurd h (by decide))]
      refine ⟨_, rfl, ?_⟩
      have hr : relx T q (c + d) = T := by funext r; unfold relx; rw [hq]; by_cases e : r = q <;> simp [e, hq, Rat.not_lt.2 (Rat.le_of_lt h5)]
      rw [hr]; exact h
theorem rea_long {X : XT} {T : TbE} (h : RelX X T) {e : Nat} {p q : Pl} {c d : Rat} {wt : ByteArray} (hp : T p = some c) (hd : prs wt = some d) (hf : ¬ fitQ (c + d)) : reaC X e p q wt = (X, 2) := by
  obtain ⟨h1, h2⟩ := h.at hp
  have ha : qaddF (X p.1 p.2.1 p.2.2) wt = (str [], 2) := by unfold qaddF; rw [h1, prs_txt h2, hd]; exact limR_long hf
  unfold reaC
  rw [ha, if_pos (by simp)]
def Iv (P : EP) (Done : Pl → Option Nat → Prop) (s : ST) : Prop := ∃ T, RelX s.1 T ∧ (∀ q c, T q = some c → Pth P q c) ∧ (s.2 = 0 → Dp P Done T) ∧ (s.2 ≠ 0 → s.2 = 2 ∧ TooL P)
theorem Iv.fits {P : EP} {Done Done' : Pl → Option Nat → Prop} {s : ST} (h : Iv P Done s) (hd : ∀ p l c q d, Done' p l → Pth P p c → Sp P p l q d → Done p l) : Iv P Done' s := by
  obtain ⟨T, h1, h2, h3, h4⟩ := h
  exact ⟨T, h1, h2, fun e => (h3 e).fits fun p l c q d a b c' => hd p l c q d a (h2 p c b) c', h4⟩
theorem Iv.rea {P : EP} {Done Done' : Pl → Option Nat → Prop} {s : ST} {p q : Pl} {l : Option Nat} {d : Rat} {wt : ByteArray} (h : Iv P Done s) (hx : s.1 p.1 p.2.1 p.2.2 ≠ ⟨#[]⟩) (hs : Sp P p l q d) (hw : prs wt = some d) (hq : ∀ l', ¬ Done' q l')
    (hd : ∀ p' l', Done' p' l' → Done p' l' ∨ (p' = p ∧ l' = l)) : Iv P Done' (reaC s.1 s.2 p q wt) := by
  obtain ⟨T, h1, h2, h3, h4⟩ := h
  obtain ⟨c, hc⟩ := h1.some_of hx
  by_cases hf : fitQ (c + d)
  · obtain ⟨X', h5, h6⟩ := rea_fit h1 (e := s.2) (q := q) hc hw hf
    rw [h5]
    refine ⟨relx T q (c + d), h6, fun r u hr => ?_, fun e => (h3 e).step hc hs hq hd, h4⟩
    by_cases e : r = q
    · subst e
      unfold relx at hr
      rw [if_pos rfl] at hr
      cases ht : T r with
      | none => rw [ht] at hr; simp at hr; subst hr; exact .step (h2 p c hc) hs
      | some u' =>
        rw [ht] at hr
        by_cases e2 : c + d < u'
        · simp [e2] at hr; subst hr; exact .step (h2 p c hc) hs
        · simp [e2] at hr; subst hr; exact h2 _ _ ht
    · rw [relx_ne e] at hr; exact h2 r u hr
  · rw [rea_long h1 (e := s.2) (q := q) hc hw hf]
    exact ⟨T, h1, h2, fun e => (by cases e), fun _ => ⟨rfl, p, c, l, q, d, h2 p c hc, hs, hf⟩⟩
theorem rea_keep {X : XT} {e : Nat} {p q : Pl} {wt : ByteArray} (h : p ≠ q) : (reaC X e p q wt).1 p.1 p.2.1 p.2.2 = X p.1 p.2.1 p.2.2 := by
  unfold reaC
  split
  · rfl
  · split
    · show updX X _ _ _ _ _ _ _ = _
      unfold updX; rw [if_neg (fun h' => h (by obtain ⟨h1, h2, h3⟩ := h'; exact Prod.ext h1 (Prod.ext h2 h3)))]
    · rfl
theorem Iv.label {P : EP} {k i j : Nat} {L L' : Option Nat → Prop} {s : ST} (h : Iv P (Dn k i j L) s) (hl : ∀ l q d, L' l → Sp P (k, i, j) l q d → L l) : Iv P (Dn k i j L') s :=
  h.fits fun p l c q d hd _ hs => by
    rcases hd with h1 | ⟨h1, h2 | ⟨h2, h3 | ⟨h3, h4⟩⟩⟩
    · exact .inl h1
    · exact .inr ⟨h1, .inl h2⟩
    · exact .inr ⟨h1, .inr ⟨h2, .inl h3⟩⟩
    · have e : p = (k, i, j) := Prod.ext h1 (Prod.ext h2 h3)
      subst e
      exact .inr ⟨rfl, .inr ⟨rfl, .inr ⟨rfl, hl l q d h4 hs⟩⟩⟩
theorem Dn.add {k i j : Nat} {L : Option Nat → Prop} {l0 : Option Nat} {p' : Pl} {l' : Option Nat} (h : Dn k i j (fun l => L l ∨ l = l0) p' l') : Dn k i j L p' l' ∨ (p' = (k, i, j) ∧ l' = l0) := by
  rcases h with h1 | ⟨h1, h2 | ⟨h2, h3 | ⟨h3, h4 | h4⟩⟩⟩
  · exact .inl (.inl h1)
  · exact .inl (.inr ⟨h1, .inl h2⟩)
  · exact .inl (.inr ⟨h1, .inr ⟨h2, .inl h3⟩⟩)
  · exact .inl (.inr ⟨h1, .inr ⟨h2, .inr ⟨h3, h4⟩⟩⟩)
  · exact .inr ⟨Prod.ext h1 (Prod.ext h2 h3), h4⟩
theorem prs_0s : prs ⟨#[48]⟩ = some 0 := by decide +kernel
theorem toP_ne (P : EP) (p : Pl) (e : Nat) : p ≠ toP P p e := fun h => by have := congrArg Prod.fst h; simp [toP] at this
theorem edFold_keep {P : EP} {p : Pl} {s : ST} : ∀ e, (edFold P p e s).1 p.1 p.2.1 p.2.2 = s.1 p.1 p.2.1 p.2.2
  | 0 => rfl
  | e + 1 => by
    unfold edFold; split
    · rw [rea_keep (toP_ne P p e)]; exact edFold_keep e
    · exact edFold_keep e
theorem cp_keep {P : EP} {p : Pl} {s : ST} : (cpC P p s).1 p.1 p.2.1 p.2.2 = s.1 p.1 p.2.1 p.2.2 := by
  unfold cpC; split
  · exact rea_keep (fun h => by have := congrArg (fun q : Pl => q.2.1) h; simp at this)
  · rfl
theorem Iv.copy {P : EP} {k i j : Nat} {s : ST} (h : Iv P (Dn k i j fun _ => False) s) (hx : s.1 k i j ≠ ⟨#[]⟩) : Iv P (Dn k i j fun l => l = none) (cpC P (k, i, j) s) := by
  unfold cpC
  split
  · rename_i hc
    have hs : Sp P (k, i, j) none (k, i + 1, j + 1) 0 := .copy hc.1 hc.2.1 hc.2.2
    exact h.rea (p := (k, i, j)) hx hs prs_0s (hs.later _) (fun p' l' hd => by
      have h1 := Dn.add (L := fun _ => False) (l0 := none) (p' := p') (l' := l') (by
        rcases hd with h1 | ⟨h1, h2 | ⟨h2, h3 | ⟨h3, h4⟩⟩⟩
        · exact .inl h1
        · exact .inr ⟨h1, .inl h2⟩
        · exact .inr ⟨h1, .inr ⟨h2, .inl h3⟩⟩
        · exact .inr ⟨h1, .inr ⟨h2, .inr ⟨h3, .inr h4⟩⟩⟩)
      exact h1)
  · rename_i hc
    exact h.label fun l q d hl hs => by
      subst hl
      cases hs with
      | copy a b c => exact absurd ⟨a, b, c⟩ hc
theorem Iv.edits {P : EP} (hv : ∀ i, i < P.M.n → EdOk (P.M.e i)) {k i j : Nat} (hk : (k : Int) < P.M.most) {s : ST} (h : Iv P (Dn k i j fun l => l = none) s) (hx : s.1 k i j ≠ ⟨#[]⟩) : ∀ e, e ≤ P.M.n → Iv P (Dn k i j (Lb e)) (edFold P (k, i, j) e s)
  | 0, _ => h.label fun l q d hl _ => by
    rcases hl with h1 | ⟨e, h1, _⟩
    · exact h1
    · omega
  | e + 1, he => by
    have ih := Iv.edits hv hk h hx e (by omega)
    have hx2 : (edFold P (k, i, j) e s).1 k i j ≠ ⟨#[]⟩ := by
      have h1 := edFold_keep (P := P) (p := (k, i, j)) (s := s) e
      rw [show (edFold P (k, i, j) e s).1 k i j = s.1 k i j from h1]; exact hx
    unfold edFold
    split
    · rename_i hc
      obtain ⟨h1, h2⟩ := canB_iff.1 hc
      have hs : Sp P (k, i, j) (some e) (toP P (k, i, j) e) (qv (P.M.e e).w) := .edit (by omega) hk h1 h2
      exact ih.rea (p := (k, i, j)) hx2 hs (hv e (by omega)).q (hs.later _) (fun p' l' hd => by
        refine Dn.add (L := Lb e) (l0 := some e) ?_
        rcases hd with h3 | ⟨h3, h4 | ⟨h4, h5 | ⟨h5, h6⟩⟩⟩
        · exact .inl h3
        · exact .inr ⟨h3, .inl h4⟩
        · exact .inr ⟨h3, .inr ⟨h4, .inl h5⟩⟩
        · refine .inr ⟨h3, .inr ⟨h4, .inr ⟨h5, ?_⟩⟩⟩
          rcases h6 with h6 | ⟨e', h6, h7⟩
          · exact .inl (.inl h6)
          · by_cases e2 : e' = e
            · right; rw [h7, e2]
            · exact .inl (.inr ⟨e', by omega, h7⟩))
    · rename_i hc
      exact ih.label fun l q d hl hs => by
        rcases hl with h3 | ⟨e', h3, h4⟩
        · exact .inl h3
        · by_cases e2 : e' = e
          · subst e2; subst h4
            cases hs with
            | edit a b c d => exact absurd (canB_iff.2 ⟨c, d⟩) hc
          · exact .inr ⟨e', by omega, h4⟩
theorem Iv.step {P : EP} (hv : ∀ i, i < P.M.n → EdOk (P.M.e i)) {k i j : Nat} (hk : (k : Int) ≤ P.M.most) {s : ST} (h : Iv P (Dn k i j fun _ => False) s) : Iv P (Dn k i (j + 1) fun _ => False) (stpC P (k, i, j) s) := by
  have hgo : ∀ {s' : ST}, Iv P (Dn k i j fun _ => True) s' → Iv P (Dn k i (j + 1) fun _ => False) s' := fun h' => h'.fits fun p l c q d hd _ _ => by
    rcases hd with h1 | ⟨h1, h2 | ⟨h2, h3 | ⟨h3, h4⟩⟩⟩
    · exact .inl h1
    · exact .inr ⟨h1, .inl h2⟩
    · by_cases e : p.2.2 = j
      · exact .inr ⟨h1, .inr ⟨h2, .inr ⟨e, trivial⟩⟩⟩
      · exact .inr ⟨h1, .inr ⟨h2, .inl (by omega)⟩⟩
    · exact h4.elim
  unfold stpC
  split
  · rename_i hx
    refine hgo ?_
    obtain ⟨T, h1, h2, h3, h4⟩ := h
    refine ⟨T, h1, h2, fun e => (h3 e).fits fun p l c q d hd hc _ => ?_, h4⟩
    rcases hd with h5 | ⟨h5, h6 | ⟨h6, h7 | ⟨h7, _⟩⟩⟩
    · exact .inl h5
    · exact .inr ⟨h5, .inl h6⟩
    · exact .inr ⟨h5, .inr ⟨h6, .inl h7⟩⟩
    · have e : p = (k, i, j) := Prod.ext h5 (Prod.ext h6 h7)
      rw [e, h1.empty (p := (k, i, j)) hx] at hc; cases hc
  · rename_i hx
    have hc := h.copy hx
    split
    · rename_i hm
      refine hgo (hc.label fun l q d _ hs => ?_)
      cases hs with
      | copy => rfl
      | edit a b => exfalso; have : ((k : Nat) : Int) = P.M.most := hm; omega
    · rename_i hm
      have hm' : ¬ ((k : Nat) : Int) = P.M.most := hm
      have hx2 : (cpC P (k, i, j) s).1 k i j ≠ ⟨#[]⟩ := by rw [show (cpC P (k, i, j) s).1 k i j = s.1 k i j from cp_keep (P := P) (p := (k, i, j))]; exact hx
      refine hgo ((hc.edits hv (by omega) hx2 P.M.n (Nat.le_refl _)).label fun l q d _ hs => ?_)
      cases hs with
      | copy => exact .inl rfl
      | edit a => exact .inr ⟨_, a, rfl⟩
theorem Iv.cols {P : EP} (hv : ∀ i, i < P.M.n → EdOk (P.M.e i)) {k i : Nat} (hk : (k : Int) ≤ P.M.most) {s : ST} (h : Iv P (Dn k i 0 fun _ => False) s) : ∀ j, Iv P (Dn k i j fun _ => False) (colP P k i j s)
  | 0 => h
  | j + 1 => (Iv.cols hv hk h j).step hv hk
theorem Iv.rows {P : EP} (h0 : 0 ≤ P.M.most) (hv : ∀ i, i < P.M.n → EdOk (P.M.e i)) {k : Nat} (hk : (k : Int) ≤ P.M.most) {s : ST} (h : Iv P (Dn k 0 0 fun _ => False) s) : ∀ i, Iv P (Dn k i 0 fun _ => False) (rowP P k i s)
  | 0 => h
  | i + 1 => ((Iv.rows h0 hv hk h i).cols hv hk (P.b + 1)).fits fun p l c q d hd hp _ => by
    have hr := (hp.inR h0).2.2
    rcases hd with h1 | ⟨h1, h2 | ⟨h2, h3 | ⟨h3, h4⟩⟩⟩
    · exact .inl h1
    · by_cases e : p.2.1 = i
      · exact .inr ⟨h1, .inr ⟨e, .inl (by omega)⟩⟩
      · exact .inr ⟨h1, .inl (by omega)⟩
    · omega
    · exact h4.elim
theorem Iv.all {P : EP} (h0 : 0 ≤ P.M.most) (hv : ∀ i, i < P.M.n → EdOk (P.M.e i)) {s : ST} (h : Iv P (Dn 0 0 0 fun _ => False) s) : ∀ k : Nat, (k : Int) ≤ P.M.most + 1 → Iv P (Dn k 0 0 fun _ => False) (tabP P k s)
  | 0, _ => h
  | k + 1, hk => ((Iv.all h0 hv h k (by omega)).rows h0 hv (by omega) (P.a + 1)).fits fun p l c q d hd hp _ => by
    have hr := (hp.inR h0).2.1
    rcases hd with h1 | ⟨h1, h2 | ⟨h2, h3 | ⟨h3, h4⟩⟩⟩
    · by_cases e : p.1 = k
      · exact .inr ⟨e, .inl (by omega)⟩
      · exact .inl (by omega)
    · omega
    · omega
    · exact h4.elim
theorem Iv.start (P : EP) : Iv P (Dn 0 0 0 fun _ => False) (X0, 0) := by
  have hd := Dp.start P
  refine ⟨fun q => if q = (0, 0, 0) then some 0 else none, fun k i j => ?_, hd.sound, fun _ => hd.fits fun p l c q d h _ _ => ?_, fun h => absurd rfl h⟩
  · by_cases e : k = 0 ∧ i = 0 ∧ j = 0
    · obtain ⟨rfl, rfl, rfl⟩ := e
      exact .inr ⟨0, by simp, by show X0 0 0 0 = _; decide +kernel, fit_sz.2 ((show szQ 1 0 from ⟨by decide, by decide⟩).mono (by omega))⟩
    · exact .inl ⟨if_neg (fun h => e (by simp at h; exact h)), if_neg e⟩
  · rcases h with h | ⟨h, h | ⟨_, h | ⟨_, h⟩⟩⟩ <;> omega
theorem lst_rel {X : XT} {T : TbE} (h : RelX X T) (a b : Nat) : ∀ m, fitO (lstO T a b m) ∧ lstS X a b m = costT (lstO T a b m)
  | 0 => ⟨trivial, rfl⟩
  | m + 1 => by
    obtain ⟨ih1, ih2⟩ := lst_rel h a b m
    have hinf : ∀ q, fitQ q → txt q ≠ infS := fun q hq e => by have := prs_txt hq; rw [e, prs_inf] at this; cases this
    unfold lstS lstO
    rw [ih2]
    rcases h m a b with ⟨h1, h2⟩ | ⟨c, h1, h2, h3⟩
    · rw [if_neg (fun h => h.1 h2), h1]
      cases ho : lstO T a b m with
      | none => exact ⟨trivial, rfl⟩
      | some u => exact ⟨by rw [ho] at ih1; exact ih1, rfl⟩
    · rw [h1]
      cases ho : lstO T a b m with
      | none => exact ⟨h3, by rw [if_pos ⟨by rw [h2]; exact txt_nil h3, .inl rfl⟩]; exact h2⟩
      | some u =>
        have hu : fitQ u := by rw [ho] at ih1; exact ih1
        have hcm : qcmpF (X m a b) (costT (some u)) = cmpQ c u := by unfold qcmpF costT; rw [h2, prs_txt h3, prs_txt hu]
        rw [hcm]
        rcases cmpQ_cases c u with ⟨h5, h6⟩ | ⟨h5, h6⟩ | ⟨h5, h6⟩
        · rw [if_pos ⟨by rw [h2]; exact txt_nil h3, .inr (by rw [h6]; decide)⟩]
          simp [h5]; exact ⟨h3, h2⟩
        · rw [if_neg (fun h => by rcases h.2 with h | h; exact hinf u hu h; rw [h6] at h; exact absurd h (by decide))]
          simp [h5]; exact hu
        · rw [if_neg (fun h => by rcases h.2 with h | h; exact hinf u hu h; rw [h6] at h; exact absurd h (by decide))]
          simp [Rat.not_lt.2 (Rat.le_of_lt h5)]; exact hu
theorem costC_spec {P : EP} (h0 : 0 ≤ P.M.most) (hv : ∀ i, i < P.M.n → EdOk (P.M.e i)) : (∃ o, IsCost P o ∧ fitO o ∧ costC P = (costT o, 0)) ∨ (TooL P ∧ costC P = (⟨#[]⟩, 2)) := by
  obtain ⟨T, h1, h2, h3, h4⟩ := (Iv.start P).all h0 hv (P.M.most.toNat + 1) (by omega)
  unfold costC
  by_cases he : (tabP P (P.M.most.toNat + 1) (X0, 0)).2 = 0
  · left
    obtain ⟨h5, h6⟩ := lst_rel h1 P.a P.b (P.M.most.toNat + 1)
    refine ⟨_, (h3 he).cost h0 fun p l hp => .inl (by have := hp.1; omega), h5, ?_⟩
    rw [if_neg (by rw [he]; simp), h6]
  · right
    obtain ⟨h5, h6⟩ := h4 he
    exact ⟨h6, by rw [if_pos he, h5]⟩
end Go.Proofs.YtjekapjbigfkbaaGreatDoor
