/- Parts of a proof: Gen OwM. -/
import Derived.Test.YtjekapjbigfkbaaGreatDoorS15
import Derived.Test.YtjekapjbigfkbaaGreatDoorS16
namespace Go.Proofs.YtjekapjbigfkbaaGreatDoor
open Go Go.RowKit Go.Deep
set_option maxRecDepth 100000
def gvs (n : Nat) (X : Nat → Value) : List Value := (List.range n).map X
theorem gvs_len (n : Nat) (X : Nat → Value) : (gvs n X).length = n := by simp [gvs]
theorem gvs_get (n : Nat) (X : Nat → Value) (i : Nat) (h : i < n) : (gvs n X)[i]? = some (X i) := by simp [gvs, h]
theorem gvs_snoc (n : Nat) (X : Nat → Value) : gvs n X ++ [X n] = gvs (n + 1) X := by simp [gvs, List.range_succ]
theorem gvs_congr {n : Nat} {X Y : Nat → Value} (h : ∀ i, i < n → X i = Y i) : gvs n X = gvs n Y := by
  unfold gvs; exact List.map_congr_left fun i hi => by rw [h i (List.mem_range.1 hi)]
def OwV (w : World) (B : Nat) (e : TypeId) (v : Value) (n : Nat) (X : Nat → Value) : Prop := w.ownsRow B e 1 v n (gvs n X)
theorem OwV.nil (w : World) (B : Nat) (e : TypeId) (X : Nat → Value) : OwV w B e (.slice none 0 0) 0 X := World.ownsRow_nil w B e 1
theorem OwV.congr {w : World} {B : Nat} {e : TypeId} {v : Value} {n : Nat} {X Y : Nat → Value} (h : OwV w B e v n X) (hx : ∀ i, i < n → X i = Y i) : OwV w B e v n Y := by
  unfold OwV; rw [← gvs_congr hx]; exact h
theorem OwV.kept {w w' : World} {B : Nat} {e : TypeId} {v : Value} {n : Nat} {X : Nat → Value} {z : Option Nat} (h : OwV w B e v n X) (hb : w.grownBy w' z) (hz : ∀ k, z = some k → k < B) : OwV w' B e v n X :=
  World.ownsRow.kept h hb (by
    cases hv : v.ownBlock with
    | none => exact .inl rfl
    | some k => exact .inr (fun e => by have := (World.ownsRow.lt h k hv).1; have := hz k e.symm; omega))
theorem OwV.set {w : World} {B : Nat} {e : TypeId} {g n cap : Nat} {X : Nat → Value} (h : OwV w B e (.slice (some ⟨g, 0, none⟩) n cap) n X) {i : Nat} (hi : i < n) (x : Value) :
    OwV (w.setCell ⟨g, i, none⟩ x) B e (.slice (some ⟨g, 0, none⟩) n cap) n (fun j => if j = i then x else X j) := by
  refine ⟨by rw [gvs_len, Nat.mul_one], ?_⟩
  rcases h.2 with ⟨hv, _⟩ | ⟨g', cap', cur, hv, h0, hgg, h1, h2, h3, h4⟩
  · cases hv
  · cases hv
    refine .inr ⟨g, cap, cur.setIfInBounds i x, rfl, h0, by simp [World.setCell, Array.getElem?_modify, hgg], h1, h2, by simpa using h3, ?_⟩
    rw [Nat.mul_one] at h3 h4 ⊢
    refine List.ext_getElem? fun j => ?_
    by_cases hj : j < n
    · rw [gvs_get _ _ _ hj, List.getElem?_take_of_lt hj, Array.getElem?_toList, Array.getElem?_setIfInBounds]
      by_cases e : i = j
      · subst e; rw [if_pos rfl, if_pos (by omega), if_pos rfl]
      · rw [if_neg e, if_neg (fun h => e h.symm)]
        have := gvs_get n X j hj
        rw [← h4, List.getElem?_take_of_lt hj, Array.getElem?_toList] at this
        exact this
    · rw [List.getElem?_eq_none (by rw [List.length_take]; omega), List.getElem?_eq_none (by rw [gvs_len]; omega)]
structure OMV (w : World) (Z : Nat → Prop) (B : Nat) (eR eT : TypeId) (g n : Nat) (R : Nat → Value) (L : Nat → Nat) (X : Nat → Nat → Value) : Prop where
  top : w.rowIs g eT n R
  base : B ≤ g
  zg : ¬ Z g
  zlt : ∀ b, Z b → b < w.heap.size
  row : ∀ i, i < n → OwV w B eR (R i) (L i) (X i)
  far : ∀ i, i < n → ∀ b, (R i).ownBlock = some b → b ≠ g ∧ ¬ Z b
  apart : ∀ i j, i < n → j < n → i ≠ j → ∀ b, (R i).ownBlock = some b → (R j).ownBlock ≠ some b
namespace OMV
variable {w w' : World} {Z : Nat → Prop} {B : Nat} {eR eT : TypeId} {g n : Nat} {R : Nat → Value} {L : Nat → Nat} {X : Nat → Nat → Value}
theorem kept {z : Option Nat} (h : OMV w Z B eR eT g n R L X) (hb : w.grownBy w' z) (hz : ∀ k, z = some k → k < B) : OMV w' Z B eR eT g n R L X :=
  ⟨h.top.of_block (hb.block g h.top.lt (fun e => by have := hz g e.symm; have := h.base; omega)), h.base, h.zg, fun b hb' => Nat.lt_of_lt_of_le (h.zlt b hb') hb.size, fun i hi => (h.row i hi).kept hb hz, h.far, h.apart⟩
theorem congr {X' : Nat → Nat → Value} (h : OMV w Z B eR eT g n R L X) (hx : ∀ i j, i < n → j < L i → X i j = X' i j) : OMV w Z B eR eT g n R L X' :=
  ⟨h.top, h.base, h.zg, h.zlt, fun i hi => (h.row i hi).congr fun j hj => hx i j hi hj, h.far, h.apart⟩
theorem frozen (h : OMV w Z B eR eT g n R L X) (i : Nat) : w.frozen? ⟨g, i, none⟩ = false := h.top.frozen i
theorem lt (h : OMV w Z B eR eT g n R L X) : g < w.heap.size := h.top.lt
theorem rowLt (h : OMV w Z B eR eT g n R L X) {i : Nat} (hi : i < n) : ∀ k, (R i).ownBlock = some k → B ≤ k ∧ k < w.heap.size := World.ownsRow.lt (h.row i hi)
theorem stored (h : OMV w Z B eR eT g n R L X) {i j b cap : Nat} (hi : i < n) (hj : j < L i) (hR : R i = .slice (some ⟨b, 0, none⟩) (L i) cap) (x : Value) :
    OMV (w.setCell ⟨b, j, none⟩ x) Z B eR eT g n R L (fun k l => if k = i ∧ l = j then x else X k l) := by
  have hbg := (h.far i hi b (by rw [hR]; rfl)).1
  refine ⟨h.top.setOther (by show g ≠ b; exact fun e => hbg e.symm) _, h.base, h.zg, fun b hb => by rw [nblk_setCell]; exact h.zlt b hb, fun k hk => ?_, h.far, h.apart⟩
  by_cases e : k = i
  · subst e
    have := h.row k hk
    rw [hR] at this ⊢
    exact (this.set hj x).congr fun l _ => by simp
  · refine OwV.congr (World.ownsRow.kept (h.row k hk) ⟨rfl, rfl, rfl, by simp, fun q _ hq => blk_setCell_other _ _ _ _ (by show q ≠ b; intro e; exact hq (by rw [e]))⟩ (row := some b) (by
      cases hb : (R k).ownBlock with
      | none => exact .inl rfl
      | some b' => exact .inr (fun e2 => h.apart k i hk hi e b' hb (by rw [hR, Value.ownBlock]; exact e2.symm)))) fun l _ => by simp [e]
end OMV
end Go.Proofs.YtjekapjbigfkbaaGreatDoor

namespace Go.Proofs.YtjekapjbigfkbaaGreatDoor
open Go Go.RowKit Go.Deep
set_option maxRecDepth 100000
set_option linter.unusedSimpArgs false
def cat (c : Nat → List Value) (n : Nat) : List Value := (List.range n).flatMap c
theorem cat_succ (c : Nat → List Value) (n : Nat) : cat c (n + 1) = cat c n ++ c n := by unfold cat; rw [List.range_succ, List.flatMap_append]; simp
theorem cat_len {c : Nat → List Value} {s : Nat} (hc : ∀ i, (c i).length = s) : ∀ n, (cat c n).length = n * s
  | 0 => by simp [cat]
  | n + 1 => by rw [cat_succ, List.length_append, cat_len hc n, hc n, Nat.add_mul, Nat.one_mul]
theorem cat_congr {c d : Nat → List Value} : ∀ {n : Nat}, (∀ i, i < n → c i = d i) → cat c n = cat d n
  | 0, _ => rfl
  | n + 1, h => by rw [cat_succ, cat_succ, cat_congr (fun i hi => h i (by omega)), h n (by omega)]
theorem cat_get {c : Nat → List Value} {s : Nat} (hc : ∀ i, (c i).length = s) {i j : Nat} (hj : j < s) : ∀ {n : Nat}, i < n → (cat c n)[i * s + j]? = (c i)[j]?
  | 0, h => by omega
  | n + 1, h => by
    rw [cat_succ]
    by_cases e : i = n
    · subst e
      rw [List.getElem?_append_right (by rw [cat_len hc]; omega), cat_len hc, Nat.add_sub_cancel_left]
    · have h1 : i < n := by omega
      have h2 : i * s + j < n * s := Nat.lt_of_lt_of_le (by rw [Nat.add_lt_add_iff_left]; exact hj : i * s + j < i * s + s) (by rw [← Nat.succ_mul]; exact Nat.mul_le_mul_right s h1)
      rw [List.getElem?_append_left (by rw [cat_len hc]; exact h2)]; exact cat_get hc hj h1
theorem cat_set {c : Nat → List Value} {s : Nat} (hc : ∀ i, (c i).length = s) {i j : Nat} (hj : j < s) (x : Value) : ∀ {n : Nat}, i < n → (cat c n).set (i * s + j) x = cat (fun k => if k = i then (c i).set j x else c k) n
  | 0, h => by omega
  | n + 1, h => by
    rw [cat_succ, cat_succ]
    by_cases e : i = n
    · subst e
      rw [List.set_append_right _ _ (by rw [cat_len hc]; omega), cat_len hc, Nat.add_sub_cancel_left, if_pos rfl]
      congr 1
      exact cat_congr fun k hk => by rw [if_neg (by omega)]
    · have h1 : i < n := by omega
      have h2 : i * s + j < n * s := Nat.lt_of_lt_of_le (by rw [Nat.add_lt_add_iff_left]; exact hj : i * s + j < i * s + s) (by rw [← Nat.succ_mul]; exact Nat.mul_le_mul_right s h1)
      rw [List.set_append_left _ _ (by rw [cat_len hc]; exact h2), cat_set hc hj x h1, if_neg (fun e2 => e e2.symm)]
theorem row_set {w : World} {B : Nat} {e : TypeId} {s g n cap : Nat} {xs : List Value} (h : w.ownsRow B e s (.slice (some ⟨g, 0, none⟩) n cap) n xs) (o : Nat) (x : Value) :
    (w.setCell ⟨g, o, none⟩ x).ownsRow B e s (.slice (some ⟨g, 0, none⟩) n cap) n (xs.set o x) := by
  refine ⟨by rw [List.length_set]; exact h.1, ?_⟩
  rcases h.2 with ⟨hv, _⟩ | ⟨g', cap', cur, hv, h0, hgg, h1, h2, h3, h4⟩
  · cases hv
  · cases hv
    refine .inr ⟨g, cap, cur.setIfInBounds o x, rfl, h0, by simp [World.setCell, Array.getElem?_modify, hgg], h1, h2, by simpa using h3, ?_⟩
    rw [Array.toList_setIfInBounds, List.take_set, h4]
theorem row_cell {w : World} {B : Nat} {e : TypeId} {s g n cap o : Nat} {xs : List Value} {x : Value} (h : w.ownsRow B e s (.slice (some ⟨g, 0, none⟩) n cap) n xs) (hx : xs[o]? = some x) : w.cell? ⟨g, o, none⟩ = some x := by
  have := World.ownsRow.cells h (g := g) rfl o _ hx
  rw [Addr.add_lit, Nat.zero_add] at this
  exact this
theorem row_free {w : World} {B : Nat} {e : TypeId} {s g n cap : Nat} {xs : List Value} (h : w.ownsRow B e s (.slice (some ⟨g, 0, none⟩) n cap) n xs) (o : Nat) : w.frozen? ⟨g, o, none⟩ = false := by
  rcases h.2 with ⟨hv, _⟩ | ⟨g', cap', cur, hv, h0, hgg, _⟩
  · cases hv
  · cases hv; simp [World.frozen?, hgg]
theorem row_shape {w : World} {B : Nat} {e : TypeId} {s n : Nat} {v : Value} {xs : List Value} (h : w.ownsRow B e s v n xs) (hn : 0 < n) : ∃ g cap, v = .slice (some ⟨g, 0, none⟩) n cap ∧ B ≤ g ∧ g < w.heap.size ∧ n ≤ cap ∧ cap ≤ maxLen := by
  rcases h.2 with ⟨_, h0⟩ | ⟨g, cap, cur, rfl, h0, hgg, h1, h2, _⟩
  · omega
  · exact ⟨g, cap, rfl, h0, (Array.getElem?_eq_some_iff.1 hgg).1, h1, h2⟩
theorem row_any {w : World} {B : Nat} {e : TypeId} {s n : Nat} {v : Value} {xs : List Value} (h : w.ownsRow B e s v n xs) : ∃ a cap, v = .slice a n cap ∧ n ≤ cap ∧ cap ≤ maxLen := by
  rcases h.2 with ⟨rfl, h0⟩ | ⟨g, cap, cur, rfl, h0, hgg, h1, h2, _⟩
  · exact ⟨none, 0, by rw [h0], by omega, Nat.zero_le _⟩
  · exact ⟨_, cap, rfl, h1, h2⟩
theorem rows_ne {w : World} {B B' : Nat} {e e' : TypeId} {s s' n n' : Nat} {v v' : Value} {xs xs' : List Value} (h : w.ownsRow B e s v n xs) (h' : w.ownsRow B' e' s' v' n' xs') (he : e ≠ e') {b : Nat} (hb : v.ownBlock = some b) : v'.ownBlock ≠ some b := by
  rcases h.2 with ⟨rfl, _⟩ | ⟨g, cap, cur, rfl, _, hgg, _⟩
  · cases hb
  · rcases h'.2 with ⟨rfl, _⟩ | ⟨g', cap', cur', rfl, _, hgg', _⟩
    · simp [Value.ownBlock]
    · simp [Value.ownBlock] at hb ⊢; intro e1; subst hb; subst e1; rw [hgg] at hgg'; simp at hgg'; exact he hgg'.2
theorem row_kept {w w' : World} {B : Nat} {e : TypeId} {s n : Nat} {v : Value} {xs : List Value} {z : Option Nat} (h : w.ownsRow B e s v n xs) (hg : w.grownBy w' z) (hz : ∀ b, v.ownBlock = some b → z ≠ some b) : w'.ownsRow B e s v n xs :=
  World.ownsRow.kept h hg (by
    cases hv : v.ownBlock with
    | none => exact .inl rfl
    | some b => exact .inr (fun e => hz b hv e.symm))
theorem row_other {w : World} {B : Nat} {e : TypeId} {s n : Nat} {v : Value} {xs : List Value} (h : w.ownsRow B e s v n xs) {p : Addr} (hp : v.ownBlock ≠ some p.block) (x : Value) : (w.setCell p x).ownsRow B e s v n xs :=
  row_kept h (z := some p.block) ⟨rfl, rfl, rfl, by simp, fun q _ hq => blk_setCell_other _ _ _ _ (fun e => hq (by rw [e]))⟩ (fun b hb e => hp (by rw [hb, e]))
def arc4 (D : MD) (i k : Nat) : List Value := [.int .i64 (D.ain i k), .int .i64 (D.aout i k), .string (D.aw i k), .int .i64 (D.ato i k)]
def st2 (D : MD) (R : Nat → Value) (i : Nat) : List Value := [.string (D.fin i), R i]
structure OwM (w : World) (B : Nat) (sv : Value) (D : MD) (R : Nat → Value) : Prop where
  top : w.ownsRow B 87 2 sv D.n (cat (st2 D R) D.n)
  row : ∀ i, i < D.n → w.ownsRow B 83 4 (R i) (D.na i) (cat (arc4 D i) (D.na i))
  apart : ∀ i j, i < D.n → j < D.n → i ≠ j → ∀ b, (R i).ownBlock = some b → (R j).ownBlock ≠ some b
def emptyD (kd : Int) (start : Int) (lead : ByteArray) : MD := ⟨kd, start, lead, 0, fun _ => ⟨#[]⟩, fun _ => 0, fun _ _ => 0, fun _ _ => 0, fun _ _ => ⟨#[]⟩, fun _ _ => 0⟩
def MD.state (D : MD) (f : ByteArray) : MD := { D with n := D.n + 1, fin := fun i => if i = D.n then f else D.fin i, na := fun i => if i = D.n then 0 else D.na i }
def MD.arc (D : MD) (q : Nat) (a b : Int) (x : ByteArray) (t : Int) : MD :=
  { D with
    na := fun i => if i = q then D.na q + 1 else D.na i
    ain := fun i k => if i = q ∧ k = D.na q then a else D.ain i k
    aout := fun i k => if i = q ∧ k = D.na q then b else D.aout i k
    aw := fun i k => if i = q ∧ k = D.na q then x else D.aw i k
    ato := fun i k => if i = q ∧ k = D.na q then t else D.ato i k }
theorem arc4_len (D : MD) (i k : Nat) : (arc4 D i k).length = 4 := rfl
theorem st2_len (D : MD) (R : Nat → Value) (i : Nat) : (st2 D R i).length = 2 := rfl
theorem OwM.empty (w : World) (B : Nat) (kd st : Int) (ld : ByteArray) (R : Nat → Value) : OwM w B (.slice none 0 0) (emptyD kd st ld) R :=
  ⟨World.ownsRow_nil w B _ 2, fun _ hi => absurd hi (Nat.not_lt_zero _), fun _ _ hi => absurd hi (Nat.not_lt_zero _)⟩
namespace OwM
variable {w w' : World} {B : Nat} {sv : Value} {D : MD} {R : Nat → Value}
theorem kept {z : Option Nat} (h : OwM w B sv D R) (hg : w.grownBy w' z) (hz : ∀ k, z = some k → k < B) : OwM w' B sv D R :=
  ⟨row_kept h.top hg (fun b hb e => by have := hz b e; have := (World.ownsRow.lt h.top b hb).1; omega),
   fun i hi => row_kept (h.row i hi) hg (fun b hb e => by have := hz b e; have := (World.ownsRow.lt (h.row i hi) b hb).1; omega), h.apart⟩
theorem other (h : OwM w B sv D R) {p : Addr} (hp : sv.ownBlock ≠ some p.block) (hr : ∀ i, i < D.n → (R i).ownBlock ≠ some p.block) (v : Value) : OwM (w.setCell p v) B sv D R :=
  ⟨row_other h.top hp v, fun i hi => row_other (h.row i hi) (hr i hi) v, h.apart⟩
theorem tne (h : OwM w B sv D R) {i : Nat} (hi : i < D.n) {b : Nat} (hb : (R i).ownBlock = some b) : sv.ownBlock ≠ some b :=
  rows_ne (h.row i hi) h.top (by decide) hb
theorem fin_cell {g cap : Nat} (h : OwM w B (.slice (some ⟨g, 0, none⟩) D.n cap) D R) {i : Nat} (hi : i < D.n) : w.cell? ⟨g, i * 2, none⟩ = some (.string (D.fin i)) :=
  row_cell h.top (by have := cat_get (st2_len D R) (i := i) (j := 0) (by omega) hi; rw [Nat.add_zero] at this; rw [this]; rfl)
theorem arcs_cell {g cap : Nat} (h : OwM w B (.slice (some ⟨g, 0, none⟩) D.n cap) D R) {i : Nat} (hi : i < D.n) : w.cell? ⟨g, i * 2 + 1, none⟩ = some (R i) :=
  row_cell h.top (by rw [cat_get (st2_len D R) (i := i) (j := 1) (by omega) hi]; rfl)
theorem sts (h : OwM w B sv D R) : StS none w sv D := by
  by_cases h0 : D.n = 0
  · obtain ⟨a, cap, hv, _, hc⟩ := row_any h.top
    exact .inl ⟨h0, a, cap, by rw [hv, h0], hc⟩
  · obtain ⟨g, cap, rfl, _, hg, h1, h2⟩ := row_shape h.top (by omega)
    refine .inr ⟨g, 0, cap, R, rfl, ⟨hg, by simp⟩, h1, h2, fun i hi => ⟨by rw [Nat.zero_add]; exact h.fin_cell hi, by rw [Nat.zero_add]; exact h.arcs_cell hi, ?_⟩⟩
    have hr := h.row i hi
    by_cases hn : D.na i = 0
    · obtain ⟨a, c, hv, _, hc⟩ := row_any hr
      exact .inl ⟨hn, a, c, by rw [hv, hn], hc⟩
    · obtain ⟨b, c, hv, _, hb, h3, h4⟩ := row_shape hr (by omega)
      rw [hv] at hr
      refine .inr ⟨b, 0, c, hv, ⟨hb, by simp⟩, h3, h4, fun k hk => ?_⟩
      have hc : ∀ j x, j < 4 → (arc4 D i k)[j]? = some x → w.cell? ⟨b, k * 4 + j, none⟩ = some x := fun j x hj hx => row_cell hr (by rw [cat_get (arc4_len D i) hj hk]; exact hx)
      rw [Nat.zero_add]
      exact ⟨hc 0 _ (by omega) rfl, hc 1 _ (by omega) rfl, hc 2 _ (by omega) rfl, hc 3 _ (by omega) rfl⟩
theorem state {sv' : Value} {o : Obj} {f : ByteArray} (h : OwM w B sv D R) (h1 : w'.ownsRow B 87 2 sv' (D.n + 1) (cat (st2 D R) D.n ++ [.string f, .slice none 0 0])) (hg : (w.alloc o).grownBy w' sv.ownBlock) :
    OwM w' B sv' (D.state f) (fun i => if i = D.n then .slice none 0 0 else R i) := by
  refine ⟨?_, fun i hi => ?_, fun i j hi hj hij b hb => ?_⟩
  · have e : cat (st2 (D.state f) (fun i => if i = D.n then .slice none 0 0 else R i)) (D.n + 1) = cat (st2 D R) D.n ++ [.string f, .slice none 0 0] := by
      rw [cat_succ]
      congr 1
      · exact cat_congr fun i hi => by simp [st2, MD.state, show i ≠ D.n by omega]
      · simp [st2, MD.state]
    show w'.ownsRow B 87 2 sv' (D.n + 1) (cat _ (D.n + 1))
    rw [e]; exact h1
  · by_cases e : i = D.n
    · subst e
      show w'.ownsRow B _ 4 (if D.n = D.n then _ else _) (if D.n = D.n then 0 else D.na D.n) (cat (arc4 (D.state f) D.n) (if D.n = D.n then 0 else D.na D.n))
      rw [if_pos rfl, if_pos rfl]; exact World.ownsRow_nil w' B 83 4
    · have hi' : i < D.n := by have : i < D.n + 1 := hi; omega
      show w'.ownsRow B _ 4 (if i = D.n then _ else R i) (if i = D.n then 0 else D.na i) (cat (arc4 D i) (if i = D.n then 0 else D.na i))
      rw [if_neg e, if_neg e]
      exact row_kept (World.ownsRow.alloc (h.row i hi') o) hg (fun b hb => h.tne hi' hb)
  · have hi' : i < D.n + 1 := hi
    have hj' : j < D.n + 1 := hj
    by_cases ei : i = D.n
    · simp only [if_pos ei] at hb; cases hb
    · simp only [if_neg ei] at hb
      by_cases ej : j = D.n
      · simp only [if_pos ej]; simp [Value.ownBlock]
      · simp only [if_neg ej]; exact h.apart i j (by omega) (by omega) hij b hb
theorem arc {g cap q : Nat} {v' : Value} {o : Obj} {a b t : Int} {x : ByteArray} (h : OwM w B (.slice (some ⟨g, 0, none⟩) D.n cap) D R) (hq : q < D.n)
    (h1 : w'.ownsRow B 83 4 v' (D.na q + 1) (cat (arc4 D q) (D.na q) ++ [.int .i64 a, .int .i64 b, .string x, .int .i64 t])) (hg : (w.alloc o).grownBy w' (R q).ownBlock)
    (hat : ∀ c, v'.ownBlock = some c → (R q).ownBlock = some c ∨ w.heap.size ≤ c) :
    OwM (w'.setCell ⟨g, q * 2 + 1, none⟩ v') B (.slice (some ⟨g, 0, none⟩) D.n cap) (D.arc q a b x t) (fun i => if i = q then v' else R i) := by
  have ht : w'.ownsRow B 87 2 (.slice (some ⟨g, 0, none⟩) D.n cap) D.n (cat (st2 D R) D.n) := row_kept (World.ownsRow.alloc h.top o) hg (fun c hc e => h.tne hq e.symm.symm hc)
  have hv : v'.ownBlock ≠ some g := fun e => by
    rcases hat g e with e1 | e1
    · exact h.tne hq e1 rfl
    · have := (World.ownsRow.lt h.top g rfl).2; omega
  refine ⟨?_, fun i hi => ?_, fun i j hi hj hij c hc => ?_⟩
  · have h2 := row_set ht (q * 2 + 1) v'
    rw [cat_set (st2_len D R) (by omega) _ hq, cat_congr (d := st2 (D.arc q a b x t) (fun i => if i = q then v' else R i)) (fun i hi => by
      by_cases e : i = q
      · subst e; rw [if_pos rfl]; simp [st2, MD.arc]
      · rw [if_neg e]; simp [st2, MD.arc, e])] at h2
    exact h2
  · by_cases e : i = q
    · subst e
      show World.ownsRow _ B _ 4 (if i = i then v' else R i) (if i = i then D.na i + 1 else D.na i) (cat _ (if i = i then D.na i + 1 else D.na i))
      rw [if_pos rfl, if_pos rfl, cat_succ, cat_congr (d := arc4 D i) (fun k hk => by simp [arc4, MD.arc, show k ≠ D.na i by omega])]
      have e2 : arc4 (D.arc i a b x t) i (D.na i) = [.int .i64 a, .int .i64 b, .string x, .int .i64 t] := by simp [arc4, MD.arc]
      rw [e2]; exact row_other h1 (by exact hv) _
    · show World.ownsRow _ B _ 4 (if i = q then v' else R i) (if i = q then D.na q + 1 else D.na i) (cat _ (if i = q then D.na q + 1 else D.na i))
      rw [if_neg e, if_neg e, cat_congr (d := arc4 D i) (fun k hk => by simp [arc4, MD.arc, e])]
      exact row_other (p := ⟨g, q * 2 + 1, none⟩) (row_kept (World.ownsRow.alloc (h.row i hi) o) hg (fun c hc e2 => h.apart i q hi hq e c hc e2)) (fun e2 => h.tne hi e2 rfl) v'
  · by_cases ei : i = q
    · subst ei
      simp only [if_pos] at hc
      simp only [if_neg (fun e : j = i => hij e.symm)]
      rcases hat c hc with e1 | e1
      · exact h.apart i j hi hj hij c e1
      · intro e2; have := (World.ownsRow.lt (h.row j hj) c e2).2; omega
    · simp only [if_neg ei] at hc
      by_cases ej : j = q
      · subst ej
        simp only [if_pos]
        intro e2
        rcases hat c e2 with e1 | e1
        · exact h.apart i j hi hj hij c hc e1
        · have := (World.ownsRow.lt (h.row i hi) c hc).2; omega
      · simp only [if_neg ej]; exact h.apart i j hi hj hij c hc
end OwM
end Go.Proofs.YtjekapjbigfkbaaGreatDoor
