/- Parts of a proof: LE0 AppS LEp AM ArgI. -/
import Derived.Test.YtjekapjbigfkbaaGreatDoorP35
import Derived.Deep.Upon
import Derived.Test.YtjekapjbigfkbaaGreatDoorP15
import Derived.Deep.Slices
import Derived.SliceStrings
import Derived.ChangeSlices
import Derived.Test.YtjekapjbigfkbaaGreatDoorP16
import Derived.Lib.SmallJoins
import Derived.Deep.SlicePairs
import Derived.SizedLaws
namespace Go.Proofs.YtjekapjbigfkbaaGreatDoor
open Go Go.RowKit Go.Deep
set_option maxRecDepth 100000
set_option linter.unusedSimpArgs false
def cosR (M : EM) (na : Nat) (x : Nat → Int) (nb : Nat) (y : Nat → Int) (W : ByteArray) (E : Int) : Prop := (VE M ∧ isWord na x = true ∧ isWord nb y = true ∧ W = (costC ⟨M, na, x, nb, y⟩).1 ∧ E = ((costC ⟨M, na, x, nb, y⟩).2 : Int)) ∨ (¬ (VE M ∧ isWord na x = true ∧ isWord nb y = true) ∧ W = ⟨#[]⟩ ∧ E = 1)
theorem CosE.val {M : EM} {na nb : Nat} {x y : Nat → Int} {w w' : World} {rr : Ending} (h : CosE M na x nb y w rr w') : ∃ W E, rr = .returned (.tuple #[.string W, .int .i64 E]) ∧ cosR M na x nb y W E ∧ Below w.heap.size w w' := by
  obtain ⟨hb, ⟨h1, h2, h3, h4⟩ | ⟨h1, h2⟩⟩ := h
  · exact ⟨_, _, h4, .inl ⟨h1, h2, h3, rfl, rfl⟩, hb⟩
  · exact ⟨_, _, h2, .inr ⟨h1, rfl, rfl⟩, hb⟩
theorem cosR.eq {M : EM} {na nb : Nat} {x y : Nat → Int} {W W' : ByteArray} {E E' : Int} (h : cosR M na x nb y W E) (h' : cosR M na x nb y W' E') : W = W' ∧ E = E' := by
  rcases h with ⟨a1, a2, a3, a4, a5⟩ | ⟨a1, a2, a3⟩ <;> rcases h' with ⟨b1, b2, b3, b4, b5⟩ | ⟨b1, b2, b3⟩
  · exact ⟨a4.trans b4.symm, a5.trans b5.symm⟩
  · exact absurd ⟨a1, a2, a3⟩ b1
  · exact absurd ⟨b1, b2, b3⟩ a1
  · exact ⟨a2.trans b2.symm, a3.trans b3.symm⟩
theorem cosR.ok {M : EM} {na nb : Nat} {x y : Nat → Int} {W : ByteArray} {E : Int} (h : cosR M na x nb y W E) (h0 : E = 0) : VE M ∧ isWord na x = true ∧ isWord nb y = true ∧ ∃ o, IsCost ⟨M, na, x, nb, y⟩ o ∧ fitO o ∧ W = costT o := by
  rcases h with ⟨a1, a2, a3, a4, a5⟩ | ⟨_, _, a3⟩
  · rcases costC_spec (P := ⟨M, na, x, nb, y⟩) a1.m0 a1.ok with ⟨o, h1, h2, h3⟩ | ⟨_, h3⟩
    · rw [h3] at a4; exact ⟨a1, a2, a3, o, h1, h2, a4⟩
    · rw [h3] at a5; subst a5; cases h0
  · subst a3; cases h0
theorem cosR.val {M : EM} {na nb : Nat} {x y : Nat → Int} {W : ByteArray} {E : Int} (h : cosR M na x nb y W E) (hv : VE M) (hx : isWord na x = true) (hy : isWord nb y = true) : E = 0 ∨ (E = 2 ∧ TooL ⟨M, na, x, nb, y⟩) := by
  rcases h with ⟨a1, a2, a3, a4, a5⟩ | ⟨h, _⟩
  · rcases costC_spec (P := ⟨M, na, x, nb, y⟩) a1.m0 a1.ok with ⟨o, h1, h2, h3⟩ | ⟨h1, h3⟩
    · rw [h3] at a5; exact .inl a5
    · rw [h3] at a5; exact .inr ⟨a5, h1⟩
  · exact absurd ⟨hv, hx, hy⟩ h
end Go.Proofs.YtjekapjbigfkbaaGreatDoor

namespace Go.Proofs.YtjekapjbigfkbaaGreatDoor
open Go Go.RowKit Go.Deep
set_option maxRecDepth 100000
set_option linter.unusedSimpArgs false
theorem wpList_append_any {P : Program} (w : World) {ops : Array Oper} {rest : List Oper} {o : Oper} {a : Act} {Q : Exit → Act → World → Prop} (hgd : o.guard = none) (s x : Operand) (t : TypeId)
    (ho : o.op = .call { callee := .builtin .append, args := #[s, x], argTypes := #[t, t] })
    (base : Nat) (e : TypeId) (i : TypeInfo) (z : Value) (size bytes : Nat) (ht : P.underlying t = some (.slice e)) (hi : P.info? e = some i) (hz : i.zero = some z)
    (hsize : i.size = size) (hby : i.bytes = bytes) (hzs : z.cells.size = size) (hsz : 0 < size)
    (sa : Option Addr) (n sc : Nat) (xs : List Value) (hs : a.eval s = .slice sa n sc) (hown : w.ownsRow base e size (.slice sa n sc) n xs)
    (xa : Option Addr) (m c : Nat) (news : List Value) (hx : a.eval x = .slice xa m c) (hl : news.length = m * size) (hnews : 0 < m → ∃ ad, xa = some ad ∧ ∀ j u, news[j]? = some u → w.cell? (ad.add j) = some u) (h1 : ∀ u ∈ news, u.oneCell' = true)
    (h63 : n + m ≤ maxLen) (hbytes : (n + m) * bytes ≤ 140737488355328) (hbase : base ≤ w.heap.size)
    (h : ∀ g cap w', w'.ownsRow base e size (.slice g (n + m) cap) (n + m) (xs ++ news) → w.grownBy w' (Value.slice sa n sc).ownBlock → wpList P ops Q rest (a.put o.dst (.slice g (n + m) cap)) w') : wpList P ops Q (o :: rest) a w := by
  by_cases hm : 0 < m
  · obtain ⟨ad, rfl, hn⟩ := hnews hm
    exact wpList_append_lies w hgd s x t ho base e i z size bytes ht hi hz hsize hby hzs hsz _ n xs hs hown ad m c news hx hl hn h1 hm h63 hbytes hbase _ rfl fun g cap w' a1 a2 _ _ => h _ cap w' a1 a2
  · obtain rfl : m = 0 := by omega
    obtain rfl : news = [] := List.eq_nil_of_length_eq_zero (by rw [hl, Nat.zero_mul])
    refine wpList_plain hgd fun K hK => ?_
    have hsc : n ≤ sc := by
      obtain ⟨a', c', hv, h2, _⟩ := row_any hown
      cases hv; exact h2
    have hsrc : Src P i.size t (.slice xa 0 c) 0 [] w := by
      cases xa with
      | none => exact Src.ofNil w ht c
      | some ad => exact Src.ofSlice w ht ad 0 c [] (by simp) (by simp) (by simp)
    have hr := run_append_nothing (P := P) w t t o.type e i ht hi sa n sc hsc _ hsrc
    unfold Oper.wp execOp
    simp only [ho, resolve, invoke, builtin, Sem.run_bind, Sem.run_pure, Result.andThen_ok, List.map_toArray, List.map_cons, List.map_nil, hs, hx, hr]
    exact hK _ _ (h sa sc w (by simpa using hown) (World.grownBy.refl _ _))
def ivs (n : Nat) (y : Nat → Int) : List Value := (List.range n).map fun i => Value.int .i64 (y i)
theorem ivs_len (n : Nat) (y : Nat → Int) : (ivs n y).length = n := by simp [ivs]
theorem ivs_get {n : Nat} {y : Nat → Int} {i : Nat} (h : i < n) : (ivs n y)[i]? = some (.int .i64 (y i)) := by simp [ivs, h]
theorem ivs_one (n : Nat) (y : Nat → Int) : ∀ u ∈ ivs n y, u.oneCell' = true := by
  intro u hu
  obtain ⟨i, _, rfl⟩ := List.mem_map.1 hu
  rfl
theorem ivs_app (n m : Nat) (y x : Nat → Int) : ivs n y ++ ivs m x = ivs (n + m) (fun j => if j < n then y j else x (j - n)) := by
  unfold ivs
  rw [List.range_add, List.map_append, List.map_map]
  congr 1
  · exact List.map_congr_left fun j hj => by show Value.int .i64 (y j) = Value.int .i64 (if j < n then y j else x (j - n)); rw [if_pos (List.mem_range.1 hj)]
  · exact List.map_congr_left fun j hj => by show _ = Value.int .i64 (if n + j < n then y (n + j) else x (n + j - n)); rw [if_neg (by omega), Nat.add_sub_cancel_left]
theorem ivs_si {w : World} {B n : Nat} {v : Value} {y : Nat → Int} (h : w.ownsRow B 3 1 v n (ivs n y)) : Si none w v n y := by
  rcases h.2 with ⟨hv, h0⟩ | ⟨g, cap, cur, hv, hB, hg, h1, h2, h3, h4⟩
  · exact .inl ⟨h0, none, 0, by rw [hv], Nat.zero_le _⟩
  · refine .inr ⟨g, 0, cap, hv, ⟨lt_of_block hg, by simp⟩, h1, h2, fun i hi => ?_⟩
    rw [hv] at h
    rw [Nat.zero_add]
    exact row_cell h (ivs_get hi)
theorem si_news {w : World} {xa : Option Addr} {m c : Nat} {x : Nat → Int} (h : Si none w (.slice xa m c) m x) : 0 < m → ∃ ad, xa = some ad ∧ ∀ j u, (ivs m x)[j]? = some u → w.cell? (ad.add j) = some u := by
  intro hm
  obtain ⟨a, cap, b, off, hv, ha, _, _, _, hcell⟩ := h.open
  cases hv
  refine ⟨_, ha hm, fun j u hu => ?_⟩
  have hj : j < m := by
    have := (List.getElem?_eq_some_iff.1 hu).1
    rwa [ivs_len] at this
  rw [ivs_get hj] at hu
  cases hu
  rw [Addr.add_lit]
  exact hcell j hj
theorem row_new (w : World) {B : Nat} (hB : B ≤ w.heap.size) (e : TypeId) (s : Nat) : (w.alloc (.cells #[] e)).ownsRow B e s (.slice (some ⟨w.heap.size, 0, none⟩) 0 0) 0 [] :=
  ⟨by simp, .inr ⟨w.heap.size, 0, #[], rfl, hB, heap_alloc_new w _, Nat.le_refl _, Nat.zero_le _, by simp, by simp⟩⟩
theorem info_int1 : (Tryz.prog.info? 3).map (fun i => (i.zero, i.size, i.bytes)) = some (some (.int .i64 0), 1, 8) := by kernel_rfl
end Go.Proofs.YtjekapjbigfkbaaGreatDoor

namespace Go.Proofs.YtjekapjbigfkbaaGreatDoor
open Go Go.RowKit Go.Deep
set_option maxRecDepth 100000
set_option linter.unusedSimpArgs false
def catI (n : Nat) (x y : Nat → Int) : Nat → Int := fun j => if j < n then x j else y (j - n)
def moE (M : EM) (p : Int) : EM := ⟨M.n, M.e, p⟩
theorem catI_word {n m : Nat} {x y : Nat → Int} (hx : isWord n x = true) (hy : isWord m y = true) (hn : n ≤ 12) (hm : m ≤ 12) : isWord (n + m) (catI n x y) = true := by
  unfold isWord at *
  rw [Bool.and_eq_true] at *
  refine ⟨by simp; omega, wordB_iff.2 fun j hj => ?_⟩
  unfold catI
  split
  · exact wordB_iff.1 hx.2 j (by omega)
  · exact wordB_iff.1 hy.2 (j - n) (by omega)
theorem moE_VE {M : EM} {p q : Int} (h : VE (moE M p)) (h0 : 0 ≤ q) (h6 : q ≤ 6) : VE (moE M q) := ⟨h.n4, h0, h6, h.ok⟩
theorem times_cost {o o' : Option Rat} (h : fitO o) (h' : fitO o') : timesF 1 (costT o) (costT o') = limV (timesV 1 (oV o) (oV o')) := by
  unfold timesF
  rw [costT_eq, costT_eq, vprs_txt (k := 1) (v := oV o) (by cases o <;> exact h) (by cases o <;> simp [oV, okV]), vprs_txt (k := 1) (v := oV o') (by cases o' <;> exact h') (by cases o' <;> simp [oV, okV])]
theorem costT_size {o : Option Rat} (h : fitO o) : (costT o).size ≤ 9223372036854775807 := by
  cases o with
  | none => decide
  | some q => have := txt_size (q := q) h; show (txt q).size ≤ _; omega
theorem parts_ge {M : EM} {p q : Int} {n1 m1 n2 m2 : Nat} {x1 y1 x2 y2 : Nat → Int} {o1 o2 o3 : Option Rat} (h1 : IsCost ⟨moE M p, n1, x1, m1, y1⟩ o1) (h2 : IsCost ⟨moE M q, n2, x2, m2, y2⟩ o2)
    (h3 : IsCost ⟨moE M (p + q), n1 + n2, catI n1 x1 x2, m1 + m2, catI m1 y1 y2⟩ o3) (hp : 0 ≤ p) (hq : 0 ≤ q) (f1 : fitO o1) (f2 : fitO o2) (f3 : fitO o3) (h0 : (timesF 1 (costT o1) (costT o2)).2 = 0) :
    (timesF 1 (costT o1) (costT o2)).1.size ≤ 9223372036854775807 ∧ 0 ≤ betterF 1 (timesF 1 (costT o1) (costT o2)).1 (costT o3) := by
  have hinf : ∀ o, 0 ≤ cmpV (oV none) (oV o) := fun o => by
    cases o with
    | none => exact Int.le_refl 0
    | some q => show (0 : Int) ≤ 1; omega
  rw [times_cost f1 f2] at *
  cases o1 with
  | none =>
    have e : limV (timesV 1 (oV none) (oV o2)) = (costT none, 0) := by rw [show timesV 1 (oV none) (oV o2) = .inf by unfold timesV; rw [if_pos (.inl rfl)]; rfl]; rfl
    rw [e]
    exact ⟨costT_size (o := none) trivial, by rw [better_cost (o := none) trivial f3]; exact hinf o3⟩
  | some u =>
    cases o2 with
    | none =>
      have e : limV (timesV 1 (oV (some u)) (oV none)) = (costT none, 0) := by rw [show timesV 1 (oV (some u)) (oV none) = .inf by unfold timesV; rw [if_pos (.inr rfl)]; rfl]; rfl
      rw [e]
      exact ⟨costT_size (o := none) trivial, by rw [better_cost (o := none) trivial f3]; exact hinf o3⟩
    | some v =>
      have e : timesV 1 (oV (some u)) (oV (some v)) = .fin (u + v) := by
        unfold timesV
        rw [if_neg (by simp [oV, zeroV])]; rfl
      rw [e] at h0 ⊢
      obtain ⟨z, rfl, hz⟩ := IsCost.parts (P := ⟨moE M p, n1, x1, m1, y1⟩) (Q := ⟨moE M q, n2, x2, m2, y2⟩) (R := ⟨moE M (p + q), n1 + n2, catI n1 x1 x2, m1 + m2, catI m1 y1 y2⟩) ⟨rfl, rfl, fun _ _ => rfl, fun _ _ => rfl, rfl, hp, hq, rfl, rfl, fun i hi => if_pos hi, fun i _ => (if_neg (by show ¬ n1 + i < n1; omega)).trans (by show x2 (n1 + i - n1) = x2 i; rw [Nat.add_sub_cancel_left]), fun i hi => if_pos hi, fun i _ => (if_neg (by show ¬ m1 + i < m1; omega)).trans (by show y2 (m1 + i - m1) = y2 i; rw [Nat.add_sub_cancel_left])⟩ h1 h2 h3
      by_cases hf : fitQ (u + v)
      · have e2 : limV (.fin (u + v)) = (costT (some (u + v)), 0) := limR_fit hf
        rw [e2]
        refine ⟨costT_size (o := some (u + v)) hf, ?_⟩
        rw [better_cost (o := some (u + v)) (o' := some z) hf f3]
        show 0 ≤ cmpQ (u + v) z
        rcases cmpQ_cases (u + v) z with ⟨h1, _⟩ | ⟨_, h1⟩ | ⟨_, h1⟩
        · exact absurd hz (Rat.not_le.2 h1)
        · rw [h1]; omega
        · rw [h1]; omega
      · have e2 : limV (.fin (u + v)) = (str [], 2) := limR_long hf
        rw [e2] at h0; cases h0
set_option maxHeartbeats 16000000 in
theorem editsParts_any {M : EM} {v v1 v2 v3 v4 : Value} {n1 m1 n2 m2 : Nat} {x1 y1 x2 y2 : Nat → Int} {p q : Int} (w : World) (hS : EdS none w v M) (hs : ESz M) (_hp : (Lit.int .i64 p).wf = true) (_hq : (Lit.int .i64 q).wf = true) (hx1 : Si none w v1 n1 x1) (hy1 : Si none w v2 m1 y1) (hx2 : Si none w v3 n2 x2) (hy2 : Si none w v4 m2 y2) (ht : Tab w) :
    Calls Tryz.prog 11 #[v, .int .i64 p, .int .i64 q, v1, v2, v3, v4] w (TrueB w) := by
  have hl1 := le_of_len hx1
  have hl2 := le_of_len hy1
  have hl3 := le_of_len hx2
  have hl4 := le_of_len hy2
  obtain ⟨a, cap, b, off, A, A', C, C', rfl, ha, hcp, hcm, hbb, hrow⟩ := hS.open
  obtain ⟨ax, cx, rfl⟩ := hx1.shape
  obtain ⟨ay, cy, rfl⟩ := hy1.shape
  obtain ⟨bx, ex, rfl⟩ := hx2.shape
  obtain ⟨by0, ey, rfl⟩ := hy2.shape
  obtain ⟨i0, hi0, hz0, hz1, hz2⟩ := info_parts2 info_int1
  have HI0 := Lib.hid hi0; clear hi0
  have HY0 := Lib.hid hz0; clear hz0
  have HY1 := Lib.hid hz1; clear hz1
  have HY2 := Lib.hid hz2; clear hz2
  have hex : ∀ W, Below w.heap.size w W → Calls Tryz.prog 12 #[] W (TrueB W) := fun W h => example37_any W (ht.below h (Nat.le_refl _))
  have hed : ∀ (r : Int) W, Below w.heap.size w W → EdS none W (.slice a M.n cap) (moE M r) := fun r W h => (show EdS none w (.slice a M.n cap) (moE M r) from hS).kept (gb_below h none)
  have hco := fun (r : Int) (hr0 : 0 ≤ r) (hr6 : r ≤ 6) W (h : Below w.heap.size w W) (xv yv : Value) (n m : Nat) (x y : Nat → Int) (hx : Si none W xv n x) (hy : Si none W yv m y) => ecost_any W (⟨_, rfl, hed r W h⟩ : Em none W (.agg #[.slice a M.n cap, .int .i64 r]) (moE M r)) ⟨hs.n, hs.f, hs.t, hs.w, by show _ ≤ r; omega, by show r ≤ _; omega⟩ (ht.below h (Nat.le_refl _)) hx hy
  have htm := fun W (h : Below w.heap.size w W) (s t : ByteArray) (hs1 : s.size ≤ 9223372036854775807) (ht1 : t.size ≤ 9223372036854775807) => stimes_1 s t W hs1 ht1 (ht.below h (Nat.le_refl _))
  have hbe := fun W (h : Below w.heap.size w W) (s t : ByteArray) (hs1 : s.size ≤ 9223372036854775807) (ht1 : t.size ≤ 9223372036854775807) => sbetter_1 s t W hs1 ht1 (ht.below h (Nat.le_refl _))
  have hfa := far37_any (n := 4) (b := w.heap.size) (V := fun i => if i = 0 then .slice ax n1 cx else if i = 1 then .slice ay m1 cy else if i = 2 then .slice bx n2 ex else .slice by0 m2 ey) (L := fun i => if i = 0 then n1 else if i = 1 then m1 else if i = 2 then n2 else m2) (w.alloc (.cells #[.slice ax n1 cx, .slice ay m1 cy, .slice bx n2 ex, .slice by0 m2 ey] 27)) (by omega)
    (fun i hi => by
      have h2 : Below w.heap.size w (w.alloc (.cells #[.slice ax n1 cx, .slice ay m1 cy, .slice bx n2 ex, .slice by0 m2 ey] 27)) := (Below.refl _ w).alloc (Nat.le_refl _) _
      have hn := heap_alloc_new w (.cells #[.slice ax n1 cx, .slice ay m1 cy, .slice bx n2 ex, .slice by0 m2 ey] 27)
      generalize w.alloc (.cells #[.slice ax n1 cx, .slice ay m1 cy, .slice bx n2 ex, .slice by0 m2 ey] 27) = WW at hn h2
      rcases (show i = 0 ∨ i = 1 ∨ i = 2 ∨ i = 3 by omega) with rfl | rfl | rfl | rfl
      · exact ⟨by simp [World.cell?, hn], x1, hx1.kept (gb_below h2 none)⟩
      · exact ⟨by simp [World.cell?, hn], y1, hy1.kept (gb_below h2 none)⟩
      · exact ⟨by simp [World.cell?, hn], x2, hx2.kept (gb_below h2 none)⟩
      · exact ⟨by simp [World.cell?, hn], y2, hy2.kept (gb_below h2 none)⟩)
    (fun i _ => by show ((if i = 0 then n1 else if i = 1 then m1 else if i = 2 then n2 else m2 : Nat) : Int) ≤ _; split; omega; split; omega; split <;> omega)
  have HEX := Lib.hid hex; clear hex
  have HCO := Lib.hid hco; clear hco
  have HFA := Lib.hid hfa; clear hfa
  have HTM := Lib.hid htm; clear htm
  have HBE := Lib.hid hbe; clear hbe
  have HS0 := Lib.hid hx1; clear hx1
  have HS1 := Lib.hid hy1; clear hy1
  have HS2 := Lib.hid hx2; clear hx2
  have HS3 := Lib.hid hy2; clear hy2
  have HB0 := Lib.hid (Below.refl w.heap.size w)
  clear hS hs ht hed ha hbb hrow hcp hcm
  go_enter Tryz.func11, Tryz.ntmps11
  by_cases h6 : (60 : Int) < (M.n : Int)
  · have h6' : decide ((60 : Int) < (M.n : Int)) = true := by simp; omega
    go_wp2_with fail
    refine (HEX.out w HB0.out).mono ?_
    rintro rr w2 ⟨rfl, hb2⟩
    have HB2 := Lib.hid ((HB0.out).trans (hb2.mono (HB0.out).size))
    clear hb2
    go_wp2_with fail
    go_ret
    exact ⟨rfl, HB2.out⟩
  have h6' : decide ((60 : Int) < (M.n : Int)) = false := by simp; omega
  go_wp2_with fail
  refine HFA.out.mono ?_
  rintro rr w4 ⟨fb, rfl, hfb, hb4⟩
  have HB4 := Lib.hid (((Below.refl w.heap.size w).alloc (Nat.le_refl _) _).trans (hb4.mono (by simp)))
  clear hb4 HFA HB0
  cases fb
  rotate_left
  · clear hfb
    go_wp2_with fail
    refine (HEX.out w4 HB4.out).mono ?_
    rintro rr w5 ⟨rfl, hb5⟩
    have HB5 := Lib.hid ((HB4.out).trans (hb5.mono (HB4.out).size))
    clear hb5
    go_wp2_with fail
    go_ret
    exact ⟨rfl, HB5.out⟩
  have hno : ∀ i, i < 4 → (fun i => if i = 0 then n1 else if i = 1 then m1 else if i = 2 then n2 else m2) i ≤ 12 := fun i hi => Nat.le_of_not_lt fun h => by
    have := hfb.2 ⟨i, hi, h⟩
    cases this
  have hk1 : n1 ≤ 12 := hno 0 (by omega)
  have hk2 : m1 ≤ 12 := hno 1 (by omega)
  have hk3 : n2 ≤ 12 := hno 2 (by omega)
  have hk4 : m2 ≤ 12 := hno 3 (by omega)
  clear hfb hno
  by_cases hp0 : p < 0
  · have hp0' : decide (p < 0) = true := by simp; omega
    go_wp2_with fail
    refine (HEX.out w4 HB4.out).mono ?_
    rintro rr w5 ⟨rfl, hb5⟩
    have HB5 := Lib.hid ((HB4.out).trans (hb5.mono (HB4.out).size))
    clear hb5
    go_wp2_with fail
    go_ret
    exact ⟨rfl, HB5.out⟩
  have hp0' : decide (p < 0) = false := by simp; omega
  by_cases hq0 : q < 0
  · have hq0' : decide (q < 0) = true := by simp; omega
    go_wp2_with fail
    refine (HEX.out w4 HB4.out).mono ?_
    rintro rr w5 ⟨rfl, hb5⟩
    have HB5 := Lib.hid ((HB4.out).trans (hb5.mono (HB4.out).size))
    clear hb5
    go_wp2_with fail
    go_ret
    exact ⟨rfl, HB5.out⟩
  have hq0' : decide (q < 0) = false := by simp; omega
  by_cases hp6 : 6 < p
  · have hp6' : decide (6 < p) = true := by simp; omega
    go_wp2_with fail
    refine (HEX.out w4 HB4.out).mono ?_
    rintro rr w5 ⟨rfl, hb5⟩
    have HB5 := Lib.hid ((HB4.out).trans (hb5.mono (HB4.out).size))
    clear hb5
    go_wp2_with fail
    go_ret
    exact ⟨rfl, HB5.out⟩
  have hp6' : decide (6 < p) = false := by simp; omega
  by_cases hq6 : 6 < q
  · have hq6' : decide (6 < q) = true := by simp; omega
    go_wp2_with fail
    refine (HEX.out w4 HB4.out).mono ?_
    rintro rr w5 ⟨rfl, hb5⟩
    have HB5 := Lib.hid ((HB4.out).trans (hb5.mono (HB4.out).size))
    clear hb5
    go_wp2_with fail
    go_ret
    exact ⟨rfl, HB5.out⟩
  have hq6' : decide (6 < q) = false := by simp; omega
  have hwr : IntKind.i64.wrap (p + q) = p + q := by rw [IntKind.wrap_i64]; omega
  by_cases hr6 : 6 < p + q
  · have hr6' : decide (6 < p + q) = true := by simp; omega
    go_wp2_with fail
    refine (HEX.out w4 HB4.out).mono ?_
    rintro rr w5 ⟨rfl, hb5⟩
    have HB5 := Lib.hid ((HB4.out).trans (hb5.mono (HB4.out).size))
    clear hb5
    go_wp2_with fail
    go_ret
    exact ⟨rfl, HB5.out⟩
  have hr6' : decide (6 < p + q) = false := by simp; omega
  go_wp2_with fail
  refine (HCO.out p (by omega) (by omega) w4 HB4.out _ _ _ _ _ _ (HS0.out.kept (gb_below HB4.out none)) (HS1.out.kept (gb_below HB4.out none))).mono ?_
  rintro rr w5 hr
  obtain ⟨W1, E1, rfl, hr1, hb5⟩ := hr.val
  have HR1 := Lib.hid hr1
  have HB5 := Lib.hid (HB4.out.trans (hb5.mono HB4.out.size))
  clear hr hr1 hb5 HB4
  go_wp2_with fail
  refine (HCO.out q (by omega) (by omega) w5 HB5.out _ _ _ _ _ _ (HS2.out.kept (gb_below HB5.out none)) (HS3.out.kept (gb_below HB5.out none))).mono ?_
  rintro rr w6 hr
  obtain ⟨W2, E2, rfl, hr2, hb6⟩ := hr.val
  have HR2 := Lib.hid hr2
  have HB6 := Lib.hid (HB5.out.trans (hb6.mono HB5.out.size))
  clear hr hr2 hb6 HB5
  by_cases hE : E1 = 0
  rotate_left
  · have hE' : (E1 == 0) = false := by simp [hE]
    have hE2 : decide (E1 = 0) = false := by simp [hE]
    go_wp2_with fail
    refine (HEX.out w6 HB6.out).mono ?_
    rintro rr w7 ⟨rfl, hb7⟩
    have HB7 := Lib.hid ((HB6.out).trans (hb7.mono (HB6.out).size))
    clear hb7
    go_wp2_with fail
    go_ret
    exact ⟨rfl, HB7.out⟩
  by_cases hF : E2 = 0
  rotate_left
  · have hF' : (E2 == 0) = false := by simp [hF]
    have hF2 : decide (E2 = 0) = false := by simp [hF]
    subst hE
    go_wp2_with fail
    refine (HEX.out w6 HB6.out).mono ?_
    rintro rr w7 ⟨rfl, hb7⟩
    have HB7 := Lib.hid ((HB6.out).trans (hb7.mono (HB6.out).size))
    clear hb7
    go_wp2_with fail
    go_ret
    exact ⟨rfl, HB7.out⟩
  obtain ⟨hV1, hw1, hw2, o1, ho1, hf1, hW1⟩ := HR1.out.ok hE
  obtain ⟨hV2, hw3, hw4, o2, ho2, hf2, hW2⟩ := HR2.out.ok hF
  subst hE hF
  clear HR1 HR2
  have hV3 : VE (moE M (p + q)) := moE_VE hV1 (by omega) (by omega)
  have hw5 := catI_word hw1 hw3 hk1 hk3
  have hw6 := catI_word hw2 hw4 hk2 hk4
  have hz1 : W1.size ≤ 9223372036854775807 := by rw [hW1]; exact costT_size hf1
  have hz2 : W2.size ≤ 9223372036854775807 := by rw [hW2]; exact costT_size hf2
  have HGE := Lib.hid (show ∀ o3, IsCost ⟨moE M (p + q), n1 + n2, catI n1 x1 x2, m1 + m2, catI m1 y1 y2⟩ o3 → fitO o3 → (timesF 1 W1 W2).2 = 0 → (timesF 1 W1 W2).1.size ≤ 9223372036854775807 ∧ 0 ≤ betterF 1 (timesF 1 W1 W2).1 (costT o3) from fun o3 h3 f3 h0 => by
    rw [hW1, hW2] at *
    exact parts_ge ho1 ho2 h3 (by omega) (by omega) hf1 hf2 f3 h0)
  have HV3 := Lib.hid (show VE (moE M (p + q)) ∧ isWord (n1 + n2) (catI n1 x1 x2) = true ∧ isWord (m1 + m2) (catI m1 y1 y2) = true from ⟨hV3, hw5, hw6⟩)
  have HZ12 := Lib.hid (And.intro hz1 hz2)
  clear hV1 hV2 hV3 hw1 hw2 hw3 hw4 hw5 hw6 o1 ho1 hf1 hW1 o2 ho2 hf2 hW2 hz1 hz2 hl1 hl2 hl3 hl4
  have HN7 := Lib.hid (row_new w6 (Nat.le_refl w6.heap.size) 3 1)
  have HA7 := Lib.hid ((Below.refl w6.heap.size w6).alloc (Nat.le_refl _) (.cells #[] 3))
  have HSZ7 := Lib.hid HA7.out.size
  have HW07 := Lib.hid (si_news (HS0.out.kept (gb_below ((HB6.out).trans (HA7.out.mono (HB6.out).size)) none)))
  have HST7 := Lib.hid (show ∀ (wa : World) (ga : Option Addr) (ca : Nat), wa.ownsRow w6.heap.size 3 1 (.slice ga (0 + n1) ca) (0 + n1) ([] ++ ivs n1 x1) → (w6.alloc (.cells #[] 3)).grownBy wa (Value.slice (some ⟨w6.heap.size, 0, none⟩) 0 0).ownBlock → wa.ownsRow w6.heap.size 3 1 (.slice ga (0 + n1) ca) (0 + n1) (ivs n1 x1) ∧ Below w6.heap.size w6 wa from fun wa ga ca h1 h2 => ⟨h1, HA7.out.trans ((Fr.of_gb h2 (fun _ e => e)).below HA7.out.size (fun c e => (World.ownsRow.lt HN7.out c e).1))⟩)
  have HSF7 := Lib.hid (show ∀ (wa wc : World) (ga : Option Addr) (ca : Nat) (gc : Option Addr) (cc : Nat), wa.ownsRow w6.heap.size 3 1 (.slice ga (0 + n1) ca) (0 + n1) (ivs n1 x1) → Below w6.heap.size w6 wa → wc.ownsRow w6.heap.size 3 1 (.slice gc (0 + n1 + n2) cc) (0 + n1 + n2) (ivs n1 x1 ++ ivs n2 x2) → wa.grownBy wc (Value.slice ga (0 + n1) ca).ownBlock → Si none wc (.slice gc (n1 + n2) cc) (n1 + n2) (catI n1 x1 x2) ∧ Below w6.heap.size w6 wc from fun wa wc ga ca gc cc h0 hb h1 h2 => ⟨by rw [ivs_app, Nat.zero_add] at h1; exact ivs_si h1, hb.trans ((Fr.of_gb h2 (fun _ e => e)).below hb.size (fun c e => (World.ownsRow.lt h0 c e).1))⟩)
  go_wp2_with (at_builtin; first | (refine wpList_append_any _ rfl (.tmp 84) (.tmp 85) 27 rfl w6.heap.size 3 i0 (.int .i64 0) 1 8 Tryz.underlying27 HI0.out HY0.out HY1.out HY2.out rfl (by omega) (some ⟨w6.heap.size, 0, none⟩) 0 0 [] (by first | rfl | simp [Act.eval, Act.put]) HN7.out ax n1 cx (ivs n1 x1) (by first | rfl | simp [Act.eval, Act.put]) (by rw [ivs_len, Nat.mul_one]) HW07.out (ivs_one _ _) (by unfold maxLen; omega) (by omega) HSZ7.out ?_; intro ga ca wa7 hwa7 hga7; obtain ⟨hwa7', hwb7⟩ := HST7.out wa7 ga ca hwa7 hga7; have HWA7 := Lib.hid hwa7'; have HWB7 := Lib.hid hwb7; have HSZA7 := Lib.hid hwb7.size; have HW27b := Lib.hid (si_news (HS2.out.kept (gb_below ((HB6.out).trans (hwb7.mono (HB6.out).size)) none))); clear hwa7 hga7 hwa7' hwb7) | (refine wpList_append_any _ rfl (.tmp 86) (.tmp 87) 27 rfl w6.heap.size 3 i0 (.int .i64 0) 1 8 Tryz.underlying27 HI0.out HY0.out HY1.out HY2.out rfl (by omega) ga (0 + n1) ca (ivs n1 x1) (by first | rfl | simp [Act.eval, Act.put]) HWA7.out bx n2 ex (ivs n2 x2) (by first | rfl | simp [Act.eval, Act.put]) (by rw [ivs_len, Nat.mul_one]) HW27b.out (ivs_one _ _) (by unfold maxLen; omega) (by omega) HSZA7.out ?_; intro gc7 cc7 wc7 hwc7 hgc7; obtain ⟨hse7, hwd7⟩ := HSF7.out wa7 wc7 ga ca gc7 cc7 HWA7.out HWB7.out hwc7 hgc7; have HSE7 := Lib.hid hse7; have HWD7 := Lib.hid hwd7; clear hwc7 hgc7 hse7 hwd7 HWA7 HWB7 HSZA7 HW27b HN7 HW07 HSZ7 HST7 HSF7; have HC7 := Lib.hid ((HB6.out).trans (HWD7.out.mono (HB6.out).size)); have HN8 := Lib.hid (row_new wc7 (Nat.le_refl wc7.heap.size) 3 1); have HA8 := Lib.hid ((Below.refl wc7.heap.size wc7).alloc (Nat.le_refl _) (.cells #[] 3)); have HSZ8 := Lib.hid HA8.out.size; have HW18 := Lib.hid (si_news (HS1.out.kept (gb_below ((HC7.out).trans (HA8.out.mono (HC7.out).size)) none))); have HST8 := Lib.hid (show ∀ (wa : World) (ga : Option Addr) (ca : Nat), wa.ownsRow wc7.heap.size 3 1 (.slice ga (0 + m1) ca) (0 + m1) ([] ++ ivs m1 y1) → (wc7.alloc (.cells #[] 3)).grownBy wa (Value.slice (some ⟨wc7.heap.size, 0, none⟩) 0 0).ownBlock → wa.ownsRow wc7.heap.size 3 1 (.slice ga (0 + m1) ca) (0 + m1) (ivs m1 y1) ∧ Below wc7.heap.size wc7 wa from fun wa ga ca h1 h2 => ⟨h1, HA8.out.trans ((Fr.of_gb h2 (fun _ e => e)).below HA8.out.size (fun c e => (World.ownsRow.lt HN8.out c e).1))⟩); have HSF8 := Lib.hid (show ∀ (wa wc : World) (ga : Option Addr) (ca : Nat) (gc : Option Addr) (cc : Nat), wa.ownsRow wc7.heap.size 3 1 (.slice ga (0 + m1) ca) (0 + m1) (ivs m1 y1) → Below wc7.heap.size wc7 wa → wc.ownsRow wc7.heap.size 3 1 (.slice gc (0 + m1 + m2) cc) (0 + m1 + m2) (ivs m1 y1 ++ ivs m2 y2) → wa.grownBy wc (Value.slice ga (0 + m1) ca).ownBlock → Si none wc (.slice gc (m1 + m2) cc) (m1 + m2) (catI m1 y1 y2) ∧ Below wc7.heap.size wc7 wc from fun wa wc ga ca gc cc h0 hb h1 h2 => ⟨by rw [ivs_app, Nat.zero_add] at h1; exact ivs_si h1, hb.trans ((Fr.of_gb h2 (fun _ e => e)).below hb.size (fun c e => (World.ownsRow.lt h0 c e).1))⟩)) | (refine wpList_append_any _ rfl (.tmp 89) (.tmp 90) 27 rfl wc7.heap.size 3 i0 (.int .i64 0) 1 8 Tryz.underlying27 HI0.out HY0.out HY1.out HY2.out rfl (by omega) (some ⟨wc7.heap.size, 0, none⟩) 0 0 [] (by first | rfl | simp [Act.eval, Act.put]) HN8.out ay m1 cy (ivs m1 y1) (by first | rfl | simp [Act.eval, Act.put]) (by rw [ivs_len, Nat.mul_one]) HW18.out (ivs_one _ _) (by unfold maxLen; omega) (by omega) HSZ8.out ?_; intro ga ca wa8 hwa8 hga8; obtain ⟨hwa8', hwb8⟩ := HST8.out wa8 ga ca hwa8 hga8; have HWA8 := Lib.hid hwa8'; have HWB8 := Lib.hid hwb8; have HSZA8 := Lib.hid hwb8.size; have HW38b := Lib.hid (si_news (HS3.out.kept (gb_below ((HC7.out).trans (hwb8.mono (HC7.out).size)) none))); clear hwa8 hga8 hwa8' hwb8) | (refine wpList_append_any _ rfl (.tmp 91) (.tmp 92) 27 rfl wc7.heap.size 3 i0 (.int .i64 0) 1 8 Tryz.underlying27 HI0.out HY0.out HY1.out HY2.out rfl (by omega) ga (0 + m1) ca (ivs m1 y1) (by first | rfl | simp [Act.eval, Act.put]) HWA8.out by0 m2 ey (ivs m2 y2) (by first | rfl | simp [Act.eval, Act.put]) (by rw [ivs_len, Nat.mul_one]) HW38b.out (ivs_one _ _) (by unfold maxLen; omega) (by omega) HSZA8.out ?_; intro gc8 cc8 wc8 hwc8 hgc8; obtain ⟨hse8, hwd8⟩ := HSF8.out wa8 wc8 ga ca gc8 cc8 HWA8.out HWB8.out hwc8 hgc8; have HSE8 := Lib.hid hse8; have HWD8 := Lib.hid hwd8; clear hwc8 hgc8 hse8 hwd8 HWA8 HWB8 HSZA8 HW38b HN8 HW18 HSZ8 HST8 HSF8; have HC8 := Lib.hid ((HC7.out).trans (HWD8.out.mono (HC7.out).size))))
  refine (HCO.out (p + q) (by omega) (by omega) wc8 HC8.out _ _ _ _ _ _ (HSE7.out.kept (gb_below HWD8.out none)) HSE8.out).mono ?_
  rintro rr w9 hr
  obtain ⟨W3, E3, rfl, hr3, hb9⟩ := hr.val
  have HR3 := Lib.hid hr3
  have HB9 := Lib.hid (HC8.out.trans (hb9.mono HC8.out.size))
  clear hr hr3 hb9
  have htm := HTM.out w9 HB9.out W1 W2 HZ12.out.1 HZ12.out.2
  obtain ⟨T, hT⟩ : ∃ T, T = timesF 1 W1 W2 := ⟨_, rfl⟩
  rw [← hT] at htm HGE
  have HTC := Lib.hid htm; clear htm hT
  go_wp2_with fail
  refine HTC.out.mono ?_
  rintro rr w10 ⟨rfl, hb10⟩
  have HB10 := Lib.hid (HB9.out.trans (hb10.mono HB9.out.size))
  clear hb10 HTC HB9
  rcases HR3.out.val HV3.out.1 HV3.out.2.1 HV3.out.2.2 with h0 | ⟨h2, _⟩
  rotate_left
  · subst h2
    clear HR3
    go_wp2_with fail
    refine (HEX.out w10 HB10.out).mono ?_
    rintro rr w11 ⟨rfl, hb11⟩
    have HB11 := Lib.hid ((HB10.out).trans (hb11.mono (HB10.out).size))
    clear hb11
    go_wp2_with fail
    go_ret
    exact ⟨rfl, HB11.out⟩
  obtain ⟨_, _, _, o3, ho3, hf3, hW3⟩ := HR3.out.ok h0
  subst h0
  clear HR3
  by_cases hT0 : T.2 = 0
  rotate_left
  · have hT1 : ¬ ((T.2 : Int) = 0) := by omega
    have hT2 : decide ((T.2 : Int) = 0) = false := by simp; omega
    have hT3 : ((T.2 : Int) == 0) = false := by simp; omega
    go_wp2_with fail
    refine (HEX.out w10 HB10.out).mono ?_
    rintro rr w11 ⟨rfl, hb11⟩
    have HB11 := Lib.hid ((HB10.out).trans (hb11.mono (HB10.out).size))
    clear hb11
    go_wp2_with fail
    go_ret
    exact ⟨rfl, HB11.out⟩
  have hT1 : (T.2 : Int) = 0 := by omega
  obtain ⟨hTz, hTb⟩ := HGE.out o3 ho3 hf3 hT0
  have hz3 : W3.size ≤ 9223372036854775807 := by rw [hW3]; exact costT_size hf3
  rw [← hW3] at hTb
  have hbc := HBE.out w10 HB10.out T.1 W3 hTz hz3
  obtain ⟨bt, hbte⟩ : ∃ bt, bt = betterF 1 T.1 W3 := ⟨_, rfl⟩
  rw [← hbte] at hTb hbc
  have HBC2 := Lib.hid hbc; clear hbc
  have hge' : decide ((0 : Int) ≤ bt) = true := by simp; omega
  clear hbte ho3 hf3 hW3 hTz hz3
  go_wp2_with fail
  refine HBC2.out.mono ?_
  rintro rr w11 ⟨rfl, hb11⟩
  have HB11 := Lib.hid (HB10.out.trans (hb11.mono HB10.out.size))
  clear hb11 HBC2
  go_wp2_with fail
  refine (HEX.out w11 HB11.out).mono ?_
  rintro rr w12 ⟨rfl, hb12⟩
  have HB12 := Lib.hid ((HB11.out).trans (hb12.mono (HB11.out).size))
  clear hb12
  go_wp2_with fail
  go_ret
  exact ⟨rfl, HB12.out⟩
end Go.Proofs.YtjekapjbigfkbaaGreatDoor

namespace Go.Proofs.YtjekapjbigfkbaaGreatDoor
open Go Go.RowKit Go.Deep Go.ChangeShapes Go.WideShapes
set_option maxRecDepth 100000
end Go.Proofs.YtjekapjbigfkbaaGreatDoor
namespace Go.Proofs.YtjekapjbigfkbaaGreatDoor
open Go Go.RowKit Go.Deep Go.ChangeShapes Go.WideShapes Go.Joins
set_option maxRecDepth 100000
theorem weightsAll_mem {H : Type} {P : Program} {e : TypeId} {d : DataW H} {n : Nat} : ∀ {ds : List (DataW H)}, d ∈ ds → n ∈ d.weights P e → n ∈ DataW.weightsAll P e ds
  | d0 :: r, h, hn => by
    simp only [DataW.weightsAll, List.mem_append]
    rcases List.mem_cons.1 h with rfl | h
    · exact .inl hn
    · exact .inr (weightsAll_mem h hn)
theorem slice_weight {H : Type} {t e : TypeId} {el sp : List (DataW H)} (hu : Tryz.prog.underlying t = some (.slice e)) (hB : 1 ≤ Tryz.prog.bytesOf e) {b : Nat} (hb : ∀ m ∈ (DataW.slice el sp).weights Tryz.prog t, m ≤ b) : el.length ≤ b := by
  have h := hb ((el.length + sp.length) * Tryz.prog.bytesOf e) (by simp [DataW.weights, hu])
  have := Nat.le_mul_of_pos_right (el.length + sp.length) hB
  omega
theorem weights_part {H : Type} {t e : TypeId} {el sp : List (DataW H)} {d : DataW H} {m : Nat} (hu : Tryz.prog.underlying t = some (.slice e)) (hd : d ∈ el) (hm : m ∈ d.weights Tryz.prog e) : m ∈ (DataW.slice el sp).weights Tryz.prog t := by
  simp only [DataW.weights, hu, List.mem_cons, List.mem_append]
  exact .inr (.inl (weightsAll_mem hd hm))
end Go.Proofs.YtjekapjbigfkbaaGreatDoor

namespace Go.Proofs.YtjekapjbigfkbaaGreatDoor
open Go Go.RowKit Go.Deep Go.ChangeShapes Go.WideShapes
set_option maxRecDepth 100000
theorem arg_ints {H : Type} {enc : TypeId × Value → H} {W : World} {held : Bool} {fuel : Nat} {v : Value} {x : DataW H × List MemPlace} (h : DataW.trod enc Tryz.prog W 0 (fun _ => true) held fuel 27 [v] = some x) :
    ∃ (n : Nat) (wk : Nat → Int), Rd none W v n fun i => .int .i64 (wk i) := by
  rcases open_slice1 Tryz.underlying27 (by kernel_rfl) h with ⟨hc, _⟩ | ⟨a, len, cap, m, n', V, D, Pl, hc, _, hl, hm, hmm, _, hx⟩
  · simp only [List.cons.injEq, and_true] at hc
    exact ⟨0, fun _ => 0, .inl ⟨rfl, none, 0, hc, Nat.zero_le _⟩⟩
  · simp only [List.cons.injEq, and_true] at hc
    simp only [if_true] at hmm
    subst hmm
    classical
    have hall : ∀ i, ∃ z : Int, i < m → V i = .int .i64 z := fun i => by
      by_cases hi : i < m
      · obtain ⟨z, hz, _⟩ := DataW.trod_int Tryz.underlying3 (hx i hi).2
        exact ⟨z, fun _ => by simpa using hz⟩
      · exact ⟨0, fun h => absurd h hi⟩
    refine ⟨len, fun i => Classical.choose (hall i), ?_⟩
    by_cases h0 : len = 0
    · subst h0; exact .inl ⟨rfl, some a, m, hc, hm⟩
    · have c0 := (hx 0 (by omega)).1
      have hs : a.spot = none := by simpa [Addr.add] using World.cell?_spot c0
      obtain ⟨b, off, sp⟩ := a
      simp only at hs; subst hs
      refine .inr ⟨b, off, m, hc, ⟨?_, by simp⟩, hl, hm, fun j hj => ?_⟩
      · have := World.block_lt_of_cell? _ _ c0
        rw [Addr.add_lit] at this; exact this
      · have := (hx j (by omega)).1
        rw [Addr.add_lit, Classical.choose_spec (hall j) (by omega)] at this; exact this
end Go.Proofs.YtjekapjbigfkbaaGreatDoor
