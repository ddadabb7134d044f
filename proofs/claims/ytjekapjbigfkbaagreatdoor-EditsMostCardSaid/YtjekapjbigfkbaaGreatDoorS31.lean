/- Parts of a proof: EdX EdY EdN. -/
import Derived.Test.YtjekapjbigfkbaaGreatDoorS29
import Derived.Test.YtjekapjbigfkbaaGreatDoorS30
import Derived.Laws.ResultCell
import Derived.Test.YtjekapjbigfkbaaGreatDoorS23
import Derived.Test.YtjekapjbigfkbaaGreatDoorS27
namespace Go.Proofs.YtjekapjbigfkbaaGreatDoor
open Go Go.RowKit Go.Deep
set_option maxRecDepth 100000
set_option linter.unusedSimpArgs false
def modelM : EM := ⟨3, fun i => if i = 0 then ⟨1, fun _ => 1, 1, fun _ => 2, ⟨#[49]⟩⟩ else if i = 1 then ⟨2, fun k => if k = 0 then 1 else 2, 1, fun _ => 3, ⟨#[49]⟩⟩ else ⟨0, fun _ => 0, 1, fun _ => 1, ⟨#[50]⟩⟩, 2⟩
def x12 : Nat → Int := fun i => if i = 0 then 1 else 2
theorem ex_weight : wgtC (cmpC modelM 3) 2 x12 1 (fun _ => 3) = (⟨#[49]⟩, 0) := by decide +kernel
theorem ex_nosil : NoSil (cmpC modelM 3) := by
  have h : ∀ q, q < (cmpC modelM 3).n → ∀ k, k < (cmpC modelM 3).na q → silB ((cmpC modelM 3).ain q k) ((cmpC modelM 3).aout q k) = false := by decide +kernel
  exact fun q k h1 h2 => h q h1 k h2
theorem cost_one : costOk ⟨#[49]⟩ := costB_iff.1 (by decide +kernel)
theorem cost_two : costOk ⟨#[50]⟩ := costB_iff.1 (by decide +kernel)
theorem modelM_valid : VE modelM := by
  refine ⟨by decide, by decide, by decide, fun i hi => ?_⟩
  have h : i = 0 ∨ i = 1 ∨ i = 2 := by have : i < 3 := hi; omega
  rcases h with rfl | rfl | rfl
  · exact ⟨by decide, by decide, by decide, fun j _ => by show 1 ≤ (1 : Int) ∧ (1 : Int) ≤ 500; omega, fun j _ => by show 1 ≤ (2 : Int) ∧ (2 : Int) ≤ 500; omega, cost_one⟩
  · exact ⟨by decide, by decide, by decide, fun j _ => by show 1 ≤ (if j = 0 then (1 : Int) else 2) ∧ (if j = 0 then (1 : Int) else 2) ≤ 500; split <;> omega, fun j _ => by show 1 ≤ (3 : Int) ∧ (3 : Int) ≤ 500; omega, cost_one⟩
  · exact ⟨by decide, by decide, by decide, fun j hj => absurd hj (Nat.not_lt_zero _), fun j _ => by show 1 ≤ (1 : Int) ∧ (1 : Int) ≤ 500; omega, cost_two⟩
theorem ex_in : InSg modelM 3 := by
  intro i hi
  have h : i = 0 ∨ i = 1 ∨ i = 2 := by have : i < 3 := hi; omega
  rcases h with rfl | rfl | rfl
  · exact ⟨fun j _ => by show 1 ≤ (1 : Int) ∧ (1 : Int) ≤ 3; omega, fun j _ => by show 1 ≤ (2 : Int) ∧ (2 : Int) ≤ 3; omega⟩
  · exact ⟨fun j _ => by show 1 ≤ (if j = 0 then (1 : Int) else 2) ∧ (if j = 0 then (1 : Int) else 2) ≤ 3; split <;> omega, fun j _ => by show 1 ≤ (3 : Int) ∧ (3 : Int) ≤ 3; omega⟩
  · exact ⟨fun j hj => absurd hj (Nat.not_lt_zero _), fun j _ => by show 1 ≤ (1 : Int) ∧ (1 : Int) ≤ 3; omega⟩
theorem ex_size : InSz modelM 3 := by
  have h : szC modelM modelM.n = 4 := by decide +kernel
  unfold InSz; rw [h]; decide
theorem ex_valid : VM (cmpC modelM 3) := by
  have h0 : (cmpC modelM 3).kind = 1 ∧ (cmpC modelM 3).start = 0 ∧ (cmpC modelM 3).lead = oneF 1 := allC_hd (stC_hd _ _) _
  have hn : (cmpC modelM 3).n = 5 := by decide +kernel
  refine ⟨by rw [h0.1]; decide, by rw [hn]; omega, by rw [hn]; omega, by rw [h0.2.1]; omega, by rw [h0.2.1, hn]; omega, by rw [h0.1, h0.2.2]; decide +kernel, by decide +kernel, ?_, ?_⟩
  · have h : ∀ i, i < (cmpC modelM 3).n → ((cmpC modelM 3).fin i = ⟨#[]⟩ ∨ weightF (cmpC modelM 3).kind ((cmpC modelM 3).fin i) = true) := by decide +kernel
    exact fun i hi => h i hi
  · have h : ∀ i, i < (cmpC modelM 3).n → ∀ k, k < (cmpC modelM 3).na i → (0 ≤ (cmpC modelM 3).ain i k ∧ (cmpC modelM 3).ain i k ≤ 500) ∧ (0 ≤ (cmpC modelM 3).aout i k ∧ (cmpC modelM 3).aout i k ≤ 500) ∧ (0 ≤ (cmpC modelM 3).ato i k ∧ (cmpC modelM 3).ato i k < ((cmpC modelM 3).n : Int)) ∧ weightF (cmpC modelM 3).kind ((cmpC modelM 3).aw i k) = true := by decide +kernel
    intro i k hi hk
    obtain ⟨⟨a1, a2⟩, ⟨b1, b2⟩, ⟨c1, c2⟩, d⟩ := h i hi k hk
    exact ⟨a1, a2, b1, b2, c1, c2, d⟩
end Go.Proofs.YtjekapjbigfkbaaGreatDoor

namespace Go.Proofs.YtjekapjbigfkbaaGreatDoor
open Go
set_option maxRecDepth 100000
theorem ex_cost1 : costC ⟨modelM, 2, fun _ => 1, 2, fun _ => 2⟩ = (⟨#[50]⟩, 0) := by decide +kernel
theorem ex_cost2 : costC ⟨modelM, 3, fun _ => 1, 3, fun _ => 2⟩ = (infS, 0) := by decide +kernel
theorem ex_cost3 : costC ⟨modelM, 2, x12, 2, x12⟩ = (⟨#[48]⟩, 0) := by decide +kernel
end Go.Proofs.YtjekapjbigfkbaaGreatDoor

namespace Go.Proofs.YtjekapjbigfkbaaGreatDoor
open Go Go.RowKit Go.Deep
set_option maxRecDepth 100000
set_option linter.unusedSimpArgs false
def allocs (w : World) (l : List Obj) : World := l.foldl World.alloc w
theorem allocs_below : ∀ (l : List Obj) (w a : World) (B : Nat), Below B a w → B ≤ w.heap.size → Below B a (allocs w l)
  | [], _, _, _, h, _ => h
  | o :: l, w, a, B, h, hB => allocs_below l (w.alloc o) a B (h.alloc hB o) (by simp; omega)
theorem allocs_old : ∀ (l : List Obj) (w : World) {q : Nat}, q < w.heap.size → (allocs w l).heap[q]? = w.heap[q]?
  | [], _, _, _ => rfl
  | o :: l, w, q, h => (allocs_old l (w.alloc o) (by simp; omega)).trans (blk_alloc_lt _ _ _ h)
theorem allocs_get : ∀ (l : List Obj) (w : World) {i : Nat} {o : Obj}, l[i]? = some o → (allocs w l).heap[w.heap.size + i]? = some o
  | [], _, _, _, h => by simp at h
  | o' :: l, w, 0, o, h => by
    simp at h; subst h
    exact (allocs_old l (w.alloc o') (by simp)).trans (heap_alloc_new w o')
  | o' :: l, w, i + 1, o, h => by
    have := allocs_get l (w.alloc o') (i := i) (o := o) (by simpa using h)
    rw [show (w.alloc o').heap.size + i = w.heap.size + (i + 1) by simp; omega] at this
    exact this
theorem si_blk {w : World} {b n : Nat} {c : Array Value} {t : TypeId} {f : Nat × Nat} {x : Nat → Int} (h : w.heap[b]? = some (.cells c t f)) (hn : n ≤ maxLen) (hc : ∀ i, i < n → c[i]? = some (.int .i64 (x i))) : Si none w (.slice (some ⟨b, 0, none⟩) n n) n x :=
  .inr ⟨b, 0, n, rfl, ⟨lt_of_block h, by simp⟩, Nat.le_refl _, hn, fun i hi => by rw [Nat.zero_add]; exact cell_of h i (hc i hi)⟩
theorem si_nil (w : World) (x : Nat → Int) : Si none w (.slice none 0 0) 0 x := .inl ⟨rfl, none, 0, rfl, Nat.zero_le _⟩
theorem eds_blk {w : World} {b : Nat} {M : EM} {c : Array Value} {t : TypeId} {f : Nat × Nat} {F T : Nat → Value} (h : w.heap[b]? = some (.cells c t f)) (hn : M.n ≤ maxLen)
    (hc : ∀ i, i < M.n → c[i * 3]? = some (F i) ∧ c[i * 3 + 1]? = some (T i) ∧ c[i * 3 + 2]? = some (.string (M.e i).w) ∧ Si none w (F i) (M.e i).nf (M.e i).f ∧ Si none w (T i) (M.e i).nt (M.e i).t) : EdS none w (.slice (some ⟨b, 0, none⟩) M.n M.n) M :=
  .inr ⟨b, 0, M.n, F, T, rfl, ⟨lt_of_block h, by simp⟩, Nat.le_refl _, hn, fun i hi => by
    obtain ⟨c1, c2, c3, c4, c5⟩ := hc i hi
    rw [Nat.zero_add]
    exact ⟨cell_of h _ c1, cell_of h _ c2, cell_of h _ c3, c4, c5⟩⟩
theorem lt1 {p : Nat → Prop} (h : p 0) : ∀ i, i < 1 → p i := fun i hi => by
  have : i = 0 := by omega
  subst this; exact h
theorem lt2 {p : Nat → Prop} (h : p 0) (h1 : p 1) : ∀ i, i < 2 → p i := fun i hi => by
  have : i = 0 ∨ i = 1 := by omega
  rcases this with rfl | rfl <;> assumption
theorem lt3 {p : Nat → Prop} (h : p 0) (h1 : p 1) (h2 : p 2) : ∀ i, i < 3 → p i := fun i hi => by
  have : i = 0 ∨ i = 1 ∨ i = 2 := by omega
  rcases this with rfl | rfl | rfl <;> assumption
theorem lt4 {p : Nat → Prop} (h : p 0) (h1 : p 1) (h2 : p 2) (h3 : p 3) : ∀ i, i < 4 → p i := fun i hi => by
  have : i = 0 ∨ i = 1 ∨ i = 2 ∨ i = 3 := by omega
  rcases this with rfl | rfl | rfl | rfl <;> assumption
theorem one_ml : 1 ≤ maxLen := by unfold maxLen; omega
theorem two_ml : 2 ≤ maxLen := by unfold maxLen; omega
theorem three_ml : 3 ≤ maxLen := by unfold maxLen; omega
def BxE (w : World) (b : Nat) (sv : Value) (mo : Int) : Prop := w.heap[b]? = some (.cells #[sv, .int .i64 mo] 24 (0, 0))
theorem BxE.range {w : World} {b : Nat} {sv : Value} {mo : Int} (h : BxE w b sv mo) : w.rangeAt b 0 [sv, .int .i64 mo] := by
  intro j v hv
  unfold BxE at h
  have hj : j < 2 := by have := (List.getElem?_eq_some_iff.1 hv).1; simpa using this
  have : j = 0 ∨ j = 1 := by omega
  rcases this with rfl | rfl <;> (simp at hv; subst hv; simp [World.cell?, h])
theorem run_load2 {w : World} {b : Nat} {sv : Value} {mo : Int} (h : BxE w b sv mo) : (loadVar 24 ⟨b, 0, none⟩).run Tryz.prog w = .ok (.agg #[sv, .int .i64 mo]) w :=
  run_loadVar_mid (P := Tryz.prog) w b 0 24 [sv, .int .i64 mo] _ h.range Tryz.underlying24 rfl (by kernel_rfl)
theorem results_e1 {fn : Func} {p : Tmp} (h : fn.results = #[.cell p 24]) (tmps : Array Value) {w : World} {b : Nat} {sv : Value} {mo : Int} (hp : tmps.getD p undef = .pointer (some ⟨b, 0, none⟩)) (hb : BxE w b sv mo) :
    (results fn tmps).run Tryz.prog w = .ok (.agg #[sv, .int .i64 mo]) w := by
  rw [results_cell h, hp]
  show ((loadVar 24 ⟨b, 0, none⟩).run Tryz.prog w) = _
  exact run_load2 hb
theorem results_e2 {fn : Func} {p u : Tmp} (h : fn.results = #[.cell p 24, .tmp u]) (tmps : Array Value) {w : World} {b : Nat} {sv v : Value} {mo : Int} (hp : tmps.getD p undef = .pointer (some ⟨b, 0, none⟩)) (hu : tmps.getD u undef = v) (hb : BxE w b sv mo) :
    (results fn tmps).run Tryz.prog w = .ok (.tuple #[.agg #[sv, .int .i64 mo], v]) w := by
  rw [results_cell_tmp h, hp, hu]
  show ((loadVar 24 ⟨b, 0, none⟩).run Tryz.prog w).andThen _ = _
  rw [run_load2 hb]; rfl
def NewE (M : EM) (w : World) (r : Ending) (w' : World) : Prop := Below w.heap.size w w' ∧ ∃ sv, r = .returned (.agg #[sv, .int .i64 M.most]) ∧ EdS none w' sv M
set_option maxHeartbeats 4000000 in
theorem model_any (w : World) : Calls Tryz.prog 31 #[] w (NewE modelM w) := by
  go_enter Tryz.func31, Tryz.ntmps31
  go_wp2_with fail
  obtain ⟨l, hl⟩ : ∃ l, l = [Obj.cells #[.slice (some ⟨w.heap.size + 6, 0, none⟩) 3 3, .int .i64 2] 24, .cells #[.int .i64 1] 3, .cells #[.int .i64 2] 3, .cells #[.int .i64 1, .int .i64 2] 3, .cells #[.int .i64 3] 3, .cells #[.int .i64 1] 3,
    .cells #[.slice (some ⟨w.heap.size + 1, 0, none⟩) 1 1, .slice (some ⟨w.heap.size + 2, 0, none⟩) 1 1, .string ⟨#[49]⟩, .slice (some ⟨w.heap.size + 3, 0, none⟩) 2 2, .slice (some ⟨w.heap.size + 4, 0, none⟩) 1 1, .string ⟨#[49]⟩, .slice none 0 0, .slice (some ⟨w.heap.size + 5, 0, none⟩) 1 1, .string ⟨#[50]⟩] 50] := ⟨_, rfl⟩
  have b0 : (allocs w l).heap[w.heap.size + 0]? = _ := allocs_get l w (i := 0) (by rw [hl]; rfl)
  have b1 : (allocs w l).heap[w.heap.size + 1]? = _ := allocs_get l w (i := 1) (by rw [hl]; rfl)
  have b2 : (allocs w l).heap[w.heap.size + 2]? = _ := allocs_get l w (i := 2) (by rw [hl]; rfl)
  have b3 : (allocs w l).heap[w.heap.size + 3]? = _ := allocs_get l w (i := 3) (by rw [hl]; rfl)
  have b4 : (allocs w l).heap[w.heap.size + 4]? = _ := allocs_get l w (i := 4) (by rw [hl]; rfl)
  have b5 : (allocs w l).heap[w.heap.size + 5]? = _ := allocs_get l w (i := 5) (by rw [hl]; rfl)
  have b6 : (allocs w l).heap[w.heap.size + 6]? = _ := allocs_get l w (i := 6) (by rw [hl]; rfl)
  have hbl := allocs_below l w w w.heap.size (Below.refl _ _) (Nat.le_refl _)
  subst hl
  refine bodyPost_ret (results_e1 rfl _ (b := w.heap.size) rfl b0) rfl ⟨hbl, _, rfl, ?_⟩
  refine eds_blk (M := modelM) (F := fun i => if i = 0 then .slice (some ⟨w.heap.size + 1, 0, none⟩) 1 1 else if i = 1 then .slice (some ⟨w.heap.size + 3, 0, none⟩) 2 2 else .slice none 0 0)
    (T := fun i => if i = 0 then .slice (some ⟨w.heap.size + 2, 0, none⟩) 1 1 else if i = 1 then .slice (some ⟨w.heap.size + 4, 0, none⟩) 1 1 else .slice (some ⟨w.heap.size + 5, 0, none⟩) 1 1) b6 (by show 3 ≤ maxLen; unfold maxLen; omega) (fun i hi => ?_)
  have h : i = 0 ∨ i = 1 ∨ i = 2 := by have : i < 3 := hi; omega
  rcases h with rfl | rfl | rfl
  · exact ⟨rfl, rfl, rfl, si_blk b1 one_ml (lt1 rfl), si_blk b2 one_ml (lt1 rfl)⟩
  · exact ⟨rfl, rfl, rfl, si_blk b3 two_ml (lt2 rfl rfl), si_blk b4 one_ml (lt1 rfl)⟩
  · exact ⟨rfl, rfl, rfl, si_nil _ _, si_blk b5 one_ml (lt1 rfl)⟩
def lcostC (P : EP) : ByteArray := if (costC P).2 ≠ 0 then ⟨#[101, 114, 114, 111, 114]⟩ else (costC P).1
set_option maxHeartbeats 4000000 in
theorem lcost_any {M : EM} {mv xv yv : Value} {na nb : Nat} {x y : Nat → Int} (w : World) (hM : Em none w mv M) (hs : ESz M) (ht : Tab w) (hx : Si none w xv na x) (hy : Si none w yv nb y) (hv : VE M) (hwx : isWord na x = true) (hwy : isWord nb y = true) :
    Calls Tryz.prog 32 #[mv, xv, yv] w (fun r w' => r = .returned (.string (lcostC ⟨M, na, x, nb, y⟩)) ∧ Below w.heap.size w w') := by
  obtain ⟨sv, rfl, hS⟩ := hM
  obtain ⟨a, cap, _, _, _, _, _, _, hsv, _⟩ := hS.open
  obtain ⟨ax, cx, rfl⟩ := hx.shape
  obtain ⟨ay, cy, rfl⟩ := hy.shape
  subst hsv
  obtain ⟨w1, hw1⟩ : ∃ w1, w1 = w.alloc (.cells #[.slice a M.n cap, .int .i64 M.most] 24) := ⟨_, rfl⟩
  have hf1 : Fr (fun _ => False) w w1 := by rw [hw1]; exact Fr.alloc _ _
  have hb1 : Below w.heap.size w w1 := hf1.below (Nat.le_refl _) (fun _ e => e.elim)
  have HC := Lib.hid (ecost_any w1 (⟨_, rfl, hS.kept (gb_below hb1 none)⟩ : Em none w1 (.agg #[.slice a M.n cap, .int .i64 M.most]) M) hs (ht.below hb1 (Nat.le_refl _)) (hx.kept (gb_below hb1 none)) (hy.kept (gb_below hb1 none)))
  have HB1 := Lib.hid hb1; clear hb1 hf1 hx hy hS ht hs
  have HOK := Lib.hid (show VE M ∧ isWord na x = true ∧ isWord nb y = true from ⟨hv, hwx, hwy⟩); clear hv hwx hwy
  obtain ⟨zl, hzl⟩ : ∃ zl, zl = lcostC ⟨M, na, x, nb, y⟩ := ⟨_, rfl⟩
  obtain ⟨z, hz⟩ : ∃ z, z = costC ⟨M, na, x, nb, y⟩ := ⟨_, rfl⟩
  rw [← hzl]
  have hl : zl = if z.2 ≠ 0 then ⟨#[101, 114, 114, 111, 114]⟩ else z.1 := by rw [hzl, hz]; rfl
  have HZ := Lib.hid hz; clear hz hzl
  have HL := Lib.hid hl; clear hl
  go_enter Tryz.func32, Tryz.ntmps32
  go_wp2_with fail
  rw [← hw1]
  clear hw1
  refine HC.out.mono ?_
  rintro r w2 ⟨hb2, hr⟩
  rcases hr with ⟨_, _, _, rfl⟩ | ⟨hno, rfl⟩
  rotate_left
  · exact absurd HOK.out hno
  have HB2 := Lib.hid (HB1.out.trans (hb2.mono HB1.out.size)); clear hb2 HB1
  rw [← HZ.out]
  by_cases he : z.2 = 0
  · have hez : (z.2 : Int) = 0 := by omega
    have HL2 := Lib.hid (HL.out.trans (if_neg (by omega)))
    clear he
    go_wp2_with fail
    go_ret
    exact ⟨ret_str HL2.out.symm, HB2.out⟩
  · have hez : ¬ ((z.2 : Int) = 0) := by omega
    have HL2 := Lib.hid (HL.out.trans (if_pos he))
    clear he
    go_wp2_with fail
    go_ret
    exact ⟨ret_str HL2.out.symm, HB2.out⟩
end Go.Proofs.YtjekapjbigfkbaaGreatDoor
