/- Parts of a proof: EdZ. -/
import Derived.Test.YtjekapjbigfkbaaGreatDoorS31
namespace Go.Proofs.YtjekapjbigfkbaaGreatDoor
open Go Go.RowKit Go.Deep
set_option maxRecDepth 100000
set_option linter.unusedSimpArgs false
def apE (M : EM) (d : ED) : EM := ⟨M.n + 1, fun i => if i = M.n then d else M.e i, M.most⟩
def oneE (mk : Int → ED) (ws : ByteArray) (x : Nat → Int) : Nat → EM → EM
  | 0, M => M
  | i + 1, M => if ws = ⟨#[]⟩ then oneE mk ws x i M else apE (oneE mk ws x i M) { mk (x i) with w := ws }
def rowE (mk : Int → Int → ED) (ws : ByteArray) (x : Nat → Int) (i : Nat) : Nat → EM → EM
  | 0, M => M
  | j + 1, M => if ws ≠ ⟨#[]⟩ ∧ x i ≠ x j then apE (rowE mk ws x i j M) { mk (x i) (x j) with w := ws } else rowE mk ws x i j M
def twoE (mk : Int → Int → ED) (ws : ByteArray) (x : Nat → Int) (n : Nat) : Nat → EM → EM
  | 0, M => M
  | i + 1, M => rowE mk ws x i n (twoE mk ws x n i M)
def insD (s : Int) : ED := ⟨0, fun _ => 0, 1, fun _ => s, ⟨#[]⟩⟩
def remD (s : Int) : ED := ⟨1, fun _ => s, 0, fun _ => 0, ⟨#[]⟩⟩
def repD (s t : Int) : ED := ⟨1, fun _ => s, 1, fun _ => t, ⟨#[]⟩⟩
def swpD (s t : Int) : ED := ⟨2, fun k => if k = 0 then s else t, 2, fun k => if k = 0 then t else s, ⟨#[]⟩⟩
def simE (n : Nat) (x : Nat → Int) (wi wr wp ws : ByteArray) (most : Int) : EM := twoE swpD ws x n n (twoE repD wp x n n (oneE remD wr x n (oneE insD wi x n ⟨0, fun _ => insD 0, most⟩)))
theorem oneE_most (mk : Int → ED) (ws : ByteArray) (x : Nat → Int) (M : EM) : ∀ i, (oneE mk ws x i M).most = M.most ∧ (oneE mk ws x i M).n ≤ M.n + i
  | 0 => ⟨rfl, Nat.le_refl _⟩
  | i + 1 => by
    have ih := oneE_most mk ws x M i
    unfold oneE; split
    · exact ⟨ih.1, by omega⟩
    · exact ⟨ih.1, by show _ + 1 ≤ _; omega⟩
theorem rowE_most (mk : Int → Int → ED) (ws : ByteArray) (x : Nat → Int) (i : Nat) (M : EM) : ∀ j, (rowE mk ws x i j M).most = M.most ∧ (rowE mk ws x i j M).n ≤ M.n + j
  | 0 => ⟨rfl, Nat.le_refl _⟩
  | j + 1 => by
    have ih := rowE_most mk ws x i M j
    unfold rowE; split
    · exact ⟨ih.1, by show _ + 1 ≤ _; omega⟩
    · exact ⟨ih.1, by omega⟩
theorem twoE_most (mk : Int → Int → ED) (ws : ByteArray) (x : Nat → Int) (n : Nat) (M : EM) : ∀ i, (twoE mk ws x n i M).most = M.most ∧ (twoE mk ws x n i M).n ≤ M.n + i * n
  | 0 => ⟨rfl, by show M.n ≤ M.n + 0 * n; omega⟩
  | i + 1 => by
    have ih := twoE_most mk ws x n M i
    have h := rowE_most mk ws x i (twoE mk ws x n i M) n
    exact ⟨h.1.trans ih.1, by show (rowE mk ws x i n _).n ≤ _; rw [Nat.succ_mul]; omega⟩
def SiB (w : World) (v : Value) (n : Nat) (x : Nat → Int) : Prop := (n = 0 ∧ v = .slice none 0 0) ∨ ∃ b c f, v = .slice (some ⟨b, 0, none⟩) n n ∧ n ≤ maxLen ∧ w.heap[b]? = some (.cells c 3 f) ∧ ∀ i, i < n → c[i]? = some (.int .i64 (x i))
theorem SiB.si {w : World} {v : Value} {n : Nat} {x : Nat → Int} (h : SiB w v n x) : Si none w v n x := by
  rcases h with ⟨rfl, rfl⟩ | ⟨b, c, f, rfl, hn, hb, hc⟩
  · exact si_nil w x
  · exact si_blk hb hn hc
theorem SiB.shape {w : World} {v : Value} {n : Nat} {x : Nat → Int} (h : SiB w v n x) : ∃ a c, v = .slice a n c := by
  rcases h with ⟨rfl, rfl⟩ | ⟨b, c, f, rfl, _⟩
  · exact ⟨_, _, rfl⟩
  · exact ⟨_, _, rfl⟩
theorem SiB.kept {w w' : World} {v : Value} {n : Nat} {x : Nat → Int} {C : Nat → Prop} (h : SiB w v n x) (hf : Fr C w w') (hc : ∀ b c f, w.heap[b]? = some (.cells c 3 f) → ¬ C b) : SiB w' v n x := by
  rcases h with h | ⟨b, c, f, rfl, hn, hb, hx⟩
  · exact .inl h
  · exact .inr ⟨b, c, f, rfl, hn, (hf.block b (lt_of_block hb) (hc b c f hb)).trans hb, hx⟩
def ed3 (M : EM) (F T : Nat → Value) (i : Nat) : List Value := [F i, T i, .string (M.e i).w]
theorem ed3_len (M : EM) (F T : Nat → Value) (i : Nat) : (ed3 M F T i).length = 3 := rfl
structure OwE (w : World) (B : Nat) (sv : Value) (M : EM) (F T : Nat → Value) : Prop where
  top : w.ownsRow B 50 3 sv M.n (cat (ed3 M F T) M.n)
  f : ∀ i, i < M.n → SiB w (F i) (M.e i).nf (M.e i).f
  t : ∀ i, i < M.n → SiB w (T i) (M.e i).nt (M.e i).t
theorem OwE.empty (w : World) (B : Nat) (M : EM) (hn : M.n = 0) (F T : Nat → Value) : OwE w B (.slice none 0 0) M F T :=
  ⟨by rw [hn]; exact World.ownsRow_nil w B _ 3, fun i hi => by omega, fun i hi => by omega⟩
theorem OwE.eds {w : World} {B : Nat} {sv : Value} {M : EM} {F T : Nat → Value} (h : OwE w B sv M F T) : EdS none w sv M := by
  rcases h.top.2 with ⟨hv, h0⟩ | ⟨g, cap, cur, hv, hB, hg, h1, h2, h3, h4⟩
  · exact .inl ⟨h0, none, 0, by rw [hv], Nat.zero_le _⟩
  · refine .inr ⟨g, 0, cap, F, T, hv, ⟨(Array.getElem?_eq_some_iff.1 hg).1, by simp⟩, h1, h2, fun i hi => ?_⟩
    have ht := h.top
    rw [hv] at ht
    have hc : ∀ j, j < 3 → ∀ u, (ed3 M F T i)[j]? = some u → w.cell? ⟨g, i * 3 + j, none⟩ = some u := fun j hj u hu => row_cell ht ((cat_get (ed3_len M F T) hj hi).trans hu)
    rw [Nat.zero_add]
    exact ⟨hc 0 (by omega) _ rfl, hc 1 (by omega) _ rfl, hc 2 (by omega) _ rfl, (h.f i hi).si, (h.t i hi).si⟩
theorem OwE.kept {w w' : World} {B : Nat} {sv : Value} {M : EM} {F T : Nat → Value} {C : Nat → Prop} (h : OwE w B sv M F T) (hf : Fr C w w') (h1 : ∀ b, sv.ownBlock = some b → ¬ C b) (h2 : ∀ b c f, w.heap[b]? = some (.cells c 3 f) → ¬ C b) : OwE w' B sv M F T := by
  refine ⟨?_, fun i hi => (h.f i hi).kept hf h2, fun i hi => (h.t i hi).kept hf h2⟩
  refine ⟨h.top.1, ?_⟩
  rcases h.top.2 with hn | ⟨g, cap, cur, hv, hB, hg, h3⟩
  · exact .inl hn
  · exact .inr ⟨g, cap, cur, hv, hB, (hf.block g (lt_of_block hg) (h1 g (by rw [hv]; rfl))).trans hg, h3⟩
theorem OwE.new {w w' : World} {B : Nat} {sv : Value} {M : EM} {F T : Nat → Value} (h : OwE w B sv M F T) (hf : Fr (fun _ => False) w w') : OwE w' B sv M F T := h.kept hf (fun _ _ e => e) (fun _ _ _ _ e => e)
structure SmI (w0 w : World) (lb mb n : Nat) (lv : Value) (x : Nat → Int) (M : EM) (sv : Value) (F T : Nat → Value) : Prop where
  kl : Bx w lb 27 lv
  km : BxE w mb sv M.most
  own : OwE w w0.heap.size sv M F T
  be : Below w0.heap.size w0 w
  ll : w0.heap.size ≤ lb
  lm : w0.heap.size ≤ mb
  lx : Si none w0 lv n x
section
variable {w0 w w' w1 we : World} {lb mb n : Nat} {lv : Value} {x : Nat → Int} {M : EM} {sv : Value} {F T : Nat → Value}
theorem SmI.new (h : SmI w0 w lb mb n lv x M sv F T) (hf : Fr (fun _ => False) w w') : SmI w0 w' lb mb n lv x M sv F T :=
  ⟨h.kl.kept hf (fun e => e), (hf.block mb (lt_of_block h.km) (fun e => e)).trans h.km, h.own.new hf, h.be.trans (hf.below h.be.size (fun _ e => e.elim)), h.ll, h.lm, h.lx⟩
theorem SmI.c0 (h : SmI w0 w lb mb n lv x M sv F T) : w.cell? ⟨mb, 0, none⟩ = some sv := cell_of h.km 0 rfl
theorem SmI.svtb (h : SmI w0 w lb mb n lv x M sv F T) : sv.ownBlock ≠ some mb := own_blk h.own.top h.km (by decide)
theorem SmI.add (h : SmI w0 w lb mb n lv x M sv F T) {o : Obj} {go cp : Nat} {d : ED} {Fd Td : Value} (hF : SiB w Fd d.nf d.f) (hT : SiB w Td d.nt d.t)
    (hown : we.ownsRow w0.heap.size 50 3 (.slice (some ⟨go, 0, none⟩) (M.n + 1) cp) (M.n + 1) (cat (ed3 M F T) M.n ++ [Fd, Td, .string d.w])) (hgrow : (w.alloc o).grownBy we sv.ownBlock) :
    SmI w0 (we.setCell ⟨mb, 0, none⟩ (.slice (some ⟨go, 0, none⟩) (M.n + 1) cp)) lb mb n lv x (apE M d) (.slice (some ⟨go, 0, none⟩) (M.n + 1) cp) (fun i => if i = M.n then Fd else F i) (fun i => if i = M.n then Td else T i) := by
  have hfa : Fr (fun _ => False) w (w.alloc o) := Fr.alloc _ _
  have h3 := h.new hfa
  have hfg : Fr (fun q => sv.ownBlock = some q) (w.alloc o) we := Fr.of_gb hgrow (fun _ e => e)
  have hkm : BxE we mb sv M.most := (hfg.block mb (lt_of_block h3.km) (fun e => h3.svtb e)).trans h3.km
  have hsn : (Value.slice (some ⟨go, 0, none⟩) (M.n + 1) cp).ownBlock ≠ some mb := own_blk hown hkm (by decide)
  have hfs : Fr (fun q => q = mb) we (we.setCell ⟨mb, 0, none⟩ (.slice (some ⟨go, 0, none⟩) (M.n + 1) cp)) := (Fr.refl (fun q => q = mb) we).set (p := ⟨mb, 0, none⟩) (.inl rfl) _
  have hfall : Fr (fun q => sv.ownBlock = some q ∨ q = mb) w (we.setCell ⟨mb, 0, none⟩ (.slice (some ⟨go, 0, none⟩) (M.n + 1) cp)) :=
    ((hfa.mono (fun _ _ e => e.elim)).trans (hfg.mono (fun _ _ e => .inl e))).trans (hfs.mono (fun _ _ e => .inr e))
  have hno : ∀ b c f, w.heap[b]? = some (.cells c 3 f) → ¬ (sv.ownBlock = some b ∨ b = mb) := fun b c f hb e => by
    rcases e with e | e
    · exact own_blk h.own.top hb (by decide) e
    · subst e; have := h.km; unfold BxE at this; rw [hb] at this; simp at this
  refine ⟨?_, ?_, ⟨?_, fun i hi => ?_, fun i hi => ?_⟩, ?_, h.ll, h.lm, h.lx⟩
  · refine Bx.kept h.kl hfall (fun e => ?_)
    rcases e with e | e
    · exact own_blk h.own.top h.kl (by decide) e
    · subst e; have h1 := h.km; have h2 := h.kl; unfold BxE at h1; unfold Bx at h2; rw [h1] at h2; simp at h2
  · unfold BxE; unfold BxE at hkm; simp [World.setCell, Array.getElem?_modify, hkm]; rfl
  · have h4 := row_kept hown (z := some mb) (Fr.gb (hfs.mono (fun q _ e => by rw [e]))) (fun b hb e => hsn (by rw [hb, e]))
    have h5 : cat (ed3 (apE M d) (fun i => if i = M.n then Fd else F i) (fun i => if i = M.n then Td else T i)) (M.n + 1) = cat (ed3 M F T) M.n ++ [Fd, Td, .string d.w] := by
      rw [cat_succ]
      congr 1
      · refine cat_congr fun i hi => ?_
        unfold ed3 apE; simp [show i ≠ M.n by omega]
      · unfold ed3 apE; simp
    show World.ownsRow _ _ _ _ _ (M.n + 1) (cat _ (M.n + 1))
    rw [h5]; exact h4
  · by_cases e : i = M.n
    · unfold apE; simp only [if_pos e]; exact hF.kept hfall hno
    · have hi' : i < M.n := by have : i < M.n + 1 := hi; omega
      unfold apE; simp only [if_neg e]; exact (h.own.f i hi').kept hfall hno
  · by_cases e : i = M.n
    · unfold apE; simp only [if_pos e]; exact hT.kept hfall hno
    · have hi' : i < M.n := by have : i < M.n + 1 := hi; omega
      unfold apE; simp only [if_neg e]; exact (h.own.t i hi').kept hfall hno
  · refine h.be.trans (hfall.below h.be.size (fun q e => ?_))
    rcases e with e | e
    · exact (World.ownsRow.lt h.own.top q e).1
    · rw [e]; exact h.lm
end
theorem info_edit : (Tryz.prog.info? 50).map (fun i => (i.zero, i.size, i.bytes)) = some (some (.agg #[.slice none 0 0, .slice none 0 0, .string ⟨#[]⟩]), 3, 64) := by kernel_rfl
theorem three_one {a b : Option Addr} {n m c e : Nat} {s : ByteArray} : ∀ u ∈ [Value.slice a n c, Value.slice b m e, Value.string s], u.oneCell' = true := by intro u hu; simp at hu; rcases hu with rfl | rfl | rfl <;> rfl
def MkR (d : ED) (w : World) (r : Ending) (w' : World) : Prop := Below w.heap.size w w' ∧ ∃ F T, r = .returned (.agg #[F, T, .string ⟨#[]⟩]) ∧ SiB w' F d.nf d.f ∧ SiB w' T d.nt d.t
def Mk1 (f : FuncId) (mk : Int → ED) : Prop := (∀ args w, (callFunc f args).run Tryz.prog w = .ok (.enter f args) w) ∧ ∀ (s : Int) (w : World), Calls Tryz.prog f #[.int .i64 s] w (MkR (mk s) w)
def Mk2' (f : FuncId) (mk : Int → Int → ED) : Prop := (∀ args w, (callFunc f args).run Tryz.prog w = .ok (.enter f args) w) ∧ ∀ (s t : Int) (w : World), Calls Tryz.prog f #[.int .i64 s, .int .i64 t] w (MkR (mk s t) w)
theorem ed_range {w : World} {b : Nat} {F T : Value} {s : ByteArray} (h : w.heap[b]? = some (.cells #[F, T, .string s] 50 (0, 0))) : w.rangeAt b 0 [F, T, .string s] := by
  intro j v hv
  have hj : j < 3 := by have := (List.getElem?_eq_some_iff.1 hv).1; simpa using this
  have : j = 0 ∨ j = 1 ∨ j = 2 := by omega
  rcases this with rfl | rfl | rfl <;> (simp at hv; subst hv; simp [World.cell?, h])
theorem run_load3 {w : World} {b : Nat} {F T : Value} {s : ByteArray} (h : w.heap[b]? = some (.cells #[F, T, .string s] 50 (0, 0))) : (loadVar 50 ⟨b, 0, none⟩).run Tryz.prog w = .ok (.agg #[F, T, .string s]) w :=
  run_loadVar_mid (P := Tryz.prog) w b 0 50 [F, T, .string s] _ (ed_range h) Tryz.underlying50 rfl (by kernel_rfl)
theorem results_d1 {fn : Func} {p : Tmp} (h : fn.results = #[.cell p 50]) (tmps : Array Value) {w : World} {b : Nat} {F T : Value} {s : ByteArray} (hp : tmps.getD p undef = .pointer (some ⟨b, 0, none⟩)) (hb : w.heap[b]? = some (.cells #[F, T, .string s] 50 (0, 0))) :
    (results fn tmps).run Tryz.prog w = .ok (.agg #[F, T, .string s]) w := by
  rw [results_cell h, hp]
  show ((loadVar 50 ⟨b, 0, none⟩).run Tryz.prog w) = _
  exact run_load3 hb
theorem sib_blk {w : World} {b n : Nat} {c : Array Value} {f : Nat × Nat} {x : Nat → Int} (h : w.heap[b]? = some (.cells c 3 f)) (hn : n ≤ maxLen) (hc : ∀ i, i < n → c[i]? = some (.int .i64 (x i))) : SiB w (.slice (some ⟨b, 0, none⟩) n n) n x := .inr ⟨b, c, f, rfl, hn, h, hc⟩
theorem sib_nil (w : World) (x : Nat → Int) : SiB w (.slice none 0 0) 0 x := .inl ⟨rfl, rfl⟩
theorem mk_ins : Mk1 63 insD := by
  refine ⟨fun args w => by kernel_rfl, fun s w => ?_⟩
  go_enter Tryz.func63, Tryz.ntmps63
  go_wp2_with fail
  obtain ⟨l, hl⟩ : ∃ l, l = [Obj.cells #[.slice none 0 0, .slice (some ⟨w.heap.size + 1, 0, none⟩) 1 1, .string ⟨#[]⟩] 50, .cells #[.int .i64 s] 3] := ⟨_, rfl⟩
  have b0 : (allocs w l).heap[w.heap.size + 0]? = _ := allocs_get l w (i := 0) (by rw [hl]; rfl)
  have b1 : (allocs w l).heap[w.heap.size + 1]? = _ := allocs_get l w (i := 1) (by rw [hl]; rfl)
  have hbl := allocs_below l w w w.heap.size (Below.refl _ _) (Nat.le_refl _)
  subst hl
  exact bodyPost_ret (results_d1 rfl _ (b := w.heap.size) rfl b0) rfl ⟨hbl, _, _, rfl, sib_nil _ _, sib_blk b1 one_ml (lt1 rfl)⟩
theorem mk_rem : Mk1 64 remD := by
  refine ⟨fun args w => by kernel_rfl, fun s w => ?_⟩
  go_enter Tryz.func64, Tryz.ntmps64
  go_wp2_with fail
  obtain ⟨l, hl⟩ : ∃ l, l = [Obj.cells #[.slice (some ⟨w.heap.size + 1, 0, none⟩) 1 1, .slice none 0 0, .string ⟨#[]⟩] 50, .cells #[.int .i64 s] 3] := ⟨_, rfl⟩
  have b0 : (allocs w l).heap[w.heap.size + 0]? = _ := allocs_get l w (i := 0) (by rw [hl]; rfl)
  have b1 : (allocs w l).heap[w.heap.size + 1]? = _ := allocs_get l w (i := 1) (by rw [hl]; rfl)
  have hbl := allocs_below l w w w.heap.size (Below.refl _ _) (Nat.le_refl _)
  subst hl
  exact bodyPost_ret (results_d1 rfl _ (b := w.heap.size) rfl b0) rfl ⟨hbl, _, _, rfl, sib_blk b1 one_ml (lt1 rfl), sib_nil _ _⟩
theorem mk_rep : Mk2' 65 repD := by
  refine ⟨fun args w => by kernel_rfl, fun s t w => ?_⟩
  go_enter Tryz.func65, Tryz.ntmps65
  go_wp2_with fail
  obtain ⟨l, hl⟩ : ∃ l, l = [Obj.cells #[.slice (some ⟨w.heap.size + 1, 0, none⟩) 1 1, .slice (some ⟨w.heap.size + 2, 0, none⟩) 1 1, .string ⟨#[]⟩] 50, .cells #[.int .i64 s] 3, .cells #[.int .i64 t] 3] := ⟨_, rfl⟩
  have b0 : (allocs w l).heap[w.heap.size + 0]? = _ := allocs_get l w (i := 0) (by rw [hl]; rfl)
  have b1 : (allocs w l).heap[w.heap.size + 1]? = _ := allocs_get l w (i := 1) (by rw [hl]; rfl)
  have b2 : (allocs w l).heap[w.heap.size + 2]? = _ := allocs_get l w (i := 2) (by rw [hl]; rfl)
  have hbl := allocs_below l w w w.heap.size (Below.refl _ _) (Nat.le_refl _)
  subst hl
  exact bodyPost_ret (results_d1 rfl _ (b := w.heap.size) rfl b0) rfl ⟨hbl, _, _, rfl, sib_blk b1 one_ml (lt1 rfl), sib_blk b2 one_ml (lt1 rfl)⟩
theorem mk_swp : Mk2' 66 swpD := by
  refine ⟨fun args w => by kernel_rfl, fun s t w => ?_⟩
  go_enter Tryz.func66, Tryz.ntmps66
  go_wp2_with fail
  obtain ⟨l, hl⟩ : ∃ l, l = [Obj.cells #[.slice (some ⟨w.heap.size + 1, 0, none⟩) 2 2, .slice (some ⟨w.heap.size + 2, 0, none⟩) 2 2, .string ⟨#[]⟩] 50, .cells #[.int .i64 s, .int .i64 t] 3, .cells #[.int .i64 t, .int .i64 s] 3] := ⟨_, rfl⟩
  have b0 : (allocs w l).heap[w.heap.size + 0]? = _ := allocs_get l w (i := 0) (by rw [hl]; rfl)
  have b1 : (allocs w l).heap[w.heap.size + 1]? = _ := allocs_get l w (i := 1) (by rw [hl]; rfl)
  have b2 : (allocs w l).heap[w.heap.size + 2]? = _ := allocs_get l w (i := 2) (by rw [hl]; rfl)
  have hbl := allocs_below l w w w.heap.size (Below.refl _ _) (Nat.le_refl _)
  subst hl
  exact bodyPost_ret (results_d1 rfl _ (b := w.heap.size) rfl b0) rfl ⟨hbl, _, _, rfl, sib_blk b1 two_ml (lt2 rfl rfl), sib_blk b2 two_ml (lt2 rfl rfl)⟩
def SmE (w0 : World) (lb mb n : Nat) (lv : Value) (x : Nat → Int) (M : EM) (r : Ending) (w' : World) : Prop := r = .returned (.tuple #[]) ∧ ∃ sv F T, SmI w0 w' lb mb n lv x M sv F T
set_option maxHeartbeats 8000000 in
theorem single_any {w0 : World} {lb mb n f : Nat} {lv : Value} {x : Nat → Int} {M : EM} {sv : Value} {F T : Nat → Value} {mk : Int → ED} (ws : ByteArray) (w : World) (h : SmI w0 w lb mb n lv x M sv F T) (hf : Mk1 f mk) (hn : n ≤ 100) (hM : M.n ≤ 90000) :
    Calls Tryz.prog 61 #[.string ws, .func (.func f) #[] #[], .pointer (some ⟨lb, 0, none⟩), .pointer (some ⟨mb, 0, none⟩)] w (SmE w0 lb mb n lv x (oneE mk ws x n M)) := by
  obtain ⟨hen, hmk⟩ := hf
  obtain ⟨i0, hi0, hy0, hy1, hy2⟩ := info_parts2 info_edit
  have HI0 := Lib.hid hi0; clear hi0
  have HY0 := Lib.hid hy0; clear hy0
  have HY1 := Lib.hid hy1; clear hy1
  have HY2 := Lib.hid hy2; clear hy2
  have HMK := Lib.hid hmk; clear hmk
  obtain ⟨al, cl, bl, ol, hlv, hal, hcl, hclm, hbl, hcell⟩ := h.lx.open
  subst hlv
  have c0 := h.kl.cell
  have HH := Lib.hid (show ∃ sv F T, SmI w0 w lb mb n (.slice al n cl) x M sv F T from ⟨sv, F, T, h⟩); clear h
  have HA := Lib.hid hal; clear hal
  have HBL := Lib.hid hbl; clear hbl
  have HCL := Lib.hid hcell; clear hcell
  clear hcl hclm
  go_enter Tryz.func61, Tryz.ntmps61
  go_wp2_with fail
  clear c0
  go_loopw [11] (fun v11 wr => ∃ i : Nat, i ≤ n ∧ v11 = .int .i64 (i : Int) ∧ ∃ sv F T, SmI w0 wr lb mb n (.slice al n cl) x (oneE mk ws x i M) sv F T) (fun v11 _ => n - (intOf v11).toNat)
  case atStart => exact ⟨0, Nat.zero_le _, rfl, HH.out⟩
  case round =>
    obtain ⟨i, hi, rfl, sv, F, T, hsm⟩ := hrel
    clear HH
    have HSM := Lib.hid hsm; clear hsm
    by_cases hit : i < n
    · have hiz : (i : Int) < (n : Int) := by omega
      have hiz0 : (0 : Int) ≤ (i : Int) := by omega
      obtain rfl := HA.out (by omega)
      have c1 := (HSM.out.be.cell (p := ⟨bl, ol + i, none⟩) (HBL.out (by omega)).1).trans (HCL.out i hit)
      have hmo := oneE_most mk ws x M i
      have hnx : oneE mk ws x (i + 1) M = if ws = ⟨#[]⟩ then oneE mk ws x i M else apE (oneE mk ws x i M) { mk (x i) with w := ws } := rfl
      obtain ⟨Mi, hMi⟩ : ∃ Mi, Mi = oneE mk ws x i M := ⟨_, rfl⟩
      rw [← hMi] at HSM hmo hnx
      have HNX := Lib.hid hnx; clear hnx hMi
      obtain ⟨hmo1, hmo2⟩ := hmo
      have hmn : Mi.n ≤ 91000 := by omega
      clear hmo1 hmo2
      cases hO : (ws.toList == [])
      · have hw1 : ws ≠ ⟨#[]⟩ := fun e => by rw [e] at hO; simp at hO
        have HN := Lib.hid (HNX.out.trans (if_neg hw1)); clear hw1
        go_wp2_with fail
        refine (HMK.out (x i) wr).mono ?_
        rintro rr w1 ⟨hb1, Fd, Td, rfl, hF, hT⟩
        obtain ⟨af, cf, hFd⟩ := hF.shape
        obtain ⟨at', ct, hTd⟩ := hT.shape
        subst hFd hTd
        have HS1 := Lib.hid (HSM.out.new (Fr.of_below hb1))
        obtain ⟨sa, sc, hsv, _, _⟩ := row_any HS1.out.own.top
        subst hsv
        obtain ⟨d, hd⟩ : ∃ d : ED, d = { mk (x i) with w := ws } := ⟨_, rfl⟩
        have hdw : d.w = ws := by rw [hd]
        have hF' : SiB w1 (.slice af (mk (x i)).nf cf) d.nf d.f := by rw [hd]; exact hF
        have hT' : SiB w1 (.slice at' (mk (x i)).nt ct) d.nt d.t := by rw [hd]; exact hT
        rw [← hd] at HN
        clear hF hT hd hb1
        obtain ⟨o, ho⟩ : ∃ o, o = Obj.cells #[.slice af (mk (x i)).nf cf, .slice at' (mk (x i)).nt ct, .string ws] 50 := ⟨_, rfl⟩
        have hS2 := HS1.out.new (Fr.alloc w1 o)
        have hF2 := hF'.kept (Fr.alloc (C := fun _ => False) w1 o) (fun _ _ _ _ e => e)
        have hT2 := hT'.kept (Fr.alloc (C := fun _ => False) w1 o) (fun _ _ _ _ e => e)
        have c0 : (w1.alloc o).cell? ⟨mb, 0, none⟩ = some (.slice sa Mi.n sc) := hS2.c0
        have hadd : ∀ (we : World) (go cp : Nat), we.ownsRow w0.heap.size 50 3 (.slice (some ⟨go, 0, none⟩) (Mi.n + 1) cp) (Mi.n + 1) (cat (ed3 Mi F T) Mi.n ++ [.slice af (mk (x i)).nf cf, .slice at' (mk (x i)).nt ct, .string ws]) → ((w1.alloc o).alloc o).grownBy we (Value.slice sa Mi.n sc).ownBlock →
            (∃ sv F T, SmI w0 (we.setCell ⟨mb, 0, none⟩ (.slice (some ⟨go, 0, none⟩) (Mi.n + 1) cp)) lb mb n (.slice (some ⟨bl, ol, none⟩) n cl) x (apE Mi d) sv F T) ∧ we.cell? ⟨mb, 0, none⟩ = some (.slice sa Mi.n sc) ∧ we.frozen? ⟨mb, 0, none⟩ = false := fun we go cp h1 h2 => by
          rw [← hdw] at h1
          have h3 := hS2.new (Fr.alloc (w1.alloc o) o)
          have h4 : BxE we mb (.slice sa Mi.n sc) Mi.most := (h2.block mb (lt_of_block h3.km) (fun e => h3.svtb e.symm)).trans h3.km
          exact ⟨⟨_, _, _, hS2.add hF2 hT2 h1 h2⟩, cell_of h4 0 rfl, by unfold BxE at h4; simp [World.frozen?, h4]⟩
        have hsz : w0.heap.size ≤ w1.heap.size := HS1.out.be.size
        have HADD := Lib.hid hadd; clear hadd
        have HS2 := Lib.hid hS2; clear hS2 hF' hT' hF2 hT2 hdw
        subst ho
        go_wp2_with (at_builtin; refine wpList_append_lies _ rfl (.tmp 23) (.tmp 25) 22 rfl w0.heap.size 50 i0 (.agg #[.slice none 0 0, .slice none 0 0, .string ⟨#[]⟩]) 3 64 Tryz.underlying22 HI0.out HY0.out HY1.out HY2.out rfl (by omega) (.slice sa Mi.n sc) Mi.n _ (by first | rfl | simp [Act.eval, Act.put]) (World.ownsRow.alloc HS2.out.own.top _) ⟨w1.heap.size + 1, 0, none⟩ 1 1 [.slice af (mk (x i)).nf cf, .slice at' (mk (x i)).nt ct, .string ws] (by first | rfl | simp [Act.eval, Act.put]) rfl (news_st (cs := #[.slice af (mk (x i)).nf cf, .slice at' (mk (x i)).nt ct, .string ws]) (by rw [show w1.heap.size + 1 = (w1.alloc (.cells #[.slice af (mk (x i)).nf cf, .slice at' (mk (x i)).nt ct, .string ws] 50)).heap.size by simp]; exact heap_alloc_new _ _)) three_one (by omega) (by unfold maxLen; omega) (by omega) (by simp; omega) _ rfl ?_; intro go cp we hown2 hgrow hat hlt; obtain ⟨hT, e4, f4⟩ := HADD.out we go cp hown2 hgrow; have HT3 := Lib.hid hT; clear hT hown2 hgrow hat hlt)
        go_roundw
        case rel => exact ⟨i + 1, by omega, by go_num, by rw [HN.out]; exact HT3.out⟩
        case measure => simp [intOf]; omega
      · have HN := Lib.hid (HNX.out.trans (if_pos (empty_eq hO)))
        go_wp2_with fail
        go_roundw
        case rel => exact ⟨i + 1, by omega, by go_num, _, _, _, by rw [HN.out]; exact HSM.out⟩
        case measure => simp [intOf]; omega
    · have hin : i = n := by omega
      have hgt : ¬ ((i : Int) < (n : Int)) := by omega
      have hsm := HSM.out
      rw [hin] at hsm
      have HSM2 := Lib.hid hsm; clear hsm hin
      go_wp2_with fail
      go_end0
      exact ⟨rfl, _, _, _, HSM2.out⟩
set_option maxHeartbeats 8000000 in
theorem double_any {w0 : World} {lb mb n f : Nat} {lv : Value} {x : Nat → Int} {M : EM} {sv : Value} {F T : Nat → Value} {mk : Int → Int → ED} (ws : ByteArray) (w : World) (h : SmI w0 w lb mb n lv x M sv F T) (hf : Mk2' f mk) (hn : n ≤ 100) (hM : M.n ≤ 90000) :
    Calls Tryz.prog 62 #[.string ws, .func (.func f) #[] #[], .pointer (some ⟨lb, 0, none⟩), .pointer (some ⟨mb, 0, none⟩)] w (SmE w0 lb mb n lv x (twoE mk ws x n n M)) := by
  obtain ⟨hen, hmk⟩ := hf
  obtain ⟨i0, hi0, hy0, hy1, hy2⟩ := info_parts2 info_edit
  have HI0 := Lib.hid hi0; clear hi0
  have HY0 := Lib.hid hy0; clear hy0
  have HY1 := Lib.hid hy1; clear hy1
  have HY2 := Lib.hid hy2; clear hy2
  have HMK := Lib.hid hmk; clear hmk
  obtain ⟨al, cl, bl, ol, hlv, hal, hcl, hclm, hbl, hcell⟩ := h.lx.open
  subst hlv
  have c0 := h.kl.cell
  have HH := Lib.hid (show ∃ sv F T, SmI w0 w lb mb n (.slice al n cl) x M sv F T from ⟨sv, F, T, h⟩); clear h
  have HA := Lib.hid hal; clear hal
  have HBL := Lib.hid hbl; clear hbl
  have HCL := Lib.hid hcell; clear hcell
  clear hcl hclm
  have hnn : n * n ≤ 10000 := Nat.mul_le_mul hn hn
  have HNN := Lib.hid hnn; clear hnn
  go_enter Tryz.func62, Tryz.ntmps62
  go_wp2_with fail
  clear c0
  go_loopw [13] (fun v13 wr => ∃ i : Nat, i ≤ n ∧ v13 = .int .i64 (i : Int) ∧ ∃ sv F T, SmI w0 wr lb mb n (.slice al n cl) x (twoE mk ws x n i M) sv F T) (fun v13 _ => n - (intOf v13).toNat)
  case atStart => exact ⟨0, Nat.zero_le _, rfl, HH.out⟩
  case round =>
    obtain ⟨i, hi, rfl, sv, F, T, hsm⟩ := hrel
    clear HH
    obtain ⟨wo, rfl⟩ : ∃ wo : World, wo = wr := ⟨_, rfl⟩
    have HSM := Lib.hid hsm; clear hsm
    by_cases hit : i < n
    · have hiz : (i : Int) < (n : Int) := by omega
      have hiz0 : (0 : Int) ≤ (i : Int) := by omega
      obtain rfl := HA.out (by omega)
      have c1 := (HSM.out.be.cell (p := ⟨bl, ol + i, none⟩) (HBL.out (by omega)).1).trans (HCL.out i hit)
      have c0 := HSM.out.kl.cell
      have hmo := (twoE_most mk ws x n M i).2
      have hnx : twoE mk ws x n (i + 1) M = rowE mk ws x i n (twoE mk ws x n i M) := rfl
      obtain ⟨Mi, hMi⟩ : ∃ Mi, Mi = twoE mk ws x n i M := ⟨_, rfl⟩
      rw [← hMi] at HSM hmo hnx
      have HNX := Lib.hid hnx; clear hnx hMi
      have hin0 : i * n ≤ n * n := Nat.mul_le_mul_right n hi
      have hmn : Mi.n ≤ 101000 := by have := HNN.out; omega
      clear hmo hin0
      obtain ⟨xi, hxi⟩ : ∃ xi, xi = x i := ⟨_, rfl⟩
      rw [← hxi] at c1
      have HXI := Lib.hid hxi; clear hxi
      go_wp2_with fail
      clear c0 c1
      go_loopw [19] (fun v19 wr => ∃ j : Nat, j ≤ n ∧ v19 = .int .i64 (j : Int) ∧ ∃ sv F T, SmI w0 wr lb mb n (.slice (some ⟨bl, ol, none⟩) n cl) x (rowE mk ws x i j Mi) sv F T) (fun v19 _ => n - (intOf v19).toNat)
      case atStart => exact ⟨0, Nat.zero_le _, rfl, _, _, _, HSM.out⟩
      case round =>
        obtain ⟨j, hj, rfl, sv, F, T, hsm⟩ := hrel
        clear HSM
        have HSM := Lib.hid hsm; clear hsm
        by_cases hjt : j < n
        · have hjz : (j : Int) < (n : Int) := by omega
          have hjz0 : (0 : Int) ≤ (j : Int) := by omega
          have c1 := (HSM.out.be.cell (p := ⟨bl, ol + j, none⟩) (HBL.out (by omega)).1).trans (HCL.out j hjt)
          have hmo := (rowE_most mk ws x i Mi j).2
          have hnx : rowE mk ws x i (j + 1) Mi = if ws ≠ ⟨#[]⟩ ∧ x i ≠ x j then apE (rowE mk ws x i j Mi) { mk (x i) (x j) with w := ws } else rowE mk ws x i j Mi := rfl
          obtain ⟨Mj, hMj⟩ : ∃ Mj, Mj = rowE mk ws x i j Mi := ⟨_, rfl⟩
          obtain ⟨xj, hxj⟩ : ∃ xj, xj = x j := ⟨_, rfl⟩
          rw [← hxj] at c1 hnx
          rw [← HXI.out] at hnx
          rw [← hMj] at HSM hmo hnx
          have HNX2 := Lib.hid hnx; clear hnx hMj
          have hmn2 : Mj.n ≤ 102000 := by omega
          clear hmo hxj
          cases hO : (ws.toList == [])
          · have hw1 : ws ≠ ⟨#[]⟩ := fun e => by rw [e] at hO; simp at hO
            cases hxx : (xi == xj)
            · have HN := Lib.hid (HNX2.out.trans (if_pos ⟨hw1, fun e => by rw [e] at hxx; simp at hxx⟩)); clear hw1
              go_wp2_with fail
              refine (HMK.out xi xj wr).mono ?_
              rintro rr w1 ⟨hb1, Fd, Td, rfl, hF, hT⟩
              obtain ⟨af, cf, hFd⟩ := hF.shape
              obtain ⟨at', ct, hTd⟩ := hT.shape
              subst hFd hTd
              have HS1 := Lib.hid (HSM.out.new (Fr.of_below hb1))
              obtain ⟨sa, sc, hsv, _, _⟩ := row_any HS1.out.own.top
              subst hsv
              obtain ⟨d, hd⟩ : ∃ d : ED, d = { mk xi xj with w := ws } := ⟨_, rfl⟩
              have hdw : d.w = ws := by rw [hd]
              have hF' : SiB w1 (.slice af (mk xi xj).nf cf) d.nf d.f := by rw [hd]; exact hF
              have hT' : SiB w1 (.slice at' (mk xi xj).nt ct) d.nt d.t := by rw [hd]; exact hT
              rw [← hd] at HN
              clear hF hT hd hb1
              obtain ⟨o, ho⟩ : ∃ o, o = Obj.cells #[.slice af (mk xi xj).nf cf, .slice at' (mk xi xj).nt ct, .string ws] 50 := ⟨_, rfl⟩
              have hS2 := HS1.out.new (Fr.alloc w1 o)
              have hF2 := hF'.kept (Fr.alloc (C := fun _ => False) w1 o) (fun _ _ _ _ e => e)
              have hT2 := hT'.kept (Fr.alloc (C := fun _ => False) w1 o) (fun _ _ _ _ e => e)
              have c0 : (w1.alloc o).cell? ⟨mb, 0, none⟩ = some (.slice sa Mj.n sc) := hS2.c0
              have hadd : ∀ (we : World) (go cp : Nat), we.ownsRow w0.heap.size 50 3 (.slice (some ⟨go, 0, none⟩) (Mj.n + 1) cp) (Mj.n + 1) (cat (ed3 Mj F T) Mj.n ++ [.slice af (mk xi xj).nf cf, .slice at' (mk xi xj).nt ct, .string ws]) → ((w1.alloc o).alloc o).grownBy we (Value.slice sa Mj.n sc).ownBlock →
                  (∃ sv F T, SmI w0 (we.setCell ⟨mb, 0, none⟩ (.slice (some ⟨go, 0, none⟩) (Mj.n + 1) cp)) lb mb n (.slice (some ⟨bl, ol, none⟩) n cl) x (apE Mj d) sv F T) ∧ we.cell? ⟨mb, 0, none⟩ = some (.slice sa Mj.n sc) ∧ we.frozen? ⟨mb, 0, none⟩ = false := fun we go cp h1 h2 => by
                rw [← hdw] at h1
                have h3 := hS2.new (Fr.alloc (w1.alloc o) o)
                have h4 : BxE we mb (.slice sa Mj.n sc) Mj.most := (h2.block mb (lt_of_block h3.km) (fun e => h3.svtb e.symm)).trans h3.km
                exact ⟨⟨_, _, _, hS2.add hF2 hT2 h1 h2⟩, cell_of h4 0 rfl, by unfold BxE at h4; simp [World.frozen?, h4]⟩
              have hsz : w0.heap.size ≤ w1.heap.size := HS1.out.be.size
              have HADD := Lib.hid hadd; clear hadd
              have HS2 := Lib.hid hS2; clear hS2 hF' hT' hF2 hT2 hdw
              subst ho
              go_wp2_with (at_builtin; refine wpList_append_lies _ rfl (.tmp 37) (.tmp 39) 22 rfl w0.heap.size 50 i0 (.agg #[.slice none 0 0, .slice none 0 0, .string ⟨#[]⟩]) 3 64 Tryz.underlying22 HI0.out HY0.out HY1.out HY2.out rfl (by omega) (.slice sa Mj.n sc) Mj.n _ (by first | rfl | simp [Act.eval, Act.put]) (World.ownsRow.alloc HS2.out.own.top _) ⟨w1.heap.size + 1, 0, none⟩ 1 1 [.slice af (mk xi xj).nf cf, .slice at' (mk xi xj).nt ct, .string ws] (by first | rfl | simp [Act.eval, Act.put]) rfl (news_st (cs := #[.slice af (mk xi xj).nf cf, .slice at' (mk xi xj).nt ct, .string ws]) (by rw [show w1.heap.size + 1 = (w1.alloc (.cells #[.slice af (mk xi xj).nf cf, .slice at' (mk xi xj).nt ct, .string ws] 50)).heap.size by simp]; exact heap_alloc_new _ _)) three_one (by omega) (by unfold maxLen; omega) (by omega) (by simp; omega) _ rfl ?_; intro go cp we hown2 hgrow hat hlt; obtain ⟨hT, e4, f4⟩ := HADD.out we go cp hown2 hgrow; have HT3 := Lib.hid hT; clear hT hown2 hgrow hat hlt)
              go_roundw
              case rel => exact ⟨j + 1, by omega, by go_num, by rw [HN.out]; exact HT3.out⟩
              case measure => simp [intOf]; omega
            · have HN := Lib.hid (HNX2.out.trans (if_neg (fun h => h.2 (eq_of_beq hxx)))); clear hw1
              go_wp2_with fail
              go_roundw
              case rel => exact ⟨j + 1, by omega, by go_num, _, _, _, by rw [HN.out]; exact HSM.out⟩
              case measure => simp [intOf]; omega
          · have HN := Lib.hid (HNX2.out.trans (if_neg (fun h => h.1 (empty_eq hO))))
            go_wp2_with fail
            go_roundw
            case rel => exact ⟨j + 1, by omega, by go_num, _, _, _, by rw [HN.out]; exact HSM.out⟩
            case measure => simp [intOf]; omega
        · have hjn : j = n := by omega
          have hgt : ¬ ((j : Int) < (n : Int)) := by omega
          have hsm := HSM.out
          rw [hjn, ← HNX.out] at hsm
          have HSM2 := Lib.hid hsm; clear hsm hjn
          go_wp2_with fail
          go_roundw
          case rel => exact ⟨i + 1, by omega, by go_num, _, _, _, HSM2.out⟩
          case measure => simp [intOf]; omega
    · have hin : i = n := by omega
      have hgt : ¬ ((i : Int) < (n : Int)) := by omega
      have hsm := HSM.out
      rw [hin] at hsm
      have HSM2 := Lib.hid hsm; clear hsm hin
      go_wp2_with fail
      go_end0
      exact ⟨rfl, _, _, _, HSM2.out⟩
end Go.Proofs.YtjekapjbigfkbaaGreatDoor
