/- Parts of a proof: EdK. -/
import Derived.Test.YtjekapjbigfkbaaGreatDoorS25
import Derived.Test.YtjekapjbigfkbaaGreatDoorS26
namespace Go.Proofs.YtjekapjbigfkbaaGreatDoor
open Go Go.RowKit Go.Deep
set_option maxRecDepth 100000
set_option linter.unusedSimpArgs false
theorem own_row {w : World} {B : Nat} {e t : TypeId} {s n g m : Nat} {v : Value} {xs : List Value} {F : Nat → Value} (h : w.ownsRow B e s v n xs) (hr : w.rowIs g t m F) (ht : t ≠ e) : v.ownBlock ≠ some g := by
  obtain ⟨cs, hb, _⟩ := hr; exact own_blk h hb ht
structure Cw (w : World) (B k n2 n3 : Nat) (r : Nat → Nat) (s : Nat → Nat → Nat) : Prop where
  mid : ∀ q, q < k → w.rowIs (r q) 67 n2 (fun i => .slice (some ⟨s q i, 0, none⟩) n3 n3)
  row : ∀ q i, q < k → i < n2 → w.rowIs (s q i) 9 n3 (fun _ => .string ⟨#[]⟩) ∧ B ≤ s q i
  inj : ∀ q i q' i', q < k → i < n2 → q' < k → i' < n2 → s q i = s q' i' → q = q' ∧ i = i'
theorem Cw.kept {w w' : World} {B k n2 n3 : Nat} {r : Nat → Nat} {s : Nat → Nat → Nat} {C : Nat → Prop} (h : Cw w B k n2 n3 r s) (hf : Fr C w w') (hr : ∀ q, q < k → ¬ C (r q)) (hs : ∀ q i, q < k → i < n2 → ¬ C (s q i)) : Cw w' B k n2 n3 r s :=
  ⟨fun q hq => hf.row (h.mid q hq) (hr q hq), fun q i hq hi => ⟨hf.row (h.row q i hq hi).1 (hs q i hq hi), (h.row q i hq hi).2⟩, h.inj⟩
theorem Cw.new {w w' : World} {B k n2 n3 : Nat} {r : Nat → Nat} {s : Nat → Nat → Nat} (h : Cw w B k n2 n3 r s) (hf : Fr (fun _ => False) w w') : Cw w' B k n2 n3 r s := h.kept hf (fun _ _ e => e) (fun _ _ _ _ e => e)
structure Rp (w : World) (N rb i n2 n3 : Nat) (f : Nat → Nat) : Prop where
  tab : w.rowIs rb 67 n2 (fun q => if q < i then .slice (some ⟨f q, 0, none⟩) n3 n3 else .slice none 0 0)
  low : N ≤ rb
  row : ∀ q, q < i → w.rowIs (f q) 9 n3 (fun _ => .string ⟨#[]⟩) ∧ N ≤ f q
  inj : ∀ q q', q < i → q' < i → f q = f q' → q = q'
theorem Rp.made (w : World) (n2 n3 : Nat) (f : Nat → Nat) : Rp (w.alloc (.cells (madeCells #[.slice none 0 0] n2) 67)) w.heap.size w.heap.size 0 n2 n3 f :=
  ⟨World.rowIs_made w _ n2 _, Nat.le_refl _, fun _ hq => absurd hq (Nat.not_lt_zero _), fun _ _ hq => absurd hq (Nat.not_lt_zero _)⟩
theorem Rp.next {w : World} {N rb i n2 n3 : Nat} {f : Nat → Nat} (h : Rp w N rb i n2 n3 f) (hN : N ≤ w.heap.size) :
    Rp ((w.alloc (.cells (madeCells #[.string ⟨#[]⟩] n3) 9)).setCell ⟨rb, i, none⟩ (.slice (some ⟨w.heap.size, 0, none⟩) n3 n3)) N rb (i + 1) n2 n3 (fun q => if q = i then w.heap.size else f q) := by
  have hlt := h.tab.lt
  have hf : Fr (fun _ => False) w (w.alloc (.cells (madeCells #[.string ⟨#[]⟩] n3) 9)) := Fr.alloc _ _
  have hn := World.rowIs_made w (.string ⟨#[]⟩) n3 9
  refine ⟨((hf.row h.tab (fun e => e)).set i _).congr (fun q hq => ?_), h.low, fun q hq => ?_, fun q q' hq hq' he => ?_⟩
  · by_cases e : q = i
    · subst e; rw [if_pos rfl, if_pos (Nat.lt_succ_self _), if_pos rfl]
    · rw [if_neg e]
      by_cases e2 : q < i
      · rw [if_pos e2, if_pos (by omega), if_neg e]
      · rw [if_neg e2, if_neg (by omega)]
  · by_cases e : q = i
    · rw [if_pos e]
      exact ⟨hn.setOther (by show w.heap.size ≠ rb; omega) _, hN⟩
    · rw [if_neg e]
      have h1 := h.row q (by omega)
      exact ⟨(hf.row h1.1 (fun e => e)).setOther (rowIs_ne h1.1 h.tab (by decide)) _, h1.2⟩
  · by_cases e : q = i
    · by_cases e' : q' = i
      · omega
      · rw [if_pos e, if_neg e'] at he
        have := (h.row q' (by omega)).1.lt; omega
    · by_cases e' : q' = i
      · rw [if_neg e, if_pos e'] at he
        have := (h.row q (by omega)).1.lt; omega
      · rw [if_neg e, if_neg e'] at he
        exact h.inj q q' (by omega) (by omega) he
theorem Cw.add {w0 w : World} {B k rb n2 n3 : Nat} {r : Nat → Nat} {s : Nat → Nat → Nat} {f : Nat → Nat} (h : Cw w B k n2 n3 r s) (hl : Cw w0 B k n2 n3 r s) (hB : B ≤ w0.heap.size) (hp : Rp w w0.heap.size rb n2 n2 n3 f) :
    Cw w B (k + 1) n2 n3 (fun q => if q = k then rb else r q) (fun q => if q = k then f else s q) := by
  refine ⟨fun q hq => ?_, fun q i hq hi => ?_, fun q i q' i' hq hi hq' hi' he => ?_⟩
  · by_cases e : q = k
    · simp only [if_pos e]; exact hp.tab.congr fun i hi => if_pos hi
    · simp only [if_neg e]; exact h.mid q (by omega)
  · by_cases e : q = k
    · simp only [if_pos e]; exact ⟨(hp.row i hi).1, by have := (hp.row i hi).2; omega⟩
    · simp only [if_neg e]; exact h.row q i (by omega) hi
  · by_cases e : q = k
    · by_cases e' : q' = k
      · simp only [if_pos e, if_pos e'] at he; exact ⟨by omega, hp.inj i i' hi hi' he⟩
      · simp only [if_pos e, if_neg e'] at he
        have h1 := (hp.row i hi).2
        have h2 := (hl.row q' i' (by omega) hi').1.lt
        omega
    · by_cases e' : q' = k
      · simp only [if_neg e, if_pos e'] at he
        have h1 := (hp.row i' hi').2
        have h2 := (hl.row q i (by omega) hi).1.lt
        omega
      · simp only [if_neg e, if_neg e'] at he; exact h.inj q i q' i' (by omega) hi (by omega) hi' he
structure TbI (w0 w : World) (tb k n2 n3 : Nat) (ev xv yv : Value) (mo : Int) (lv : Value) (r : Nat → Nat) (s : Nat → Nat → Nat) : Prop where
  blk : w.heap[tb]? = some (.cells #[ev, .int .i64 mo, xv, yv, lv, .int .i64 0] 65 (0, 0))
  own : w.ownsRow w0.heap.size 66 1 lv k (gvs k fun q => .slice (some ⟨r q, 0, none⟩) n2 n2)
  cw : Cw w w0.heap.size k n2 n3 r s
  be : Below w0.heap.size w0 w
  low : w0.heap.size ≤ tb
section
variable {w0 w w' : World} {tb k n2 n3 : Nat} {ev xv yv lv : Value} {mo : Int} {r : Nat → Nat} {s : Nat → Nat → Nat}
theorem TbI.new (h : TbI w0 w tb k n2 n3 ev xv yv mo lv r s) (hf : Fr (fun _ => False) w w') : TbI w0 w' tb k n2 n3 ev xv yv mo lv r s :=
  ⟨(hf.block tb (lt_of_block h.blk) (fun e => e)).trans h.blk, row_kept h.own (z := none) (Fr.gb (hf.mono (fun _ _ e => e.elim))) (by simp), h.cw.new hf, h.be.trans (hf.below h.be.size (fun _ e => e.elim)), h.low⟩
theorem TbI.add {wr we : World} {rb go cp : Nat} {f : Nat → Nat} (h : TbI w0 wr tb k n2 n3 ev xv yv mo lv r s) (hf : Fr (fun _ => False) wr w) (hp : Rp w wr.heap.size rb n2 n2 n3 f) {o : Obj}
    (hown : we.ownsRow w0.heap.size 66 1 (.slice (some ⟨go, 0, none⟩) (k + 1) cp) (k + 1) (gvs k (fun q => .slice (some ⟨r q, 0, none⟩) n2 n2) ++ [.slice (some ⟨rb, 0, none⟩) n2 n2])) (hgrow : (w.alloc o).grownBy we lv.ownBlock) :
    TbI w0 (we.setCell ⟨tb, 4, none⟩ (.slice (some ⟨go, 0, none⟩) (k + 1) cp)) tb (k + 1) n2 n3 ev xv yv mo (.slice (some ⟨go, 0, none⟩) (k + 1) cp) (fun q => if q = k then rb else r q) (fun q => if q = k then f else s q) := by
  have h2 := h.new hf
  have hfa : Fr (fun _ => False) w (w.alloc o) := Fr.alloc _ _
  have h3 := h2.new hfa
  have hfg : Fr (fun q => lv.ownBlock = some q) (w.alloc o) we := Fr.of_gb hgrow (fun _ e => e)
  have htb : lv.ownBlock ≠ some tb := own_blk h3.own h3.blk (by decide)
  have hblk : we.heap[tb]? = some (.cells #[ev, .int .i64 mo, xv, yv, lv, .int .i64 0] 65 (0, 0)) := (hfg.block tb (lt_of_block h3.blk) (fun e => htb e)).trans h3.blk
  have hsn : (Value.slice (some ⟨go, 0, none⟩) (k + 1) cp).ownBlock ≠ some tb := own_blk hown hblk (by decide)
  have hfs : Fr (fun q => q = tb) we (we.setCell ⟨tb, 4, none⟩ (.slice (some ⟨go, 0, none⟩) (k + 1) cp)) := (Fr.refl (fun q => q = tb) we).set (p := ⟨tb, 4, none⟩) (.inl rfl) _
  have hfall : Fr (fun q => lv.ownBlock = some q ∨ q = tb) w (we.setCell ⟨tb, 4, none⟩ (.slice (some ⟨go, 0, none⟩) (k + 1) cp)) :=
    ((hfa.mono (fun _ _ e => e.elim)).trans (hfg.mono (fun _ _ e => .inl e))).trans (hfs.mono (fun _ _ e => .inr e))
  have hno : ∀ {b m : Nat} {t : TypeId} {F : Nat → Value}, w.rowIs b t m F → t ≠ 66 → t ≠ 65 → ¬ (lv.ownBlock = some b ∨ b = tb) := fun hr ht1 ht2 e => by
    rcases e with e | e
    · exact own_row h2.own hr ht1 e
    · exact rowIs_blk hr h2.blk (fun e => ht2 e.symm) e
  have hcw := Cw.add h2.cw h.cw h.be.size hp
  have hp2 : Cw w w0.heap.size (k + 1) n2 n3 (fun q => if q = k then rb else r q) (fun q => if q = k then f else s q) := hcw
  refine ⟨by simp [World.setCell, Array.getElem?_modify, hblk], ?_, hp2.kept hfall (fun q hq => hno (hp2.mid q hq) (by decide) (by decide)) (fun q i hq hi => hno (hp2.row q i hq hi).1 (by decide) (by decide)), ?_, h.low⟩
  · have := row_kept hown (z := some tb) (Fr.gb (hfs.mono (fun q _ e => by rw [e]))) (fun b hb e => hsn (by rw [hb, e]))
    rw [gvs_congr (Y := fun q => Value.slice (some ⟨if q = k then rb else r q, 0, none⟩) n2 n2) (fun i hi => by rw [if_neg (by omega)])] at this
    have hs := gvs_snoc k (fun q => Value.slice (some ⟨if q = k then rb else r q, 0, none⟩) n2 n2)
    simp only [if_pos] at hs
    rw [hs] at this; exact this
  · refine h2.be.trans (hfall.below h2.be.size (fun q e => ?_))
    rcases e with e | e
    · exact (World.ownsRow.lt h2.own q e).1
    · rw [e]; exact h.low
theorem TbI.cu (h : TbI w0 w tb k n2 n3 ev xv yv mo lv r s) (hk : 0 < k) : ∃ g cap, lv = .slice (some ⟨g, 0, none⟩) k cap ∧ Cu w w0.heap.size g cap k n2 n3 r s (fun _ _ _ => ⟨#[]⟩) ∧ TbM w tb g cap k n2 n3 ev xv yv mo 0 := by
  have ho := h.own
  rcases h.own.2 with ⟨_, h0⟩ | ⟨g, cap, cur, hv, _⟩
  · omega
  · rw [hv] at ho
    refine ⟨g, cap, hv, ⟨ho, h.cw.mid, h.cw.row, h.cw.inj, fun _ _ _ => by unfold smS; decide⟩, ⟨?_⟩⟩
    rw [h.blk, hv]; rfl
end
theorem one_sl {a : Option Addr} {n c : Nat} : ∀ u ∈ [Value.slice a n c], u.oneCell' = true := by intro u hu; simp at hu; subst hu; rfl
theorem info_strss : (Tryz.prog.info? 66).map (fun i => (i.zero, i.size, i.bytes)) = some (some (.slice none 0 0), 1, 24) := by kernel_rfl
theorem enterStep : ∀ args w, (callFunc 43 args).run Tryz.prog w = .ok (.enter 43 args) w := fun args w => by kernel_rfl
theorem updX_X0 : updX (fun _ _ _ => ⟨#[]⟩) 0 0 0 ⟨#[48]⟩ = X0 := by funext k i j; rfl
theorem inf_list : infS.toList = [105, 110, 102] := by decide +kernel
theorem lstS_sm {X : XT} (h : ∀ k i j, smS (X k i j)) (a b : Nat) : ∀ m, smS (lstS X a b m)
  | 0 => by unfold smS lstS; decide
  | m + 1 => by
    unfold lstS; split
    · exact h _ _ _
    · exact lstS_sm h a b m
def CosE (M : EM) (na : Nat) (x : Nat → Int) (nb : Nat) (y : Nat → Int) (w : World) (rr : Ending) (w' : World) : Prop :=
  Below w.heap.size w w' ∧ ((VE M ∧ isWord na x = true ∧ isWord nb y = true ∧ rr = .returned (.tuple #[.string (costC ⟨M, na, x, nb, y⟩).1, .int .i64 ((costC ⟨M, na, x, nb, y⟩).2 : Int)])) ∨
    (¬ (VE M ∧ isWord na x = true ∧ isWord nb y = true) ∧ rr = .returned (.tuple #[.string ⟨#[]⟩, .int .i64 1])))
structure StC (w0 w : World) (tb g cap n1 n2 n3 : Nat) (r : Nat → Nat) (s : Nat → Nat → Nat) (ev xv yv : Value) (mo : Int) (z : ST) : Prop where
  cu : Cu w w0.heap.size g cap n1 n2 n3 r s z.1
  tm : TbM w tb g cap n1 n2 n3 ev xv yv mo z.2
  be : Below w0.heap.size w0 w
theorem StC.rea {w0 w w' : World} {tb g cap n1 n2 n3 : Nat} {r : Nat → Nat} {s : Nat → Nat → Nat} {ev xv yv : Value} {mo : Int} {z z' : ST} (h : StC w0 w tb g cap n1 n2 n3 r s ev xv yv mo z) (hT : w0.heap.size ≤ tb) {rr : Ending} (hr : ReaE w0.heap.size tb g cap n1 n2 n3 r s ev xv yv mo z' w rr w') : StC w0 w' tb g cap n1 n2 n3 r s ev xv yv mo z' := by
  refine ⟨hr.2.1, hr.2.2.1, h.be.trans (hr.2.2.2.below h.be.size (fun q e => ?_))⟩
  rcases e with rfl | ⟨k', i', hk, hi, rfl⟩
  · exact hT
  · exact (h.cu.row k' i' hk hi).2
theorem StC.new {w0 w w' : World} {tb g cap n1 n2 n3 : Nat} {r : Nat → Nat} {s : Nat → Nat → Nat} {ev xv yv : Value} {mo : Int} {z : ST} (h : StC w0 w tb g cap n1 n2 n3 r s ev xv yv mo z) (hf : Fr (fun _ => False) w w') : StC w0 w' tb g cap n1 n2 n3 r s ev xv yv mo z :=
  ⟨h.cu.new hf, h.tm.kept hf (fun e => e), h.be.trans (hf.below h.be.size (fun _ e => e.elim))⟩
set_option maxHeartbeats 16000000 in
theorem ecost_any {M : EM} {mv xv yv : Value} {na nb : Nat} {x y : Nat → Int} (w : World) (hM : Em none w mv M) (hs : ESz M) (ht : Tab w) (hx : Si none w xv na x) (hy : Si none w yv nb y) :
    Calls Tryz.prog 17 #[mv, xv, yv] w (CosE M na x nb y w) := by
  obtain ⟨sv, rfl, hS⟩ := hM
  obtain ⟨a, cap, _, _, _, _, _, _, hsv, _⟩ := hS.open
  have hna := le_of_len hx
  have hnb := le_of_len hy
  obtain ⟨ax, cx, rfl⟩ := hx.shape
  obtain ⟨ay, cy, rfl⟩ := hy.shape
  subst hsv
  obtain ⟨w1, hw1⟩ : ∃ w1, w1 = w.alloc (.cells #[.slice a M.n cap, .int .i64 M.most] 24) := ⟨_, rfl⟩
  obtain ⟨mb, hmb⟩ : ∃ mb, mb = w.heap.size := ⟨_, rfl⟩
  have hf1 : Fr (fun _ => False) w w1 := by rw [hw1]; exact Fr.alloc _ _
  have hbx : BoxE w1 mb M (.slice a M.n cap) := by rw [hw1, hmb]; exact BoxE.new w M _
  have hb1 : Below w.heap.size w w1 := hf1.below (Nat.le_refl _) (fun _ e => e.elim)
  have HVA := Lib.hid (evalid_any w1 (⟨_, rfl, hS.kept (gb_below hb1 none)⟩ : Em none w1 (.agg #[.slice a M.n cap, .int .i64 M.most]) M) hs (ht.below hb1 (Nat.le_refl _)))
  have m0 := hbx.c0
  have m1 := hbx.c1
  have HB1 := Lib.hid hb1; clear hb1 hf1
  have HBX := Lib.hid hbx; clear hbx
  have HSZ := Lib.hid hs; clear hs
  have HTB := Lib.hid ht; clear ht
  have HS := Lib.hid hS; clear hS
  have HX := Lib.hid hx; clear hx
  have HY := Lib.hid hy; clear hy
  go_enter Tryz.func17, Tryz.ntmps17
  go_wp2_with fail
  rw [← hw1, ← hmb]
  clear hw1
  have HMB := Lib.hid hmb; clear hmb
  refine HVA.out.mono ?_
  rintro rr w2 ⟨hb2, hrr⟩
  have HB2 := Lib.hid (HB1.out.trans (hb2.mono HB1.out.size))
  have HBX2 := Lib.hid (show BoxE w2 mb M (.slice a M.n cap) from (hb2.block mb HBX.out.lt).trans HBX.out)
  clear hb2 HVA m0 m1 HBX
  rcases hrr with ⟨hv, rfl⟩ | ⟨hv, rfl⟩
  rotate_left
  · have HV := Lib.hid hv; clear hv
    go_wp2_with fail
    go_ret2
    exact ⟨HB2.out, .inr ⟨fun h => HV.out h.1, rfl⟩⟩
  have HV := Lib.hid hv; clear hv
  by_cases hx2 : (200 : Int) < (na : Int)
  · have hno : isWord na x = false := by unfold isWord; rw [show decide (na ≤ 200) = false by simp; omega]; rfl
    have HNO := Lib.hid hno; clear hno
    go_wp2_with fail
    go_ret2
    exact ⟨HB2.out, .inr ⟨fun h => by rw [HNO.out] at h; exact absurd h.2.1 (by simp), rfl⟩⟩
  have hx2' : decide ((200 : Int) < (na : Int)) = false := by simp; omega
  have hna2 : na ≤ 200 := by omega
  by_cases hy2 : (200 : Int) < (nb : Int)
  · have hno : isWord nb y = false := by unfold isWord; rw [show decide (nb ≤ 200) = false by simp; omega]; rfl
    have HNO := Lib.hid hno; clear hno
    go_wp2_with fail
    go_ret2
    exact ⟨HB2.out, .inr ⟨fun h => by rw [HNO.out] at h; exact absurd h.2.2 (by simp), rfl⟩⟩
  have hy2' : decide ((200 : Int) < (nb : Int)) = false := by simp; omega
  have hnb2 : nb ≤ 200 := by omega
  have hwx : isWord na x = wordB na x 500 := by unfold isWord; rw [show decide (na ≤ 200) = true by simp; omega]; simp
  have hwy : isWord nb y = wordB nb y 500 := by unfold isWord; rw [show decide (nb ≤ 200) = true by simp; omega]; simp
  have HWX := Lib.hid hwx; clear hwx
  have HWY := Lib.hid hwy; clear hwy
  clear hx2 hy2
  have HSX := Lib.hid (symbols_any (sig := 500) w2 (HX.out.kept (gb_below HB2.out none)) hna)
  go_wp2_with fail
  refine HSX.out.mono ?_
  rintro rr w3 ⟨rfl, hb3⟩
  have HB3 := Lib.hid (HB2.out.trans (hb3.mono HB2.out.size))
  have HBX3 := Lib.hid (show BoxE w3 mb M (.slice a M.n cap) from (hb3.block mb HBX2.out.lt).trans HBX2.out)
  clear hb3 HSX HB2 HBX2
  cases hwb : wordB na x 500
  · have HWB := Lib.hid hwb; clear hwb
    go_wp2_with fail
    go_ret2
    exact ⟨HB3.out, .inr ⟨fun h => by rw [HWX.out, HWB.out] at h; exact absurd h.2.1 (by simp), rfl⟩⟩
  have HWBX := Lib.hid hwb; clear hwb
  have HSY := Lib.hid (symbols_any (sig := 500) w3 (HY.out.kept (gb_below HB3.out none)) hnb)
  go_wp2_with fail
  refine HSY.out.mono ?_
  rintro rr w4 ⟨rfl, hb4⟩
  have HB4 := Lib.hid (HB3.out.trans (hb4.mono HB3.out.size))
  have HBX4 := Lib.hid (show BoxE w4 mb M (.slice a M.n cap) from (hb4.block mb HBX3.out.lt).trans HBX3.out)
  clear hb4 HSY HB3 HBX3
  cases hwb : wordB nb y 500
  · have HWB := Lib.hid hwb; clear hwb
    go_wp2_with fail
    go_ret2
    exact ⟨HB4.out, .inr ⟨fun h => by rw [HWY.out, HWB.out] at h; exact absurd h.2.2 (by simp), rfl⟩⟩
  have HWBY := Lib.hid hwb; clear hwb
  clear hx2' hy2'
  obtain ⟨mn, hmn⟩ : ∃ mn : Nat, M.most = (mn : Int) := ⟨M.most.toNat, by have := HV.out.m0; omega⟩
  have hmn6 : mn ≤ 6 := by have := HV.out.m6; omega
  have m0 := HBX4.out.c0
  have m1 := HBX4.out.c1
  rw [hmn] at m1
  obtain ⟨n2, hn2⟩ : ∃ n2, n2 = na + 1 := ⟨_, rfl⟩
  obtain ⟨n3, hn3⟩ : ∃ n3, n3 = nb + 1 := ⟨_, rfl⟩
  have h2b : 1 ≤ n2 ∧ n2 ≤ 201 := by omega
  have h3b : 1 ≤ n3 ∧ n3 ≤ 201 := by omega
  have hmk2 := run_make_row' (P := Tryz.prog) 66 67 (.slice none 0 0) 24 Tryz.underlying66 info_strs rfl .i64 .i64 n2 (by omega) (by omega)
  have hmk3 := run_make_row' (P := Tryz.prog) 67 9 (.string ⟨#[]⟩) 16 Tryz.underlying67 info_str rfl .i64 .i64 n3 (by omega) (by omega)
  have hz2 : ((n2 : Nat) : Int) = (na : Int) + 1 := by omega
  have hz3 : ((n3 : Nat) : Int) = (nb : Int) + 1 := by omega
  rw [hz2] at hmk2
  rw [hz3] at hmk3
  have HN2 := Lib.hid hn2; clear hn2
  have HN3 := Lib.hid hn3; clear hn3
  have HZ2 := Lib.hid hz2; clear hz2
  have HZ3 := Lib.hid hz3; clear hz3
  obtain ⟨h21, h22⟩ := h2b
  obtain ⟨h31, h32⟩ := h3b
  obtain ⟨i0, hi0, hy0, hy1, hy2⟩ := info_parts2 info_strss
  have HI0 := Lib.hid hi0; clear hi0
  have HY0 := Lib.hid hy0; clear hy0
  have HY1 := Lib.hid hy1; clear hy1
  have HY2 := Lib.hid hy2; clear hy2
  obtain ⟨w5, hw5⟩ : ∃ w5, w5 = w4.alloc (.cells #[.slice a M.n cap, .int .i64 (mn : Int), .slice ax na cx, .slice ay nb cy, .slice none 0 0, .int .i64 0] 65) := ⟨_, rfl⟩
  obtain ⟨tb, htb⟩ : ∃ tb, tb = w4.heap.size := ⟨_, rfl⟩
  have hf5 : Fr (fun _ => False) w4 w5 := by rw [hw5]; exact Fr.alloc _ _
  have hbx5 : BoxE w5 mb M (.slice a M.n cap) := (hf5.block mb HBX4.out.lt (fun e => e)).trans HBX4.out
  have HTI := Lib.hid (show TbI w w5 tb 0 n2 n3 (.slice a M.n cap) (.slice ax na cx) (.slice ay nb cy) (mn : Int) (.slice none 0 0) (fun _ => 0) (fun _ _ => 0) from
    ⟨by rw [hw5, htb]; exact heap_alloc_new w4 _, World.ownsRow_nil _ _ _ _, ⟨fun q hq => absurd hq (Nat.not_lt_zero _), fun q i hq => absurd hq (Nat.not_lt_zero _), fun q i q' i' hq => absurd hq (Nat.not_lt_zero _)⟩, HB4.out.trans (hf5.below HB4.out.size (fun _ e => e.elim)), by rw [htb]; exact HB4.out.size⟩)
  have m1' := hbx5.c1
  rw [hmn] at m1'
  rw [hw5] at m1'
  have HBX5 := Lib.hid hbx5; clear hbx5 HBX4 hf5
  have HMN := Lib.hid hmn; clear hmn
  go_wp2_with fail
  rw [← hw5, ← htb]
  clear hw5 m0 m1 m1'
  have HTBZ := Lib.hid htb; clear htb
  go_loopw [49] (fun v49 wr => ∃ k : Nat, k ≤ mn + 1 ∧ v49 = .int .i64 (k : Int) ∧ ∃ lv r s, TbI w wr tb k n2 n3 (.slice a M.n cap) (.slice ax na cx) (.slice ay nb cy) (mn : Int) lv r s) (fun v49 _ => mn + 1 - (intOf v49).toNat)
  case atStart => exact ⟨0, Nat.zero_le _, rfl, _, _, _, HTI.out⟩
  case round =>
    obtain ⟨k, hk, rfl, lv, r, s, hti⟩ := hrel
    clear HTI HBX5
    have HTI := Lib.hid hti; clear hti
    by_cases hkt : k < mn + 1
    · have hkz : (k : Int) < (mn : Int) + 1 := by omega
      obtain ⟨sa, sc, hlv, _, _⟩ := row_any HTI.out.own
      subst hlv
      obtain ⟨wo, rfl⟩ : ∃ wo : World, wo = wr := ⟨_, rfl⟩
      obtain ⟨rb, hrb⟩ : ∃ rb, rb = wo.heap.size := ⟨_, rfl⟩
      obtain ⟨w6, hw6⟩ : ∃ w6, w6 = wo.alloc (.cells (madeCells #[.slice none 0 0] n2) 67) := ⟨_, rfl⟩
      have hf6 : Fr (fun _ => False) wo w6 := by rw [hw6]; exact Fr.alloc _ _
      have hrp : Rp w6 rb rb 0 n2 n3 (fun _ => 0) := by rw [hw6, hrb]; exact Rp.made wo n2 n3 _
      have HF6 := Lib.hid hf6; clear hf6
      have HRP := Lib.hid hrp; clear hrp
      go_wp2_with fail
      rw [← hw6, ← hrb]
      clear hw6
      have HRB := Lib.hid hrb; clear hrb
      go_loopw [57] (fun v57 wq => ∃ i : Nat, i ≤ n2 ∧ v57 = .int .i64 (i : Int) ∧ Fr (fun _ => False) wo wq ∧ ∃ f, Rp wq rb rb i n2 n3 f) (fun v57 _ => n2 - (intOf v57).toNat)
      case atStart => exact ⟨0, Nat.zero_le _, rfl, HF6.out, _, HRP.out⟩
      case round =>
        obtain ⟨i, hi, rfl, hfq, f, hrp⟩ := hrel
        clear HF6 HRP
        have HFQ := Lib.hid hfq; clear hfq
        have HRP := Lib.hid hrp; clear hrp
        by_cases hit : i < n2
        · have hiz : (i : Int) < (n2 : Int) := by omega
          have hiz0 : (0 : Int) ≤ (i : Int) := by omega
          have hlt : rb < wr.heap.size := HRP.out.tab.lt
          have c0 := HRP.out.tab.cell hit
          rw [if_neg (Nat.lt_irrefl i)] at c0
          have f0 := HRP.out.tab.frozen i
          have hnx := HRP.out.next (by omega)
          have hfx : Fr (fun _ => False) wo ((wr.alloc (.cells (madeCells #[.string ⟨#[]⟩] n3) 9)).setCell ⟨rb, i, none⟩ (.slice (some ⟨wr.heap.size, 0, none⟩) n3 n3)) := (HFQ.out.trans (Fr.alloc _ _)).set (p := ⟨rb, i, none⟩) (.inr (by show wo.heap.size ≤ rb; rw [HRB.out]; exact Nat.le_refl _)) _
          rw [World.setCell_alloc_past _ _ _ _ hlt] at hnx hfx
          have HNX := Lib.hid hnx; clear hnx
          have HFX := Lib.hid hfx; clear hfx
          go_wp2_with fail
          go_roundw
          case rel => exact ⟨i + 1, by omega, by go_num, HFX.out, _, HNX.out⟩
          case measure => simp [intOf]; omega
        · have hin : i = n2 := by omega
          have hgt : ¬ ((i : Int) < (n2 : Int)) := by omega
          have hrp := HRP.out
          rw [hin] at hrp
          have HRP2 := Lib.hid hrp; clear hrp HRP hin
          have hti := HTI.out.new HFQ.out
          have c4 : wr.cell? ⟨tb, 4, none⟩ = some (.slice sa k sc) := cell_of hti.blk 4 rfl
          have HT2 := Lib.hid hti; clear hti
          have hsz : w.heap.size ≤ wr.heap.size := HT2.out.be.size
          have hadd : ∀ (we : World) (go cp : Nat) (o : Obj), we.ownsRow w.heap.size 66 1 (.slice (some ⟨go, 0, none⟩) (k + 1) cp) (k + 1) (gvs k (fun q => .slice (some ⟨r q, 0, none⟩) n2 n2) ++ [.slice (some ⟨rb, 0, none⟩) n2 n2]) → (wr.alloc o).grownBy we (Value.slice sa k sc).ownBlock →
              (∃ lv r s, TbI w (we.setCell ⟨tb, 4, none⟩ (.slice (some ⟨go, 0, none⟩) (k + 1) cp)) tb (k + 1) n2 n3 (.slice a M.n cap) (.slice ax na cx) (.slice ay nb cy) (mn : Int) lv r s) ∧ we.cell? ⟨tb, 4, none⟩ = some (.slice sa k sc) ∧ we.frozen? ⟨tb, 4, none⟩ = false := fun we go cp o h1 h2 => by
            have h3 := HT2.out.new (Fr.alloc wr o)
            have h4 : we.heap[tb]? = some (.cells #[.slice a M.n cap, .int .i64 (mn : Int), .slice ax na cx, .slice ay nb cy, .slice sa k sc, .int .i64 0] 65 (0, 0)) := (h2.block tb (lt_of_block h3.blk) (fun e => own_blk h3.own h3.blk (by decide) e.symm)).trans h3.blk
            exact ⟨⟨_, _, _, HTI.out.add HFQ.out (by rw [← HRB.out]; exact HRP2.out) h1 h2⟩, cell_of h4 4 rfl, by simp [World.frozen?, h4]⟩
          have HADD := Lib.hid hadd; clear hadd
          go_wp2_with (at_builtin; refine wpList_append_lies _ rfl (.tmp 72) (.tmp 74) 63 rfl w.heap.size 66 i0 (.slice none 0 0) 1 24 Tryz.underlying63 HI0.out HY0.out HY1.out HY2.out rfl (by omega) (.slice sa k sc) k _ (by first | rfl | simp [Act.eval, Act.put]) (World.ownsRow.alloc HT2.out.own _) ⟨wr.heap.size, 0, none⟩ 1 1 [.slice (some ⟨rb, 0, none⟩) n2 n2] (by first | rfl | simp [Act.eval, Act.put]) rfl (news_st (cs := #[.slice (some ⟨rb, 0, none⟩) n2 n2]) (heap_alloc_new wr _)) one_sl (by omega) (by unfold maxLen; omega) (by omega) (by simp; omega) _ rfl ?_; intro go cp we hown2 hgrow hat hlt; obtain ⟨hT, e4, f4⟩ := HADD.out we go cp _ hown2 hgrow; have HT3 := Lib.hid hT; clear hT hown2 hgrow hat hlt)
          go_roundw
          case rel => exact ⟨k + 1, by omega, by go_num, HT3.out⟩
          case measure => simp [intOf]; omega
    · have hkz : ¬ ((k : Int) < (mn : Int) + 1) := by omega
      have hkn : k = mn + 1 := by omega
      have hti := HTI.out
      rw [hkn] at hti
      obtain ⟨g, gc, hlv, hcu, htm⟩ := hti.cu (by omega)
      have hbe := hti.be
      have hlow := hti.low
      clear hti hkn
      have hmt : mn + 1 = M.most.toNat + 1 := by have := HMN.out; omega
      obtain ⟨n1, hn1⟩ : ∃ n1, n1 = mn + 1 := ⟨_, rfl⟩
      have h11 : 1 ≤ n1 ∧ n1 ≤ 7 := by omega
      obtain ⟨h11, h12⟩ := h11
      rw [← hn1] at hlv hcu htm hmt
      subst hlv
      have hz1 : ((n1 : Nat) : Int) = (mn : Int) + 1 := by omega
      have hst : StC w (wr.setCell ⟨s 0 0, 0, none⟩ (.string ⟨#[48]⟩)) tb g gc n1 n2 n3 r s (.slice a M.n cap) (.slice ax na cx) (.slice ay nb cy) (mn : Int) (X0, 0) := by
        have h1 := hcu.set (k := 0) (i := 0) (j := 0) (v := ⟨#[48]⟩) (by omega) (by omega) (by unfold smS; decide)
        rw [updX_X0] at h1
        have hne : s 0 0 ≠ tb := rowIs_blk (hcu.row 0 0 (by omega) (by omega)).1 htm.blk (by decide)
        refine ⟨h1, ⟨(blk_setCell_other _ _ _ _ (fun e => hne e.symm)).trans htm.blk⟩, hbe.setCell (hcu.row 0 0 (by omega) (by omega)).2 _⟩
      obtain ⟨-, -, -, -, c4, -⟩ := htm.cells
      have d1 := hcu.c1 (k := 0) (by omega)
      have d2 := hcu.c2 (k := 0) (i := 0) (by omega) (by omega)
      have d3 := hcu.c3 (k := 0) (i := 0) (j := 0) (by omega) (by omega) (by omega)
      have f3 := (hcu.row 0 0 (by omega) (by omega)).1.frozen 0
      have hg1 : (0 : Int) < (n1 : Int) := by omega
      have hg2 : (0 : Int) < (n2 : Int) := by omega
      have hg3 : (0 : Int) < (n3 : Int) := by omega
      obtain ⟨r0, hr0⟩ : ∃ r0, r0 = r 0 := ⟨_, rfl⟩
      obtain ⟨s0, hs0⟩ : ∃ s0, s0 = s 0 0 := ⟨_, rfl⟩
      rw [← hr0] at d1 d2
      rw [← hs0] at d2 d3 f3 hst
      obtain ⟨-, -, -, -, c4', -⟩ := hst.tm.cells
      clear hr0 hs0 hcu htm hbe hmk2 hmk3
      have HST := Lib.hid hst; clear hst
      have HLOW := Lib.hid hlow; clear hlow
      have HMT := Lib.hid hmt; clear hmt
      have HN1 := Lib.hid hn1; clear hn1
      have HZ1 := Lib.hid hz1; clear hz1
      clear HTI hk hkt
      obtain ⟨wa, hwa⟩ : ∃ wa, wa = wr.setCell ⟨s0, 0, none⟩ (.string ⟨#[48]⟩) := ⟨_, rfl⟩
      rw [← hwa] at HST
      have hmf : ∀ (fn : Fn) (first cap : Array Value) (w : World), (Instr.makeFunc fn first cap).run Tryz.prog w = .ok (.func fn first cap) w := fun _ _ _ _ => rfl
      go_wp2_with fail
      rw [← hwa]
      clear hwa d1 d2 d3 f3 c4 c4' hg1 hg2 hg3
      obtain ⟨P, hP⟩ : ∃ P : EP, P = ⟨M, na, x, nb, y⟩ := ⟨_, rfl⟩
      go_loopw [95] (fun v95 wr => ∃ k : Nat, k ≤ n1 ∧ v95 = .int .i64 (k : Int) ∧ StC w wr tb g gc n1 n2 n3 r s (.slice a M.n cap) (.slice ax na cx) (.slice ay nb cy) (mn : Int) (tabP P k (X0, 0))) (fun v95 _ => n1 - (intOf v95).toNat)
      case atStart => exact ⟨0, Nat.zero_le _, rfl, HST.out⟩
      case round =>
        obtain ⟨k, hk, rfl, hst⟩ := hrel
        clear HST
        have HST := Lib.hid hst; clear hst
        obtain ⟨-, -, -, -, c4, -⟩ := HST.out.tm.cells
        by_cases hkt : k < n1
        · have hkz : (k : Int) < (n1 : Int) := by omega
          have hkz0 : (0 : Int) ≤ (k : Int) := by omega
          have d1 := HST.out.cu.c1 hkt
          obtain ⟨z1, hz1⟩ : ∃ z1, z1 = tabP P k (X0, 0) := ⟨_, rfl⟩
          have hnx : tabP P (k + 1) (X0, 0) = rowP P k (P.a + 1) z1 := by rw [hz1]; rfl
          have HNX := Lib.hid hnx; clear hnx
          rw [← hz1] at HST
          clear hz1
          go_wp2_with fail
          clear c4 d1
          go_loopw [106] (fun v106 wr => ∃ i : Nat, i ≤ n2 ∧ v106 = .int .i64 (i : Int) ∧ StC w wr tb g gc n1 n2 n3 r s (.slice a M.n cap) (.slice ax na cx) (.slice ay nb cy) (mn : Int) (rowP P k i z1)) (fun v106 _ => n2 - (intOf v106).toNat)
          case atStart => exact ⟨0, Nat.zero_le _, rfl, HST.out⟩
          case round =>
            obtain ⟨i, hi, rfl, hst⟩ := hrel
            clear HST
            have HST := Lib.hid hst; clear hst
            obtain ⟨-, -, -, -, c4, -⟩ := HST.out.tm.cells
            by_cases hit : i < n2
            · have hiz : (i : Int) < (n2 : Int) := by omega
              have hiz0 : (0 : Int) ≤ (i : Int) := by omega
              have d1 := HST.out.cu.c1 hkt
              have d2 := HST.out.cu.c2 hkt hit
              obtain ⟨z2, hz2⟩ : ∃ z2, z2 = rowP P k i z1 := ⟨_, rfl⟩
              have hnx : rowP P k (i + 1) z1 = colP P k i (P.b + 1) z2 := by rw [hz2]; rfl
              have HNX2 := Lib.hid hnx; clear hnx
              rw [← hz2] at HST
              clear hz2
              go_wp2_with fail
              clear c4 d1 d2
              go_loopw [120] (fun v120 wr => ∃ j : Nat, j ≤ n3 ∧ v120 = .int .i64 (j : Int) ∧ StC w wr tb g gc n1 n2 n3 r s (.slice a M.n cap) (.slice ax na cx) (.slice ay nb cy) (mn : Int) (colP P k i j z2)) (fun v120 _ => n3 - (intOf v120).toNat)
              case atStart => exact ⟨0, Nat.zero_le _, rfl, HST.out⟩
              case round =>
                obtain ⟨j, hj, rfl, hst⟩ := hrel
                clear HST
                have HST := Lib.hid hst; clear hst
                by_cases hjt : j < n3
                · have hjz : (j : Int) < (n3 : Int) := by omega
                  have hjz0 : (0 : Int) ≤ (j : Int) := by omega
                  obtain ⟨z3, hz3⟩ : ∃ z3, z3 = colP P k i j z2 := ⟨_, rfl⟩
                  have hnx : colP P k i (j + 1) z2 = stpC P (k, i, j) z3 := by rw [hz3]; rfl
                  rw [← hz3] at HST
                  clear hz3
                  have hstp : Calls Tryz.prog 43 #[.pointer (some ⟨tb, 0, none⟩), plV k i j] wr (ReaE w.heap.size tb g gc n1 n2 n3 r s (.slice a M.n cap) (.slice ax na cx) (.slice ay nb cy) (mn : Int) (stpC P (k, i, j) z3) wr) := by
                    have hcu := HST.out.cu
                    have htm := HST.out.tm
                    have h1 := HMT.out
                    have h2 := HN2.out
                    have h3 := HN3.out
                    have h4 := HMN.out
                    subst h2 h3 hP
                    rw [h1] at hcu htm hkt ⊢
                    rw [← h4] at htm ⊢
                    exact estep_any wr hcu htm HV.out HSZ.out HS.out HX.out HY.out HST.out.be (Nat.le_refl _) HLOW.out hkt hit hjt HTB.out
                  unfold plV at hstp
                  have HNX3 := Lib.hid hnx; clear hnx
                  have HSTP := Lib.hid hstp; clear hstp
                  have hen := enterStep
                  go_wp2_with fail
                  refine HSTP.out.mono ?_
                  rintro rr w8 hre
                  have HS8 := Lib.hid (HST.out.rea HLOW.out hre)
                  obtain rfl := hre.1
                  clear hre HST HSTP
                  go_wp2_with fail
                  go_roundw
                  case rel => exact ⟨j + 1, by omega, by go_num, by rw [HNX3.out]; exact HS8.out⟩
                  case measure => simp [intOf]; omega
                · have hjn : j = n3 := by omega
                  have hgt : ¬ ((j : Int) < (n3 : Int)) := by omega
                  have hst := HST.out
                  have hb1 : n3 = P.b + 1 := by rw [hP]; exact HN3.out
                  rw [hjn, hb1] at hst
                  rw [← HNX2.out] at hst
                  rw [← hb1] at hst
                  have HS8 := Lib.hid hst; clear hst hb1 hjn
                  go_wp2_with fail
                  go_roundw
                  case rel => exact ⟨i + 1, by omega, by go_num, HS8.out⟩
                  case measure => simp [intOf]; omega
            · have hin : i = n2 := by omega
              have hgt : ¬ ((i : Int) < (n2 : Int)) := by omega
              have hst := HST.out
              have hb1 : n2 = P.a + 1 := by rw [hP]; exact HN2.out
              rw [hin, hb1] at hst
              rw [← HNX.out] at hst
              rw [← hb1] at hst
              have HS8 := Lib.hid hst; clear hst hb1 hin
              clear c4
              go_wp2_with fail
              go_roundw
              case rel => exact ⟨k + 1, by omega, by go_num, HS8.out⟩
              case measure => simp [intOf]; omega
        · have hkn : k = n1 := by omega
          have hgt : ¬ ((k : Int) < (n1 : Int)) := by omega
          have hst := HST.out
          rw [hkn] at hst
          obtain ⟨z, hz⟩ : ∃ z, z = tabP P n1 (X0, 0) := ⟨_, rfl⟩
          rw [← hz] at hst
          have hco : costC ⟨M, na, x, nb, y⟩ = if z.2 ≠ 0 then (⟨#[]⟩, z.2) else (lstS z.1 na nb n1, 0) := by
            rw [hz, HMT.out, hP]; rfl
          have HCO := Lib.hid hco; clear hco
          have HSTZ := Lib.hid hst; clear hst HST hz c4
          obtain ⟨-, -, -, -, c4, c5⟩ := HSTZ.out.tm.cells
          have HWXX := Lib.hid (HWX.out.trans HWBX.out)
          have HWYY := Lib.hid (HWY.out.trans HWBY.out)
          by_cases he : z.2 = 0
          rotate_left
          · have hez : ¬ ((z.2 : Int) = 0) := by omega
            have HC2 := Lib.hid (HCO.out.trans (if_pos he))
            clear he
            go_wp2_with fail
            go_quiet (fail)
            go_wp2_with fail
            go_ret2
            exact ⟨below_drewN HSTZ.out.be _, .inl ⟨HV.out, HWXX.out, HWYY.out, by rw [HC2.out]; rfl⟩⟩
          · have hez : (z.2 : Int) = 0 := by omega
            have HC2 := Lib.hid (HCO.out.trans (if_neg (by omega)))
            clear he
            rw [hez] at c5
            clear hez
            go_wp2_with fail
            clear c4 c5
            go_loopw [146, 6] (fun v146 v6 wr => ∃ q : Nat, q ≤ n1 ∧ v146 = .int .i64 (q : Int) ∧ v6 = .string (lstS z.1 na nb q) ∧ StC w wr tb g gc n1 n2 n3 r s (.slice a M.n cap) (.slice ax na cx) (.slice ay nb cy) (mn : Int) z) (fun v146 _ _ => n1 - (intOf v146).toNat)
            case atStart => exact ⟨0, Nat.zero_le _, rfl, rfl, HSTZ.out⟩
            case round =>
              obtain ⟨q, hq, rfl, rfl, hst⟩ := hrel
              clear HSTZ
              have HST := Lib.hid hst; clear hst
              by_cases hqt : q < n1
              · have hqz : (q : Int) < (n1 : Int) := by omega
                have hqz0 : (0 : Int) ≤ (q : Int) := by omega
                have hlx : na < n2 := by have := HN2.out; omega
                have hly : nb < n3 := by have := HN3.out; omega
                have hlxz : (na : Int) < (n2 : Int) := by omega
                have hlyz : (nb : Int) < (n3 : Int) := by omega
                have hlxz0 : (0 : Int) ≤ (na : Int) := by omega
                have hlyz0 : (0 : Int) ≤ (nb : Int) := by omega
                have d1 := HST.out.cu.c1 hqt
                have d2 := HST.out.cu.c2 hqt hlx
                have d3 := HST.out.cu.c3 hqt hlx hly
                have e1 : wr.cell? ⟨g, q, none⟩ = some (.slice (some ⟨r q, 0, none⟩) n2 n2) := d1
                obtain ⟨rq, hrq⟩ : ∃ rq, rq = r q := ⟨_, rfl⟩
                obtain ⟨sq, hsq⟩ : ∃ sq, sq = s q na := ⟨_, rfl⟩
                obtain ⟨X, hX⟩ : ∃ X, X = z.1 q na nb := ⟨_, rfl⟩
                obtain ⟨L, hL⟩ : ∃ L, L = lstS z.1 na nb q := ⟨_, rfl⟩
                rw [← hrq] at d1 d2
                rw [← hsq] at d2 d3
                rw [← hX] at d3
                have hnx : lstS z.1 na nb (q + 1) = if X ≠ ⟨#[]⟩ ∧ (L = infS ∨ qcmpF X L < 0) then X else L := by rw [hX, hL]; rfl
                have hsm : smS X := by rw [hX]; exact HST.out.cu.sm _ _ _
                rw [← hL]
                have HNX := Lib.hid hnx; clear hnx
                have HSM := Lib.hid hsm; clear hsm
                clear hrq hsq hX e1
                have HL := Lib.hid hL; clear hL
                cases hO : (X.toList == [])
                · cases hI : (L.toList == [105, 110, 102])
                  · have HCM := Lib.hid (qcmp_any X L wr HSM.out (by rw [HL.out]; exact lstS_sm HST.out.cu.sm _ _ _) (HTB.out.below HST.out.be (Nat.le_refl _)))
                    have hX1 : X ≠ ⟨#[]⟩ := fun e => by rw [e] at hO; simp at hO
                    have hL1 : L ≠ infS := fun e => by rw [e] at hI; rw [inf_list] at hI; simp at hI
                    have HX1 := Lib.hid hX1; clear hX1
                    have HL1 := Lib.hid hL1; clear hL1
                    go_wp2_with fail
                    refine HCM.out.mono ?_
                    rintro rr w9 ⟨rfl, hb9⟩
                    have HS9 := Lib.hid (HST.out.new (Fr.of_below hb9))
                    clear hb9 HCM
                    by_cases hc : qcmpF X L < 0
                    · have HN := Lib.hid (HNX.out.trans (if_pos ⟨HX1.out, .inr hc⟩))
                      go_wp2_with fail
                      go_roundw
                      case rel => exact ⟨q + 1, by omega, by go_num, by rw [HN.out], HS9.out⟩
                      case measure => simp [intOf]; omega
                    · have HN := Lib.hid (HNX.out.trans (if_neg (fun h => by rcases h.2 with h | h; exact HL1.out h; exact hc h)))
                      go_wp2_with fail
                      go_roundw
                      case rel => exact ⟨q + 1, by omega, by go_num, by rw [HN.out], HS9.out⟩
                      case measure => simp [intOf]; omega
                  · have hX1 : X ≠ ⟨#[]⟩ := fun e => by rw [e] at hO; simp at hO
                    have HN := Lib.hid (HNX.out.trans (if_pos ⟨hX1, .inl (toList_eq (by rw [inf_list]; exact hI))⟩)); clear hX1
                    go_wp2_with fail
                    go_roundw
                    case rel => exact ⟨q + 1, by omega, by go_num, by rw [HN.out], HST.out⟩
                    case measure => simp [intOf]; omega
                · have hX0 : X = ⟨#[]⟩ := empty_eq hO
                  have HN := Lib.hid (HNX.out.trans (if_neg (fun h => h.1 hX0))); clear hX0
                  go_wp2_with fail
                  go_roundw
                  case rel => exact ⟨q + 1, by omega, by go_num, by rw [HN.out], HST.out⟩
                  case measure => simp [intOf]; omega
              · have hqn : q = n1 := by omega
                have hgt : ¬ ((q : Int) < (n1 : Int)) := by omega
                rw [hqn]
                go_wp2_with fail
                go_ret2
                exact ⟨HST.out.be, .inl ⟨HV.out, HWXX.out, HWYY.out, by rw [HC2.out]; rfl⟩⟩
end Go.Proofs.YtjekapjbigfkbaaGreatDoor
